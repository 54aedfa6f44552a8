/- Packed texts of this claim: the walks of the functions, and their plain laws; see the claim's last text. -/
import Derived.Test.YtapjfnfengefpaaKMachineEnds2
section
namespace Go.Proofs.Ytapjfnfengefpaa.P
open Go.RowKit Go.Proofs.YtapjfnfengefpaaW.PrintWords Go.Proofs.YtapjfnfengefpaaW.PrintLast Go.Proofs.YtapjfnfengefpaaW.PrintMore
attribute [local go_sem] max2_int min2_int max_two min_two max_three min_three max_four min_four   -- for this text's walks alone
set_option linter.unusedVariables false
set_option linter.unusedSimpArgs false
mutual
def regletlaw14_Clear.l0:Nat→Int→List ByteArray→List (S72)→Int→Int→List (S35)→Option (List ByteArray×(List (S72))×Int×Int×(List (S35)))
 |0,_,_,_,_,_,_=>none
 |k+1,x4,x494000,x494001,x494002,x494003,x494004=>if x4<(x494004.length:Int) then(if x494001.length<1353245080339 then(regletlaw14_Clear.l1 k x4 ([]:List (S43)) 0 x494000 (x494001++ [(⟨(⟨#[]⟩:ByteArray),(⟨6,(⟨#[]⟩:ByteArray),(([wrap64 (97+x4)]:List Int)),0,0,([]:List (S70))⟩:S70)⟩:S72)]) x494002 x494003 x494004) else(none)) else(regletlaw14_Clear.l2 k 0 x494000 x494001 x494002 x494003 x494004)
def regletlaw14_Clear.l1:Nat→Int→List (S43)→Int→List ByteArray→List (S72)→Int→Int→List (S35)→Option (List ByteArray×(List (S72))×Int×Int×(List (S35)))
 |0,_,_,_,_,_,_,_,_=>none
 |k+1,x4,x5,x6,x494000,x494001,x494002,x494003,x494004=>if 0≤x4 then(if x4<(x494004.length:Int) then(if x6<(((rd_T35 x494004 x4).f1).length:Int) then(if 0≤x6 then(if(rd_T43 ((rd_T35 x494004 x4).f1) x6).f0=true then(if(x494004.length:Int)=0 then(none) else(if x5.length<8796093022208 then(regletlaw14_Clear.l1 k x4 (x5++ [(⟨(rd_T43 ((rd_T35 x494004 x4).f1) x6).f0,Int.tmod ((rd_T43 ((rd_T35 x494004 x4).f1) x6).f1) (x494004.length:Int)⟩:S43)]) (wrap64 (x6+1)) x494000 x494001 x494002 x494003 x494004) else(none))) else(if x5.length<8796093022208 then(regletlaw14_Clear.l1 k x4 (x5++ [(⟨(rd_T43 ((rd_T35 x494004 x4).f1) x6).f0,(rd_T43 ((rd_T35 x494004 x4).f1) x6).f1⟩:S43)]) (wrap64 (x6+1)) x494000 x494001 x494002 x494003 x494004) else(none))) else(none)) else(if(x5.length:Int)>0 then(if 0<(x5.length:Int) then(regletlaw14_Clear.l0 k (wrap64 (x4+1)) x494000 x494001 x494002 x494003 (x494004.set (x4:Int).toNat (⟨(rd_T35 x494004 x4).f0,(x5.set (0:Int).toNat (⟨true,x4⟩:S43))⟩:S35))) else(none)) else(regletlaw14_Clear.l0 k (wrap64 (x4+1)) x494000 x494001 x494002 x494003 (x494004.set (x4:Int).toNat (⟨(rd_T35 x494004 x4).f0,x5⟩:S35))))) else(none)) else(none)
def regletlaw14_Clear.l2:Nat→Int→List ByteArray→List (S72)→Int→Int→List (S35)→Option (List ByteArray×(List (S72))×Int×Int×(List (S35)))
 |0,_,_,_,_,_,_=>none
 |k+1,x8,x494000,x494001,x494002,x494003,x494004=>if x8<(x494004.length:Int) then(regletlaw14_Clear.l3 k x8 0 x494000 x494001 x494002 x494003 x494004) else(some (x494000,x494001,x494002,x494003,x494004))
def regletlaw14_Clear.l3:Nat→Int→Int→List ByteArray→List (S72)→Int→Int→List (S35)→Option (List ByteArray×(List (S72))×Int×Int×(List (S35)))
 |0,_,_,_,_,_,_,_=>none
 |k+1,x8,x9,x494000,x494001,x494002,x494003,x494004=>if 0≤x8 then(if x8<(x494004.length:Int) then(if x9<(((rd_T35 x494004 x8).f1).length:Int) then(if 0≤x9 then(if(rd_T43 ((rd_T35 x494004 x8).f1) x9).f0=true then(if(x494001.length:Int)=0 then(none) else(regletlaw14_Clear.l3 k x8 (wrap64 (x9+1)) x494000 x494001 x494002 x494003 (x494004.set (x8:Int).toNat (⟨(rd_T35 x494004 x8).f0,(((rd_T35 x494004 x8).f1).set (x9:Int).toNat (⟨(rd_T43 ((rd_T35 x494004 x8).f1) x9).f0,Int.tmod ((rd_T43 ((rd_T35 x494004 x8).f1) x9).f1) (x494001.length:Int)⟩:S43))⟩:S35)))) else(regletlaw14_Clear.l3 k x8 (wrap64 (x9+1)) x494000 x494001 x494002 x494003 x494004)) else(none)) else(regletlaw14_Clear.l2 k (wrap64 (x8+1)) x494000 x494001 x494002 x494003 x494004)) else(none)) else(none)
end
def regletlaw14_Clear.f (k:Nat) (l0:List Int):Option (List ByteArray×(List (S72))×Int×Int×(List (S35))):=(regletlaw13_Made.f k l0).bind fun bt482=>(regletlaw14_Clear.l0 k 0 bt482.1 ([]:List (S72)) bt482.2.2.1 bt482.2.2.2.1 bt482.2.2.2.2)
def regletlaw14_Clear.T25:Bool×List (List Nat×List Nat):=(true,[([],[]),([0],[0]),([],[]),([1,2],[1,2]),([3],[3]),([4],[4]),([],[]),([],[]),([7],[7]),([],[]),([8,9],[8,9]),([10],[10]),([11],[11]),([],[]),([12,13],[12,13]),([14],[14]),([15],[15]),([],[]),([17],[17]),([18],[18]),([16,19],[16,19]),([5,6,0,1,2,3,4,5,6,7,8,9,10,11,12,13,14,15,16,17,18,19,20],[5,6]),([21,0,1,2,3,4,5,6,7,8,9,10,11,12,13,14,15,16,17,18,19,20],[21]),([22,20,0,1,2,3,4,5,6,7,8,9,10,11,12,13,14,15,16,17,18,19,20],[20,22])])
def regletlaw14_Clear.B25:List Nat:= [0,1,0,7,15,31,0,0,128,0,896,1920,3968,0,16256,32640,65408,0,131072,393216,1048448,2097151,4194303,8388607]
theorem regletlaw14_Clear.tab25:rtab .any (opsOf Try.f19 25)=regletlaw14_Clear.T25:=by kernel_rfl
theorem regletlaw14_Clear.bits25:waitsOk regletlaw14_Clear.T25.2 regletlaw14_Clear.B25=true:=by kernel_rfl
set_option maxHeartbeats 8000000 in
set_option maxRecDepth 100000 in
theorem regletlaw14_Clear.calls (k:Nat) (A0:Option Addr) (c0:Nat) (l0:List Int) (r1:List ByteArray) (r2:List (S72)) (r3:Int) (r4:Int) (r5:List (S35)) (w:World) (hr0:Kd.C (Kd.int .u8) w A0 l0.length l0) (hc0:l0.length≤c0) (h:regletlaw14_Clear.f k l0=some (r1,r2,r3,r4,r5)):
 Calls Try.prog 19 #[.slice A0 l0.length c0] w fun e w'=>∃v0_ v1_ v4_:Value,e= .returned (.agg #[v0_,v1_,.int .i64 r3,.int .i64 r4,v4_])∧Kd.R Kd.string 9 w' w.heap.size (fun _=>True) v0_ r1∧Kd.R k72 72 w' w.heap.size (fun _=>True) v1_ r2∧Kd.S k35 35 w' w.heap.size (fun _=>True) v4_ r5∧Below w.heap.size w w':=by
 have hu26:=Try.underlying26
 have hu70:=Try.underlying70
 have hu72:=Try.underlying72
 have hu43:=Try.underlying43
 have HR0:=aM hr0
 have HC0:=aM hc0
 clear hr0 hc0
 have HB:=aM (Below.refl w.heap.size w)
 have H:((regletlaw13_Made.f k l0).bind fun bt482=>(regletlaw14_Clear.l0 k 0 bt482.1 ([]:List (S72)) bt482.2.2.1 bt482.2.2.2.1 bt482.2.2.2.2))=some (r1,r2,r3,r4,r5):=h
 clear h
 replace H:=Option.bind_eq_some_iff.mp H
 obtain⟨⟨t482,t485,t488,t489,t490⟩,A20,H⟩:=H
 replace H:(regletlaw14_Clear.l0 k 0 t482 ([]:List (S72)) t488 t489 t490)=some (r1,r2,r3,r4,r5):=H
 have A2:=aM A20
 clear A20
 have H':=aM H
 clear H
 go_enter Try.func19,Try.ntmps19
 go_wp2_with (first|((with_reducible refine bJ (N:=2) rfl ?_);refine box_event ?hg (N:=2) ?hd (cs:=#[.slice none 0 0,.slice none 0 0,.int .i64 0,.int .i64 0,.slice none 0 0]) (t:=26) ?hr ?_;(case hd=>rfl);(case hg=>rfl);(case hr=>first|(go_simp;done)|(go_simp;rfl));intro gb481 hg w3 hbox hb;have n0_:=aM (bG (by repeat(first|(with_reducible first|exact HB.out|apply aN|apply aP|apply aO)|exact HB.out)) hb);have n1_:=aM (hbox);have n2_:=aM ((by rw [hg];exact(bH (by repeat(first|(with_reducible first|exact HB.out|apply aN|apply aP|apply aO)|exact HB.out))):w.heap.size≤gb481));have n3_:=aM ((by rw [hg];exact(bH (by repeat(first|(with_reducible first|exact HB.out|apply aN|apply aP|apply aO)|exact HB.out))):w.heap.size≤gb481));clear HB;have HB:=n0_;have BK481:=n1_;have GW481:=n2_;have GE481:=n3_;clear n0_ n1_ n2_ n3_;clear hb hbox hg)|((with_reducible refine bI (f:=13) rfl ?_);refine goesL_ (some 11) rfl rfl Try.func13 (by kernel_rfl) rfl #[.slice A0 l0.length c0] rfl (by(try simp only [List.map_toArray,List.map_cons,List.map_nil]);first|done|rfl|(simp only [List.length_drop,List.length_take];rfl)) ?_;(with_reducible refine(regletlaw13_Made.calls k _ _ l0 t482 t485 t488 t489 t490 _ ?side1 ?side2 A2.out).mono ?_);(case side1=>repeat(first|exact(bD HR0.out HB.out)|(with_reducible refine Kd.C_alloc ?_ _)|(with_reducible refine Kd.C_drewN ?_ _)|(with_reducible refine bC ?_)));(case side2=>exact HC0.out);rintro e w4 ⟨v483,v486,v491,rfl,ho0,ho1,ho2,hb⟩;refine⟨_,rfl,?_⟩;have n0_:=aM (bL ho0 (bH (by repeat(first|(with_reducible first|exact HB.out|apply aN|apply aP|apply aO|refine aL ?_ GE481.out)|exact HB.out))));have n1_:=aM (bL ho1 (bH (by repeat(first|(with_reducible first|exact HB.out|apply aN|apply aP|apply aO|refine aL ?_ GE481.out)|exact HB.out))));have n2_:=aM (Kd.S_lower ho2 (bH (by repeat(first|(with_reducible first|exact HB.out|apply aN|apply aP|apply aO|refine aL ?_ GE481.out)|exact HB.out))));have n3_:=aM (bF (g:=gb481) (o:= .cells #[.slice none 0 0,.slice none 0 0,.int .i64 0,.int .i64 0,.slice none 0 0] 26 (0,0)) (by(with_reducible repeat(first|refine aJ ?_ _|refine aK ?_|refine aI ?_ _));exact BK481.out) hb);have n4_:=aM (bG (by repeat(first|(with_reducible first|exact HB.out|apply aN|apply aP|apply aO|refine aL ?_ GE481.out)|exact HB.out)) hb);clear BK481;clear HB;have HO484:=n0_;have HO487:=n1_;have HO492:=n2_;have BK481:=n3_;have HB:=n4_;clear n0_ n1_ n2_ n3_ n4_;(try clear hb);(try clear hb2);(try clear hk);(try clear hi);(try clear ho0);(try clear ho1);(try clear ho2))|((with_reducible refine bJ (N:=3) rfl ?_);refine box_event ?hg (N:=3) ?hd (cs:=#[.slice none 0 0,.slice none 0 0,.int .i64 0,.int .i64 0,.slice none 0 0]) (t:=26) ?hr ?_;(case hd=>rfl);(case hg=>rfl);(case hr=>first|(go_simp;done)|(go_simp;rfl));intro gb493 hg w5 hbox hb;have n0_:=aM (aD (by(with_reducible repeat(first|apply aA|apply aB|apply aC));exact HO484.out) hb);have n1_:=aM (aD (by(with_reducible repeat(first|apply aA|apply aB|apply aC));exact HO487.out) hb);have n2_:=aM (Kd.S_below (by(with_reducible repeat(first|apply Kd.S_alloc|apply aV|apply aW));exact HO492.out) hb);have n3_:=aM (bF (g:=gb481) (o:= .cells #[.slice none 0 0,.slice none 0 0,.int .i64 0,.int .i64 0,.slice none 0 0] 26 (0,0)) (by(with_reducible repeat(first|refine aJ ?_ _|refine aK ?_|refine aI ?_ _));exact BK481.out) hb);have n4_:=aM (bG (by repeat(first|(with_reducible first|exact HB.out|apply aN|apply aP|apply aO|refine aL ?_ GE481.out)|exact HB.out)) hb);have n5_:=aM (hbox);have n6_:=aM ((by rw [hg];exact(bH (by repeat(first|(with_reducible first|exact HB.out|apply aN|apply aP|apply aO|refine aL ?_ GE481.out)|exact HB.out))):w.heap.size≤gb493));have n7_:=aM ((by rw [hg];exact(bH (by repeat(first|(with_reducible first|exact HB.out|apply aN|apply aP|apply aO|refine aL ?_ GE481.out)|exact HB.out))):w.heap.size≤gb493));have n8_:=aM ((by rw [hg];exact Nat.ne_of_lt (bN (g:=gb481) (o:= .cells #[.slice none 0 0,.slice none 0 0,.int .i64 0,.int .i64 0,.slice none 0 0] 26 (0,0)) (by(with_reducible repeat(first|refine aJ ?_ _|refine aK ?_|refine aI ?_ _));exact BK481.out)):gb481≠gb493));have n9_:=aM ((by rw [hg];exact Nat.ne_of_gt (bN (g:=gb481) (o:= .cells #[.slice none 0 0,.slice none 0 0,.int .i64 0,.int .i64 0,.slice none 0 0] 26 (0,0)) (by(with_reducible repeat(first|refine aJ ?_ _|refine aK ?_|refine aI ?_ _));exact BK481.out)):gb493≠gb481));clear HO484;clear HO487;clear HO492;clear BK481;clear HB;have HO484:=n0_;have HO487:=n1_;have HO492:=n2_;have BK481:=n3_;have HB:=n4_;have BK493:=n5_;have GW493:=n6_;have GE493:=n7_;have NB481_493:=n8_;have NB493_481:=n9_;clear n0_ n1_ n2_ n3_ n4_ n5_ n6_ n7_ n8_ n9_;clear hb hbox hg;obtain⟨Ao6,co6,eo6⟩:=Kd.R_slice HO484.out;subst eo6;have hnb7:=NB493_481.out;have hnc7:=NB481_493.out;have hcz8_0:w5.cell? ⟨gb493,0,none⟩=some (.slice none 0 0):=(aG BK493.out 0).trans rfl;have hcz8_1:w5.cell? ⟨gb493,1,none⟩=some (.slice none 0 0):=(aG BK493.out 1).trans rfl;have hcz8_2:w5.cell? ⟨gb493,2,none⟩=some (.int .i64 0):=(aG BK493.out 2).trans rfl;have hcz8_3:w5.cell? ⟨gb493,3,none⟩=some (.int .i64 0):=(aG BK493.out 3).trans rfl;have hcz8_4:w5.cell? ⟨gb493,4,none⟩=some (.slice none 0 0):=(aG BK493.out 4).trans rfl;have hfz8_0:=aH BK493.out 0;have hfz8_1:=aH BK493.out 1;have hfz8_2:=aH BK493.out 2;have hfz8_3:=aH BK493.out 3;have hfz8_4:=aH BK493.out 4;obtain⟨Ao9,co9,eo9⟩:=Kd.R_slice HO487.out;subst eo9;obtain⟨Ao10,co10,eo10⟩:=Kd.S_slice HO492.out;subst eo10))
 go_loopg [4] k (fun kq v4 w'=>∃(x4_1:Int) (x494001_1:List (S72)) (x494004_1:List (S35)) (u494001:Value) (u494004:Value),v4= .int .i64 x4_1∧Aside0 (regletlaw14_Clear.l0 kq x4_1 t482 x494001_1 t488 t489 x494004_1=some (r1,r2,r3,r4,r5))∧Aside0 (kq≤k)∧Aside0 (Kd.R Kd.string 9 w' w.heap.size (fun _=>True) (.slice Ao6 t482.length co6) t482)∧Aside0 (Kd.R k72 72 w' w.heap.size (fun _=>True) u494001 x494001_1)∧Aside0 (Kd.S k35 35 w' w.heap.size (fun _=>True) u494004 x494004_1)∧Aside0 (w'.heap[gb481]?=some (.cells #[(.slice none 0 0),(.slice none 0 0),.int .i64 0,.int .i64 0,(.slice none 0 0)] 26 (0,0)))∧Aside0 (w'.heap[gb493]?=some (.cells #[(.slice Ao6 t482.length co6),u494001,.int .i64 t488,.int .i64 t489,u494004] 26 (0,0)))∧Aside0 (Below w.heap.size w w'))
 case atStart=>exact⟨(0),(([]:List (S72))),(t490),(.slice none 0 0),(.slice Ao10 t490.length co10),(by first|rfl|(simp;done)|(simp [*];done)),H',⟨Nat.le_refl _⟩,⟨by(with_reducible repeat(first|apply aA|apply aB|apply aC));exact Kd.R_mono (aE (p:=⟨gb493,1,none⟩) (aE (p:=⟨gb493,4,none⟩) (aE (p:=⟨gb493,3,none⟩) (aE (p:=⟨gb493,2,none⟩) (aE (p:=⟨gb493,1,none⟩) (aE (p:=⟨gb493,0,none⟩) (Kd.R_types HO484.out BK493.out (by decide)) (fun _ hk=>hk.2) (.slice Ao6 t482.length co6)) (fun _ hk=>hk.2) (.slice Ao9 t485.length co9)) (fun _ hk=>hk.2) (.int .i64 t488)) (fun _ hk=>hk.2) (.int .i64 t489)) (fun _ hk=>hk.2) (.slice Ao10 t490.length co10)) (fun _ hk=>hk.2) (.slice none 0 0)) (fun _ hk=>trivial)⟩,⟨by first|exact Kd.R_nil _ _ _ _ _|exact Kd.N_nil _ _ _ _ _|exact Kd.V_nil _ _ _ _ _|exact Kd.Q_nil _ _ _ _ _|exact Kd.S_nil _ _ _ _ _⟩,⟨by(with_reducible repeat(first|apply Kd.S_alloc|apply aV|apply aW));exact Kd.S_mono (Kd.S_far (p:=⟨gb493,1,none⟩) (Kd.S_far (p:=⟨gb493,4,none⟩) (Kd.S_far (p:=⟨gb493,3,none⟩) (Kd.S_far (p:=⟨gb493,2,none⟩) (Kd.S_far (p:=⟨gb493,1,none⟩) (Kd.S_far (p:=⟨gb493,0,none⟩) (Kd.S_types HO492.out BK493.out (by decide)) (fun _ hk=>hk.2) (.slice Ao6 t482.length co6)) (fun _ hk=>hk.2) (.slice Ao9 t485.length co9)) (fun _ hk=>hk.2) (.int .i64 t488)) (fun _ hk=>hk.2) (.int .i64 t489)) (fun _ hk=>hk.2) (.slice Ao10 t490.length co10)) (fun _ hk=>hk.2) (.slice none 0 0)) (fun _ hk=>trivial)⟩,⟨by(with_reducible repeat(first|refine aJ ?_ _|refine aK ?_|refine aI ?_ _));refine blk_far ?_ NB481_493.out _;(with_reducible repeat(first|refine aJ ?_ _|refine aK ?_|refine aI ?_ _));refine blk_far ?_ NB481_493.out _;(with_reducible repeat(first|refine aJ ?_ _|refine aK ?_|refine aI ?_ _));refine blk_far ?_ NB481_493.out _;(with_reducible repeat(first|refine aJ ?_ _|refine aK ?_|refine aI ?_ _));refine blk_far ?_ NB481_493.out _;(with_reducible repeat(first|refine aJ ?_ _|refine aK ?_|refine aI ?_ _));refine blk_far ?_ NB481_493.out _;(with_reducible repeat(first|refine aJ ?_ _|refine aK ?_|refine aI ?_ _));refine blk_far ?_ NB481_493.out _;(with_reducible repeat(first|refine aJ ?_ _|refine aK ?_|refine aI ?_ _));exact BK481.out⟩,⟨by(with_reducible repeat(first|refine aJ ?_ _|refine aK ?_|refine aI ?_ _));refine blk_put (cs:=#[.slice Ao6 t482.length co6,.slice Ao9 t485.length co9,.int .i64 t488,.int .i64 t489,.slice Ao10 t490.length co10]) ?_ 1 _ rfl;(with_reducible repeat(first|refine aJ ?_ _|refine aK ?_|refine aI ?_ _));refine blk_put (cs:=#[.slice Ao6 t482.length co6,.slice Ao9 t485.length co9,.int .i64 t488,.int .i64 t489,.slice none 0 0]) ?_ 4 _ rfl;(with_reducible repeat(first|refine aJ ?_ _|refine aK ?_|refine aI ?_ _));refine blk_put (cs:=#[.slice Ao6 t482.length co6,.slice Ao9 t485.length co9,.int .i64 t488,.int .i64 0,.slice none 0 0]) ?_ 3 _ rfl;(with_reducible repeat(first|refine aJ ?_ _|refine aK ?_|refine aI ?_ _));refine blk_put (cs:=#[.slice Ao6 t482.length co6,.slice Ao9 t485.length co9,.int .i64 0,.int .i64 0,.slice none 0 0]) ?_ 2 _ rfl;(with_reducible repeat(first|refine aJ ?_ _|refine aK ?_|refine aI ?_ _));refine blk_put (cs:=#[.slice Ao6 t482.length co6,.slice none 0 0,.int .i64 0,.int .i64 0,.slice none 0 0]) ?_ 1 _ rfl;(with_reducible repeat(first|refine aJ ?_ _|refine aK ?_|refine aI ?_ _));refine blk_put (cs:=#[.slice none 0 0,.slice none 0 0,.int .i64 0,.int .i64 0,.slice none 0 0]) ?_ 0 _ rfl;(with_reducible repeat(first|refine aJ ?_ _|refine aK ?_|refine aI ?_ _));exact BK493.out⟩,⟨by repeat(first|(with_reducible first|exact HB.out|apply aN|apply aP|apply aO|refine aL ?_ GE481.out|refine aL ?_ GE493.out)|exact HB.out)⟩⟩
 case round=>
  clear H'
  (try clear c1);(try clear p2);(try clear c7);(try clear hcz8_0);(try clear hcz8_1);(try clear hcz8_2);(try clear hcz8_3);(try clear hcz8_4);(try clear hfz8_0);(try clear hfz8_1);(try clear hfz8_2);(try clear hfz8_3);(try clear hfz8_4)
  obtain⟨x4_1,x494001_1,x494004_1,u494001,u494004,rfl,HA,HK1,HO_494000,HO_494001,HO_494004,BK481,BK493,HB⟩:=hrel
  cases gk with
  |zero=>exact absurd HA.out (by simp [regletlaw14_Clear.l0])
  |succ k1=>
   have H:=HA.out
   clear HA
   simp only [regletlaw14_Clear.l0] at H
   by_cases c11:x4_1<(x494004_1.length:Int)
   ·rw [if_pos c11] at H
    have c11b0:decide (x4_1<(x494004_1.length:Int))=true:=decide_eq_true c11
    clear c11
    obtain⟨y494,hy494⟩:∃y_:List Int,y_=(([wrap64 (97+x4_1)]:List Int)):=⟨_,rfl⟩
    replace H:(if x494001_1.length<1353245080339 then(regletlaw14_Clear.l1 k1 x4_1 ([]:List (S43)) 0 t482 (x494001_1++ [(⟨(⟨#[]⟩:ByteArray),(⟨6,(⟨#[]⟩:ByteArray),y494,0,0,([]:List (S70))⟩:S70)⟩:S72)]) t488 t489 x494004_1) else(none))=some (r1,r2,r3,r4,r5):=by first|(rw [hy494];with_reducible exact H)|(have H2_:=(Option.bind_some _ _).symm.trans H;rw [hy494];with_reducible exact H2_)|(have H2_:=(Option.bind_some _ _).symm.trans H;with_reducible exact H2_)|with_reducible exact H|(rw [hy494];exact H)|exact H
    have Ny494:=aM hy494
    clear hy494
    by_cases c12:x494001_1.length<1353245080339
    rotate_left
    ·rw [if_neg c12] at H
     exact absurd H (by simp)
    rw [if_pos c12] at H
    have LMc12:=aM c12
    clear c12
    obtain⟨y497,hy497⟩:∃y_:List (S72),y_=(x494001_1++ [(⟨(⟨#[]⟩:ByteArray),(⟨6,(⟨#[]⟩:ByteArray),y494,0,0,([]:List (S70))⟩:S70)⟩:S72)]):=⟨_,rfl⟩
    replace H:(regletlaw14_Clear.l1 k1 x4_1 ([]:List (S43)) 0 t482 y497 t488 t489 x494004_1)=some (r1,r2,r3,r4,r5):=by first|(rw [hy497];with_reducible exact H)|(have H2_:=(Option.bind_some _ _).symm.trans H;rw [hy497];with_reducible exact H2_)|(have H2_:=(Option.bind_some _ _).symm.trans H;with_reducible exact H2_)|with_reducible exact H|(rw [hy497];exact H)|exact H
    have Ny497:=aM hy497
    clear hy497
    have H':=aM H
    clear H
    have hnb13:=NB493_481.out
    have hnc13:=NB481_493.out
    have hcz14_0:wr.cell? ⟨gb493,0,none⟩=some (.slice Ao6 t482.length co6):=(aG BK493.out 0).trans rfl
    have hcz14_1:wr.cell? ⟨gb493,1,none⟩=some (u494001):=(aG BK493.out 1).trans rfl
    have hcz14_2:wr.cell? ⟨gb493,2,none⟩=some (.int .i64 t488):=(aG BK493.out 2).trans rfl
    have hcz14_3:wr.cell? ⟨gb493,3,none⟩=some (.int .i64 t489):=(aG BK493.out 3).trans rfl
    have hcz14_4:wr.cell? ⟨gb493,4,none⟩=some (u494004):=(aG BK493.out 4).trans rfl
    have hfz14_0:=aH BK493.out 0
    have hfz14_1:=aH BK493.out 1
    have hfz14_2:=aH BK493.out 2
    have hfz14_3:=aH BK493.out 3
    have hfz14_4:=aH BK493.out 4
    obtain⟨Ao15,co15,eo15⟩:=Kd.S_slice HO_494004.out
    subst eo15
    go_wp2_with (first|((with_reducible refine bJ (N:=24) rfl ?_);refine Kd.R_lit (Kd.int .i64) _ 3 ?hg (N:=24) ?hd (xs:=([wrap64 (97+x4_1)]:List Int)) (inner:= [.int .i64 (wrap64 (97+x4_1))]) (ok:=fun _=>True) (okp:=fun _=>True) ?hr ?hp (fun _ hk=>hk) trivial (Below.refl _ _) (Nat.le_refl _) (by simp) ?_;(case hd=>rfl);(case hg=>rfl);(case hr=>first|(go_simp;done)|(go_simp;rfl));(case hp=>exact(Reps.one (show Kd.M (Kd.int .i64) _ _ _ (wrap64 (97+x4_1)) [.int .i64 (wrap64 (97+x4_1))] from rfl) (Reps.none _ _)));intro v495 w16 ho17 hb hg_ hnew_;clear hg_ hnew_;(first|rw [←Ny494.out] at ho17|(simp only [Int.reduceToNat] at ho17;rw [←Ny494.out] at ho17));have n0_:=aM (aD (by(with_reducible repeat(first|apply aA|apply aB|apply aC));exact HO_494000.out) hb);have n1_:=aM (bE (by(with_reducible repeat(first|apply aA|apply aB|apply aC));exact HO_494001.out) (Kd.R_base ho17) hb);have n2_:=aM (Kd.S_below (by(with_reducible repeat(first|apply Kd.S_alloc|apply aV|apply aW));exact HO_494004.out) hb);have n3_:=aM (bL ho17 (bH (by repeat(first|(with_reducible first|exact HB.out|apply aN|apply aP|apply aO|refine aL ?_ GE481.out|refine aL ?_ GE493.out)|exact HB.out))));have n4_:=aM (bF (g:=gb481) (o:= .cells #[.slice none 0 0,.slice none 0 0,.int .i64 0,.int .i64 0,.slice none 0 0] 26 (0,0)) (by(with_reducible repeat(first|refine aJ ?_ _|refine aK ?_|refine aI ?_ _));exact BK481.out) hb);have n5_:=aM (bF (g:=gb493) (o:= .cells #[.slice Ao6 t482.length co6,u494001,.int .i64 t488,.int .i64 t489,.slice Ao15 x494004_1.length co15] 26 (0,0)) (by(with_reducible repeat(first|refine aJ ?_ _|refine aK ?_|refine aI ?_ _));exact BK493.out) hb);have n6_:=aM (bG (by repeat(first|(with_reducible first|exact HB.out|apply aN|apply aP|apply aO|refine aL ?_ GE481.out|refine aL ?_ GE493.out)|exact HB.out)) hb);clear HO_494000;clear HO_494001;clear HO_494004;clear BK481;clear BK493;clear HB;have HO_494000:=n0_;have HO_494001:=n1_;have HO_494004:=n2_;have HO496:=n3_;have BK481:=n4_;have BK493:=n5_;have HB:=n6_;clear n0_ n1_ n2_ n3_ n4_ n5_ n6_;clear hb ho17;obtain⟨Ao18,co18,eo18⟩:=Kd.R_slice HO496.out;subst eo18)|((with_reducible refine gate_builtin (b:= .append) (xs:=#[.tmp 21,.tmp 27]) rfl ?_);at_builtin;refine Kd.R_append k72 (w0:=w) w.heap.size rfl (.tmp 21) (.tmp 27) 23 72 (.agg #[(.string ⟨#[]⟩),(.int .i64 0),(.string ⟨#[]⟩),(.slice none 0 0),(.int .i64 0),(.int .i64 0),(.slice none 0 0)]) 104 rfl Try.underlying23 info72 rfl (by decide) (by omega) u494001 x494001_1 (⟨(⟨#[]⟩:ByteArray),(⟨6,(⟨#[]⟩:ByteArray),y494,0,0,([]:List (S70))⟩:S70)⟩:S72) [.string (⟨#[]⟩:ByteArray),.int .i64 6,.string (⟨#[]⟩:ByteArray),.slice Ao18 y494.length co18,.int .i64 0,.int .i64 0,.slice none 0 0] (fun _=>True) (fun k_=>((fun _=>True)) k_∧some k_≠(u494001:Value).ownBlock) rfl rfl ?aP (fun _ hk=>hk) ?aF ?aO ?aB ?aS ?aL ?_;(case aP=>exact k72_mkM _ _ _ (⟨(⟨#[]⟩:ByteArray),(⟨6,(⟨#[]⟩:ByteArray),y494,0,0,([]:List (S70))⟩:S70)⟩:S72) (Kd.R_mono (Kd.R_apart' (HO496.out) (Kd.R_typed HO_494001.out) (by decide)) (fun k_ hk=>⟨trivial,hk.2⟩)) (Kd.R_nil _ _ _ _ _));(case aB=>exact(by repeat(first|(with_reducible first|exact HB.out|apply aN|apply aP|apply aO|refine aL ?_ GE481.out|refine aL ?_ GE493.out)|exact HB.out)));(case aF=>exact(fun _ _=>trivial));(case aO=>exact(by(with_reducible repeat(first|apply aA|apply aB|apply aC));exact Kd.R_mono HO_494001.out (fun _ hk=>trivial)));(case aS=>exact(bH (by repeat(first|(with_reducible first|exact HB.out|apply aN|apply aP|apply aO|refine aL ?_ GE481.out|refine aL ?_ GE493.out)|exact HB.out))));(case aL=>have:=LMc12.out;omega);intro v498 w19 ho hb hg hat;rw [←Ny497.out] at ho;have n0_:=aM (Kd.R_over' (by(with_reducible repeat(first|apply aA|apply aB|apply aC));exact HO_494000.out) (Kd.R_typed (by(with_reducible repeat(first|apply aA|apply aB|apply aC));exact HO_494001.out)) (by decide) hg);have n1_:=aM (Kd.S_over' (by(with_reducible repeat(first|apply Kd.S_alloc|apply aV|apply aW));exact HO_494004.out) (Kd.R_typed (by(with_reducible repeat(first|apply aA|apply aB|apply aC));exact HO_494001.out)) (by decide) hg);have n2_:=aM (blk_grown (g:=gb481) (o:= .cells #[.slice none 0 0,.slice none 0 0,.int .i64 0,.int .i64 0,.slice none 0 0] 26 (0,0)) (by(with_reducible repeat(first|refine aJ ?_ _|refine aK ?_|refine aI ?_ _));exact BK481.out) hg (Kd.R_ne HO_494001.out BK481.out (by decide)));have n3_:=aM (blk_grown (g:=gb493) (o:= .cells #[.slice Ao6 t482.length co6,u494001,.int .i64 t488,.int .i64 t489,.slice Ao15 x494004_1.length co15] 26 (0,0)) (by(with_reducible repeat(first|refine aJ ?_ _|refine aK ?_|refine aI ?_ _));exact BK493.out) hg (Kd.R_ne HO_494001.out BK493.out (by decide)));have n4_:=aM (hb);have n5_:=aM (ho);clear HO_494000;clear HO_494004;clear BK481;clear BK493;clear HB;clear HO_494001;clear HO496;have HO_494000:=n0_;have HO_494004:=n1_;have BK481:=n2_;have BK493:=n3_;have HB:=n4_;have HO499:=n5_;clear n0_ n1_ n2_ n3_ n4_ n5_;clear ho hb hg hat;obtain⟨Ao20,co20,eo20⟩:=Kd.R_slice HO499.out;subst eo20;have hcz21_0:w19.cell? ⟨gb493,0,none⟩=some (.slice Ao6 t482.length co6):=(aG BK493.out 0).trans rfl;have hcz21_1:w19.cell? ⟨gb493,1,none⟩=some (u494001):=(aG BK493.out 1).trans rfl;have hcz21_2:w19.cell? ⟨gb493,2,none⟩=some (.int .i64 t488):=(aG BK493.out 2).trans rfl;have hcz21_3:w19.cell? ⟨gb493,3,none⟩=some (.int .i64 t489):=(aG BK493.out 3).trans rfl;have hcz21_4:w19.cell? ⟨gb493,4,none⟩=some (.slice Ao15 x494004_1.length co15):=(aG BK493.out 4).trans rfl;have hfz21_0:=aH BK493.out 0;have hfz21_1:=aH BK493.out 1;have hfz21_2:=aH BK493.out 2;have hfz21_3:=aH BK493.out 3;have hfz21_4:=aH BK493.out 4))
    go_loopg [5,6] k1 (fun kq v5 v6 w'=>∃(x5_2:List (S43)) (x6_2:Int),v6= .int .i64 x6_2∧Aside0 (regletlaw14_Clear.l1 kq x4_1 x5_2 x6_2 t482 y497 t488 t489 x494004_1=some (r1,r2,r3,r4,r5))∧Aside0 (kq≤k1)∧Aside0 (Kd.R k43 43 w' w.heap.size (fun _=>True) v5 x5_2)∧Aside0 (Kd.R Kd.string 9 w' w.heap.size (fun _=>True) (.slice Ao6 t482.length co6) t482)∧Aside0 (Kd.R k72 72 w' w.heap.size (fun _=>True) (.slice Ao20 y497.length co20) y497)∧Aside0 (Kd.S k35 35 w' w.heap.size (fun k_=>some k_≠(v5:Value).ownBlock) (.slice Ao15 x494004_1.length co15) x494004_1)∧Aside0 (w'.heap[gb481]?=some (.cells #[(.slice none 0 0),(.slice none 0 0),.int .i64 0,.int .i64 0,(.slice none 0 0)] 26 (0,0)))∧Aside0 (w'.heap[gb493]?=some (.cells #[(.slice Ao6 t482.length co6),(.slice Ao20 y497.length co20),.int .i64 t488,.int .i64 t489,(.slice Ao15 x494004_1.length co15)] 26 (0,0)))∧Aside0 (Below w.heap.size w w'))
    case atStart=>exact⟨(([]:List (S43))),(0),(by first|rfl|(simp;done)|(simp [*];done)),H',⟨Nat.le_refl _⟩,⟨by first|exact Kd.R_nil _ _ _ _ _|exact Kd.N_nil _ _ _ _ _|exact Kd.V_nil _ _ _ _ _|exact Kd.Q_nil _ _ _ _ _|exact Kd.S_nil _ _ _ _ _⟩,⟨by(with_reducible repeat(first|apply aA|apply aB|apply aC));exact Kd.R_mono (aE (p:=⟨gb493,1,none⟩) (Kd.R_types HO_494000.out BK493.out (by decide)) (fun _ hk=>hk.2) (.slice Ao20 y497.length co20)) (fun _ hk=>trivial)⟩,⟨by(with_reducible repeat(first|apply aA|apply aB|apply aC));exact Kd.R_mono (aE (p:=⟨gb493,1,none⟩) (Kd.R_types HO499.out BK493.out (by decide)) (fun _ hk=>hk.2) (.slice Ao20 y497.length co20)) (fun _ hk=>trivial)⟩,⟨by(with_reducible repeat(first|apply Kd.S_alloc|apply aV|apply aW));exact Kd.S_mono (Kd.S_far (p:=⟨gb493,1,none⟩) (Kd.S_types HO_494004.out BK493.out (by decide)) (fun _ hk=>hk.2) (.slice Ao20 y497.length co20)) (fun _ hk=>(by simp [Value.ownBlock]))⟩,⟨by(with_reducible repeat(first|refine aJ ?_ _|refine aK ?_|refine aI ?_ _));refine blk_far ?_ NB481_493.out _;(with_reducible repeat(first|refine aJ ?_ _|refine aK ?_|refine aI ?_ _));exact BK481.out⟩,⟨by(with_reducible repeat(first|refine aJ ?_ _|refine aK ?_|refine aI ?_ _));refine blk_put (cs:=#[.slice Ao6 t482.length co6,u494001,.int .i64 t488,.int .i64 t489,.slice Ao15 x494004_1.length co15]) ?_ 1 _ rfl;(with_reducible repeat(first|refine aJ ?_ _|refine aK ?_|refine aI ?_ _));exact BK493.out⟩,⟨by repeat(first|(with_reducible first|exact HB.out|apply aN|apply aP|apply aO|refine aL ?_ GE481.out|refine aL ?_ GE493.out)|exact HB.out)⟩⟩
    case round=>
     clear H'
     (try clear c1);(try clear p2);(try clear p6);(try clear c7);(try clear c11);(try clear c11b0);(try clear c12);(try clear c13);(try clear c19);(try clear hcz14_0);(try clear hcz14_1);(try clear hcz14_2);(try clear hcz14_3);(try clear hcz14_4);(try clear hcz21_0);(try clear hcz21_1);(try clear hcz21_2);(try clear hcz21_3);(try clear hcz21_4);(try clear hcz8_0);(try clear hcz8_1);(try clear hcz8_2);(try clear hcz8_3)
     (try clear hcz8_4);(try clear hfz14_0);(try clear hfz14_1);(try clear hfz14_2);(try clear hfz14_3);(try clear hfz14_4);(try clear hfz21_0);(try clear hfz21_1);(try clear hfz21_2);(try clear hfz21_3);(try clear hfz21_4);(try clear hfz8_0);(try clear hfz8_1);(try clear hfz8_2);(try clear hfz8_3);(try clear hfz8_4);(try clear p2)
     obtain⟨x5_2,x6_2,rfl,HA,HK2,HO_5,HO_494000,HO_494001,HO_494004,BK481,BK493,HB⟩:=hrel
     cases gk with
     |zero=>exact absurd HA.out (by simp [regletlaw14_Clear.l1])
     |succ k2=>
      have H:=HA.out
      clear HA
      simp only [regletlaw14_Clear.l1] at H
      by_cases c22:0≤x4_1
      rotate_left
      ·rw [if_neg c22] at H
       exact absurd H (by simp)
      rw [if_pos c22] at H
      have c22b0:decide (0≤x4_1)=true:=decide_eq_true c22
      clear c22
      by_cases c23:x4_1<(x494004_1.length:Int)
      rotate_left
      ·rw [if_neg c23] at H
       exact absurd H (by simp)
      rw [if_pos c23] at H
      have c23b0:decide (x4_1<(x494004_1.length:Int))=true:=decide_eq_true c23
      clear c23
      by_cases c24:x6_2<(((rd_T35 x494004_1 x4_1).f1).length:Int)
      ·rw [if_pos c24] at H
       have c24b0:decide (x6_2<(((rd_T35 x494004_1 x4_1).f1).length:Int))=true:=decide_eq_true c24
       clear c24
       by_cases c25:0≤x6_2
       rotate_left
       ·rw [if_neg c25] at H
        exact absurd H (by simp)
       rw [if_pos c25] at H
       have c25b0:decide (0≤x6_2)=true:=decide_eq_true c25
       clear c25
       obtain⟨bq26,hbq26⟩:∃b_:Bool,b_=((rd_T43 ((rd_T35 x494004_1 x4_1).f1) x6_2).f0):=⟨_,rfl⟩
       replace H:(if bq26=true then(if(x494004_1.length:Int)=0 then(none) else(if x5_2.length<8796093022208 then(regletlaw14_Clear.l1 k2 x4_1 (x5_2++ [(⟨bq26,Int.tmod ((rd_T43 ((rd_T35 x494004_1 x4_1).f1) x6_2).f1) (x494004_1.length:Int)⟩:S43)]) (wrap64 (x6_2+1)) t482 y497 t488 t489 x494004_1) else(none))) else(if x5_2.length<8796093022208 then(regletlaw14_Clear.l1 k2 x4_1 (x5_2++ [(⟨bq26,(rd_T43 ((rd_T35 x494004_1 x4_1).f1) x6_2).f1⟩:S43)]) (wrap64 (x6_2+1)) t482 y497 t488 t489 x494004_1) else(none)))=some (r1,r2,r3,r4,r5):=by rw [←hbq26] at H;exact H
       have Nbq26:=aM hbq26
       clear hbq26
       by_cases c27:bq26=true
       ·subst c27
        have H1:(if(x494004_1.length:Int)=0 then(none) else(if x5_2.length<8796093022208 then(regletlaw14_Clear.l1 k2 x4_1 (x5_2++ [(⟨true,Int.tmod ((rd_T43 ((rd_T35 x494004_1 x4_1).f1) x6_2).f1) (x494004_1.length:Int)⟩:S43)]) (wrap64 (x6_2+1)) t482 y497 t488 t489 x494004_1) else(none)))=some (r1,r2,r3,r4,r5):=by rw [if_pos rfl] at H;exact H
        clear H
        have H:=H1
        clear H1
        by_cases c28:(x494004_1.length:Int)=0
        ·rw [if_pos c28] at H
         exact absurd H (by simp)
        rw [if_neg c28] at H
        have c28b0:((x494004_1.length:Int)==0)=false:=beq_eq_false_iff_ne.mpr c28
        have c28b1:((x494004_1.length:Int) !=0)=true:=bne_iff_ne.mpr c28
        have c28b2:¬(x494004_1= []):=fun h_=>c28 (by rw [h_];rfl)
        by_cases c29:x5_2.length<8796093022208
        rotate_left
        ·rw [if_neg c29] at H
         exact absurd H (by simp)
        rw [if_pos c29] at H
        have LMc29:=aM c29
        clear c29
        obtain⟨y504,hy504⟩:∃y_:List (S43),y_=(x5_2++ [(⟨true,Int.tmod ((rd_T43 ((rd_T35 x494004_1 x4_1).f1) x6_2).f1) (x494004_1.length:Int)⟩:S43)]):=⟨_,rfl⟩
        replace H:(regletlaw14_Clear.l1 k2 x4_1 y504 (wrap64 (x6_2+1)) t482 y497 t488 t489 x494004_1)=some (r1,r2,r3,r4,r5):=by first|(rw [hy504];with_reducible exact H)|(have H2_:=(Option.bind_some _ _).symm.trans H;rw [hy504];with_reducible exact H2_)|(have H2_:=(Option.bind_some _ _).symm.trans H;with_reducible exact H2_)|with_reducible exact H|(rw [hy504];exact H)|exact H
        have Ny504:=aM hy504
        clear hy504
        have H':=aM H
        clear H
        have hnb30:=NB493_481.out
        have hnc30:=NB481_493.out
        have hcz31_0:wr.cell? ⟨gb493,0,none⟩=some (.slice Ao6 t482.length co6):=(aG BK493.out 0).trans rfl
        have hcz31_1:wr.cell? ⟨gb493,1,none⟩=some (.slice Ao20 y497.length co20):=(aG BK493.out 1).trans rfl
        have hcz31_2:wr.cell? ⟨gb493,2,none⟩=some (.int .i64 t488):=(aG BK493.out 2).trans rfl
        have hcz31_3:wr.cell? ⟨gb493,3,none⟩=some (.int .i64 t489):=(aG BK493.out 3).trans rfl
        have hcz31_4:wr.cell? ⟨gb493,4,none⟩=some (.slice Ao15 x494004_1.length co15):=(aG BK493.out 4).trans rfl
        have hfz31_0:=aH BK493.out 0
        have hfz31_1:=aH BK493.out 1
        have hfz31_2:=aH BK493.out 2
        have hfz31_3:=aH BK493.out 3
        have hfz31_4:=aH BK493.out 4
        have p500:0≤(x4_1:Int):=of_decide_eq_true (by first|(with_reducible assumption)|assumption)
        have q500:x4_1<(x494004_1.length:Int):=of_decide_eq_true (by first|(with_reducible assumption)|assumption)
        obtain⟨ad500,A500_1,c500_1,e500,hx500_0,hx500_1,hl500_1,hi500_1⟩:=at_T35 (Kd.S_reads' HO_494004.out).2.2 x4_1 p500 q500
        cases e500
        obtain⟨ce500,hce500,hMe500,hcc500⟩:=Kd.S_get HO_494004.out z35 x4_1 p500 (by first|exact q500|exact of_decide_eq_true (by first|(with_reducible assumption)|assumption)|(have e_:=(Kd.S_reads' HO_494004.out).1;omega))
        obtain⟨ve500_1,rfl,ge500_1⟩:=k35_openM hMe500
        have hv500_1:=hcc500 1 _ rfl
        rw [add_field _ _ 1 (by omega)] at hv500_1
        replace hv500_1:=Option.some.inj (hv500_1.symm.trans hx500_1)
        rw [hv500_1] at ge500_1
        have HL500_1:=aM (show Kd.R k43 43 _ _ _ _ ((rd_T35 x494004_1 x4_1).f1) from ge500_1)
        clear hv500_1 ge500_1
        have HX500_1:=aM hx500_1
        clear hcc500 hce500
        have HR500_1:=aM hi500_1
        have HC500_1:=aM hl500_1
        clear hi500_1 hl500_1
        replace p500:=eq_true p500
        replace q500:=eq_true q500
        have p501:0≤(x4_1:Int):=of_decide_eq_true (by first|(with_reducible assumption)|assumption)
        have q501:x4_1<(x494004_1.length:Int):=of_decide_eq_true (by first|(with_reducible assumption)|assumption)
        obtain⟨ad501,A501_1,c501_1,e501,hx501_0,hx501_1,hl501_1,hi501_1⟩:=at_T35 (Kd.S_reads' HO_494004.out).2.2 x4_1 p501 q501
        obtain rfl:ad500=ad501:=(by injection e501)
        obtain⟨ce501,hce501,hMe501,hcc501⟩:=Kd.S_get HO_494004.out z35 x4_1 p501 (by first|exact q501|exact of_decide_eq_true (by first|(with_reducible assumption)|assumption)|(have e_:=(Kd.S_reads' HO_494004.out).1;omega))
        obtain⟨ve501_1,rfl,ge501_1⟩:=k35_openM hMe501
        have hv501_1:=hcc501 1 _ rfl
        rw [add_field _ _ 1 (by omega)] at hv501_1
        replace hv501_1:=Option.some.inj (hv501_1.symm.trans hx501_1)
        rw [hv501_1] at ge501_1
        have HL501_1:=aM (show Kd.R k43 43 _ _ _ _ ((rd_T35 x494004_1 x4_1).f1) from ge501_1)
        clear hv501_1 ge501_1
        have HX501_1:=aM hx501_1
        clear hcc501 hce501
        have HR501_1:=aM hi501_1
        have HC501_1:=aM hl501_1
        clear hi501_1 hl501_1
        replace p501:=eq_true p501
        replace q501:=eq_true q501
        have ea_:=Option.some.inj (hx500_1.symm.trans hx501_1)
        injection ea_ with ea_ en_ ec_
        subst ea_
        subst ec_
        clear en_
        have p502:0≤(x6_2:Int):=of_decide_eq_true (by first|(with_reducible assumption)|assumption)
        have q502:x6_2<(((rd_T35 x494004_1 x4_1).f1).length:Int):=of_decide_eq_true (by first|(with_reducible assumption)|assumption)
        obtain⟨ad502,e502,hx502_0,hx502_1⟩:=at_T43 (by repeat(first|(with_reducible exact HR501_1.out)|(with_reducible refine Kd.C_alloc ?_ _)|(with_reducible refine Kd.C_drewN ?_ _)|(with_reducible refine bC ?_)|exact HR501_1.out)) x6_2 p502 q502
        (try rw [←Nbq26.out] at hx502_0)
        cases e502
        replace p502:=eq_true p502
        replace q502:=eq_true q502
        go_wp2_with (first|((with_reducible refine bJ (N:=7) rfl ?_);refine box_event ?hg (N:=7) ?hd (cs:=#[.bool false,.int .i64 0]) (t:=43) ?hr ?_;(case hd=>rfl);(case hg=>rfl);(case hr=>first|(go_simp;done)|(go_simp;rfl));intro gb503 hg w32 hbox hb;have n0_:=aM (aD (Kd.R_elderB (by(with_reducible repeat(first|apply aA|apply aB|apply aC));exact HO_5.out) gb503 (Nat.le_of_eq hg.symm)) hb);have n1_:=aM (aD (by(with_reducible repeat(first|apply aA|apply aB|apply aC));exact HO_494000.out) hb);have n2_:=aM (aD (by(with_reducible repeat(first|apply aA|apply aB|apply aC));exact HO_494001.out) hb);have n3_:=aM (Kd.S_below (Kd.S_elderB (by(with_reducible repeat(first|apply Kd.S_alloc|apply aV|apply aW));exact HO_494004.out) gb503 (Nat.le_of_eq hg.symm)) hb);have n4_:=aM (aD (Kd.R_elderB (by(with_reducible repeat(first|apply aA|apply aB|apply aC));exact HL500_1.out) gb503 (Nat.le_of_eq hg.symm)) hb);have n5_:=aM (aD (Kd.R_elderB (by(with_reducible repeat(first|apply aA|apply aB|apply aC));exact HL501_1.out) gb503 (Nat.le_of_eq hg.symm)) hb);have n6_:=aM (bF (g:=gb481) (o:= .cells #[.slice none 0 0,.slice none 0 0,.int .i64 0,.int .i64 0,.slice none 0 0] 26 (0,0)) (by(with_reducible repeat(first|refine aJ ?_ _|refine aK ?_|refine aI ?_ _));exact BK481.out) hb);have n7_:=aM (bF (g:=gb493) (o:= .cells #[.slice Ao6 t482.length co6,.slice Ao20 y497.length co20,.int .i64 t488,.int .i64 t489,.slice (some ad500) x494004_1.length co15] 26 (0,0)) (by(with_reducible repeat(first|refine aJ ?_ _|refine aK ?_|refine aI ?_ _));exact BK493.out) hb);have n8_:=aM (bD (by repeat(first|(with_reducible exact HR500_1.out)|(with_reducible refine Kd.C_alloc ?_ _)|(with_reducible refine Kd.C_drewN ?_ _)|(with_reducible refine bC ?_)|exact HR500_1.out)) hb);have n9_:=aM (pw_cell_below hb HX500_1.out);have n10_:=aM (bD (by repeat(first|(with_reducible exact HR501_1.out)|(with_reducible refine Kd.C_alloc ?_ _)|(with_reducible refine Kd.C_drewN ?_ _)|(with_reducible refine bC ?_)|exact HR501_1.out)) hb);have n11_:=aM (pw_cell_below hb HX501_1.out);have n12_:=aM (bG (by repeat(first|(with_reducible first|exact HB.out|apply aN|apply aP|apply aO|refine aL ?_ GE481.out|refine aL ?_ GE493.out)|exact HB.out)) hb);have n13_:=aM (hbox);have n14_:=aM ((by rw [hg];exact(bH (by repeat(first|(with_reducible first|exact HB.out|apply aN|apply aP|apply aO|refine aL ?_ GE481.out|refine aL ?_ GE493.out)|exact HB.out))):w.heap.size≤gb503));have n15_:=aM ((by rw [hg];exact(bH (by repeat(first|(with_reducible first|exact HB.out|apply aN|apply aP|apply aO|refine aL ?_ GE481.out|refine aL ?_ GE493.out)|exact HB.out))):w.heap.size≤gb503));have n16_:=aM ((by rw [hg];exact Nat.ne_of_lt (bN (g:=gb481) (o:= .cells #[.slice none 0 0,.slice none 0 0,.int .i64 0,.int .i64 0,.slice none 0 0] 26 (0,0)) (by(with_reducible repeat(first|refine aJ ?_ _|refine aK ?_|refine aI ?_ _));exact BK481.out)):gb481≠gb503));have n17_:=aM ((by rw [hg];exact Nat.ne_of_gt (bN (g:=gb481) (o:= .cells #[.slice none 0 0,.slice none 0 0,.int .i64 0,.int .i64 0,.slice none 0 0] 26 (0,0)) (by(with_reducible repeat(first|refine aJ ?_ _|refine aK ?_|refine aI ?_ _));exact BK481.out)):gb503≠gb481));have n18_:=aM ((by rw [hg];exact Nat.ne_of_lt (bN (g:=gb493) (o:= .cells #[.slice Ao6 t482.length co6,.slice Ao20 y497.length co20,.int .i64 t488,.int .i64 t489,.slice (some ad500) x494004_1.length co15] 26 (0,0)) (by(with_reducible repeat(first|refine aJ ?_ _|refine aK ?_|refine aI ?_ _));exact BK493.out)):gb493≠gb503));have n19_:=aM ((by rw [hg];exact Nat.ne_of_gt (bN (g:=gb493) (o:= .cells #[.slice Ao6 t482.length co6,.slice Ao20 y497.length co20,.int .i64 t488,.int .i64 t489,.slice (some ad500) x494004_1.length co15] 26 (0,0)) (by(with_reducible repeat(first|refine aJ ?_ _|refine aK ?_|refine aI ?_ _));exact BK493.out)):gb503≠gb493));clear HO_5;clear HO_494000;clear HO_494001;clear HO_494004;clear HL500_1;clear HL501_1;clear BK481;clear BK493;clear HR500_1;clear HX500_1;clear HR501_1;clear HX501_1;clear HB;have HO_5:=n0_;have HO_494000:=n1_;have HO_494001:=n2_;have HO_494004:=n3_;have HL500_1:=n4_;have HL501_1:=n5_;have BK481:=n6_;have BK493:=n7_;have HR500_1:=n8_;have HX500_1:=n9_;have HR501_1:=n10_;have HX501_1:=n11_;have HB:=n12_;have BK503:=n13_;have GW503:=n14_;have GE503:=n15_;have NB481_503:=n16_;have NB503_481:=n17_;have NB493_503:=n18_;have NB503_493:=n19_;clear n0_ n1_ n2_ n3_ n4_ n5_ n6_ n7_ n8_ n9_ n10_ n11_ n12_ n13_ n14_ n15_ n16_ n17_ n18_ n19_;clear hb hbox hg;have hnb33:=NB503_481.out;have hnc33:=NB481_503.out;have hnb34:=NB503_493.out;have hnc34:=NB493_503.out;have hcz35_0:w32.cell? ⟨gb503,0,none⟩=some (.bool false):=(aG BK503.out 0).trans rfl;have hcz35_1:w32.cell? ⟨gb503,1,none⟩=some (.int .i64 0):=(aG BK503.out 1).trans rfl;have hdz35:∀(v0 v1 y:Value),(((w32.setCell ⟨gb503,0,none⟩ v0).setCell ⟨gb503,1,none⟩ v1).setCell ⟨gb503,1,none⟩ y).cell? ⟨gb503,1,none⟩=some y:=fun v0 v1 y=>World.cell?_setCell_same _ _ _ (World.cell?_setCell_same _ _ _ ((World.cell?_setCell_other _ _ _ _ (by simp)).trans hcz35_1));have hfz35_0:=aH BK503.out 0;have hfz35_1:=aH BK503.out 1;have hcz36_0:w32.cell? ⟨gb493,0,none⟩=some (.slice Ao6 t482.length co6):=(aG BK493.out 0).trans rfl;have hcz36_1:w32.cell? ⟨gb493,1,none⟩=some (.slice Ao20 y497.length co20):=(aG BK493.out 1).trans rfl;have hcz36_2:w32.cell? ⟨gb493,2,none⟩=some (.int .i64 t488):=(aG BK493.out 2).trans rfl;have hcz36_3:w32.cell? ⟨gb493,3,none⟩=some (.int .i64 t489):=(aG BK493.out 3).trans rfl;have hcz36_4:w32.cell? ⟨gb493,4,none⟩=some (.slice (some ad500) x494004_1.length co15):=(aG BK493.out 4).trans rfl;have hfz36_0:=aH BK493.out 0;have hfz36_1:=aH BK493.out 1;have hfz36_2:=aH BK493.out 2;have hfz36_3:=aH BK493.out 3;have hfz36_4:=aH BK493.out 4)|((with_reducible refine gate_builtin (b:= .append) (xs:=#[.tmp 59,.tmp 61]) rfl ?_);at_builtin;refine Kd.R_append k43 (w0:=w) w.heap.size rfl (.tmp 59) (.tmp 61) 29 43 (.agg #[(.bool false),(.int .i64 0)]) 16 rfl Try.underlying29 info43 rfl (by decide) (by omega) u5 x5_2 (⟨true,Int.tmod ((rd_T43 ((rd_T35 x494004_1 x4_1).f1) x6_2).f1) (x494004_1.length:Int)⟩:S43) [.bool true,.int .i64 (Int.tmod ((rd_T43 ((rd_T35 x494004_1 x4_1).f1) x6_2).f1) (x494004_1.length:Int))] (fun k_=>k_≠gb503) (fun _=>False) rfl (by first|(go_simp;done)|(go_simp;rfl)) ?aP (fun _ hk=>hk.elim) ?aF ?aO ?aB ?aS ?aL ?_;(case aP=>exact k43_mkM _ _ _ (⟨true,Int.tmod ((rd_T43 ((rd_T35 x494004_1 x4_1).f1) x6_2).f1) (x494004_1.length:Int)⟩:S43));(case aB=>exact(by repeat(first|(with_reducible first|exact HB.out|apply aN|apply aP|apply aO|refine aL ?_ GE481.out|refine aL ?_ GE493.out|refine aL ?_ GE503.out)|exact HB.out)));(case aF=>exact(fun k_ hk=>Kd.freshB (g:=gb503) (o:= .cells #[.bool true,.int .i64 (Int.tmod ((rd_T43 ((rd_T35 x494004_1 x4_1).f1) x6_2).f1) (x494004_1.length:Int))] 43 (0,0)) (by(with_reducible repeat(first|refine aJ ?_ _|refine aK ?_|refine aI ?_ _));refine blk_put (cs:=#[.bool true,.int .i64 ((rd_T43 ((rd_T35 x494004_1 x4_1).f1) x6_2).f1)]) ?_ 1 _ rfl;(with_reducible repeat(first|refine aJ ?_ _|refine aK ?_|refine aI ?_ _));refine blk_put (cs:=#[.bool true,.int .i64 0]) ?_ 1 _ rfl;(with_reducible repeat(first|refine aJ ?_ _|refine aK ?_|refine aI ?_ _));refine blk_put (cs:=#[.bool false,.int .i64 0]) ?_ 0 _ rfl;(with_reducible repeat(first|refine aJ ?_ _|refine aK ?_|refine aI ?_ _));exact BK503.out) k_ hk));(case aO=>exact(by(with_reducible repeat(first|apply aA|apply aB|apply aC));exact Kd.R_mono (aE (p:=⟨gb503,1,none⟩) (aE (p:=⟨gb503,1,none⟩) (aE (p:=⟨gb503,0,none⟩) (Kd.R_mono HO_5.out (fun k_ hk=>(⟨hk,hk.2⟩:_∧k_≠gb503))) (fun _ hk=>hk.2) (.bool true)) (fun _ hk=>hk.2) (.int .i64 ((rd_T43 ((rd_T35 x494004_1 x4_1).f1) x6_2).f1))) (fun _ hk=>hk.2) (.int .i64 (Int.tmod ((rd_T43 ((rd_T35 x494004_1 x4_1).f1) x6_2).f1) (x494004_1.length:Int)))) (fun _ hk=>hk.1.2)));(case aS=>exact(bH (by repeat(first|(with_reducible first|exact HB.out|apply aN|apply aP|apply aO|refine aL ?_ GE481.out|refine aL ?_ GE493.out|refine aL ?_ GE503.out)|exact HB.out))));(case aL=>have:=LMc29.out;omega);intro v505 w37 ho hb hg hat;rw [←Ny504.out] at ho;have n0_:=aM (Kd.R_over' (by(with_reducible repeat(first|apply aA|apply aB|apply aC));exact(Kd.R_mono (aE (p:=⟨gb503,1,none⟩) (aE (p:=⟨gb503,1,none⟩) (aE (p:=⟨gb503,0,none⟩) (Kd.R_types HO_494000.out BK503.out (by decide)) (fun _ hk=>hk.2) (.bool true)) (fun _ hk=>hk.2) (.int .i64 ((rd_T43 ((rd_T35 x494004_1 x4_1).f1) x6_2).f1))) (fun _ hk=>hk.2) (.int .i64 (Int.tmod ((rd_T43 ((rd_T35 x494004_1 x4_1).f1) x6_2).f1) (x494004_1.length:Int)))) (fun _ h_=>h_.1))) (Kd.R_typed (by(with_reducible repeat(first|apply aA|apply aB|apply aC));exact(Kd.R_mono (aE (p:=⟨gb503,1,none⟩) (aE (p:=⟨gb503,1,none⟩) (aE (p:=⟨gb503,0,none⟩) (Kd.R_mono HO_5.out (fun k_ hk=>(⟨hk,hk.2⟩:_∧k_≠gb503))) (fun _ hk=>hk.2) (.bool true)) (fun _ hk=>hk.2) (.int .i64 ((rd_T43 ((rd_T35 x494004_1 x4_1).f1) x6_2).f1))) (fun _ hk=>hk.2) (.int .i64 (Int.tmod ((rd_T43 ((rd_T35 x494004_1 x4_1).f1) x6_2).f1) (x494004_1.length:Int)))) (fun _ h_=>h_.1)))) (by decide) hg);have n1_:=aM (Kd.R_over' (by(with_reducible repeat(first|apply aA|apply aB|apply aC));exact(Kd.R_mono (aE (p:=⟨gb503,1,none⟩) (aE (p:=⟨gb503,1,none⟩) (aE (p:=⟨gb503,0,none⟩) (Kd.R_types HO_494001.out BK503.out (by decide)) (fun _ hk=>hk.2) (.bool true)) (fun _ hk=>hk.2) (.int .i64 ((rd_T43 ((rd_T35 x494004_1 x4_1).f1) x6_2).f1))) (fun _ hk=>hk.2) (.int .i64 (Int.tmod ((rd_T43 ((rd_T35 x494004_1 x4_1).f1) x6_2).f1) (x494004_1.length:Int)))) (fun _ h_=>h_.1))) (Kd.R_typed (by(with_reducible repeat(first|apply aA|apply aB|apply aC));exact(Kd.R_mono (aE (p:=⟨gb503,1,none⟩) (aE (p:=⟨gb503,1,none⟩) (aE (p:=⟨gb503,0,none⟩) (Kd.R_mono HO_5.out (fun k_ hk=>(⟨hk,hk.2⟩:_∧k_≠gb503))) (fun _ hk=>hk.2) (.bool true)) (fun _ hk=>hk.2) (.int .i64 ((rd_T43 ((rd_T35 x494004_1 x4_1).f1) x6_2).f1))) (fun _ hk=>hk.2) (.int .i64 (Int.tmod ((rd_T43 ((rd_T35 x494004_1 x4_1).f1) x6_2).f1) (x494004_1.length:Int)))) (fun _ h_=>h_.1)))) (by decide) hg);have n2_:=aM (Kd.S_after (ok:=(fun k_=>k_≠gb503)) (by(with_reducible repeat(first|apply Kd.S_alloc|apply aV|apply aW));exact Kd.S_mono (Kd.S_far (p:=⟨gb503,1,none⟩) (Kd.S_far (p:=⟨gb503,1,none⟩) (Kd.S_far (p:=⟨gb503,0,none⟩) (Kd.S_mono HO_494004.out (fun k_ hk=>(⟨hk,hk.2⟩:_∧k_≠gb503))) (fun _ hk=>hk.2) (.bool true)) (fun _ hk=>hk.2) (.int .i64 ((rd_T43 ((rd_T35 x494004_1 x4_1).f1) x6_2).f1))) (fun _ hk=>hk.2) (.int .i64 (Int.tmod ((rd_T43 ((rd_T35 x494004_1 x4_1).f1) x6_2).f1) (x494004_1.length:Int)))) (fun _ hk=>⟨hk.1.2,hk.1.1⟩)) hg hat);have n3_:=aM (blk_grown (g:=gb481) (o:= .cells #[.slice none 0 0,.slice none 0 0,.int .i64 0,.int .i64 0,.slice none 0 0] 26 (0,0)) (by(with_reducible repeat(first|refine aJ ?_ _|refine aK ?_|refine aI ?_ _));refine blk_far ?_ NB481_503.out _;(with_reducible repeat(first|refine aJ ?_ _|refine aK ?_|refine aI ?_ _));refine blk_far ?_ NB481_503.out _;(with_reducible repeat(first|refine aJ ?_ _|refine aK ?_|refine aI ?_ _));refine blk_far ?_ NB481_503.out _;(with_reducible repeat(first|refine aJ ?_ _|refine aK ?_|refine aI ?_ _));exact BK481.out) hg (Kd.R_ne HO_5.out BK481.out (by decide)));have n4_:=aM (blk_grown (g:=gb493) (o:= .cells #[.slice Ao6 t482.length co6,.slice Ao20 y497.length co20,.int .i64 t488,.int .i64 t489,.slice (some ad500) x494004_1.length co15] 26 (0,0)) (by(with_reducible repeat(first|refine aJ ?_ _|refine aK ?_|refine aI ?_ _));refine blk_far ?_ NB493_503.out _;(with_reducible repeat(first|refine aJ ?_ _|refine aK ?_|refine aI ?_ _));refine blk_far ?_ NB493_503.out _;(with_reducible repeat(first|refine aJ ?_ _|refine aK ?_|refine aI ?_ _));refine blk_far ?_ NB493_503.out _;(with_reducible repeat(first|refine aJ ?_ _|refine aK ?_|refine aI ?_ _));exact BK493.out) hg (Kd.R_ne HO_5.out BK493.out (by decide)));have n5_:=aM (Kd.R_after (ok:=(fun k_=>some k_≠(.slice (some ad500) x494004_1.length co15:Value).ownBlock∧k_≠gb503)) (by(with_reducible repeat(first|apply aA|apply aB|apply aC));exact Kd.R_mono (aE (p:=⟨gb503,1,none⟩) (aE (p:=⟨gb503,1,none⟩) (aE (p:=⟨gb503,0,none⟩) (Kd.R_mono HL500_1.out (fun k_ hk=>(⟨hk,hk.2⟩:_∧k_≠gb503))) (fun _ hk=>hk.2) (.bool true)) (fun _ hk=>hk.2) (.int .i64 ((rd_T43 ((rd_T35 x494004_1 x4_1).f1) x6_2).f1))) (fun _ hk=>hk.2) (.int .i64 (Int.tmod ((rd_T43 ((rd_T35 x494004_1 x4_1).f1) x6_2).f1) (x494004_1.length:Int)))) (fun _ hk=>⟨⟨hk.1.1.2,hk.1.2⟩,hk.1.1.1⟩)) hg hat);have n6_:=aM (Kd.R_after (ok:=(fun k_=>some k_≠(.slice (some ad500) x494004_1.length co15:Value).ownBlock∧k_≠gb503)) (by(with_reducible repeat(first|apply aA|apply aB|apply aC));exact Kd.R_mono (aE (p:=⟨gb503,1,none⟩) (aE (p:=⟨gb503,1,none⟩) (aE (p:=⟨gb503,0,none⟩) (Kd.R_mono HL501_1.out (fun k_ hk=>(⟨hk,hk.2⟩:_∧k_≠gb503))) (fun _ hk=>hk.2) (.bool true)) (fun _ hk=>hk.2) (.int .i64 ((rd_T43 ((rd_T35 x494004_1 x4_1).f1) x6_2).f1))) (fun _ hk=>hk.2) (.int .i64 (Int.tmod ((rd_T43 ((rd_T35 x494004_1 x4_1).f1) x6_2).f1) (x494004_1.length:Int)))) (fun _ hk=>⟨⟨hk.1.1.2,hk.1.2⟩,hk.1.1.1⟩)) hg hat);have n7_:=aM (blk_grown (g:=gb503) (o:= .cells #[.bool true,.int .i64 (Int.tmod ((rd_T43 ((rd_T35 x494004_1 x4_1).f1) x6_2).f1) (x494004_1.length:Int))] 43 (0,0)) (by(with_reducible repeat(first|refine aJ ?_ _|refine aK ?_|refine aI ?_ _));refine blk_put (cs:=#[.bool true,.int .i64 ((rd_T43 ((rd_T35 x494004_1 x4_1).f1) x6_2).f1)]) ?_ 1 _ rfl;(with_reducible repeat(first|refine aJ ?_ _|refine aK ?_|refine aI ?_ _));refine blk_put (cs:=#[.bool true,.int .i64 0]) ?_ 1 _ rfl;(with_reducible repeat(first|refine aJ ?_ _|refine aK ?_|refine aI ?_ _));refine blk_put (cs:=#[.bool false,.int .i64 0]) ?_ 0 _ rfl;(with_reducible repeat(first|refine aJ ?_ _|refine aK ?_|refine aI ?_ _));exact BK503.out) hg (Kd.R_away HO_5.out (fun _ hk=>hk.2)));have n8_:=aM (hb);have n9_:=aM (ho);clear HO_494000;clear HO_494001;clear HO_494004;clear BK481;clear BK493;clear HL500_1;clear HL501_1;clear BK503;clear HB;clear HO_5;have HO_494000:=n0_;have HO_494001:=n1_;have HO_494004:=n2_;have BK481:=n3_;have BK493:=n4_;have HL500_1:=n5_;have HL501_1:=n6_;have BK503:=n7_;have HB:=n8_;have HO506:=n9_;clear n0_ n1_ n2_ n3_ n4_ n5_ n6_ n7_ n8_ n9_;clear ho hb hg hat))
        go_roundg k2
        case measure=>have:=HK1.out;have:=HK2.out;omega
        case rel=>exact⟨(y504),(wrap64 (x6_2+1)),(by first|rfl|(simp;done)|(simp [*];done)),H',⟨by have:=HK1.out;have:=HK2.out;omega⟩,⟨by(with_reducible repeat(first|apply aA|apply aB|apply aC));exact Kd.R_mono HO506.out (fun _ hk=>trivial)⟩,⟨by(with_reducible repeat(first|apply aA|apply aB|apply aC));exact HO_494000.out⟩,⟨by(with_reducible repeat(first|apply aA|apply aB|apply aC));exact HO_494001.out⟩,⟨by(with_reducible repeat(first|apply Kd.S_alloc|apply aV|apply aW));exact Kd.S_mono HO_494004.out (fun _ hk=>hk.2)⟩,⟨by(with_reducible repeat(first|refine aJ ?_ _|refine aK ?_|refine aI ?_ _));exact BK481.out⟩,⟨by(with_reducible repeat(first|refine aJ ?_ _|refine aK ?_|refine aI ?_ _));exact BK493.out⟩,⟨by repeat(first|(with_reducible first|exact HB.out|apply aN|apply aP|apply aO|refine aL ?_ GE481.out|refine aL ?_ GE493.out|refine aL ?_ GE503.out)|exact HB.out)⟩⟩
       ·replace c27:=Bool.eq_false_iff.mpr c27
        subst c27
        have H1:(if x5_2.length<8796093022208 then(regletlaw14_Clear.l1 k2 x4_1 (x5_2++ [(⟨false,(rd_T43 ((rd_T35 x494004_1 x4_1).f1) x6_2).f1⟩:S43)]) (wrap64 (x6_2+1)) t482 y497 t488 t489 x494004_1) else(none))=some (r1,r2,r3,r4,r5):=by rw [if_neg (show ¬(false=true) by decide)] at H;exact H
        clear H
        have H:=H1
        clear H1
        by_cases c38:x5_2.length<8796093022208
        rotate_left
        ·rw [if_neg c38] at H
         exact absurd H (by simp)
        rw [if_pos c38] at H
        have LMc38:=aM c38
        clear c38
        obtain⟨y507,hy507⟩:∃y_:List (S43),y_=(x5_2++ [(⟨false,(rd_T43 ((rd_T35 x494004_1 x4_1).f1) x6_2).f1⟩:S43)]):=⟨_,rfl⟩
        replace H:(regletlaw14_Clear.l1 k2 x4_1 y507 (wrap64 (x6_2+1)) t482 y497 t488 t489 x494004_1)=some (r1,r2,r3,r4,r5):=by first|(rw [hy507];with_reducible exact H)|(have H2_:=(Option.bind_some _ _).symm.trans H;rw [hy507];with_reducible exact H2_)|(have H2_:=(Option.bind_some _ _).symm.trans H;with_reducible exact H2_)|with_reducible exact H|(rw [hy507];exact H)|exact H
        have Ny507:=aM hy507
        clear hy507
        have H':=aM H
        clear H
        have hnb39:=NB493_481.out
        have hnc39:=NB481_493.out
        have hcz40_0:wr.cell? ⟨gb493,0,none⟩=some (.slice Ao6 t482.length co6):=(aG BK493.out 0).trans rfl
        have hcz40_1:wr.cell? ⟨gb493,1,none⟩=some (.slice Ao20 y497.length co20):=(aG BK493.out 1).trans rfl
        have hcz40_2:wr.cell? ⟨gb493,2,none⟩=some (.int .i64 t488):=(aG BK493.out 2).trans rfl
        have hcz40_3:wr.cell? ⟨gb493,3,none⟩=some (.int .i64 t489):=(aG BK493.out 3).trans rfl
        have hcz40_4:wr.cell? ⟨gb493,4,none⟩=some (.slice Ao15 x494004_1.length co15):=(aG BK493.out 4).trans rfl
        have hfz40_0:=aH BK493.out 0
        have hfz40_1:=aH BK493.out 1
        have hfz40_2:=aH BK493.out 2
        have hfz40_3:=aH BK493.out 3
        have hfz40_4:=aH BK493.out 4
        have p500:0≤(x4_1:Int):=of_decide_eq_true (by first|(with_reducible assumption)|assumption)
        have q500:x4_1<(x494004_1.length:Int):=of_decide_eq_true (by first|(with_reducible assumption)|assumption)
        obtain⟨ad500,A500_1,c500_1,e500,hx500_0,hx500_1,hl500_1,hi500_1⟩:=at_T35 (Kd.S_reads' HO_494004.out).2.2 x4_1 p500 q500
        cases e500
        obtain⟨ce500,hce500,hMe500,hcc500⟩:=Kd.S_get HO_494004.out z35 x4_1 p500 (by first|exact q500|exact of_decide_eq_true (by first|(with_reducible assumption)|assumption)|(have e_:=(Kd.S_reads' HO_494004.out).1;omega))
        obtain⟨ve500_1,rfl,ge500_1⟩:=k35_openM hMe500
        have hv500_1:=hcc500 1 _ rfl
        rw [add_field _ _ 1 (by omega)] at hv500_1
        replace hv500_1:=Option.some.inj (hv500_1.symm.trans hx500_1)
        rw [hv500_1] at ge500_1
        have HL500_1:=aM (show Kd.R k43 43 _ _ _ _ ((rd_T35 x494004_1 x4_1).f1) from ge500_1)
        clear hv500_1 ge500_1
        have HX500_1:=aM hx500_1
        clear hcc500 hce500
        have HR500_1:=aM hi500_1
        have HC500_1:=aM hl500_1
        clear hi500_1 hl500_1
        replace p500:=eq_true p500
        replace q500:=eq_true q500
        have p501:0≤(x4_1:Int):=of_decide_eq_true (by first|(with_reducible assumption)|assumption)
        have q501:x4_1<(x494004_1.length:Int):=of_decide_eq_true (by first|(with_reducible assumption)|assumption)
        obtain⟨ad501,A501_1,c501_1,e501,hx501_0,hx501_1,hl501_1,hi501_1⟩:=at_T35 (Kd.S_reads' HO_494004.out).2.2 x4_1 p501 q501
        obtain rfl:ad500=ad501:=(by injection e501)
        obtain⟨ce501,hce501,hMe501,hcc501⟩:=Kd.S_get HO_494004.out z35 x4_1 p501 (by first|exact q501|exact of_decide_eq_true (by first|(with_reducible assumption)|assumption)|(have e_:=(Kd.S_reads' HO_494004.out).1;omega))
        obtain⟨ve501_1,rfl,ge501_1⟩:=k35_openM hMe501
        have hv501_1:=hcc501 1 _ rfl
        rw [add_field _ _ 1 (by omega)] at hv501_1
        replace hv501_1:=Option.some.inj (hv501_1.symm.trans hx501_1)
        rw [hv501_1] at ge501_1
        have HL501_1:=aM (show Kd.R k43 43 _ _ _ _ ((rd_T35 x494004_1 x4_1).f1) from ge501_1)
        clear hv501_1 ge501_1
        have HX501_1:=aM hx501_1
        clear hcc501 hce501
        have HR501_1:=aM hi501_1
        have HC501_1:=aM hl501_1
        clear hi501_1 hl501_1
        replace p501:=eq_true p501
        replace q501:=eq_true q501
        have ea_:=Option.some.inj (hx500_1.symm.trans hx501_1)
        injection ea_ with ea_ en_ ec_
        subst ea_
        subst ec_
        clear en_
        have p502:0≤(x6_2:Int):=of_decide_eq_true (by first|(with_reducible assumption)|assumption)
        have q502:x6_2<(((rd_T35 x494004_1 x4_1).f1).length:Int):=of_decide_eq_true (by first|(with_reducible assumption)|assumption)
        obtain⟨ad502,e502,hx502_0,hx502_1⟩:=at_T43 (by repeat(first|(with_reducible exact HR501_1.out)|(with_reducible refine Kd.C_alloc ?_ _)|(with_reducible refine Kd.C_drewN ?_ _)|(with_reducible refine bC ?_)|exact HR501_1.out)) x6_2 p502 q502
        (try rw [←Nbq26.out] at hx502_0)
        cases e502
        replace p502:=eq_true p502
        replace q502:=eq_true q502
        go_wp2_with (first|((with_reducible refine bJ (N:=7) rfl ?_);refine box_event ?hg (N:=7) ?hd (cs:=#[.bool false,.int .i64 0]) (t:=43) ?hr ?_;(case hd=>rfl);(case hg=>rfl);(case hr=>first|(go_simp;done)|(go_simp;rfl));intro gb503 hg w41 hbox hb;have n0_:=aM (aD (Kd.R_elderB (by(with_reducible repeat(first|apply aA|apply aB|apply aC));exact HO_5.out) gb503 (Nat.le_of_eq hg.symm)) hb);have n1_:=aM (aD (by(with_reducible repeat(first|apply aA|apply aB|apply aC));exact HO_494000.out) hb);have n2_:=aM (aD (by(with_reducible repeat(first|apply aA|apply aB|apply aC));exact HO_494001.out) hb);have n3_:=aM (Kd.S_below (Kd.S_elderB (by(with_reducible repeat(first|apply Kd.S_alloc|apply aV|apply aW));exact HO_494004.out) gb503 (Nat.le_of_eq hg.symm)) hb);have n4_:=aM (aD (Kd.R_elderB (by(with_reducible repeat(first|apply aA|apply aB|apply aC));exact HL500_1.out) gb503 (Nat.le_of_eq hg.symm)) hb);have n5_:=aM (aD (Kd.R_elderB (by(with_reducible repeat(first|apply aA|apply aB|apply aC));exact HL501_1.out) gb503 (Nat.le_of_eq hg.symm)) hb);have n6_:=aM (bF (g:=gb481) (o:= .cells #[.slice none 0 0,.slice none 0 0,.int .i64 0,.int .i64 0,.slice none 0 0] 26 (0,0)) (by(with_reducible repeat(first|refine aJ ?_ _|refine aK ?_|refine aI ?_ _));exact BK481.out) hb);have n7_:=aM (bF (g:=gb493) (o:= .cells #[.slice Ao6 t482.length co6,.slice Ao20 y497.length co20,.int .i64 t488,.int .i64 t489,.slice (some ad500) x494004_1.length co15] 26 (0,0)) (by(with_reducible repeat(first|refine aJ ?_ _|refine aK ?_|refine aI ?_ _));exact BK493.out) hb);have n8_:=aM (bD (by repeat(first|(with_reducible exact HR500_1.out)|(with_reducible refine Kd.C_alloc ?_ _)|(with_reducible refine Kd.C_drewN ?_ _)|(with_reducible refine bC ?_)|exact HR500_1.out)) hb);have n9_:=aM (pw_cell_below hb HX500_1.out);have n10_:=aM (bD (by repeat(first|(with_reducible exact HR501_1.out)|(with_reducible refine Kd.C_alloc ?_ _)|(with_reducible refine Kd.C_drewN ?_ _)|(with_reducible refine bC ?_)|exact HR501_1.out)) hb);have n11_:=aM (pw_cell_below hb HX501_1.out);have n12_:=aM (bG (by repeat(first|(with_reducible first|exact HB.out|apply aN|apply aP|apply aO|refine aL ?_ GE481.out|refine aL ?_ GE493.out)|exact HB.out)) hb);have n13_:=aM (hbox);have n14_:=aM ((by rw [hg];exact(bH (by repeat(first|(with_reducible first|exact HB.out|apply aN|apply aP|apply aO|refine aL ?_ GE481.out|refine aL ?_ GE493.out)|exact HB.out))):w.heap.size≤gb503));have n15_:=aM ((by rw [hg];exact(bH (by repeat(first|(with_reducible first|exact HB.out|apply aN|apply aP|apply aO|refine aL ?_ GE481.out|refine aL ?_ GE493.out)|exact HB.out))):w.heap.size≤gb503));have n16_:=aM ((by rw [hg];exact Nat.ne_of_lt (bN (g:=gb481) (o:= .cells #[.slice none 0 0,.slice none 0 0,.int .i64 0,.int .i64 0,.slice none 0 0] 26 (0,0)) (by(with_reducible repeat(first|refine aJ ?_ _|refine aK ?_|refine aI ?_ _));exact BK481.out)):gb481≠gb503));have n17_:=aM ((by rw [hg];exact Nat.ne_of_gt (bN (g:=gb481) (o:= .cells #[.slice none 0 0,.slice none 0 0,.int .i64 0,.int .i64 0,.slice none 0 0] 26 (0,0)) (by(with_reducible repeat(first|refine aJ ?_ _|refine aK ?_|refine aI ?_ _));exact BK481.out)):gb503≠gb481));have n18_:=aM ((by rw [hg];exact Nat.ne_of_lt (bN (g:=gb493) (o:= .cells #[.slice Ao6 t482.length co6,.slice Ao20 y497.length co20,.int .i64 t488,.int .i64 t489,.slice (some ad500) x494004_1.length co15] 26 (0,0)) (by(with_reducible repeat(first|refine aJ ?_ _|refine aK ?_|refine aI ?_ _));exact BK493.out)):gb493≠gb503));have n19_:=aM ((by rw [hg];exact Nat.ne_of_gt (bN (g:=gb493) (o:= .cells #[.slice Ao6 t482.length co6,.slice Ao20 y497.length co20,.int .i64 t488,.int .i64 t489,.slice (some ad500) x494004_1.length co15] 26 (0,0)) (by(with_reducible repeat(first|refine aJ ?_ _|refine aK ?_|refine aI ?_ _));exact BK493.out)):gb503≠gb493));clear HO_5;clear HO_494000;clear HO_494001;clear HO_494004;clear HL500_1;clear HL501_1;clear BK481;clear BK493;clear HR500_1;clear HX500_1;clear HR501_1;clear HX501_1;clear HB;have HO_5:=n0_;have HO_494000:=n1_;have HO_494001:=n2_;have HO_494004:=n3_;have HL500_1:=n4_;have HL501_1:=n5_;have BK481:=n6_;have BK493:=n7_;have HR500_1:=n8_;have HX500_1:=n9_;have HR501_1:=n10_;have HX501_1:=n11_;have HB:=n12_;have BK503:=n13_;have GW503:=n14_;have GE503:=n15_;have NB481_503:=n16_;have NB503_481:=n17_;have NB493_503:=n18_;have NB503_493:=n19_;clear n0_ n1_ n2_ n3_ n4_ n5_ n6_ n7_ n8_ n9_ n10_ n11_ n12_ n13_ n14_ n15_ n16_ n17_ n18_ n19_;clear hb hbox hg;have hnb42:=NB503_481.out;have hnc42:=NB481_503.out;have hnb43:=NB503_493.out;have hnc43:=NB493_503.out;have hcz44_0:w41.cell? ⟨gb503,0,none⟩=some (.bool false):=(aG BK503.out 0).trans rfl;have hcz44_1:w41.cell? ⟨gb503,1,none⟩=some (.int .i64 0):=(aG BK503.out 1).trans rfl;have hdz44:∀(v0 v1 y:Value),(((w41.setCell ⟨gb503,0,none⟩ v0).setCell ⟨gb503,1,none⟩ v1).setCell ⟨gb503,1,none⟩ y).cell? ⟨gb503,1,none⟩=some y:=fun v0 v1 y=>World.cell?_setCell_same _ _ _ (World.cell?_setCell_same _ _ _ ((World.cell?_setCell_other _ _ _ _ (by simp)).trans hcz44_1));have hfz44_0:=aH BK503.out 0;have hfz44_1:=aH BK503.out 1)|((with_reducible refine gate_builtin (b:= .append) (xs:=#[.tmp 59,.tmp 61]) rfl ?_);at_builtin;refine Kd.R_append k43 (w0:=w) w.heap.size rfl (.tmp 59) (.tmp 61) 29 43 (.agg #[(.bool false),(.int .i64 0)]) 16 rfl Try.underlying29 info43 rfl (by decide) (by omega) u5 x5_2 (⟨false,(rd_T43 ((rd_T35 x494004_1 x4_1).f1) x6_2).f1⟩:S43) [.bool false,.int .i64 ((rd_T43 ((rd_T35 x494004_1 x4_1).f1) x6_2).f1)] (fun k_=>k_≠gb503) (fun _=>False) rfl (by first|(go_simp;done)|(go_simp;rfl)) ?aP (fun _ hk=>hk.elim) ?aF ?aO ?aB ?aS ?aL ?_;(case aP=>exact k43_mkM _ _ _ (⟨false,(rd_T43 ((rd_T35 x494004_1 x4_1).f1) x6_2).f1⟩:S43));(case aB=>exact(by repeat(first|(with_reducible first|exact HB.out|apply aN|apply aP|apply aO|refine aL ?_ GE481.out|refine aL ?_ GE493.out|refine aL ?_ GE503.out)|exact HB.out)));(case aF=>exact(fun k_ hk=>Kd.freshB (g:=gb503) (o:= .cells #[.bool false,.int .i64 ((rd_T43 ((rd_T35 x494004_1 x4_1).f1) x6_2).f1)] 43 (0,0)) (by(with_reducible repeat(first|refine aJ ?_ _|refine aK ?_|refine aI ?_ _));refine blk_put (cs:=#[.bool false,.int .i64 0]) ?_ 1 _ rfl;(with_reducible repeat(first|refine aJ ?_ _|refine aK ?_|refine aI ?_ _));refine blk_put (cs:=#[.bool false,.int .i64 0]) ?_ 0 _ rfl;(with_reducible repeat(first|refine aJ ?_ _|refine aK ?_|refine aI ?_ _));exact BK503.out) k_ hk));(case aO=>exact(by(with_reducible repeat(first|apply aA|apply aB|apply aC));exact Kd.R_mono (aE (p:=⟨gb503,1,none⟩) (aE (p:=⟨gb503,0,none⟩) (Kd.R_mono HO_5.out (fun k_ hk=>(⟨hk,hk.2⟩:_∧k_≠gb503))) (fun _ hk=>hk.2) (.bool false)) (fun _ hk=>hk.2) (.int .i64 ((rd_T43 ((rd_T35 x494004_1 x4_1).f1) x6_2).f1))) (fun _ hk=>hk.1.2)));(case aS=>exact(bH (by repeat(first|(with_reducible first|exact HB.out|apply aN|apply aP|apply aO|refine aL ?_ GE481.out|refine aL ?_ GE493.out|refine aL ?_ GE503.out)|exact HB.out))));(case aL=>have:=LMc38.out;omega);intro v508 w45 ho hb hg hat;rw [←Ny507.out] at ho;have n0_:=aM (Kd.R_over' (by(with_reducible repeat(first|apply aA|apply aB|apply aC));exact(Kd.R_mono (aE (p:=⟨gb503,1,none⟩) (aE (p:=⟨gb503,0,none⟩) (Kd.R_types HO_494000.out BK503.out (by decide)) (fun _ hk=>hk.2) (.bool false)) (fun _ hk=>hk.2) (.int .i64 ((rd_T43 ((rd_T35 x494004_1 x4_1).f1) x6_2).f1))) (fun _ h_=>h_.1))) (Kd.R_typed (by(with_reducible repeat(first|apply aA|apply aB|apply aC));exact(Kd.R_mono (aE (p:=⟨gb503,1,none⟩) (aE (p:=⟨gb503,0,none⟩) (Kd.R_mono HO_5.out (fun k_ hk=>(⟨hk,hk.2⟩:_∧k_≠gb503))) (fun _ hk=>hk.2) (.bool false)) (fun _ hk=>hk.2) (.int .i64 ((rd_T43 ((rd_T35 x494004_1 x4_1).f1) x6_2).f1))) (fun _ h_=>h_.1)))) (by decide) hg);have n1_:=aM (Kd.R_over' (by(with_reducible repeat(first|apply aA|apply aB|apply aC));exact(Kd.R_mono (aE (p:=⟨gb503,1,none⟩) (aE (p:=⟨gb503,0,none⟩) (Kd.R_types HO_494001.out BK503.out (by decide)) (fun _ hk=>hk.2) (.bool false)) (fun _ hk=>hk.2) (.int .i64 ((rd_T43 ((rd_T35 x494004_1 x4_1).f1) x6_2).f1))) (fun _ h_=>h_.1))) (Kd.R_typed (by(with_reducible repeat(first|apply aA|apply aB|apply aC));exact(Kd.R_mono (aE (p:=⟨gb503,1,none⟩) (aE (p:=⟨gb503,0,none⟩) (Kd.R_mono HO_5.out (fun k_ hk=>(⟨hk,hk.2⟩:_∧k_≠gb503))) (fun _ hk=>hk.2) (.bool false)) (fun _ hk=>hk.2) (.int .i64 ((rd_T43 ((rd_T35 x494004_1 x4_1).f1) x6_2).f1))) (fun _ h_=>h_.1)))) (by decide) hg);have n2_:=aM (Kd.S_after (ok:=(fun k_=>k_≠gb503)) (by(with_reducible repeat(first|apply Kd.S_alloc|apply aV|apply aW));exact Kd.S_mono (Kd.S_far (p:=⟨gb503,1,none⟩) (Kd.S_far (p:=⟨gb503,0,none⟩) (Kd.S_mono HO_494004.out (fun k_ hk=>(⟨hk,hk.2⟩:_∧k_≠gb503))) (fun _ hk=>hk.2) (.bool false)) (fun _ hk=>hk.2) (.int .i64 ((rd_T43 ((rd_T35 x494004_1 x4_1).f1) x6_2).f1))) (fun _ hk=>⟨hk.1.2,hk.1.1⟩)) hg hat);have n3_:=aM (blk_grown (g:=gb481) (o:= .cells #[.slice none 0 0,.slice none 0 0,.int .i64 0,.int .i64 0,.slice none 0 0] 26 (0,0)) (by(with_reducible repeat(first|refine aJ ?_ _|refine aK ?_|refine aI ?_ _));refine blk_far ?_ NB481_503.out _;(with_reducible repeat(first|refine aJ ?_ _|refine aK ?_|refine aI ?_ _));refine blk_far ?_ NB481_503.out _;(with_reducible repeat(first|refine aJ ?_ _|refine aK ?_|refine aI ?_ _));exact BK481.out) hg (Kd.R_ne HO_5.out BK481.out (by decide)));have n4_:=aM (blk_grown (g:=gb493) (o:= .cells #[.slice Ao6 t482.length co6,.slice Ao20 y497.length co20,.int .i64 t488,.int .i64 t489,.slice (some ad500) x494004_1.length co15] 26 (0,0)) (by(with_reducible repeat(first|refine aJ ?_ _|refine aK ?_|refine aI ?_ _));refine blk_far ?_ NB493_503.out _;(with_reducible repeat(first|refine aJ ?_ _|refine aK ?_|refine aI ?_ _));refine blk_far ?_ NB493_503.out _;(with_reducible repeat(first|refine aJ ?_ _|refine aK ?_|refine aI ?_ _));exact BK493.out) hg (Kd.R_ne HO_5.out BK493.out (by decide)));have n5_:=aM (Kd.R_after (ok:=(fun k_=>some k_≠(.slice (some ad500) x494004_1.length co15:Value).ownBlock∧k_≠gb503)) (by(with_reducible repeat(first|apply aA|apply aB|apply aC));exact Kd.R_mono (aE (p:=⟨gb503,1,none⟩) (aE (p:=⟨gb503,0,none⟩) (Kd.R_mono HL500_1.out (fun k_ hk=>(⟨hk,hk.2⟩:_∧k_≠gb503))) (fun _ hk=>hk.2) (.bool false)) (fun _ hk=>hk.2) (.int .i64 ((rd_T43 ((rd_T35 x494004_1 x4_1).f1) x6_2).f1))) (fun _ hk=>⟨⟨hk.1.1.2,hk.1.2⟩,hk.1.1.1⟩)) hg hat);have n6_:=aM (Kd.R_after (ok:=(fun k_=>some k_≠(.slice (some ad500) x494004_1.length co15:Value).ownBlock∧k_≠gb503)) (by(with_reducible repeat(first|apply aA|apply aB|apply aC));exact Kd.R_mono (aE (p:=⟨gb503,1,none⟩) (aE (p:=⟨gb503,0,none⟩) (Kd.R_mono HL501_1.out (fun k_ hk=>(⟨hk,hk.2⟩:_∧k_≠gb503))) (fun _ hk=>hk.2) (.bool false)) (fun _ hk=>hk.2) (.int .i64 ((rd_T43 ((rd_T35 x494004_1 x4_1).f1) x6_2).f1))) (fun _ hk=>⟨⟨hk.1.1.2,hk.1.2⟩,hk.1.1.1⟩)) hg hat);have n7_:=aM (blk_grown (g:=gb503) (o:= .cells #[.bool false,.int .i64 ((rd_T43 ((rd_T35 x494004_1 x4_1).f1) x6_2).f1)] 43 (0,0)) (by(with_reducible repeat(first|refine aJ ?_ _|refine aK ?_|refine aI ?_ _));refine blk_put (cs:=#[.bool false,.int .i64 0]) ?_ 1 _ rfl;(with_reducible repeat(first|refine aJ ?_ _|refine aK ?_|refine aI ?_ _));refine blk_put (cs:=#[.bool false,.int .i64 0]) ?_ 0 _ rfl;(with_reducible repeat(first|refine aJ ?_ _|refine aK ?_|refine aI ?_ _));exact BK503.out) hg (Kd.R_away HO_5.out (fun _ hk=>hk.2)));have n8_:=aM (hb);have n9_:=aM (ho);clear HO_494000;clear HO_494001;clear HO_494004;clear BK481;clear BK493;clear HL500_1;clear HL501_1;clear BK503;clear HB;clear HO_5;have HO_494000:=n0_;have HO_494001:=n1_;have HO_494004:=n2_;have BK481:=n3_;have BK493:=n4_;have HL500_1:=n5_;have HL501_1:=n6_;have BK503:=n7_;have HB:=n8_;have HO509:=n9_;clear n0_ n1_ n2_ n3_ n4_ n5_ n6_ n7_ n8_ n9_;clear ho hb hg hat))
        go_roundg k2
        case measure=>have:=HK1.out;have:=HK2.out;omega
        case rel=>exact⟨(y507),(wrap64 (x6_2+1)),(by first|rfl|(simp;done)|(simp [*];done)),H',⟨by have:=HK1.out;have:=HK2.out;omega⟩,⟨by(with_reducible repeat(first|apply aA|apply aB|apply aC));exact Kd.R_mono HO509.out (fun _ hk=>trivial)⟩,⟨by(with_reducible repeat(first|apply aA|apply aB|apply aC));exact HO_494000.out⟩,⟨by(with_reducible repeat(first|apply aA|apply aB|apply aC));exact HO_494001.out⟩,⟨by(with_reducible repeat(first|apply Kd.S_alloc|apply aV|apply aW));exact Kd.S_mono HO_494004.out (fun _ hk=>hk.2)⟩,⟨by(with_reducible repeat(first|refine aJ ?_ _|refine aK ?_|refine aI ?_ _));exact BK481.out⟩,⟨by(with_reducible repeat(first|refine aJ ?_ _|refine aK ?_|refine aI ?_ _));exact BK493.out⟩,⟨by repeat(first|(with_reducible first|exact HB.out|apply aN|apply aP|apply aO|refine aL ?_ GE481.out|refine aL ?_ GE493.out|refine aL ?_ GE503.out)|exact HB.out)⟩⟩
      ·rw [if_neg c24] at H
       have c24b0:decide (x6_2<(((rd_T35 x494004_1 x4_1).f1).length:Int))=false:=decide_eq_false c24
       clear c24
       by_cases c46:(x5_2.length:Int)>0
       ·rw [if_pos c46] at H
        have c46b0:decide (0<(x5_2.length:Int))=true:=decide_eq_true c46
        have c46b1:decide (0<x5_2.length)=true:=decide_eq_true (by omega)
        clear c46
        by_cases c47:0<(x5_2.length:Int)
        rotate_left
        ·rw [if_neg c47] at H
         exact absurd H (by simp)
        rw [if_pos c47] at H
        have c47b0:decide (0<(x5_2.length:Int))=true:=decide_eq_true c47
        have c47b1:decide (0<x5_2.length)=true:=decide_eq_true (by omega)
        clear c47
        obtain⟨y510,hy510⟩:∃y_:List (S43),y_=(x5_2.set (0:Int).toNat (⟨true,x4_1⟩:S43)):=⟨_,rfl⟩
        replace H:(regletlaw14_Clear.l0 k2 (wrap64 (x4_1+1)) t482 y497 t488 t489 (x494004_1.set (x4_1:Int).toNat (⟨(rd_T35 x494004_1 x4_1).f0,y510⟩:S35)))=some (r1,r2,r3,r4,r5):=by first|(rw [hy510];with_reducible exact H)|(have H2_:=(Option.bind_some _ _).symm.trans H;rw [hy510];with_reducible exact H2_)|(have H2_:=(Option.bind_some _ _).symm.trans H;with_reducible exact H2_)|with_reducible exact H|(rw [hy510];exact H)|exact H
        have Ny510:=aM hy510
        clear hy510
        obtain⟨y511,hy511⟩:∃y_:List (S35),y_=(x494004_1.set (x4_1:Int).toNat (⟨(rd_T35 x494004_1 x4_1).f0,y510⟩:S35)):=⟨_,rfl⟩
        replace H:(regletlaw14_Clear.l0 k2 (wrap64 (x4_1+1)) t482 y497 t488 t489 y511)=some (r1,r2,r3,r4,r5):=by first|(rw [hy511];with_reducible exact H)|(have H2_:=(Option.bind_some _ _).symm.trans H;rw [hy511];with_reducible exact H2_)|(have H2_:=(Option.bind_some _ _).symm.trans H;with_reducible exact H2_)|with_reducible exact H|(rw [hy511];exact H)|exact H
        have Ny511:=aM hy511
        clear hy511
        have H':=aM H
        clear H
        have hnb50:=NB493_481.out
        have hnc50:=NB481_493.out
        have hcz51_0:wr.cell? ⟨gb493,0,none⟩=some (.slice Ao6 t482.length co6):=(aG BK493.out 0).trans rfl
        have hcz51_1:wr.cell? ⟨gb493,1,none⟩=some (.slice Ao20 y497.length co20):=(aG BK493.out 1).trans rfl
        have hcz51_2:wr.cell? ⟨gb493,2,none⟩=some (.int .i64 t488):=(aG BK493.out 2).trans rfl
        have hcz51_3:wr.cell? ⟨gb493,3,none⟩=some (.int .i64 t489):=(aG BK493.out 3).trans rfl
        have hcz51_4:wr.cell? ⟨gb493,4,none⟩=some (.slice Ao15 x494004_1.length co15):=(aG BK493.out 4).trans rfl
        have hfz51_0:=aH BK493.out 0
        have hfz51_1:=aH BK493.out 1
        have hfz51_2:=aH BK493.out 2
        have hfz51_3:=aH BK493.out 3
        have hfz51_4:=aH BK493.out 4
        have p500:0≤(x4_1:Int):=of_decide_eq_true (by first|(with_reducible assumption)|assumption)
        have q500:x4_1<(x494004_1.length:Int):=of_decide_eq_true (by first|(with_reducible assumption)|assumption)
        obtain⟨ad500,A500_1,c500_1,e500,hx500_0,hx500_1,hl500_1,hi500_1⟩:=at_T35 (Kd.S_reads' HO_494004.out).2.2 x4_1 p500 q500
        cases e500
        obtain⟨ce500,hce500,hMe500,hcc500⟩:=Kd.S_get HO_494004.out z35 x4_1 p500 (by first|exact q500|exact of_decide_eq_true (by first|(with_reducible assumption)|assumption)|(have e_:=(Kd.S_reads' HO_494004.out).1;omega))
        obtain⟨ve500_1,rfl,ge500_1⟩:=k35_openM hMe500
        have hv500_1:=hcc500 1 _ rfl
        rw [add_field _ _ 1 (by omega)] at hv500_1
        replace hv500_1:=Option.some.inj (hv500_1.symm.trans hx500_1)
        rw [hv500_1] at ge500_1
        have HL500_1:=aM (show Kd.R k43 43 _ _ _ _ ((rd_T35 x494004_1 x4_1).f1) from ge500_1)
        clear hv500_1 ge500_1
        have HX500_1:=aM hx500_1
        clear hcc500 hce500
        have HR500_1:=aM hi500_1
        have HC500_1:=aM hl500_1
        clear hi500_1 hl500_1
        replace p500:=eq_true p500
        replace q500:=eq_true q500
        obtain⟨Ao52,co52,eo52⟩:=Kd.R_slice HO_5.out
        subst eo52
        have p48:0≤(0:Int):=(by omega)
        have q48:(0:Int)<((x5_2.length:Int):Int):=of_decide_eq_true (by first|(with_reducible assumption)|assumption)
        have qi48:(0<x5_2.length)=True:=eq_true (by omega)
        obtain⟨go48,co48,eo48,gb48,gl48,cl48,HG48⟩:=Kd.R_form HO_5.out (by omega)
        (first|cases eo48|(injection eo48 with ea_ en_ ec_;(first|subst ea_|(injection ea_ with ea_;subst ea_));subst ec_;clear en_))
        have GB48:=aM gb48
        have GG48:=aM HG48
        clear gb48 gl48 HG48
        obtain⟨ce48,hcl48,hM48,hcc48,hfr48⟩:=Kd.R_elem HO_5.out z43 (0:Int) p48 q48
        obtain rfl:=k43_openM hM48
        have hx48_0:wr.cell? ⟨go48,(0:Int).toNat * 2,none⟩=some (.bool ((rd_T43 x5_2 0).f0)):=hcc48 0 _ rfl
        have hx48_1:wr.cell? ⟨go48,(0:Int).toNat * 2+1,none⟩=some (.int .i64 ((rd_T43 x5_2 0).f1)):=hcc48 1 _ rfl
        have hf48_0:wr.frozen? ⟨go48,(0:Int).toNat * 2,none⟩=false:=hfr48 0
        have hf48_1:wr.frozen? ⟨go48,(0:Int).toNat * 2+1,none⟩=false:=hfr48 1
        clear hcl48 hcc48 hfr48;(try clear hM48)
        (try rw [show((0:Int)).toNat=0 from rfl] at hx48_0)
        (try simp only [Nat.reduceMul,Nat.zero_mul,Nat.zero_add,Nat.reduceAdd] at hx48_0)
        (try rw [show((0:Int)).toNat=0 from rfl] at hf48_0)
        (try simp only [Nat.reduceMul,Nat.zero_mul,Nat.zero_add,Nat.reduceAdd] at hf48_0)
        (try rw [show((0:Int)).toNat=0 from rfl] at hx48_1)
        (try simp only [Nat.reduceMul,Nat.zero_mul,Nat.zero_add,Nat.reduceAdd] at hx48_1)
        (try rw [show((0:Int)).toNat=0 from rfl] at hf48_1)
        (try simp only [Nat.reduceMul,Nat.zero_mul,Nat.zero_add,Nat.reduceAdd] at hf48_1)
        replace p48:=eq_true p48
        replace q48:=eq_true q48
        have HX53:=aM (show Kd.R k43 43 wr w.heap.size (fun _=>True) (.slice (some ⟨go48,0,none⟩) x5_2.length co52) x5_2 from(by(with_reducible repeat(first|apply aA|apply aB|apply aC));exact HO_5.out))
        obtain⟨ce53,hcl53,hM53,hcc53,hfr53⟩:=Kd.R_elem HX53.out z43 (0:Int) (by omega) (by have h_:(0:Int)<((x5_2.length:Int):Int):=of_decide_eq_true (by first|(with_reducible assumption)|assumption);first|exact h_|(have e_:=(aF HO_5.out).1;omega)|simpa using h_)
        obtain rfl:=k43_openM hM53
        have HP53:=Kd.R_seg HX53.out (0:Int) (by omega) (by have h_:(0:Int)<((x5_2.length:Int):Int):=of_decide_eq_true (by first|(with_reducible assumption)|assumption);first|exact h_|(have e_:=(aF HO_5.out).1;omega)|simpa using h_) (seg:= [.bool true,.int .i64 x4_1]) (j:=0) hcl53 hcc53 (show 2≤2 from by decide) (x':=(⟨true,x4_1⟩:S43)) (k43_mkM _ _ _ (⟨true,x4_1⟩:S43)) (fun _ hk=>hk)
        have hx53_0:=hcc53 0 _ rfl
        (try simp only [show(k43).sz=2 from rfl,Nat.mul_one,Nat.add_zero] at hx53_0)
        (try rw [show((0:Int)).toNat=0 from rfl] at hx53_0)
        (try simp only [Nat.reduceMul,Nat.zero_mul,Nat.zero_add,Nat.reduceAdd] at hx53_0)
        have hf53_0:=hfr53 0
        (try simp only [show(k43).sz=2 from rfl,Nat.mul_one,Nat.add_zero] at hf53_0)
        (try rw [show((0:Int)).toNat=0 from rfl] at hf53_0)
        (try simp only [Nat.reduceMul,Nat.zero_mul,Nat.zero_add,Nat.reduceAdd] at hf53_0)
        have hx53_1:=hcc53 1 _ rfl
        (try simp only [show(k43).sz=2 from rfl,Nat.mul_one,Nat.add_zero] at hx53_1)
        (try rw [show((0:Int)).toNat=0 from rfl] at hx53_1)
        (try simp only [Nat.reduceMul,Nat.zero_mul,Nat.zero_add,Nat.reduceAdd] at hx53_1)
        have hf53_1:=hfr53 1
        (try simp only [show(k43).sz=2 from rfl,Nat.mul_one,Nat.add_zero] at hf53_1)
        (try rw [show((0:Int)).toNat=0 from rfl] at hf53_1)
        (try simp only [Nat.reduceMul,Nat.zero_mul,Nat.zero_add,Nat.reduceAdd] at hf53_1)
        clear hcl53 hcc53 hfr53;(try clear hM53)
        go_wp2_with (first|((with_reducible refine gate_store (t:=43) (p:=69) rfl ?_);refine store_event (t:=43) (p:=69) (v:=?vo_w54) (w1:=((wr.setCell ⟨go48,0,none⟩ (.bool true)).setCell ⟨go48,1,none⟩ (.int .i64 x4_1))) ?hg ?ho ?hn ?hr ?_;(case ho=>rfl);(case hg=>rfl);(case hn=>rfl);(case hr=>first|(go_simp;done)|(go_simp;rfl));intro w54 hw;have hg:wr.grownBy w54 (some go48):=(by rw [hw];exact HP53.2);have hp_:Kd.R k43 43 w54 w.heap.size (fun _=>True) (.slice (some ⟨go48,0,none⟩) x5_2.length co52) y510:=(by rw [hw,Ny510.out];exact HP53.1);clear HP53;have n0_:=aM (hp_);have n1_:=aM (Kd.R_over' (v:=(.slice (some ⟨go48,0,none⟩) x5_2.length co52)) (by(with_reducible repeat(first|apply aA|apply aB|apply aC));exact HO_494000.out) (Kd.R_typed HO_5.out) (by decide) hg);have n2_:=aM (Kd.R_over' (v:=(.slice (some ⟨go48,0,none⟩) x5_2.length co52)) (by(with_reducible repeat(first|apply aA|apply aB|apply aC));exact HO_494001.out) (Kd.R_typed HO_5.out) (by decide) hg);have n3_:=aM (Kd.S_after (v:=(.slice (some ⟨go48,0,none⟩) x5_2.length co52)) (v1:=(.slice (some ⟨go48,0,none⟩) x5_2.length co52)) (ok:=(fun _=>True)) (by(with_reducible repeat(first|apply Kd.S_alloc|apply aV|apply aW));exact Kd.S_mono HO_494004.out (fun _ hk=>⟨trivial,hk⟩)) hg (.inl rfl));have n4_:=aM (blk_grown (g:=gb481) (o:= .cells #[.slice none 0 0,.slice none 0 0,.int .i64 0,.int .i64 0,.slice none 0 0] 26 (0,0)) (by(with_reducible repeat(first|refine aJ ?_ _|refine aK ?_|refine aI ?_ _));exact BK481.out) hg (Kd.R_ne HO_5.out BK481.out (by decide)));have n5_:=aM (blk_grown (g:=gb493) (o:= .cells #[.slice Ao6 t482.length co6,.slice Ao20 y497.length co20,.int .i64 t488,.int .i64 t489,.slice (some ad500) x494004_1.length co15] 26 (0,0)) (by(with_reducible repeat(first|refine aJ ?_ _|refine aK ?_|refine aI ?_ _));exact BK493.out) hg (Kd.R_ne HO_5.out BK493.out (by decide)));have n6_:=aM (Kd.R_after (v:=(.slice (some ⟨go48,0,none⟩) x5_2.length co52)) (v1:=(.slice (some ⟨go48,0,none⟩) x5_2.length co52)) (ok:=(fun k_=>some k_≠(.slice (some ad500) x494004_1.length co15:Value).ownBlock)) (by(with_reducible repeat(first|apply aA|apply aB|apply aC));exact Kd.R_mono HL500_1.out (fun _ hk=>⟨hk.2,hk.1⟩)) hg (.inl rfl));have n7_:=aM ((by rw [hw];exact aL (aL (HB.out) GB48.out) GB48.out:Below w.heap.size w w54));clear HO_5;clear HO_494000;clear HO_494001;clear HO_494004;clear BK481;clear BK493;clear HL500_1;clear HB;have HO_5:=n0_;have HO_494000:=n1_;have HO_494001:=n2_;have HO_494004:=n3_;have BK481:=n4_;have BK493:=n5_;have HL500_1:=n6_;have HB:=n7_;clear n0_ n1_ n2_ n3_ n4_ n5_ n6_ n7_;clear hg hw hp_;have hcz55_0:w54.cell? ⟨gb493,0,none⟩=some (.slice Ao6 t482.length co6):=(aG BK493.out 0).trans rfl;have hcz55_1:w54.cell? ⟨gb493,1,none⟩=some (.slice Ao20 y497.length co20):=(aG BK493.out 1).trans rfl;have hcz55_2:w54.cell? ⟨gb493,2,none⟩=some (.int .i64 t488):=(aG BK493.out 2).trans rfl;have hcz55_3:w54.cell? ⟨gb493,3,none⟩=some (.int .i64 t489):=(aG BK493.out 3).trans rfl;have hcz55_4:w54.cell? ⟨gb493,4,none⟩=some (.slice (some ad500) x494004_1.length co15):=(aG BK493.out 4).trans rfl;have hfz55_0:=aH BK493.out 0;have hfz55_1:=aH BK493.out 1;have hfz55_2:=aH BK493.out 2;have hfz55_3:=aH BK493.out 3;have hfz55_4:=aH BK493.out 4;have p49:0≤(x4_1:Int):=of_decide_eq_true (by first|(with_reducible assumption)|assumption);have q49:(x4_1:Int)<((x494004_1.length:Int):Int):=of_decide_eq_true (by first|(with_reducible assumption)|assumption);obtain⟨go49,co49,eo49,gb49,gl49,cl49,HG49⟩:=Kd.S_form HO_494004.out (by omega);(first|cases eo49|(injection eo49 with ea_ en_ ec_;(first|subst ea_|(injection ea_ with ea_;subst ea_));subst ec_;clear en_));have GB49:=aM gb49;have GG49:=aM HG49;clear gb49 gl49 HG49;(first|simp only [add_plain] at hx500_0|skip);(first|simp only [add_plain] at hx500_1|skip);(first|simp only [add_plain] at hx501_0|skip);(first|simp only [add_plain] at hx501_1|skip);obtain⟨_,ce49,hcl49,hM49,hcc49,hfr49,_,_⟩:=Kd.S_elem HO_494004.out z35 (x4_1:Int) p49 q49;obtain⟨ve49_1,rfl,ge49_1⟩:=k35_openM hM49;have hx49_0:w54.cell? ⟨go49,(x4_1:Int).toNat * 2,none⟩=some (.int .i64 ((rd_T35 x494004_1 x4_1).f0)):=hcc49 0 _ rfl;have hx49_1:w54.cell? ⟨go49,(x4_1:Int).toNat * 2+1,none⟩=some (ve49_1):=hcc49 1 _ rfl;have hf49_0:w54.frozen? ⟨go49,(x4_1:Int).toNat * 2,none⟩=false:=hfr49 0;have hf49_1:w54.frozen? ⟨go49,(x4_1:Int).toNat * 2+1,none⟩=false:=hfr49 1;clear hcl49 hcc49 hfr49;(try clear hM49);replace p49:=eq_true p49;replace q49:=eq_true q49;have n_:=aM (Kd.S_mono (ok':=(fun k_=>some k_≠(.slice (some ⟨go48,0,none⟩) x5_2.length co52:Value).ownBlock)) HO_494004.out (fun k_ hk=>hk.2));clear HO_494004;have HO_494004:=n_;clear n_;have HX56:=aM (show Kd.S k35 35 w54 w.heap.size (fun k_=>((fun _=>True)) k_∧¬((fun k_=>some k_=(.slice (some ⟨go48,0,none⟩) x5_2.length co52:Value).ownBlock)) k_) (.slice (some ⟨go49,0,none⟩) x494004_1.length co15) x494004_1 from(by(with_reducible repeat(first|apply Kd.S_alloc|apply aV|apply aW));exact Kd.S_mono HO_494004.out (fun k_ hk=>⟨trivial,fun e_=>hk e_⟩)));obtain⟨oki56,ce56,hcl56,hM56,hcc56,hfr56,hoki56,hH56⟩:=Kd.S_elem HX56.out z35 (x4_1:Int) (of_decide_eq_true (by first|(with_reducible assumption)|assumption)) (by have h_:(x4_1:Int)<((x494004_1.length:Int):Int):=of_decide_eq_true (by first|(with_reducible assumption)|assumption);first|exact h_|(have e_:=(Kd.S_reads' HO_494004.out).1;omega)|simpa using h_);obtain⟨ve56_1,rfl,ge56_1⟩:=k35_openM hM56;have HP56:=Kd.S_seg hH56 (of_decide_eq_true (by first|(with_reducible assumption)|assumption)) (by have h_:(x4_1:Int)<((x494004_1.length:Int):Int):=of_decide_eq_true (by first|(with_reducible assumption)|assumption);first|exact h_|(have e_:=(Kd.S_reads' HO_494004.out).1;omega)|simpa using h_) (seg:= [.slice (some ⟨go48,0,none⟩) x5_2.length co52]) (j:=1) (show 2≤2 from by decide) (x':=(⟨(rd_T35 x494004_1 x4_1).f0,y510⟩:S35)) (k35_mkM _ _ _ (⟨(rd_T35 x494004_1 x4_1).f0,y510⟩:S35) (Kd.R_mono (Kd.R_tight rfl (Kd.R_mono (ok':=fun k_=>((fun _=>True)) k_∧k_≠go49) (Kd.R_apart' (HO_5.out) (Kd.S_typed HO_494004.out) (by decide)) (fun k_ hk=>⟨trivial,fun e_=>(hk.2) (by rw [e_];rfl)⟩))) (fun _ h_=>Or.inr (h_)))) (fun _ hk=>hk) (fun k_ hk_=>((Kd.R_mono (ok':=fun k_=>((fun _=>True)) k_∧k_≠go49) (Kd.R_apart' (HO_5.out) (Kd.S_typed HO_494004.out) (by decide)) (fun k_ hk=>⟨trivial,fun e_=>(hk.2) (by rw [e_];rfl)⟩))).1 k_ hk_.symm);have hx56_1:=hcc56 1 _ rfl;(try simp only [show(k35).sz=2 from rfl,Nat.mul_one,Nat.add_zero] at hx56_1);have hf56_1:=hfr56 1;(try simp only [show(k35).sz=2 from rfl,Nat.mul_one,Nat.add_zero] at hf56_1);clear hcl56 hcc56 hfr56;(try clear hM56);clear hoki56 hH56)|((with_reducible refine gate_store (t:=29) (p:=75) rfl ?_);refine store_event (t:=29) (p:=75) (v:=?vo_w57) (w1:=(w54.setCell ⟨go49,(x4_1:Int).toNat * 2+1,none⟩ (.slice (some ⟨go48,0,none⟩) x5_2.length co52))) ?hg ?ho ?hn ?hr ?_;(case ho=>rfl);(case hg=>rfl);(case hn=>rfl);(case hr=>first|(go_simp;done)|(go_simp;rfl)|(obtain⟨A_,c_,e_⟩:=Kd.R_slice HO_5.out;rw [e_];first|(go_simp;done)|(go_simp;rfl)));intro w57 hw;have hg:w54.grownBy w57 (some go49):=(by rw [hw];exact HP56.2);have hp_:Kd.S k35 35 w57 w.heap.size (fun _=>True) (.slice (some ⟨go49,0,none⟩) x494004_1.length co15) y511:=(by rw [hw,Ny511.out];exact HP56.1);clear HP56;have n0_:=aM (Kd.R_over' (v:=(.slice (some ⟨go49,0,none⟩) x494004_1.length co15)) (by(with_reducible repeat(first|apply aA|apply aB|apply aC));exact HO_494000.out) (Kd.S_typed HO_494004.out) (by decide) hg);have n1_:=aM (Kd.R_over' (v:=(.slice (some ⟨go49,0,none⟩) x494004_1.length co15)) (by(with_reducible repeat(first|apply aA|apply aB|apply aC));exact HO_494001.out) (Kd.S_typed HO_494004.out) (by decide) hg);have n2_:=aM (hp_);have n3_:=aM (blk_grown (g:=gb481) (o:= .cells #[.slice none 0 0,.slice none 0 0,.int .i64 0,.int .i64 0,.slice none 0 0] 26 (0,0)) (by(with_reducible repeat(first|refine aJ ?_ _|refine aK ?_|refine aI ?_ _));exact BK481.out) hg (Kd.S_ne HO_494004.out BK481.out (by decide)));have n4_:=aM (blk_grown (g:=gb493) (o:= .cells #[.slice Ao6 t482.length co6,.slice Ao20 y497.length co20,.int .i64 t488,.int .i64 t489,.slice (some ⟨go49,0,none⟩) x494004_1.length co15] 26 (0,0)) (by(with_reducible repeat(first|refine aJ ?_ _|refine aK ?_|refine aI ?_ _));exact BK493.out) hg (Kd.S_ne HO_494004.out BK493.out (by decide)));have n5_:=aM (Kd.R_after (v:=(.slice (some ⟨go49,0,none⟩) x494004_1.length co15)) (v1:=(.slice (some ⟨go49,0,none⟩) x494004_1.length co15)) (ok:=(fun k_=>some k_≠(.slice (some ⟨go48,0,none⟩) x5_2.length co52:Value).ownBlock)) (by(with_reducible repeat(first|apply aA|apply aB|apply aC));exact Kd.R_mono HL500_1.out (fun _ hk=>⟨hk.2,hk.1⟩)) hg (.inl rfl));have n6_:=aM ((by rw [hw];exact aL (HB.out) GB49.out:Below w.heap.size w w57));clear HO_494000;clear HO_494001;clear HO_494004;clear BK481;clear BK493;clear HL500_1;clear HB;clear HO_5;have HO_494000:=n0_;have HO_494001:=n1_;have HO_494004:=n2_;have BK481:=n3_;have BK493:=n4_;have HL500_1:=n5_;have HB:=n6_;clear n0_ n1_ n2_ n3_ n4_ n5_ n6_;clear hg hw hp_))
        go_roundg k2
        case measure=>have:=HK1.out;have:=HK2.out;omega
        case rel=>exact⟨(wrap64 (x4_1+1)),(y497),(y511),(.slice Ao20 y497.length co20),(.slice (some ⟨go49,0,none⟩) x494004_1.length co15),(by first|rfl|(simp;done)|(simp [*];done)),H',⟨by have:=HK1.out;have:=HK2.out;omega⟩,⟨by(with_reducible repeat(first|apply aA|apply aB|apply aC));exact HO_494000.out⟩,⟨by(with_reducible repeat(first|apply aA|apply aB|apply aC));exact HO_494001.out⟩,⟨by(with_reducible repeat(first|apply Kd.S_alloc|apply aV|apply aW));exact HO_494004.out⟩,⟨by(with_reducible repeat(first|refine aJ ?_ _|refine aK ?_|refine aI ?_ _));exact BK481.out⟩,⟨by(with_reducible repeat(first|refine aJ ?_ _|refine aK ?_|refine aI ?_ _));exact BK493.out⟩,⟨by repeat(first|(with_reducible first|exact HB.out|apply aN|apply aP|apply aO|refine aL ?_ GE481.out|refine aL ?_ GE493.out)|exact HB.out)⟩⟩
       ·rw [if_neg c46] at H
        have c46b0:decide (0<(x5_2.length:Int))=false:=decide_eq_false c46
        have c46b1:decide (0<x5_2.length)=false:=decide_eq_false (by omega)
        clear c46
        obtain⟨y512,hy512⟩:∃y_:List (S35),y_=(x494004_1.set (x4_1:Int).toNat (⟨(rd_T35 x494004_1 x4_1).f0,x5_2⟩:S35)):=⟨_,rfl⟩
        replace H:(regletlaw14_Clear.l0 k2 (wrap64 (x4_1+1)) t482 y497 t488 t489 y512)=some (r1,r2,r3,r4,r5):=by first|(rw [hy512];with_reducible exact H)|(have H2_:=(Option.bind_some _ _).symm.trans H;rw [hy512];with_reducible exact H2_)|(have H2_:=(Option.bind_some _ _).symm.trans H;with_reducible exact H2_)|with_reducible exact H|(rw [hy512];exact H)|exact H
        have Ny512:=aM hy512
        clear hy512
        have H':=aM H
        clear H
        have hnb59:=NB493_481.out
        have hnc59:=NB481_493.out
        have hcz60_0:wr.cell? ⟨gb493,0,none⟩=some (.slice Ao6 t482.length co6):=(aG BK493.out 0).trans rfl
        have hcz60_1:wr.cell? ⟨gb493,1,none⟩=some (.slice Ao20 y497.length co20):=(aG BK493.out 1).trans rfl
        have hcz60_2:wr.cell? ⟨gb493,2,none⟩=some (.int .i64 t488):=(aG BK493.out 2).trans rfl
        have hcz60_3:wr.cell? ⟨gb493,3,none⟩=some (.int .i64 t489):=(aG BK493.out 3).trans rfl
        have hcz60_4:wr.cell? ⟨gb493,4,none⟩=some (.slice Ao15 x494004_1.length co15):=(aG BK493.out 4).trans rfl
        have hfz60_0:=aH BK493.out 0
        have hfz60_1:=aH BK493.out 1
        have hfz60_2:=aH BK493.out 2
        have hfz60_3:=aH BK493.out 3
        have hfz60_4:=aH BK493.out 4
        have p500:0≤(x4_1:Int):=of_decide_eq_true (by first|(with_reducible assumption)|assumption)
        have q500:x4_1<(x494004_1.length:Int):=of_decide_eq_true (by first|(with_reducible assumption)|assumption)
        obtain⟨ad500,A500_1,c500_1,e500,hx500_0,hx500_1,hl500_1,hi500_1⟩:=at_T35 (Kd.S_reads' HO_494004.out).2.2 x4_1 p500 q500
        cases e500
        obtain⟨ce500,hce500,hMe500,hcc500⟩:=Kd.S_get HO_494004.out z35 x4_1 p500 (by first|exact q500|exact of_decide_eq_true (by first|(with_reducible assumption)|assumption)|(have e_:=(Kd.S_reads' HO_494004.out).1;omega))
        obtain⟨ve500_1,rfl,ge500_1⟩:=k35_openM hMe500
        have hv500_1:=hcc500 1 _ rfl
        rw [add_field _ _ 1 (by omega)] at hv500_1
        replace hv500_1:=Option.some.inj (hv500_1.symm.trans hx500_1)
        rw [hv500_1] at ge500_1
        have HL500_1:=aM (show Kd.R k43 43 _ _ _ _ ((rd_T35 x494004_1 x4_1).f1) from ge500_1)
        clear hv500_1 ge500_1
        have HX500_1:=aM hx500_1
        clear hcc500 hce500
        have HR500_1:=aM hi500_1
        have HC500_1:=aM hl500_1
        clear hi500_1 hl500_1
        replace p500:=eq_true p500
        replace q500:=eq_true q500
        obtain⟨Ao61,co61,eo61⟩:=Kd.R_slice HO_5.out
        subst eo61
        have p58:0≤(x4_1:Int):=of_decide_eq_true (by first|(with_reducible assumption)|assumption)
        have q58:(x4_1:Int)<((x494004_1.length:Int):Int):=of_decide_eq_true (by first|(with_reducible assumption)|assumption)
        obtain⟨go58,co58,eo58,gb58,gl58,cl58,HG58⟩:=Kd.S_form HO_494004.out (by omega)
        (first|cases eo58|(injection eo58 with ea_ en_ ec_;(first|subst ea_|(injection ea_ with ea_;subst ea_));subst ec_;clear en_))
        have GB58:=aM gb58
        have GG58:=aM HG58
        clear gb58 gl58 HG58
        (first|simp only [add_plain] at hx500_0|skip)
        (first|simp only [add_plain] at hx500_1|skip)
        obtain⟨_,ce58,hcl58,hM58,hcc58,hfr58,_,_⟩:=Kd.S_elem HO_494004.out z35 (x4_1:Int) p58 q58
        obtain⟨ve58_1,rfl,ge58_1⟩:=k35_openM hM58
        have hx58_0:wr.cell? ⟨go58,(x4_1:Int).toNat * 2,none⟩=some (.int .i64 ((rd_T35 x494004_1 x4_1).f0)):=hcc58 0 _ rfl
        have hx58_1:wr.cell? ⟨go58,(x4_1:Int).toNat * 2+1,none⟩=some (ve58_1):=hcc58 1 _ rfl
        have hf58_0:wr.frozen? ⟨go58,(x4_1:Int).toNat * 2,none⟩=false:=hfr58 0
        have hf58_1:wr.frozen? ⟨go58,(x4_1:Int).toNat * 2+1,none⟩=false:=hfr58 1
        clear hcl58 hcc58 hfr58;(try clear hM58)
        replace p58:=eq_true p58
        replace q58:=eq_true q58
        have HX62:=aM (show Kd.S k35 35 wr w.heap.size (fun k_=>((fun _=>True)) k_∧¬((fun k_=>some k_=(.slice Ao61 x5_2.length co61:Value).ownBlock)) k_) (.slice (some ⟨go58,0,none⟩) x494004_1.length co15) x494004_1 from(by(with_reducible repeat(first|apply Kd.S_alloc|apply aV|apply aW));exact Kd.S_mono HO_494004.out (fun k_ hk=>⟨trivial,fun e_=>hk e_⟩)))
        obtain⟨oki62,ce62,hcl62,hM62,hcc62,hfr62,hoki62,hH62⟩:=Kd.S_elem HX62.out z35 (x4_1:Int) (of_decide_eq_true (by first|(with_reducible assumption)|assumption)) (by have h_:(x4_1:Int)<((x494004_1.length:Int):Int):=of_decide_eq_true (by first|(with_reducible assumption)|assumption);first|exact h_|(have e_:=(Kd.S_reads' HO_494004.out).1;omega)|simpa using h_)
        obtain⟨ve62_1,rfl,ge62_1⟩:=k35_openM hM62
        have HP62:=Kd.S_seg hH62 (of_decide_eq_true (by first|(with_reducible assumption)|assumption)) (by have h_:(x4_1:Int)<((x494004_1.length:Int):Int):=of_decide_eq_true (by first|(with_reducible assumption)|assumption);first|exact h_|(have e_:=(Kd.S_reads' HO_494004.out).1;omega)|simpa using h_) (seg:= [.slice Ao61 x5_2.length co61]) (j:=1) (show 2≤2 from by decide) (x':=(⟨(rd_T35 x494004_1 x4_1).f0,x5_2⟩:S35)) (k35_mkM _ _ _ (⟨(rd_T35 x494004_1 x4_1).f0,x5_2⟩:S35) (Kd.R_mono (Kd.R_tight rfl (Kd.R_mono (ok':=fun k_=>((fun _=>True)) k_∧k_≠go58) (Kd.R_apart' (HO_5.out) (Kd.S_typed HO_494004.out) (by decide)) (fun k_ hk=>⟨trivial,fun e_=>(hk.2) (by rw [e_];rfl)⟩))) (fun _ h_=>Or.inr (h_)))) (fun _ hk=>hk) (fun k_ hk_=>((Kd.R_mono (ok':=fun k_=>((fun _=>True)) k_∧k_≠go58) (Kd.R_apart' (HO_5.out) (Kd.S_typed HO_494004.out) (by decide)) (fun k_ hk=>⟨trivial,fun e_=>(hk.2) (by rw [e_];rfl)⟩))).1 k_ hk_.symm)
        have hx62_1:=hcc62 1 _ rfl
        (try simp only [show(k35).sz=2 from rfl,Nat.mul_one,Nat.add_zero] at hx62_1)
        have hf62_1:=hfr62 1
        (try simp only [show(k35).sz=2 from rfl,Nat.mul_one,Nat.add_zero] at hf62_1)
        clear hcl62 hcc62 hfr62;(try clear hM62);clear hoki62 hH62
        go_wp2_with (first|((with_reducible refine gate_store (t:=29) (p:=75) rfl ?_);refine store_event (t:=29) (p:=75) (v:=?vo_w63) (w1:=(wr.setCell ⟨go58,(x4_1:Int).toNat * 2+1,none⟩ (.slice Ao61 x5_2.length co61))) ?hg ?ho ?hn ?hr ?_;(case ho=>rfl);(case hg=>rfl);(case hn=>rfl);(case hr=>first|(go_simp;done)|(go_simp;rfl)|(obtain⟨A_,c_,e_⟩:=Kd.R_slice HO_5.out;rw [e_];first|(go_simp;done)|(go_simp;rfl)));intro w63 hw;have hg:wr.grownBy w63 (some go58):=(by rw [hw];exact HP62.2);have hp_:Kd.S k35 35 w63 w.heap.size (fun _=>True) (.slice (some ⟨go58,0,none⟩) x494004_1.length co15) y512:=(by rw [hw,Ny512.out];exact HP62.1);clear HP62;have n0_:=aM (Kd.R_over' (v:=(.slice (some ⟨go58,0,none⟩) x494004_1.length co15)) (by(with_reducible repeat(first|apply aA|apply aB|apply aC));exact HO_494000.out) (Kd.S_typed HO_494004.out) (by decide) hg);have n1_:=aM (Kd.R_over' (v:=(.slice (some ⟨go58,0,none⟩) x494004_1.length co15)) (by(with_reducible repeat(first|apply aA|apply aB|apply aC));exact HO_494001.out) (Kd.S_typed HO_494004.out) (by decide) hg);have n2_:=aM (hp_);have n3_:=aM (blk_grown (g:=gb481) (o:= .cells #[.slice none 0 0,.slice none 0 0,.int .i64 0,.int .i64 0,.slice none 0 0] 26 (0,0)) (by(with_reducible repeat(first|refine aJ ?_ _|refine aK ?_|refine aI ?_ _));exact BK481.out) hg (Kd.S_ne HO_494004.out BK481.out (by decide)));have n4_:=aM (blk_grown (g:=gb493) (o:= .cells #[.slice Ao6 t482.length co6,.slice Ao20 y497.length co20,.int .i64 t488,.int .i64 t489,.slice (some ⟨go58,0,none⟩) x494004_1.length co15] 26 (0,0)) (by(with_reducible repeat(first|refine aJ ?_ _|refine aK ?_|refine aI ?_ _));exact BK493.out) hg (Kd.S_ne HO_494004.out BK493.out (by decide)));have n5_:=aM (Kd.R_after (v:=(.slice (some ⟨go58,0,none⟩) x494004_1.length co15)) (v1:=(.slice (some ⟨go58,0,none⟩) x494004_1.length co15)) (ok:=(fun k_=>some k_≠(.slice Ao61 x5_2.length co61:Value).ownBlock)) (by(with_reducible repeat(first|apply aA|apply aB|apply aC));exact HL500_1.out) hg (.inl rfl));have n6_:=aM ((by rw [hw];exact aL (HB.out) GB58.out:Below w.heap.size w w63));clear HO_494000;clear HO_494001;clear HO_494004;clear BK481;clear BK493;clear HL500_1;clear HB;clear HO_5;have HO_494000:=n0_;have HO_494001:=n1_;have HO_494004:=n2_;have BK481:=n3_;have BK493:=n4_;have HL500_1:=n5_;have HB:=n6_;clear n0_ n1_ n2_ n3_ n4_ n5_ n6_;clear hg hw hp_))
        go_roundg k2
        case measure=>have:=HK1.out;have:=HK2.out;omega
        case rel=>exact⟨(wrap64 (x4_1+1)),(y497),(y512),(.slice Ao20 y497.length co20),(.slice (some ⟨go58,0,none⟩) x494004_1.length co15),(by first|rfl|(simp;done)|(simp [*];done)),H',⟨by have:=HK1.out;have:=HK2.out;omega⟩,⟨by(with_reducible repeat(first|apply aA|apply aB|apply aC));exact HO_494000.out⟩,⟨by(with_reducible repeat(first|apply aA|apply aB|apply aC));exact HO_494001.out⟩,⟨by(with_reducible repeat(first|apply Kd.S_alloc|apply aV|apply aW));exact HO_494004.out⟩,⟨by(with_reducible repeat(first|refine aJ ?_ _|refine aK ?_|refine aI ?_ _));exact BK481.out⟩,⟨by(with_reducible repeat(first|refine aJ ?_ _|refine aK ?_|refine aI ?_ _));exact BK493.out⟩,⟨by repeat(first|(with_reducible first|exact HB.out|apply aN|apply aP|apply aO|refine aL ?_ GE481.out|refine aL ?_ GE493.out)|exact HB.out)⟩⟩
   ·rw [if_neg c11] at H
    have c11b0:decide (x4_1<(x494004_1.length:Int))=false:=decide_eq_false c11
    clear c11
    have H':=aM H
    clear H
    have hnb64:=NB493_481.out
    have hnc64:=NB481_493.out
    have hcz65_0:wr.cell? ⟨gb493,0,none⟩=some (.slice Ao6 t482.length co6):=(aG BK493.out 0).trans rfl
    have hcz65_1:wr.cell? ⟨gb493,1,none⟩=some (u494001):=(aG BK493.out 1).trans rfl
    have hcz65_2:wr.cell? ⟨gb493,2,none⟩=some (.int .i64 t488):=(aG BK493.out 2).trans rfl
    have hcz65_3:wr.cell? ⟨gb493,3,none⟩=some (.int .i64 t489):=(aG BK493.out 3).trans rfl
    have hcz65_4:wr.cell? ⟨gb493,4,none⟩=some (u494004):=(aG BK493.out 4).trans rfl
    have hfz65_0:=aH BK493.out 0
    have hfz65_1:=aH BK493.out 1
    have hfz65_2:=aH BK493.out 2
    have hfz65_3:=aH BK493.out 3
    have hfz65_4:=aH BK493.out 4
    obtain⟨Ao66,co66,eo66⟩:=Kd.S_slice HO_494004.out
    subst eo66
    go_wp2
    go_loopg [8] k1 (fun kq v8 w'=>∃(x8_2:Int) (x494004_2:List (S35)) (u494004:Value),v8= .int .i64 x8_2∧Aside0 (regletlaw14_Clear.l2 kq x8_2 t482 x494001_1 t488 t489 x494004_2=some (r1,r2,r3,r4,r5))∧Aside0 (kq≤k1)∧Aside0 (Kd.R Kd.string 9 w' w.heap.size (fun _=>True) (.slice Ao6 t482.length co6) t482)∧Aside0 (Kd.R k72 72 w' w.heap.size (fun _=>True) u494001 x494001_1)∧Aside0 (Kd.S k35 35 w' w.heap.size (fun _=>True) u494004 x494004_2)∧Aside0 (w'.heap[gb481]?=some (.cells #[(.slice none 0 0),(.slice none 0 0),.int .i64 0,.int .i64 0,(.slice none 0 0)] 26 (0,0)))∧Aside0 (w'.heap[gb493]?=some (.cells #[(.slice Ao6 t482.length co6),u494001,.int .i64 t488,.int .i64 t489,u494004] 26 (0,0)))∧Aside0 (Below w.heap.size w w'))
    case atStart=>exact⟨(0),(x494004_1),(.slice Ao66 x494004_1.length co66),(by first|rfl|(simp;done)|(simp [*];done)),H',⟨Nat.le_refl _⟩,⟨by(with_reducible repeat(first|apply aA|apply aB|apply aC));exact HO_494000.out⟩,⟨by(with_reducible repeat(first|apply aA|apply aB|apply aC));exact HO_494001.out⟩,⟨by(with_reducible repeat(first|apply Kd.S_alloc|apply aV|apply aW));exact HO_494004.out⟩,⟨by(with_reducible repeat(first|refine aJ ?_ _|refine aK ?_|refine aI ?_ _));exact BK481.out⟩,⟨by(with_reducible repeat(first|refine aJ ?_ _|refine aK ?_|refine aI ?_ _));exact BK493.out⟩,⟨by repeat(first|(with_reducible first|exact HB.out|apply aN|apply aP|apply aO|refine aL ?_ GE481.out|refine aL ?_ GE493.out)|exact HB.out)⟩⟩
    case round=>
     clear H'
     (try clear c1);(try clear c2);(try clear p2);(try clear q2);(try clear c3);(try clear c4);(try clear p4);(try clear q4);(try clear hx4);(try clear qi4);(try clear hf4);(try clear c5);(try clear p5);(try clear q5);(try clear hx5);(try clear hf5);(try clear c6);(try clear p6);(try clear hx6);(try clear hf6);(try clear c7);(try clear c11);(try clear c11b0);(try clear c12);(try clear c13);(try clear c19)
     (try clear c22);(try clear c22b0);(try clear c23);(try clear c23b0);(try clear c24);(try clear c24b0);(try clear c25);(try clear c25b0);(try clear q26);(try clear c27);(try clear c28);(try clear c28b0);(try clear c28b1);(try clear c28b2);(try clear c29);(try clear c30);(try clear c33);(try clear c34);(try clear c38);(try clear c39);(try clear c42);(try clear c43);(try clear c46);(try clear c46b0);(try clear c46b1)
     (try clear c47);(try clear c47b0);(try clear c47b1);(try clear c48);(try clear p48);(try clear q48);(try clear hx48);(try clear qi48);(try clear hf48);(try clear c49);(try clear p49);(try clear q49);(try clear hx49);(try clear hf49);(try clear c50);(try clear p50);(try clear q50);(try clear hx50);(try clear c53);(try clear hx53);(try clear hf53);(try clear c56);(try clear hx56);(try clear hf56);(try clear c58)
     (try clear p58);(try clear q58);(try clear hx58);(try clear hf58);(try clear c59);(try clear c62);(try clear hx62);(try clear hf62);(try clear c64);(try clear p64);(try clear hcz14_0);(try clear hcz14_1);(try clear hcz14_2);(try clear hcz14_3);(try clear hcz14_4);(try clear hcz21_0);(try clear hcz21_1);(try clear hcz21_2);(try clear hcz21_3);(try clear hcz21_4);(try clear hcz31_0);(try clear hcz31_1)
     (try clear hcz31_2);(try clear hcz31_3);(try clear hcz31_4);(try clear hcz35_0);(try clear hcz35_1);(try clear hcz36_0);(try clear hcz36_1);(try clear hcz36_2);(try clear hcz36_3);(try clear hcz36_4);(try clear hcz40_0);(try clear hcz40_1);(try clear hcz40_2);(try clear hcz40_3);(try clear hcz40_4);(try clear hcz44_0);(try clear hcz44_1);(try clear hcz51_0);(try clear hcz51_1);(try clear hcz51_2);(try clear hcz51_3)
     (try clear hcz51_4);(try clear hcz55_0);(try clear hcz55_1);(try clear hcz55_2);(try clear hcz55_3);(try clear hcz55_4);(try clear hcz60_0);(try clear hcz60_1);(try clear hcz60_2);(try clear hcz60_3);(try clear hcz60_4);(try clear hcz65_0);(try clear hcz65_1);(try clear hcz65_2);(try clear hcz65_3);(try clear hcz65_4);(try clear hcz8_0);(try clear hcz8_1);(try clear hcz8_2);(try clear hcz8_3);(try clear hcz8_4)
     (try clear hfz14_0);(try clear hfz14_1);(try clear hfz14_2);(try clear hfz14_3);(try clear hfz14_4);(try clear hfz21_0);(try clear hfz21_1);(try clear hfz21_2);(try clear hfz21_3);(try clear hfz21_4);(try clear hfz31_0);(try clear hfz31_1);(try clear hfz31_2);(try clear hfz31_3);(try clear hfz31_4);(try clear hfz35_0);(try clear hfz35_1);(try clear hfz36_0);(try clear hfz36_1);(try clear hfz36_2);(try clear hfz36_3)
     (try clear hfz36_4);(try clear hfz40_0);(try clear hfz40_1);(try clear hfz40_2);(try clear hfz40_3);(try clear hfz40_4);(try clear hfz44_0);(try clear hfz44_1);(try clear hfz51_0);(try clear hfz51_1);(try clear hfz51_2);(try clear hfz51_3);(try clear hfz51_4);(try clear hfz55_0);(try clear hfz55_1);(try clear hfz55_2);(try clear hfz55_3);(try clear hfz55_4);(try clear hfz60_0);(try clear hfz60_1);(try clear hfz60_2)
     (try clear hfz60_3);(try clear hfz60_4);(try clear hfz65_0);(try clear hfz65_1);(try clear hfz65_2);(try clear hfz65_3);(try clear hfz65_4);(try clear hfz8_0);(try clear hfz8_1);(try clear hfz8_2);(try clear hfz8_3);(try clear hfz8_4);(try clear hx48_0);(try clear hx48_1);(try clear hx49_0);(try clear hx49_1);(try clear hx500_0);(try clear hx500_1);(try clear hx501_0);(try clear hx501_1);(try clear hx502_0)
     (try clear hx502_1);(try clear hx53_0);(try clear hx53_1);(try clear hx56_1);(try clear hx58_0);(try clear hx58_1);(try clear hx62_1);(try clear p2);(try clear p48);(try clear p49);(try clear p500);(try clear p501);(try clear p502);(try clear p58);(try clear p6);(try clear q48);(try clear q49);(try clear q500);(try clear q501);(try clear q502);(try clear q58)
     obtain⟨x8_2,x494004_2,u494004,rfl,HA,HK2,HO_494000,HO_494001,HO_494004,BK481,BK493,HB⟩:=hrel
     cases gk with
     |zero=>exact absurd HA.out (by simp [regletlaw14_Clear.l2])
     |succ k2=>
      have H:=HA.out
      clear HA
      simp only [regletlaw14_Clear.l2] at H
      by_cases c67:x8_2<(x494004_2.length:Int)
      ·rw [if_pos c67] at H
       have c67b0:decide (x8_2<(x494004_2.length:Int))=true:=decide_eq_true c67
       clear c67
       have H':=aM H
       clear H
       have hnb68:=NB493_481.out
       have hnc68:=NB481_493.out
       have hcz69_0:wr.cell? ⟨gb493,0,none⟩=some (.slice Ao6 t482.length co6):=(aG BK493.out 0).trans rfl
       have hcz69_1:wr.cell? ⟨gb493,1,none⟩=some (u494001):=(aG BK493.out 1).trans rfl
       have hcz69_2:wr.cell? ⟨gb493,2,none⟩=some (.int .i64 t488):=(aG BK493.out 2).trans rfl
       have hcz69_3:wr.cell? ⟨gb493,3,none⟩=some (.int .i64 t489):=(aG BK493.out 3).trans rfl
       have hcz69_4:wr.cell? ⟨gb493,4,none⟩=some (u494004):=(aG BK493.out 4).trans rfl
       have hfz69_0:=aH BK493.out 0
       have hfz69_1:=aH BK493.out 1
       have hfz69_2:=aH BK493.out 2
       have hfz69_3:=aH BK493.out 3
       have hfz69_4:=aH BK493.out 4
       obtain⟨Ao70,co70,eo70⟩:=Kd.S_slice HO_494004.out
       subst eo70
       go_wp2
       go_loopg [9] k2 (fun kq v9 w'=>∃(x9_3:Int) (x494004_3:List (S35)) (u494004:Value),v9= .int .i64 x9_3∧Aside0 (regletlaw14_Clear.l3 kq x8_2 x9_3 t482 x494001_1 t488 t489 x494004_3=some (r1,r2,r3,r4,r5))∧Aside0 (kq≤k2)∧Aside0 (Kd.R Kd.string 9 w' w.heap.size (fun _=>True) (.slice Ao6 t482.length co6) t482)∧Aside0 (Kd.R k72 72 w' w.heap.size (fun _=>True) u494001 x494001_1)∧Aside0 (Kd.S k35 35 w' w.heap.size (fun _=>True) u494004 x494004_3)∧Aside0 (w'.heap[gb481]?=some (.cells #[(.slice none 0 0),(.slice none 0 0),.int .i64 0,.int .i64 0,(.slice none 0 0)] 26 (0,0)))∧Aside0 (w'.heap[gb493]?=some (.cells #[(.slice Ao6 t482.length co6),u494001,.int .i64 t488,.int .i64 t489,u494004] 26 (0,0)))∧Aside0 (Below w.heap.size w w'))
       case atStart=>exact⟨(0),(x494004_2),(.slice Ao70 x494004_2.length co70),(by first|rfl|(simp;done)|(simp [*];done)),H',⟨Nat.le_refl _⟩,⟨by(with_reducible repeat(first|apply aA|apply aB|apply aC));exact HO_494000.out⟩,⟨by(with_reducible repeat(first|apply aA|apply aB|apply aC));exact HO_494001.out⟩,⟨by(with_reducible repeat(first|apply Kd.S_alloc|apply aV|apply aW));exact HO_494004.out⟩,⟨by(with_reducible repeat(first|refine aJ ?_ _|refine aK ?_|refine aI ?_ _));exact BK481.out⟩,⟨by(with_reducible repeat(first|refine aJ ?_ _|refine aK ?_|refine aI ?_ _));exact BK493.out⟩,⟨by repeat(first|(with_reducible first|exact HB.out|apply aN|apply aP|apply aO|refine aL ?_ GE481.out|refine aL ?_ GE493.out)|exact HB.out)⟩⟩
       case round=>
        clear H'
        (try clear c1);(try clear c2);(try clear p2);(try clear q2);(try clear c3);(try clear c4);(try clear p4);(try clear q4);(try clear hx4);(try clear qi4);(try clear hf4);(try clear c5);(try clear p5);(try clear q5);(try clear hx5);(try clear hf5);(try clear c6);(try clear p6);(try clear hx6);(try clear hf6);(try clear c7);(try clear c11);(try clear c11b0);(try clear c12);(try clear c13);(try clear c19)
        (try clear c22);(try clear c22b0);(try clear c23);(try clear c23b0);(try clear c24);(try clear c24b0);(try clear c25);(try clear c25b0);(try clear q26);(try clear c27);(try clear c28);(try clear c28b0);(try clear c28b1);(try clear c28b2);(try clear c29);(try clear c30);(try clear c33);(try clear c34);(try clear c38);(try clear c39);(try clear c42);(try clear c43);(try clear c46);(try clear c46b0);(try clear c46b1)
        (try clear c47);(try clear c47b0);(try clear c47b1);(try clear c48);(try clear p48);(try clear q48);(try clear hx48);(try clear qi48);(try clear hf48);(try clear c49);(try clear p49);(try clear q49);(try clear hx49);(try clear hf49);(try clear c50);(try clear p50);(try clear q50);(try clear hx50);(try clear c53);(try clear hx53);(try clear hf53);(try clear c56);(try clear hx56);(try clear hf56);(try clear c58)
        (try clear p58);(try clear q58);(try clear hx58);(try clear hf58);(try clear c59);(try clear c62);(try clear hx62);(try clear hf62);(try clear c64);(try clear p64);(try clear c67);(try clear c67b0);(try clear c68);(try clear hcz14_0);(try clear hcz14_1);(try clear hcz14_2);(try clear hcz14_3);(try clear hcz14_4);(try clear hcz21_0);(try clear hcz21_1);(try clear hcz21_2);(try clear hcz21_3);(try clear hcz21_4)
        (try clear hcz31_0);(try clear hcz31_1);(try clear hcz31_2);(try clear hcz31_3);(try clear hcz31_4);(try clear hcz35_0);(try clear hcz35_1);(try clear hcz36_0);(try clear hcz36_1);(try clear hcz36_2);(try clear hcz36_3);(try clear hcz36_4);(try clear hcz40_0);(try clear hcz40_1);(try clear hcz40_2);(try clear hcz40_3);(try clear hcz40_4);(try clear hcz44_0);(try clear hcz44_1);(try clear hcz51_0);(try clear hcz51_1)
        (try clear hcz51_2);(try clear hcz51_3);(try clear hcz51_4);(try clear hcz55_0);(try clear hcz55_1);(try clear hcz55_2);(try clear hcz55_3);(try clear hcz55_4);(try clear hcz60_0);(try clear hcz60_1);(try clear hcz60_2);(try clear hcz60_3);(try clear hcz60_4);(try clear hcz65_0);(try clear hcz65_1);(try clear hcz65_2);(try clear hcz65_3);(try clear hcz65_4);(try clear hcz69_0);(try clear hcz69_1);(try clear hcz69_2)
        (try clear hcz69_3);(try clear hcz69_4);(try clear hcz8_0);(try clear hcz8_1);(try clear hcz8_2);(try clear hcz8_3);(try clear hcz8_4);(try clear hfz14_0);(try clear hfz14_1);(try clear hfz14_2);(try clear hfz14_3);(try clear hfz14_4);(try clear hfz21_0);(try clear hfz21_1);(try clear hfz21_2);(try clear hfz21_3);(try clear hfz21_4);(try clear hfz31_0);(try clear hfz31_1);(try clear hfz31_2);(try clear hfz31_3)
        (try clear hfz31_4);(try clear hfz35_0);(try clear hfz35_1);(try clear hfz36_0);(try clear hfz36_1);(try clear hfz36_2);(try clear hfz36_3);(try clear hfz36_4);(try clear hfz40_0);(try clear hfz40_1);(try clear hfz40_2);(try clear hfz40_3);(try clear hfz40_4);(try clear hfz44_0);(try clear hfz44_1);(try clear hfz51_0);(try clear hfz51_1);(try clear hfz51_2);(try clear hfz51_3);(try clear hfz51_4);(try clear hfz55_0)
        (try clear hfz55_1);(try clear hfz55_2);(try clear hfz55_3);(try clear hfz55_4);(try clear hfz60_0);(try clear hfz60_1);(try clear hfz60_2);(try clear hfz60_3);(try clear hfz60_4);(try clear hfz65_0);(try clear hfz65_1);(try clear hfz65_2);(try clear hfz65_3);(try clear hfz65_4);(try clear hfz69_0);(try clear hfz69_1);(try clear hfz69_2);(try clear hfz69_3);(try clear hfz69_4);(try clear hfz8_0);(try clear hfz8_1)
        (try clear hfz8_2);(try clear hfz8_3);(try clear hfz8_4);(try clear hx48_0);(try clear hx48_1);(try clear hx49_0);(try clear hx49_1);(try clear hx500_0);(try clear hx500_1);(try clear hx501_0);(try clear hx501_1);(try clear hx502_0);(try clear hx502_1);(try clear hx53_0);(try clear hx53_1);(try clear hx56_1);(try clear hx58_0);(try clear hx58_1);(try clear hx62_1);(try clear p2);(try clear p4);(try clear p48)
        (try clear p49);(try clear p5);(try clear p50);(try clear p500);(try clear p501);(try clear p502);(try clear p58);(try clear p6);(try clear p64);(try clear q2);(try clear q26);(try clear q4);(try clear q48);(try clear q49);(try clear q5);(try clear q50);(try clear q500);(try clear q501);(try clear q502);(try clear q58)
        obtain⟨x9_3,x494004_3,u494004,rfl,HA,HK3,HO_494000,HO_494001,HO_494004,BK481,BK493,HB⟩:=hrel
        cases gk with
        |zero=>exact absurd HA.out (by simp [regletlaw14_Clear.l3])
        |succ k3=>
         have H:=HA.out
         clear HA
         simp only [regletlaw14_Clear.l3] at H
         by_cases c71:0≤x8_2
         rotate_left
         ·rw [if_neg c71] at H
          exact absurd H (by simp)
         rw [if_pos c71] at H
         have c71b0:decide (0≤x8_2)=true:=decide_eq_true c71
         clear c71
         by_cases c72:x8_2<(x494004_3.length:Int)
         rotate_left
         ·rw [if_neg c72] at H
          exact absurd H (by simp)
         rw [if_pos c72] at H
         have c72b0:decide (x8_2<(x494004_3.length:Int))=true:=decide_eq_true c72
         clear c72
         by_cases c73:x9_3<(((rd_T35 x494004_3 x8_2).f1).length:Int)
         ·rw [if_pos c73] at H
          have c73b0:decide (x9_3<(((rd_T35 x494004_3 x8_2).f1).length:Int))=true:=decide_eq_true c73
          clear c73
          by_cases c74:0≤x9_3
          rotate_left
          ·rw [if_neg c74] at H
           exact absurd H (by simp)
          rw [if_pos c74] at H
          have c74b0:decide (0≤x9_3)=true:=decide_eq_true c74
          clear c74
          obtain⟨bq75,hbq75⟩:∃b_:Bool,b_=((rd_T43 ((rd_T35 x494004_3 x8_2).f1) x9_3).f0):=⟨_,rfl⟩
          replace H:(if bq75=true then(if(x494001_1.length:Int)=0 then(none) else(regletlaw14_Clear.l3 k3 x8_2 (wrap64 (x9_3+1)) t482 x494001_1 t488 t489 (x494004_3.set (x8_2:Int).toNat (⟨(rd_T35 x494004_3 x8_2).f0,(((rd_T35 x494004_3 x8_2).f1).set (x9_3:Int).toNat (⟨bq75,Int.tmod ((rd_T43 ((rd_T35 x494004_3 x8_2).f1) x9_3).f1) (x494001_1.length:Int)⟩:S43))⟩:S35)))) else(regletlaw14_Clear.l3 k3 x8_2 (wrap64 (x9_3+1)) t482 x494001_1 t488 t489 x494004_3))=some (r1,r2,r3,r4,r5):=by rw [←hbq75] at H;exact H
          have Nbq75:=aM hbq75
          clear hbq75
          by_cases c76:bq75=true
          ·subst c76
           have H1:(if(x494001_1.length:Int)=0 then(none) else(regletlaw14_Clear.l3 k3 x8_2 (wrap64 (x9_3+1)) t482 x494001_1 t488 t489 (x494004_3.set (x8_2:Int).toNat (⟨(rd_T35 x494004_3 x8_2).f0,(((rd_T35 x494004_3 x8_2).f1).set (x9_3:Int).toNat (⟨true,Int.tmod ((rd_T43 ((rd_T35 x494004_3 x8_2).f1) x9_3).f1) (x494001_1.length:Int)⟩:S43))⟩:S35))))=some (r1,r2,r3,r4,r5):=by rw [if_pos rfl] at H;exact H
           clear H
           have H:=H1
           clear H1
           by_cases c77:(x494001_1.length:Int)=0
           ·rw [if_pos c77] at H
            exact absurd H (by simp)
           rw [if_neg c77] at H
           have c77b0:((x494001_1.length:Int)==0)=false:=beq_eq_false_iff_ne.mpr c77
           have c77b1:((x494001_1.length:Int) !=0)=true:=bne_iff_ne.mpr c77
           have c77b2:¬(x494001_1= []):=fun h_=>c77 (by rw [h_];rfl)
           obtain⟨y519,hy519⟩:∃y_:List (S43),y_=(((rd_T35 x494004_3 x8_2).f1).set (x9_3:Int).toNat (⟨true,Int.tmod ((rd_T43 ((rd_T35 x494004_3 x8_2).f1) x9_3).f1) (x494001_1.length:Int)⟩:S43)):=⟨_,rfl⟩
           replace H:(regletlaw14_Clear.l3 k3 x8_2 (wrap64 (x9_3+1)) t482 x494001_1 t488 t489 (x494004_3.set (x8_2:Int).toNat (⟨(rd_T35 x494004_3 x8_2).f0,y519⟩:S35)))=some (r1,r2,r3,r4,r5):=by first|(rw [hy519];with_reducible exact H)|(have H2_:=(Option.bind_some _ _).symm.trans H;rw [hy519];with_reducible exact H2_)|(have H2_:=(Option.bind_some _ _).symm.trans H;with_reducible exact H2_)|with_reducible exact H|(rw [hy519];exact H)|exact H
           have Ny519:=aM hy519
           clear hy519
           obtain⟨y521,hy521⟩:∃y_:List (S35),y_=(x494004_3.set (x8_2:Int).toNat (⟨(rd_T35 x494004_3 x8_2).f0,y519⟩:S35)):=⟨_,rfl⟩
           replace H:(regletlaw14_Clear.l3 k3 x8_2 (wrap64 (x9_3+1)) t482 x494001_1 t488 t489 y521)=some (r1,r2,r3,r4,r5):=by first|(rw [hy521];with_reducible exact H)|(have H2_:=(Option.bind_some _ _).symm.trans H;rw [hy521];with_reducible exact H2_)|(have H2_:=(Option.bind_some _ _).symm.trans H;with_reducible exact H2_)|with_reducible exact H|(rw [hy521];exact H)|exact H
           have Ny521:=aM hy521
           clear hy521
           have H':=aM H
           clear H
           have hnb79:=NB493_481.out
           have hnc79:=NB481_493.out
           have hcz80_0:wr.cell? ⟨gb493,0,none⟩=some (.slice Ao6 t482.length co6):=(aG BK493.out 0).trans rfl
           have hcz80_1:wr.cell? ⟨gb493,1,none⟩=some (u494001):=(aG BK493.out 1).trans rfl
           have hcz80_2:wr.cell? ⟨gb493,2,none⟩=some (.int .i64 t488):=(aG BK493.out 2).trans rfl
           have hcz80_3:wr.cell? ⟨gb493,3,none⟩=some (.int .i64 t489):=(aG BK493.out 3).trans rfl
           have hcz80_4:wr.cell? ⟨gb493,4,none⟩=some (u494004):=(aG BK493.out 4).trans rfl
           have hfz80_0:=aH BK493.out 0
           have hfz80_1:=aH BK493.out 1
           have hfz80_2:=aH BK493.out 2
           have hfz80_3:=aH BK493.out 3
           have hfz80_4:=aH BK493.out 4
           obtain⟨Ao81,co81,eo81⟩:=Kd.S_slice HO_494004.out
           subst eo81
           have p513:0≤(x8_2:Int):=of_decide_eq_true (by first|(with_reducible assumption)|assumption)
           have q513:x8_2<(x494004_3.length:Int):=of_decide_eq_true (by first|(with_reducible assumption)|assumption)
           obtain⟨ad513,A513_1,c513_1,e513,hx513_0,hx513_1,hl513_1,hi513_1⟩:=at_T35 (Kd.S_reads' HO_494004.out).2.2 x8_2 p513 q513
           cases e513
           obtain⟨ce513,hce513,hMe513,hcc513⟩:=Kd.S_get HO_494004.out z35 x8_2 p513 (by first|exact q513|exact of_decide_eq_true (by first|(with_reducible assumption)|assumption)|(have e_:=(Kd.S_reads' HO_494004.out).1;omega))
           obtain⟨ve513_1,rfl,ge513_1⟩:=k35_openM hMe513
           have hv513_1:=hcc513 1 _ rfl
           rw [add_field _ _ 1 (by omega)] at hv513_1
           replace hv513_1:=Option.some.inj (hv513_1.symm.trans hx513_1)
           rw [hv513_1] at ge513_1
           have HL513_1:=aM (show Kd.R k43 43 _ _ _ _ ((rd_T35 x494004_3 x8_2).f1) from ge513_1)
           clear hv513_1 ge513_1
           have HX513_1:=aM hx513_1
           clear hcc513 hce513
           have HR513_1:=aM hi513_1
           have HC513_1:=aM hl513_1
           clear hi513_1 hl513_1
           replace p513:=eq_true p513
           replace q513:=eq_true q513
           have p514:0≤(x8_2:Int):=of_decide_eq_true (by first|(with_reducible assumption)|assumption)
           have q514:x8_2<(x494004_3.length:Int):=of_decide_eq_true (by first|(with_reducible assumption)|assumption)
           obtain⟨ad514,A514_1,c514_1,e514,hx514_0,hx514_1,hl514_1,hi514_1⟩:=at_T35 (Kd.S_reads' HO_494004.out).2.2 x8_2 p514 q514
           obtain rfl:ad513=ad514:=(by injection e514)
           obtain⟨ce514,hce514,hMe514,hcc514⟩:=Kd.S_get HO_494004.out z35 x8_2 p514 (by first|exact q514|exact of_decide_eq_true (by first|(with_reducible assumption)|assumption)|(have e_:=(Kd.S_reads' HO_494004.out).1;omega))
           obtain⟨ve514_1,rfl,ge514_1⟩:=k35_openM hMe514
           have hv514_1:=hcc514 1 _ rfl
           rw [add_field _ _ 1 (by omega)] at hv514_1
           replace hv514_1:=Option.some.inj (hv514_1.symm.trans hx514_1)
           rw [hv514_1] at ge514_1
           have HL514_1:=aM (show Kd.R k43 43 _ _ _ _ ((rd_T35 x494004_3 x8_2).f1) from ge514_1)
           clear hv514_1 ge514_1
           have HX514_1:=aM hx514_1
           clear hcc514 hce514
           have HR514_1:=aM hi514_1
           have HC514_1:=aM hl514_1
           clear hi514_1 hl514_1
           replace p514:=eq_true p514
           replace q514:=eq_true q514
           have ea_:=Option.some.inj (hx513_1.symm.trans hx514_1)
           injection ea_ with ea_ en_ ec_
           subst ea_
           subst ec_
           clear en_
           have p515:0≤(x9_3:Int):=of_decide_eq_true (by first|(with_reducible assumption)|assumption)
           have q515:x9_3<(((rd_T35 x494004_3 x8_2).f1).length:Int):=of_decide_eq_true (by first|(with_reducible assumption)|assumption)
           obtain⟨ad515,e515,hx515_0,hx515_1⟩:=at_T43 (by repeat(first|(with_reducible exact HR514_1.out)|(with_reducible refine Kd.C_alloc ?_ _)|(with_reducible refine Kd.C_drewN ?_ _)|(with_reducible refine bC ?_)|exact HR514_1.out)) x9_3 p515 q515
           (try rw [←Nbq75.out] at hx515_0)
           cases e515
           replace p515:=eq_true p515
           replace q515:=eq_true q515
           try go_wp2
           have n0_:=aM (aC HO_494000.out)
           have n1_:=aM (aC HO_494001.out)
           have n2_:=aM (aW HO_494004.out)
           have n3_:=aM (aC HL513_1.out)
           have n4_:=aM (aC HL514_1.out)
           have n5_:=aM (aK BK481.out)
           have n6_:=aM (aK BK493.out)
           have n7_:=aM (bC HR513_1.out)
           have n8_:=aM (bC HR514_1.out)
           have n9_:=aM (aO HB.out)
           clear HO_494000
           clear HO_494001
           clear HO_494004
           clear HL513_1
           clear HL514_1
           clear BK481
           clear BK493
           clear HR513_1
           clear HR514_1
           clear HB
           have HO_494000:=n0_
           have HO_494001:=n1_
           have HO_494004:=n2_
           have HL513_1:=n3_
           have HL514_1:=n4_
           have BK481:=n5_
           have BK493:=n6_
           have HR513_1:=n7_
           have HR514_1:=n8_
           have HB:=n9_
           clear n0_ n1_ n2_ n3_ n4_ n5_ n6_ n7_ n8_ n9_
           have p516:0≤(x8_2:Int):=of_decide_eq_true (by first|(with_reducible assumption)|assumption)
           have q516:x8_2<(x494004_3.length:Int):=of_decide_eq_true (by first|(with_reducible assumption)|assumption)
           obtain⟨ad516,A516_1,c516_1,e516,hx516_0,hx516_1,hl516_1,hi516_1⟩:=at_T35 (Kd.S_reads' HO_494004.out).2.2 x8_2 p516 q516
           obtain rfl:ad513=ad516:=(by injection e516)
           obtain⟨ce516,hce516,hMe516,hcc516⟩:=Kd.S_get HO_494004.out z35 x8_2 p516 (by first|exact q516|exact of_decide_eq_true (by first|(with_reducible assumption)|assumption)|(have e_:=(Kd.S_reads' HO_494004.out).1;omega))
           obtain⟨ve516_1,rfl,ge516_1⟩:=k35_openM hMe516
           have hv516_1:=hcc516 1 _ rfl
           rw [add_field _ _ 1 (by omega)] at hv516_1
           replace hv516_1:=Option.some.inj (hv516_1.symm.trans hx516_1)
           rw [hv516_1] at ge516_1
           have HL516_1:=aM (show Kd.R k43 43 _ _ _ _ ((rd_T35 x494004_3 x8_2).f1) from ge516_1)
           clear hv516_1 ge516_1
           have HX516_1:=aM hx516_1
           clear hcc516 hce516
           have HR516_1:=aM hi516_1
           have HC516_1:=aM hl516_1
           clear hi516_1 hl516_1
           replace p516:=eq_true p516
           replace q516:=eq_true q516
           have p517:0≤(x8_2:Int):=of_decide_eq_true (by first|(with_reducible assumption)|assumption)
           have q517:x8_2<(x494004_3.length:Int):=of_decide_eq_true (by first|(with_reducible assumption)|assumption)
           obtain⟨ad517,A517_1,c517_1,e517,hx517_0,hx517_1,hl517_1,hi517_1⟩:=at_T35 (Kd.S_reads' HO_494004.out).2.2 x8_2 p517 q517
           obtain rfl:ad513=ad517:=(by injection e517)
           obtain⟨ce517,hce517,hMe517,hcc517⟩:=Kd.S_get HO_494004.out z35 x8_2 p517 (by first|exact q517|exact of_decide_eq_true (by first|(with_reducible assumption)|assumption)|(have e_:=(Kd.S_reads' HO_494004.out).1;omega))
           obtain⟨ve517_1,rfl,ge517_1⟩:=k35_openM hMe517
           have hv517_1:=hcc517 1 _ rfl
           rw [add_field _ _ 1 (by omega)] at hv517_1
           replace hv517_1:=Option.some.inj (hv517_1.symm.trans hx517_1)
           rw [hv517_1] at ge517_1
           have HL517_1:=aM (show Kd.R k43 43 _ _ _ _ ((rd_T35 x494004_3 x8_2).f1) from ge517_1)
           clear hv517_1 ge517_1
           have HX517_1:=aM hx517_1
           clear hcc517 hce517
           have HR517_1:=aM hi517_1
           have HC517_1:=aM hl517_1
           clear hi517_1 hl517_1
           replace p517:=eq_true p517
           replace q517:=eq_true q517
           have ea_:=Option.some.inj (hx516_1.symm.trans hx517_1)
           injection ea_ with ea_ en_ ec_
           subst ea_
           subst ec_
           clear en_
           have p518:0≤(x9_3:Int):=of_decide_eq_true (by first|(with_reducible assumption)|assumption)
           have q518:x9_3<(((rd_T35 x494004_3 x8_2).f1).length:Int):=of_decide_eq_true (by first|(with_reducible assumption)|assumption)
           obtain⟨ad518,e518,hx518_0,hx518_1⟩:=at_T43 (by repeat(first|(with_reducible exact HR517_1.out)|(with_reducible refine Kd.C_alloc ?_ _)|(with_reducible refine Kd.C_drewN ?_ _)|(with_reducible refine bC ?_)|exact HR517_1.out)) x9_3 p518 q518
           (try rw [←Nbq75.out] at hx518_0)
           cases e518
           replace p518:=eq_true p518
           replace q518:=eq_true q518
           obtain⟨Ao83,co83,eo83⟩:=Kd.R_slice HO_494001.out
           (first|subst eo83|(injection eo83 with f1_ f2_ f3_;have f4_:=f1_.symm;have f5_:=f3_.symm;clear f1_ f2_ f3_;subst f4_;subst f5_))
           have p78:0≤(x9_3:Int):=of_decide_eq_true (by first|(with_reducible assumption)|assumption)
           have q78:(x9_3:Int)<((((rd_T35 x494004_3 x8_2).f1).length:Int):Int):=of_decide_eq_true (by first|(with_reducible assumption)|assumption)
           obtain⟨go78,co78,eo78,gb78,gl78,cl78,HG78⟩:=Kd.R_form HL516_1.out (by omega)
           (first|cases eo78|(injection eo78 with ea_ en_ ec_;(first|subst ea_|(injection ea_ with ea_;subst ea_));subst ec_;clear en_))
           have GB78:=aM gb78
           have GG78:=aM HG78
           clear gb78 gl78 HG78
           (first|simp only [add_plain] at hx518_0|skip)
           (first|simp only [add_plain] at hx518_1|skip)
           obtain⟨ce78,hcl78,hM78,hcc78,hfr78⟩:=Kd.R_elem HL516_1.out z43 (x9_3:Int) p78 q78
           obtain rfl:=k43_openM hM78
           have hx78_0:World.cell? _ ⟨go78,(x9_3:Int).toNat * 2,none⟩=some (.bool ((rd_T43 ((rd_T35 x494004_3 x8_2).f1) x9_3).f0)):=hcc78 0 _ rfl
           have hx78_1:World.cell? _ ⟨go78,(x9_3:Int).toNat * 2+1,none⟩=some (.int .i64 ((rd_T43 ((rd_T35 x494004_3 x8_2).f1) x9_3).f1)):=hcc78 1 _ rfl
           have hf78_0:World.frozen? _ ⟨go78,(x9_3:Int).toNat * 2,none⟩=false:=hfr78 0
           have hf78_1:World.frozen? _ ⟨go78,(x9_3:Int).toNat * 2+1,none⟩=false:=hfr78 1
           clear hcl78 hcc78 hfr78;(try clear hM78)
           replace p78:=eq_true p78
           replace q78:=eq_true q78
           have hq84:(x8_2:Int)<(x494004_3.length:Int):=(by have h_:(x8_2:Int)<((x494004_3.length:Int):Int):=of_decide_eq_true (by first|(with_reducible assumption)|assumption);first|exact h_|(have e_:=(Kd.S_reads' HO_494004.out).1;omega)|simpa only [List.length_set,List.length_set] using h_)
           obtain⟨oki84,ce84,hcl84,hM84,hcc84,hok84,hbk84⟩:=Kd.S_borrow HO_494004.out z35 (x8_2:Int) (of_decide_eq_true (by first|(with_reducible assumption)|assumption)) hq84
           obtain⟨ve84_1,rfl,ge84_1⟩:=k35_openM hM84
           have hv84:=hcc84 1 _ rfl
           rw [add_field _ _ 1 (by omega)] at hv84
           replace hv84:=Option.some.inj (hv84.symm.trans HX516_1.out)
           subst hv84
           clear hcc84 hcl84
           replace ge84_1:=(show Kd.R k43 43 _ _ _ _ ((rd_T35 x494004_3 x8_2).f1) from ge84_1)
           obtain⟨cf84,hcl84,hN84,hcc84,hfr84⟩:=Kd.R_elem ge84_1 z43 (x9_3:Int) (of_decide_eq_true (by first|(with_reducible assumption)|assumption)) (by have h_:(x9_3:Int)<((((rd_T35 x494004_3 x8_2).f1).length:Int):Int):=of_decide_eq_true (by first|(with_reducible assumption)|assumption);first|exact h_|(have e_:=(aF HR516_1.out).1;omega)|simpa using h_)
           obtain rfl:=k43_openM hN84
           have HP84:=Kd.R_seg ge84_1 (x9_3:Int) (of_decide_eq_true (by first|(with_reducible assumption)|assumption)) (by have h_:(x9_3:Int)<((((rd_T35 x494004_3 x8_2).f1).length:Int):Int):=of_decide_eq_true (by first|(with_reducible assumption)|assumption);first|exact h_|(have e_:=(aF HR516_1.out).1;omega)|simpa using h_) (seg:= [.int .i64 (Int.tmod ((rd_T43 ((rd_T35 x494004_3 x8_2).f1) x9_3).f1) (x494001_1.length:Int))]) (j:=1) hcl84 hcc84 (show 2≤2 from by decide) (x':=(⟨true,Int.tmod ((rd_T43 ((rd_T35 x494004_3 x8_2).f1) x9_3).f1) (x494001_1.length:Int)⟩:S43)) (by have e_:(((rd_T35 x494004_3 x8_2).f1).getD (x9_3:Int).toNat z43).f0=true:=Nbq75.out.symm;rw [e_];exact(k43_mkM _ _ _ (⟨true,Int.tmod ((rd_T43 ((rd_T35 x494004_3 x8_2).f1) x9_3).f1) (x494001_1.length:Int)⟩:S43))) (fun _ hk=>hk)
           clear hcl84 hcc84 hfr84 hN84
           rw [←Ny519.out] at HP84
           have HS84:=hbk84 HP84.2 (fun k_ e_=>by injection e_ with e_;subst e_;exact ge84_1.1 _ rfl) (x':=(⟨(rd_T35 x494004_3 x8_2).f0,y519⟩:S35)) (k35_mkM _ _ _ (⟨(rd_T35 x494004_3 x8_2).f0,y519⟩:S35) HP84.1)
           rw [←Ny521.out] at HS84
           have HQ84:=aM HS84
           clear HP84 HS84 hbk84 hok84
           refine start_ (n:=24) (S:=fun w'=>w'.cell? ⟨gb493,0,none⟩=some (.slice Ao6 t482.length co6)∧w'.cell? ⟨gb493,1,none⟩=some (.slice Ao83 x494001_1.length co83)∧w'.cell? ⟨gb493,2,none⟩=some (.int .i64 t488)∧w'.cell? ⟨gb493,3,none⟩=some (.int .i64 t489)∧w'.cell? ⟨gb493,4,none⟩=some (.slice (some ad513) x494004_3.length co81)∧w'.cell? (ad513.add ((x8_2).toNat * 2))=some (.int .i64 ((rd_T35 x494004_3 x8_2).f0))∧w'.cell? ⟨(ad513.add ((x8_2).toNat * 2)).block,(ad513.add ((x8_2).toNat * 2)).off+1,none⟩=some (.slice (some (⟨go78,0,none⟩:Addr)) ((rd_T35 x494004_3 x8_2).f1).length c516_1)∧w'.cell? (ad513.add ((x8_2).toNat * 2))=some (.int .i64 ((rd_T35 x494004_3 x8_2).f0))∧w'.cell? ⟨(ad513.add ((x8_2).toNat * 2)).block,(ad513.add ((x8_2).toNat * 2)).off+1,none⟩=some (.slice (some (⟨go78,0,none⟩:Addr)) ((rd_T35 x494004_3 x8_2).f1).length c516_1)∧w'.cell? ⟨go78,((x9_3).toNat * 2),none⟩=some (.bool (true))∧w'.cell? ⟨go78,((x9_3).toNat * 2)+1,none⟩=some (.int .i64 ((rd_T43 ((rd_T35 x494004_3 x8_2).f1) x9_3).f1))) (ds:= [23]) #[F,F,F,F,F,F,F,F,F,F,F,F,F,F,F,F,F,F,F,F,F,F,F,F] (by kernel_rfl) rfl rfl ⟨(aG BK493.out 0).trans rfl,(aG BK493.out 1).trans rfl,(aG BK493.out 2).trans rfl,(aG BK493.out 3).trans rfl,(aG BK493.out 4).trans rfl,hx516_0,hx516_1,hx517_0,hx517_1,hx518_0,hx518_1⟩ (fun hHeld=>?_);refine with_tabW regletlaw14_Clear.tab25 regletlaw14_Clear.bits25 (fun HT_ HW_=>?_)
           generalize wr.drew=w82 at HO_494000 HO_494001 HO_494004 HL513_1 HL514_1 BK481 BK493 HR513_1 HR514_1 HB GG78 HL516_1 HL517_1 HQ84 HR516_1 HR517_1 HX516_1 HX517_1 hf78_0 hf78_1 hx516_0 hx516_1 hx517_0 hx517_1 hx518_0 hx518_1 hx78_0 hx78_1 hHeld ⊢
           refine pure_ (i:=0) (N:=some 104) (v:=?_) (a':=?_) #[T,F,F,F,F,F,F,F,F,F,F,F,F,F,F,F,F,F,F,F,F,F,F,F] rfl rfl (any_of HT_.out (by kernel_rfl)) (fun _ _ _ h=>h) (Or.inl ⟨by rfl,?_⟩) ?_ ?_
           rotate_left;(intro w';go_simp;with_reducible rfl);rotate_left;(simp only [pq];rfl)
           refine pure_ (i:=2) (N:=some 106) (v:=?_) (a':=?_) #[T,F,T,F,F,F,F,F,F,F,F,F,F,F,F,F,F,F,F,F,F,F,F,F] rfl rfl (any_of HT_.out (by kernel_rfl)) (fun _ _ _ h=>h) (Or.inl ⟨by rfl,?_⟩) ?_ ?_
           rotate_left;(intro w';go_simp;with_reducible rfl);rotate_left;(simp only [pq];rfl)
           refine pure_ (i:=6) (N:=some 110) (v:=?_) (a':=?_) #[T,F,T,F,F,F,T,F,F,F,F,F,F,F,F,F,F,F,F,F,F,F,F,F] rfl rfl (any_of HT_.out (by kernel_rfl)) (fun _ _ _ h=>h) (Or.inl ⟨by rfl,?_⟩) ?_ ?_
           rotate_left;(intro w';go_simp;with_reducible rfl);rotate_left;(simp only [pq];rfl)
           refine pure_ (i:=7) (N:=some 111) (v:=?_) (a':=?_) #[T,F,T,F,F,F,T,T,F,F,F,F,F,F,F,F,F,F,F,F,F,F,F,F] rfl rfl (any_of HT_.out (by kernel_rfl)) (fun _ _ _ h=>h) (Or.inl ⟨by rfl,?_⟩) ?_ ?_
           rotate_left;(intro w';go_simp;with_reducible rfl);rotate_left;(simp only [pq];rfl)
           refine pure_ (i:=9) (N:=some 113) (v:=?_) (a':=?_) #[T,F,T,F,F,F,T,T,F,T,F,F,F,F,F,F,F,F,F,F,F,F,F,F] rfl rfl (any_of HT_.out (by kernel_rfl)) (fun _ _ _ h=>h) (Or.inl ⟨by rfl,?_⟩) ?_ ?_
           rotate_left;(intro w';go_simp;with_reducible rfl);rotate_left;(simp only [pq];rfl)
           refine pure_ (i:=13) (N:=some 117) (v:=?_) (a':=?_) #[T,F,T,F,F,F,T,T,F,T,F,F,F,T,F,F,F,F,F,F,F,F,F,F] rfl rfl (any_of HT_.out (by kernel_rfl)) (fun _ _ _ h=>h) (Or.inl ⟨by rfl,?_⟩) ?_ ?_
           rotate_left;(intro w';go_simp;with_reducible rfl);rotate_left;(simp only [pq];rfl)
           refine pure_ (i:=17) (N:=some 121) (v:=?_) (a':=?_) #[T,F,T,F,F,F,T,T,F,T,F,F,F,T,F,F,F,T,F,F,F,F,F,F] rfl rfl (any_of HT_.out (by kernel_rfl)) (fun _ _ _ h=>h) (Or.inl ⟨by rfl,?_⟩) ?_ ?_
           rotate_left;(intro w';go_simp;with_reducible rfl);rotate_left;(simp only [pq];rfl)
           refine take_ (i:=1) (N:=some 105) (v:=?_) (a':=?_) #[T,T,T,F,F,F,T,T,F,T,F,F,F,T,F,F,F,T,F,F,F,F,F,F] rfl rfl (take_ofW HT_.out HW_.out (by kernel_rfl)) (fun _ _ _ h=>h) (Or.inl ⟨by rfl,?_⟩) hHeld ?_ ?_
           rotate_left
           ·rintro w' ⟨s0,s1,s2,s3,s4,s5,s6,s7,s8,s9,s10⟩
            go_simp
            with_reducible rfl
           rotate_left
           ·simp only [pq]
            rfl
           refine pure_ (i:=3) (N:=some 107) (v:=?_) (a':=?_) #[T,T,T,T,F,F,T,T,F,T,F,F,F,T,F,F,F,T,F,F,F,F,F,F] rfl rfl (any_of HT_.out (by kernel_rfl)) (fun _ _ _ h=>h) (Or.inl ⟨by rfl,?_⟩) ?_ ?_
           rotate_left;(intro w';go_simp;with_reducible rfl);rotate_left;(simp only [pq];rfl)
           refine pure_ (i:=4) (N:=some 108) (v:=?_) (a':=?_) #[T,T,T,T,T,F,T,T,F,T,F,F,F,T,F,F,F,T,F,F,F,F,F,F] rfl rfl (any_of HT_.out (by kernel_rfl)) (fun _ _ _ h=>h) (Or.inl ⟨by rfl,?_⟩) ?_ ?_
           rotate_left;(intro w';go_simp;with_reducible rfl);rotate_left;(simp only [pq];rfl)
           refine take_ (i:=5) (N:=some 109) (v:=?_) (a':=?_) #[T,T,T,T,T,T,T,T,F,T,F,F,F,T,F,F,F,T,F,F,F,F,F,F] rfl rfl (take_ofW HT_.out HW_.out (by kernel_rfl)) (fun _ _ _ h=>h) (Or.inl ⟨by rfl,?_⟩) hHeld ?_ ?_
           rotate_left
           ·rintro w' ⟨s0,s1,s2,s3,s4,s5,s6,s7,s8,s9,s10⟩
            go_simp
            with_reducible rfl
           rotate_left
           ·simp only [pq]
            rfl
           refine take_ (i:=8) (N:=some 112) (v:=?_) (a':=?_) #[T,T,T,T,T,T,T,T,T,T,F,F,F,T,F,F,F,T,F,F,F,F,F,F] rfl rfl (take_ofW HT_.out HW_.out (by kernel_rfl)) (fun _ _ _ h=>h) (Or.inl ⟨by rfl,?_⟩) hHeld ?_ ?_
           rotate_left
           ·rintro w' ⟨s0,s1,s2,s3,s4,s5,s6,s7,s8,s9,s10⟩
            go_simp
            with_reducible rfl
           rotate_left
           ·simp only [pq]
            rfl
           refine pure_ (i:=10) (N:=some 114) (v:=?_) (a':=?_) #[T,T,T,T,T,T,T,T,T,T,T,F,F,T,F,F,F,T,F,F,F,F,F,F] rfl rfl (any_of HT_.out (by kernel_rfl)) (fun _ _ _ h=>h) (Or.inl ⟨by rfl,?_⟩) ?_ ?_
           rotate_left;(intro w';go_simp;with_reducible rfl);rotate_left;(simp only [pq];rfl)
           refine pure_ (i:=11) (N:=some 115) (v:=?_) (a':=?_) #[T,T,T,T,T,T,T,T,T,T,T,T,F,T,F,F,F,T,F,F,F,F,F,F] rfl rfl (any_of HT_.out (by kernel_rfl)) (fun _ _ _ h=>h) (Or.inl ⟨by rfl,?_⟩) ?_ ?_
           rotate_left;(intro w';go_simp;with_reducible rfl);rotate_left;(simp only [pq];rfl)
           refine take_ (i:=12) (N:=some 116) (v:=?_) (a':=?_) #[T,T,T,T,T,T,T,T,T,T,T,T,T,T,F,F,F,T,F,F,F,F,F,F] rfl rfl (take_ofW HT_.out HW_.out (by kernel_rfl)) (fun _ _ _ h=>h) (Or.inl ⟨by rfl,?_⟩) hHeld ?_ ?_
           rotate_left
           ·rintro w' ⟨s0,s1,s2,s3,s4,s5,s6,s7,s8,s9,s10⟩
            go_simp
            with_reducible rfl
           rotate_left
           ·simp only [pq]
            rfl
           refine pure_ (i:=14) (N:=some 118) (v:=?_) (a':=?_) #[T,T,T,T,T,T,T,T,T,T,T,T,T,T,T,F,F,T,F,F,F,F,F,F] rfl rfl (any_of HT_.out (by kernel_rfl)) (fun _ _ _ h=>h) (Or.inl ⟨by rfl,?_⟩) ?_ ?_
           rotate_left;(intro w';go_simp;with_reducible rfl);rotate_left;(simp only [pq];rfl)
           refine pure_ (i:=15) (N:=some 119) (v:=?_) (a':=?_) #[T,T,T,T,T,T,T,T,T,T,T,T,T,T,T,T,F,T,F,F,F,F,F,F] rfl rfl (any_of HT_.out (by kernel_rfl)) (fun _ _ _ h=>h) (Or.inl ⟨by rfl,?_⟩) ?_ ?_
           rotate_left;(intro w';go_simp;with_reducible rfl);rotate_left;(simp only [pq];rfl)
           refine take_ (i:=16) (N:=some 120) (v:=?_) (a':=?_) #[T,T,T,T,T,T,T,T,T,T,T,T,T,T,T,T,T,T,F,F,F,F,F,F] rfl rfl (take_ofW HT_.out HW_.out (by kernel_rfl)) (fun _ _ _ h=>h) (Or.inl ⟨by rfl,?_⟩) hHeld ?_ ?_
           rotate_left
           ·rintro w' ⟨s0,s1,s2,s3,s4,s5,s6,s7,s8,s9,s10⟩
            go_simp
            with_reducible rfl
           rotate_left
           ·simp only [pq]
            rfl
           refine take_ (i:=18) (N:=some 122) (v:=?_) (a':=?_) #[T,T,T,T,T,T,T,T,T,T,T,T,T,T,T,T,T,T,T,F,F,F,F,F] rfl rfl (take_ofW HT_.out HW_.out (by kernel_rfl)) (fun _ _ _ h=>h) (Or.inl ⟨by rfl,?_⟩) hHeld ?_ ?_
           rotate_left
           ·rintro w' ⟨s0,s1,s2,s3,s4,s5,s6,s7,s8,s9,s10⟩
            go_simp
            with_reducible rfl
           rotate_left
           ·simp only [pq]
            rfl
           refine pure_ (i:=19) (N:=some 123) (v:=?_) (a':=?_) #[T,T,T,T,T,T,T,T,T,T,T,T,T,T,T,T,T,T,T,T,F,F,F,F] rfl rfl (any_of HT_.out (by kernel_rfl)) (fun _ _ _ h=>h) (Or.inl ⟨by rfl,?_⟩) ?_ ?_
           rotate_left;(intro w';go_simp;with_reducible rfl);rotate_left;(simp only [pq];rfl)
           refine pure_ (i:=20) (N:=some 124) (v:=?_) (a':=?_) #[T,T,T,T,T,T,T,T,T,T,T,T,T,T,T,T,T,T,T,T,T,F,F,F] rfl rfl (any_of HT_.out (by kernel_rfl)) (fun _ _ _ h=>h) (Or.inl ⟨by rfl,?_⟩) ?_ ?_
           rotate_left;(intro w';go_simp;with_reducible rfl);rotate_left;(simp only [pq];rfl)
           refine pure_ (i:=21) (N:=some 125) (v:=?_) (a':=?_) #[T,T,T,T,T,T,T,T,T,T,T,T,T,T,T,T,T,T,T,T,T,T,F,F] rfl rfl (any_of HT_.out (by kernel_rfl)) (fun _ _ _ h=>h) (Or.inl ⟨by rfl,?_⟩) ?_ ?_
           rotate_left;(intro w';go_simp;with_reducible rfl);rotate_left;(simp only [pq];rfl)
           refine pure_ (i:=22) (N:=some 126) (v:=?_) (a':=?_) #[T,T,T,T,T,T,T,T,T,T,T,T,T,T,T,T,T,T,T,T,T,T,T,F] rfl rfl (any_of HT_.out (by kernel_rfl)) (fun _ _ _ h=>h) (Or.inl ⟨by rfl,?_⟩) ?_ ?_
           rotate_left;(intro w';go_simp;with_reducible rfl);rotate_left;(simp only [pq];rfl)
           refine last_ (i:=23) (N:=none) #[T,T,T,T,T,T,T,T,T,T,T,T,T,T,T,T,T,T,T,T,T,T,T,T] rfl rfl (one_of HT_.out (by kernel_rfl)) (by decide) (fun K hK=>?_)
           refine skip_ (w1:=?_) (by rfl) rfl ?_ ?_
           rotate_left
           ·go_simp
            rfl
           refine hK.out _ _ ?_
           clear hK K
           refine done_ (done_of HT_.out (by kernel_rfl)) ?_
           try go_wp2
           go_roundg k3
           case measure=>have:=HK1.out;have:=HK2.out;have:=HK3.out;omega
           case rel=>exact⟨(wrap64 (x9_3+1)),(y521),(.slice (some ad513) x494004_3.length co81),(by first|rfl|(simp;done)|(simp [*];done)),H',⟨by have:=HK1.out;have:=HK2.out;have:=HK3.out;omega⟩,⟨by(with_reducible repeat(first|apply aA|apply aB|apply aC));exact Kd.R_mono (aE (p:=⟨go78,(x9_3:Int).toNat * 2+1,none⟩) (Kd.R_types HO_494000.out GG78.out (by decide)) (fun _ hk=>hk.2) (.int .i64 (Int.tmod ((rd_T43 ((rd_T35 x494004_3 x8_2).f1) x9_3).f1) (x494001_1.length:Int)))) (fun _ hk=>trivial)⟩,⟨by(with_reducible repeat(first|apply aA|apply aB|apply aC));exact Kd.R_mono (aE (p:=⟨go78,(x9_3:Int).toNat * 2+1,none⟩) (Kd.R_types HO_494001.out GG78.out (by decide)) (fun _ hk=>hk.2) (.int .i64 (Int.tmod ((rd_T43 ((rd_T35 x494004_3 x8_2).f1) x9_3).f1) (x494001_1.length:Int)))) (fun _ hk=>trivial)⟩,⟨by(with_reducible repeat(first|apply Kd.S_alloc|apply aV|apply aW));exact HQ84.out⟩,⟨by(with_reducible repeat(first|refine aJ ?_ _|refine aK ?_|refine aI ?_ _));refine blk_far ?_ (by have h_:=Kd.R_ne HL516_1.out BK481.out (by decide);intro e_;exact h_ (by rw [e_];rfl)) _;(with_reducible repeat(first|refine aJ ?_ _|refine aK ?_|refine aI ?_ _));exact BK481.out⟩,⟨by(with_reducible repeat(first|refine aJ ?_ _|refine aK ?_|refine aI ?_ _));refine blk_far ?_ (by have h_:=Kd.R_ne HL516_1.out BK493.out (by decide);intro e_;exact h_ (by rw [e_];rfl)) _;(with_reducible repeat(first|refine aJ ?_ _|refine aK ?_|refine aI ?_ _));exact BK493.out⟩,⟨by repeat(first|(with_reducible first|exact HB.out|apply aN|apply aP|apply aO|refine aL ?_ GB78.out|refine aL ?_ GE481.out|refine aL ?_ GE493.out)|exact HB.out)⟩⟩
          ·replace c76:=Bool.eq_false_iff.mpr c76
           subst c76
           have H1:(regletlaw14_Clear.l3 k3 x8_2 (wrap64 (x9_3+1)) t482 x494001_1 t488 t489 x494004_3)=some (r1,r2,r3,r4,r5):=by rw [if_neg (show ¬(false=true) by decide)] at H;exact H
           clear H
           have H:=H1
           clear H1
           have H':=aM H
           clear H
           have hnb86:=NB493_481.out
           have hnc86:=NB481_493.out
           have hcz87_0:wr.cell? ⟨gb493,0,none⟩=some (.slice Ao6 t482.length co6):=(aG BK493.out 0).trans rfl
           have hcz87_1:wr.cell? ⟨gb493,1,none⟩=some (u494001):=(aG BK493.out 1).trans rfl
           have hcz87_2:wr.cell? ⟨gb493,2,none⟩=some (.int .i64 t488):=(aG BK493.out 2).trans rfl
           have hcz87_3:wr.cell? ⟨gb493,3,none⟩=some (.int .i64 t489):=(aG BK493.out 3).trans rfl
           have hcz87_4:wr.cell? ⟨gb493,4,none⟩=some (u494004):=(aG BK493.out 4).trans rfl
           have hfz87_0:=aH BK493.out 0
           have hfz87_1:=aH BK493.out 1
           have hfz87_2:=aH BK493.out 2
           have hfz87_3:=aH BK493.out 3
           have hfz87_4:=aH BK493.out 4
           obtain⟨Ao88,co88,eo88⟩:=Kd.S_slice HO_494004.out
           subst eo88
           have p513:0≤(x8_2:Int):=of_decide_eq_true (by first|(with_reducible assumption)|assumption)
           have q513:x8_2<(x494004_3.length:Int):=of_decide_eq_true (by first|(with_reducible assumption)|assumption)
           obtain⟨ad513,A513_1,c513_1,e513,hx513_0,hx513_1,hl513_1,hi513_1⟩:=at_T35 (Kd.S_reads' HO_494004.out).2.2 x8_2 p513 q513
           cases e513
           obtain⟨ce513,hce513,hMe513,hcc513⟩:=Kd.S_get HO_494004.out z35 x8_2 p513 (by first|exact q513|exact of_decide_eq_true (by first|(with_reducible assumption)|assumption)|(have e_:=(Kd.S_reads' HO_494004.out).1;omega))
           obtain⟨ve513_1,rfl,ge513_1⟩:=k35_openM hMe513
           have hv513_1:=hcc513 1 _ rfl
           rw [add_field _ _ 1 (by omega)] at hv513_1
           replace hv513_1:=Option.some.inj (hv513_1.symm.trans hx513_1)
           rw [hv513_1] at ge513_1
           have HL513_1:=aM (show Kd.R k43 43 _ _ _ _ ((rd_T35 x494004_3 x8_2).f1) from ge513_1)
           clear hv513_1 ge513_1
           have HX513_1:=aM hx513_1
           clear hcc513 hce513
           have HR513_1:=aM hi513_1
           have HC513_1:=aM hl513_1
           clear hi513_1 hl513_1
           replace p513:=eq_true p513
           replace q513:=eq_true q513
           have p514:0≤(x8_2:Int):=of_decide_eq_true (by first|(with_reducible assumption)|assumption)
           have q514:x8_2<(x494004_3.length:Int):=of_decide_eq_true (by first|(with_reducible assumption)|assumption)
           obtain⟨ad514,A514_1,c514_1,e514,hx514_0,hx514_1,hl514_1,hi514_1⟩:=at_T35 (Kd.S_reads' HO_494004.out).2.2 x8_2 p514 q514
           obtain rfl:ad513=ad514:=(by injection e514)
           obtain⟨ce514,hce514,hMe514,hcc514⟩:=Kd.S_get HO_494004.out z35 x8_2 p514 (by first|exact q514|exact of_decide_eq_true (by first|(with_reducible assumption)|assumption)|(have e_:=(Kd.S_reads' HO_494004.out).1;omega))
           obtain⟨ve514_1,rfl,ge514_1⟩:=k35_openM hMe514
           have hv514_1:=hcc514 1 _ rfl
           rw [add_field _ _ 1 (by omega)] at hv514_1
           replace hv514_1:=Option.some.inj (hv514_1.symm.trans hx514_1)
           rw [hv514_1] at ge514_1
           have HL514_1:=aM (show Kd.R k43 43 _ _ _ _ ((rd_T35 x494004_3 x8_2).f1) from ge514_1)
           clear hv514_1 ge514_1
           have HX514_1:=aM hx514_1
           clear hcc514 hce514
           have HR514_1:=aM hi514_1
           have HC514_1:=aM hl514_1
           clear hi514_1 hl514_1
           replace p514:=eq_true p514
           replace q514:=eq_true q514
           have ea_:=Option.some.inj (hx513_1.symm.trans hx514_1)
           injection ea_ with ea_ en_ ec_
           subst ea_
           subst ec_
           clear en_
           have p515:0≤(x9_3:Int):=of_decide_eq_true (by first|(with_reducible assumption)|assumption)
           have q515:x9_3<(((rd_T35 x494004_3 x8_2).f1).length:Int):=of_decide_eq_true (by first|(with_reducible assumption)|assumption)
           obtain⟨ad515,e515,hx515_0,hx515_1⟩:=at_T43 (by repeat(first|(with_reducible exact HR514_1.out)|(with_reducible refine Kd.C_alloc ?_ _)|(with_reducible refine Kd.C_drewN ?_ _)|(with_reducible refine bC ?_)|exact HR514_1.out)) x9_3 p515 q515
           (try rw [←Nbq75.out] at hx515_0)
           cases e515
           replace p515:=eq_true p515
           replace q515:=eq_true q515
           go_wp2
           go_roundg k3
           case measure=>have:=HK1.out;have:=HK2.out;have:=HK3.out;omega
           case rel=>exact⟨(wrap64 (x9_3+1)),(x494004_3),(.slice (some ad513) x494004_3.length co88),(by first|rfl|(simp;done)|(simp [*];done)),H',⟨by have:=HK1.out;have:=HK2.out;have:=HK3.out;omega⟩,⟨by(with_reducible repeat(first|apply aA|apply aB|apply aC));exact HO_494000.out⟩,⟨by(with_reducible repeat(first|apply aA|apply aB|apply aC));exact HO_494001.out⟩,⟨by(with_reducible repeat(first|apply Kd.S_alloc|apply aV|apply aW));exact HO_494004.out⟩,⟨by(with_reducible repeat(first|refine aJ ?_ _|refine aK ?_|refine aI ?_ _));exact BK481.out⟩,⟨by(with_reducible repeat(first|refine aJ ?_ _|refine aK ?_|refine aI ?_ _));exact BK493.out⟩,⟨by repeat(first|(with_reducible first|exact HB.out|apply aN|apply aP|apply aO|refine aL ?_ GE481.out|refine aL ?_ GE493.out)|exact HB.out)⟩⟩
         ·rw [if_neg c73] at H
          have c73b0:decide (x9_3<(((rd_T35 x494004_3 x8_2).f1).length:Int))=false:=decide_eq_false c73
          clear c73
          have H':=aM H
          clear H
          have hnb89:=NB493_481.out
          have hnc89:=NB481_493.out
          have hcz90_0:wr.cell? ⟨gb493,0,none⟩=some (.slice Ao6 t482.length co6):=(aG BK493.out 0).trans rfl
          have hcz90_1:wr.cell? ⟨gb493,1,none⟩=some (u494001):=(aG BK493.out 1).trans rfl
          have hcz90_2:wr.cell? ⟨gb493,2,none⟩=some (.int .i64 t488):=(aG BK493.out 2).trans rfl
          have hcz90_3:wr.cell? ⟨gb493,3,none⟩=some (.int .i64 t489):=(aG BK493.out 3).trans rfl
          have hcz90_4:wr.cell? ⟨gb493,4,none⟩=some (u494004):=(aG BK493.out 4).trans rfl
          have hfz90_0:=aH BK493.out 0
          have hfz90_1:=aH BK493.out 1
          have hfz90_2:=aH BK493.out 2
          have hfz90_3:=aH BK493.out 3
          have hfz90_4:=aH BK493.out 4
          obtain⟨Ao91,co91,eo91⟩:=Kd.S_slice HO_494004.out
          subst eo91
          have p513:0≤(x8_2:Int):=of_decide_eq_true (by first|(with_reducible assumption)|assumption)
          have q513:x8_2<(x494004_3.length:Int):=of_decide_eq_true (by first|(with_reducible assumption)|assumption)
          obtain⟨ad513,A513_1,c513_1,e513,hx513_0,hx513_1,hl513_1,hi513_1⟩:=at_T35 (Kd.S_reads' HO_494004.out).2.2 x8_2 p513 q513
          cases e513
          obtain⟨ce513,hce513,hMe513,hcc513⟩:=Kd.S_get HO_494004.out z35 x8_2 p513 (by first|exact q513|exact of_decide_eq_true (by first|(with_reducible assumption)|assumption)|(have e_:=(Kd.S_reads' HO_494004.out).1;omega))
          obtain⟨ve513_1,rfl,ge513_1⟩:=k35_openM hMe513
          have hv513_1:=hcc513 1 _ rfl
          rw [add_field _ _ 1 (by omega)] at hv513_1
          replace hv513_1:=Option.some.inj (hv513_1.symm.trans hx513_1)
          rw [hv513_1] at ge513_1
          have HL513_1:=aM (show Kd.R k43 43 _ _ _ _ ((rd_T35 x494004_3 x8_2).f1) from ge513_1)
          clear hv513_1 ge513_1
          have HX513_1:=aM hx513_1
          clear hcc513 hce513
          have HR513_1:=aM hi513_1
          have HC513_1:=aM hl513_1
          clear hi513_1 hl513_1
          replace p513:=eq_true p513
          replace q513:=eq_true q513
          go_wp2
          go_roundg k3
          case measure=>have:=HK1.out;have:=HK2.out;have:=HK3.out;omega
          case rel=>exact⟨(wrap64 (x8_2+1)),(x494004_3),(.slice (some ad513) x494004_3.length co91),(by first|rfl|(simp;done)|(simp [*];done)),H',⟨by have:=HK1.out;have:=HK2.out;have:=HK3.out;omega⟩,⟨by(with_reducible repeat(first|apply aA|apply aB|apply aC));exact HO_494000.out⟩,⟨by(with_reducible repeat(first|apply aA|apply aB|apply aC));exact HO_494001.out⟩,⟨by(with_reducible repeat(first|apply Kd.S_alloc|apply aV|apply aW));exact HO_494004.out⟩,⟨by(with_reducible repeat(first|refine aJ ?_ _|refine aK ?_|refine aI ?_ _));exact BK481.out⟩,⟨by(with_reducible repeat(first|refine aJ ?_ _|refine aK ?_|refine aI ?_ _));exact BK493.out⟩,⟨by repeat(first|(with_reducible first|exact HB.out|apply aN|apply aP|apply aO|refine aL ?_ GE481.out|refine aL ?_ GE493.out)|exact HB.out)⟩⟩
      ·rw [if_neg c67] at H
       have c67b0:decide (x8_2<(x494004_2.length:Int))=false:=decide_eq_false c67
       clear c67
       simp only [Option.some.injEq,Prod.mk.injEq] at H
       obtain⟨rfl,rfl,rfl,rfl,rfl⟩:=H
       have hnb92:=NB493_481.out
       have hnc92:=NB481_493.out
       have hcz93_0:wr.cell? ⟨gb493,0,none⟩=some (.slice Ao6 t482.length co6):=(aG BK493.out 0).trans rfl
       have hcz93_1:wr.cell? ⟨gb493,1,none⟩=some (u494001):=(aG BK493.out 1).trans rfl
       have hcz93_2:wr.cell? ⟨gb493,2,none⟩=some (.int .i64 t488):=(aG BK493.out 2).trans rfl
       have hcz93_3:wr.cell? ⟨gb493,3,none⟩=some (.int .i64 t489):=(aG BK493.out 3).trans rfl
       have hcz93_4:wr.cell? ⟨gb493,4,none⟩=some (u494004):=(aG BK493.out 4).trans rfl
       have hfz93_0:=aH BK493.out 0
       have hfz93_1:=aH BK493.out 1
       have hfz93_2:=aH BK493.out 2
       have hfz93_3:=aH BK493.out 3
       have hfz93_4:=aH BK493.out 4
       obtain⟨Ao94,co94,eo94⟩:=Kd.S_slice HO_494004.out
       subst eo94
       have hcz95_0:wr.cell? ⟨gb481,0,none⟩=some (.slice none 0 0):=(aG BK481.out 0).trans rfl
       have hcz95_1:wr.cell? ⟨gb481,1,none⟩=some (.slice none 0 0):=(aG BK481.out 1).trans rfl
       have hcz95_2:wr.cell? ⟨gb481,2,none⟩=some (.int .i64 0):=(aG BK481.out 2).trans rfl
       have hcz95_3:wr.cell? ⟨gb481,3,none⟩=some (.int .i64 0):=(aG BK481.out 3).trans rfl
       have hcz95_4:wr.cell? ⟨gb481,4,none⟩=some (.slice none 0 0):=(aG BK481.out 4).trans rfl
       have hfz95_0:=aH BK481.out 0
       have hfz95_1:=aH BK481.out 1
       have hfz95_2:=aH BK481.out 2
       have hfz95_3:=aH BK481.out 3
       have hfz95_4:=aH BK481.out 4
       obtain⟨Ao96,co96,eo96⟩:=Kd.R_slice HO_494001.out
       subst eo96
       go_wp2
       refine bodyPost_ret (results_cell_row rfl _ _ gb481 26 #[.slice Ao6 t482.length co6,.slice Ao96 x494001_1.length co96,.int .i64 t488,.int .i64 t489,.slice Ao94 x494004_2.length co94] (0,0) _ rfl (by(with_reducible repeat(first|refine aJ ?_ _|refine aK ?_|refine aI ?_ _));refine blk_put (cs:=#[.slice Ao6 t482.length co6,.slice Ao96 x494001_1.length co96,.int .i64 t488,.int .i64 t489,.slice none 0 0]) ?_ 4 _ rfl;(with_reducible repeat(first|refine aJ ?_ _|refine aK ?_|refine aI ?_ _));refine blk_put (cs:=#[.slice Ao6 t482.length co6,.slice Ao96 x494001_1.length co96,.int .i64 t488,.int .i64 0,.slice none 0 0]) ?_ 3 _ rfl;(with_reducible repeat(first|refine aJ ?_ _|refine aK ?_|refine aI ?_ _));refine blk_put (cs:=#[.slice Ao6 t482.length co6,.slice Ao96 x494001_1.length co96,.int .i64 0,.int .i64 0,.slice none 0 0]) ?_ 2 _ rfl;(with_reducible repeat(first|refine aJ ?_ _|refine aK ?_|refine aI ?_ _));refine blk_put (cs:=#[.slice Ao6 t482.length co6,.slice none 0 0,.int .i64 0,.int .i64 0,.slice none 0 0]) ?_ 1 _ rfl;(with_reducible repeat(first|refine aJ ?_ _|refine aK ?_|refine aI ?_ _));refine blk_put (cs:=#[.slice none 0 0,.slice none 0 0,.int .i64 0,.int .i64 0,.slice none 0 0]) ?_ 0 _ rfl;(with_reducible repeat(first|refine aJ ?_ _|refine aK ?_|refine aI ?_ _));exact BK481.out) Try.underlying26 rfl (by kernel_rfl)) rfl ?_
       exact⟨_,_,_,by first|rfl|(simp [errW_none,errW_some]<;>rfl)|(simp [*,errW_none,errW_some]<;>rfl),by(with_reducible repeat(first|apply aA|apply aB|apply aC));exact Kd.R_mono (aE (p:=⟨gb481,4,none⟩) (aE (p:=⟨gb481,3,none⟩) (aE (p:=⟨gb481,2,none⟩) (aE (p:=⟨gb481,1,none⟩) (aE (p:=⟨gb481,0,none⟩) (Kd.R_types HO_494000.out BK481.out (by decide)) (fun _ hk=>hk.2) (.slice Ao6 t482.length co6)) (fun _ hk=>hk.2) (.slice Ao96 x494001_1.length co96)) (fun _ hk=>hk.2) (.int .i64 t488)) (fun _ hk=>hk.2) (.int .i64 t489)) (fun _ hk=>hk.2) (.slice Ao94 x494004_2.length co94)) (fun _ hk=>trivial),by(with_reducible repeat(first|apply aA|apply aB|apply aC));exact Kd.R_mono (aE (p:=⟨gb481,4,none⟩) (aE (p:=⟨gb481,3,none⟩) (aE (p:=⟨gb481,2,none⟩) (aE (p:=⟨gb481,1,none⟩) (aE (p:=⟨gb481,0,none⟩) (Kd.R_types HO_494001.out BK481.out (by decide)) (fun _ hk=>hk.2) (.slice Ao6 t482.length co6)) (fun _ hk=>hk.2) (.slice Ao96 x494001_1.length co96)) (fun _ hk=>hk.2) (.int .i64 t488)) (fun _ hk=>hk.2) (.int .i64 t489)) (fun _ hk=>hk.2) (.slice Ao94 x494004_2.length co94)) (fun _ hk=>trivial),by(with_reducible repeat(first|apply Kd.S_alloc|apply aV|apply aW));exact Kd.S_mono (Kd.S_far (p:=⟨gb481,4,none⟩) (Kd.S_far (p:=⟨gb481,3,none⟩) (Kd.S_far (p:=⟨gb481,2,none⟩) (Kd.S_far (p:=⟨gb481,1,none⟩) (Kd.S_far (p:=⟨gb481,0,none⟩) (Kd.S_types HO_494004.out BK481.out (by decide)) (fun _ hk=>hk.2) (.slice Ao6 t482.length co6)) (fun _ hk=>hk.2) (.slice Ao96 x494001_1.length co96)) (fun _ hk=>hk.2) (.int .i64 t488)) (fun _ hk=>hk.2) (.int .i64 t489)) (fun _ hk=>hk.2) (.slice Ao94 x494004_2.length co94)) (fun _ hk=>trivial),by repeat(first|(with_reducible first|exact HB.out|apply aN|apply aP|apply aO|refine aL ?_ GE481.out|refine aL ?_ GE493.out)|exact HB.out)⟩
attribute [local go_sem] max2_int min2_int max_two min_two max_three min_three max_four min_four   -- for this text's walks alone
set_option linter.unusedVariables false
set_option linter.unusedSimpArgs false
mutual
def regletref13_Right.l0:Nat→Int→List ByteArray→List (S72)→Int→Int→List (S35)→Option (Bool)
 |0,_,_,_,_,_,_=>none
 |k+1,x3,x209000,x209001,x209002,x209003,x209004=>if x3<(x209004.length:Int) then(if 0≤x3 then(if((rd_T35 x209004 x3).f0)<0 then(regletref13_Right.j1 k x3 true x209000 x209001 x209002 x209003 x209004 ((rd_T35 x209004 x3).f0) ((rd_T35 x209004 x3).f1)) else(regletref13_Right.j1 k x3 (decide (((rd_T35 x209004 x3).f0)≥(x209000.length:Int))) x209000 x209001 x209002 x209003 x209004 ((rd_T35 x209004 x3).f0) ((rd_T35 x209004 x3).f1))) else(none)) else(some true)
def regletref13_Right.j1:Nat→Int→Bool→List ByteArray→List (S72)→Int→Int→List (S35)→Int→List (S43)→Option (Bool)
 |0,_,_,_,_,_,_,_,_,_=>none
 |k+1,x3,x29,x209000,x209001,x209002,x209003,x209004,x211000,x211001=>if x29=true then(some false) else(regletref13_Right.l1 k x3 0 x209000 x209001 x209002 x209003 x209004 x211000 x211001)
def regletref13_Right.l1:Nat→Int→Int→List ByteArray→List (S72)→Int→Int→List (S35)→Int→List (S43)→Option (Bool)
 |0,_,_,_,_,_,_,_,_,_=>none
 |k+1,x3,x5,x209000,x209001,x209002,x209003,x209004,x211000,x211001=>if x5<(x211001.length:Int) then(if 0≤x5 then(if(rd_T43 x211001 x5).f0=true then(if((rd_T43 x211001 x5).f1)<0 then(some false) else(if((rd_T43 x211001 x5).f1)≥(x209001.length:Int) then(some false) else(regletref13_Right.l1 k x3 (wrap64 (x5+1)) x209000 x209001 x209002 x209003 x209004 x211000 x211001))) else(if((rd_T43 x211001 x5).f1)<0 then(some false) else(if((rd_T43 x211001 x5).f1)≥(x209000.length:Int) then(some false) else(regletref13_Right.l1 k x3 (wrap64 (x5+1)) x209000 x209001 x209002 x209003 x209004 x211000 x211001)))) else(none)) else(regletref13_Right.l0 k (wrap64 (x3+1)) x209000 x209001 x209002 x209003 x209004)
end
def regletref13_Right.f (k:Nat) (l0_0:List ByteArray) (l0_1:List (S72)) (a0_2:Int) (a0_3:Int) (l0_4:List (S35)):Option (Bool):=regletref13_Right.l0 k 0 l0_0 l0_1 a0_2 a0_3 l0_4
set_option maxHeartbeats 8000000 in
set_option maxRecDepth 100000 in
theorem regletref13_Right.calls (k:Nat) (A0_0:Option Addr) (c0_0:Nat) (l0_0:List ByteArray) (A0_1:Option Addr) (c0_1:Nat) (l0_1:List (S72)) (a0_2:Int) (a0_3:Int) (A0_4:Option Addr) (c0_4:Nat) (l0_4:List (S35)) (r:Bool) (w:World) (hr0_0:Kd.C Kd.string w A0_0 l0_0.length l0_0) (hc0_0:l0_0.length≤c0_0) (hr0_1:Kd.C k72 w A0_1 l0_1.length l0_1) (hc0_1:l0_1.length≤c0_1) (hr0_4:Kd.C k35 w A0_4 l0_4.length l0_4) (hc0_4:l0_4.length≤c0_4) (h:regletref13_Right.f k l0_0 l0_1 a0_2 a0_3 l0_4=some r):
 Calls Try.prog 30 #[.agg #[.slice A0_0 l0_0.length c0_0,.slice A0_1 l0_1.length c0_1,.int .i64 a0_2,.int .i64 a0_3,.slice A0_4 l0_4.length c0_4]] w fun e w'=>e= .returned (.bool r)∧Below w.heap.size w w':=by
 have hu26:=Try.underlying26
 have hu35:=Try.underlying35
 have HR0_0:=aM hr0_0
 have HC0_0:=aM hc0_0
 clear hr0_0 hc0_0
 have HR0_1:=aM hr0_1
 have HC0_1:=aM hc0_1
 clear hr0_1 hc0_1
 have HR0_4:=aM hr0_4
 have HC0_4:=aM hc0_4
 clear hr0_4 hc0_4
 have HB:=aM (Below.refl w.heap.size w)
 have H:(regletref13_Right.l0 k 0 l0_0 l0_1 a0_2 a0_3 l0_4)=some r:=h
 clear h
 have H':=aM H
 clear H
 go_enter Try.func30,Try.ntmps30
 go_wp2_with (first|((with_reducible refine bJ (N:=1) rfl ?_);(try(refine gate_guard (by rfl) ?_;dsimp only));refine box_event ?hg (N:=1) ?hd (cs:=#[.slice A0_0 l0_0.length c0_0,.slice A0_1 l0_1.length c0_1,.int .i64 a0_2,.int .i64 a0_3,.slice A0_4 l0_4.length c0_4]) (t:=26) ?hr ?_;(case hd=>rfl);(case hg=>rfl);(case hr=>first|(go_simp;done)|(go_simp;rfl));intro gb208 hg w2 hbox hb;have n0_:=aM (bG (by repeat(first|(with_reducible first|exact HB.out|apply aN|apply aP|apply aO)|exact HB.out)) hb);have n1_:=aM (hbox);have n2_:=aM ((by rw [hg];exact(bH (by repeat(first|(with_reducible first|exact HB.out|apply aN|apply aP|apply aO)|exact HB.out))):w.heap.size≤gb208));have n3_:=aM ((by rw [hg];exact(bH (by repeat(first|(with_reducible first|exact HB.out|apply aN|apply aP|apply aO)|exact HB.out))):w.heap.size≤gb208));clear HB;have HB:=n0_;have BK208:=n1_;have GW208:=n2_;have GE208:=n3_;clear n0_ n1_ n2_ n3_;clear hb hbox hg))
 go_loopg [3] k (fun kq v3 w'=>∃(x3_1:Int),v3= .int .i64 x3_1∧Aside0 (regletref13_Right.l0 kq x3_1 l0_0 l0_1 a0_2 a0_3 l0_4=some r)∧Aside0 (kq≤k)∧Aside0 (w'.heap[gb208]?=some (.cells #[(.slice A0_0 l0_0.length c0_0),(.slice A0_1 l0_1.length c0_1),.int .i64 a0_2,.int .i64 a0_3,(.slice A0_4 l0_4.length c0_4)] 26 (0,0)))∧Aside0 (Below w.heap.size w w'))
 case atStart=>exact⟨(0),(by first|rfl|(simp;done)|(simp [*];done)),H',⟨Nat.le_refl _⟩,⟨by(with_reducible repeat(first|refine aJ ?_ _|refine aK ?_|refine aI ?_ _));exact BK208.out⟩,⟨by repeat(first|(with_reducible first|exact HB.out|apply aN|apply aP|apply aO|refine aL ?_ GE208.out)|exact HB.out)⟩⟩
 case round=>
  clear H'
  (try clear p2)
  obtain⟨x3_1,rfl,HA,HK1,BK208,HB⟩:=hrel
  cases gk with
  |zero=>exact absurd HA.out (by simp [regletref13_Right.l0])
  |succ k1=>
   have H:=HA.out
   clear HA
   simp only [regletref13_Right.l0] at H
   by_cases c3:x3_1<(l0_4.length:Int)
   ·rw [if_pos c3] at H
    have c3b0:decide (x3_1<(l0_4.length:Int))=true:=decide_eq_true c3
    clear c3
    by_cases c4:0≤x3_1
    rotate_left
    ·rw [if_neg c4] at H
     exact absurd H (by simp)
    rw [if_pos c4] at H
    have c4b0:decide (0≤x3_1)=true:=decide_eq_true c4
    clear c4
    have HC5:=aM H
    clear H
    have hcz6_0:wr.cell? ⟨gb208,0,none⟩=some (.slice A0_0 l0_0.length c0_0):=(aG BK208.out 0).trans rfl
    have hcz6_1:wr.cell? ⟨gb208,1,none⟩=some (.slice A0_1 l0_1.length c0_1):=(aG BK208.out 1).trans rfl
    have hcz6_2:wr.cell? ⟨gb208,2,none⟩=some (.int .i64 a0_2):=(aG BK208.out 2).trans rfl
    have hcz6_3:wr.cell? ⟨gb208,3,none⟩=some (.int .i64 a0_3):=(aG BK208.out 3).trans rfl
    have hcz6_4:wr.cell? ⟨gb208,4,none⟩=some (.slice A0_4 l0_4.length c0_4):=(aG BK208.out 4).trans rfl
    have hfz6_0:=aH BK208.out 0
    have hfz6_1:=aH BK208.out 1
    have hfz6_2:=aH BK208.out 2
    have hfz6_3:=aH BK208.out 3
    have hfz6_4:=aH BK208.out 4
    have p209:0≤(x3_1:Int):=of_decide_eq_true (by first|(with_reducible assumption)|assumption)
    have q209:x3_1<(l0_4.length:Int):=of_decide_eq_true (by first|(with_reducible assumption)|assumption)
    obtain⟨ad209,A209_1,c209_1,e209,hx209_0,hx209_1,hl209_1,hi209_1⟩:=at_T35 HR0_4.out x3_1 p209 q209
    cases e209
    replace hx209_0:=(HB.out.cell (World.block_lt_of_cell? w _ hx209_0)).trans hx209_0
    replace hx209_1:=(HB.out.cell (World.block_lt_of_cell? w _ hx209_1)).trans hx209_1
    have HR209_1:=aM hi209_1
    have HC209_1:=aM hl209_1
    clear hi209_1 hl209_1
    replace p209:=eq_true p209
    replace q209:=eq_true q209
    go_upto_region 5 with(first|((with_reducible refine bJ (N:=4) rfl ?_);(try(refine gate_guard (by rfl) ?_;dsimp only));refine box_event ?hg (N:=4) ?hd (cs:=#[.int .i64 0,.slice none 0 0]) (t:=35) ?hr ?_;(case hd=>rfl);(case hg=>rfl);(case hr=>first|(go_simp;done)|(go_simp;rfl));intro gb210 hg w7 hbox hb;have n0_:=aM (bF (g:=gb208) (o:= .cells #[.slice A0_0 l0_0.length c0_0,.slice A0_1 l0_1.length c0_1,.int .i64 a0_2,.int .i64 a0_3,.slice (some ad209) l0_4.length c0_4] 26 (0,0)) (by(with_reducible repeat(first|refine aJ ?_ _|refine aK ?_|refine aI ?_ _));exact BK208.out) hb);have n1_:=aM (bG (by repeat(first|(with_reducible first|exact HB.out|apply aN|apply aP|apply aO|refine aL ?_ GE208.out)|exact HB.out)) hb);have n2_:=aM (hbox);have n3_:=aM ((by rw [hg];exact(bH (by repeat(first|(with_reducible first|exact HB.out|apply aN|apply aP|apply aO|refine aL ?_ GE208.out)|exact HB.out))):w.heap.size≤gb210));have n4_:=aM ((by rw [hg];exact(bH (by repeat(first|(with_reducible first|exact HB.out|apply aN|apply aP|apply aO|refine aL ?_ GE208.out)|exact HB.out))):w.heap.size≤gb210));have n5_:=aM ((by rw [hg];exact Nat.ne_of_lt (bN (g:=gb208) (o:= .cells #[.slice A0_0 l0_0.length c0_0,.slice A0_1 l0_1.length c0_1,.int .i64 a0_2,.int .i64 a0_3,.slice (some ad209) l0_4.length c0_4] 26 (0,0)) (by(with_reducible repeat(first|refine aJ ?_ _|refine aK ?_|refine aI ?_ _));exact BK208.out)):gb208≠gb210));have n6_:=aM ((by rw [hg];exact Nat.ne_of_gt (bN (g:=gb208) (o:= .cells #[.slice A0_0 l0_0.length c0_0,.slice A0_1 l0_1.length c0_1,.int .i64 a0_2,.int .i64 a0_3,.slice (some ad209) l0_4.length c0_4] 26 (0,0)) (by(with_reducible repeat(first|refine aJ ?_ _|refine aK ?_|refine aI ?_ _));exact BK208.out)):gb210≠gb208));clear BK208;clear HB;have BK208:=n0_;have HB:=n1_;have BK210:=n2_;have GW210:=n3_;have GE210:=n4_;have NB208_210:=n5_;have NB210_208:=n6_;clear n0_ n1_ n2_ n3_ n4_ n5_ n6_;clear hb hbox hg;have hnb8:=NB210_208.out;have hnc8:=NB208_210.out;have hcz9_0:w7.cell? ⟨gb210,0,none⟩=some (.int .i64 0):=(aG BK210.out 0).trans rfl;have hcz9_1:w7.cell? ⟨gb210,1,none⟩=some (.slice none 0 0):=(aG BK210.out 1).trans rfl;have hfz9_0:=aH BK210.out 0;have hfz9_1:=aH BK210.out 1))
    (try simp only [Act.put,List.setIfInBounds_toArray,List.set_cons_zero,List.set_cons_succ])
    go_cut [29] (fun v29 wc=>∃(kq:Nat) (x29_4:Bool),v29= .bool x29_4∧Aside0 (regletref13_Right.j1 kq x3_1 x29_4 l0_0 l0_1 a0_2 a0_3 l0_4 ((rd_T35 l0_4 x3_1).f0) ((rd_T35 l0_4 x3_1).f1)=some r)∧Aside0 (kq≤k1)∧Aside0 (wc.heap[gb208]?=some (.cells #[(.slice A0_0 l0_0.length c0_0),(.slice A0_1 l0_1.length c0_1),.int .i64 a0_2,.int .i64 a0_3,(.slice (some ad209) l0_4.length c0_4)] 26 (0,0)))∧Aside0 (wc.heap[gb210]?=some (.cells #[.int .i64 ((rd_T35 l0_4 x3_1).f0),(.slice A209_1 ((rd_T35 l0_4 x3_1).f1).length c209_1)] 35 (0,0)))∧Aside0 (Below w.heap.size w wc))
    case first=>
     have H:=HC5.out
     clear HC5
     by_cases c10:((rd_T35 l0_4 x3_1).f0)<0
     ·rw [if_pos c10] at H
      have c10b0:decide (((rd_T35 l0_4 x3_1).f0)<0)=true:=decide_eq_true c10
      clear c10
      (first|rw [c10b0]|(simp only [i64_w,i32_w];rw [c10b0])|skip)
      have H':=aM H
      clear H
      have hnb11:=NB210_208.out
      have hnc11:=NB208_210.out
      have hcz12_0:w7.cell? ⟨gb210,0,none⟩=some (.int .i64 0):=(aG BK210.out 0).trans rfl
      have hcz12_1:w7.cell? ⟨gb210,1,none⟩=some (.slice none 0 0):=(aG BK210.out 1).trans rfl
      have hfz12_0:=aH BK210.out 0
      have hfz12_1:=aH BK210.out 1
      go_wp2
      go_meet
      case rel=>exact⟨_,(true),(by first|rfl|(simp;done)|(simp [*];done)),H',⟨by have:=HK1.out;first|omega|exact Nat.le_refl _⟩,⟨by(with_reducible repeat(first|refine aJ ?_ _|refine aK ?_|refine aI ?_ _));refine blk_far ?_ NB208_210.out _;(with_reducible repeat(first|refine aJ ?_ _|refine aK ?_|refine aI ?_ _));refine blk_far ?_ NB208_210.out _;(with_reducible repeat(first|refine aJ ?_ _|refine aK ?_|refine aI ?_ _));exact BK208.out⟩,⟨by(with_reducible repeat(first|refine aJ ?_ _|refine aK ?_|refine aI ?_ _));refine blk_put (cs:=#[.int .i64 ((rd_T35 l0_4 x3_1).f0),.slice none 0 0]) ?_ 1 _ rfl;(with_reducible repeat(first|refine aJ ?_ _|refine aK ?_|refine aI ?_ _));refine blk_put (cs:=#[.int .i64 0,.slice none 0 0]) ?_ 0 _ rfl;(with_reducible repeat(first|refine aJ ?_ _|refine aK ?_|refine aI ?_ _));exact BK210.out⟩,⟨by repeat(first|(with_reducible first|exact HB.out|apply aN|apply aP|apply aO|refine aL ?_ GE208.out|refine aL ?_ GE210.out)|exact HB.out)⟩⟩
     ·rw [if_neg c10] at H
      have c10b0:decide (((rd_T35 l0_4 x3_1).f0)<0)=false:=decide_eq_false c10
      clear c10
      (first|rw [c10b0]|(simp only [i64_w,i32_w];rw [c10b0])|skip)
      have H':=aM H
      clear H
      have hnb13:=NB210_208.out
      have hnc13:=NB208_210.out
      have hcz14_0:w7.cell? ⟨gb210,0,none⟩=some (.int .i64 0):=(aG BK210.out 0).trans rfl
      have hcz14_1:w7.cell? ⟨gb210,1,none⟩=some (.slice none 0 0):=(aG BK210.out 1).trans rfl
      have hfz14_0:=aH BK210.out 0
      have hfz14_1:=aH BK210.out 1
      have hcz15_0:w7.cell? ⟨gb208,0,none⟩=some (.slice A0_0 l0_0.length c0_0):=(aG BK208.out 0).trans rfl
      have hcz15_1:w7.cell? ⟨gb208,1,none⟩=some (.slice A0_1 l0_1.length c0_1):=(aG BK208.out 1).trans rfl
      have hcz15_2:w7.cell? ⟨gb208,2,none⟩=some (.int .i64 a0_2):=(aG BK208.out 2).trans rfl
      have hcz15_3:w7.cell? ⟨gb208,3,none⟩=some (.int .i64 a0_3):=(aG BK208.out 3).trans rfl
      have hcz15_4:w7.cell? ⟨gb208,4,none⟩=some (.slice (some ad209) l0_4.length c0_4):=(aG BK208.out 4).trans rfl
      have hfz15_0:=aH BK208.out 0
      have hfz15_1:=aH BK208.out 1
      have hfz15_2:=aH BK208.out 2
      have hfz15_3:=aH BK208.out 3
      have hfz15_4:=aH BK208.out 4
      go_wp2
      go_meet
      case rel=>exact⟨_,(decide (((rd_T35 l0_4 x3_1).f0)≥(l0_0.length:Int))),(by first|rfl|(simp;done)|(simp [*];done)),H',⟨by have:=HK1.out;first|omega|exact Nat.le_refl _⟩,⟨by(with_reducible repeat(first|refine aJ ?_ _|refine aK ?_|refine aI ?_ _));refine blk_far ?_ NB208_210.out _;(with_reducible repeat(first|refine aJ ?_ _|refine aK ?_|refine aI ?_ _));refine blk_far ?_ NB208_210.out _;(with_reducible repeat(first|refine aJ ?_ _|refine aK ?_|refine aI ?_ _));exact BK208.out⟩,⟨by(with_reducible repeat(first|refine aJ ?_ _|refine aK ?_|refine aI ?_ _));refine blk_put (cs:=#[.int .i64 ((rd_T35 l0_4 x3_1).f0),.slice none 0 0]) ?_ 1 _ rfl;(with_reducible repeat(first|refine aJ ?_ _|refine aK ?_|refine aI ?_ _));refine blk_put (cs:=#[.int .i64 0,.slice none 0 0]) ?_ 0 _ rfl;(with_reducible repeat(first|refine aJ ?_ _|refine aK ?_|refine aI ?_ _));exact BK210.out⟩,⟨by repeat(first|(with_reducible first|exact HB.out|apply aN|apply aP|apply aO|refine aL ?_ GE208.out|refine aL ?_ GE210.out)|exact HB.out)⟩⟩
    case rest=>
     clear HC5
     (try clear c1);(try clear c2);(try clear p2);(try clear q2);(try clear hx2);(try clear c3);(try clear c3b0);(try clear c4);(try clear c4b0);(try clear c8);(try clear c10);(try clear c10b0);(try clear c11);(try clear c13);(try clear hcz12_0);(try clear hcz12_1);(try clear hcz14_0);(try clear hcz14_1);(try clear hcz15_0);(try clear hcz15_1);(try clear hcz15_2);(try clear hcz15_3);(try clear hcz15_4)
     (try clear hcz6_0);(try clear hcz6_1);(try clear hcz6_2);(try clear hcz6_3);(try clear hcz6_4);(try clear hcz9_0);(try clear hcz9_1);(try clear hfz12_0);(try clear hfz12_1);(try clear hfz14_0);(try clear hfz14_1);(try clear hfz15_0);(try clear hfz15_1);(try clear hfz15_2);(try clear hfz15_3);(try clear hfz15_4);(try clear hfz6_0);(try clear hfz6_1);(try clear hfz6_2);(try clear hfz6_3);(try clear hfz6_4)
     (try clear hfz9_0);(try clear hfz9_1);(try clear hx209_0);(try clear hx209_1);(try clear p2);(try clear p209);(try clear q209)
     obtain⟨kq,x29_4,rfl,HA,HJ4,BK208,BK210,HB⟩:=hcut
     cases kq with
     |zero=>exact absurd HA.out (by simp [regletref13_Right.j1])
     |succ kj4=>
      have H:=HA.out
      clear HA
      simp only [regletref13_Right.j1] at H
      by_cases c16:x29_4=true
      ·subst c16
       have H1:(some false)=some r:=by rw [if_pos rfl] at H;exact H
       clear H
       have H:=H1
       clear H1
       obtain rfl:=Option.some.inj H
       go_wp2
       go_ret
       exact⟨by first|rfl|(simp [errW_none,errW_some]<;>rfl)|(simp [*,errW_none,errW_some]<;>rfl),by repeat(first|(with_reducible first|exact HB.out|apply aN|apply aP|apply aO|refine aL ?_ GE208.out|refine aL ?_ GE210.out)|exact HB.out)⟩
      ·replace c16:=Bool.eq_false_iff.mpr c16
       subst c16
       have H1:(regletref13_Right.l1 kj4 x3_1 0 l0_0 l0_1 a0_2 a0_3 l0_4 ((rd_T35 l0_4 x3_1).f0) ((rd_T35 l0_4 x3_1).f1))=some r:=by rw [if_neg (show ¬(false=true) by decide)] at H;exact H
       clear H
       have H:=H1
       clear H1
       have H':=aM H
       clear H
       go_wp2
       go_loopg [5] kj4 (fun kq v5 w'=>∃(x5_3:Int),v5= .int .i64 x5_3∧Aside0 (regletref13_Right.l1 kq x3_1 x5_3 l0_0 l0_1 a0_2 a0_3 l0_4 ((rd_T35 l0_4 x3_1).f0) ((rd_T35 l0_4 x3_1).f1)=some r)∧Aside0 (kq≤kj4)∧Aside0 (w'.heap[gb208]?=some (.cells #[(.slice A0_0 l0_0.length c0_0),(.slice A0_1 l0_1.length c0_1),.int .i64 a0_2,.int .i64 a0_3,(.slice (some ad209) l0_4.length c0_4)] 26 (0,0)))∧Aside0 (w'.heap[gb210]?=some (.cells #[.int .i64 ((rd_T35 l0_4 x3_1).f0),(.slice A209_1 ((rd_T35 l0_4 x3_1).f1).length c209_1)] 35 (0,0)))∧Aside0 (Below w.heap.size w w'))
       case atStart=>exact⟨(0),(by first|rfl|(simp;done)|(simp [*];done)),H',⟨Nat.le_refl _⟩,⟨by(with_reducible repeat(first|refine aJ ?_ _|refine aK ?_|refine aI ?_ _));exact BK208.out⟩,⟨by(with_reducible repeat(first|refine aJ ?_ _|refine aK ?_|refine aI ?_ _));exact BK210.out⟩,⟨by repeat(first|(with_reducible first|exact HB.out|apply aN|apply aP|apply aO|refine aL ?_ GE208.out|refine aL ?_ GE210.out)|exact HB.out)⟩⟩
       case round=>
        clear H'
        (try clear c1);(try clear c2);(try clear p2);(try clear q2);(try clear hx2);(try clear c3);(try clear c3b0);(try clear c4);(try clear c4b0);(try clear c8);(try clear c10);(try clear c10b0);(try clear c11);(try clear c13);(try clear c16);(try clear hcz12_0);(try clear hcz12_1);(try clear hcz14_0);(try clear hcz14_1);(try clear hcz15_0);(try clear hcz15_1);(try clear hcz15_2);(try clear hcz15_3);(try clear hcz15_4)
        (try clear hcz6_0);(try clear hcz6_1);(try clear hcz6_2);(try clear hcz6_3);(try clear hcz6_4);(try clear hcz9_0);(try clear hcz9_1);(try clear hfz12_0);(try clear hfz12_1);(try clear hfz14_0);(try clear hfz14_1);(try clear hfz15_0);(try clear hfz15_1);(try clear hfz15_2);(try clear hfz15_3);(try clear hfz15_4);(try clear hfz6_0);(try clear hfz6_1);(try clear hfz6_2);(try clear hfz6_3);(try clear hfz6_4)
        (try clear hfz9_0);(try clear hfz9_1);(try clear hx209_0);(try clear hx209_1);(try clear p2);(try clear p209);(try clear q2);(try clear q209)
        obtain⟨x5_3,rfl,HA,HK3,BK208,BK210,HB⟩:=hrel
        cases gk with
        |zero=>exact absurd HA.out (by simp [regletref13_Right.l1])
        |succ k3=>
         have H:=HA.out
         clear HA
         simp only [regletref13_Right.l1] at H
         by_cases c17:x5_3<(((rd_T35 l0_4 x3_1).f1).length:Int)
         ·rw [if_pos c17] at H
          have c17b0:decide (x5_3<(((rd_T35 l0_4 x3_1).f1).length:Int))=true:=decide_eq_true c17
          clear c17
          by_cases c18:0≤x5_3
          rotate_left
          ·rw [if_neg c18] at H
           exact absurd H (by simp)
          rw [if_pos c18] at H
          have c18b0:decide (0≤x5_3)=true:=decide_eq_true c18
          clear c18
          obtain⟨bq19,hbq19⟩:∃b_:Bool,b_=((rd_T43 ((rd_T35 l0_4 x3_1).f1) x5_3).f0):=⟨_,rfl⟩
          replace H:(if bq19=true then(if((rd_T43 ((rd_T35 l0_4 x3_1).f1) x5_3).f1)<0 then(some false) else(if((rd_T43 ((rd_T35 l0_4 x3_1).f1) x5_3).f1)≥(l0_1.length:Int) then(some false) else(regletref13_Right.l1 k3 x3_1 (wrap64 (x5_3+1)) l0_0 l0_1 a0_2 a0_3 l0_4 ((rd_T35 l0_4 x3_1).f0) ((rd_T35 l0_4 x3_1).f1)))) else(if((rd_T43 ((rd_T35 l0_4 x3_1).f1) x5_3).f1)<0 then(some false) else(if((rd_T43 ((rd_T35 l0_4 x3_1).f1) x5_3).f1)≥(l0_0.length:Int) then(some false) else(regletref13_Right.l1 k3 x3_1 (wrap64 (x5_3+1)) l0_0 l0_1 a0_2 a0_3 l0_4 ((rd_T35 l0_4 x3_1).f0) ((rd_T35 l0_4 x3_1).f1)))))=some r:=by rw [←hbq19] at H;exact H
          have Nbq19:=aM hbq19
          clear hbq19
          by_cases c20:bq19=true
          ·subst c20
           have H1:(if((rd_T43 ((rd_T35 l0_4 x3_1).f1) x5_3).f1)<0 then(some false) else(if((rd_T43 ((rd_T35 l0_4 x3_1).f1) x5_3).f1)≥(l0_1.length:Int) then(some false) else(regletref13_Right.l1 k3 x3_1 (wrap64 (x5_3+1)) l0_0 l0_1 a0_2 a0_3 l0_4 ((rd_T35 l0_4 x3_1).f0) ((rd_T35 l0_4 x3_1).f1))))=some r:=by rw [if_pos rfl] at H;exact H
           clear H
           have H:=H1
           clear H1
           by_cases c21:((rd_T43 ((rd_T35 l0_4 x3_1).f1) x5_3).f1)<0
           ·rw [if_pos c21] at H
            have c21b0:decide (((rd_T43 ((rd_T35 l0_4 x3_1).f1) x5_3).f1)<0)=true:=decide_eq_true c21
            clear c21
            obtain rfl:=Option.some.inj H
            have hnb22:=NB210_208.out
            have hnc22:=NB208_210.out
            have hcz23_0:wr.cell? ⟨gb210,0,none⟩=some (.int .i64 ((rd_T35 l0_4 x3_1).f0)):=(aG BK210.out 0).trans rfl
            have hcz23_1:wr.cell? ⟨gb210,1,none⟩=some (.slice A209_1 ((rd_T35 l0_4 x3_1).f1).length c209_1):=(aG BK210.out 1).trans rfl
            have hfz23_0:=aH BK210.out 0
            have hfz23_1:=aH BK210.out 1
            have hcz24_0:wr.cell? ⟨gb208,0,none⟩=some (.slice A0_0 l0_0.length c0_0):=(aG BK208.out 0).trans rfl
            have hcz24_1:wr.cell? ⟨gb208,1,none⟩=some (.slice A0_1 l0_1.length c0_1):=(aG BK208.out 1).trans rfl
            have hcz24_2:wr.cell? ⟨gb208,2,none⟩=some (.int .i64 a0_2):=(aG BK208.out 2).trans rfl
            have hcz24_3:wr.cell? ⟨gb208,3,none⟩=some (.int .i64 a0_3):=(aG BK208.out 3).trans rfl
            have hcz24_4:wr.cell? ⟨gb208,4,none⟩=some (.slice (some ad209) l0_4.length c0_4):=(aG BK208.out 4).trans rfl
            have hfz24_0:=aH BK208.out 0
            have hfz24_1:=aH BK208.out 1
            have hfz24_2:=aH BK208.out 2
            have hfz24_3:=aH BK208.out 3
            have hfz24_4:=aH BK208.out 4
            have p211:0≤(x5_3:Int):=of_decide_eq_true (by first|(with_reducible assumption)|assumption)
            have q211:x5_3<(((rd_T35 l0_4 x3_1).f1).length:Int):=of_decide_eq_true (by first|(with_reducible assumption)|assumption)
            obtain⟨ad211,e211,hx211_0,hx211_1⟩:=at_T43 HR209_1.out x5_3 p211 q211
            (try rw [←Nbq19.out] at hx211_0)
            cases e211
            replace hx211_0:=(HB.out.cell (World.block_lt_of_cell? w _ hx211_0)).trans hx211_0
            replace hx211_1:=(HB.out.cell (World.block_lt_of_cell? w _ hx211_1)).trans hx211_1
            replace p211:=eq_true p211
            replace q211:=eq_true q211
            have p212:0≤(x5_3:Int):=of_decide_eq_true (by first|(with_reducible assumption)|assumption)
            have q212:x5_3<(((rd_T35 l0_4 x3_1).f1).length:Int):=of_decide_eq_true (by first|(with_reducible assumption)|assumption)
            obtain⟨ad212,e212,hx212_0,hx212_1⟩:=at_T43 HR209_1.out x5_3 p212 q212
            (try rw [←Nbq19.out] at hx212_0)
            obtain rfl:ad211=ad212:=(by injection e212)
            replace hx212_0:=(HB.out.cell (World.block_lt_of_cell? w _ hx212_0)).trans hx212_0
            replace hx212_1:=(HB.out.cell (World.block_lt_of_cell? w _ hx212_1)).trans hx212_1
            replace p212:=eq_true p212
            replace q212:=eq_true q212
            go_wp2
            go_ret
            exact⟨by first|rfl|(simp [errW_none,errW_some]<;>rfl)|(simp [*,errW_none,errW_some]<;>rfl),by repeat(first|(with_reducible first|exact HB.out|apply aN|apply aP|apply aO|refine aL ?_ GE208.out|refine aL ?_ GE210.out)|exact HB.out)⟩
           ·rw [if_neg c21] at H
            have c21b0:decide (((rd_T43 ((rd_T35 l0_4 x3_1).f1) x5_3).f1)<0)=false:=decide_eq_false c21
            clear c21
            by_cases c25:((rd_T43 ((rd_T35 l0_4 x3_1).f1) x5_3).f1)≥(l0_1.length:Int)
            ·rw [if_pos c25] at H
             have c25b0:decide ((l0_1.length:Int)≤((rd_T43 ((rd_T35 l0_4 x3_1).f1) x5_3).f1))=true:=decide_eq_true c25
             clear c25
             obtain rfl:=Option.some.inj H
             have hnb26:=NB210_208.out
             have hnc26:=NB208_210.out
             have hcz27_0:wr.cell? ⟨gb210,0,none⟩=some (.int .i64 ((rd_T35 l0_4 x3_1).f0)):=(aG BK210.out 0).trans rfl
             have hcz27_1:wr.cell? ⟨gb210,1,none⟩=some (.slice A209_1 ((rd_T35 l0_4 x3_1).f1).length c209_1):=(aG BK210.out 1).trans rfl
             have hfz27_0:=aH BK210.out 0
             have hfz27_1:=aH BK210.out 1
             have hcz28_0:wr.cell? ⟨gb208,0,none⟩=some (.slice A0_0 l0_0.length c0_0):=(aG BK208.out 0).trans rfl
             have hcz28_1:wr.cell? ⟨gb208,1,none⟩=some (.slice A0_1 l0_1.length c0_1):=(aG BK208.out 1).trans rfl
             have hcz28_2:wr.cell? ⟨gb208,2,none⟩=some (.int .i64 a0_2):=(aG BK208.out 2).trans rfl
             have hcz28_3:wr.cell? ⟨gb208,3,none⟩=some (.int .i64 a0_3):=(aG BK208.out 3).trans rfl
             have hcz28_4:wr.cell? ⟨gb208,4,none⟩=some (.slice (some ad209) l0_4.length c0_4):=(aG BK208.out 4).trans rfl
             have hfz28_0:=aH BK208.out 0
             have hfz28_1:=aH BK208.out 1
             have hfz28_2:=aH BK208.out 2
             have hfz28_3:=aH BK208.out 3
             have hfz28_4:=aH BK208.out 4
             have p211:0≤(x5_3:Int):=of_decide_eq_true (by first|(with_reducible assumption)|assumption)
             have q211:x5_3<(((rd_T35 l0_4 x3_1).f1).length:Int):=of_decide_eq_true (by first|(with_reducible assumption)|assumption)
             obtain⟨ad211,e211,hx211_0,hx211_1⟩:=at_T43 HR209_1.out x5_3 p211 q211
             (try rw [←Nbq19.out] at hx211_0)
             cases e211
             replace hx211_0:=(HB.out.cell (World.block_lt_of_cell? w _ hx211_0)).trans hx211_0
             replace hx211_1:=(HB.out.cell (World.block_lt_of_cell? w _ hx211_1)).trans hx211_1
             replace p211:=eq_true p211
             replace q211:=eq_true q211
             have p212:0≤(x5_3:Int):=of_decide_eq_true (by first|(with_reducible assumption)|assumption)
             have q212:x5_3<(((rd_T35 l0_4 x3_1).f1).length:Int):=of_decide_eq_true (by first|(with_reducible assumption)|assumption)
             obtain⟨ad212,e212,hx212_0,hx212_1⟩:=at_T43 HR209_1.out x5_3 p212 q212
             (try rw [←Nbq19.out] at hx212_0)
             obtain rfl:ad211=ad212:=(by injection e212)
             replace hx212_0:=(HB.out.cell (World.block_lt_of_cell? w _ hx212_0)).trans hx212_0
             replace hx212_1:=(HB.out.cell (World.block_lt_of_cell? w _ hx212_1)).trans hx212_1
             replace p212:=eq_true p212
             replace q212:=eq_true q212
             have p213:0≤(x5_3:Int):=of_decide_eq_true (by first|(with_reducible assumption)|assumption)
             have q213:x5_3<(((rd_T35 l0_4 x3_1).f1).length:Int):=of_decide_eq_true (by first|(with_reducible assumption)|assumption)
             obtain⟨ad213,e213,hx213_0,hx213_1⟩:=at_T43 HR209_1.out x5_3 p213 q213
             (try rw [←Nbq19.out] at hx213_0)
             obtain rfl:ad211=ad213:=(by injection e213)
             replace hx213_0:=(HB.out.cell (World.block_lt_of_cell? w _ hx213_0)).trans hx213_0
             replace hx213_1:=(HB.out.cell (World.block_lt_of_cell? w _ hx213_1)).trans hx213_1
             replace p213:=eq_true p213
             replace q213:=eq_true q213
             go_wp2
             go_ret
             exact⟨by first|rfl|(simp [errW_none,errW_some]<;>rfl)|(simp [*,errW_none,errW_some]<;>rfl),by repeat(first|(with_reducible first|exact HB.out|apply aN|apply aP|apply aO|refine aL ?_ GE208.out|refine aL ?_ GE210.out)|exact HB.out)⟩
            ·rw [if_neg c25] at H
             have c25b0:decide ((l0_1.length:Int)≤((rd_T43 ((rd_T35 l0_4 x3_1).f1) x5_3).f1))=false:=decide_eq_false c25
             clear c25
             have H':=aM H
             clear H
             have hnb29:=NB210_208.out
             have hnc29:=NB208_210.out
             have hcz30_0:wr.cell? ⟨gb210,0,none⟩=some (.int .i64 ((rd_T35 l0_4 x3_1).f0)):=(aG BK210.out 0).trans rfl
             have hcz30_1:wr.cell? ⟨gb210,1,none⟩=some (.slice A209_1 ((rd_T35 l0_4 x3_1).f1).length c209_1):=(aG BK210.out 1).trans rfl
             have hfz30_0:=aH BK210.out 0
             have hfz30_1:=aH BK210.out 1
             have hcz31_0:wr.cell? ⟨gb208,0,none⟩=some (.slice A0_0 l0_0.length c0_0):=(aG BK208.out 0).trans rfl
             have hcz31_1:wr.cell? ⟨gb208,1,none⟩=some (.slice A0_1 l0_1.length c0_1):=(aG BK208.out 1).trans rfl
             have hcz31_2:wr.cell? ⟨gb208,2,none⟩=some (.int .i64 a0_2):=(aG BK208.out 2).trans rfl
             have hcz31_3:wr.cell? ⟨gb208,3,none⟩=some (.int .i64 a0_3):=(aG BK208.out 3).trans rfl
             have hcz31_4:wr.cell? ⟨gb208,4,none⟩=some (.slice (some ad209) l0_4.length c0_4):=(aG BK208.out 4).trans rfl
             have hfz31_0:=aH BK208.out 0
             have hfz31_1:=aH BK208.out 1
             have hfz31_2:=aH BK208.out 2
             have hfz31_3:=aH BK208.out 3
             have hfz31_4:=aH BK208.out 4
             have p211:0≤(x5_3:Int):=of_decide_eq_true (by first|(with_reducible assumption)|assumption)
             have q211:x5_3<(((rd_T35 l0_4 x3_1).f1).length:Int):=of_decide_eq_true (by first|(with_reducible assumption)|assumption)
             obtain⟨ad211,e211,hx211_0,hx211_1⟩:=at_T43 HR209_1.out x5_3 p211 q211
             (try rw [←Nbq19.out] at hx211_0)
             cases e211
             replace hx211_0:=(HB.out.cell (World.block_lt_of_cell? w _ hx211_0)).trans hx211_0
             replace hx211_1:=(HB.out.cell (World.block_lt_of_cell? w _ hx211_1)).trans hx211_1
             replace p211:=eq_true p211
             replace q211:=eq_true q211
             have p212:0≤(x5_3:Int):=of_decide_eq_true (by first|(with_reducible assumption)|assumption)
             have q212:x5_3<(((rd_T35 l0_4 x3_1).f1).length:Int):=of_decide_eq_true (by first|(with_reducible assumption)|assumption)
             obtain⟨ad212,e212,hx212_0,hx212_1⟩:=at_T43 HR209_1.out x5_3 p212 q212
             (try rw [←Nbq19.out] at hx212_0)
             obtain rfl:ad211=ad212:=(by injection e212)
             replace hx212_0:=(HB.out.cell (World.block_lt_of_cell? w _ hx212_0)).trans hx212_0
             replace hx212_1:=(HB.out.cell (World.block_lt_of_cell? w _ hx212_1)).trans hx212_1
             replace p212:=eq_true p212
             replace q212:=eq_true q212
             have p213:0≤(x5_3:Int):=of_decide_eq_true (by first|(with_reducible assumption)|assumption)
             have q213:x5_3<(((rd_T35 l0_4 x3_1).f1).length:Int):=of_decide_eq_true (by first|(with_reducible assumption)|assumption)
             obtain⟨ad213,e213,hx213_0,hx213_1⟩:=at_T43 HR209_1.out x5_3 p213 q213
             (try rw [←Nbq19.out] at hx213_0)
             obtain rfl:ad211=ad213:=(by injection e213)
             replace hx213_0:=(HB.out.cell (World.block_lt_of_cell? w _ hx213_0)).trans hx213_0
             replace hx213_1:=(HB.out.cell (World.block_lt_of_cell? w _ hx213_1)).trans hx213_1
             replace p213:=eq_true p213
             replace q213:=eq_true q213
             go_wp2
             go_roundg k3
             case measure=>have:=HK1.out;have:=HJ4.out;have:=HK3.out;omega
             case rel=>exact⟨(wrap64 (x5_3+1)),(by first|rfl|(simp;done)|(simp [*];done)),H',⟨by have:=HK1.out;have:=HJ4.out;have:=HK3.out;omega⟩,⟨by(with_reducible repeat(first|refine aJ ?_ _|refine aK ?_|refine aI ?_ _));exact BK208.out⟩,⟨by(with_reducible repeat(first|refine aJ ?_ _|refine aK ?_|refine aI ?_ _));exact BK210.out⟩,⟨by repeat(first|(with_reducible first|exact HB.out|apply aN|apply aP|apply aO|refine aL ?_ GE208.out|refine aL ?_ GE210.out)|exact HB.out)⟩⟩
          ·replace c20:=Bool.eq_false_iff.mpr c20
           subst c20
           have H1:(if((rd_T43 ((rd_T35 l0_4 x3_1).f1) x5_3).f1)<0 then(some false) else(if((rd_T43 ((rd_T35 l0_4 x3_1).f1) x5_3).f1)≥(l0_0.length:Int) then(some false) else(regletref13_Right.l1 k3 x3_1 (wrap64 (x5_3+1)) l0_0 l0_1 a0_2 a0_3 l0_4 ((rd_T35 l0_4 x3_1).f0) ((rd_T35 l0_4 x3_1).f1))))=some r:=by rw [if_neg (show ¬(false=true) by decide)] at H;exact H
           clear H
           have H:=H1
           clear H1
           by_cases c32:((rd_T43 ((rd_T35 l0_4 x3_1).f1) x5_3).f1)<0
           ·rw [if_pos c32] at H
            have c32b0:decide (((rd_T43 ((rd_T35 l0_4 x3_1).f1) x5_3).f1)<0)=true:=decide_eq_true c32
            clear c32
            obtain rfl:=Option.some.inj H
            have hnb33:=NB210_208.out
            have hnc33:=NB208_210.out
            have hcz34_0:wr.cell? ⟨gb210,0,none⟩=some (.int .i64 ((rd_T35 l0_4 x3_1).f0)):=(aG BK210.out 0).trans rfl
            have hcz34_1:wr.cell? ⟨gb210,1,none⟩=some (.slice A209_1 ((rd_T35 l0_4 x3_1).f1).length c209_1):=(aG BK210.out 1).trans rfl
            have hfz34_0:=aH BK210.out 0
            have hfz34_1:=aH BK210.out 1
            have hcz35_0:wr.cell? ⟨gb208,0,none⟩=some (.slice A0_0 l0_0.length c0_0):=(aG BK208.out 0).trans rfl
            have hcz35_1:wr.cell? ⟨gb208,1,none⟩=some (.slice A0_1 l0_1.length c0_1):=(aG BK208.out 1).trans rfl
            have hcz35_2:wr.cell? ⟨gb208,2,none⟩=some (.int .i64 a0_2):=(aG BK208.out 2).trans rfl
            have hcz35_3:wr.cell? ⟨gb208,3,none⟩=some (.int .i64 a0_3):=(aG BK208.out 3).trans rfl
            have hcz35_4:wr.cell? ⟨gb208,4,none⟩=some (.slice (some ad209) l0_4.length c0_4):=(aG BK208.out 4).trans rfl
            have hfz35_0:=aH BK208.out 0
            have hfz35_1:=aH BK208.out 1
            have hfz35_2:=aH BK208.out 2
            have hfz35_3:=aH BK208.out 3
            have hfz35_4:=aH BK208.out 4
            have p211:0≤(x5_3:Int):=of_decide_eq_true (by first|(with_reducible assumption)|assumption)
            have q211:x5_3<(((rd_T35 l0_4 x3_1).f1).length:Int):=of_decide_eq_true (by first|(with_reducible assumption)|assumption)
            obtain⟨ad211,e211,hx211_0,hx211_1⟩:=at_T43 HR209_1.out x5_3 p211 q211
            (try rw [←Nbq19.out] at hx211_0)
            cases e211
            replace hx211_0:=(HB.out.cell (World.block_lt_of_cell? w _ hx211_0)).trans hx211_0
            replace hx211_1:=(HB.out.cell (World.block_lt_of_cell? w _ hx211_1)).trans hx211_1
            replace p211:=eq_true p211
            replace q211:=eq_true q211
            have p214:0≤(x5_3:Int):=of_decide_eq_true (by first|(with_reducible assumption)|assumption)
            have q214:x5_3<(((rd_T35 l0_4 x3_1).f1).length:Int):=of_decide_eq_true (by first|(with_reducible assumption)|assumption)
            obtain⟨ad214,e214,hx214_0,hx214_1⟩:=at_T43 HR209_1.out x5_3 p214 q214
            (try rw [←Nbq19.out] at hx214_0)
            obtain rfl:ad211=ad214:=(by injection e214)
            replace hx214_0:=(HB.out.cell (World.block_lt_of_cell? w _ hx214_0)).trans hx214_0
            replace hx214_1:=(HB.out.cell (World.block_lt_of_cell? w _ hx214_1)).trans hx214_1
            replace p214:=eq_true p214
            replace q214:=eq_true q214
            go_wp2
            go_ret
            exact⟨by first|rfl|(simp [errW_none,errW_some]<;>rfl)|(simp [*,errW_none,errW_some]<;>rfl),by repeat(first|(with_reducible first|exact HB.out|apply aN|apply aP|apply aO|refine aL ?_ GE208.out|refine aL ?_ GE210.out)|exact HB.out)⟩
           ·rw [if_neg c32] at H
            have c32b0:decide (((rd_T43 ((rd_T35 l0_4 x3_1).f1) x5_3).f1)<0)=false:=decide_eq_false c32
            clear c32
            by_cases c36:((rd_T43 ((rd_T35 l0_4 x3_1).f1) x5_3).f1)≥(l0_0.length:Int)
            ·rw [if_pos c36] at H
             have c36b0:decide ((l0_0.length:Int)≤((rd_T43 ((rd_T35 l0_4 x3_1).f1) x5_3).f1))=true:=decide_eq_true c36
             clear c36
             obtain rfl:=Option.some.inj H
             have hnb37:=NB210_208.out
             have hnc37:=NB208_210.out
             have hcz38_0:wr.cell? ⟨gb210,0,none⟩=some (.int .i64 ((rd_T35 l0_4 x3_1).f0)):=(aG BK210.out 0).trans rfl
             have hcz38_1:wr.cell? ⟨gb210,1,none⟩=some (.slice A209_1 ((rd_T35 l0_4 x3_1).f1).length c209_1):=(aG BK210.out 1).trans rfl
             have hfz38_0:=aH BK210.out 0
             have hfz38_1:=aH BK210.out 1
             have hcz39_0:wr.cell? ⟨gb208,0,none⟩=some (.slice A0_0 l0_0.length c0_0):=(aG BK208.out 0).trans rfl
             have hcz39_1:wr.cell? ⟨gb208,1,none⟩=some (.slice A0_1 l0_1.length c0_1):=(aG BK208.out 1).trans rfl
             have hcz39_2:wr.cell? ⟨gb208,2,none⟩=some (.int .i64 a0_2):=(aG BK208.out 2).trans rfl
             have hcz39_3:wr.cell? ⟨gb208,3,none⟩=some (.int .i64 a0_3):=(aG BK208.out 3).trans rfl
             have hcz39_4:wr.cell? ⟨gb208,4,none⟩=some (.slice (some ad209) l0_4.length c0_4):=(aG BK208.out 4).trans rfl
             have hfz39_0:=aH BK208.out 0
             have hfz39_1:=aH BK208.out 1
             have hfz39_2:=aH BK208.out 2
             have hfz39_3:=aH BK208.out 3
             have hfz39_4:=aH BK208.out 4
             have p211:0≤(x5_3:Int):=of_decide_eq_true (by first|(with_reducible assumption)|assumption)
             have q211:x5_3<(((rd_T35 l0_4 x3_1).f1).length:Int):=of_decide_eq_true (by first|(with_reducible assumption)|assumption)
             obtain⟨ad211,e211,hx211_0,hx211_1⟩:=at_T43 HR209_1.out x5_3 p211 q211
             (try rw [←Nbq19.out] at hx211_0)
             cases e211
             replace hx211_0:=(HB.out.cell (World.block_lt_of_cell? w _ hx211_0)).trans hx211_0
             replace hx211_1:=(HB.out.cell (World.block_lt_of_cell? w _ hx211_1)).trans hx211_1
             replace p211:=eq_true p211
             replace q211:=eq_true q211
             have p214:0≤(x5_3:Int):=of_decide_eq_true (by first|(with_reducible assumption)|assumption)
             have q214:x5_3<(((rd_T35 l0_4 x3_1).f1).length:Int):=of_decide_eq_true (by first|(with_reducible assumption)|assumption)
             obtain⟨ad214,e214,hx214_0,hx214_1⟩:=at_T43 HR209_1.out x5_3 p214 q214
             (try rw [←Nbq19.out] at hx214_0)
             obtain rfl:ad211=ad214:=(by injection e214)
             replace hx214_0:=(HB.out.cell (World.block_lt_of_cell? w _ hx214_0)).trans hx214_0
             replace hx214_1:=(HB.out.cell (World.block_lt_of_cell? w _ hx214_1)).trans hx214_1
             replace p214:=eq_true p214
             replace q214:=eq_true q214
             have p215:0≤(x5_3:Int):=of_decide_eq_true (by first|(with_reducible assumption)|assumption)
             have q215:x5_3<(((rd_T35 l0_4 x3_1).f1).length:Int):=of_decide_eq_true (by first|(with_reducible assumption)|assumption)
             obtain⟨ad215,e215,hx215_0,hx215_1⟩:=at_T43 HR209_1.out x5_3 p215 q215
             (try rw [←Nbq19.out] at hx215_0)
             obtain rfl:ad211=ad215:=(by injection e215)
             replace hx215_0:=(HB.out.cell (World.block_lt_of_cell? w _ hx215_0)).trans hx215_0
             replace hx215_1:=(HB.out.cell (World.block_lt_of_cell? w _ hx215_1)).trans hx215_1
             replace p215:=eq_true p215
             replace q215:=eq_true q215
             go_wp2
             go_ret
             exact⟨by first|rfl|(simp [errW_none,errW_some]<;>rfl)|(simp [*,errW_none,errW_some]<;>rfl),by repeat(first|(with_reducible first|exact HB.out|apply aN|apply aP|apply aO|refine aL ?_ GE208.out|refine aL ?_ GE210.out)|exact HB.out)⟩
            ·rw [if_neg c36] at H
             have c36b0:decide ((l0_0.length:Int)≤((rd_T43 ((rd_T35 l0_4 x3_1).f1) x5_3).f1))=false:=decide_eq_false c36
             clear c36
             have H':=aM H
             clear H
             have hnb40:=NB210_208.out
             have hnc40:=NB208_210.out
             have hcz41_0:wr.cell? ⟨gb210,0,none⟩=some (.int .i64 ((rd_T35 l0_4 x3_1).f0)):=(aG BK210.out 0).trans rfl
             have hcz41_1:wr.cell? ⟨gb210,1,none⟩=some (.slice A209_1 ((rd_T35 l0_4 x3_1).f1).length c209_1):=(aG BK210.out 1).trans rfl
             have hfz41_0:=aH BK210.out 0
             have hfz41_1:=aH BK210.out 1
             have hcz42_0:wr.cell? ⟨gb208,0,none⟩=some (.slice A0_0 l0_0.length c0_0):=(aG BK208.out 0).trans rfl
             have hcz42_1:wr.cell? ⟨gb208,1,none⟩=some (.slice A0_1 l0_1.length c0_1):=(aG BK208.out 1).trans rfl
             have hcz42_2:wr.cell? ⟨gb208,2,none⟩=some (.int .i64 a0_2):=(aG BK208.out 2).trans rfl
             have hcz42_3:wr.cell? ⟨gb208,3,none⟩=some (.int .i64 a0_3):=(aG BK208.out 3).trans rfl
             have hcz42_4:wr.cell? ⟨gb208,4,none⟩=some (.slice (some ad209) l0_4.length c0_4):=(aG BK208.out 4).trans rfl
             have hfz42_0:=aH BK208.out 0
             have hfz42_1:=aH BK208.out 1
             have hfz42_2:=aH BK208.out 2
             have hfz42_3:=aH BK208.out 3
             have hfz42_4:=aH BK208.out 4
             have p211:0≤(x5_3:Int):=of_decide_eq_true (by first|(with_reducible assumption)|assumption)
             have q211:x5_3<(((rd_T35 l0_4 x3_1).f1).length:Int):=of_decide_eq_true (by first|(with_reducible assumption)|assumption)
             obtain⟨ad211,e211,hx211_0,hx211_1⟩:=at_T43 HR209_1.out x5_3 p211 q211
             (try rw [←Nbq19.out] at hx211_0)
             cases e211
             replace hx211_0:=(HB.out.cell (World.block_lt_of_cell? w _ hx211_0)).trans hx211_0
             replace hx211_1:=(HB.out.cell (World.block_lt_of_cell? w _ hx211_1)).trans hx211_1
             replace p211:=eq_true p211
             replace q211:=eq_true q211
             have p214:0≤(x5_3:Int):=of_decide_eq_true (by first|(with_reducible assumption)|assumption)
             have q214:x5_3<(((rd_T35 l0_4 x3_1).f1).length:Int):=of_decide_eq_true (by first|(with_reducible assumption)|assumption)
             obtain⟨ad214,e214,hx214_0,hx214_1⟩:=at_T43 HR209_1.out x5_3 p214 q214
             (try rw [←Nbq19.out] at hx214_0)
             obtain rfl:ad211=ad214:=(by injection e214)
             replace hx214_0:=(HB.out.cell (World.block_lt_of_cell? w _ hx214_0)).trans hx214_0
             replace hx214_1:=(HB.out.cell (World.block_lt_of_cell? w _ hx214_1)).trans hx214_1
             replace p214:=eq_true p214
             replace q214:=eq_true q214
             have p215:0≤(x5_3:Int):=of_decide_eq_true (by first|(with_reducible assumption)|assumption)
             have q215:x5_3<(((rd_T35 l0_4 x3_1).f1).length:Int):=of_decide_eq_true (by first|(with_reducible assumption)|assumption)
             obtain⟨ad215,e215,hx215_0,hx215_1⟩:=at_T43 HR209_1.out x5_3 p215 q215
             (try rw [←Nbq19.out] at hx215_0)
             obtain rfl:ad211=ad215:=(by injection e215)
             replace hx215_0:=(HB.out.cell (World.block_lt_of_cell? w _ hx215_0)).trans hx215_0
             replace hx215_1:=(HB.out.cell (World.block_lt_of_cell? w _ hx215_1)).trans hx215_1
             replace p215:=eq_true p215
             replace q215:=eq_true q215
             go_wp2
             go_roundg k3
             case measure=>have:=HK1.out;have:=HJ4.out;have:=HK3.out;omega
             case rel=>exact⟨(wrap64 (x5_3+1)),(by first|rfl|(simp;done)|(simp [*];done)),H',⟨by have:=HK1.out;have:=HJ4.out;have:=HK3.out;omega⟩,⟨by(with_reducible repeat(first|refine aJ ?_ _|refine aK ?_|refine aI ?_ _));exact BK208.out⟩,⟨by(with_reducible repeat(first|refine aJ ?_ _|refine aK ?_|refine aI ?_ _));exact BK210.out⟩,⟨by repeat(first|(with_reducible first|exact HB.out|apply aN|apply aP|apply aO|refine aL ?_ GE208.out|refine aL ?_ GE210.out)|exact HB.out)⟩⟩
         ·rw [if_neg c17] at H
          have c17b0:decide (x5_3<(((rd_T35 l0_4 x3_1).f1).length:Int))=false:=decide_eq_false c17
          clear c17
          have H':=aM H
          clear H
          have hnb43:=NB210_208.out
          have hnc43:=NB208_210.out
          have hcz44_0:wr.cell? ⟨gb210,0,none⟩=some (.int .i64 ((rd_T35 l0_4 x3_1).f0)):=(aG BK210.out 0).trans rfl
          have hcz44_1:wr.cell? ⟨gb210,1,none⟩=some (.slice A209_1 ((rd_T35 l0_4 x3_1).f1).length c209_1):=(aG BK210.out 1).trans rfl
          have hfz44_0:=aH BK210.out 0
          have hfz44_1:=aH BK210.out 1
          go_wp2
          go_roundg k3
          case measure=>have:=HK1.out;have:=HJ4.out;have:=HK3.out;omega
          case rel=>exact⟨(wrap64 (x3_1+1)),(by first|rfl|(simp;done)|(simp [*];done)),H',⟨by have:=HK1.out;have:=HJ4.out;have:=HK3.out;omega⟩,⟨by(with_reducible repeat(first|refine aJ ?_ _|refine aK ?_|refine aI ?_ _));exact BK208.out⟩,⟨by repeat(first|(with_reducible first|exact HB.out|apply aN|apply aP|apply aO|refine aL ?_ GE208.out|refine aL ?_ GE210.out)|exact HB.out)⟩⟩
   ·rw [if_neg c3] at H
    have c3b0:decide (x3_1<(l0_4.length:Int))=false:=decide_eq_false c3
    clear c3
    obtain rfl:=Option.some.inj H
    have hcz45_0:wr.cell? ⟨gb208,0,none⟩=some (.slice A0_0 l0_0.length c0_0):=(aG BK208.out 0).trans rfl
    have hcz45_1:wr.cell? ⟨gb208,1,none⟩=some (.slice A0_1 l0_1.length c0_1):=(aG BK208.out 1).trans rfl
    have hcz45_2:wr.cell? ⟨gb208,2,none⟩=some (.int .i64 a0_2):=(aG BK208.out 2).trans rfl
    have hcz45_3:wr.cell? ⟨gb208,3,none⟩=some (.int .i64 a0_3):=(aG BK208.out 3).trans rfl
    have hcz45_4:wr.cell? ⟨gb208,4,none⟩=some (.slice A0_4 l0_4.length c0_4):=(aG BK208.out 4).trans rfl
    have hfz45_0:=aH BK208.out 0
    have hfz45_1:=aH BK208.out 1
    have hfz45_2:=aH BK208.out 2
    have hfz45_3:=aH BK208.out 3
    have hfz45_4:=aH BK208.out 4
    go_wp2
    go_ret
    exact⟨by first|rfl|(simp [errW_none,errW_some]<;>rfl)|(simp [*,errW_none,errW_some]<;>rfl),by repeat(first|(with_reducible first|exact HB.out|apply aN|apply aP|apply aO|refine aL ?_ GE208.out)|exact HB.out)⟩
end Go.Proofs.Ytapjfnfengefpaa.P
end

section
namespace Go.Proofs.Ytapjfnfengefpaa.R
open Go.RowKit Go.Proofs.YtapjfnfengefpaaW.PrintWords Go.Proofs.YtapjfnfengefpaaW.PrintLast Go.Proofs.YtapjfnfengefpaaW.PrintMore
variable {α:Type}{d:Kd α}{t e:Nat}{w:World}{base n cap:Nat}{ok:Nat→Prop}{A:Option Addr}{v:Value}{m:List (List α)}
theorem S_row (hE:d.E= []) (h:Kd.S (Kd.slice t d) e w base ok (.slice A n cap) m) (i:Int) (h0:0≤i) (h1:i<m.length):
 ∃(g:Nat) (v:Value) (P:Nat→Prop),A=some ⟨g,0,none⟩∧w.cell? ⟨g,i.toNat,none⟩=some v∧d.R t w base P v (m.getD i.toNat [])∧(∀k,P k→ok k∧k≠g)∧
  ∀(w1:World) (P':Nat→Prop) (row':List α),Kept w w1 P→d.R t w1 base P' v row'→Kd.S (Kd.slice t d) e w1 base ok (.slice A n cap) (m.set i.toNat row'):=by
 obtain⟨g,cap',hv,_⟩:=Kd.S_form h (by omega)
 injection hv with hA hn hc
 subst hA
 subst hn
 subst hc
 obtain⟨oki,c,hcl,hM,hcell,hoki,hH⟩:=Kd.S_lend h ([]:List α) i h0 h1
 obtain⟨v,rfl,hR⟩:=hM
 refine⟨g,v,oki,rfl,?_,hR,hoki,fun w1 P' row' hk hR'=>?_⟩
 ·have:=hcell 0 v rfl
  rwa [show(Kd.slice t d).sz=1 from rfl,Nat.mul_one,Nat.add_zero] at this
 ·have hH':=Kd.H_step hH (fun k _ hn hlt=>hk.2 k hlt hn)
  exact Kd.H_back hH' (Kd.M_row (Kd.R_tight hE hR')) (fun k hk'=>hR.1 k hk'.symm)
end Go.Proofs.Ytapjfnfengefpaa.R
end

section
namespace Go.Proofs.Ytapjfnfengefpaa.P
open Go.RowKit Go.Proofs.YtapjfnfengefpaaW.PrintWords Go.Proofs.YtapjfnfengefpaaW.PrintLast Go.Proofs.YtapjfnfengefpaaW.PrintMore
attribute [local go_sem] max2_int min2_int max_two min_two max_three min_three max_four min_four   -- for this text's walks alone
set_option linter.unusedVariables false
set_option linter.unusedSimpArgs false
def regletref13_marks.l0:Nat→List (List Bool)→Int→List ByteArray→List (S72)→Int→Int→List (S35)→Option ((List (List Bool)))
 |0,_,_,_,_,_,_,_=>none
 |k+1,x3,x4,x337000,x337001,x337002,x337003,x337004=>if x4<(x337000.length:Int) then(if 0≤(wrap64 ((x337001.length:Int)+1)) then(if(wrap64 ((x337001.length:Int)+1):Int).toNat≤281474976710656 then(if x3.length<5864062014805 then(regletref13_marks.l0 k (x3++ [(List.replicate (wrap64 ((x337001.length:Int)+1):Int).toNat false)]) (wrap64 (x4+1)) x337000 x337001 x337002 x337003 x337004) else(none)) else(none)) else(none)) else(some x3)
def regletref13_marks.f (k:Nat) (l0_0:List ByteArray) (l0_1:List (S72)) (a0_2:Int) (a0_3:Int) (l0_4:List (S35)):Option ((List (List Bool))):=regletref13_marks.l0 k ([]:List (List Bool)) 0 l0_0 l0_1 a0_2 a0_3 l0_4
set_option maxHeartbeats 8000000 in
set_option maxRecDepth 100000 in
theorem regletref13_marks.calls (k:Nat) (A0_0:Option Addr) (c0_0:Nat) (l0_0:List ByteArray) (A0_1:Option Addr) (c0_1:Nat) (l0_1:List (S72)) (a0_2:Int) (a0_3:Int) (A0_4:Option Addr) (c0_4:Nat) (l0_4:List (S35)) (r:List (List Bool)) (w:World) (hr0_0:Kd.C Kd.string w A0_0 l0_0.length l0_0) (hc0_0:l0_0.length≤c0_0) (hr0_1:Kd.C k72 w A0_1 l0_1.length l0_1) (hc0_1:l0_1.length≤c0_1) (hr0_4:Kd.C k35 w A0_4 l0_4.length l0_4) (hc0_4:l0_4.length≤c0_4) (h:regletref13_marks.f k l0_0 l0_1 a0_2 a0_3 l0_4=some r):
 Calls Try.prog 43 #[.agg #[.slice A0_0 l0_0.length c0_0,.slice A0_1 l0_1.length c0_1,.int .i64 a0_2,.int .i64 a0_3,.slice A0_4 l0_4.length c0_4]] w fun e w'=>∃v0_:Value,e= .returned (v0_)∧Kd.S (Kd.slice 4 Kd.bool) 90 w' w.heap.size (fun _=>True) v0_ r∧Below w.heap.size w w':=by
 have hu26:=Try.underlying26
 have HR0_0:=aM hr0_0
 have HC0_0:=aM hc0_0
 clear hr0_0 hc0_0
 have HR0_1:=aM hr0_1
 have HC0_1:=aM hc0_1
 clear hr0_1 hc0_1
 have HR0_4:=aM hr0_4
 have HC0_4:=aM hc0_4
 clear hr0_4 hc0_4
 have HB:=aM (Below.refl w.heap.size w)
 have H:(regletref13_marks.l0 k ([]:List (List Bool)) 0 l0_0 l0_1 a0_2 a0_3 l0_4)=some r:=h
 clear h
 have H':=aM H
 clear H
 go_enter Try.func43,Try.ntmps43
 go_wp2_with (first|((with_reducible refine bJ (N:=1) rfl ?_);refine box_event ?hg (N:=1) ?hd (cs:=#[.slice A0_0 l0_0.length c0_0,.slice A0_1 l0_1.length c0_1,.int .i64 a0_2,.int .i64 a0_3,.slice A0_4 l0_4.length c0_4]) (t:=26) ?hr ?_;(case hd=>rfl);(case hg=>rfl);(case hr=>first|(go_simp;done)|(go_simp;rfl));intro gb336 hg w2 hbox hb;have n0_:=aM (bG (by repeat(first|(with_reducible first|exact HB.out|apply aN|apply aP|apply aO)|exact HB.out)) hb);have n1_:=aM (hbox);have n2_:=aM ((by rw [hg];exact(bH (by repeat(first|(with_reducible first|exact HB.out|apply aN|apply aP|apply aO)|exact HB.out))):w.heap.size≤gb336));have n3_:=aM ((by rw [hg];exact(bH (by repeat(first|(with_reducible first|exact HB.out|apply aN|apply aP|apply aO)|exact HB.out))):w.heap.size≤gb336));clear HB;have HB:=n0_;have BK336:=n1_;have GW336:=n2_;have GE336:=n3_;clear n0_ n1_ n2_ n3_;clear hb hbox hg))
 go_loopg [3,4] k (fun kq v3 v4 w'=>∃(x3_1:List (List Bool)) (x4_1:Int),v4= .int .i64 x4_1∧Aside0 (regletref13_marks.l0 kq x3_1 x4_1 l0_0 l0_1 a0_2 a0_3 l0_4=some r)∧Aside0 (kq≤k)∧Aside0 (Kd.S (Kd.slice 4 Kd.bool) 90 w' w.heap.size (fun _=>True) v3 x3_1)∧Aside0 (w'.heap[gb336]?=some (.cells #[(.slice A0_0 l0_0.length c0_0),(.slice A0_1 l0_1.length c0_1),.int .i64 a0_2,.int .i64 a0_3,(.slice A0_4 l0_4.length c0_4)] 26 (0,0)))∧Aside0 (Below w.heap.size w w'))
 case atStart=>exact⟨(([]:List (List Bool))),(0),(by first|rfl|(simp;done)|(simp [*];done)),H',⟨Nat.le_refl _⟩,⟨by first|exact Kd.S_nil _ _ _ _ _|exact Kd.N_nil _ _ _ _ _|exact Kd.V_nil _ _ _ _ _|exact Kd.Q_nil _ _ _ _ _|exact Kd.R_nil _ _ _ _ _⟩,⟨by(with_reducible repeat(first|refine aJ ?_ _|refine aK ?_|refine aI ?_ _));exact BK336.out⟩,⟨by repeat(first|(with_reducible first|exact HB.out|apply aN|apply aP|apply aO|refine aL ?_ GE336.out)|exact HB.out)⟩⟩
 case round=>
  clear H'
  (try clear p2)
  obtain⟨x3_1,x4_1,rfl,HA,HK1,HO_3,BK336,HB⟩:=hrel
  cases gk with
  |zero=>exact absurd HA.out (by simp [regletref13_marks.l0])
  |succ k1=>
   have H:=HA.out
   clear HA
   simp only [regletref13_marks.l0] at H
   by_cases c3:x4_1<(l0_0.length:Int)
   ·rw [if_pos c3] at H
    have c3b0:decide (x4_1<(l0_0.length:Int))=true:=decide_eq_true c3
    clear c3
    obtain⟨ji4,hji4⟩:∃j_:Int,(wrap64 ((l0_1.length:Int)+1))=j_:=⟨_,rfl⟩
    replace H:(if 0≤(ji4) then(if(ji4:Int).toNat≤281474976710656 then(if x3_1.length<5864062014805 then(regletref13_marks.l0 k1 (x3_1++ [(List.replicate (ji4:Int).toNat false)]) (wrap64 (x4_1+1)) l0_0 l0_1 a0_2 a0_3 l0_4) else(none)) else(none)) else(none))=some r:=by first|(rw [hji4] at H;exact H)|(simp only [hji4] at H ⊢;exact H)
    have hji4w:(IntKind.i64.wrap ((l0_1.length:Int)+1))=ji4:=(i64_w _).trans hji4
    by_cases c5:0≤(ji4)
    rotate_left
    ·rw [if_neg c5] at H
     exact absurd H (by simp)
    rw [if_pos c5] at H
    have c5b0:=eq_true c5
    have c5b1:decide (0≤(ji4))=true:=decide_eq_true c5
    clear c5
    by_cases c6:(ji4:Int).toNat≤281474976710656
    rotate_left
    ·rw [if_neg c6] at H
     exact absurd H (by simp)
    rw [if_pos c6] at H
    have c6b0:=eq_true c6
    have c6b1:decide ((ji4:Int).toNat≤281474976710656)=true:=decide_eq_true c6
    clear c6
    obtain⟨y337,hy337⟩:∃y_:List Bool,y_=(List.replicate (ji4:Int).toNat false):=⟨_,rfl⟩
    replace H:(if x3_1.length<5864062014805 then(regletref13_marks.l0 k1 (x3_1++ [y337]) (wrap64 (x4_1+1)) l0_0 l0_1 a0_2 a0_3 l0_4) else(none))=some r:=by first|(rw [hy337];with_reducible exact H)|(have H2_:=(Option.bind_some _ _).symm.trans H;rw [hy337];with_reducible exact H2_)|(have H2_:=(Option.bind_some _ _).symm.trans H;with_reducible exact H2_)|with_reducible exact H|(rw [hy337];exact H)|exact H
    have Ny337:=aM hy337
    clear hy337
    by_cases c7:x3_1.length<5864062014805
    rotate_left
    ·rw [if_neg c7] at H
     exact absurd H (by simp)
    rw [if_pos c7] at H
    have LMc7:=aM c7
    clear c7
    obtain⟨y340,hy340⟩:∃y_:List (List Bool),y_=(x3_1++ [y337]):=⟨_,rfl⟩
    replace H:(regletref13_marks.l0 k1 y340 (wrap64 (x4_1+1)) l0_0 l0_1 a0_2 a0_3 l0_4)=some r:=by first|(rw [hy340];with_reducible exact H)|(have H2_:=(Option.bind_some _ _).symm.trans H;rw [hy340];with_reducible exact H2_)|(have H2_:=(Option.bind_some _ _).symm.trans H;with_reducible exact H2_)|with_reducible exact H|(rw [hy340];exact H)|exact H
    have Ny340:=aM hy340
    clear hy340
    have H':=aM H
    clear H
    have hcz8_0:wr.cell? ⟨gb336,0,none⟩=some (.slice A0_0 l0_0.length c0_0):=(aG BK336.out 0).trans rfl
    have hcz8_1:wr.cell? ⟨gb336,1,none⟩=some (.slice A0_1 l0_1.length c0_1):=(aG BK336.out 1).trans rfl
    have hcz8_2:wr.cell? ⟨gb336,2,none⟩=some (.int .i64 a0_2):=(aG BK336.out 2).trans rfl
    have hcz8_3:wr.cell? ⟨gb336,3,none⟩=some (.int .i64 a0_3):=(aG BK336.out 3).trans rfl
    have hcz8_4:wr.cell? ⟨gb336,4,none⟩=some (.slice A0_4 l0_4.length c0_4):=(aG BK336.out 4).trans rfl
    have hfz8_0:=aH BK336.out 0
    have hfz8_1:=aH BK336.out 1
    have hfz8_2:=aH BK336.out 2
    have hfz8_3:=aH BK336.out 3
    have hfz8_4:=aH BK336.out 4
    go_wp2_with (first|((with_reducible refine bJ (N:=17) rfl ?_);refine Kd.R_make Kd.bool _ 4 rfl (N:=17) rfl 90 _ _ rfl ji4 rfl rfl Try.underlying90 (.bool false) 1 info4 rfl (by decide) (by omega) false (ok:=fun _=>True) (okp:=fun _=>True) rfl (fun _ hk=>hk) trivial (of_decide_eq_true (by first|(with_reducible assumption)|assumption)) (Nat.le_trans (Nat.mul_le_mul_right _ (of_decide_eq_true (by first|(with_reducible assumption)|assumption):ji4.toNat≤281474976710656)) (by omega)) (Below.refl _ _) (Nat.le_refl _) ?_;intro v338 w9 ho10 hb hg_ hnew_;clear hg_ hnew_;(first|rw [←Ny337.out] at ho10|(simp only [Int.reduceToNat] at ho10;rw [←Ny337.out] at ho10));have n0_:=aM (Kd.S_elder' (by(with_reducible repeat(first|apply Kd.S_alloc|apply aV|apply aW));exact HO_3.out) (Kd.R_base ho10) hb);have n1_:=aM (bL ho10 (bH (by repeat(first|(with_reducible first|exact HB.out|apply aN|apply aP|apply aO|refine aL ?_ GE336.out)|exact HB.out))));have n2_:=aM (bF (g:=gb336) (o:= .cells #[.slice A0_0 l0_0.length c0_0,.slice A0_1 l0_1.length c0_1,.int .i64 a0_2,.int .i64 a0_3,.slice A0_4 l0_4.length c0_4] 26 (0,0)) (by(with_reducible repeat(first|refine aJ ?_ _|refine aK ?_|refine aI ?_ _));exact BK336.out) hb);have n3_:=aM (bG (by repeat(first|(with_reducible first|exact HB.out|apply aN|apply aP|apply aO|refine aL ?_ GE336.out)|exact HB.out)) hb);clear HO_3;clear BK336;clear HB;have HO_3:=n0_;have HO339:=n1_;have BK336:=n2_;have HB:=n3_;clear n0_ n1_ n2_ n3_;clear hb ho10;obtain⟨Ao12,co12,eo12⟩:=Kd.R_slice HO339.out;subst eo12)|((with_reducible refine gate_builtin (b:= .append) (xs:=#[.tmp 12,.tmp 18]) rfl ?_);at_builtin;refine Kd.S_append (Kd.slice 4 Kd.bool) (w0:=w) w.heap.size rfl (.tmp 12) (.tmp 18) 88 90 (.slice none 0 0) 24 rfl Try.underlying88 info90 rfl (by decide) (by omega) u3 x3_1 y337 [.slice Ao12 y337.length co12] (fun _=>True) (fun k_=>some k_=(.slice Ao12 y337.length co12:Value).ownBlock) rfl rfl ?aP (fun k_ hk_=>((Kd.R_mono (ok':=fun k_=>((fun _=>True)) k_∧some k_≠(u3:Value).ownBlock) (Kd.R_apart' (HO339.out) (Kd.S_typed HO_3.out) (by decide)) (fun k_ hk=>⟨trivial,hk.2⟩))).1 k_ hk_.symm) ?aF ?aO ?aB ?aS ?aL ?_;(case aP=>exact Kd.M_row (Kd.R_mono (Kd.R_tight rfl (Kd.R_mono (ok':=fun k_=>((fun _=>True)) k_∧some k_≠(u3:Value).ownBlock) (Kd.R_apart' (HO339.out) (Kd.S_typed HO_3.out) (by decide)) (fun k_ hk=>⟨trivial,hk.2⟩))) (fun _ h_=>h_)));(case aB=>exact(by repeat(first|(with_reducible first|exact HB.out|apply aN|apply aP|apply aO|refine aL ?_ GE336.out)|exact HB.out)));(case aF=>exact(fun _ _=>trivial));(case aO=>exact(by(with_reducible repeat(first|apply Kd.S_alloc|apply aV|apply aW));exact Kd.S_mono HO_3.out (fun k_ hk=>⟨trivial,fun e_=>hk.2 e_⟩)));(case aS=>exact(bH (by repeat(first|(with_reducible first|exact HB.out|apply aN|apply aP|apply aO|refine aL ?_ GE336.out)|exact HB.out))));(case aL=>have:=LMc7.out;omega);intro v341 w11 ho hb hg hat;rw [←Ny340.out] at ho;have n0_:=aM (blk_grown (g:=gb336) (o:= .cells #[.slice A0_0 l0_0.length c0_0,.slice A0_1 l0_1.length c0_1,.int .i64 a0_2,.int .i64 a0_3,.slice A0_4 l0_4.length c0_4] 26 (0,0)) (by(with_reducible repeat(first|refine aJ ?_ _|refine aK ?_|refine aI ?_ _));exact BK336.out) hg (Kd.S_ne HO_3.out BK336.out (by decide)));have n1_:=aM (hb);have n2_:=aM (ho);clear BK336;clear HB;clear HO_3;clear HO339;have BK336:=n0_;have HB:=n1_;have HO342:=n2_;clear n0_ n1_ n2_;clear ho hb hg hat))
    go_roundg k1
    case measure=>have:=HK1.out;omega
    case rel=>exact⟨(y340),(wrap64 (x4_1+1)),(by first|rfl|(simp;done)|(simp [*];done)),H',⟨by have:=HK1.out;omega⟩,⟨by(with_reducible repeat(first|apply Kd.S_alloc|apply aV|apply aW));exact HO342.out⟩,⟨by(with_reducible repeat(first|refine aJ ?_ _|refine aK ?_|refine aI ?_ _));exact BK336.out⟩,⟨by repeat(first|(with_reducible first|exact HB.out|apply aN|apply aP|apply aO|refine aL ?_ GE336.out)|exact HB.out)⟩⟩
   ·rw [if_neg c3] at H
    have c3b0:decide (x4_1<(l0_0.length:Int))=false:=decide_eq_false c3
    clear c3
    obtain rfl:=Option.some.inj H
    have hcz13_0:wr.cell? ⟨gb336,0,none⟩=some (.slice A0_0 l0_0.length c0_0):=(aG BK336.out 0).trans rfl
    have hcz13_1:wr.cell? ⟨gb336,1,none⟩=some (.slice A0_1 l0_1.length c0_1):=(aG BK336.out 1).trans rfl
    have hcz13_2:wr.cell? ⟨gb336,2,none⟩=some (.int .i64 a0_2):=(aG BK336.out 2).trans rfl
    have hcz13_3:wr.cell? ⟨gb336,3,none⟩=some (.int .i64 a0_3):=(aG BK336.out 3).trans rfl
    have hcz13_4:wr.cell? ⟨gb336,4,none⟩=some (.slice A0_4 l0_4.length c0_4):=(aG BK336.out 4).trans rfl
    have hfz13_0:=aH BK336.out 0
    have hfz13_1:=aH BK336.out 1
    have hfz13_2:=aH BK336.out 2
    have hfz13_3:=aH BK336.out 3
    have hfz13_4:=aH BK336.out 4
    go_wp2
    go_ret
    exact⟨_,by first|rfl|(simp [errW_none,errW_some]<;>rfl)|(simp [*,errW_none,errW_some]<;>rfl),by(with_reducible repeat(first|apply Kd.S_alloc|apply aV|apply aW));exact HO_3.out,by repeat(first|(with_reducible first|exact HB.out|apply aN|apply aP|apply aO|refine aL ?_ GE336.out)|exact HB.out)⟩
end Go.Proofs.Ytapjfnfengefpaa.P
end
