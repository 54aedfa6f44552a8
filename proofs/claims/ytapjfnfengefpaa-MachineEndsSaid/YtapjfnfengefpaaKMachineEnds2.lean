/- Packed texts of this claim: the walks of the functions, and their plain laws; see the claim's last text. -/
import Derived.Test.YtapjfnfengefpaaProg
import Derived.Below
import Derived.Deep.Draws
import Derived.Deep.AppendLies
import Derived.Maps.AppendAt
import Derived.OwnWalk
import Derived.Laws.BytesArg
import Derived.Laws.MakeOwn
import Derived.Laws.OwnMore
import Derived.Deep.OwnRows
import Derived.Tactics
import Derived.Lib.ConvBytes
import Derived.Laws.Slices
import Derived.WalkKit
import Derived.KernelRfl
import Derived.RowKit3
import Derived.Deep.LoopGhost
import Derived.Deep.QuietTactic
import Derived.BigQuiet
import Derived.WideLaws
import Derived.Deep.DeepCutAuto
import Derived.Deep.CutBlock
import Derived.Deep.RegionHeld3
import Derived.Laws.Rows
import Derived.Lib.AppendStr
import Derived.ArgAppend
import Derived.Laws.IdiomCopy
import Derived.OrdersHeld
import Derived.Laws.BitsLemmas
import Derived.RowKit
import Derived.Laws.Runes
import Derived.Deep.Cut
import Derived.Shelf.Abstract
import Derived.Test.YtapjfnfengefpaaKMachineEnds1
section
namespace Go.Proofs.Ytapjfnfengefpaa.P
open Go.RowKit Go.Proofs.YtapjfnfengefpaaW.PrintWords Go.Proofs.YtapjfnfengefpaaW.PrintLast Go.Proofs.YtapjfnfengefpaaW.PrintMore
attribute [local go_sem] max2_int min2_int max_two min_two max_three min_three max_four min_four   -- for this text's walks alone
set_option linter.unusedVariables false
set_option linter.unusedSimpArgs false
def errW:Option Int→Value
 |none=> .nilIface
 |some c=> .iface 0 (.int .i64 c)
theorem errW_none:errW none= .nilIface:=rfl
theorem errW_some (c:Int):errW (some c)= .iface 0 (.int .i64 c):=rfl
theorem info3:(Try.prog.info? 3).map (fun i=>(i.zero,i.size,i.bytes))=some (some (.int .i64 0),1,8):=by kernel_rfl
theorem info4:(Try.prog.info? 4).map (fun i=>(i.zero,i.size,i.bytes))=some (some (.bool false),1,1):=by kernel_rfl
theorem info32:(Try.prog.info? 32).map (fun i=>(i.zero,i.size,i.bytes))=some (some (.slice none 0 0),1,24):=by kernel_rfl
theorem info43:(Try.prog.info? 43).map (fun i=>(i.zero,i.size,i.bytes))=some (some (.agg #[(.bool false),(.int .i64 0)]),2,16):=by kernel_rfl
theorem info72:(Try.prog.info? 72).map (fun i=>(i.zero,i.size,i.bytes))=some (some (.agg #[(.string ⟨#[]⟩),(.int .i64 0),(.string ⟨#[]⟩),(.slice none 0 0),(.int .i64 0),(.int .i64 0),(.slice none 0 0)]),7,104):=by kernel_rfl
theorem info78:(Try.prog.info? 78).map (fun i=>(i.zero,i.size,i.bytes))=some (some (.agg #[(.int .i64 0),(.int .i64 0),(.int .i64 0),(.int .i64 0)]),4,32):=by kernel_rfl
theorem info90:(Try.prog.info? 90).map (fun i=>(i.zero,i.size,i.bytes))=some (some (.slice none 0 0),1,24):=by kernel_rfl
structure S43 where
 f0:Bool
 f1:Int
def z43:S43:=⟨false,(0:Int)⟩
def k43:Kd S43:=Kd.iso (Kd.pair Kd.bool (Kd.int .i64)) (fun x:S43=>(x.f0,x.f1))
theorem k43_open {w:World}{x:S43}{cs:List Value}(h:k43.K w x cs):cs= [.bool x.f0,.int .i64 x.f1]:=by
 obtain⟨_,_,rfl,rfl,rfl⟩:=h
 exact rfl
theorem k43_openM {w:World}{base:Nat}{ok:Nat→Prop}{x:S43}{cs:List Value}(h:k43.M w base ok x cs):cs= [.bool x.f0,.int .i64 x.f1]:=by
 obtain⟨_,_,rfl,rfl,rfl⟩:=h
 exact rfl
theorem k43_mkM (w:World) (base:Nat) (ok:Nat→Prop) (x:S43)  :k43.M w base ok x [.bool x.f0,.int .i64 x.f1]:=⟨[.bool x.f0],[.int .i64 x.f1],rfl,rfl,rfl⟩
def rd_T43 (xs:List S43) (i:Int):S43:=xs.getD i.toNat z43
theorem at_T43 {w:World}{A:Option Addr}{n:Nat}{xs:List S43}(h:Kd.C k43 w A n xs) (i:Int) (h0:0≤i) (h1:i<n):∃ad,A=some ad∧w.cell? (ad.add (i.toNat * 2))=some (.bool (rd_T43 xs i).f0)∧w.cell? ⟨(ad.add (i.toNat * 2)).block,(ad.add (i.toNat * 2)).off+1,none⟩=some (.int .i64 (rd_T43 xs i).f1):=by
 obtain⟨ad,c,e,_,hK,hc0⟩:=Kd.C_get h z43 i h0 h1
 have hc:∀j u,c[j]?=some u→w.cell? (ad.add (i.toNat * 2+j))=some u:=hc0
 obtain rfl:=k43_open hK
 exact⟨ad,e,hc 0 _ rfl,by rw [←add_field _ _ 1 (by omega)];exact hc 1 _ rfl⟩
def rd_L5 (xs:List (List Int)) (i:Int):(List Int):=xs.getD i.toNat ([]:List Int)
theorem at_L5 {w:World}{A:Option Addr}{n:Nat}{xs:List (List Int)}(h:Kd.C (Kd.slice 3 (Kd.int .i64)) w A n xs) (i:Int) (h0:0≤i) (h1:i<n):∃ad A0 c0,A=some ad∧w.cell? (ad.add i.toNat)=some (.slice A0 (rd_L5 xs i).length c0)∧(rd_L5 xs i).length≤c0∧(Kd.int .i64).C w A0 (rd_L5 xs i).length (rd_L5 xs i):=by
 obtain⟨ad,c,e,_,hK,hc0⟩:=Kd.C_get h ([]:List Int) i h0 h1
 have hc:∀j u,c[j]?=some u→w.cell? (ad.add (i.toNat * 1+j))=some u:=hc0
 obtain⟨A0,c0,rfl,l0,g0⟩:=hK
 exact⟨ad,A0,c0,e,by have hq:=hc 0 _ rfl;rwa [Nat.mul_one,Nat.add_zero] at hq,l0,g0⟩
structure S70 where
 f0:Int
 f1:ByteArray
 f2:(List Int)
 f3:Int
 f4:Int
 f5:(List S70)
def z70:S70:=⟨(0:Int),(⟨#[]⟩:ByteArray),([]:List Int),(0:Int),(0:Int),([]:List S70)⟩
def F70 (d:Kd S70):Kd S70:=Kd.iso (Kd.pair (Kd.int .i64) (Kd.pair Kd.string (Kd.pair (Kd.slice 3 (Kd.int .i64)) (Kd.pair (Kd.int .i64) (Kd.pair (Kd.int .i64) (Kd.slice 70 d)))))) (fun x:S70=>(x.f0,x.f1,x.f2,x.f3,x.f4,x.f5))
theorem mono70:Kd.Mono F70:=Kd.mono_iso _ (Kd.mono_pair (Kd.mono_const _) (Kd.mono_pair (Kd.mono_const _) (Kd.mono_pair (Kd.mono_const _) (Kd.mono_pair (Kd.mono_const _) (Kd.mono_pair (Kd.mono_const _) (Kd.mono_slice 70 Kd.mono_id))))))
theorem sub70:Kd.Sub F70 [3,70]:=Kd.sub_iso _ (Kd.sub_pair (Kd.sub_const _ (by decide)) (Kd.sub_pair (Kd.sub_const _ (by decide)) (Kd.sub_pair (Kd.sub_const _ (by decide)) (Kd.sub_pair (Kd.sub_const _ (by decide)) (Kd.sub_pair (Kd.sub_const _ (by decide)) (Kd.sub_slice 70 (by decide) Kd.sub_id))))))
theorem sz70:∀n,(Kd.upto F70 6 [3,70] n).sz=6:=Kd.upto_sz (fun _=>rfl)
def k70:Kd S70:=Kd.fix F70 6 [3,70] sz70 (Kd.upto_E sub70)
theorem k70_mk (w:World) (x:S70) {A2:Option Addr}{c2:Nat}(l2:x.f2.length≤c2) (g2:(Kd.int .i64).C w A2 x.f2.length x.f2) {A5:Option Addr}{c5:Nat}(l5:x.f5.length≤c5) (g5:k70.C w A5 x.f5.length x.f5):k70.K w x [.int .i64 x.f0,.string x.f1,.slice A2 x.f2.length c2,.int .i64 x.f3,.int .i64 x.f4,.slice A5 x.f5.length c5]:=by
 obtain⟨n5,q5⟩:=Kd.fix_C_back mono70 g5
 have r5:=Kd.upto_C_le mono70 sz70 (show n5≤n5 by omega) q5
 exact⟨n5+1,⟨[.int .i64 x.f0],[.string x.f1,.slice A2 x.f2.length c2,.int .i64 x.f3,.int .i64 x.f4,.slice A5 x.f5.length c5],rfl,rfl,⟨[.string x.f1],[.slice A2 x.f2.length c2,.int .i64 x.f3,.int .i64 x.f4,.slice A5 x.f5.length c5],rfl,rfl,⟨[.slice A2 x.f2.length c2],[.int .i64 x.f3,.int .i64 x.f4,.slice A5 x.f5.length c5],rfl,⟨A2,c2,rfl,l2,g2⟩,⟨[.int .i64 x.f3],[.int .i64 x.f4,.slice A5 x.f5.length c5],rfl,rfl,⟨[.int .i64 x.f4],[.slice A5 x.f5.length c5],rfl,rfl,⟨A5,c5,rfl,l5,r5⟩⟩⟩⟩⟩⟩⟩
theorem k70_mkM (w:World) (base:Nat) (ok:Nat→Prop) (x:S70) {v2:Value}(g2:(Kd.int .i64).R 3 w base ok v2 x.f2) {v5:Value}(g5:k70.R 70 w base ok v5 x.f5):k70.M w base ok x [.int .i64 x.f0,.string x.f1,v2,.int .i64 x.f3,.int .i64 x.f4,v5]:=by
 obtain⟨n5,q5⟩:=Kd.fix_R_back mono70 g5
 have r5:=Kd.upto_R_le mono70 sz70 (show n5≤n5 by omega) q5
 exact⟨n5+1,⟨[.int .i64 x.f0],[.string x.f1,v2,.int .i64 x.f3,.int .i64 x.f4,v5],rfl,rfl,⟨[.string x.f1],[v2,.int .i64 x.f3,.int .i64 x.f4,v5],rfl,rfl,⟨[v2],[.int .i64 x.f3,.int .i64 x.f4,v5],rfl,⟨v2,rfl,g2⟩,⟨[.int .i64 x.f3],[.int .i64 x.f4,v5],rfl,rfl,⟨[.int .i64 x.f4],[v5],rfl,rfl,⟨v5,rfl,r5⟩⟩⟩⟩⟩⟩⟩
structure S72 where
 f0:ByteArray
 f1:S70
def z72:S72:=⟨(⟨#[]⟩:ByteArray),z70⟩
def k72:Kd S72:=Kd.iso (Kd.pair Kd.string k70) (fun x:S72=>(x.f0,x.f1))
theorem k72_mk (w:World) (x:S72) {A3:Option Addr}{c3:Nat}(l3:x.f1.f2.length≤c3) (g3:(Kd.int .i64).C w A3 x.f1.f2.length x.f1.f2) {A6:Option Addr}{c6:Nat}(l6:x.f1.f5.length≤c6) (g6:k70.C w A6 x.f1.f5.length x.f1.f5):k72.K w x [.string x.f0,.int .i64 x.f1.f0,.string x.f1.f1,.slice A3 x.f1.f2.length c3,.int .i64 x.f1.f3,.int .i64 x.f1.f4,.slice A6 x.f1.f5.length c6]:=⟨[.string x.f0],[.int .i64 x.f1.f0,.string x.f1.f1,.slice A3 x.f1.f2.length c3,.int .i64 x.f1.f3,.int .i64 x.f1.f4,.slice A6 x.f1.f5.length c6],rfl,rfl,(k70_mk w x.f1 l3 g3 l6 g6)⟩
theorem k72_mkM (w:World) (base:Nat) (ok:Nat→Prop) (x:S72) {v3:Value}(g3:(Kd.int .i64).R 3 w base ok v3 x.f1.f2) {v6:Value}(g6:k70.R 70 w base ok v6 x.f1.f5):k72.M w base ok x [.string x.f0,.int .i64 x.f1.f0,.string x.f1.f1,v3,.int .i64 x.f1.f3,.int .i64 x.f1.f4,v6]:=⟨[.string x.f0],[.int .i64 x.f1.f0,.string x.f1.f1,v3,.int .i64 x.f1.f3,.int .i64 x.f1.f4,v6],rfl,rfl,(k70_mkM w base ok x.f1 g3 g6)⟩
theorem k72_mkF (W:World) (ok:Nat→Prop) (x:S72) {A3:Option Addr}{c3:Nat}(l3:x.f1.f2.length≤c3) (g3:Kd.F (Kd.int .i64) W ok A3 x.f1.f2.length x.f1.f2) {A6:Option Addr}{c6:Nat}(l6:x.f1.f5.length≤c6) (g6:Kd.F k70 W ok A6 x.f1.f5.length x.f1.f5):Kd.FK k72 W ok x [.string x.f0,.int .i64 x.f1.f0,.string x.f1.f1,.slice A3 x.f1.f2.length c3,.int .i64 x.f1.f3,.int .i64 x.f1.f4,.slice A6 x.f1.f5.length c6]:=fun W2 hW=>k72_mk W2 x l3 (g3 W2 hW) l6 (g6 W2 hW)
structure S35 where
 f0:Int
 f1:(List S43)
def z35:S35:=⟨(0:Int),([]:List S43)⟩
def k35:Kd S35:=Kd.iso (Kd.pair (Kd.int .i64) (Kd.slice 43 k43)) (fun x:S35=>(x.f0,x.f1))
theorem k35_open {w:World}{x:S35}{cs:List Value}(h:k35.K w x cs):∃A1 c1,cs= [.int .i64 x.f0,.slice A1 x.f1.length c1]∧x.f1.length≤c1∧k43.C w A1 x.f1.length x.f1:=by
 obtain⟨_,_,rfl,rfl,⟨A1,c1,rfl,l1,g1⟩⟩:=h
 exact⟨A1,c1,rfl,l1,g1⟩
theorem k35_openM {w:World}{base:Nat}{ok:Nat→Prop}{x:S35}{cs:List Value}(h:k35.M w base ok x cs):∃v1,cs= [.int .i64 x.f0,v1]∧k43.R 43 w base ok v1 x.f1:=by
 obtain⟨_,_,rfl,rfl,⟨v1,rfl,g1⟩⟩:=h
 exact⟨v1,rfl,g1⟩
theorem k35_mk (w:World) (x:S35) {A1:Option Addr}{c1:Nat}(l1:x.f1.length≤c1) (g1:k43.C w A1 x.f1.length x.f1):k35.K w x [.int .i64 x.f0,.slice A1 x.f1.length c1]:=⟨[.int .i64 x.f0],[.slice A1 x.f1.length c1],rfl,rfl,⟨A1,c1,rfl,l1,g1⟩⟩
theorem k35_mkM (w:World) (base:Nat) (ok:Nat→Prop) (x:S35) {v1:Value}(g1:k43.R 43 w base ok v1 x.f1):k35.M w base ok x [.int .i64 x.f0,v1]:=⟨[.int .i64 x.f0],[v1],rfl,rfl,⟨v1,rfl,g1⟩⟩
theorem k35_mkF (W:World) (ok:Nat→Prop) (x:S35) {A1:Option Addr}{c1:Nat}(l1:x.f1.length≤c1) (g1:Kd.F k43 W ok A1 x.f1.length x.f1):Kd.FK k35 W ok x [.int .i64 x.f0,.slice A1 x.f1.length c1]:=fun W2 hW=>k35_mk W2 x l1 (g1 W2 hW)
def rd_T35 (xs:List S35) (i:Int):S35:=xs.getD i.toNat z35
theorem at_T35 {w:World}{A:Option Addr}{n:Nat}{xs:List S35}(h:Kd.C k35 w A n xs) (i:Int) (h0:0≤i) (h1:i<n):∃ad A1 c1,A=some ad∧w.cell? (ad.add (i.toNat * 2))=some (.int .i64 (rd_T35 xs i).f0)∧w.cell? ⟨(ad.add (i.toNat * 2)).block,(ad.add (i.toNat * 2)).off+1,none⟩=some (.slice A1 (rd_T35 xs i).f1.length c1)∧(rd_T35 xs i).f1.length≤c1∧k43.C w A1 (rd_T35 xs i).f1.length (rd_T35 xs i).f1:=by
 obtain⟨ad,c,e,_,hK,hc0⟩:=Kd.C_get h z35 i h0 h1
 have hc:∀j u,c[j]?=some u→w.cell? (ad.add (i.toNat * 2+j))=some u:=hc0
 obtain⟨A1,c1,rfl,l1,g1⟩:=k35_open hK
 exact⟨ad,A1,c1,e,hc 0 _ rfl,by rw [←add_field _ _ 1 (by omega)];exact hc 1 _ rfl,l1,g1⟩
def rd_L17 (xs:List (List Bool)) (i:Int):(List Bool):=xs.getD i.toNat ([]:List Bool)
theorem at_L17 {w:World}{A:Option Addr}{n:Nat}{xs:List (List Bool)}(h:Kd.C (Kd.slice 4 Kd.bool) w A n xs) (i:Int) (h0:0≤i) (h1:i<n):∃ad A0 c0,A=some ad∧w.cell? (ad.add i.toNat)=some (.slice A0 (rd_L17 xs i).length c0)∧(rd_L17 xs i).length≤c0∧Kd.bool.C w A0 (rd_L17 xs i).length (rd_L17 xs i):=by
 obtain⟨ad,c,e,_,hK,hc0⟩:=Kd.C_get h ([]:List Bool) i h0 h1
 have hc:∀j u,c[j]?=some u→w.cell? (ad.add (i.toNat * 1+j))=some u:=hc0
 obtain⟨A0,c0,rfl,l0,g0⟩:=hK
 exact⟨ad,A0,c0,e,by have hq:=hc 0 _ rfl;rwa [Nat.mul_one,Nat.add_zero] at hq,l0,g0⟩
structure S78 where
 f0:Int
 f1:Int
 f2:Int
 f3:Int
def k78:Kd S78:=Kd.iso (Kd.pair (Kd.int .i64) (Kd.pair (Kd.int .i64) (Kd.pair (Kd.int .i64) (Kd.int .i64)))) (fun x:S78=>(x.f0,x.f1,x.f2,x.f3))
theorem k78_mkM (w:World) (base:Nat) (ok:Nat→Prop) (x:S78)  :k78.M w base ok x [.int .i64 x.f0,.int .i64 x.f1,.int .i64 x.f2,.int .i64 x.f3]:=⟨[.int .i64 x.f0],[.int .i64 x.f1,.int .i64 x.f2,.int .i64 x.f3],rfl,rfl,⟨[.int .i64 x.f1],[.int .i64 x.f2,.int .i64 x.f3],rfl,rfl,⟨[.int .i64 x.f2],[.int .i64 x.f3],rfl,rfl,rfl⟩⟩⟩
attribute [local go_sem] max2_int min2_int max_two min_two max_three min_three max_four min_four   -- for this text's walks alone
set_option linter.unusedVariables false
set_option linter.unusedSimpArgs false
theorem eqA43 (d:Nat) (w:World) (x0 y0:Bool) (x1 y1:Int):
 (Op.equalIn (d+2) 43 (.agg #[.bool x0,.int .i64 x1]) (.agg #[.bool y0,.int .i64 y1])).run Try.prog w= .ok (x0==y0 && (x1==y1)) w:=by
 refine eqA_of Try.underlying43 (by kernel_rfl) ?_
 refine eqf_cons (by rfl) (by go_simp;rfl) (by go_simp;rfl) (by go_simp) ?_
 exact eqf_last (by rfl) (by go_simp;rfl) (by go_simp;rfl) (by go_simp)
attribute [local go_sem] max2_int min2_int max_two min_two max_three min_three max_four min_four   -- for this text's walks alone
set_option linter.unusedVariables false
set_option linter.unusedSimpArgs false
attribute [local go_sem high] eqA43
mutual
def regletref16_Same.j0:Nat→Bool→List (S43)→Bool→List (S43)→Bool→Option (Bool)
 |0,_,_,_,_,_=>none
 |k+1,x19,x102000,x102001,x103000,x103001=>if x19=true then(some false) else(regletref16_Same.l0 k 0 x102000 x102001 x103000 x103001)
def regletref16_Same.l0:Nat→Int→List (S43)→Bool→List (S43)→Bool→Option (Bool)
 |0,_,_,_,_,_=>none
 |k+1,x5,x102000,x102001,x103000,x103001=>if x5<(x102000.length:Int) then(if 0≤x5 then(if x5<(x103000.length:Int) then(if(!(((rd_T43 x102000 x5).f0)==((rd_T43 x103000 x5).f0))||(!(((rd_T43 x102000 x5).f1)==((rd_T43 x103000 x5).f1))))=true then(some false) else(regletref16_Same.l0 k (wrap64 (x5+1)) x102000 x102001 x103000 x103001)) else(none)) else(none)) else(some true)
end
def regletref16_Same.f (k:Nat) (l0_0:List (S43)) (a0_1:Bool) (l1_0:List (S43)) (a1_1:Bool):Option (Bool):=if(a0_1 !=a1_1)=true then(regletref16_Same.j0 k true l0_0 a0_1 l1_0 a1_1) else(regletref16_Same.j0 k ((l0_0.length:Int) !=(l1_0.length:Int)) l0_0 a0_1 l1_0 a1_1)
theorem regletref16_Same.mono_l:∀k,(∀y0 y1 y2 y3 y4,LeO (regletref16_Same.j0 k y0 y1 y2 y3 y4) (regletref16_Same.j0 (k+1) y0 y1 y2 y3 y4))∧(∀y0 y1 y2 y3 y4,LeO (regletref16_Same.l0 k y0 y1 y2 y3 y4) (regletref16_Same.l0 (k+1) y0 y1 y2 y3 y4))
 |0=>⟨fun _ _ _ _ _ r h=>by simp [regletref16_Same.j0] at h,fun _ _ _ _ _ r h=>by simp [regletref16_Same.l0] at h⟩
 |k+1=>by
  obtain⟨ih0,ih1⟩:=regletref16_Same.mono_l k
  refine⟨?_,?_⟩
  ·intro y0 y1 y2 y3 y4
   unfold regletref16_Same.j0
   repeat' first
   |(with_reducible exact ih0 _ _ _ _ _)
   |(with_reducible exact ih1 _ _ _ _ _)
   |(with_reducible exact LeO.refl _)
   |(with_reducible exact LeO.none _)
   |(with_reducible refine LeO.ite ?_ ?_)
   |(with_reducible refine LeO.bind ?_ (fun _=>?_))
   |exact ih0 _ _ _ _ _
   |exact ih1 _ _ _ _ _
   |exact LeO.none _
   |refine LeO.ite ?_ ?_
   |refine LeO.bind ?_ (fun _=>?_)
  ·intro y0 y1 y2 y3 y4
   unfold regletref16_Same.l0
   repeat' first
   |(with_reducible exact ih0 _ _ _ _ _)
   |(with_reducible exact ih1 _ _ _ _ _)
   |(with_reducible exact LeO.refl _)
   |(with_reducible exact LeO.none _)
   |(with_reducible refine LeO.ite ?_ ?_)
   |(with_reducible refine LeO.bind ?_ (fun _=>?_))
   |exact ih0 _ _ _ _ _
   |exact ih1 _ _ _ _ _
   |exact LeO.none _
   |refine LeO.ite ?_ ?_
   |refine LeO.bind ?_ (fun _=>?_)
theorem regletref16_Same.mono:∀a0 a1 a2 a3 k,LeO (regletref16_Same.f k a0 a1 a2 a3) (regletref16_Same.f (k+1) a0 a1 a2 a3):=by
 intro a0 a1 a2 a3 k
 obtain⟨ih0,ih1⟩:=regletref16_Same.mono_l k
 unfold regletref16_Same.f
 repeat' first
  |(with_reducible exact ih0 _ _ _ _ _)
  |(with_reducible exact ih1 _ _ _ _ _)
  |(with_reducible exact LeO.refl _)
  |(with_reducible exact LeO.none _)
  |(with_reducible refine LeO.ite ?_ ?_)
  |(with_reducible refine LeO.bind ?_ (fun _=>?_))
  |exact ih0 _ _ _ _ _
  |exact ih1 _ _ _ _ _
  |exact LeO.none _
  |refine LeO.ite ?_ ?_
  |refine LeO.bind ?_ (fun _=>?_)
set_option maxHeartbeats 8000000 in
set_option maxRecDepth 100000 in
theorem regletref16_Same.calls (k:Nat) (A0_0:Option Addr) (c0_0:Nat) (l0_0:List (S43)) (a0_1:Bool) (A1_0:Option Addr) (c1_0:Nat) (l1_0:List (S43)) (a1_1:Bool) (r:Bool) (w:World) (hr0_0:Kd.C k43 w A0_0 l0_0.length l0_0) (hc0_0:l0_0.length≤c0_0) (hr1_0:Kd.C k43 w A1_0 l1_0.length l1_0) (hc1_0:l1_0.length≤c1_0) (h:regletref16_Same.f k l0_0 a0_1 l1_0 a1_1=some r):
 Calls Try.prog 16 #[.agg #[.slice A0_0 l0_0.length c0_0,.bool a0_1],.agg #[.slice A1_0 l1_0.length c1_0,.bool a1_1]] w fun e w'=>e= .returned (.bool r)∧Below w.heap.size w w':=by
 have hu31:=Try.underlying31
 have hu43:=Try.underlying43
 have HR0_0:=Aside0.mk hr0_0
 have HC0_0:=Aside0.mk hc0_0
 clear hr0_0 hc0_0
 have HR1_0:=Aside0.mk hr1_0
 have HC1_0:=Aside0.mk hc1_0
 clear hr1_0 hc1_0
 have HB:=Aside0.mk (Below.refl w.heap.size w)
 have H:(if(a0_1 !=a1_1)=true then(regletref16_Same.j0 k true l0_0 a0_1 l1_0 a1_1) else(regletref16_Same.j0 k ((l0_0.length:Int) !=(l1_0.length:Int)) l0_0 a0_1 l1_0 a1_1))=some r:=h
 clear h
 have HC3:=Aside0.mk H
 clear H
 go_enter Try.func16,Try.ntmps16
 go_upto_region 1 with(first|((with_reducible refine gate_dst (N:=2) rfl ?_);(try(refine gate_guard (by rfl) ?_;dsimp only));refine box_event ?hg (N:=2) ?hd (cs:=#[.slice A0_0 l0_0.length c0_0,.bool a0_1]) (t:=31) ?hr ?_;(case hd=>rfl);(case hg=>rfl);(case hr=>first|(go_simp;done)|(go_simp;rfl));intro gb101 hg w4 hbox hb;have n0_:=Aside0.mk (below_step (by repeat(first|(with_reducible first|exact HB.out|apply below_alloc|apply pw_below_drewN|apply below_drew1)|exact HB.out)) hb);have n1_:=Aside0.mk (hbox);have n2_:=Aside0.mk ((by rw [hg];exact(below_size (by repeat(first|(with_reducible first|exact HB.out|apply below_alloc|apply pw_below_drewN|apply below_drew1)|exact HB.out))):w.heap.size≤gb101));have n3_:=Aside0.mk ((by rw [hg];exact(below_size (by repeat(first|(with_reducible first|exact HB.out|apply below_alloc|apply pw_below_drewN|apply below_drew1)|exact HB.out))):w.heap.size≤gb101));clear HB;have HB:=n0_;have BK101:=n1_;have GW101:=n2_;have GE101:=n3_;clear n0_ n1_ n2_ n3_;clear hb hbox hg)|((with_reducible refine gate_dst (N:=3) rfl ?_);(try(refine gate_guard (by rfl) ?_;dsimp only));refine box_event ?hg (N:=3) ?hd (cs:=#[.slice A1_0 l1_0.length c1_0,.bool a1_1]) (t:=31) ?hr ?_;(case hd=>rfl);(case hg=>rfl);(case hr=>first|(go_simp;done)|(go_simp;rfl));intro gb102 hg w5 hbox hb;have n0_:=Aside0.mk (blk_below (g:=gb101) (o:= .cells #[.slice A0_0 l0_0.length c0_0,.bool a0_1] 31 (0,0)) (by(with_reducible repeat(first|refine blk_drewN ?_ _|refine blk_drew ?_|refine blk_alloc ?_ _));exact BK101.out) hb);have n1_:=Aside0.mk (below_step (by repeat(first|(with_reducible first|exact HB.out|apply below_alloc|apply pw_below_drewN|apply below_drew1|refine below_set ?_ GE101.out)|exact HB.out)) hb);have n2_:=Aside0.mk (hbox);have n3_:=Aside0.mk ((by rw [hg];exact(below_size (by repeat(first|(with_reducible first|exact HB.out|apply below_alloc|apply pw_below_drewN|apply below_drew1|refine below_set ?_ GE101.out)|exact HB.out))):w.heap.size≤gb102));have n4_:=Aside0.mk ((by rw [hg];exact(below_size (by repeat(first|(with_reducible first|exact HB.out|apply below_alloc|apply pw_below_drewN|apply below_drew1|refine below_set ?_ GE101.out)|exact HB.out))):w.heap.size≤gb102));have n5_:=Aside0.mk ((by rw [hg];exact Nat.ne_of_lt (blk_lt (g:=gb101) (o:= .cells #[.slice A0_0 l0_0.length c0_0,.bool a0_1] 31 (0,0)) (by(with_reducible repeat(first|refine blk_drewN ?_ _|refine blk_drew ?_|refine blk_alloc ?_ _));exact BK101.out)):gb101≠gb102));have n6_:=Aside0.mk ((by rw [hg];exact Nat.ne_of_gt (blk_lt (g:=gb101) (o:= .cells #[.slice A0_0 l0_0.length c0_0,.bool a0_1] 31 (0,0)) (by(with_reducible repeat(first|refine blk_drewN ?_ _|refine blk_drew ?_|refine blk_alloc ?_ _));exact BK101.out)):gb102≠gb101));clear BK101;clear HB;have BK101:=n0_;have HB:=n1_;have BK102:=n2_;have GW102:=n3_;have GE102:=n4_;have NB101_102:=n5_;have NB102_101:=n6_;clear n0_ n1_ n2_ n3_ n4_ n5_ n6_;clear hb hbox hg))
 repeat(go_quiet (first|((with_reducible refine gate_dst (N:=2) rfl ?_);(try(refine gate_guard (by rfl) ?_;dsimp only));refine box_event ?hg (N:=2) ?hd (cs:=#[.slice A0_0 l0_0.length c0_0,.bool a0_1]) (t:=31) ?hr ?_;(case hd=>rfl);(case hg=>rfl);(case hr=>first|(go_simp;done)|(go_simp;rfl));intro gb101 hg w4 hbox hb;have n0_:=Aside0.mk (below_step (by repeat(first|(with_reducible first|exact HB.out|apply below_alloc|apply pw_below_drewN|apply below_drew1)|exact HB.out)) hb);have n1_:=Aside0.mk (hbox);have n2_:=Aside0.mk ((by rw [hg];exact(below_size (by repeat(first|(with_reducible first|exact HB.out|apply below_alloc|apply pw_below_drewN|apply below_drew1)|exact HB.out))):w.heap.size≤gb101));have n3_:=Aside0.mk ((by rw [hg];exact(below_size (by repeat(first|(with_reducible first|exact HB.out|apply below_alloc|apply pw_below_drewN|apply below_drew1)|exact HB.out))):w.heap.size≤gb101));clear HB;have HB:=n0_;have BK101:=n1_;have GW101:=n2_;have GE101:=n3_;clear n0_ n1_ n2_ n3_;clear hb hbox hg)|((with_reducible refine gate_dst (N:=3) rfl ?_);(try(refine gate_guard (by rfl) ?_;dsimp only));refine box_event ?hg (N:=3) ?hd (cs:=#[.slice A1_0 l1_0.length c1_0,.bool a1_1]) (t:=31) ?hr ?_;(case hd=>rfl);(case hg=>rfl);(case hr=>first|(go_simp;done)|(go_simp;rfl));intro gb102 hg w5 hbox hb;have n0_:=Aside0.mk (blk_below (g:=gb101) (o:= .cells #[.slice A0_0 l0_0.length c0_0,.bool a0_1] 31 (0,0)) (by(with_reducible repeat(first|refine blk_drewN ?_ _|refine blk_drew ?_|refine blk_alloc ?_ _));exact BK101.out) hb);have n1_:=Aside0.mk (below_step (by repeat(first|(with_reducible first|exact HB.out|apply below_alloc|apply pw_below_drewN|apply below_drew1|refine below_set ?_ GE101.out)|exact HB.out)) hb);have n2_:=Aside0.mk (hbox);have n3_:=Aside0.mk ((by rw [hg];exact(below_size (by repeat(first|(with_reducible first|exact HB.out|apply below_alloc|apply pw_below_drewN|apply below_drew1|refine below_set ?_ GE101.out)|exact HB.out))):w.heap.size≤gb102));have n4_:=Aside0.mk ((by rw [hg];exact(below_size (by repeat(first|(with_reducible first|exact HB.out|apply below_alloc|apply pw_below_drewN|apply below_drew1|refine below_set ?_ GE101.out)|exact HB.out))):w.heap.size≤gb102));have n5_:=Aside0.mk ((by rw [hg];exact Nat.ne_of_lt (blk_lt (g:=gb101) (o:= .cells #[.slice A0_0 l0_0.length c0_0,.bool a0_1] 31 (0,0)) (by(with_reducible repeat(first|refine blk_drewN ?_ _|refine blk_drew ?_|refine blk_alloc ?_ _));exact BK101.out)):gb101≠gb102));have n6_:=Aside0.mk ((by rw [hg];exact Nat.ne_of_gt (blk_lt (g:=gb101) (o:= .cells #[.slice A0_0 l0_0.length c0_0,.bool a0_1] 31 (0,0)) (by(with_reducible repeat(first|refine blk_drewN ?_ _|refine blk_drew ?_|refine blk_alloc ?_ _));exact BK101.out)):gb102≠gb101));clear BK101;clear HB;have BK101:=n0_;have HB:=n1_;have BK102:=n2_;have GW102:=n3_;have GE102:=n4_;have NB101_102:=n5_;have NB102_101:=n6_;clear n0_ n1_ n2_ n3_ n4_ n5_ n6_;clear hb hbox hg));go_upto_region 1 with(first|((with_reducible refine gate_dst (N:=2) rfl ?_);(try(refine gate_guard (by rfl) ?_;dsimp only));refine box_event ?hg (N:=2) ?hd (cs:=#[.slice A0_0 l0_0.length c0_0,.bool a0_1]) (t:=31) ?hr ?_;(case hd=>rfl);(case hg=>rfl);(case hr=>first|(go_simp;done)|(go_simp;rfl));intro gb101 hg w4 hbox hb;have n0_:=Aside0.mk (below_step (by repeat(first|(with_reducible first|exact HB.out|apply below_alloc|apply pw_below_drewN|apply below_drew1)|exact HB.out)) hb);have n1_:=Aside0.mk (hbox);have n2_:=Aside0.mk ((by rw [hg];exact(below_size (by repeat(first|(with_reducible first|exact HB.out|apply below_alloc|apply pw_below_drewN|apply below_drew1)|exact HB.out))):w.heap.size≤gb101));have n3_:=Aside0.mk ((by rw [hg];exact(below_size (by repeat(first|(with_reducible first|exact HB.out|apply below_alloc|apply pw_below_drewN|apply below_drew1)|exact HB.out))):w.heap.size≤gb101));clear HB;have HB:=n0_;have BK101:=n1_;have GW101:=n2_;have GE101:=n3_;clear n0_ n1_ n2_ n3_;clear hb hbox hg)|((with_reducible refine gate_dst (N:=3) rfl ?_);(try(refine gate_guard (by rfl) ?_;dsimp only));refine box_event ?hg (N:=3) ?hd (cs:=#[.slice A1_0 l1_0.length c1_0,.bool a1_1]) (t:=31) ?hr ?_;(case hd=>rfl);(case hg=>rfl);(case hr=>first|(go_simp;done)|(go_simp;rfl));intro gb102 hg w5 hbox hb;have n0_:=Aside0.mk (blk_below (g:=gb101) (o:= .cells #[.slice A0_0 l0_0.length c0_0,.bool a0_1] 31 (0,0)) (by(with_reducible repeat(first|refine blk_drewN ?_ _|refine blk_drew ?_|refine blk_alloc ?_ _));exact BK101.out) hb);have n1_:=Aside0.mk (below_step (by repeat(first|(with_reducible first|exact HB.out|apply below_alloc|apply pw_below_drewN|apply below_drew1|refine below_set ?_ GE101.out)|exact HB.out)) hb);have n2_:=Aside0.mk (hbox);have n3_:=Aside0.mk ((by rw [hg];exact(below_size (by repeat(first|(with_reducible first|exact HB.out|apply below_alloc|apply pw_below_drewN|apply below_drew1|refine below_set ?_ GE101.out)|exact HB.out))):w.heap.size≤gb102));have n4_:=Aside0.mk ((by rw [hg];exact(below_size (by repeat(first|(with_reducible first|exact HB.out|apply below_alloc|apply pw_below_drewN|apply below_drew1|refine below_set ?_ GE101.out)|exact HB.out))):w.heap.size≤gb102));have n5_:=Aside0.mk ((by rw [hg];exact Nat.ne_of_lt (blk_lt (g:=gb101) (o:= .cells #[.slice A0_0 l0_0.length c0_0,.bool a0_1] 31 (0,0)) (by(with_reducible repeat(first|refine blk_drewN ?_ _|refine blk_drew ?_|refine blk_alloc ?_ _));exact BK101.out)):gb101≠gb102));have n6_:=Aside0.mk ((by rw [hg];exact Nat.ne_of_gt (blk_lt (g:=gb101) (o:= .cells #[.slice A0_0 l0_0.length c0_0,.bool a0_1] 31 (0,0)) (by(with_reducible repeat(first|refine blk_drewN ?_ _|refine blk_drew ?_|refine blk_alloc ?_ _));exact BK101.out)):gb102≠gb101));clear BK101;clear HB;have BK101:=n0_;have HB:=n1_;have BK102:=n2_;have GW102:=n3_;have GE102:=n4_;have NB101_102:=n5_;have NB102_101:=n6_;clear n0_ n1_ n2_ n3_ n4_ n5_ n6_;clear hb hbox hg)))
 (try simp only [Act.put,List.setIfInBounds_toArray,List.set_cons_zero,List.set_cons_succ])
 go_cut [19] (fun v19 wc=>∃(kq:Nat) (x19_2:Bool),v19= .bool x19_2∧Aside0 (regletref16_Same.j0 kq x19_2 l0_0 a0_1 l1_0 a1_1=some r)∧Aside0 (kq≤k)∧Aside0 (wc.heap[gb101]?=some (.cells #[(.slice A0_0 l0_0.length c0_0),.bool a0_1] 31 (0,0)))∧Aside0 (wc.heap[gb102]?=some (.cells #[(.slice A1_0 l1_0.length c1_0),.bool a1_1] 31 (0,0)))∧Aside0 (Below w.heap.size w wc))
 case first=>
  have H:=HC3.out
  clear HC3
  by_cases c6:(a0_1 !=a1_1)=true
  ·rw [if_pos c6] at H
   have c6b0:(a0_1 !=a1_1)=true:=c6
   (try(have c6b1:decide (a0_1=a1_1)=false:=by simpa using c6))
   (try(have c6b2:(a0_1==a1_1)=false:=by simpa using c6))
   (try(have c6b3:¬(a0_1=a1_1):=by simpa using c6))
   clear c6
   (first|rw [c6b0]|(simp only [i64_w,i32_w];rw [c6b0])|skip)
   have H':=Aside0.mk H
   clear H
   have hnb7:=NB101_102.out
   have hnc7:=NB102_101.out
   have hcz8_0:w5.cell? ⟨gb101,0,none⟩=some (.slice A0_0 l0_0.length c0_0):=(blk_cell BK101.out 0).trans rfl
   have hcz8_1:w5.cell? ⟨gb101,1,none⟩=some (.bool a0_1):=(blk_cell BK101.out 1).trans rfl
   have hfz8_0:=blk_frozen BK101.out 0
   have hfz8_1:=blk_frozen BK101.out 1
   have hcz9_0:w5.cell? ⟨gb102,0,none⟩=some (.slice A1_0 l1_0.length c1_0):=(blk_cell BK102.out 0).trans rfl
   have hcz9_1:w5.cell? ⟨gb102,1,none⟩=some (.bool a1_1):=(blk_cell BK102.out 1).trans rfl
   have hfz9_0:=blk_frozen BK102.out 0
   have hfz9_1:=blk_frozen BK102.out 1
   go_wp2
   repeat(go_quiet (fail);try go_wp2)
   go_meet
   case rel=>exact⟨_,(true),(by first|rfl|(simp;done)|(simp [*];done)),H',⟨by first|omega|exact Nat.le_refl _⟩,⟨by(with_reducible repeat(first|refine blk_drewN ?_ _|refine blk_drew ?_|refine blk_alloc ?_ _));exact BK101.out⟩,⟨by(with_reducible repeat(first|refine blk_drewN ?_ _|refine blk_drew ?_|refine blk_alloc ?_ _));exact BK102.out⟩,⟨by repeat(first|(with_reducible first|exact HB.out|apply below_alloc|apply pw_below_drewN|apply below_drew1|refine below_set ?_ GE101.out|refine below_set ?_ GE102.out)|exact HB.out)⟩⟩
  ·rw [if_neg c6] at H
   have c6b0:(a0_1 !=a1_1)=false:=by simpa using c6
   (try(have c6b1:decide (a0_1=a1_1)=true:=by simpa using c6))
   (try(have c6b2:(a0_1==a1_1)=true:=by simpa using c6))
   clear c6
   (first|rw [c6b0]|(simp only [i64_w,i32_w];rw [c6b0])|skip)
   have H':=Aside0.mk H
   clear H
   have hnb10:=NB101_102.out
   have hnc10:=NB102_101.out
   have hcz11_0:w5.cell? ⟨gb101,0,none⟩=some (.slice A0_0 l0_0.length c0_0):=(blk_cell BK101.out 0).trans rfl
   have hcz11_1:w5.cell? ⟨gb101,1,none⟩=some (.bool a0_1):=(blk_cell BK101.out 1).trans rfl
   have hfz11_0:=blk_frozen BK101.out 0
   have hfz11_1:=blk_frozen BK101.out 1
   have hcz12_0:w5.cell? ⟨gb102,0,none⟩=some (.slice A1_0 l1_0.length c1_0):=(blk_cell BK102.out 0).trans rfl
   have hcz12_1:w5.cell? ⟨gb102,1,none⟩=some (.bool a1_1):=(blk_cell BK102.out 1).trans rfl
   have hfz12_0:=blk_frozen BK102.out 0
   have hfz12_1:=blk_frozen BK102.out 1
   go_wp2
   repeat(go_quiet (fail);try go_wp2)
   go_meet
   case rel=>exact⟨_,(((l0_0.length:Int) !=(l1_0.length:Int))),(by first|rfl|(simp;done)|(simp [*];done)),H',⟨by first|omega|exact Nat.le_refl _⟩,⟨by(with_reducible repeat(first|refine blk_drewN ?_ _|refine blk_drew ?_|refine blk_alloc ?_ _));exact BK101.out⟩,⟨by(with_reducible repeat(first|refine blk_drewN ?_ _|refine blk_drew ?_|refine blk_alloc ?_ _));exact BK102.out⟩,⟨by repeat(first|(with_reducible first|exact HB.out|apply below_alloc|apply pw_below_drewN|apply below_drew1|refine below_set ?_ GE101.out|refine below_set ?_ GE102.out)|exact HB.out)⟩⟩
 case rest=>
  clear HC3
  (try clear c1);(try clear p2);(try clear c6);(try clear c6b0);(try clear c6b1);(try clear c6b2);(try clear c7);(try clear c10);(try clear hcz11_0);(try clear hcz11_1);(try clear hcz12_0);(try clear hcz12_1);(try clear hcz8_0);(try clear hcz8_1);(try clear hcz9_0);(try clear hcz9_1);(try clear hfz11_0);(try clear hfz11_1);(try clear hfz12_0);(try clear hfz12_1);(try clear hfz8_0);(try clear hfz8_1)
  (try clear hfz9_0);(try clear hfz9_1)
  obtain⟨kq,x19_2,rfl,HA,HJ2,BK101,BK102,HB⟩:=hcut
  cases kq with
  |zero=>exact absurd HA.out (by simp [regletref16_Same.j0])
  |succ kj2=>
   have H:=HA.out
   clear HA
   simp only [regletref16_Same.j0] at H
   by_cases c13:x19_2=true
   ·subst c13
    have H1:(some false)=some r:=by rw [if_pos rfl] at H;exact H
    clear H
    have H:=H1
    clear H1
    obtain rfl:=Option.some.inj H
    go_wp2
    repeat(go_quiet (fail);try go_wp2)
    go_ret
    exact⟨by first|rfl|(simp [errW_none,errW_some]<;>rfl)|(simp [*,errW_none,errW_some]<;>rfl),by repeat(first|(with_reducible first|exact HB.out|apply below_alloc|apply pw_below_drewN|apply below_drew1|refine below_set ?_ GE101.out|refine below_set ?_ GE102.out)|exact HB.out)⟩
   ·replace c13:=Bool.eq_false_iff.mpr c13
    subst c13
    have H1:(regletref16_Same.l0 kj2 0 l0_0 a0_1 l1_0 a1_1)=some r:=by rw [if_neg (show ¬(false=true) by decide)] at H;exact H
    clear H
    have H:=H1
    clear H1
    have H':=Aside0.mk H
    clear H
    go_wp2
    repeat(go_quiet (fail);try go_wp2)
    go_loopg [5] kj2 (fun kq v5 w'=>∃(x5_2:Int),v5= .int .i64 x5_2∧Aside0 (regletref16_Same.l0 kq x5_2 l0_0 a0_1 l1_0 a1_1=some r)∧Aside0 (kq≤kj2)∧Aside0 (w'.heap[gb101]?=some (.cells #[(.slice A0_0 l0_0.length c0_0),.bool a0_1] 31 (0,0)))∧Aside0 (w'.heap[gb102]?=some (.cells #[(.slice A1_0 l1_0.length c1_0),.bool a1_1] 31 (0,0)))∧Aside0 (Below w.heap.size w w'))
    case atStart=>exact⟨(0),(by first|rfl|(simp;done)|(simp [*];done)),H',⟨Nat.le_refl _⟩,⟨by(with_reducible repeat(first|refine blk_drewN ?_ _|refine blk_drew ?_|refine blk_alloc ?_ _));exact BK101.out⟩,⟨by(with_reducible repeat(first|refine blk_drewN ?_ _|refine blk_drew ?_|refine blk_alloc ?_ _));exact BK102.out⟩,⟨by repeat(first|(with_reducible first|exact HB.out|apply below_alloc|apply pw_below_drewN|apply below_drew1|refine below_set ?_ GE101.out|refine below_set ?_ GE102.out)|exact HB.out)⟩⟩
    case round=>
     clear H'
     (try clear c1);(try clear p2);(try clear c6);(try clear c6b0);(try clear c6b1);(try clear c6b2);(try clear c7);(try clear c10);(try clear c13);(try clear hcz11_0);(try clear hcz11_1);(try clear hcz12_0);(try clear hcz12_1);(try clear hcz8_0);(try clear hcz8_1);(try clear hcz9_0);(try clear hcz9_1);(try clear hfz11_0);(try clear hfz11_1);(try clear hfz12_0);(try clear hfz12_1);(try clear hfz8_0);(try clear hfz8_1)
     (try clear hfz9_0);(try clear hfz9_1);(try clear p2)
     obtain⟨x5_2,rfl,HA,HK2,BK101,BK102,HB⟩:=hrel
     cases gk with
     |zero=>exact absurd HA.out (by simp [regletref16_Same.l0])
     |succ k2=>
      have H:=HA.out
      clear HA
      simp only [regletref16_Same.l0] at H
      by_cases c14:x5_2<(l0_0.length:Int)
      ·rw [if_pos c14] at H
       have c14b0:decide (x5_2<(l0_0.length:Int))=true:=decide_eq_true c14
       clear c14
       by_cases c15:0≤x5_2
       rotate_left
       ·rw [if_neg c15] at H
        exact absurd H (by simp)
       rw [if_pos c15] at H
       have c15b0:decide (0≤x5_2)=true:=decide_eq_true c15
       clear c15
       by_cases c16:x5_2<(l1_0.length:Int)
       rotate_left
       ·rw [if_neg c16] at H
        exact absurd H (by simp)
       rw [if_pos c16] at H
       have c16b0:decide (x5_2<(l1_0.length:Int))=true:=decide_eq_true c16
       clear c16
       by_cases c17:(!(((rd_T43 l0_0 x5_2).f0)==((rd_T43 l1_0 x5_2).f0))||(!(((rd_T43 l0_0 x5_2).f1)==((rd_T43 l1_0 x5_2).f1))))=true
       ·rw [if_pos c17] at H
        have c17b0:(!(((rd_T43 l0_0 x5_2).f0)==((rd_T43 l1_0 x5_2).f0))||(!(((rd_T43 l0_0 x5_2).f1)==((rd_T43 l1_0 x5_2).f1))))=true:=c17
        clear c17
        obtain rfl:=Option.some.inj H
        have hnb18:=NB101_102.out
        have hnc18:=NB102_101.out
        have hcz19_0:wr.cell? ⟨gb101,0,none⟩=some (.slice A0_0 l0_0.length c0_0):=(blk_cell BK101.out 0).trans rfl
        have hcz19_1:wr.cell? ⟨gb101,1,none⟩=some (.bool a0_1):=(blk_cell BK101.out 1).trans rfl
        have hfz19_0:=blk_frozen BK101.out 0
        have hfz19_1:=blk_frozen BK101.out 1
        have p103:0≤(x5_2:Int):=of_decide_eq_true (by first|(with_reducible assumption)|assumption)
        have q103:x5_2<(l0_0.length:Int):=of_decide_eq_true (by first|(with_reducible assumption)|assumption)
        obtain⟨ad103,e103,hx103_0,hx103_1⟩:=at_T43 HR0_0.out x5_2 p103 q103
        cases e103
        replace hx103_0:=(HB.out.cell (World.block_lt_of_cell? w _ hx103_0)).trans hx103_0
        replace hx103_1:=(HB.out.cell (World.block_lt_of_cell? w _ hx103_1)).trans hx103_1
        replace p103:=eq_true p103
        replace q103:=eq_true q103
        have hcz20_0:wr.cell? ⟨gb102,0,none⟩=some (.slice A1_0 l1_0.length c1_0):=(blk_cell BK102.out 0).trans rfl
        have hcz20_1:wr.cell? ⟨gb102,1,none⟩=some (.bool a1_1):=(blk_cell BK102.out 1).trans rfl
        have hfz20_0:=blk_frozen BK102.out 0
        have hfz20_1:=blk_frozen BK102.out 1
        have p104:0≤(x5_2:Int):=of_decide_eq_true (by first|(with_reducible assumption)|assumption)
        have q104:x5_2<(l1_0.length:Int):=of_decide_eq_true (by first|(with_reducible assumption)|assumption)
        obtain⟨ad104,e104,hx104_0,hx104_1⟩:=at_T43 HR1_0.out x5_2 p104 q104
        cases e104
        replace hx104_0:=(HB.out.cell (World.block_lt_of_cell? w _ hx104_0)).trans hx104_0
        replace hx104_1:=(HB.out.cell (World.block_lt_of_cell? w _ hx104_1)).trans hx104_1
        replace p104:=eq_true p104
        replace q104:=eq_true q104
        go_wp2
        repeat(go_quiet (fail);try go_wp2)
        go_ret
        exact⟨by first|rfl|(simp [errW_none,errW_some]<;>rfl)|(simp [*,errW_none,errW_some]<;>rfl),by repeat(first|(with_reducible first|exact HB.out|apply below_alloc|apply pw_below_drewN|apply below_drew1|refine below_set ?_ GE101.out|refine below_set ?_ GE102.out)|exact HB.out)⟩
       ·rw [if_neg c17] at H
        have c17b0:(!(((rd_T43 l0_0 x5_2).f0)==((rd_T43 l1_0 x5_2).f0))||(!(((rd_T43 l0_0 x5_2).f1)==((rd_T43 l1_0 x5_2).f1))))=false:=by simpa using c17
        clear c17
        have H':=Aside0.mk H
        clear H
        have hnb21:=NB101_102.out
        have hnc21:=NB102_101.out
        have hcz22_0:wr.cell? ⟨gb101,0,none⟩=some (.slice A0_0 l0_0.length c0_0):=(blk_cell BK101.out 0).trans rfl
        have hcz22_1:wr.cell? ⟨gb101,1,none⟩=some (.bool a0_1):=(blk_cell BK101.out 1).trans rfl
        have hfz22_0:=blk_frozen BK101.out 0
        have hfz22_1:=blk_frozen BK101.out 1
        have p103:0≤(x5_2:Int):=of_decide_eq_true (by first|(with_reducible assumption)|assumption)
        have q103:x5_2<(l0_0.length:Int):=of_decide_eq_true (by first|(with_reducible assumption)|assumption)
        obtain⟨ad103,e103,hx103_0,hx103_1⟩:=at_T43 HR0_0.out x5_2 p103 q103
        cases e103
        replace hx103_0:=(HB.out.cell (World.block_lt_of_cell? w _ hx103_0)).trans hx103_0
        replace hx103_1:=(HB.out.cell (World.block_lt_of_cell? w _ hx103_1)).trans hx103_1
        replace p103:=eq_true p103
        replace q103:=eq_true q103
        have hcz23_0:wr.cell? ⟨gb102,0,none⟩=some (.slice A1_0 l1_0.length c1_0):=(blk_cell BK102.out 0).trans rfl
        have hcz23_1:wr.cell? ⟨gb102,1,none⟩=some (.bool a1_1):=(blk_cell BK102.out 1).trans rfl
        have hfz23_0:=blk_frozen BK102.out 0
        have hfz23_1:=blk_frozen BK102.out 1
        have p104:0≤(x5_2:Int):=of_decide_eq_true (by first|(with_reducible assumption)|assumption)
        have q104:x5_2<(l1_0.length:Int):=of_decide_eq_true (by first|(with_reducible assumption)|assumption)
        obtain⟨ad104,e104,hx104_0,hx104_1⟩:=at_T43 HR1_0.out x5_2 p104 q104
        cases e104
        replace hx104_0:=(HB.out.cell (World.block_lt_of_cell? w _ hx104_0)).trans hx104_0
        replace hx104_1:=(HB.out.cell (World.block_lt_of_cell? w _ hx104_1)).trans hx104_1
        replace p104:=eq_true p104
        replace q104:=eq_true q104
        go_wp2
        repeat(go_quiet (fail);try go_wp2)
        go_roundg k2
        case measure=>have:=HJ2.out;have:=HK2.out;omega
        case rel=>exact⟨(wrap64 (x5_2+1)),(by first|rfl|(simp;done)|(simp [*];done)),H',⟨by have:=HJ2.out;have:=HK2.out;omega⟩,⟨by(with_reducible repeat(first|refine blk_drewN ?_ _|refine blk_drew ?_|refine blk_alloc ?_ _));exact BK101.out⟩,⟨by(with_reducible repeat(first|refine blk_drewN ?_ _|refine blk_drew ?_|refine blk_alloc ?_ _));exact BK102.out⟩,⟨by repeat(first|(with_reducible first|exact HB.out|apply below_alloc|apply pw_below_drewN|apply below_drew1|refine below_set ?_ GE101.out|refine below_set ?_ GE102.out)|exact HB.out)⟩⟩
      ·rw [if_neg c14] at H
       have c14b0:decide (x5_2<(l0_0.length:Int))=false:=decide_eq_false c14
       clear c14
       obtain rfl:=Option.some.inj H
       have hnb24:=NB101_102.out
       have hnc24:=NB102_101.out
       have hcz25_0:wr.cell? ⟨gb101,0,none⟩=some (.slice A0_0 l0_0.length c0_0):=(blk_cell BK101.out 0).trans rfl
       have hcz25_1:wr.cell? ⟨gb101,1,none⟩=some (.bool a0_1):=(blk_cell BK101.out 1).trans rfl
       have hfz25_0:=blk_frozen BK101.out 0
       have hfz25_1:=blk_frozen BK101.out 1
       go_wp2
       repeat(go_quiet (fail);try go_wp2)
       go_ret
       exact⟨by first|rfl|(simp [errW_none,errW_some]<;>rfl)|(simp [*,errW_none,errW_some]<;>rfl),by repeat(first|(with_reducible first|exact HB.out|apply below_alloc|apply pw_below_drewN|apply below_drew1|refine below_set ?_ GE101.out|refine below_set ?_ GE102.out)|exact HB.out)⟩
def machine_Start.f  :Option ((List (S43))×Bool):=some ((([(⟨false,0⟩:S43)]:List (S43))),false)
set_option maxHeartbeats 8000000 in
set_option maxRecDepth 100000 in
theorem machine_Start.calls  (r1:List (S43)) (r2:Bool) (w:World) (h:machine_Start.f  =some (r1,r2)):
 Calls Try.prog 17 #[] w fun e w'=>∃v0_:Value,e= .returned (.agg #[v0_,.bool r2])∧Kd.R k43 43 w' w.heap.size (fun _=>True) v0_ r1∧Below w.heap.size w w':=by
 have hu31:=Try.underlying31
 have hu43:=Try.underlying43
 have HB:=Aside0.mk (Below.refl w.heap.size w)
 have H:(some ((([(⟨false,0⟩:S43)]:List (S43))),false))=some (r1,r2):=h
 clear h
 obtain⟨y106,hy106⟩:∃y_:List (S43),y_=(([(⟨false,0⟩:S43)]:List (S43))):=⟨_,rfl⟩
 replace H:(some (y106,false))=some (r1,r2):=by first|(rw [hy106];with_reducible exact H)|(have H2_:=(Option.bind_some _ _).symm.trans H;rw [hy106];with_reducible exact H2_)|(have H2_:=(Option.bind_some _ _).symm.trans H;with_reducible exact H2_)|with_reducible exact H|(rw [hy106];exact H)|exact H
 have Ny106:=Aside0.mk hy106
 clear hy106
 simp only [Option.some.injEq,Prod.mk.injEq] at H
 obtain⟨rfl,rfl⟩:=H
 go_enter Try.func17,Try.ntmps17
 go_wp2_with (first|((with_reducible refine gate_dst (N:=0) rfl ?_);refine box_event ?hg (N:=0) ?hd (cs:=#[.slice none 0 0,.bool false]) (t:=31) ?hr ?_;(case hd=>rfl);(case hg=>rfl);(case hr=>first|(go_simp;done)|(go_simp;rfl));intro gb105 hg w1 hbox hb;have n0_:=Aside0.mk (below_step (by repeat(first|(with_reducible first|exact HB.out|apply below_alloc|apply pw_below_drewN|apply below_drew1)|exact HB.out)) hb);have n1_:=Aside0.mk (hbox);have n2_:=Aside0.mk ((by rw [hg];exact(below_size (by repeat(first|(with_reducible first|exact HB.out|apply below_alloc|apply pw_below_drewN|apply below_drew1)|exact HB.out))):w.heap.size≤gb105));have n3_:=Aside0.mk ((by rw [hg];exact(below_size (by repeat(first|(with_reducible first|exact HB.out|apply below_alloc|apply pw_below_drewN|apply below_drew1)|exact HB.out))):w.heap.size≤gb105));clear HB;have HB:=n0_;have BK105:=n1_;have GW105:=n2_;have GE105:=n3_;clear n0_ n1_ n2_ n3_;clear hb hbox hg)|((with_reducible refine gate_dst (N:=2) rfl ?_);refine Kd.R_lit k43 _ 43 ?hg (N:=2) ?hd (xs:=([(⟨false,0⟩:S43)]:List (S43))) (inner:= [.bool false,.int .i64 0]) (ok:=fun _=>True) (okp:=fun _=>True) ?hr ?hp (fun _ hk=>hk) trivial (Below.refl _ _) (Nat.le_refl _) (by simp) ?_;(case hd=>rfl);(case hg=>rfl);(case hr=>first|(go_simp;done)|(go_simp;rfl));(case hp=>exact(Reps.c2 (show Kd.M k43 _ _ _ (⟨false,0⟩:S43) [.bool false,.int .i64 0] from(k43_mkM _ _ _ (⟨false,0⟩:S43))) (Reps.none _ _)));intro v107 w2 ho3 hb hg_ hnew_;clear hg_ hnew_;(first|rw [←Ny106.out] at ho3|(simp only [Int.reduceToNat] at ho3;rw [←Ny106.out] at ho3));have n0_:=Aside0.mk (Kd.R_lower ho3 (below_size (by repeat(first|(with_reducible first|exact HB.out|apply below_alloc|apply pw_below_drewN|apply below_drew1|refine below_set ?_ GE105.out)|exact HB.out))));have n1_:=Aside0.mk (blk_below (g:=gb105) (o:= .cells #[.slice none 0 0,.bool false] 31 (0,0)) (by(with_reducible repeat(first|refine blk_drewN ?_ _|refine blk_drew ?_|refine blk_alloc ?_ _));exact BK105.out) hb);have n2_:=Aside0.mk (below_step (by repeat(first|(with_reducible first|exact HB.out|apply below_alloc|apply pw_below_drewN|apply below_drew1|refine below_set ?_ GE105.out)|exact HB.out)) hb);clear BK105;clear HB;have HO108:=n0_;have BK105:=n1_;have HB:=n2_;clear n0_ n1_ n2_;clear hb ho3;obtain⟨Ao4,co4,eo4⟩:=Kd.R_slice HO108.out;subst eo4;have hcz5_0:w2.cell? ⟨gb105,0,none⟩=some (.slice none 0 0):=(blk_cell BK105.out 0).trans rfl;have hcz5_1:w2.cell? ⟨gb105,1,none⟩=some (.bool false):=(blk_cell BK105.out 1).trans rfl;have hfz5_0:=blk_frozen BK105.out 0;have hfz5_1:=blk_frozen BK105.out 1))
 refine bodyPost_ret (results_cell_row rfl _ _ gb105 31 #[.slice Ao4 y106.length co4,.bool false] (0,0) _ rfl (by(with_reducible repeat(first|refine blk_drewN ?_ _|refine blk_drew ?_|refine blk_alloc ?_ _));refine blk_put (cs:=#[.slice Ao4 y106.length co4,.bool false]) ?_ 1 _ rfl;(with_reducible repeat(first|refine blk_drewN ?_ _|refine blk_drew ?_|refine blk_alloc ?_ _));refine blk_put (cs:=#[.slice none 0 0,.bool false]) ?_ 0 _ rfl;(with_reducible repeat(first|refine blk_drewN ?_ _|refine blk_drew ?_|refine blk_alloc ?_ _));exact BK105.out) Try.underlying31 rfl (by kernel_rfl)) rfl ?_
 exact⟨_,by first|rfl|(simp [errW_none,errW_some]<;>rfl)|(simp [*,errW_none,errW_some]<;>rfl),by(with_reducible repeat(first|apply Kd.R_alloc|apply Kd.R_drewN|apply Kd.R_drew));exact Kd.R_mono (Kd.R_far (p:=⟨gb105,1,none⟩) (Kd.R_far (p:=⟨gb105,0,none⟩) (Kd.R_types HO108.out BK105.out (by decide)) (fun _ hk=>hk.2) (.slice Ao4 y106.length co4)) (fun _ hk=>hk.2) (.bool false)) (fun _ hk=>trivial),by repeat(first|(with_reducible first|exact HB.out|apply below_alloc|apply pw_below_drewN|apply below_drew1|refine below_set ?_ GE105.out)|exact HB.out)⟩
def machine_dead.f  :Option ((List (S43))×Bool):=some (([]:List (S43)),true)
set_option maxHeartbeats 8000000 in
set_option maxRecDepth 100000 in
theorem machine_dead.calls  (r1:List (S43)) (r2:Bool) (w:World) (h:machine_dead.f  =some (r1,r2)):
 Calls Try.prog 36 #[] w fun e w'=>∃v0_:Value,e= .returned (.agg #[v0_,.bool r2])∧Kd.R k43 43 w' w.heap.size (fun _=>True) v0_ r1∧Below w.heap.size w w':=by
 have hu31:=Try.underlying31
 have HB:=Aside0.mk (Below.refl w.heap.size w)
 have H:(some (([]:List (S43)),true))=some (r1,r2):=h
 clear h
 simp only [Option.some.injEq,Prod.mk.injEq] at H
 obtain⟨rfl,rfl⟩:=H
 go_enter Try.func36,Try.ntmps36
 go_wp2_with (first|((with_reducible refine gate_dst (N:=0) rfl ?_);refine box_event ?hg (N:=0) ?hd (cs:=#[.slice none 0 0,.bool false]) (t:=31) ?hr ?_;(case hd=>rfl);(case hg=>rfl);(case hr=>first|(go_simp;done)|(go_simp;rfl));intro gb110 hg w1 hbox hb;have n0_:=Aside0.mk (below_step (by repeat(first|(with_reducible first|exact HB.out|apply below_alloc|apply pw_below_drewN|apply below_drew1)|exact HB.out)) hb);have n1_:=Aside0.mk (hbox);have n2_:=Aside0.mk ((by rw [hg];exact(below_size (by repeat(first|(with_reducible first|exact HB.out|apply below_alloc|apply pw_below_drewN|apply below_drew1)|exact HB.out))):w.heap.size≤gb110));have n3_:=Aside0.mk ((by rw [hg];exact(below_size (by repeat(first|(with_reducible first|exact HB.out|apply below_alloc|apply pw_below_drewN|apply below_drew1)|exact HB.out))):w.heap.size≤gb110));clear HB;have HB:=n0_;have BK110:=n1_;have GW110:=n2_;have GE110:=n3_;clear n0_ n1_ n2_ n3_;clear hb hbox hg;have hcz2_0:w1.cell? ⟨gb110,0,none⟩=some (.slice none 0 0):=(blk_cell BK110.out 0).trans rfl;have hcz2_1:w1.cell? ⟨gb110,1,none⟩=some (.bool false):=(blk_cell BK110.out 1).trans rfl;have hfz2_0:=blk_frozen BK110.out 0;have hfz2_1:=blk_frozen BK110.out 1))
 refine bodyPost_ret (results_cell_row rfl _ _ gb110 31 #[.slice none 0 0,.bool true] (0,0) _ rfl (by(with_reducible repeat(first|refine blk_drewN ?_ _|refine blk_drew ?_|refine blk_alloc ?_ _));refine blk_put (cs:=#[.slice none 0 0,.bool false]) ?_ 1 _ rfl;(with_reducible repeat(first|refine blk_drewN ?_ _|refine blk_drew ?_|refine blk_alloc ?_ _));refine blk_put (cs:=#[.slice none 0 0,.bool false]) ?_ 0 _ rfl;(with_reducible repeat(first|refine blk_drewN ?_ _|refine blk_drew ?_|refine blk_alloc ?_ _));exact BK110.out) Try.underlying31 rfl (by kernel_rfl)) rfl ?_
 exact⟨_,by first|rfl|(simp [errW_none,errW_some]<;>rfl)|(simp [*,errW_none,errW_some]<;>rfl),by first|exact Kd.R_nil _ _ _ _ _|exact Kd.N_nil _ _ _ _ _|exact Kd.V_nil _ _ _ _ _|exact Kd.Q_nil _ _ _ _ _|exact Kd.S_nil _ _ _ _ _,by repeat(first|(with_reducible first|exact HB.out|apply below_alloc|apply pw_below_drewN|apply below_drew1|refine below_set ?_ GE110.out)|exact HB.out)⟩
def regletref13_SameInts.l0:Nat→List Int→List Int→Int→Option (Bool)
 |0,_,_,_=>none
 |k+1,x0,x1,x5=>if x5<(x0.length:Int) then(if 0≤x5 then(if x5<(x1.length:Int) then(if(rd x0 x5)=(rd x1 x5) then(regletref13_SameInts.l0 k x0 x1 (wrap64 (x5+1))) else(some false)) else(none)) else(none)) else(some true)
def regletref13_SameInts.f (k:Nat) (l0:List Int) (l1:List Int):Option (Bool):=if(l0.length:Int)=(l1.length:Int) then(regletref13_SameInts.l0 k l0 l1 0) else(some false)
theorem regletref13_SameInts.mono_l:∀k,(∀y0 y1 y2,LeO (regletref13_SameInts.l0 k y0 y1 y2) (regletref13_SameInts.l0 (k+1) y0 y1 y2))
 |0=>fun _ _ _ r h=>by simp [regletref13_SameInts.l0] at h
 |k+1=>by
  have ih0:=regletref13_SameInts.mono_l k
  ·intro y0 y1 y2
   unfold regletref13_SameInts.l0
   repeat' first
   |(with_reducible exact ih0 _ _ _)
   |(with_reducible exact LeO.refl _)
   |(with_reducible exact LeO.none _)
   |(with_reducible refine LeO.ite ?_ ?_)
   |(with_reducible refine LeO.bind ?_ (fun _=>?_))
   |exact ih0 _ _ _
   |exact LeO.none _
   |refine LeO.ite ?_ ?_
   |refine LeO.bind ?_ (fun _=>?_)
theorem regletref13_SameInts.mono:∀a0 a1 k,LeO (regletref13_SameInts.f k a0 a1) (regletref13_SameInts.f (k+1) a0 a1):=by
 intro a0 a1 k
 have ih0:=regletref13_SameInts.mono_l k
 unfold regletref13_SameInts.f
 repeat' first
  |(with_reducible exact ih0 _ _ _)
  |(with_reducible exact LeO.refl _)
  |(with_reducible exact LeO.none _)
  |(with_reducible refine LeO.ite ?_ ?_)
  |(with_reducible refine LeO.bind ?_ (fun _=>?_))
  |exact ih0 _ _ _
  |exact LeO.none _
  |refine LeO.ite ?_ ?_
  |refine LeO.bind ?_ (fun _=>?_)
set_option maxHeartbeats 8000000 in
set_option maxRecDepth 100000 in
theorem regletref13_SameInts.calls (k:Nat) (A0:Option Addr) (c0:Nat) (l0:List Int) (A1:Option Addr) (c1:Nat) (l1:List Int) (r:Bool) (w:World) (hr0:Kd.C (Kd.int .i64) w A0 l0.length l0) (hc0:l0.length≤c0) (hr1:Kd.C (Kd.int .i64) w A1 l1.length l1) (hc1:l1.length≤c1) (h:regletref13_SameInts.f k l0 l1=some r):
 Calls Try.prog 24 #[.slice A0 l0.length c0,.slice A1 l1.length c1] w fun e w'=>e= .returned (.bool r)∧Drawn0 w w':=by
 have HR0:=Aside0.mk hr0
 have HC0:=Aside0.mk hc0
 clear hr0 hc0
 have HR1:=Aside0.mk hr1
 have HC1:=Aside0.mk hc1
 clear hr1 hc1
 have H:(if(l0.length:Int)=(l1.length:Int) then(regletref13_SameInts.l0 k l0 l1 0) else(some false))=some r:=h
 clear h
 by_cases c3:(l0.length:Int)=(l1.length:Int)
 ·rw [if_pos c3] at H
  have c3b0:((l0.length:Int)==(l1.length:Int))=true:=beq_iff_eq.mpr c3
  have c3b1:((l0.length:Int) !=(l1.length:Int))=false:=bne_eq_false_iff_eq.mpr c3
  have c3b2:(l0.length==l1.length)=true:=by first|simpa using c3|(simp at c3 ⊢;omega)
  clear c3
  have H':=Aside0.mk H
  clear H
  go_enter Try.func24,Try.ntmps24
  go_wp2
  repeat(go_quiet (fail);try go_wp2)
  go_loopg [5] k (fun kq v5 w'=>∃(x5_1:Int),v5= .int .i64 x5_1∧Aside0 (regletref13_SameInts.l0 kq l0 l1 x5_1=some r)∧Aside0 (kq≤k)∧Drawn0 w w')
  case atStart=>exact⟨(0),(by first|rfl|(simp;done)|(simp [*];done)),H',⟨Nat.le_refl _⟩,by repeat(first|exact Drawn0.refl _|apply Drawn0.step)⟩
  case round=>
   clear H'
   (try clear c1);(try clear c2);(try clear p2);(try clear c3);(try clear c3b0);(try clear c3b1);(try clear c3b2)
   obtain⟨x5_1,rfl,HA,HK1,⟨m1,rfl⟩⟩:=hrel
   cases gk with
   |zero=>exact absurd HA.out (by simp [regletref13_SameInts.l0])
   |succ k1=>
    have H:=HA.out
    clear HA
    simp only [regletref13_SameInts.l0] at H
    by_cases c4:x5_1<(l0.length:Int)
    ·rw [if_pos c4] at H
     have c4b0:decide (x5_1<(l0.length:Int))=true:=decide_eq_true c4
     clear c4
     by_cases c5:0≤x5_1
     rotate_left
     ·rw [if_neg c5] at H
      exact absurd H (by simp)
     rw [if_pos c5] at H
     have c5b0:decide (0≤x5_1)=true:=decide_eq_true c5
     clear c5
     by_cases c6:x5_1<(l1.length:Int)
     rotate_left
     ·rw [if_neg c6] at H
      exact absurd H (by simp)
     rw [if_pos c6] at H
     have c6b0:decide (x5_1<(l1.length:Int))=true:=decide_eq_true c6
     clear c6
     by_cases c7:(rd l0 x5_1)=(rd l1 x5_1)
     ·rw [if_pos c7] at H
      have c7b0:((rd l0 x5_1)==(rd l1 x5_1))=true:=beq_iff_eq.mpr c7
      have c7b1:((rd l0 x5_1) !=(rd l1 x5_1))=false:=bne_eq_false_iff_eq.mpr c7
      clear c7
      have H':=Aside0.mk H
      clear H
      have p143:0≤(x5_1:Int):=of_decide_eq_true (by first|(with_reducible assumption)|assumption)
      have q143:x5_1<(l0.length:Int):=of_decide_eq_true (by first|(with_reducible assumption)|assumption)
      obtain⟨ad143,e143,hx143_0⟩:=Kd.at_int HR0.out x5_1 p143 q143
      cases e143
      replace p143:=eq_true p143
      replace q143:=eq_true q143
      have p144:0≤(x5_1:Int):=of_decide_eq_true (by first|(with_reducible assumption)|assumption)
      have q144:x5_1<(l1.length:Int):=of_decide_eq_true (by first|(with_reducible assumption)|assumption)
      obtain⟨ad144,e144,hx144_0⟩:=Kd.at_int HR1.out x5_1 p144 q144
      cases e144
      replace p144:=eq_true p144
      replace q144:=eq_true q144
      go_wp2
      repeat(go_quiet (fail);try go_wp2)
      go_roundg k1
      case measure=>have:=HK1.out;omega
      case rel=>exact⟨(wrap64 (x5_1+1)),(by first|rfl|(simp;done)|(simp [*];done)),H',⟨by have:=HK1.out;omega⟩,by repeat(first|exact Drawn0.refl _|apply Drawn0.step)⟩
     ·rw [if_neg c7] at H
      have c7b0:((rd l0 x5_1)==(rd l1 x5_1))=false:=beq_eq_false_iff_ne.mpr c7
      have c7b1:((rd l0 x5_1) !=(rd l1 x5_1))=true:=bne_iff_ne.mpr c7
      obtain rfl:=Option.some.inj H
      have p143:0≤(x5_1:Int):=of_decide_eq_true (by first|(with_reducible assumption)|assumption)
      have q143:x5_1<(l0.length:Int):=of_decide_eq_true (by first|(with_reducible assumption)|assumption)
      obtain⟨ad143,e143,hx143_0⟩:=Kd.at_int HR0.out x5_1 p143 q143
      cases e143
      replace p143:=eq_true p143
      replace q143:=eq_true q143
      have p144:0≤(x5_1:Int):=of_decide_eq_true (by first|(with_reducible assumption)|assumption)
      have q144:x5_1<(l1.length:Int):=of_decide_eq_true (by first|(with_reducible assumption)|assumption)
      obtain⟨ad144,e144,hx144_0⟩:=Kd.at_int HR1.out x5_1 p144 q144
      cases e144
      replace p144:=eq_true p144
      replace q144:=eq_true q144
      go_wp2
      repeat(go_quiet (fail);try go_wp2)
      go_ret
      exact⟨by first|rfl|(simp;done)|(simp [*];done),by repeat(first|exact Drawn0.refl _|apply Drawn0.step)⟩
    ·rw [if_neg c4] at H
     have c4b0:decide (x5_1<(l0.length:Int))=false:=decide_eq_false c4
     clear c4
     obtain rfl:=Option.some.inj H
     go_wp2
     repeat(go_quiet (fail);try go_wp2)
     go_ret
     exact⟨by first|rfl|(simp;done)|(simp [*];done),by repeat(first|exact Drawn0.refl _|apply Drawn0.step)⟩
 ·rw [if_neg c3] at H
  have c3b0:((l0.length:Int)==(l1.length:Int))=false:=beq_eq_false_iff_ne.mpr c3
  have c3b1:((l0.length:Int) !=(l1.length:Int))=true:=bne_iff_ne.mpr c3
  have c3b2:(l0.length==l1.length)=false:=by first|simpa using c3|(simp at c3 ⊢;omega)
  obtain rfl:=Option.some.inj H
  go_enter Try.func24,Try.ntmps24
  go_wp2
  repeat(go_quiet (fail);try go_wp2)
  go_ret
  exact⟨by first|rfl|(simp;done)|(simp [*];done),by repeat(first|exact Drawn0.refl _|apply Drawn0.step)⟩
attribute [local go_sem] max2_int min2_int max_two min_two max_three min_three max_four min_four   -- for this text's walks alone
set_option linter.unusedVariables false
set_option linter.unusedSimpArgs false
def regletref13_list.l0:Nat→List Bool→List Int→Int→Option (List Int)
 |0,_,_,_=>none
 |k+1,x0,x3,x4=>if x4<(x0.length:Int) then(if 0≤x4 then(if rdOf false x0 x4=true then(if x3.length<17592186044416 then(regletref13_list.l0 k x0 (x3++ [x4]) (wrap64 (x4+1))) else(none)) else(regletref13_list.l0 k x0 x3 (wrap64 (x4+1)))) else(none)) else(some x3)
def regletref13_list.f (k:Nat) (l0:List Bool):Option (List Int):=regletref13_list.l0 k l0 ([]:List Int) 0
set_option maxHeartbeats 8000000 in
set_option maxRecDepth 100000 in
theorem regletref13_list.calls (k:Nat) (A0:Option Addr) (c0:Nat) (l0:List Bool) (r:List Int) (w:World) (hr0:Kd.C Kd.bool w A0 l0.length l0) (hc0:l0.length≤c0) (h:regletref13_list.f k l0=some r):
 Calls Try.prog 49 #[.slice A0 l0.length c0] w fun e w'=>∃v0_:Value,e= .returned (v0_)∧Kd.R (Kd.int .i64) 3 w' w.heap.size (fun _=>True) v0_ r∧Below w.heap.size w w':=by
 have HR0:=Aside0.mk hr0
 have HC0:=Aside0.mk hc0
 clear hr0 hc0
 have HB:=Aside0.mk (Below.refl w.heap.size w)
 have H:(regletref13_list.l0 k l0 ([]:List Int) 0)=some r:=h
 clear h
 have H':=Aside0.mk H
 clear H
 go_enter Try.func49,Try.ntmps49
 go_wp2
 go_loopg [3,4] k (fun kq v3 v4 w'=>∃(x3_1:List Int) (x4_1:Int),v4= .int .i64 x4_1∧Aside0 (regletref13_list.l0 kq l0 x3_1 x4_1=some r)∧Aside0 (kq≤k)∧Aside0 (Kd.R (Kd.int .i64) 3 w' w.heap.size (fun _=>True) v3 x3_1)∧Aside0 (Below w.heap.size w w'))
 case atStart=>exact⟨(([]:List Int)),(0),(by first|rfl|(simp;done)|(simp [*];done)),H',⟨Nat.le_refl _⟩,⟨by first|exact Kd.R_nil _ _ _ _ _|exact Kd.N_nil _ _ _ _ _|exact Kd.V_nil _ _ _ _ _|exact Kd.Q_nil _ _ _ _ _|exact Kd.S_nil _ _ _ _ _⟩,⟨by repeat(first|(with_reducible first|exact HB.out|apply below_alloc|apply pw_below_drewN|apply below_drew1)|exact HB.out)⟩⟩
 case round=>
  clear H'
  obtain⟨x3_1,x4_1,rfl,HA,HK1,HO_3,HB⟩:=hrel
  cases gk with
  |zero=>exact absurd HA.out (by simp [regletref13_list.l0])
  |succ k1=>
   have H:=HA.out
   clear HA
   simp only [regletref13_list.l0] at H
   by_cases c2:x4_1<(l0.length:Int)
   ·rw [if_pos c2] at H
    have c2b0:decide (x4_1<(l0.length:Int))=true:=decide_eq_true c2
    clear c2
    by_cases c3:0≤x4_1
    rotate_left
    ·rw [if_neg c3] at H
     exact absurd H (by simp)
    rw [if_pos c3] at H
    have c3b0:decide (0≤x4_1)=true:=decide_eq_true c3
    clear c3
    obtain⟨bq4,hbq4⟩:∃b_:Bool,b_=(rdOf false l0 x4_1):=⟨_,rfl⟩
    replace H:(if bq4=true then(if x3_1.length<17592186044416 then(regletref13_list.l0 k1 l0 (x3_1++ [x4_1]) (wrap64 (x4_1+1))) else(none)) else(regletref13_list.l0 k1 l0 x3_1 (wrap64 (x4_1+1))))=some r:=by rw [←hbq4] at H;exact H
    have Nbq4:=Aside0.mk hbq4
    clear hbq4
    by_cases c5:bq4=true
    ·subst c5
     have H1:(if x3_1.length<17592186044416 then(regletref13_list.l0 k1 l0 (x3_1++ [x4_1]) (wrap64 (x4_1+1))) else(none))=some r:=by rw [if_pos rfl] at H;exact H
     clear H
     have H:=H1
     clear H1
     by_cases c6:x3_1.length<17592186044416
     rotate_left
     ·rw [if_neg c6] at H
      exact absurd H (by simp)
     rw [if_pos c6] at H
     have LMc6:=Aside0.mk c6
     clear c6
     obtain⟨y385,hy385⟩:∃y_:List Int,y_=(x3_1++ [x4_1]):=⟨_,rfl⟩
     replace H:(regletref13_list.l0 k1 l0 y385 (wrap64 (x4_1+1)))=some r:=by first|(rw [hy385];with_reducible exact H)|(have H2_:=(Option.bind_some _ _).symm.trans H;rw [hy385];with_reducible exact H2_)|(have H2_:=(Option.bind_some _ _).symm.trans H;with_reducible exact H2_)|with_reducible exact H|(rw [hy385];exact H)|exact H
     have Ny385:=Aside0.mk hy385
     clear hy385
     have H':=Aside0.mk H
     clear H
     have p384:0≤(x4_1:Int):=of_decide_eq_true (by first|(with_reducible assumption)|assumption)
     have q384:x4_1<(l0.length:Int):=of_decide_eq_true (by first|(with_reducible assumption)|assumption)
     obtain⟨ad384,e384,hx384_0⟩:=Kd.at_bool HR0.out x4_1 p384 q384
     (try rw [←Nbq4.out] at hx384_0)
     cases e384
     replace hx384_0:=(HB.out.cell (World.block_lt_of_cell? w _ hx384_0)).trans hx384_0
     replace p384:=eq_true p384
     replace q384:=eq_true q384
     go_wp2_with (first|((with_reducible refine gate_builtin (b:= .append) (xs:=#[.tmp 15,.tmp 17]) rfl ?_);at_builtin;refine Kd.R_append (Kd.int .i64) (w0:=w) w.heap.size rfl (.tmp 15) (.tmp 17) 32 3 (.int .i64 0) 8 rfl Try.underlying32 info3 rfl (by decide) (by omega) u3 x3_1 x4_1 [.int .i64 x4_1] (fun _=>True) (fun _=>False) rfl rfl ?aP (fun _ hk=>hk.elim) ?aF ?aO ?aB ?aS ?aL ?_;(case aP=>exact rfl);(case aB=>exact(by repeat(first|(with_reducible first|exact HB.out|apply below_alloc|apply pw_below_drewN|apply below_drew1)|exact HB.out)));(case aF=>exact(fun _ _=>trivial));(case aO=>exact(by(with_reducible repeat(first|apply Kd.R_alloc|apply Kd.R_drewN|apply Kd.R_drew));exact HO_3.out));(case aS=>exact(below_size (by repeat(first|(with_reducible first|exact HB.out|apply below_alloc|apply pw_below_drewN|apply below_drew1)|exact HB.out))));(case aL=>have:=LMc6.out;omega);intro v386 w7 ho hb hg hat;rw [←Ny385.out] at ho;have n0_:=Aside0.mk (hb);have n1_:=Aside0.mk (ho);clear HB;clear HO_3;have HB:=n0_;have HO387:=n1_;clear n0_ n1_;clear ho hb hg hat))
     go_roundg k1
     case measure=>have:=HK1.out;omega
     case rel=>exact⟨(y385),(wrap64 (x4_1+1)),(by first|rfl|(simp;done)|(simp [*];done)),H',⟨by have:=HK1.out;omega⟩,⟨by(with_reducible repeat(first|apply Kd.R_alloc|apply Kd.R_drewN|apply Kd.R_drew));exact HO387.out⟩,⟨by repeat(first|(with_reducible first|exact HB.out|apply below_alloc|apply pw_below_drewN|apply below_drew1)|exact HB.out)⟩⟩
    ·replace c5:=Bool.eq_false_iff.mpr c5
     subst c5
     have H1:(regletref13_list.l0 k1 l0 x3_1 (wrap64 (x4_1+1)))=some r:=by rw [if_neg (show ¬(false=true) by decide)] at H;exact H
     clear H
     have H:=H1
     clear H1
     have H':=Aside0.mk H
     clear H
     have p384:0≤(x4_1:Int):=of_decide_eq_true (by first|(with_reducible assumption)|assumption)
     have q384:x4_1<(l0.length:Int):=of_decide_eq_true (by first|(with_reducible assumption)|assumption)
     obtain⟨ad384,e384,hx384_0⟩:=Kd.at_bool HR0.out x4_1 p384 q384
     (try rw [←Nbq4.out] at hx384_0)
     cases e384
     replace hx384_0:=(HB.out.cell (World.block_lt_of_cell? w _ hx384_0)).trans hx384_0
     replace p384:=eq_true p384
     replace q384:=eq_true q384
     go_wp2
     go_roundg k1
     case measure=>have:=HK1.out;omega
     case rel=>exact⟨(x3_1),(wrap64 (x4_1+1)),(by first|rfl|(simp;done)|(simp [*];done)),H',⟨by have:=HK1.out;omega⟩,⟨by(with_reducible repeat(first|apply Kd.R_alloc|apply Kd.R_drewN|apply Kd.R_drew));exact HO_3.out⟩,⟨by repeat(first|(with_reducible first|exact HB.out|apply below_alloc|apply pw_below_drewN|apply below_drew1)|exact HB.out)⟩⟩
   ·rw [if_neg c2] at H
    have c2b0:decide (x4_1<(l0.length:Int))=false:=decide_eq_false c2
    clear c2
    obtain rfl:=Option.some.inj H
    go_wp2
    go_ret
    exact⟨_,by first|rfl|(simp [errW_none,errW_some]<;>rfl)|(simp [*,errW_none,errW_some]<;>rfl),by(with_reducible repeat(first|apply Kd.R_alloc|apply Kd.R_drewN|apply Kd.R_drew));exact HO_3.out,by repeat(first|(with_reducible first|exact HB.out|apply below_alloc|apply pw_below_drewN|apply below_drew1)|exact HB.out)⟩
def regletref13_lists.l0:Nat→List (List Bool)→List (List Int)→Int→Option ((List (List Int)))
 |0,_,_,_=>none
 |k+1,x0,x3,x4=>if x4<(x0.length:Int) then(if 0≤x4 then((regletref13_list.f k (rd_L17 x0 x4)).bind fun t389=>(if x3.length<5864062014805 then(regletref13_lists.l0 k x0 (x3++ [t389]) (wrap64 (x4+1))) else(none))) else(none)) else(some x3)
def regletref13_lists.f (k:Nat) (l0:List (List Bool)):Option ((List (List Int))):=regletref13_lists.l0 k l0 ([]:List (List Int)) 0
set_option maxHeartbeats 8000000 in
set_option maxRecDepth 100000 in
theorem regletref13_lists.calls (k:Nat) (A0:Option Addr) (c0:Nat) (l0:List (List Bool)) (r:List (List Int)) (w:World) (hr0:Kd.C (Kd.slice 4 Kd.bool) w A0 l0.length l0) (hc0:l0.length≤c0) (h:regletref13_lists.f k l0=some r):
 Calls Try.prog 48 #[.slice A0 l0.length c0] w fun e w'=>∃v0_:Value,e= .returned (v0_)∧Kd.S (Kd.slice 3 (Kd.int .i64)) 32 w' w.heap.size (fun _=>True) v0_ r∧Below w.heap.size w w':=by
 have HR0:=Aside0.mk hr0
 have HC0:=Aside0.mk hc0
 clear hr0 hc0
 have HB:=Aside0.mk (Below.refl w.heap.size w)
 have H:(regletref13_lists.l0 k l0 ([]:List (List Int)) 0)=some r:=h
 clear h
 have H':=Aside0.mk H
 clear H
 go_enter Try.func48,Try.ntmps48
 go_wp2
 go_loopg [3,4] k (fun kq v3 v4 w'=>∃(x3_1:List (List Int)) (x4_1:Int),v4= .int .i64 x4_1∧Aside0 (regletref13_lists.l0 kq l0 x3_1 x4_1=some r)∧Aside0 (kq≤k)∧Aside0 (Kd.S (Kd.slice 3 (Kd.int .i64)) 32 w' w.heap.size (fun _=>True) v3 x3_1)∧Aside0 (Below w.heap.size w w'))
 case atStart=>exact⟨(([]:List (List Int))),(0),(by first|rfl|(simp;done)|(simp [*];done)),H',⟨Nat.le_refl _⟩,⟨by first|exact Kd.S_nil _ _ _ _ _|exact Kd.N_nil _ _ _ _ _|exact Kd.V_nil _ _ _ _ _|exact Kd.Q_nil _ _ _ _ _|exact Kd.R_nil _ _ _ _ _⟩,⟨by repeat(first|(with_reducible first|exact HB.out|apply below_alloc|apply pw_below_drewN|apply below_drew1)|exact HB.out)⟩⟩
 case round=>
  clear H'
  obtain⟨x3_1,x4_1,rfl,HA,HK1,HO_3,HB⟩:=hrel
  cases gk with
  |zero=>exact absurd HA.out (by simp [regletref13_lists.l0])
  |succ k1=>
   have H:=HA.out
   clear HA
   simp only [regletref13_lists.l0] at H
   by_cases c2:x4_1<(l0.length:Int)
   ·rw [if_pos c2] at H
    have c2b0:decide (x4_1<(l0.length:Int))=true:=decide_eq_true c2
    clear c2
    by_cases c3:0≤x4_1
    rotate_left
    ·rw [if_neg c3] at H
     exact absurd H (by simp)
    rw [if_pos c3] at H
    have c3b0:decide (0≤x4_1)=true:=decide_eq_true c3
    clear c3
    replace H:=Option.bind_eq_some_iff.mp H
    obtain⟨t389,A40,H⟩:=H
    replace H:(if x3_1.length<5864062014805 then(regletref13_lists.l0 k1 l0 (x3_1++ [t389]) (wrap64 (x4_1+1))) else(none))=some r:=H
    have A4:=Aside0.mk A40
    clear A40
    by_cases c5:x3_1.length<5864062014805
    rotate_left
    ·rw [if_neg c5] at H
     exact absurd H (by simp)
    rw [if_pos c5] at H
    have LMc5:=Aside0.mk c5
    clear c5
    obtain⟨y392,hy392⟩:∃y_:List (List Int),y_=(x3_1++ [t389]):=⟨_,rfl⟩
    replace H:(regletref13_lists.l0 k1 l0 y392 (wrap64 (x4_1+1)))=some r:=by first|(rw [hy392];with_reducible exact H)|(have H2_:=(Option.bind_some _ _).symm.trans H;rw [hy392];with_reducible exact H2_)|(have H2_:=(Option.bind_some _ _).symm.trans H;with_reducible exact H2_)|with_reducible exact H|(rw [hy392];exact H)|exact H
    have Ny392:=Aside0.mk hy392
    clear hy392
    have H':=Aside0.mk H
    clear H
    have p388:0≤(x4_1:Int):=of_decide_eq_true (by first|(with_reducible assumption)|assumption)
    have q388:x4_1<(l0.length:Int):=of_decide_eq_true (by first|(with_reducible assumption)|assumption)
    obtain⟨ad388,A388_0,c388_0,e388,hx388_0,hl388_0,hi388_0⟩:=at_L17 HR0.out x4_1 p388 q388
    cases e388
    replace hx388_0:=(HB.out.cell (World.block_lt_of_cell? w _ hx388_0)).trans hx388_0
    have HR388_0:=Aside0.mk hi388_0
    have HC388_0:=Aside0.mk hl388_0
    clear hi388_0 hl388_0
    replace p388:=eq_true p388
    replace q388:=eq_true q388
    go_wp2_with (first|((with_reducible refine gate_callee (f:=49) rfl ?_);refine goesL_ (some 16) rfl rfl Try.func49 (by kernel_rfl) rfl #[.slice A388_0 (rd_L17 l0 x4_1).length c388_0] rfl (by(try simp only [List.map_toArray,List.map_cons,List.map_nil]);first|done|rfl|(simp only [List.length_drop,List.length_take];rfl)) ?_;(with_reducible refine(regletref13_list.calls k1 _ _ (rd_L17 l0 x4_1) t389 _ ?side1 ?side2 A4.out).mono ?_);(case side1=>repeat(first|exact(Kd.C_below HR388_0.out HB.out)|(with_reducible refine Kd.C_alloc ?_ _)|(with_reducible refine Kd.C_drewN ?_ _)|(with_reducible refine Kd.C_drew ?_)));(case side2=>exact HC388_0.out);rintro e w6 ⟨v390,rfl,ho0,hb⟩;refine⟨_,rfl,?_⟩;have n0_:=Aside0.mk (Kd.S_elder' (by(with_reducible repeat(first|apply Kd.S_alloc|apply Kd.S_drewN|apply Kd.S_drew));exact HO_3.out) (Kd.R_base ho0) hb);have n1_:=Aside0.mk (Kd.R_lower ho0 (below_size (by repeat(first|(with_reducible first|exact HB.out|apply below_alloc|apply pw_below_drewN|apply below_drew1)|exact HB.out))));have n2_:=Aside0.mk (below_step (by repeat(first|(with_reducible first|exact HB.out|apply below_alloc|apply pw_below_drewN|apply below_drew1)|exact HB.out)) hb);clear HO_3;clear HB;have HO_3:=n0_;have HO391:=n1_;have HB:=n2_;clear n0_ n1_ n2_;(try clear hb);(try clear hb2);(try clear hk);(try clear hi);(try clear ho0);obtain⟨Ao8,co8,eo8⟩:=Kd.R_slice HO391.out;subst eo8)|((with_reducible refine gate_builtin (b:= .append) (xs:=#[.tmp 11,.tmp 17]) rfl ?_);at_builtin;refine Kd.S_append (Kd.slice 3 (Kd.int .i64)) (w0:=w) w.heap.size rfl (.tmp 11) (.tmp 17) 27 32 (.slice none 0 0) 24 rfl Try.underlying27 info32 rfl (by decide) (by omega) u3 x3_1 t389 [.slice Ao8 t389.length co8] (fun _=>True) (fun k_=>some k_=(.slice Ao8 t389.length co8:Value).ownBlock) rfl rfl ?aP (fun k_ hk_=>((Kd.R_mono (ok':=fun k_=>((fun _=>True)) k_∧some k_≠(u3:Value).ownBlock) (Kd.R_apart' (HO391.out) (Kd.S_typed HO_3.out) (by decide)) (fun k_ hk=>⟨trivial,hk.2⟩))).1 k_ hk_.symm) ?aF ?aO ?aB ?aS ?aL ?_;(case aP=>exact Kd.M_row (Kd.R_mono (Kd.R_tight rfl (Kd.R_mono (ok':=fun k_=>((fun _=>True)) k_∧some k_≠(u3:Value).ownBlock) (Kd.R_apart' (HO391.out) (Kd.S_typed HO_3.out) (by decide)) (fun k_ hk=>⟨trivial,hk.2⟩))) (fun _ h_=>h_)));(case aB=>exact(by repeat(first|(with_reducible first|exact HB.out|apply below_alloc|apply pw_below_drewN|apply below_drew1)|exact HB.out)));(case aF=>exact(fun _ _=>trivial));(case aO=>exact(by(with_reducible repeat(first|apply Kd.S_alloc|apply Kd.S_drewN|apply Kd.S_drew));exact Kd.S_mono HO_3.out (fun k_ hk=>⟨trivial,fun e_=>hk.2 e_⟩)));(case aS=>exact(below_size (by repeat(first|(with_reducible first|exact HB.out|apply below_alloc|apply pw_below_drewN|apply below_drew1)|exact HB.out))));(case aL=>have:=LMc5.out;omega);intro v393 w7 ho hb hg hat;rw [←Ny392.out] at ho;have n0_:=Aside0.mk (hb);have n1_:=Aside0.mk (ho);clear HB;clear HO_3;clear HO391;have HB:=n0_;have HO394:=n1_;clear n0_ n1_;clear ho hb hg hat))
    go_roundg k1
    case measure=>have:=HK1.out;omega
    case rel=>exact⟨(y392),(wrap64 (x4_1+1)),(by first|rfl|(simp;done)|(simp [*];done)),H',⟨by have:=HK1.out;omega⟩,⟨by(with_reducible repeat(first|apply Kd.S_alloc|apply Kd.S_drewN|apply Kd.S_drew));exact HO394.out⟩,⟨by repeat(first|(with_reducible first|exact HB.out|apply below_alloc|apply pw_below_drewN|apply below_drew1)|exact HB.out)⟩⟩
   ·rw [if_neg c2] at H
    have c2b0:decide (x4_1<(l0.length:Int))=false:=decide_eq_false c2
    clear c2
    obtain rfl:=Option.some.inj H
    go_wp2
    go_ret
    exact⟨_,by first|rfl|(simp [errW_none,errW_some]<;>rfl)|(simp [*,errW_none,errW_some]<;>rfl),by(with_reducible repeat(first|apply Kd.S_alloc|apply Kd.S_drewN|apply Kd.S_drew));exact HO_3.out,by repeat(first|(with_reducible first|exact HB.out|apply below_alloc|apply pw_below_drewN|apply below_drew1)|exact HB.out)⟩
def regletref14_has.l0:Nat→List Int→Int→Int→Option (Bool)
 |0,_,_,_=>none
 |k+1,x0,x1,x5=>if x5<(x0.length:Int) then(if 0≤x5 then(if(rd x0 x5)=x1 then(some true) else(regletref14_has.l0 k x0 x1 (wrap64 (x5+1)))) else(none)) else(some false)
def regletref14_has.f (k:Nat) (l0:List Int) (a1:Int):Option (Bool):=regletref14_has.l0 k l0 a1 0
set_option maxHeartbeats 8000000 in
set_option maxRecDepth 100000 in
theorem regletref14_has.calls (k:Nat) (A0:Option Addr) (c0:Nat) (l0:List Int) (a1:Int) (r:Bool) (w:World) (hr0:Kd.C (Kd.int .i64) w A0 l0.length l0) (hc0:l0.length≤c0) (h:regletref14_has.f k l0 a1=some r):
 Calls Try.prog 33 #[.slice A0 l0.length c0,.int .i64 a1] w fun e w'=>e= .returned (.bool r)∧Drawn0 w w':=by
 have HR0:=Aside0.mk hr0
 have HC0:=Aside0.mk hc0
 clear hr0 hc0
 have H:(regletref14_has.l0 k l0 a1 0)=some r:=h
 clear h
 have H':=Aside0.mk H
 clear H
 go_enter Try.func33,Try.ntmps33
 go_wp2
 go_loopg [5] k (fun kq v5 w'=>∃(x5_1:Int),v5= .int .i64 x5_1∧Aside0 (regletref14_has.l0 kq l0 a1 x5_1=some r)∧Aside0 (kq≤k)∧Drawn0 w w')
 case atStart=>exact⟨(0),(by first|rfl|(simp;done)|(simp [*];done)),H',⟨Nat.le_refl _⟩,by repeat(first|exact Drawn0.refl _|apply Drawn0.step)⟩
 case round=>
  clear H'
  (try clear p2)
  obtain⟨x5_1,rfl,HA,HK1,⟨m1,rfl⟩⟩:=hrel
  cases gk with
  |zero=>exact absurd HA.out (by simp [regletref14_has.l0])
  |succ k1=>
   have H:=HA.out
   clear HA
   simp only [regletref14_has.l0] at H
   by_cases c3:x5_1<(l0.length:Int)
   ·rw [if_pos c3] at H
    have c3b0:decide (x5_1<(l0.length:Int))=true:=decide_eq_true c3
    clear c3
    by_cases c4:0≤x5_1
    rotate_left
    ·rw [if_neg c4] at H
     exact absurd H (by simp)
    rw [if_pos c4] at H
    have c4b0:decide (0≤x5_1)=true:=decide_eq_true c4
    clear c4
    by_cases c5:(rd l0 x5_1)=a1
    ·rw [if_pos c5] at H
     have c5b0:((rd l0 x5_1)==a1)=true:=beq_iff_eq.mpr c5
     have c5b1:((rd l0 x5_1) !=a1)=false:=bne_eq_false_iff_eq.mpr c5
     clear c5
     obtain rfl:=Option.some.inj H
     have p395:0≤(x5_1:Int):=of_decide_eq_true (by first|(with_reducible assumption)|assumption)
     have q395:x5_1<(l0.length:Int):=of_decide_eq_true (by first|(with_reducible assumption)|assumption)
     obtain⟨ad395,e395,hx395_0⟩:=Kd.at_int HR0.out x5_1 p395 q395
     cases e395
     replace p395:=eq_true p395
     replace q395:=eq_true q395
     go_wp2
     go_ret
     exact⟨by first|rfl|(simp;done)|(simp [*];done),by repeat(first|exact Drawn0.refl _|apply Drawn0.step)⟩
    ·rw [if_neg c5] at H
     have c5b0:((rd l0 x5_1)==a1)=false:=beq_eq_false_iff_ne.mpr c5
     have c5b1:((rd l0 x5_1) !=a1)=true:=bne_iff_ne.mpr c5
     have H':=Aside0.mk H
     clear H
     have p395:0≤(x5_1:Int):=of_decide_eq_true (by first|(with_reducible assumption)|assumption)
     have q395:x5_1<(l0.length:Int):=of_decide_eq_true (by first|(with_reducible assumption)|assumption)
     obtain⟨ad395,e395,hx395_0⟩:=Kd.at_int HR0.out x5_1 p395 q395
     cases e395
     replace p395:=eq_true p395
     replace q395:=eq_true q395
     go_wp2
     go_roundg k1
     case measure=>have:=HK1.out;omega
     case rel=>exact⟨(wrap64 (x5_1+1)),(by first|rfl|(simp;done)|(simp [*];done)),H',⟨by have:=HK1.out;omega⟩,by repeat(first|exact Drawn0.refl _|apply Drawn0.step)⟩
   ·rw [if_neg c3] at H
    have c3b0:decide (x5_1<(l0.length:Int))=false:=decide_eq_false c3
    clear c3
    obtain rfl:=Option.some.inj H
    go_wp2
    go_ret
    exact⟨by first|rfl|(simp;done)|(simp [*];done),by repeat(first|exact Drawn0.refl _|apply Drawn0.step)⟩
def regletlaw16_tokens.l0:Nat→List Int→Int→List Int→Int→Option (List Int)
 |0,_,_,_,_=>none
 |k+1,x0,x1,x5,x6=>if x6<(x0.length:Int) then(if x6<10 then(if 0≤x6 then(if x1=0 then(none) else(if x5.length<17592186044416 then(regletlaw16_tokens.l0 k x0 x1 (x5++ [Int.tmod (wrap64 (rd x0 x6)) x1]) (wrap64 (x6+1))) else(none))) else(none)) else(some x5)) else(some x5)
def regletlaw16_tokens.f (k:Nat) (l0:List Int) (a1:Int):Option (List Int):=regletlaw16_tokens.l0 k l0 a1 ([]:List Int) 0
set_option maxHeartbeats 8000000 in
set_option maxRecDepth 100000 in
theorem regletlaw16_tokens.calls (k:Nat) (A0:Option Addr) (c0:Nat) (l0:List Int) (a1:Int) (r:List Int) (w:World) (hr0:Kd.C (Kd.int .u8) w A0 l0.length l0) (hc0:l0.length≤c0) (h:regletlaw16_tokens.f k l0 a1=some r):
 Calls Try.prog 15 #[.slice A0 l0.length c0,.int .i64 a1] w fun e w'=>∃v0_:Value,e= .returned (v0_)∧Kd.R (Kd.int .i64) 3 w' w.heap.size (fun _=>True) v0_ r∧Below w.heap.size w w':=by
 have HR0:=Aside0.mk hr0
 have HC0:=Aside0.mk hc0
 clear hr0 hc0
 have HB:=Aside0.mk (Below.refl w.heap.size w)
 have H:(regletlaw16_tokens.l0 k l0 a1 ([]:List Int) 0)=some r:=h
 clear h
 have H':=Aside0.mk H
 clear H
 go_enter Try.func15,Try.ntmps15
 go_wp2
 go_loopg [5,6] k (fun kq v5 v6 w'=>∃(x5_1:List Int) (x6_1:Int),v6= .int .i64 x6_1∧Aside0 (regletlaw16_tokens.l0 kq l0 a1 x5_1 x6_1=some r)∧Aside0 (kq≤k)∧Aside0 (Kd.R (Kd.int .i64) 3 w' w.heap.size (fun _=>True) v5 x5_1)∧Aside0 (Below w.heap.size w w'))
 case atStart=>exact⟨(([]:List Int)),(0),(by first|rfl|(simp;done)|(simp [*];done)),H',⟨Nat.le_refl _⟩,⟨by first|exact Kd.R_nil _ _ _ _ _|exact Kd.N_nil _ _ _ _ _|exact Kd.V_nil _ _ _ _ _|exact Kd.Q_nil _ _ _ _ _|exact Kd.S_nil _ _ _ _ _⟩,⟨by repeat(first|(with_reducible first|exact HB.out|apply below_alloc|apply pw_below_drewN|apply below_drew1)|exact HB.out)⟩⟩
 case round=>
  clear H'
  (try clear c1);(try clear p2)
  obtain⟨x5_1,x6_1,rfl,HA,HK1,HO_5,HB⟩:=hrel
  cases gk with
  |zero=>exact absurd HA.out (by simp [regletlaw16_tokens.l0])
  |succ k1=>
   have H:=HA.out
   clear HA
   simp only [regletlaw16_tokens.l0] at H
   by_cases c3:x6_1<(l0.length:Int)
   ·rw [if_pos c3] at H
    have c3b0:decide (x6_1<(l0.length:Int))=true:=decide_eq_true c3
    clear c3
    by_cases c4:x6_1<10
    ·rw [if_pos c4] at H
     have c4b0:decide (x6_1<10)=true:=decide_eq_true c4
     clear c4
     by_cases c5:0≤x6_1
     rotate_left
     ·rw [if_neg c5] at H
      exact absurd H (by simp)
     rw [if_pos c5] at H
     have c5b0:decide (0≤x6_1)=true:=decide_eq_true c5
     clear c5
     by_cases c6:a1=0
     ·rw [if_pos c6] at H
      exact absurd H (by simp)
     rw [if_neg c6] at H
     have c6b0:(a1==0)=false:=beq_eq_false_iff_ne.mpr c6
     have c6b1:(a1 !=0)=true:=bne_iff_ne.mpr c6
     by_cases c7:x5_1.length<17592186044416
     rotate_left
     ·rw [if_neg c7] at H
      exact absurd H (by simp)
     rw [if_pos c7] at H
     have LMc7:=Aside0.mk c7
     clear c7
     obtain⟨y442,hy442⟩:∃y_:List Int,y_=(x5_1++ [Int.tmod (wrap64 (rd l0 x6_1)) a1]):=⟨_,rfl⟩
     replace H:(regletlaw16_tokens.l0 k1 l0 a1 y442 (wrap64 (x6_1+1)))=some r:=by first|(rw [hy442];with_reducible exact H)|(have H2_:=(Option.bind_some _ _).symm.trans H;rw [hy442];with_reducible exact H2_)|(have H2_:=(Option.bind_some _ _).symm.trans H;with_reducible exact H2_)|with_reducible exact H|(rw [hy442];exact H)|exact H
     have Ny442:=Aside0.mk hy442
     clear hy442
     have H':=Aside0.mk H
     clear H
     have p441:0≤(x6_1:Int):=of_decide_eq_true (by first|(with_reducible assumption)|assumption)
     have q441:x6_1<(l0.length:Int):=of_decide_eq_true (by first|(with_reducible assumption)|assumption)
     obtain⟨ad441,e441,hx441_0⟩:=Kd.at_int HR0.out x6_1 p441 q441
     cases e441
     replace hx441_0:=(HB.out.cell (World.block_lt_of_cell? w _ hx441_0)).trans hx441_0
     replace p441:=eq_true p441
     replace q441:=eq_true q441
     go_wp2_with (first|((with_reducible refine gate_builtin (b:= .append) (xs:=#[.tmp 17,.tmp 25]) rfl ?_);at_builtin;refine Kd.R_append (Kd.int .i64) (w0:=w) w.heap.size rfl (.tmp 17) (.tmp 25) 32 3 (.int .i64 0) 8 rfl Try.underlying32 info3 rfl (by decide) (by omega) u5 x5_1 (Int.tmod (wrap64 (rd l0 x6_1)) a1) [.int .i64 (Int.tmod (wrap64 (rd l0 x6_1)) a1)] (fun _=>True) (fun _=>False) rfl rfl ?aP (fun _ hk=>hk.elim) ?aF ?aO ?aB ?aS ?aL ?_;(case aP=>exact rfl);(case aB=>exact(by repeat(first|(with_reducible first|exact HB.out|apply below_alloc|apply pw_below_drewN|apply below_drew1)|exact HB.out)));(case aF=>exact(fun _ _=>trivial));(case aO=>exact(by(with_reducible repeat(first|apply Kd.R_alloc|apply Kd.R_drewN|apply Kd.R_drew));exact HO_5.out));(case aS=>exact(below_size (by repeat(first|(with_reducible first|exact HB.out|apply below_alloc|apply pw_below_drewN|apply below_drew1)|exact HB.out))));(case aL=>have:=LMc7.out;omega);intro v443 w8 ho hb hg hat;rw [←Ny442.out] at ho;have n0_:=Aside0.mk (hb);have n1_:=Aside0.mk (ho);clear HB;clear HO_5;have HB:=n0_;have HO444:=n1_;clear n0_ n1_;clear ho hb hg hat))
     go_roundg k1
     case measure=>have:=HK1.out;omega
     case rel=>exact⟨(y442),(wrap64 (x6_1+1)),(by first|rfl|(simp;done)|(simp [*];done)),H',⟨by have:=HK1.out;omega⟩,⟨by(with_reducible repeat(first|apply Kd.R_alloc|apply Kd.R_drewN|apply Kd.R_drew));exact HO444.out⟩,⟨by repeat(first|(with_reducible first|exact HB.out|apply below_alloc|apply pw_below_drewN|apply below_drew1)|exact HB.out)⟩⟩
    ·rw [if_neg c4] at H
     have c4b0:decide (x6_1<10)=false:=decide_eq_false c4
     clear c4
     obtain rfl:=Option.some.inj H
     go_wp2
     go_ret
     exact⟨_,by first|rfl|(simp [errW_none,errW_some]<;>rfl)|(simp [*,errW_none,errW_some]<;>rfl),by(with_reducible repeat(first|apply Kd.R_alloc|apply Kd.R_drewN|apply Kd.R_drew));exact HO_5.out,by repeat(first|(with_reducible first|exact HB.out|apply below_alloc|apply pw_below_drewN|apply below_drew1)|exact HB.out)⟩
   ·rw [if_neg c3] at H
    have c3b0:decide (x6_1<(l0.length:Int))=false:=decide_eq_false c3
    clear c3
    obtain rfl:=Option.some.inj H
    go_wp2
    go_ret
    exact⟨_,by first|rfl|(simp [errW_none,errW_some]<;>rfl)|(simp [*,errW_none,errW_some]<;>rfl),by(with_reducible repeat(first|apply Kd.R_alloc|apply Kd.R_drewN|apply Kd.R_drew));exact HO_5.out,by repeat(first|(with_reducible first|exact HB.out|apply below_alloc|apply pw_below_drewN|apply below_drew1)|exact HB.out)⟩
end Go.Proofs.Ytapjfnfengefpaa.P
end

section
namespace Go.Proofs.Ytapjfnfengefpaa.H
open Go.RowKit Go.Proofs.YtapjfnfengefpaaW.PrintWords Go.Proofs.YtapjfnfengefpaaW.PrintLast Go.Proofs.YtapjfnfengefpaaW.PrintMore
theorem Ev.pos {α:Type}{c:Prop} [Decidable c] {f g:Nat→Option α}{r:α}(h:c) (k:Ev f r):Ev (fun n=>if c then f n else g n) r:=
 Ev.congr (fun _=>if_pos h) k
theorem Ev.neg {α:Type}{c:Prop} [Decidable c] {f g:Nat→Option α}{r:α}(h:¬c) (k:Ev g r):Ev (fun n=>if c then f n else g n) r:=
 Ev.congr (fun _=>if_neg h) k
theorem Ev.some {α:Type}{r s:α}(h:r=s):Ev (fun _=>Option.some r) s:=h ▸ Ev.now r
theorem Ev.some' {α:Type}{g:Option α}{r:α}(h:g=Option.some r):Ev (fun _=>g) r:=⟨0,fun _ _=>h⟩
theorem Ev.bind0 {α β:Type}{g:Option α}{f:Nat→α→Option β}{a:α}{r:β}(h:g=Option.some a) (k:Ev (fun n=>f n a) r):Ev (fun n=>g.bind (f n)) r:=
 Ev.congr (fun _=>by rw [h];rfl) k
theorem Ev.val {α:Type}{g:Nat→Option α}{r s:α}(h:Ev g r) (e:r=s):Ev g s:=e ▸ h
theorem wrap64_id {x:Int}(h0: -9223372036854775808≤x) (h1:x≤9223372036854775807):wrap64 x=x:=by
 unfold wrap64;omega
theorem wf_u8 {x:Int}(h:(Lit.int .u8 x).wf=true):0≤x∧x≤255:=by
 simp [Lit.wf,IntKind.min,IntKind.max,IntKind.bits,IntKind.signed] at h;omega
end Go.Proofs.Ytapjfnfengefpaa.H
end

section
namespace Go.Proofs.Ytapjfnfengefpaa.P
open Go.RowKit Go.Proofs.YtapjfnfengefpaaW.PrintWords Go.Proofs.YtapjfnfengefpaaW.PrintLast Go.Proofs.YtapjfnfengefpaaW.PrintMore
set_option linter.unusedVariables false
set_option linter.unusedSimpArgs false
abbrev T:Bool:=true
abbrev F:Bool:=false
theorem pq:(∀(a:Act) (d:Option Tmp) (v:Value),a.put d v=match d with|none=>a|some i=>{a with tmps:=a.tmps.setIfInBounds i v})∧(∀(l:List Value) (i:Nat) (a:Value),l.toArray.setIfInBounds i a=(l.set i a).toArray)∧(∀(x:Value) (l:List Value) (a:Value),(x::l).set 0 a=a::l)∧(∀(x:Value) (l:List Value) (n:Nat) (a:Value),(x::l).set (n+1) a=x::l.set n a)∧(∀n,IntKind.i64.wrap n=wrap64 n)∧∀n,IntKind.i32.wrap n=wrap32 n:=⟨fun _ d _=>by cases d<;>rfl,fun _ _ _=>List.setIfInBounds_toArray ..,fun _ _ _=>rfl,fun _ _ _ _=>rfl,i64_w,i32_w⟩
abbrev aM:=@Aside0.mk
abbrev aA:=@Kd.R_alloc
abbrev aB:=@Kd.R_drewN
abbrev aC:=@Kd.R_drew
abbrev aD:=@Kd.R_below
abbrev aE:=@Kd.R_far
abbrev aF:=@Kd.R_reads'
abbrev aG:=@blk_cell
abbrev aH:=@blk_frozen
abbrev aI:=@blk_alloc
abbrev aJ:=@blk_drewN
abbrev aK:=@blk_drew
abbrev aL:=@below_set
abbrev aN:=@below_alloc
abbrev aO:=@below_drew1
abbrev aP:=@pw_below_drewN
abbrev aT:=@Kd.N_reads'
abbrev aV:=@Kd.S_drewN
abbrev aW:=@Kd.S_drew
abbrev aY:=@Kd.N_drewN
abbrev aZ:=@Kd.N_drew
abbrev bC:=@Kd.C_drew
abbrev bD:=@Kd.C_below
abbrev bE:=@Kd.R_elder'
abbrev bF:=@blk_below
abbrev bG:=@below_step
abbrev bH:=@below_size
abbrev bI:=@gate_callee
abbrev bJ:=@gate_dst
abbrev bL:=@Kd.R_lower
abbrev bN:=@blk_lt
def mPick (l:List Int) (at_:Nat) (n:Int):Int:=if l.length<at_+1 then 0 else Int.tmod (l.getD at_ 0) n
theorem wrap_u8 {x:Int}(h0:0≤x) (h1:x≤255):IntKind.i64.wrap x=x:=by rw [IntKind.wrap_i64];omega
theorem wrap_tmod {x n:Int}(h0:0≤x) (h1:x≤255):IntKind.i64.wrap (x.tmod n)=x.tmod n:=by
 have h2:0≤x.tmod n:=Int.tmod_nonneg n h0
 have h3:x.tmod n≤x:=by
  obtain⟨a,rfl⟩:=Int.eq_ofNat_of_zero_le h0
  rcases Int.lt_or_le n 0 with hn|hn
  ·obtain⟨b,hb⟩:=Int.eq_ofNat_of_zero_le (show 0≤ -n by omega)
   have:(a:Int).tmod n=(a:Int).tmod b:=by rw [show n= -(b:Int) by omega,Int.tmod_neg]
   rw [this,←Int.ofNat_tmod]
   exact_mod_cast Nat.mod_le a b
  ·obtain⟨b,rfl⟩:=Int.eq_ofNat_of_zero_le hn
   rw [←Int.ofNat_tmod]
   exact_mod_cast Nat.mod_le a b
 rw [IntKind.wrap_i64];omega
set_option maxHeartbeats 1000000 in
theorem pick_any (l:List Int) (A0:Option Addr) (c0 at_:Nat) (n:Int) (LB AB:Nat) (W:World) (hne:LB≠AB) (hl:W.cell? ⟨LB,0,none⟩=some (.slice A0 l.length c0)) (hab:W.heap[AB]?=some (.cells #[.int .i64 (at_:Int)] 3 (0,0)))
 (hr:∀W',Kept W W' (fun k=>k=AB)→Kd.C (Kd.int .u8) W' A0 l.length l) (hn:n≠0) (hat:at_<1000000) (hu:∀x∈l,0≤x∧x≤255):
 Calls Try.prog 29 #[.int .i64 n,.pointer (some ⟨AB,0,none⟩),.pointer (some ⟨LB,0,none⟩)] W fun e w'=>e= .returned (.int .i64 (mPick l at_ n))∧Aside0 (Kept W w' (fun k=>k=AB))∧Aside0 (w'.heap[AB]?=some (.cells #[.int .i64 ((at_+1:Nat):Int)] 3 (0,0)))∧Aside0 (Below AB W w'):=by
 have ha:W.cell? ⟨AB,0,none⟩=some (.int .i64 (at_:Int)):=(aG hab 0).trans rfl
 have hf:=aH hab 0
 have HA3:=aM (blk_put hab 0 (.int .i64 ((at_:Int)+1)) (cs':=#[.int .i64 ((at_+1:Nat):Int)]) rfl)
 have hK:=Kept.setCell (Kept.refl W (fun k=>k=AB)) (p:=⟨AB,0,none⟩) (.inl rfl) (.int .i64 ((at_:Int)+1))
 have hw1:IntKind.i64.wrap ((at_:Int)+1)=(at_:Int)+1:=by rw [IntKind.wrap_i64];omega
 have hw2:IntKind.i64.wrap ((at_:Int)+1 - 1)=(at_:Int):=by rw [IntKind.wrap_i64];omega
 have hl2:(W.setCell ⟨AB,0,none⟩ (.int .i64 ((at_:Int)+1))).cell? ⟨LB,0,none⟩=some (.slice A0 l.length c0):=Go.Proofs.YtapjfnfengefpaaW.PrintWords.cell_kept hl hK hne
 have ha2:(W.setCell ⟨AB,0,none⟩ (.int .i64 ((at_:Int)+1))).cell? ⟨AB,0,none⟩=some (.int .i64 ((at_:Int)+1)):=World.cell?_setCell_same' _ _ _ (by rw [ha];rfl)
 have HB:Aside0 (Below AB W (W.setCell ⟨AB,0,none⟩ (.int .i64 ((at_:Int)+1)))):=⟨(Below.refl AB W).setCell (Nat.le_refl _) _⟩
 have HK:=aM hK
 have HU:=aM hu
 have HR:=aM hr
 clear hK hu hr hab
 by_cases hlt:l.length<at_+1
 ·have e:mPick l at_ n=0:=if_pos hlt
  rw [e]
  have d0:decide ((at_:Int)+1>(l.length:Int))=true:=decide_eq_true (by omega)
  clear hlt e
  go_enter Try.func29,Try.ntmps29
  go_wp2
  go_ret
  exact⟨rfl,HK,HA3,HB⟩
 ·have e:mPick l at_ n=Int.tmod (l.getD at_ 0) n:=if_neg hlt
  rw [e]
  have d0:decide ((at_:Int)+1>(l.length:Int))=false:=decide_eq_false (by omega)
  obtain⟨ad,ead,hc⟩:=Kd.at_int (HR.out _ HK.out) (at_:Int) (by omega) (by omega)
  cases ead
  have p0:(0≤(at_:Int))=True:=eq_true (by omega)
  have p1:((at_:Int)<(l.length:Int))=True:=eq_true (by omega)
  have hx:=HU.out (l.getD at_ 0) (by rw [List.getD_eq_getElem?_getD,List.getElem?_eq_getElem (by omega)];exact List.getElem_mem _)
  have hx0:rd l (at_:Int)=l.getD at_ 0:=rfl
  rw [hx0] at hc
  generalize l.getD at_ 0=x at hc hx
  have hw3:=wrap_u8 hx.1 hx.2
  have hw4:=wrap_tmod (n:=n) hx.1 hx.2
  rw [Int.toNat_natCast] at hc
  clear hx hx0 hlt e
  go_enter Try.func29,Try.ntmps29
  go_wp2
  go_ret
  exact⟨rfl,HK,HA3,HB⟩
theorem mPick_lt {l:List Int}(hu:∀x∈l,0≤x∧x≤255) (at_:Nat) {n:Int}(hn:0<n):0≤mPick l at_ n∧mPick l at_ n<n:=by
 unfold mPick
 split
 ·omega
 ·have hx:=hu (l.getD at_ 0) (by rw [List.getD_eq_getElem?_getD,List.getElem?_eq_getElem (by omega)];exact List.getElem_mem _)
  exact⟨Int.tmod_nonneg n hx.1,Int.tmod_lt_of_pos _ hn⟩
def mRight (l:List Int) (n t:Int):Nat→Nat→List S43→List S43×Nat
 |0,at_,acc=>(acc,at_)
 |c+1,at_,acc=>mRight l n t c (at_+2) (acc++ [if mPick l at_ 2=0 then⟨true,mPick l (at_+1) t⟩ else⟨false,mPick l (at_+1) n⟩])
def mProds (l:List Int) (n t:Int):Nat→Nat→List S35→List S35
 |0,_,acc=>acc
 |i+1,at_,acc=>mProds l n t i (mRight l n t (mPick l (at_+1) 4).toNat (at_+2) []).2 (acc++ [⟨mPick l at_ n,(mRight l n t (mPick l (at_+1) 4).toNat (at_+2) []).1⟩])
def mNames:List ByteArray:= [⟨#[97]⟩,⟨#[98]⟩,⟨#[99]⟩,⟨#[100]⟩,⟨#[101]⟩]
def mTexts:List ByteArray:= [⟨#[120]⟩,⟨#[121]⟩,⟨#[122]⟩,⟨#[119]⟩]
def mTok (s:ByteArray):S72:=⟨⟨#[]⟩,⟨5,s,[],0,0,[]⟩⟩
def regletlaw13_Made.f (k:Nat) (l:List Int):Option (List ByteArray×List S72×Int×Int×List S35):=
 if l.all (fun x=>decide (0≤x∧x≤255))=true then some (mNames.take (1+mPick l 0 5).toNat,(mTexts.map mTok).take (1+mPick l 1 4).toNat,0,0,mProds l (1+mPick l 0 5) (1+mPick l 1 4) (1+mPick l 2 10).toNat 3 []) else none
structure MadeI (w:World) (A0:Option Addr) (n0 c0:Nat) (at_:Nat) (vn vt vp:Value) (W:World):Prop where
 bel:Below w.heap.size w W
 l:W.heap[w.heap.size]?=some (.cells #[.slice A0 n0 c0] 39 (0,0))
 r:W.heap[w.heap.size+1]?=some (.cells #[.slice none 0 0,.slice none 0 0,.int .i64 0,.int .i64 0,.slice none 0 0] 26 (0,0))
 s:W.heap[w.heap.size+2]?=some (.cells #[vn,vt,.int .i64 0,.int .i64 0,vp] 26 (0,0))
 a:W.heap[w.heap.size+3]?=some (.cells #[.int .i64 (at_:Int)] 3 (0,0))
theorem MadeI.pick {w W W':World}{A0:Option Addr}{n0 c0 at_:Nat}{vn vt vp:Value}(h:MadeI w A0 n0 c0 at_ vn vt vp W) (hk:Kept W W' (fun k=>k=w.heap.size+3)) (ha:W'.heap[w.heap.size+3]?=some (.cells #[.int .i64 ((at_+1:Nat):Int)] 3 (0,0))) (hb:Below (w.heap.size+3) W W'):MadeI w A0 n0 c0 (at_+1) vn vt vp W':=
 ⟨h.bel.trans (hb.mono (by omega)),blk_kept h.l hk (by simp),blk_kept h.r hk (by simp),blk_kept h.s hk (by simp),ha⟩
theorem MadeI.calls {w W:World}{A0:Option Addr}{l:List Int}{c0 at_:Nat}{vn vt vp:Value}(h:MadeI w A0 l.length c0 at_ vn vt vp W) (hr:Kd.C (Kd.int .u8) w A0 l.length l) (n:Int) (hn:n≠0) (hat:at_<1000000) (hu:∀x∈l,0≤x∧x≤255):
 Calls Try.prog 29 #[.int .i64 n,.pointer (some ⟨w.heap.size+3,0,none⟩),.pointer (some ⟨w.heap.size,0,none⟩)] W fun e w'=>e= .returned (.int .i64 (mPick l at_ n))∧Aside0 (MadeI w A0 l.length c0 (at_+1) vn vt vp w')∧Aside0 (Kept W w' (fun k=>k=w.heap.size+3)):=by
 refine(pick_any l A0 c0 at_ n w.heap.size (w.heap.size+3) W (by omega) ((aG h.l 0).trans rfl) h.a (fun W' hk=>?_) hn hat hu).mono ?_
 ·refine Kd.C_kept_came (Kd.heap_int _) hr h.bel (S:=fun k=>k=w.heap.size+3) (fun k hk=>by omega) W' hk
 ·rintro e w' ⟨rfl,hk,ha,hb⟩
  exact⟨rfl,⟨h.pick hk.out ha.out hb.out⟩,hk⟩
theorem miStr:(Try.prog.info? 9).map (fun i=>(i.zero,i.size,i.bytes))=some (some (.string ⟨#[]⟩),1,16):=by kernel_rfl
theorem miSym:(Try.prog.info? 43).map (fun i=>(i.zero,i.size,i.bytes))=some (some (.agg #[.bool false,.int .i64 0]),2,16):=by kernel_rfl
theorem miTok:(Try.prog.info? 72).map (fun i=>(i.zero,i.size,i.bytes))=some (some (.agg #[.string ⟨#[]⟩,.int .i64 0,.string ⟨#[]⟩,.slice none 0 0,.int .i64 0,.int .i64 0,.slice none 0 0]),7,104):=by kernel_rfl
theorem miProd:(Try.prog.info? 35).map (fun i=>(i.zero,i.size,i.bytes))=some (some (.agg #[.int .i64 0,.slice none 0 0]),2,32):=by kernel_rfl
section
variable {w W W':World}{A0:Option Addr}{n0 c0 at_:Nat}{vn vt vp:Value}
theorem MadeI.below (h:MadeI w A0 n0 c0 at_ vn vt vp W) (hb:Below W.heap.size W W'):MadeI w A0 n0 c0 at_ vn vt vp W':=
 ⟨h.bel.trans (hb.mono h.bel.size),(hb.block _ (bN h.l)).trans h.l,(hb.block _ (bN h.r)).trans h.r,(hb.block _ (bN h.s)).trans h.s,(hb.block _ (bN h.a)).trans h.a⟩
theorem MadeI.below4 (h:MadeI w A0 n0 c0 at_ vn vt vp W) (hb:Below (w.heap.size+4) W W'):MadeI w A0 n0 c0 at_ vn vt vp W':=
 ⟨h.bel.trans (hb.mono (by omega)),(hb.block _ (by omega)).trans h.l,(hb.block _ (by omega)).trans h.r,(hb.block _ (by omega)).trans h.s,(hb.block _ (by omega)).trans h.a⟩
theorem MadeI.size (h:MadeI w A0 n0 c0 at_ vn vt vp W):w.heap.size+4≤W.heap.size:=bN h.a
theorem MadeI.put0 (h:MadeI w A0 n0 c0 at_ vn vt vp W) (v:Value):MadeI w A0 n0 c0 at_ v vt vp (W.setCell ⟨w.heap.size+2,0,none⟩ v):=
 ⟨aL h.bel (by simp),blk_far h.l (by simp) _,blk_far h.r (by simp) _,blk_put h.s 0 v rfl,blk_far h.a (by simp) _⟩
theorem MadeI.put1 (h:MadeI w A0 n0 c0 at_ vn vt vp W) (v:Value):MadeI w A0 n0 c0 at_ vn v vp (W.setCell ⟨w.heap.size+2,1,none⟩ v):=
 ⟨aL h.bel (by simp),blk_far h.l (by simp) _,blk_far h.r (by simp) _,blk_put h.s 1 v rfl,blk_far h.a (by simp) _⟩
theorem MadeI.put4 (h:MadeI w A0 n0 c0 at_ vn vt vp W) (v:Value):MadeI w A0 n0 c0 at_ vn vt v (W.setCell ⟨w.heap.size+2,4,none⟩ v):=
 ⟨aL h.bel (by simp),blk_far h.l (by simp) _,blk_far h.r (by simp) _,blk_put h.s 4 v rfl,blk_far h.a (by simp) _⟩
end
theorem set5_kept (W:World) (g:Nat) (v0 v1 v2 v3 v4:Value):Kept W (((((W.setCell ⟨g,0,none⟩ v0).setCell ⟨g,1,none⟩ v1).setCell ⟨g,2,none⟩ v2).setCell ⟨g,3,none⟩ v3).setCell ⟨g,4,none⟩ v4) (fun k=>k=g):=by
 have h0:=Kept.setCell (Kept.refl W (fun k=>k=g)) (p:=⟨g,0,none⟩) (.inl rfl) v0
 have h1:=Kept.setCell h0 (p:=⟨g,1,none⟩) (.inl rfl) v1
 have h2:=Kept.setCell h1 (p:=⟨g,2,none⟩) (.inl rfl) v2
 have h3:=Kept.setCell h2 (p:=⟨g,3,none⟩) (.inl rfl) v3
 exact Kept.setCell h3 (p:=⟨g,4,none⟩) (.inl rfl) v4
theorem set5_below {w W:World}{g:Nat}(h:Below w.heap.size w W) (hg:w.heap.size≤g) (v0 v1 v2 v3 v4:Value):Below w.heap.size w (((((W.setCell ⟨g,0,none⟩ v0).setCell ⟨g,1,none⟩ v1).setCell ⟨g,2,none⟩ v2).setCell ⟨g,3,none⟩ v3).setCell ⟨g,4,none⟩ v4):=by
 have h0:=aL (j:=0) (v:=v0) h hg
 have h1:=aL (j:=1) (v:=v1) h0 hg
 have h2:=aL (j:=2) (v:=v2) h1 hg
 have h3:=aL (j:=3) (v:=v3) h2 hg
 exact aL (j:=4) (v:=v4) h3 hg
theorem name_at (i:Nat) (h:i<5):([Value.string ⟨#[97]⟩,Value.string ⟨#[98]⟩,Value.string ⟨#[99]⟩,Value.string ⟨#[100]⟩,Value.string ⟨#[101]⟩]:List Value)[i]?=some (.string (mNames.getD i ⟨#[]⟩)):=by
 match i,h with
 |0,_=>rfl
 |1,_=>rfl
 |2,_=>rfl
 |3,_=>rfl
 |4,_=>rfl
theorem text_at (i:Nat) (h:i<4):([Value.string ⟨#[120]⟩,Value.string ⟨#[121]⟩,Value.string ⟨#[122]⟩,Value.string ⟨#[119]⟩]:List Value)[i]?=some (.string (mTexts.getD i ⟨#[]⟩)):=by
 match i,h with
 |0,_=>rfl
 |1,_=>rfl
 |2,_=>rfl
 |3,_=>rfl
theorem take_next {α:Type}(xs:List α) (d:α) (i:Nat) (h:i<xs.length):xs.take i++ [xs.getD i d]=xs.take (i+1):=by
 rw [List.take_add_one,List.getD_eq_getElem?_getD,List.getElem?_eq_getElem h];rfl
set_option maxHeartbeats 4000000 in
set_option maxRecDepth 100000 in
theorem regletlaw13_Made.calls (k:Nat) (A0:Option Addr) (c0:Nat) (l0:List Int) (r1:List ByteArray) (r2:List S72) (r3 r4:Int) (r5:List S35) (w:World) (hr0:Kd.C (Kd.int .u8) w A0 l0.length l0) (hc0:l0.length≤c0) (h:regletlaw13_Made.f k l0=some (r1,r2,r3,r4,r5)):
 Calls Try.prog 13 #[.slice A0 l0.length c0] w fun e w'=>∃v0_ v1_ v2_:Value,e= .returned (.agg #[v0_,v1_,.int .i64 r3,.int .i64 r4,v2_])∧Kd.R Kd.string 9 w' w.heap.size (fun _=>True) v0_ r1∧Kd.R k72 72 w' w.heap.size (fun _=>True) v1_ r2∧Kd.S k35 35 w' w.heap.size (fun _=>True) v2_ r5∧Below w.heap.size w w':=by
 unfold regletlaw13_Made.f at h
 split at h
 case isFalse=>simp at h
 rename_i hall
 have hu:∀x∈l0,0≤x∧x≤255:=fun x hx=>of_decide_eq_true (List.all_eq_true.1 hall x hx)
 obtain⟨h1,h2⟩:=Prod.mk.inj (Option.some.inj h)
 obtain⟨h2,h3⟩:=Prod.mk.inj h2
 obtain⟨h3,h4⟩:=Prod.mk.inj h3
 obtain⟨h4,h5⟩:=Prod.mk.inj h4
 subst h1 h2 h3 h4 h5
 have HU:=aM hu
 have HR0:=aM hr0
 clear h hall hu hr0 hc0
 clear h2 h3 h4
 have hI0:MadeI w A0 l0.length c0 0 (.slice none 0 0) (.slice none 0 0) (.slice none 0 0) ((((w.alloc (.cells #[.slice A0 l0.length c0] 39)).alloc (.cells #[.slice none 0 0,.slice none 0 0,.int .i64 0,.int .i64 0,.slice none 0 0] 26)).alloc (.cells #[.slice none 0 0,.slice none 0 0,.int .i64 0,.int .i64 0,.slice none 0 0] 26)).alloc (.cells #[.int .i64 0] 3)):=by
  refine⟨aN (aN (aN (aN (Below.refl _ w) _) _) _) _,?_,?_,?_,?_⟩
  ·exact aI (aI (aI (heap_alloc_new w _) _) _) _
  ·have h:=heap_alloc_new (w.alloc (.cells #[.slice A0 l0.length c0] 39)) (.cells #[.slice none 0 0,.slice none 0 0,.int .i64 0,.int .i64 0,.slice none 0 0] 26)
   rw [World.size_alloc] at h
   exact aI (aI h _) _
  ·have h:=heap_alloc_new ((w.alloc (.cells #[.slice A0 l0.length c0] 39)).alloc (.cells #[.slice none 0 0,.slice none 0 0,.int .i64 0,.int .i64 0,.slice none 0 0] 26)) (.cells #[.slice none 0 0,.slice none 0 0,.int .i64 0,.int .i64 0,.slice none 0 0] 26)
   rw [World.size_alloc,World.size_alloc] at h
   exact aI h _
  ·have h:=heap_alloc_new (((w.alloc (.cells #[.slice A0 l0.length c0] 39)).alloc (.cells #[.slice none 0 0,.slice none 0 0,.int .i64 0,.int .i64 0,.slice none 0 0] 26)).alloc (.cells #[.slice none 0 0,.slice none 0 0,.int .i64 0,.int .i64 0,.slice none 0 0] 26)) (.cells #[.int .i64 0] 3)
   rw [World.size_alloc,World.size_alloc,World.size_alloc] at h
   exact h
 have HI0:=aM hI0
 clear hI0
 have eg:∀args w,(callFunc 29 args).run Try.prog w= .ok (.enter 29 args) w:=enters_of Try.func29 (by kernel_rfl) rfl
 have hp0:=mPick_lt HU.out 0 (n:=5) (by decide)
 have hp1:=mPick_lt HU.out 1 (n:=4) (by decide)
 have hp2:=mPick_lt HU.out 2 (n:=10) (by decide)
 obtain⟨m,em,hm1,hm5⟩:∃m:Nat,1+mPick l0 0 5=(m:Int)∧1≤m∧m≤5:=⟨(1+mPick l0 0 5).toNat,by omega,by omega,by omega⟩
 obtain⟨q,eq_,hq1,hq4⟩:∃q:Nat,1+mPick l0 1 4=(q:Int)∧1≤q∧q≤4:=⟨(1+mPick l0 1 4).toNat,by omega,by omega,by omega⟩
 obtain⟨c,ec,hc1,hc10⟩:∃c:Nat,1+mPick l0 2 10=(c:Int)∧1≤c∧c≤10:=⟨(1+mPick l0 2 10).toNat,by omega,by omega,by omega⟩
 simp only [em,eq_,ec,Int.toNat_natCast]
 have EM:=aM em
 have EQ:=aM eq_
 have EC:=aM ec
 clear em eq_ ec hp0 hp1 hp2
 go_enter Try.func13,Try.ntmps13
 go_upto_region 4 with fail
 simp only [Nat.add_assoc,Nat.reduceAdd]
 generalize ((((w.alloc (.cells #[.slice A0 l0.length c0] 39)).alloc (.cells #[.slice none 0 0,.slice none 0 0,.int .i64 0,.int .i64 0,.slice none 0 0] 26)).alloc (.cells #[.slice none 0 0,.slice none 0 0,.int .i64 0,.int .i64 0,.slice none 0 0] 26)).alloc (.cells #[.int .i64 0] 3))=W0 at HI0 ⊢
 go_cut [6,7] from 14 (fun s6 s7 wc=>s6= .int .i64 (m:Int)∧s7= .int .i64 (q:Int)∧Aside0 (MadeI w A0 l0.length c0 2 (.slice none 0 0) (.slice none 0 0) (.slice none 0 0) wc))
 case first=>
  have P1:=aM (HI0.out.calls HR0.out 5 (by decide) (by decide) HU.out)
  have hw1:IntKind.i64.wrap (1+mPick l0 0 5)=1+mPick l0 0 5:=by have:=mPick_lt HU.out 0 (n:=5) (by decide);rw [IntKind.wrap_i64];omega
  have hw2:IntKind.i64.wrap (1+mPick l0 1 4)=1+mPick l0 1 4:=by have:=mPick_lt HU.out 1 (n:=4) (by decide);rw [IntKind.wrap_i64];omega
  go_wp2_with (first
   |(go_at_fn 29;(with_reducible refine P1.out.mono ?_);rintro e w1 ⟨rfl,HI1,hk1⟩;have P2:=aM (HI1.out.calls HR0.out 4 (by decide) (by decide) HU.out);clear P1)
   |(go_at_fn 29;(with_reducible refine P2.out.mono ?_);rintro e w2 ⟨rfl,HI2,hk2⟩;clear P2))
  go_meet
  case rel=>exact⟨congrArg _ EM.out,congrArg _ EQ.out,HI2⟩
 case rest=>
  obtain⟨rfl,rfl,HI2⟩:=hcut
  obtain⟨w2,ew2⟩:∃w2:World,w2=wc:=⟨_,rfl⟩
  subst ew2
  clear HI0
  have M5:=aM hm5
  have Q4:=aM hq4
  have C10:=aM hc10
  have M1:=aM hm1
  have Q1:=aM hq1
  have C1:=aM hc1
  clear hm5 hq4 hc10 hm1 hq1 hc1
  go_upto_region 5 with fail
  iterate 7 (first|go_values|go_skip|go_guarded|go_step|go_upon|go_back|(simp only [Int.not_lt,Int.not_le] at *;go_simp))
  go_cut [8] from 14 (fun s8 wc=>∃vn:Value,Aside0 (MadeI w A0 l0.length c0 2 vn (.slice none 0 0) (.slice none 0 0) wc)∧Aside0 (Kd.R Kd.string 9 wc (w.heap.size+4) (fun k=>w.heap.size+4≤k) vn (mNames.take m)))
  case first=>
   go_wp2
   go_loopg [8] m (fun kq v8 wr=>∃(i:Nat) (vn:Value),v8= .int .i64 i∧i≤m∧m - i≤kq∧Aside0 (MadeI w A0 l0.length c0 2 vn (.slice none 0 0) (.slice none 0 0) wr)∧Aside0 (Kd.R Kd.string 9 wr (w.heap.size+4) (fun k=>w.heap.size+4≤k) vn (mNames.take i)))
   case atStart=>exact⟨0,.slice none 0 0,rfl,by omega,by omega,HI2,⟨Kd.R_nil _ _ _ _ _⟩⟩
   case round=>
    clear HI2
    obtain⟨i,vn,rfl,hi,hm,HI,HN⟩:=hrel
    by_cases hlt:i<m
    ·have d0:decide (i<m)=true:=decide_eq_true hlt
     have d1:(i<m)=True:=eq_true hlt
     have HLT:=aM hlt
     have HM:=aM hm
     have p0:(0≤(i:Int))=True:=eq_true (by omega)
     have p1:((i:Int)<5)=True:=eq_true (by have:=M5.out;omega)
     have hwr:IntKind.i64.wrap ((i:Int)+1)=(i:Int)+1:=by rw [IntKind.wrap_i64];have:=M5.out;omega
     have H1:=aM (HI.out.below (aO (Below.refl _ wr)))
     have H2:=aM (H1.out.below (aN (Below.refl _ wr.drew) (.cells #[.string ⟨#[97]⟩,.string ⟨#[98]⟩,.string ⟨#[99]⟩,.string ⟨#[100]⟩,.string ⟨#[101]⟩] 9)))
     obtain⟨nm,enm⟩:∃nm:ByteArray,nm=mNames.getD i ⟨#[]⟩:=⟨_,rfl⟩
     have c8:([Value.string ⟨#[97]⟩,Value.string ⟨#[98]⟩,Value.string ⟨#[99]⟩,Value.string ⟨#[100]⟩,Value.string ⟨#[101]⟩]:List Value)[i]?=some (.string nm):=by rw [enm];exact name_at i (by have:=M5.out;omega)
     have ENM:=aM enm
     clear enm
     have HS2:=aM H2.out.size
     clear hlt hm hi
     go_wp2
     refine start_ (n:=10) (S:=fun w'=>w'.cell? ⟨w.heap.size+2,0,none⟩=some vn) (ds:= [9]) #[F,F,F,F,F,F,F,F,F,F] (by kernel_rfl) rfl rfl ((aG HI.out.s 0).trans rfl) (fun hHeld=>?_)
     refine pure_ (i:=0) (N:=some 25) (v:=?_) (a':=?_) #[T,F,F,F,F,F,F,F,F,F] rfl rfl (by kernel_rfl) (fun _ _ _ h=>h) (Or.inl ⟨by rfl,?_⟩) ?_ ?_
     rotate_left;(intro w';go_simp;with_reducible rfl);rotate_left;(simp only [pq];rfl)
     refine pure_ (i:=3) (N:=some 28) (v:=?_) (a':=?_) #[T,F,F,T,F,F,F,F,F,F] rfl rfl (by kernel_rfl) (fun _ _ _ h=>h) (Or.inl ⟨by rfl,?_⟩) ?_ ?_
     rotate_left;(intro w';go_simp;with_reducible rfl);rotate_left;(simp only [pq];rfl)
     refine take_ (i:=1) (N:=some 26) (v:=?_) (a':=?_) #[T,T,F,T,F,F,F,F,F,F] rfl rfl (by kernel_rfl) (fun _ _ _ h=>h) (Or.inl ⟨by rfl,?_⟩) hHeld ?_ ?_
     rotate_left
     ·intro w' s0
      go_simp
      with_reducible rfl
     rotate_left
     ·simp only [pq]
      rfl
     refine one_ (i:=2) (N:=some 27) #[T,T,T,T,F,F,F,F,F,F] rfl rfl (by kernel_rfl) (by decide) (fun K hK=>?_)
     refine value_ (w1:=?_) (v:=?_) (by rfl) rfl ?_ ?_
     rotate_left 2
     ·go_simp
      constructor
      ·rfl
      ·rfl
     refine hK.out _ _ ((aG H2.out.s 0).trans rfl) (fun hHeld=>?_)
     clear hK K
     refine norm_ (a':=?_) ?_ ?_
     rotate_left
     ·show Act.put _ (some 27) _=_
      simp only [pq]
      rfl
     refine pure_ (i:=4) (N:=some 29) (v:=?_) (a':=?_) #[T,T,T,T,T,F,F,F,F,F] rfl rfl (by kernel_rfl) (fun _ _ _ h=>h) (Or.inl ⟨by rfl,?_⟩) ?_ ?_
     rotate_left;(intro w';go_simp;with_reducible rfl);rotate_left;(simp only [pq];rfl)
     refine one_ (i:=5) (N:=some 30) #[T,T,T,T,T,T,F,F,F,F] rfl rfl (by kernel_rfl) (by decide) (fun K hK=>?_)
     refine value_ (w1:=?_) (v:=?_) (by rfl) rfl ?_ ?_
     rotate_left 2
     ·go_simp
      constructor
      ·rfl
      ·rfl
     refine hK.out _ _ (hHeld) (fun hHeld=>?_)
     clear hK K
     refine norm_ (a':=?_) ?_ ?_
     rotate_left
     ·show Act.put _ (some 30) _=_
      simp only [pq]
      rfl
     refine one_ (i:=6) (N:=some 31) #[T,T,T,T,T,T,T,F,F,F] rfl rfl (by kernel_rfl) (by decide) (fun K hK=>?_)
     refine value_ (w1:=?_) (v:=?_) (by rfl) rfl ?_ ?_
     rotate_left 2
     ·go_simp
      constructor
      ·rfl
      ·rfl
     refine hK.out _ _ ((aG (H2.out.below (aN (Below.refl _ _) _)).s 0).trans rfl) (fun hHeld=>?_)
     clear hK K
     refine norm_ (a':=?_) ?_ ?_
     rotate_left
     ·show Act.put _ (some 31) _=_
      simp only [pq]
      rfl
     refine one_ (i:=7) (N:=some 32) #[T,T,T,T,T,T,T,T,F,F] rfl rfl (by kernel_rfl) (by decide) (fun K hK=>?_)
     refine Kd.R_append_step Kd.string (w0:=wr.drew.alloc (.cells #[.string ⟨#[97]⟩,.string ⟨#[98]⟩,.string ⟨#[99]⟩,.string ⟨#[100]⟩,.string ⟨#[101]⟩] 9)) (w.heap.size+4) (by rfl) (.tmp 26) (.tmp 31) 22 9 (.string ⟨#[]⟩) 16 rfl Try.underlying22 miStr rfl (by decide) (by omega) vn (mNames.take i) nm [.string nm] (fun k=>w.heap.size+4≤k) (fun _=>False) rfl (by rw [World.size_alloc];rfl) rfl (fun _ hk=>hk.elim) (fun k hk=>Nat.le_trans HS2.out hk) (aA (aC HN.out) _) (Below.refl _ _) HS2.out (by have:=M5.out;have:=HLT.out;have:=List.length_take_le i mNames;omega) ?_
     intro v1 w1 ho hb hg hat
     obtain⟨An,ln,cn,rfl⟩:∃An ln cn,v1= .slice An ln cn:=by obtain⟨An,cn,e⟩:=Kd.R_slice ho;exact⟨An,_,cn,e⟩
     rw [ENM.out,take_next mNames ⟨#[]⟩ i (by have:=M5.out;have:=HLT.out;show i<5;omega)] at ho
     have H3:=aM (H2.out.below4 hb)
     have HN3:=aM ho
     have f3:=aH H3.out.s 0
     clear ho hb hg hat
     refine hK.out _ _ ((aG H3.out.s 0).trans rfl) (fun hHeld=>?_)
     clear hK K
     refine norm_ (a':=?_) ?_ ?_
     rotate_left
     ·show Act.put _ (some 32) _=_
      simp only [pq]
      rfl
     refine pure_ (i:=8) (N:=some 33) (v:=?_) (a':=?_) #[T,T,T,T,T,T,T,T,T,F] rfl rfl (by kernel_rfl) (fun _ _ _ h=>h) (Or.inl ⟨by rfl,?_⟩) ?_ ?_
     rotate_left;(intro w';go_simp;with_reducible rfl);rotate_left;(simp only [pq];rfl)
     refine last_ (i:=9) (N:=none) #[T,T,T,T,T,T,T,T,T,T] rfl rfl (by kernel_rfl) (by decide) (fun K hK=>?_)
     refine skip_ (w1:=?_) (by rfl) rfl ?_ ?_
     rotate_left
     ·go_simp
      rfl
     refine hK.out _ _ ?_
     clear hK K
     refine done_ (by kernel_rfl) ?_
     go_wp2
     go_roundg (m - (i+1))
     case measure=>have:=HM.out;have:=HLT.out;omega
     case rel=>exact⟨i+1,_,rfl,by have:=HLT.out;omega,Nat.le_refl _,⟨H3.out.put0 _⟩,⟨Kd.R_kept HN3.out (Kept.setCell (Kept.refl _ (fun k=>k=w.heap.size+2)) (.inl rfl) _) (fun k hk=>by omega)⟩⟩
    ·obtain rfl:i=m:=by omega
     have d0:decide ((i:Int)<(i:Int))=false:=decide_eq_false (by omega)
     clear hlt
     go_wp2
     go_meet
     case rel=>exact⟨vn,HI,HN⟩
  case rest=>
   obtain⟨vn,HI3,HN3⟩:=hcut
   obtain⟨w3,ew3⟩:∃w3:World,w3=wc:=⟨_,rfl⟩
   subst ew3
   clear HI2
   have HB3:=aM HI3.out.size
   have HN3b:Aside0 (Kd.R Kd.string 9 w3 (w.heap.size+4) (fun k=>w.heap.size+4≤k∧k<w3.heap.size) vn (mNames.take m)):=⟨Kd.R_mono (Kd.R_bound HN3.out) (fun k hk=>⟨hk.2.1,hk.2.2.1⟩)⟩
   clear HN3
   go_upto_region 9 with fail
   iterate 7 (first|go_values|go_skip|go_guarded|go_step|go_upon|go_back|(simp only [Int.not_lt,Int.not_le] at *;go_simp))
   go_cut [9] from 14 (fun s9 wc=>∃vt:Value,Aside0 (MadeI w A0 l0.length c0 2 vn vt (.slice none 0 0) wc)∧Aside0 (Kept w3 wc (fun k=>k<w.heap.size+4∨w3.heap.size≤k))∧Aside0 (Kd.R k72 72 wc (w.heap.size+4) (fun k=>w3.heap.size≤k) vt ((mTexts.map mTok).take q)))
   case first=>
    go_wp2
    go_loopg [9] q (fun kq v9 wr=>∃(i:Nat) (vt:Value),v9= .int .i64 i∧i≤q∧q - i≤kq∧Aside0 (MadeI w A0 l0.length c0 2 vn vt (.slice none 0 0) wr)∧Aside0 (Kept w3 wr (fun k=>k<w.heap.size+4∨w3.heap.size≤k))∧Aside0 (Kd.R k72 72 wr (w.heap.size+4) (fun k=>w3.heap.size≤k) vt ((mTexts.map mTok).take i)))
    case atStart=>exact⟨0,.slice none 0 0,rfl,by omega,by omega,HI3,⟨Kept.refl _ _⟩,⟨Kd.R_nil _ _ _ _ _⟩⟩
    case round=>
     clear HI3
     obtain⟨i,vt,rfl,hi,hm,HI,HK,HT⟩:=hrel
     by_cases hlt:i<q
     ·have d0:decide (i<q)=true:=decide_eq_true hlt
      have d1:(i<q)=True:=eq_true hlt
      have HLT:=aM hlt
      have HM:=aM hm
      have p0:(0≤(i:Int))=True:=eq_true (by omega)
      have p1:((i:Int)<4)=True:=eq_true (by have:=Q4.out;omega)
      have hwr:IntKind.i64.wrap ((i:Int)+1)=(i:Int)+1:=by rw [IntKind.wrap_i64];have:=Q4.out;omega
      have H1:=aM (HI.out.below (aO (Below.refl _ wr)))
      have H2:=aM (H1.out.below (aN (Below.refl _ wr.drew) (.cells #[.string ⟨#[120]⟩,.string ⟨#[121]⟩,.string ⟨#[122]⟩,.string ⟨#[119]⟩] 9)))
      have HK2:Aside0 (Kept w3 (wr.drew.alloc (.cells #[.string ⟨#[120]⟩,.string ⟨#[121]⟩,.string ⟨#[122]⟩,.string ⟨#[119]⟩] 9)) (fun k=>k<w.heap.size+4∨w3.heap.size≤k)):=⟨Kept.alloc (Kept.drew HK.out) _⟩
      obtain⟨tx,etx⟩:∃tx:ByteArray,tx=mTexts.getD i ⟨#[]⟩:=⟨_,rfl⟩
      have c8:([Value.string ⟨#[120]⟩,Value.string ⟨#[121]⟩,Value.string ⟨#[122]⟩,Value.string ⟨#[119]⟩]:List Value)[i]?=some (.string tx):=by rw [etx];exact text_at i (by have:=Q4.out;omega)
      have ETX:Aside0 (mTok tx=(mTexts.map mTok).getD i (mTok ⟨#[]⟩)):=⟨by rw [etx,List.getD_eq_getElem?_getD,List.getD_eq_getElem?_getD,List.getElem?_map,List.getElem?_eq_getElem (show i<mTexts.length by have:=Q4.out;show i<4;omega)];rfl⟩
      have HS2:=aM H2.out.size
      have HZ2:Aside0 (w3.heap.size≤(wr.drew.alloc (.cells #[.string ⟨#[120]⟩,.string ⟨#[121]⟩,.string ⟨#[122]⟩,.string ⟨#[119]⟩] 9)).heap.size):=⟨HK2.out.1⟩
      clear hlt hm hi etx
      go_wp2
      refine start_ (n:=12) (S:=fun w'=>w'.cell? ⟨w.heap.size+2,1,none⟩=some vt) (ds:= [11]) #[F,F,F,F,F,F,F,F,F,F,F,F] (by kernel_rfl) rfl rfl ((aG HI.out.s 1).trans rfl) (fun hHeld=>?_)
      refine pure_ (i:=0) (N:=some 39) (v:=?_) (a':=?_) #[T,F,F,F,F,F,F,F,F,F,F,F] rfl rfl (by kernel_rfl) (fun _ _ _ h=>h) (Or.inl ⟨by rfl,?_⟩) ?_ ?_
      rotate_left;(intro w';go_simp;with_reducible rfl);rotate_left;(simp only [pq];rfl)
      refine pure_ (i:=3) (N:=some 42) (v:=?_) (a':=?_) #[T,F,F,T,F,F,F,F,F,F,F,F] rfl rfl (by kernel_rfl) (fun _ _ _ h=>h) (Or.inl ⟨by rfl,?_⟩) ?_ ?_
      rotate_left;(intro w';go_simp;with_reducible rfl);rotate_left;(simp only [pq];rfl)
      refine take_ (i:=1) (N:=some 40) (v:=?_) (a':=?_) #[T,T,F,T,F,F,F,F,F,F,F,F] rfl rfl (by kernel_rfl) (fun _ _ _ h=>h) (Or.inl ⟨by rfl,?_⟩) hHeld ?_ ?_
      rotate_left
      ·intro w' s0
       go_simp
       with_reducible rfl
      rotate_left
      ·simp only [pq]
       rfl
      refine one_ (i:=2) (N:=some 41) #[T,T,T,T,F,F,F,F,F,F,F,F] rfl rfl (by kernel_rfl) (by decide) (fun K hK=>?_)
      refine value_ (w1:=?_) (v:=?_) (by rfl) rfl ?_ ?_
      rotate_left 2
      ·go_simp
       constructor
       ·rfl
       ·rfl
      refine hK.out _ _ ((aG H2.out.s 1).trans rfl) (fun hHeld=>?_)
      clear hK K
      refine norm_ (a':=?_) ?_ ?_
      rotate_left
      ·show Act.put _ (some 41) _=_
       simp only [pq]
       rfl
      refine pure_ (i:=4) (N:=some 43) (v:=?_) (a':=?_) #[T,T,T,T,T,F,F,F,F,F,F,F] rfl rfl (by kernel_rfl) (fun _ _ _ h=>h) (Or.inl ⟨by rfl,?_⟩) ?_ ?_
      rotate_left;(intro w';go_simp;with_reducible rfl);rotate_left;(simp only [pq];rfl)
      refine one_ (i:=5) (N:=some 44) #[T,T,T,T,T,T,F,F,F,F,F,F] rfl rfl (by kernel_rfl) (by decide) (fun K hK=>?_)
      refine value_ (w1:=?_) (v:=?_) (by rfl) rfl ?_ ?_
      rotate_left 2
      ·go_simp
       constructor
       ·rfl
       ·rfl
      refine hK.out _ _ (hHeld) (fun hHeld=>?_)
      clear hK K
      refine norm_ (a':=?_) ?_ ?_
      rotate_left
      ·show Act.put _ (some 44) _=_
       simp only [pq]
       rfl
      refine pure_ (i:=6) (N:=some 45) (v:=?_) (a':=?_) #[T,T,T,T,T,T,T,F,F,F,F,F] rfl rfl (by kernel_rfl) (fun _ _ _ h=>h) (Or.inl ⟨by rfl,?_⟩) ?_ ?_
      rotate_left;(intro w';go_simp;with_reducible rfl);rotate_left;(simp only [pq];rfl)
      refine pure_ (i:=7) (N:=some 46) (v:=?_) (a':=?_) #[T,T,T,T,T,T,T,T,F,F,F,F] rfl rfl (by kernel_rfl) (fun _ _ _ h=>h) (Or.inl ⟨by rfl,?_⟩) ?_ ?_
      rotate_left;(intro w';go_simp;with_reducible rfl);rotate_left;(simp only [pq];rfl)
      refine one_ (i:=8) (N:=some 47) #[T,T,T,T,T,T,T,T,T,F,F,F] rfl rfl (by kernel_rfl) (by decide) (fun K hK=>?_)
      refine value_ (w1:=?_) (v:=?_) (by rfl) rfl ?_ ?_
      rotate_left 2
      ·go_simp
       constructor
       ·rfl
       ·rfl
      refine hK.out _ _ ((aG (H2.out.below (aN (Below.refl _ _) _)).s 1).trans rfl) (fun hHeld=>?_)
      clear hK K
      refine norm_ (a':=?_) ?_ ?_
      rotate_left
      ·show Act.put _ (some 47) _=_
       simp only [pq]
       rfl
      refine one_ (i:=9) (N:=some 48) #[T,T,T,T,T,T,T,T,T,T,F,F] rfl rfl (by kernel_rfl) (by decide) (fun K hK=>?_)
      refine Kd.R_append_step k72 (w0:=wr.drew.alloc (.cells #[.string ⟨#[120]⟩,.string ⟨#[121]⟩,.string ⟨#[122]⟩,.string ⟨#[119]⟩] 9)) (w.heap.size+4) (by rfl) (.tmp 40) (.tmp 47) 23 72 (.agg #[.string ⟨#[]⟩,.int .i64 0,.string ⟨#[]⟩,.slice none 0 0,.int .i64 0,.int .i64 0,.slice none 0 0]) 104 rfl Try.underlying23 miTok rfl (by decide) (by omega) vt ((mTexts.map mTok).take i) (mTok tx) [.string ⟨#[]⟩,.int .i64 5,.string tx,.slice none 0 0,.int .i64 0,.int .i64 0,.slice none 0 0] (fun k=>w3.heap.size≤k) (fun _=>False) rfl (by rw [World.size_alloc];rfl) (k72_mkM _ _ _ (mTok tx) (Kd.R_nil _ _ _ _ _) (Kd.R_nil _ _ _ _ _)) (fun _ hk=>hk.elim) (fun k hk=>Nat.le_trans HZ2.out hk) (aA (aC HT.out) _) (Below.refl _ _) HS2.out (by have:=Q4.out;have:=HLT.out;have:=List.length_take_le i (mTexts.map mTok);omega) ?_
      intro v1 w1 ho hb hg hat
      obtain⟨An,ln,cn,rfl⟩:∃An ln cn,v1= .slice An ln cn:=by obtain⟨An,cn,e⟩:=Kd.R_slice ho;exact⟨An,_,cn,e⟩
      rw [ETX.out,take_next (mTexts.map mTok) (mTok ⟨#[]⟩) i (by have:=Q4.out;have:=HLT.out;show i<4;omega)] at ho
      have H3:=aM (H2.out.below4 hb)
      have HK3:=aM (Kept.of_grown hg HK2.out (fun k hk=> .inl (.inr (HT.out.1 k hk))))
      have HT3:=aM ho
      have f3:=aH H3.out.s 1
      clear ho hb hg hat
      refine hK.out _ _ ((aG H3.out.s 1).trans rfl) (fun hHeld=>?_)
      clear hK K
      refine norm_ (a':=?_) ?_ ?_
      rotate_left
      ·show Act.put _ (some 48) _=_
       simp only [pq]
       rfl
      refine pure_ (i:=10) (N:=some 49) (v:=?_) (a':=?_) #[T,T,T,T,T,T,T,T,T,T,T,F] rfl rfl (by kernel_rfl) (fun _ _ _ h=>h) (Or.inl ⟨by rfl,?_⟩) ?_ ?_
      rotate_left;(intro w';go_simp;with_reducible rfl);rotate_left;(simp only [pq];rfl)
      refine last_ (i:=11) (N:=none) #[T,T,T,T,T,T,T,T,T,T,T,T] rfl rfl (by kernel_rfl) (by decide) (fun K hK=>?_)
      refine skip_ (w1:=?_) (by rfl) rfl ?_ ?_
      rotate_left
      ·go_simp
       rfl
      refine hK.out _ _ ?_
      clear hK K
      refine done_ (by kernel_rfl) ?_
      go_wp2
      go_roundg (q - (i+1))
      case measure=>have:=HM.out;have:=HLT.out;omega
      case rel=>exact⟨i+1,_,rfl,by have:=HLT.out;omega,Nat.le_refl _,⟨H3.out.put1 _⟩,⟨Kept.setCell HK3.out (.inl (.inl (by simp))) _⟩,⟨Kd.R_kept HT3.out (Kept.setCell (Kept.refl _ (fun k=>k=w.heap.size+2)) (.inl rfl) _) (fun k hk=>by have:=HB3.out;omega)⟩⟩
     ·obtain rfl:i=q:=by omega
      clear hlt
      go_wp2
      go_meet
      case rel=>exact⟨vt,HI,HK,HT⟩
   case rest=>
    obtain⟨vt,HI4,HK4,HT4⟩:=hcut
    obtain⟨w4,ew4⟩:∃w4:World,w4=wc:=⟨_,rfl⟩
    subst ew4
    clear HI3
    have HN4:=aM (Kd.R_kept HN3b.out HK4.out (fun k hk h=>by omega))
    clear HN3b
    go_upto_region 13 with fail
    have P3:=aM (HI4.out.calls HR0.out 10 (by decide) (by decide) HU.out)
    have hw3:IntKind.i64.wrap (1+mPick l0 2 10)=1+mPick l0 2 10:=by have:=EC.out;have:=C10.out;rw [IntKind.wrap_i64];omega
    go_cut [10] from 14 (fun s10 wc=>s10= .int .i64 (c:Int)∧Aside0 (MadeI w A0 l0.length c0 3 vn vt (.slice none 0 0) wc)∧Aside0 (Kept w4 wc (fun k=>k<w.heap.size+4∨w4.heap.size≤k)))
    case first=>
     go_wp2_with (first
      |(go_at_fn 29;(with_reducible refine P3.out.mono ?_);rintro e w5 ⟨rfl,HI5,HK5⟩;clear P3))
     go_meet
     case rel=>exact⟨congrArg _ EC.out,HI5,⟨Kept.mono HK5.out (fun k hk=> .inl (by omega))⟩⟩
    case rest=>
     obtain⟨rfl,HI5,HK5⟩:=hcut
     obtain⟨w5,ew5⟩:∃w5:World,w5=wc:=⟨_,rfl⟩
     subst ew5
     clear P3 hw3 HI4
     have HS4:Aside0 (w.heap.size+4≤w4.heap.size):=⟨by have:=HK4.out.1;have:=HB3.out;omega⟩
     go_wp2
     go_loopg [10,11,12] c (fun kq v10 v11 v12 wr=>∃(i at_:Nat) (vp:Value) (acc:List S35),v10= .int .i64 (i:Int)∧i≤kq∧Aside0 (acc.length+i=c)∧Aside0 (at_+8 * i≤3+8 * c)∧Aside0 (mProds l0 m q i at_ acc=mProds l0 m q c 3 [])∧Aside0 (MadeI w A0 l0.length c0 at_ vn vt vp wr)∧Aside0 (Kept w4 wr (fun k=>k<w.heap.size+4∨w4.heap.size≤k))∧Aside0 (Kd.S k35 35 wr (w.heap.size+4) (fun k=>w4.heap.size≤k) vp acc))
     case atStart=>exact⟨c,3,.slice none 0 0,[],rfl,by omega,⟨by simp⟩,⟨by omega⟩,⟨rfl⟩,HI5,HK5,⟨Kd.S_nil _ _ _ _ _⟩⟩
     case round=>
      clear HI5 HK5
      obtain⟨i,at_,vp,acc,rfl,hi,HL,HAT,HM,HI,HK,HP⟩:=hrel
      cases i with
      |zero=>
       obtain⟨An,ln,kn,rfl⟩:∃An ln kn,vn= .slice An ln kn:=by obtain⟨An,cn,e⟩:=Kd.R_slice HN4.out;exact⟨An,_,cn,e⟩
       obtain⟨At,lt,kt,rfl⟩:∃At lt kt,vt= .slice At lt kt:=by obtain⟨An,cn,e⟩:=Kd.R_slice HT4.out;exact⟨An,_,cn,e⟩
       obtain⟨Ap,lp,kp,rfl⟩:∃Ap lp kp,vp= .slice Ap lp kp:=by obtain⟨An,cn,e⟩:=Kd.S_slice HP.out;exact⟨An,_,cn,e⟩
       obtain⟨q0,q1,q2,q3,q4⟩:wr.cell? ⟨w.heap.size+2,0,none⟩=some (.slice An ln kn)∧wr.cell? ⟨w.heap.size+2,1,none⟩=some (.slice At lt kt)∧wr.cell? ⟨w.heap.size+2,2,none⟩=some (.int .i64 0)∧wr.cell? ⟨w.heap.size+2,3,none⟩=some (.int .i64 0)∧wr.cell? ⟨w.heap.size+2,4,none⟩=some (.slice Ap lp kp):=⟨(aG HI.out.s 0).trans rfl,(aG HI.out.s 1).trans rfl,(aG HI.out.s 2).trans rfl,(aG HI.out.s 3).trans rfl,(aG HI.out.s 4).trans rfl⟩
       obtain⟨q5,q6,q7,q8,q9⟩:wr.cell? ⟨w.heap.size+1,0,none⟩=some (.slice none 0 0)∧wr.cell? ⟨w.heap.size+1,1,none⟩=some (.slice none 0 0)∧wr.cell? ⟨w.heap.size+1,2,none⟩=some (.int .i64 0)∧wr.cell? ⟨w.heap.size+1,3,none⟩=some (.int .i64 0)∧wr.cell? ⟨w.heap.size+1,4,none⟩=some (.slice none 0 0):=⟨(aG HI.out.r 0).trans rfl,(aG HI.out.r 1).trans rfl,(aG HI.out.r 2).trans rfl,(aG HI.out.r 3).trans rfl,(aG HI.out.r 4).trans rfl⟩
       have f5:=aH HI.out.r 0
       have f6:=aH HI.out.r 1
       have f7:=aH HI.out.r 2
       have f8:=aH HI.out.r 3
       have f9:=aH HI.out.r 4
       go_wp2
       refine bodyPost_ret (results_cell_row rfl _ _ (w.heap.size+1) 26 #[.slice An ln kn,.slice At lt kt,.int .i64 0,.int .i64 0,.slice Ap lp kp] (0,0) _ rfl (by refine blk_put (cs:=#[.slice An ln kn,.slice At lt kt,.int .i64 0,.int .i64 0,.slice none 0 0]) ?_ 4 _ rfl;refine blk_put (cs:=#[.slice An ln kn,.slice At lt kt,.int .i64 0,.int .i64 0,.slice none 0 0]) ?_ 3 _ rfl;refine blk_put (cs:=#[.slice An ln kn,.slice At lt kt,.int .i64 0,.int .i64 0,.slice none 0 0]) ?_ 2 _ rfl;refine blk_put (cs:=#[.slice An ln kn,.slice none 0 0,.int .i64 0,.int .i64 0,.slice none 0 0]) ?_ 1 _ rfl;refine blk_put (cs:=#[.slice none 0 0,.slice none 0 0,.int .i64 0,.int .i64 0,.slice none 0 0]) ?_ 0 _ rfl;exact HI.out.r) Try.underlying26 rfl (by kernel_rfl)) rfl ?_
       have hS34:w3.heap.size≤w4.heap.size:=HK4.out.1
       refine⟨_,_,_,rfl,?_,?_,?_,?_⟩
       ·exact bL (Kd.R_mono (Kd.R_kept (Kd.R_kept HN4.out HK.out (fun k hk h=>by have:=HS4.out;omega)) (set5_kept wr _ _ _ _ _ _) (fun k hk h=>by omega)) (fun _ _=>trivial)) (by omega)
       ·exact bL (Kd.R_mono (Kd.R_kept (Kd.R_kept (Kd.R_mono (ok':=fun k=>w3.heap.size≤k∧k<w4.heap.size) (Kd.R_bound HT4.out) (fun k hk=>⟨hk.1,hk.2.2.1⟩)) HK.out (fun k hk h=>by have:=HB3.out;omega)) (set5_kept wr _ _ _ _ _ _) (fun k hk h=>by have:=HB3.out;omega)) (fun _ _=>trivial)) (by omega)
       ·have hp:=HM.out
        rw [mProds] at hp
        rw [←hp]
        exact Kd.S_lower (Kd.S_mono (Kd.S_kept HP.out (set5_kept wr _ _ _ _ _ _) (fun k hk h=>by have:=HS4.out;omega)) (fun _ _=>trivial)) (by omega)
       ·exact set5_below HI.out.bel (by omega) _ _ _ _ _
      |succ i=>
       have d0:decide (((i+1:Nat):Int)>0)=true:=decide_eq_true (by omega)
       have d0b:(0<((i:Int)+1))=True:=eq_true (by omega)
       have P6:=aM (HI.out.calls HR0.out (m:Int) (by have:=M1.out;omega) (by have:=HAT.out;have:=C10.out;omega) HU.out)
       have hpn:=mPick_lt HU.out (at_+1) (n:=4) (by decide)
       obtain⟨cn,ecn,hcn⟩:∃cn:Nat,mPick l0 (at_+1) 4=(cn:Int)∧cn≤3:=⟨(mPick l0 (at_+1) 4).toNat,by omega,by omega⟩
       have HATB:Aside0 (at_+8 * (i+1)≤83):=⟨by have:=HAT.out;have:=C10.out;omega⟩
       have HCN:=aM hcn
       have ECN:=aM ecn
       clear hpn hcn ecn
       go_wp2_with (first
        |(go_at_fn 29;(with_reducible refine P6.out.mono ?_);rintro e w6 ⟨rfl,HI6,HK6⟩;clear P6;have HI7:=aM (HI6.out.below (aN (Below.refl _ w6) (.cells #[.int .i64 (mPick l0 at_ (m:Int)),.slice none 0 0] 35)));have P7:=aM (HI7.out.calls HR0.out 4 (by decide) (by have:=HATB.out;omega) HU.out);rw [ECN.out] at P7)
        |(go_at_fn 29;(with_reducible refine P7.out.mono ?_);rintro e w7 ⟨rfl,HI8,HK8⟩;clear P7))
       have HB8:=aM (blk_kept (heap_alloc_new w6 (.cells #[.int .i64 (mPick l0 at_ (m:Int)),.slice none 0 0] 35)) HK8.out (fun h=>by have:=HI6.out.size;omega))
       have HSZ6:Aside0 (wr.heap.size≤w6.heap.size∧w.heap.size+4≤wr.heap.size∧w4.heap.size≤wr.heap.size):=⟨HK6.out.1,HI.out.size,HK.out.1⟩
       have HK9:Aside0 (Kept wr w7 (fun k=>k<w.heap.size+4∨wr.heap.size≤k)):=⟨Kept.then_ (Kept.alloc (Kept.mono HK6.out (fun k hk=> .inl (by omega))) (.cells #[.int .i64 (mPick l0 at_ (m:Int)),.slice none 0 0] 35)) HK8.out (fun k hk=> .inl (.inl (by omega)))⟩
       clear HI7 HI6 HK6 HK8
       have HQI:=aM hi
       have hwi:IntKind.i64.wrap (((i+1:Nat):Int) - 1)=(i:Int):=by rw [IntKind.wrap_i64];have:=HL.out;have:=C10.out;omega
       clear hi
       obtain⟨wo,ewo⟩:∃wo:World,wo=wr:=⟨_,rfl⟩
       subst ewo
       go_loopg [12] cn (fun kq v12 wr=>∃(j a2:Nat) (vr:Value) (ar:List S43),v12= .int .i64 (j:Int)∧j≤kq∧Aside0 (ar.length+j=cn)∧Aside0 (a2+2 * j≤at_+2+2 * cn)∧Aside0 (mRight l0 m q j a2 ar=mRight l0 m q cn (at_+2) [])∧Aside0 (MadeI w A0 l0.length c0 a2 vn vt vp wr)∧Aside0 (wr.heap[w6.heap.size]?=some (.cells #[.int .i64 (mPick l0 at_ (m:Int)),vr] 35 (0,0)))∧Aside0 (Kept wo wr (fun k=>k<w.heap.size+4∨wo.heap.size≤k))∧Aside0 (Kd.R k43 43 wr (w.heap.size+4) (fun k=>w6.heap.size<k) vr ar))
       case atStart=>exact⟨cn,at_+2,.slice none 0 0,[],rfl,by omega,⟨by simp⟩,⟨by omega⟩,⟨rfl⟩,HI8,HB8,HK9,⟨Kd.R_nil _ _ _ _ _⟩⟩
       case round=>
        clear HI8 HB8 HK9
        obtain⟨j,a2,vr,ar,rfl,hj,HJL,HA2,HMR,HI8,HB8,HK9,HR8⟩:=hrel
        cases j with
        |zero=>
         have b0:wr.cell? ⟨w6.heap.size,0,none⟩=some (.int .i64 (mPick l0 at_ (m:Int))):=(aG HB8.out 0).trans rfl
         have b1:wr.cell? ⟨w6.heap.size,1,none⟩=some vr:=(aG HB8.out 1).trans rfl
         have q4:wr.cell? ⟨w.heap.size+2,4,none⟩=some vp:=(aG HI8.out.s 4).trans rfl
         have HPB:=aM (Kd.S_kept (Kd.S_mono (ok':=fun k=>w4.heap.size≤k∧k<wo.heap.size) (Kd.S_bound HP.out) (fun k hk=>⟨hk.1,hk.2.2.1⟩)) HK9.out (fun k hk h=>by have:=HS4.out;omega))
         have HKw:=aM (Kept.then_ HK.out HK9.out (fun k hk=>hk.elim (fun h=> .inl (.inl h)) (fun h=> .inl (.inr (by have:=HSZ6.out;omega)))))
         have HSi:=aM HI8.out.size
         have HSw:Aside0 (w4.heap.size≤wr.heap.size):=⟨HKw.out.1⟩
         have HACC:Aside0 (acc.length≤10):=⟨by have:=HL.out;have:=C10.out;omega⟩
         go_wp2_with (first
          |((with_reducible refine gate_builtin (b:= .append) (xs:=#[.tmp 89,.tmp 91]) rfl ?_);at_builtin;refine Kd.S_append k35 (w0:=wr) (w.heap.size+4) rfl (.tmp 89) (.tmp 91) 24 35 (.agg #[.int .i64 0,.slice none 0 0]) 32 rfl Try.underlying24 miProd rfl (by decide) (by omega) vp acc (⟨mPick l0 at_ (m:Int),ar⟩:S35) [.int .i64 (mPick l0 at_ (m:Int)),vr] (fun k=>w4.heap.size≤k) (fun k=>w6.heap.size<k) rfl rfl (k35_mkM _ _ _ (⟨mPick l0 at_ (m:Int),ar⟩:S35) HR8.out) (fun k hk=>⟨by have:=HSZ6.out;omega,fun e=>by have:=(Kd.S_R HPB.out).1 k e.symm;have:=HSZ6.out;omega⟩) (fun k hk=>Nat.le_trans HSw.out hk) (Kd.S_mono HPB.out (fun k hk=>⟨hk.1,by have:=HSZ6.out;omega⟩)) (Below.refl _ _) HSi.out (by have:=HACC.out;omega) ?_;intro v1 w10 ho hb hg hat;obtain⟨Ap,lp,kp,rfl⟩:∃An ln cn,v1= .slice An ln cn:=(by obtain⟨An,cn,e⟩:=Kd.S_slice ho;exact⟨An,_,cn,e⟩);have HI12:=aM (HI8.out.below4 hb);have HK12:=aM (Kept.of_grown hg HKw.out (fun k hk=> .inl (.inr ((Kd.S_R HPB.out).1 k hk).1)));have HS12:=aM ho;have f4:=aH HI12.out.s 4;have q4':w10.cell? ⟨w.heap.size+2,4,none⟩=some vp:=(aG HI12.out.s 4).trans rfl;clear ho hb hg hat q4 b0 b1))
         go_roundg i
         case measure=>have:=HQI.out;omega
         case rel=>exact⟨i,a2,_,acc++ [⟨mPick l0 at_ (m:Int),ar⟩],congrArg (Value.int .i64) (by unfold wrap64;have:=HACC.out;have:=HL.out;have:=C10.out;omega),Nat.le_refl _,⟨by have:=HL.out;simp;omega⟩,⟨by have:=HAT.out;have:=HA2.out;have:=HCN.out;omega⟩,⟨by have h:=HM.out;rw [mProds,ECN.out,Int.toNat_natCast,←HMR.out,mRight] at h;exact h⟩,⟨HI12.out.put4 _⟩,⟨Kept.setCell HK12.out (.inl (.inl (by simp))) _⟩,⟨Kd.S_kept HS12.out (Kept.setCell (Kept.refl _ (fun k=>k=w.heap.size+2)) (.inl rfl) _) (fun k hk h=>by have:=HS4.out;omega)⟩⟩
        |succ j=>
         have d2:(0<((j:Int)+1))=True:=eq_true (by omega)
         have P8:=aM (HI8.out.calls HR0.out 2 (by decide) (by have:=HATB.out;have:=HA2.out;have:=HCN.out;omega) HU.out)
         have HJ:=aM hj
         clear hj
         by_cases hz:mPick l0 a2 2=0
         ·rw [hz] at P8
          go_wp2_with (first
           |(go_at_fn 29;(with_reducible refine P8.out.mono ?_);rintro e w8 ⟨rfl,HI10,HK10⟩;clear P8))
          have HZ:=aM hz
          clear hz
          have HI10d:=aM (HI10.out.below (aO (Below.refl _ w8)))
          have P9:=aM (HI10d.out.calls HR0.out (q:Int) (by have:=Q1.out;omega) (by have:=HATB.out;have:=HA2.out;have:=HCN.out;omega) HU.out)
          obtain⟨x,ex⟩:∃x:Int,x=mPick l0 (a2+1) (q:Int):=⟨_,rfl⟩
          rw [←ex] at P9
          have EX:=aM ex
          have HB10:=aM (blk_kept HB8.out HK10.out (fun h=>by have:=HSZ6.out;omega))
          have HR10:=aM (Kd.R_kept HR8.out HK10.out (fun k hk h=>by have:=HSZ6.out;omega))
          have HK12:=aM (Kept.then_ HK9.out HK10.out (fun k hk=> .inl (.inl (by omega))))
          have HARL:Aside0 (ar.length≤3):=⟨by have:=HJL.out;have:=HCN.out;omega⟩
          clear ex
          refine start_ (n:=10) (S:=fun w'=>w'.cell? ⟨w6.heap.size,1,none⟩=some vr) (ds:= [9]) #[F,F,F,F,F,F,F,F,F,F] (by kernel_rfl) rfl rfl ((aG HB10.out 1).trans rfl) (fun hHeld=>?_)
          refine pure_ (i:=0) (N:=some 70) (v:=?_) (a':=?_) #[T,F,F,F,F,F,F,F,F,F] rfl rfl (by kernel_rfl) (fun _ _ _ h=>h) (Or.inl ⟨by rfl,?_⟩) ?_ ?_
          rotate_left;(intro w';go_simp;with_reducible rfl);rotate_left;(simp only [pq];rfl)
          refine pure_ (i:=2) (N:=some 72) (v:=?_) (a':=?_) #[T,F,T,F,F,F,F,F,F,F] rfl rfl (by kernel_rfl) (fun _ _ _ h=>h) (Or.inl ⟨by rfl,?_⟩) ?_ ?_
          rotate_left;(intro w';go_simp;with_reducible rfl);rotate_left;(simp only [pq];rfl)
          refine pure_ (i:=3) (N:=some 73) (v:=?_) (a':=?_) #[T,F,T,T,F,F,F,F,F,F] rfl rfl (by kernel_rfl) (fun _ _ _ h=>h) (Or.inl ⟨by rfl,?_⟩) ?_ ?_
          rotate_left;(intro w';go_simp;with_reducible rfl);rotate_left;(simp only [pq];rfl)
          refine take_ (i:=1) (N:=some 71) (v:=?_) (a':=?_) #[T,T,T,T,F,F,F,F,F,F] rfl rfl (by kernel_rfl) (fun _ _ _ h=>h) (Or.inl ⟨by rfl,?_⟩) hHeld ?_ ?_
          rotate_left
          ·intro w' s0
           go_simp
           with_reducible rfl
          rotate_left
          ·simp only [pq]
           rfl
          refine one_ (i:=4) (N:=some 74) #[T,T,T,T,T,F,F,F,F,F] rfl rfl (by kernel_rfl) (by decide) (fun K hK=>?_)
          refine call_ 29 #[.int .i64 (q:Int),.pointer (some ⟨w.heap.size+3,0,none⟩),.pointer (some ⟨w.heap.size,0,none⟩)] (by rfl) rfl (by unfold execOp;simp [resolve,Deferred.ofValue,invoke,Act.eval,eg]) ?_
          with_reducible refine P9.out.mono ?_
          rintro e w9 ⟨rfl,HI11,HK11⟩
          refine⟨_,rfl,?_⟩
          have HB11:=aM (blk_kept (W:=w8.drew) HB10.out HK11.out (fun h=>by have:=HSZ6.out;omega))
          have HR11:=aM (Kd.R_kept (aC HR10.out) HK11.out (fun k hk h=>by have:=HSZ6.out;omega))
          have HK13:=aM (Kept.then_ (Kept.drew HK12.out) HK11.out (fun k hk=> .inl (.inl (by omega))))
          have HS11:=aM HI11.out.size
          have HL11:Aside0 (w6.heap.size<w9.heap.size):=⟨bN HB11.out⟩
          refine hK.out _ _ ((aG HB11.out 1).trans rfl) (fun hHeld=>?_)
          clear hK K
          refine norm_ (a':=?_) ?_ ?_
          rotate_left
          ·show Act.put _ (some 74) _=_
           simp only [pq]
           rfl
          refine pure_ (i:=5) (N:=some 75) (v:=?_) (a':=?_) #[T,T,T,T,T,T,F,F,F,F] rfl rfl (by kernel_rfl) (fun _ _ _ h=>h) (Or.inl ⟨by rfl,?_⟩) ?_ ?_
          rotate_left;(intro w';go_simp;with_reducible rfl);rotate_left;(simp only [pq];rfl)
          refine one_ (i:=6) (N:=some 76) #[T,T,T,T,T,T,T,F,F,F] rfl rfl (by kernel_rfl) (by decide) (fun K hK=>?_)
          refine value_ (w1:=?_) (v:=?_) (by rfl) rfl ?_ ?_
          rotate_left 2
          ·go_simp
           constructor
           ·rfl
           ·rfl
          refine hK.out _ _ ((aG (aI HB11.out _) 1).trans rfl) (fun hHeld=>?_)
          clear hK K
          refine norm_ (a':=?_) ?_ ?_
          rotate_left
          ·show Act.put _ (some 76) _=_
           simp only [pq]
           rfl
          refine one_ (i:=7) (N:=some 77) #[T,T,T,T,T,T,T,T,F,F] rfl rfl (by kernel_rfl) (by decide) (fun K hK=>?_)
          refine Kd.R_append_step k43 (w0:=w9) (w.heap.size+4) (by rfl) (.tmp 71) (.tmp 76) 29 43 (.agg #[.bool false,.int .i64 0]) 16 rfl Try.underlying29 miSym rfl (by decide) (by omega) vr ar (⟨true,x⟩:S43) [.bool true,.int .i64 x] (fun k=>w6.heap.size<k) (fun _=>False) rfl rfl (k43_mkM _ _ _ (⟨true,x⟩:S43)) (fun _ hk=>hk.elim) (fun k hk=>Nat.lt_of_lt_of_le HL11.out hk) HR11.out (Below.refl _ _) HS11.out (by have:=HARL.out;omega) ?_
          intro v1 w1 ho hb hg hat
          obtain⟨An,ln,kn,rfl⟩:∃An ln cn,v1= .slice An ln cn:=by obtain⟨An,cn,e⟩:=Kd.R_slice ho;exact⟨An,_,cn,e⟩
          have HI12:=aM (HI11.out.below4 hb)
          have HB12:=aM (blk_grown HB11.out hg (fun e=>Nat.lt_irrefl _ (HR11.out.1 _ e.symm)))
          have HK14:=aM (Kept.of_grown hg HK13.out (fun k hk=> .inl (.inr (by have:=HR11.out.1 k hk;have:=HSZ6.out;omega))))
          have HR12:=aM ho
          have f3:=aH HB12.out 1
          clear ho hb hg hat
          refine hK.out _ _ ((aG HB12.out 1).trans rfl) (fun hHeld=>?_)
          clear hK K
          refine norm_ (a':=?_) ?_ ?_
          rotate_left
          ·show Act.put _ (some 77) _=_
           simp only [pq]
           rfl
          refine pure_ (i:=8) (N:=some 78) (v:=?_) (a':=?_) #[T,T,T,T,T,T,T,T,T,F] rfl rfl (by kernel_rfl) (fun _ _ _ h=>h) (Or.inl ⟨by rfl,?_⟩) ?_ ?_
          rotate_left;(intro w';go_simp;with_reducible rfl);rotate_left;(simp only [pq];rfl)
          refine last_ (i:=9) (N:=none) #[T,T,T,T,T,T,T,T,T,T] rfl rfl (by kernel_rfl) (by decide) (fun K hK=>?_)
          refine skip_ (w1:=?_) (by rfl) rfl ?_ ?_
          rotate_left
          ·go_simp
           rfl
          refine hK.out _ _ ?_
          clear hK K
          refine done_ (by kernel_rfl) ?_
          go_wp2
          go_roundg j
          case measure=>have:=HJ.out;omega
          case rel=>exact⟨j,a2+2,_,ar++ [⟨true,x⟩],congrArg (Value.int .i64) (by unfold wrap64;have:=HJL.out;have:=HCN.out;omega),Nat.le_refl _,⟨by have:=HJL.out;simp;omega⟩,⟨by have:=HA2.out;omega⟩,⟨by have h:=HMR.out;rw [mRight,if_pos HZ.out,←EX.out] at h;exact h⟩,⟨HI12.out.below4 ((Below.refl _ _).setCell (show w.heap.size+4≤w6.heap.size by have:=HSZ6.out;omega) _)⟩,⟨blk_put HB12.out 1 _ rfl⟩,⟨Kept.setCell HK14.out (.inl (.inr (show wo.heap.size≤w6.heap.size from HSZ6.out.1))) _⟩,⟨Kd.R_kept HR12.out (Kept.setCell (Kept.refl _ (fun k=>k=w6.heap.size)) (.inl rfl) _) (fun k hk h=>by omega)⟩⟩
         ·have hzd:(mPick l0 a2 2=0)=False:=eq_false hz
          go_wp2_with (first
           |(go_at_fn 29;(with_reducible refine P8.out.mono ?_);rintro e w8 ⟨rfl,HI10,HK10⟩;clear P8))
          have HZ:=aM hz
          clear hz
          have HI10d:=aM (HI10.out.below (aO (Below.refl _ w8)))
          have P9:=aM (HI10d.out.calls HR0.out (m:Int) (by have:=M1.out;omega) (by have:=HATB.out;have:=HA2.out;have:=HCN.out;omega) HU.out)
          obtain⟨x,ex⟩:∃x:Int,x=mPick l0 (a2+1) (m:Int):=⟨_,rfl⟩
          rw [←ex] at P9
          have EX:=aM ex
          have HB10:=aM (blk_kept HB8.out HK10.out (fun h=>by have:=HSZ6.out;omega))
          have HR10:=aM (Kd.R_kept HR8.out HK10.out (fun k hk h=>by have:=HSZ6.out;omega))
          have HK12:=aM (Kept.then_ HK9.out HK10.out (fun k hk=> .inl (.inl (by omega))))
          have HARL:Aside0 (ar.length≤3):=⟨by have:=HJL.out;have:=HCN.out;omega⟩
          clear ex
          refine start_ (n:=10) (S:=fun w'=>w'.cell? ⟨w6.heap.size,1,none⟩=some vr) (ds:= [9]) #[F,F,F,F,F,F,F,F,F,F] (by kernel_rfl) rfl rfl ((aG HB10.out 1).trans rfl) (fun hHeld=>?_)
          refine pure_ (i:=0) (N:=some 79) (v:=?_) (a':=?_) #[T,F,F,F,F,F,F,F,F,F] rfl rfl (by kernel_rfl) (fun _ _ _ h=>h) (Or.inl ⟨by rfl,?_⟩) ?_ ?_
          rotate_left;(intro w';go_simp;with_reducible rfl);rotate_left;(simp only [pq];rfl)
          refine pure_ (i:=2) (N:=some 81) (v:=?_) (a':=?_) #[T,F,T,F,F,F,F,F,F,F] rfl rfl (by kernel_rfl) (fun _ _ _ h=>h) (Or.inl ⟨by rfl,?_⟩) ?_ ?_
          rotate_left;(intro w';go_simp;with_reducible rfl);rotate_left;(simp only [pq];rfl)
          refine pure_ (i:=3) (N:=some 82) (v:=?_) (a':=?_) #[T,F,T,T,F,F,F,F,F,F] rfl rfl (by kernel_rfl) (fun _ _ _ h=>h) (Or.inl ⟨by rfl,?_⟩) ?_ ?_
          rotate_left;(intro w';go_simp;with_reducible rfl);rotate_left;(simp only [pq];rfl)
          refine take_ (i:=1) (N:=some 80) (v:=?_) (a':=?_) #[T,T,T,T,F,F,F,F,F,F] rfl rfl (by kernel_rfl) (fun _ _ _ h=>h) (Or.inl ⟨by rfl,?_⟩) hHeld ?_ ?_
          rotate_left
          ·intro w' s0
           go_simp
           with_reducible rfl
          rotate_left
          ·simp only [pq]
           rfl
          refine one_ (i:=4) (N:=some 83) #[T,T,T,T,T,F,F,F,F,F] rfl rfl (by kernel_rfl) (by decide) (fun K hK=>?_)
          refine call_ 29 #[.int .i64 (m:Int),.pointer (some ⟨w.heap.size+3,0,none⟩),.pointer (some ⟨w.heap.size,0,none⟩)] (by rfl) rfl (by unfold execOp;simp [resolve,Deferred.ofValue,invoke,Act.eval,eg]) ?_
          with_reducible refine P9.out.mono ?_
          rintro e w9 ⟨rfl,HI11,HK11⟩
          refine⟨_,rfl,?_⟩
          have HB11:=aM (blk_kept (W:=w8.drew) HB10.out HK11.out (fun h=>by have:=HSZ6.out;omega))
          have HR11:=aM (Kd.R_kept (aC HR10.out) HK11.out (fun k hk h=>by have:=HSZ6.out;omega))
          have HK13:=aM (Kept.then_ (Kept.drew HK12.out) HK11.out (fun k hk=> .inl (.inl (by omega))))
          have HS11:=aM HI11.out.size
          have HL11:Aside0 (w6.heap.size<w9.heap.size):=⟨bN HB11.out⟩
          refine hK.out _ _ ((aG HB11.out 1).trans rfl) (fun hHeld=>?_)
          clear hK K
          refine norm_ (a':=?_) ?_ ?_
          rotate_left
          ·show Act.put _ (some 83) _=_
           simp only [pq]
           rfl
          refine pure_ (i:=5) (N:=some 84) (v:=?_) (a':=?_) #[T,T,T,T,T,T,F,F,F,F] rfl rfl (by kernel_rfl) (fun _ _ _ h=>h) (Or.inl ⟨by rfl,?_⟩) ?_ ?_
          rotate_left;(intro w';go_simp;with_reducible rfl);rotate_left;(simp only [pq];rfl)
          refine one_ (i:=6) (N:=some 85) #[T,T,T,T,T,T,T,F,F,F] rfl rfl (by kernel_rfl) (by decide) (fun K hK=>?_)
          refine value_ (w1:=?_) (v:=?_) (by rfl) rfl ?_ ?_
          rotate_left 2
          ·go_simp
           constructor
           ·rfl
           ·rfl
          refine hK.out _ _ ((aG (aI HB11.out _) 1).trans rfl) (fun hHeld=>?_)
          clear hK K
          refine norm_ (a':=?_) ?_ ?_
          rotate_left
          ·show Act.put _ (some 85) _=_
           simp only [pq]
           rfl
          refine one_ (i:=7) (N:=some 86) #[T,T,T,T,T,T,T,T,F,F] rfl rfl (by kernel_rfl) (by decide) (fun K hK=>?_)
          refine Kd.R_append_step k43 (w0:=w9) (w.heap.size+4) (by rfl) (.tmp 80) (.tmp 85) 29 43 (.agg #[.bool false,.int .i64 0]) 16 rfl Try.underlying29 miSym rfl (by decide) (by omega) vr ar (⟨false,x⟩:S43) [.bool false,.int .i64 x] (fun k=>w6.heap.size<k) (fun _=>False) rfl rfl (k43_mkM _ _ _ (⟨false,x⟩:S43)) (fun _ hk=>hk.elim) (fun k hk=>Nat.lt_of_lt_of_le HL11.out hk) HR11.out (Below.refl _ _) HS11.out (by have:=HARL.out;omega) ?_
          intro v1 w1 ho hb hg hat
          obtain⟨An,ln,kn,rfl⟩:∃An ln cn,v1= .slice An ln cn:=by obtain⟨An,cn,e⟩:=Kd.R_slice ho;exact⟨An,_,cn,e⟩
          have HI12:=aM (HI11.out.below4 hb)
          have HB12:=aM (blk_grown HB11.out hg (fun e=>Nat.lt_irrefl _ (HR11.out.1 _ e.symm)))
          have HK14:=aM (Kept.of_grown hg HK13.out (fun k hk=> .inl (.inr (by have:=HR11.out.1 k hk;have:=HSZ6.out;omega))))
          have HR12:=aM ho
          have f3:=aH HB12.out 1
          clear ho hb hg hat
          refine hK.out _ _ ((aG HB12.out 1).trans rfl) (fun hHeld=>?_)
          clear hK K
          refine norm_ (a':=?_) ?_ ?_
          rotate_left
          ·show Act.put _ (some 86) _=_
           simp only [pq]
           rfl
          refine pure_ (i:=8) (N:=some 87) (v:=?_) (a':=?_) #[T,T,T,T,T,T,T,T,T,F] rfl rfl (by kernel_rfl) (fun _ _ _ h=>h) (Or.inl ⟨by rfl,?_⟩) ?_ ?_
          rotate_left;(intro w';go_simp;with_reducible rfl);rotate_left;(simp only [pq];rfl)
          refine last_ (i:=9) (N:=none) #[T,T,T,T,T,T,T,T,T,T] rfl rfl (by kernel_rfl) (by decide) (fun K hK=>?_)
          refine skip_ (w1:=?_) (by rfl) rfl ?_ ?_
          rotate_left
          ·go_simp
           rfl
          refine hK.out _ _ ?_
          clear hK K
          refine done_ (by kernel_rfl) ?_
          go_wp2
          go_roundg j
          case measure=>have:=HJ.out;omega
          case rel=>exact⟨j,a2+2,_,ar++ [⟨false,x⟩],congrArg (Value.int .i64) (by unfold wrap64;have:=HJL.out;have:=HCN.out;omega),Nat.le_refl _,⟨by have:=HJL.out;simp;omega⟩,⟨by have:=HA2.out;omega⟩,⟨by have h:=HMR.out;rw [mRight,if_neg HZ.out,←EX.out] at h;exact h⟩,⟨HI12.out.below4 ((Below.refl _ _).setCell (show w.heap.size+4≤w6.heap.size by have:=HSZ6.out;omega) _)⟩,⟨blk_put HB12.out 1 _ rfl⟩,⟨Kept.setCell HK14.out (.inl (.inr (show wo.heap.size≤w6.heap.size from HSZ6.out.1))) _⟩,⟨Kd.R_kept HR12.out (Kept.setCell (Kept.refl _ (fun k=>k=w6.heap.size)) (.inl rfl) _) (fun k hk h=>by omega)⟩⟩
end Go.Proofs.Ytapjfnfengefpaa.P
end
