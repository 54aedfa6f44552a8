/- Packed texts of this claim: the walks of the functions, and their plain laws; see the claim's last text. -/
import Derived.Test.YtapjfnfengefpaaProg
import Derived.Below
import Derived.Deep.Draws
import Derived.Deep.AppendLies
import Derived.Maps.AppendAt
import Derived.OwnWalk
import Derived.Laws.BytesArg
import Derived.Laws.MakeOwn
import Derived.Laws.OwnMore
import Derived.Deep.OwnRows
import Derived.Tactics
import Derived.Lib.ConvBytes
import Derived.Laws.Slices
import Derived.WalkKit
import Derived.KernelRfl
import Derived.RowKit3
import Derived.Deep.LoopGhost
import Derived.Deep.QuietTactic
import Derived.BigQuiet
import Derived.WideLaws
import Derived.Deep.DeepCutAuto
import Derived.Deep.CutBlock
import Derived.Deep.RegionHeld3
import Derived.Laws.Rows
import Derived.Lib.AppendStr
import Derived.ArgAppend
import Derived.Laws.IdiomCopy
import Derived.OrdersHeld
import Derived.Laws.BitsLemmas
import Derived.RowKit
import Derived.Laws.Runes
import Derived.Test.YtapjfnfengefpaaKMachineOne1
section
namespace Go.Proofs.Ytapjfnfengefpaa.P
open Go.RowKit Go.Proofs.YtapjfnfengefpaaW.PrintWords Go.Proofs.YtapjfnfengefpaaW.PrintLast Go.Proofs.YtapjfnfengefpaaW.PrintMore
attribute [local go_sem] max2_int min2_int max_two min_two max_three min_three max_four min_four   -- for this text's walks alone
set_option linter.unusedVariables false
set_option linter.unusedSimpArgs false
def errW:Option Int→Value
 |none=> .nilIface
 |some c=> .iface 0 (.int .i64 c)
theorem errW_none:errW none= .nilIface:=rfl
theorem errW_some (c:Int):errW (some c)= .iface 0 (.int .i64 c):=rfl
theorem info3:(Try.prog.info? 3).map (fun i=>(i.zero,i.size,i.bytes))=some (some (.int .i64 0),1,8):=by kernel_rfl
theorem info4:(Try.prog.info? 4).map (fun i=>(i.zero,i.size,i.bytes))=some (some (.bool false),1,1):=by kernel_rfl
theorem info32:(Try.prog.info? 32).map (fun i=>(i.zero,i.size,i.bytes))=some (some (.slice none 0 0),1,24):=by kernel_rfl
theorem info43:(Try.prog.info? 43).map (fun i=>(i.zero,i.size,i.bytes))=some (some (.agg #[(.bool false),(.int .i64 0)]),2,16):=by kernel_rfl
theorem info72:(Try.prog.info? 72).map (fun i=>(i.zero,i.size,i.bytes))=some (some (.agg #[(.string ⟨#[]⟩),(.int .i64 0),(.string ⟨#[]⟩),(.slice none 0 0),(.int .i64 0),(.int .i64 0),(.slice none 0 0)]),7,104):=by kernel_rfl
theorem info78:(Try.prog.info? 78).map (fun i=>(i.zero,i.size,i.bytes))=some (some (.agg #[(.int .i64 0),(.int .i64 0),(.int .i64 0),(.int .i64 0)]),4,32):=by kernel_rfl
theorem info90:(Try.prog.info? 90).map (fun i=>(i.zero,i.size,i.bytes))=some (some (.slice none 0 0),1,24):=by kernel_rfl
structure S43 where
 f0:Bool
 f1:Int
def z43:S43:=⟨false,(0:Int)⟩
def k43:Kd S43:=Kd.iso (Kd.pair Kd.bool (Kd.int .i64)) (fun x:S43=>(x.f0,x.f1))
theorem k43_open {w:World}{x:S43}{cs:List Value}(h:k43.K w x cs):cs= [.bool x.f0,.int .i64 x.f1]:=by
 obtain⟨_,_,rfl,rfl,rfl⟩:=h
 exact rfl
theorem k43_mkM (w:World) (base:Nat) (ok:Nat→Prop) (x:S43)  :k43.M w base ok x [.bool x.f0,.int .i64 x.f1]:=⟨[.bool x.f0],[.int .i64 x.f1],rfl,rfl,rfl⟩
def rd_T43 (xs:List S43) (i:Int):S43:=xs.getD i.toNat z43
theorem at_T43 {w:World}{A:Option Addr}{n:Nat}{xs:List S43}(h:Kd.C k43 w A n xs) (i:Int) (h0:0≤i) (h1:i<n):∃ad,A=some ad∧w.cell? (ad.add (i.toNat * 2))=some (.bool (rd_T43 xs i).f0)∧w.cell? ⟨(ad.add (i.toNat * 2)).block,(ad.add (i.toNat * 2)).off+1,none⟩=some (.int .i64 (rd_T43 xs i).f1):=by
 obtain⟨ad,c,e,_,hK,hc0⟩:=Kd.C_get h z43 i h0 h1
 have hc:∀j u,c[j]?=some u→w.cell? (ad.add (i.toNat * 2+j))=some u:=hc0
 obtain rfl:=k43_open hK
 exact⟨ad,e,hc 0 _ rfl,by rw [←add_field _ _ 1 (by omega)];exact hc 1 _ rfl⟩
def rd_L5 (xs:List (List Int)) (i:Int):(List Int):=xs.getD i.toNat ([]:List Int)
theorem at_L5 {w:World}{A:Option Addr}{n:Nat}{xs:List (List Int)}(h:Kd.C (Kd.slice 3 (Kd.int .i64)) w A n xs) (i:Int) (h0:0≤i) (h1:i<n):∃ad A0 c0,A=some ad∧w.cell? (ad.add i.toNat)=some (.slice A0 (rd_L5 xs i).length c0)∧(rd_L5 xs i).length≤c0∧(Kd.int .i64).C w A0 (rd_L5 xs i).length (rd_L5 xs i):=by
 obtain⟨ad,c,e,_,hK,hc0⟩:=Kd.C_get h ([]:List Int) i h0 h1
 have hc:∀j u,c[j]?=some u→w.cell? (ad.add (i.toNat * 1+j))=some u:=hc0
 obtain⟨A0,c0,rfl,l0,g0⟩:=hK
 exact⟨ad,A0,c0,e,by have hq:=hc 0 _ rfl;rwa [Nat.mul_one,Nat.add_zero] at hq,l0,g0⟩
structure S70 where
 f0:Int
 f1:ByteArray
 f2:(List Int)
 f3:Int
 f4:Int
 f5:(List S70)
def z70:S70:=⟨(0:Int),(⟨#[]⟩:ByteArray),([]:List Int),(0:Int),(0:Int),([]:List S70)⟩
def F70 (d:Kd S70):Kd S70:=Kd.iso (Kd.pair (Kd.int .i64) (Kd.pair Kd.string (Kd.pair (Kd.slice 3 (Kd.int .i64)) (Kd.pair (Kd.int .i64) (Kd.pair (Kd.int .i64) (Kd.slice 70 d)))))) (fun x:S70=>(x.f0,x.f1,x.f2,x.f3,x.f4,x.f5))
theorem mono70:Kd.Mono F70:=Kd.mono_iso _ (Kd.mono_pair (Kd.mono_const _) (Kd.mono_pair (Kd.mono_const _) (Kd.mono_pair (Kd.mono_const _) (Kd.mono_pair (Kd.mono_const _) (Kd.mono_pair (Kd.mono_const _) (Kd.mono_slice 70 Kd.mono_id))))))
theorem sub70:Kd.Sub F70 [3,70]:=Kd.sub_iso _ (Kd.sub_pair (Kd.sub_const _ (by decide)) (Kd.sub_pair (Kd.sub_const _ (by decide)) (Kd.sub_pair (Kd.sub_const _ (by decide)) (Kd.sub_pair (Kd.sub_const _ (by decide)) (Kd.sub_pair (Kd.sub_const _ (by decide)) (Kd.sub_slice 70 (by decide) Kd.sub_id))))))
theorem sz70:∀n,(Kd.upto F70 6 [3,70] n).sz=6:=Kd.upto_sz (fun _=>rfl)
def k70:Kd S70:=Kd.fix F70 6 [3,70] sz70 (Kd.upto_E sub70)
theorem k70_mk (w:World) (x:S70) {A2:Option Addr}{c2:Nat}(l2:x.f2.length≤c2) (g2:(Kd.int .i64).C w A2 x.f2.length x.f2) {A5:Option Addr}{c5:Nat}(l5:x.f5.length≤c5) (g5:k70.C w A5 x.f5.length x.f5):k70.K w x [.int .i64 x.f0,.string x.f1,.slice A2 x.f2.length c2,.int .i64 x.f3,.int .i64 x.f4,.slice A5 x.f5.length c5]:=by
 obtain⟨n5,q5⟩:=Kd.fix_C_back mono70 g5
 have r5:=Kd.upto_C_le mono70 sz70 (show n5≤n5 by omega) q5
 exact⟨n5+1,⟨[.int .i64 x.f0],[.string x.f1,.slice A2 x.f2.length c2,.int .i64 x.f3,.int .i64 x.f4,.slice A5 x.f5.length c5],rfl,rfl,⟨[.string x.f1],[.slice A2 x.f2.length c2,.int .i64 x.f3,.int .i64 x.f4,.slice A5 x.f5.length c5],rfl,rfl,⟨[.slice A2 x.f2.length c2],[.int .i64 x.f3,.int .i64 x.f4,.slice A5 x.f5.length c5],rfl,⟨A2,c2,rfl,l2,g2⟩,⟨[.int .i64 x.f3],[.int .i64 x.f4,.slice A5 x.f5.length c5],rfl,rfl,⟨[.int .i64 x.f4],[.slice A5 x.f5.length c5],rfl,rfl,⟨A5,c5,rfl,l5,r5⟩⟩⟩⟩⟩⟩⟩
theorem k70_mkM (w:World) (base:Nat) (ok:Nat→Prop) (x:S70) {v2:Value}(g2:(Kd.int .i64).R 3 w base ok v2 x.f2) {v5:Value}(g5:k70.R 70 w base ok v5 x.f5):k70.M w base ok x [.int .i64 x.f0,.string x.f1,v2,.int .i64 x.f3,.int .i64 x.f4,v5]:=by
 obtain⟨n5,q5⟩:=Kd.fix_R_back mono70 g5
 have r5:=Kd.upto_R_le mono70 sz70 (show n5≤n5 by omega) q5
 exact⟨n5+1,⟨[.int .i64 x.f0],[.string x.f1,v2,.int .i64 x.f3,.int .i64 x.f4,v5],rfl,rfl,⟨[.string x.f1],[v2,.int .i64 x.f3,.int .i64 x.f4,v5],rfl,rfl,⟨[v2],[.int .i64 x.f3,.int .i64 x.f4,v5],rfl,⟨v2,rfl,g2⟩,⟨[.int .i64 x.f3],[.int .i64 x.f4,v5],rfl,rfl,⟨[.int .i64 x.f4],[v5],rfl,rfl,⟨v5,rfl,r5⟩⟩⟩⟩⟩⟩⟩
structure S72 where
 f0:ByteArray
 f1:S70
def z72:S72:=⟨(⟨#[]⟩:ByteArray),z70⟩
def k72:Kd S72:=Kd.iso (Kd.pair Kd.string k70) (fun x:S72=>(x.f0,x.f1))
theorem k72_mk (w:World) (x:S72) {A3:Option Addr}{c3:Nat}(l3:x.f1.f2.length≤c3) (g3:(Kd.int .i64).C w A3 x.f1.f2.length x.f1.f2) {A6:Option Addr}{c6:Nat}(l6:x.f1.f5.length≤c6) (g6:k70.C w A6 x.f1.f5.length x.f1.f5):k72.K w x [.string x.f0,.int .i64 x.f1.f0,.string x.f1.f1,.slice A3 x.f1.f2.length c3,.int .i64 x.f1.f3,.int .i64 x.f1.f4,.slice A6 x.f1.f5.length c6]:=⟨[.string x.f0],[.int .i64 x.f1.f0,.string x.f1.f1,.slice A3 x.f1.f2.length c3,.int .i64 x.f1.f3,.int .i64 x.f1.f4,.slice A6 x.f1.f5.length c6],rfl,rfl,(k70_mk w x.f1 l3 g3 l6 g6)⟩
theorem k72_mkM (w:World) (base:Nat) (ok:Nat→Prop) (x:S72) {v3:Value}(g3:(Kd.int .i64).R 3 w base ok v3 x.f1.f2) {v6:Value}(g6:k70.R 70 w base ok v6 x.f1.f5):k72.M w base ok x [.string x.f0,.int .i64 x.f1.f0,.string x.f1.f1,v3,.int .i64 x.f1.f3,.int .i64 x.f1.f4,v6]:=⟨[.string x.f0],[.int .i64 x.f1.f0,.string x.f1.f1,v3,.int .i64 x.f1.f3,.int .i64 x.f1.f4,v6],rfl,rfl,(k70_mkM w base ok x.f1 g3 g6)⟩
theorem k72_mkF (W:World) (ok:Nat→Prop) (x:S72) {A3:Option Addr}{c3:Nat}(l3:x.f1.f2.length≤c3) (g3:Kd.F (Kd.int .i64) W ok A3 x.f1.f2.length x.f1.f2) {A6:Option Addr}{c6:Nat}(l6:x.f1.f5.length≤c6) (g6:Kd.F k70 W ok A6 x.f1.f5.length x.f1.f5):Kd.FK k72 W ok x [.string x.f0,.int .i64 x.f1.f0,.string x.f1.f1,.slice A3 x.f1.f2.length c3,.int .i64 x.f1.f3,.int .i64 x.f1.f4,.slice A6 x.f1.f5.length c6]:=fun W2 hW=>k72_mk W2 x l3 (g3 W2 hW) l6 (g6 W2 hW)
structure S35 where
 f0:Int
 f1:(List S43)
def z35:S35:=⟨(0:Int),([]:List S43)⟩
def k35:Kd S35:=Kd.iso (Kd.pair (Kd.int .i64) (Kd.slice 43 k43)) (fun x:S35=>(x.f0,x.f1))
theorem k35_open {w:World}{x:S35}{cs:List Value}(h:k35.K w x cs):∃A1 c1,cs= [.int .i64 x.f0,.slice A1 x.f1.length c1]∧x.f1.length≤c1∧k43.C w A1 x.f1.length x.f1:=by
 obtain⟨_,_,rfl,rfl,⟨A1,c1,rfl,l1,g1⟩⟩:=h
 exact⟨A1,c1,rfl,l1,g1⟩
theorem k35_mk (w:World) (x:S35) {A1:Option Addr}{c1:Nat}(l1:x.f1.length≤c1) (g1:k43.C w A1 x.f1.length x.f1):k35.K w x [.int .i64 x.f0,.slice A1 x.f1.length c1]:=⟨[.int .i64 x.f0],[.slice A1 x.f1.length c1],rfl,rfl,⟨A1,c1,rfl,l1,g1⟩⟩
theorem k35_mkM (w:World) (base:Nat) (ok:Nat→Prop) (x:S35) {v1:Value}(g1:k43.R 43 w base ok v1 x.f1):k35.M w base ok x [.int .i64 x.f0,v1]:=⟨[.int .i64 x.f0],[v1],rfl,rfl,⟨v1,rfl,g1⟩⟩
theorem k35_mkF (W:World) (ok:Nat→Prop) (x:S35) {A1:Option Addr}{c1:Nat}(l1:x.f1.length≤c1) (g1:Kd.F k43 W ok A1 x.f1.length x.f1):Kd.FK k35 W ok x [.int .i64 x.f0,.slice A1 x.f1.length c1]:=fun W2 hW=>k35_mk W2 x l1 (g1 W2 hW)
def rd_T35 (xs:List S35) (i:Int):S35:=xs.getD i.toNat z35
theorem at_T35 {w:World}{A:Option Addr}{n:Nat}{xs:List S35}(h:Kd.C k35 w A n xs) (i:Int) (h0:0≤i) (h1:i<n):∃ad A1 c1,A=some ad∧w.cell? (ad.add (i.toNat * 2))=some (.int .i64 (rd_T35 xs i).f0)∧w.cell? ⟨(ad.add (i.toNat * 2)).block,(ad.add (i.toNat * 2)).off+1,none⟩=some (.slice A1 (rd_T35 xs i).f1.length c1)∧(rd_T35 xs i).f1.length≤c1∧k43.C w A1 (rd_T35 xs i).f1.length (rd_T35 xs i).f1:=by
 obtain⟨ad,c,e,_,hK,hc0⟩:=Kd.C_get h z35 i h0 h1
 have hc:∀j u,c[j]?=some u→w.cell? (ad.add (i.toNat * 2+j))=some u:=hc0
 obtain⟨A1,c1,rfl,l1,g1⟩:=k35_open hK
 exact⟨ad,A1,c1,e,hc 0 _ rfl,by rw [←add_field _ _ 1 (by omega)];exact hc 1 _ rfl,l1,g1⟩
def rd_L17 (xs:List (List Bool)) (i:Int):(List Bool):=xs.getD i.toNat ([]:List Bool)
theorem at_L17 {w:World}{A:Option Addr}{n:Nat}{xs:List (List Bool)}(h:Kd.C (Kd.slice 4 Kd.bool) w A n xs) (i:Int) (h0:0≤i) (h1:i<n):∃ad A0 c0,A=some ad∧w.cell? (ad.add i.toNat)=some (.slice A0 (rd_L17 xs i).length c0)∧(rd_L17 xs i).length≤c0∧Kd.bool.C w A0 (rd_L17 xs i).length (rd_L17 xs i):=by
 obtain⟨ad,c,e,_,hK,hc0⟩:=Kd.C_get h ([]:List Bool) i h0 h1
 have hc:∀j u,c[j]?=some u→w.cell? (ad.add (i.toNat * 1+j))=some u:=hc0
 obtain⟨A0,c0,rfl,l0,g0⟩:=hK
 exact⟨ad,A0,c0,e,by have hq:=hc 0 _ rfl;rwa [Nat.mul_one,Nat.add_zero] at hq,l0,g0⟩
structure S78 where
 f0:Int
 f1:Int
 f2:Int
 f3:Int
def k78:Kd S78:=Kd.iso (Kd.pair (Kd.int .i64) (Kd.pair (Kd.int .i64) (Kd.pair (Kd.int .i64) (Kd.int .i64)))) (fun x:S78=>(x.f0,x.f1,x.f2,x.f3))
theorem k78_mkM (w:World) (base:Nat) (ok:Nat→Prop) (x:S78)  :k78.M w base ok x [.int .i64 x.f0,.int .i64 x.f1,.int .i64 x.f2,.int .i64 x.f3]:=⟨[.int .i64 x.f0],[.int .i64 x.f1,.int .i64 x.f2,.int .i64 x.f3],rfl,rfl,⟨[.int .i64 x.f1],[.int .i64 x.f2,.int .i64 x.f3],rfl,rfl,⟨[.int .i64 x.f2],[.int .i64 x.f3],rfl,rfl,rfl⟩⟩⟩
attribute [local go_sem] max2_int min2_int max_two min_two max_three min_three max_four min_four   -- for this text's walks alone
set_option linter.unusedVariables false
set_option linter.unusedSimpArgs false
theorem eqA43 (d:Nat) (w:World) (x0 y0:Bool) (x1 y1:Int):
 (Op.equalIn (d+2) 43 (.agg #[.bool x0,.int .i64 x1]) (.agg #[.bool y0,.int .i64 y1])).run Try.prog w= .ok (x0==y0 && (x1==y1)) w:=by
 refine eqA_of Try.underlying43 (by kernel_rfl) ?_
 refine eqf_cons (by rfl) (by go_simp;rfl) (by go_simp;rfl) (by go_simp) ?_
 exact eqf_last (by rfl) (by go_simp;rfl) (by go_simp;rfl) (by go_simp)
attribute [local go_sem] max2_int min2_int max_two min_two max_three min_three max_four min_four   -- for this text's walks alone
set_option linter.unusedVariables false
set_option linter.unusedSimpArgs false
attribute [local go_sem high] eqA43
mutual
def regletref16_Same.j0:Nat→Bool→List (S43)→Bool→List (S43)→Bool→Option (Bool)
 |0,_,_,_,_,_=>none
 |k+1,x19,x102000,x102001,x103000,x103001=>if x19=true then(some false) else(regletref16_Same.l0 k 0 x102000 x102001 x103000 x103001)
def regletref16_Same.l0:Nat→Int→List (S43)→Bool→List (S43)→Bool→Option (Bool)
 |0,_,_,_,_,_=>none
 |k+1,x5,x102000,x102001,x103000,x103001=>if x5<(x102000.length:Int) then(if 0≤x5 then(if x5<(x103000.length:Int) then(if(!(((rd_T43 x102000 x5).f0)==((rd_T43 x103000 x5).f0))||(!(((rd_T43 x102000 x5).f1)==((rd_T43 x103000 x5).f1))))=true then(some false) else(regletref16_Same.l0 k (wrap64 (x5+1)) x102000 x102001 x103000 x103001)) else(none)) else(none)) else(some true)
end
def regletref16_Same.f (k:Nat) (l0_0:List (S43)) (a0_1:Bool) (l1_0:List (S43)) (a1_1:Bool):Option (Bool):=if(a0_1 !=a1_1)=true then(regletref16_Same.j0 k true l0_0 a0_1 l1_0 a1_1) else(regletref16_Same.j0 k ((l0_0.length:Int) !=(l1_0.length:Int)) l0_0 a0_1 l1_0 a1_1)
theorem regletref16_Same.mono_l:∀k,(∀y0 y1 y2 y3 y4,LeO (regletref16_Same.j0 k y0 y1 y2 y3 y4) (regletref16_Same.j0 (k+1) y0 y1 y2 y3 y4))∧(∀y0 y1 y2 y3 y4,LeO (regletref16_Same.l0 k y0 y1 y2 y3 y4) (regletref16_Same.l0 (k+1) y0 y1 y2 y3 y4))
 |0=>⟨fun _ _ _ _ _ r h=>by simp [regletref16_Same.j0] at h,fun _ _ _ _ _ r h=>by simp [regletref16_Same.l0] at h⟩
 |k+1=>by
  obtain⟨ih0,ih1⟩:=regletref16_Same.mono_l k
  refine⟨?_,?_⟩
  ·intro y0 y1 y2 y3 y4
   unfold regletref16_Same.j0
   repeat' first
   |(with_reducible exact ih0 _ _ _ _ _)
   |(with_reducible exact ih1 _ _ _ _ _)
   |(with_reducible exact LeO.refl _)
   |(with_reducible exact LeO.none _)
   |(with_reducible refine LeO.ite ?_ ?_)
   |(with_reducible refine LeO.bind ?_ (fun _=>?_))
   |exact ih0 _ _ _ _ _
   |exact ih1 _ _ _ _ _
   |exact LeO.none _
   |refine LeO.ite ?_ ?_
   |refine LeO.bind ?_ (fun _=>?_)
  ·intro y0 y1 y2 y3 y4
   unfold regletref16_Same.l0
   repeat' first
   |(with_reducible exact ih0 _ _ _ _ _)
   |(with_reducible exact ih1 _ _ _ _ _)
   |(with_reducible exact LeO.refl _)
   |(with_reducible exact LeO.none _)
   |(with_reducible refine LeO.ite ?_ ?_)
   |(with_reducible refine LeO.bind ?_ (fun _=>?_))
   |exact ih0 _ _ _ _ _
   |exact ih1 _ _ _ _ _
   |exact LeO.none _
   |refine LeO.ite ?_ ?_
   |refine LeO.bind ?_ (fun _=>?_)
theorem regletref16_Same.mono:∀a0 a1 a2 a3 k,LeO (regletref16_Same.f k a0 a1 a2 a3) (regletref16_Same.f (k+1) a0 a1 a2 a3):=by
 intro a0 a1 a2 a3 k
 obtain⟨ih0,ih1⟩:=regletref16_Same.mono_l k
 unfold regletref16_Same.f
 repeat' first
  |(with_reducible exact ih0 _ _ _ _ _)
  |(with_reducible exact ih1 _ _ _ _ _)
  |(with_reducible exact LeO.refl _)
  |(with_reducible exact LeO.none _)
  |(with_reducible refine LeO.ite ?_ ?_)
  |(with_reducible refine LeO.bind ?_ (fun _=>?_))
  |exact ih0 _ _ _ _ _
  |exact ih1 _ _ _ _ _
  |exact LeO.none _
  |refine LeO.ite ?_ ?_
  |refine LeO.bind ?_ (fun _=>?_)
set_option maxHeartbeats 8000000 in
set_option maxRecDepth 100000 in
theorem regletref16_Same.calls (k:Nat) (A0_0:Option Addr) (c0_0:Nat) (l0_0:List (S43)) (a0_1:Bool) (A1_0:Option Addr) (c1_0:Nat) (l1_0:List (S43)) (a1_1:Bool) (r:Bool) (w:World) (hr0_0:Kd.C k43 w A0_0 l0_0.length l0_0) (hc0_0:l0_0.length≤c0_0) (hr1_0:Kd.C k43 w A1_0 l1_0.length l1_0) (hc1_0:l1_0.length≤c1_0) (h:regletref16_Same.f k l0_0 a0_1 l1_0 a1_1=some r):
 Calls Try.prog 16 #[.agg #[.slice A0_0 l0_0.length c0_0,.bool a0_1],.agg #[.slice A1_0 l1_0.length c1_0,.bool a1_1]] w fun e w'=>e= .returned (.bool r)∧Below w.heap.size w w':=by
 have hu31:=Try.underlying31
 have hu43:=Try.underlying43
 have HR0_0:=Aside0.mk hr0_0
 have HC0_0:=Aside0.mk hc0_0
 clear hr0_0 hc0_0
 have HR1_0:=Aside0.mk hr1_0
 have HC1_0:=Aside0.mk hc1_0
 clear hr1_0 hc1_0
 have HB:=Aside0.mk (Below.refl w.heap.size w)
 have H:(if(a0_1 !=a1_1)=true then(regletref16_Same.j0 k true l0_0 a0_1 l1_0 a1_1) else(regletref16_Same.j0 k ((l0_0.length:Int) !=(l1_0.length:Int)) l0_0 a0_1 l1_0 a1_1))=some r:=h
 clear h
 have HC3:=Aside0.mk H
 clear H
 go_enter Try.func16,Try.ntmps16
 go_upto_region 1 with(first|((with_reducible refine gate_dst (N:=2) rfl ?_);(try(refine gate_guard (by rfl) ?_;dsimp only));refine box_event ?hg (N:=2) ?hd (cs:=#[.slice A0_0 l0_0.length c0_0,.bool a0_1]) (t:=31) ?hr ?_;(case hd=>rfl);(case hg=>rfl);(case hr=>first|(go_simp;done)|(go_simp;rfl));intro gb101 hg w4 hbox hb;have n0_:=Aside0.mk (below_step (by repeat(first|(with_reducible first|exact HB.out|apply below_alloc|apply pw_below_drewN|apply below_drew1)|exact HB.out)) hb);have n1_:=Aside0.mk (hbox);have n2_:=Aside0.mk ((by rw [hg];exact(below_size (by repeat(first|(with_reducible first|exact HB.out|apply below_alloc|apply pw_below_drewN|apply below_drew1)|exact HB.out))):w.heap.size≤gb101));have n3_:=Aside0.mk ((by rw [hg];exact(below_size (by repeat(first|(with_reducible first|exact HB.out|apply below_alloc|apply pw_below_drewN|apply below_drew1)|exact HB.out))):w.heap.size≤gb101));clear HB;have HB:=n0_;have BK101:=n1_;have GW101:=n2_;have GE101:=n3_;clear n0_ n1_ n2_ n3_;clear hb hbox hg)|((with_reducible refine gate_dst (N:=3) rfl ?_);(try(refine gate_guard (by rfl) ?_;dsimp only));refine box_event ?hg (N:=3) ?hd (cs:=#[.slice A1_0 l1_0.length c1_0,.bool a1_1]) (t:=31) ?hr ?_;(case hd=>rfl);(case hg=>rfl);(case hr=>first|(go_simp;done)|(go_simp;rfl));intro gb102 hg w5 hbox hb;have n0_:=Aside0.mk (blk_below (g:=gb101) (o:= .cells #[.slice A0_0 l0_0.length c0_0,.bool a0_1] 31 (0,0)) (by(with_reducible repeat(first|refine blk_drewN ?_ _|refine blk_drew ?_|refine blk_alloc ?_ _));exact BK101.out) hb);have n1_:=Aside0.mk (below_step (by repeat(first|(with_reducible first|exact HB.out|apply below_alloc|apply pw_below_drewN|apply below_drew1|refine below_set ?_ GE101.out)|exact HB.out)) hb);have n2_:=Aside0.mk (hbox);have n3_:=Aside0.mk ((by rw [hg];exact(below_size (by repeat(first|(with_reducible first|exact HB.out|apply below_alloc|apply pw_below_drewN|apply below_drew1|refine below_set ?_ GE101.out)|exact HB.out))):w.heap.size≤gb102));have n4_:=Aside0.mk ((by rw [hg];exact(below_size (by repeat(first|(with_reducible first|exact HB.out|apply below_alloc|apply pw_below_drewN|apply below_drew1|refine below_set ?_ GE101.out)|exact HB.out))):w.heap.size≤gb102));have n5_:=Aside0.mk ((by rw [hg];exact Nat.ne_of_lt (blk_lt (g:=gb101) (o:= .cells #[.slice A0_0 l0_0.length c0_0,.bool a0_1] 31 (0,0)) (by(with_reducible repeat(first|refine blk_drewN ?_ _|refine blk_drew ?_|refine blk_alloc ?_ _));exact BK101.out)):gb101≠gb102));have n6_:=Aside0.mk ((by rw [hg];exact Nat.ne_of_gt (blk_lt (g:=gb101) (o:= .cells #[.slice A0_0 l0_0.length c0_0,.bool a0_1] 31 (0,0)) (by(with_reducible repeat(first|refine blk_drewN ?_ _|refine blk_drew ?_|refine blk_alloc ?_ _));exact BK101.out)):gb102≠gb101));clear BK101;clear HB;have BK101:=n0_;have HB:=n1_;have BK102:=n2_;have GW102:=n3_;have GE102:=n4_;have NB101_102:=n5_;have NB102_101:=n6_;clear n0_ n1_ n2_ n3_ n4_ n5_ n6_;clear hb hbox hg))
 repeat(go_quiet (first|((with_reducible refine gate_dst (N:=2) rfl ?_);(try(refine gate_guard (by rfl) ?_;dsimp only));refine box_event ?hg (N:=2) ?hd (cs:=#[.slice A0_0 l0_0.length c0_0,.bool a0_1]) (t:=31) ?hr ?_;(case hd=>rfl);(case hg=>rfl);(case hr=>first|(go_simp;done)|(go_simp;rfl));intro gb101 hg w4 hbox hb;have n0_:=Aside0.mk (below_step (by repeat(first|(with_reducible first|exact HB.out|apply below_alloc|apply pw_below_drewN|apply below_drew1)|exact HB.out)) hb);have n1_:=Aside0.mk (hbox);have n2_:=Aside0.mk ((by rw [hg];exact(below_size (by repeat(first|(with_reducible first|exact HB.out|apply below_alloc|apply pw_below_drewN|apply below_drew1)|exact HB.out))):w.heap.size≤gb101));have n3_:=Aside0.mk ((by rw [hg];exact(below_size (by repeat(first|(with_reducible first|exact HB.out|apply below_alloc|apply pw_below_drewN|apply below_drew1)|exact HB.out))):w.heap.size≤gb101));clear HB;have HB:=n0_;have BK101:=n1_;have GW101:=n2_;have GE101:=n3_;clear n0_ n1_ n2_ n3_;clear hb hbox hg)|((with_reducible refine gate_dst (N:=3) rfl ?_);(try(refine gate_guard (by rfl) ?_;dsimp only));refine box_event ?hg (N:=3) ?hd (cs:=#[.slice A1_0 l1_0.length c1_0,.bool a1_1]) (t:=31) ?hr ?_;(case hd=>rfl);(case hg=>rfl);(case hr=>first|(go_simp;done)|(go_simp;rfl));intro gb102 hg w5 hbox hb;have n0_:=Aside0.mk (blk_below (g:=gb101) (o:= .cells #[.slice A0_0 l0_0.length c0_0,.bool a0_1] 31 (0,0)) (by(with_reducible repeat(first|refine blk_drewN ?_ _|refine blk_drew ?_|refine blk_alloc ?_ _));exact BK101.out) hb);have n1_:=Aside0.mk (below_step (by repeat(first|(with_reducible first|exact HB.out|apply below_alloc|apply pw_below_drewN|apply below_drew1|refine below_set ?_ GE101.out)|exact HB.out)) hb);have n2_:=Aside0.mk (hbox);have n3_:=Aside0.mk ((by rw [hg];exact(below_size (by repeat(first|(with_reducible first|exact HB.out|apply below_alloc|apply pw_below_drewN|apply below_drew1|refine below_set ?_ GE101.out)|exact HB.out))):w.heap.size≤gb102));have n4_:=Aside0.mk ((by rw [hg];exact(below_size (by repeat(first|(with_reducible first|exact HB.out|apply below_alloc|apply pw_below_drewN|apply below_drew1|refine below_set ?_ GE101.out)|exact HB.out))):w.heap.size≤gb102));have n5_:=Aside0.mk ((by rw [hg];exact Nat.ne_of_lt (blk_lt (g:=gb101) (o:= .cells #[.slice A0_0 l0_0.length c0_0,.bool a0_1] 31 (0,0)) (by(with_reducible repeat(first|refine blk_drewN ?_ _|refine blk_drew ?_|refine blk_alloc ?_ _));exact BK101.out)):gb101≠gb102));have n6_:=Aside0.mk ((by rw [hg];exact Nat.ne_of_gt (blk_lt (g:=gb101) (o:= .cells #[.slice A0_0 l0_0.length c0_0,.bool a0_1] 31 (0,0)) (by(with_reducible repeat(first|refine blk_drewN ?_ _|refine blk_drew ?_|refine blk_alloc ?_ _));exact BK101.out)):gb102≠gb101));clear BK101;clear HB;have BK101:=n0_;have HB:=n1_;have BK102:=n2_;have GW102:=n3_;have GE102:=n4_;have NB101_102:=n5_;have NB102_101:=n6_;clear n0_ n1_ n2_ n3_ n4_ n5_ n6_;clear hb hbox hg));go_upto_region 1 with(first|((with_reducible refine gate_dst (N:=2) rfl ?_);(try(refine gate_guard (by rfl) ?_;dsimp only));refine box_event ?hg (N:=2) ?hd (cs:=#[.slice A0_0 l0_0.length c0_0,.bool a0_1]) (t:=31) ?hr ?_;(case hd=>rfl);(case hg=>rfl);(case hr=>first|(go_simp;done)|(go_simp;rfl));intro gb101 hg w4 hbox hb;have n0_:=Aside0.mk (below_step (by repeat(first|(with_reducible first|exact HB.out|apply below_alloc|apply pw_below_drewN|apply below_drew1)|exact HB.out)) hb);have n1_:=Aside0.mk (hbox);have n2_:=Aside0.mk ((by rw [hg];exact(below_size (by repeat(first|(with_reducible first|exact HB.out|apply below_alloc|apply pw_below_drewN|apply below_drew1)|exact HB.out))):w.heap.size≤gb101));have n3_:=Aside0.mk ((by rw [hg];exact(below_size (by repeat(first|(with_reducible first|exact HB.out|apply below_alloc|apply pw_below_drewN|apply below_drew1)|exact HB.out))):w.heap.size≤gb101));clear HB;have HB:=n0_;have BK101:=n1_;have GW101:=n2_;have GE101:=n3_;clear n0_ n1_ n2_ n3_;clear hb hbox hg)|((with_reducible refine gate_dst (N:=3) rfl ?_);(try(refine gate_guard (by rfl) ?_;dsimp only));refine box_event ?hg (N:=3) ?hd (cs:=#[.slice A1_0 l1_0.length c1_0,.bool a1_1]) (t:=31) ?hr ?_;(case hd=>rfl);(case hg=>rfl);(case hr=>first|(go_simp;done)|(go_simp;rfl));intro gb102 hg w5 hbox hb;have n0_:=Aside0.mk (blk_below (g:=gb101) (o:= .cells #[.slice A0_0 l0_0.length c0_0,.bool a0_1] 31 (0,0)) (by(with_reducible repeat(first|refine blk_drewN ?_ _|refine blk_drew ?_|refine blk_alloc ?_ _));exact BK101.out) hb);have n1_:=Aside0.mk (below_step (by repeat(first|(with_reducible first|exact HB.out|apply below_alloc|apply pw_below_drewN|apply below_drew1|refine below_set ?_ GE101.out)|exact HB.out)) hb);have n2_:=Aside0.mk (hbox);have n3_:=Aside0.mk ((by rw [hg];exact(below_size (by repeat(first|(with_reducible first|exact HB.out|apply below_alloc|apply pw_below_drewN|apply below_drew1|refine below_set ?_ GE101.out)|exact HB.out))):w.heap.size≤gb102));have n4_:=Aside0.mk ((by rw [hg];exact(below_size (by repeat(first|(with_reducible first|exact HB.out|apply below_alloc|apply pw_below_drewN|apply below_drew1|refine below_set ?_ GE101.out)|exact HB.out))):w.heap.size≤gb102));have n5_:=Aside0.mk ((by rw [hg];exact Nat.ne_of_lt (blk_lt (g:=gb101) (o:= .cells #[.slice A0_0 l0_0.length c0_0,.bool a0_1] 31 (0,0)) (by(with_reducible repeat(first|refine blk_drewN ?_ _|refine blk_drew ?_|refine blk_alloc ?_ _));exact BK101.out)):gb101≠gb102));have n6_:=Aside0.mk ((by rw [hg];exact Nat.ne_of_gt (blk_lt (g:=gb101) (o:= .cells #[.slice A0_0 l0_0.length c0_0,.bool a0_1] 31 (0,0)) (by(with_reducible repeat(first|refine blk_drewN ?_ _|refine blk_drew ?_|refine blk_alloc ?_ _));exact BK101.out)):gb102≠gb101));clear BK101;clear HB;have BK101:=n0_;have HB:=n1_;have BK102:=n2_;have GW102:=n3_;have GE102:=n4_;have NB101_102:=n5_;have NB102_101:=n6_;clear n0_ n1_ n2_ n3_ n4_ n5_ n6_;clear hb hbox hg)))
 (try simp only [Act.put,List.setIfInBounds_toArray,List.set_cons_zero,List.set_cons_succ])
 go_cut [19] (fun v19 wc=>∃(kq:Nat) (x19_2:Bool),v19= .bool x19_2∧Aside0 (regletref16_Same.j0 kq x19_2 l0_0 a0_1 l1_0 a1_1=some r)∧Aside0 (kq≤k)∧Aside0 (wc.heap[gb101]?=some (.cells #[(.slice A0_0 l0_0.length c0_0),.bool a0_1] 31 (0,0)))∧Aside0 (wc.heap[gb102]?=some (.cells #[(.slice A1_0 l1_0.length c1_0),.bool a1_1] 31 (0,0)))∧Aside0 (Below w.heap.size w wc))
 case first=>
  have H:=HC3.out
  clear HC3
  by_cases c6:(a0_1 !=a1_1)=true
  ·rw [if_pos c6] at H
   have c6b0:(a0_1 !=a1_1)=true:=c6
   (try(have c6b1:decide (a0_1=a1_1)=false:=by simpa using c6))
   (try(have c6b2:(a0_1==a1_1)=false:=by simpa using c6))
   (try(have c6b3:¬(a0_1=a1_1):=by simpa using c6))
   clear c6
   (first|rw [c6b0]|(simp only [i64_w,i32_w];rw [c6b0])|skip)
   have H':=Aside0.mk H
   clear H
   have hnb7:=NB101_102.out
   have hnc7:=NB102_101.out
   have hcz8_0:w5.cell? ⟨gb101,0,none⟩=some (.slice A0_0 l0_0.length c0_0):=(blk_cell BK101.out 0).trans rfl
   have hcz8_1:w5.cell? ⟨gb101,1,none⟩=some (.bool a0_1):=(blk_cell BK101.out 1).trans rfl
   have hfz8_0:=blk_frozen BK101.out 0
   have hfz8_1:=blk_frozen BK101.out 1
   have hcz9_0:w5.cell? ⟨gb102,0,none⟩=some (.slice A1_0 l1_0.length c1_0):=(blk_cell BK102.out 0).trans rfl
   have hcz9_1:w5.cell? ⟨gb102,1,none⟩=some (.bool a1_1):=(blk_cell BK102.out 1).trans rfl
   have hfz9_0:=blk_frozen BK102.out 0
   have hfz9_1:=blk_frozen BK102.out 1
   go_wp2
   repeat(go_quiet (fail);try go_wp2)
   go_meet
   case rel=>exact⟨_,(true),(by first|rfl|(simp;done)|(simp [*];done)),H',⟨by first|omega|exact Nat.le_refl _⟩,⟨by(with_reducible repeat(first|refine blk_drewN ?_ _|refine blk_drew ?_|refine blk_alloc ?_ _));exact BK101.out⟩,⟨by(with_reducible repeat(first|refine blk_drewN ?_ _|refine blk_drew ?_|refine blk_alloc ?_ _));exact BK102.out⟩,⟨by repeat(first|(with_reducible first|exact HB.out|apply below_alloc|apply pw_below_drewN|apply below_drew1|refine below_set ?_ GE101.out|refine below_set ?_ GE102.out)|exact HB.out)⟩⟩
  ·rw [if_neg c6] at H
   have c6b0:(a0_1 !=a1_1)=false:=by simpa using c6
   (try(have c6b1:decide (a0_1=a1_1)=true:=by simpa using c6))
   (try(have c6b2:(a0_1==a1_1)=true:=by simpa using c6))
   clear c6
   (first|rw [c6b0]|(simp only [i64_w,i32_w];rw [c6b0])|skip)
   have H':=Aside0.mk H
   clear H
   have hnb10:=NB101_102.out
   have hnc10:=NB102_101.out
   have hcz11_0:w5.cell? ⟨gb101,0,none⟩=some (.slice A0_0 l0_0.length c0_0):=(blk_cell BK101.out 0).trans rfl
   have hcz11_1:w5.cell? ⟨gb101,1,none⟩=some (.bool a0_1):=(blk_cell BK101.out 1).trans rfl
   have hfz11_0:=blk_frozen BK101.out 0
   have hfz11_1:=blk_frozen BK101.out 1
   have hcz12_0:w5.cell? ⟨gb102,0,none⟩=some (.slice A1_0 l1_0.length c1_0):=(blk_cell BK102.out 0).trans rfl
   have hcz12_1:w5.cell? ⟨gb102,1,none⟩=some (.bool a1_1):=(blk_cell BK102.out 1).trans rfl
   have hfz12_0:=blk_frozen BK102.out 0
   have hfz12_1:=blk_frozen BK102.out 1
   go_wp2
   repeat(go_quiet (fail);try go_wp2)
   go_meet
   case rel=>exact⟨_,(((l0_0.length:Int) !=(l1_0.length:Int))),(by first|rfl|(simp;done)|(simp [*];done)),H',⟨by first|omega|exact Nat.le_refl _⟩,⟨by(with_reducible repeat(first|refine blk_drewN ?_ _|refine blk_drew ?_|refine blk_alloc ?_ _));exact BK101.out⟩,⟨by(with_reducible repeat(first|refine blk_drewN ?_ _|refine blk_drew ?_|refine blk_alloc ?_ _));exact BK102.out⟩,⟨by repeat(first|(with_reducible first|exact HB.out|apply below_alloc|apply pw_below_drewN|apply below_drew1|refine below_set ?_ GE101.out|refine below_set ?_ GE102.out)|exact HB.out)⟩⟩
 case rest=>
  clear HC3
  (try clear c1);(try clear p2);(try clear c6);(try clear c6b0);(try clear c6b1);(try clear c6b2);(try clear c7);(try clear c10);(try clear hcz11_0);(try clear hcz11_1);(try clear hcz12_0);(try clear hcz12_1);(try clear hcz8_0);(try clear hcz8_1);(try clear hcz9_0);(try clear hcz9_1);(try clear hfz11_0);(try clear hfz11_1);(try clear hfz12_0);(try clear hfz12_1);(try clear hfz8_0);(try clear hfz8_1)
  (try clear hfz9_0);(try clear hfz9_1)
  obtain⟨kq,x19_2,rfl,HA,HJ2,BK101,BK102,HB⟩:=hcut
  cases kq with
  |zero=>exact absurd HA.out (by simp [regletref16_Same.j0])
  |succ kj2=>
   have H:=HA.out
   clear HA
   simp only [regletref16_Same.j0] at H
   by_cases c13:x19_2=true
   ·subst c13
    have H1:(some false)=some r:=by rw [if_pos rfl] at H;exact H
    clear H
    have H:=H1
    clear H1
    obtain rfl:=Option.some.inj H
    go_wp2
    repeat(go_quiet (fail);try go_wp2)
    go_ret
    exact⟨by first|rfl|(simp [errW_none,errW_some]<;>rfl)|(simp [*,errW_none,errW_some]<;>rfl),by repeat(first|(with_reducible first|exact HB.out|apply below_alloc|apply pw_below_drewN|apply below_drew1|refine below_set ?_ GE101.out|refine below_set ?_ GE102.out)|exact HB.out)⟩
   ·replace c13:=Bool.eq_false_iff.mpr c13
    subst c13
    have H1:(regletref16_Same.l0 kj2 0 l0_0 a0_1 l1_0 a1_1)=some r:=by rw [if_neg (show ¬(false=true) by decide)] at H;exact H
    clear H
    have H:=H1
    clear H1
    have H':=Aside0.mk H
    clear H
    go_wp2
    repeat(go_quiet (fail);try go_wp2)
    go_loopg [5] kj2 (fun kq v5 w'=>∃(x5_2:Int),v5= .int .i64 x5_2∧Aside0 (regletref16_Same.l0 kq x5_2 l0_0 a0_1 l1_0 a1_1=some r)∧Aside0 (kq≤kj2)∧Aside0 (w'.heap[gb101]?=some (.cells #[(.slice A0_0 l0_0.length c0_0),.bool a0_1] 31 (0,0)))∧Aside0 (w'.heap[gb102]?=some (.cells #[(.slice A1_0 l1_0.length c1_0),.bool a1_1] 31 (0,0)))∧Aside0 (Below w.heap.size w w'))
    case atStart=>exact⟨(0),(by first|rfl|(simp;done)|(simp [*];done)),H',⟨Nat.le_refl _⟩,⟨by(with_reducible repeat(first|refine blk_drewN ?_ _|refine blk_drew ?_|refine blk_alloc ?_ _));exact BK101.out⟩,⟨by(with_reducible repeat(first|refine blk_drewN ?_ _|refine blk_drew ?_|refine blk_alloc ?_ _));exact BK102.out⟩,⟨by repeat(first|(with_reducible first|exact HB.out|apply below_alloc|apply pw_below_drewN|apply below_drew1|refine below_set ?_ GE101.out|refine below_set ?_ GE102.out)|exact HB.out)⟩⟩
    case round=>
     clear H'
     (try clear c1);(try clear p2);(try clear c6);(try clear c6b0);(try clear c6b1);(try clear c6b2);(try clear c7);(try clear c10);(try clear c13);(try clear hcz11_0);(try clear hcz11_1);(try clear hcz12_0);(try clear hcz12_1);(try clear hcz8_0);(try clear hcz8_1);(try clear hcz9_0);(try clear hcz9_1);(try clear hfz11_0);(try clear hfz11_1);(try clear hfz12_0);(try clear hfz12_1);(try clear hfz8_0);(try clear hfz8_1)
     (try clear hfz9_0);(try clear hfz9_1);(try clear p2)
     obtain⟨x5_2,rfl,HA,HK2,BK101,BK102,HB⟩:=hrel
     cases gk with
     |zero=>exact absurd HA.out (by simp [regletref16_Same.l0])
     |succ k2=>
      have H:=HA.out
      clear HA
      simp only [regletref16_Same.l0] at H
      by_cases c14:x5_2<(l0_0.length:Int)
      ·rw [if_pos c14] at H
       have c14b0:decide (x5_2<(l0_0.length:Int))=true:=decide_eq_true c14
       clear c14
       by_cases c15:0≤x5_2
       rotate_left
       ·rw [if_neg c15] at H
        exact absurd H (by simp)
       rw [if_pos c15] at H
       have c15b0:decide (0≤x5_2)=true:=decide_eq_true c15
       clear c15
       by_cases c16:x5_2<(l1_0.length:Int)
       rotate_left
       ·rw [if_neg c16] at H
        exact absurd H (by simp)
       rw [if_pos c16] at H
       have c16b0:decide (x5_2<(l1_0.length:Int))=true:=decide_eq_true c16
       clear c16
       by_cases c17:(!(((rd_T43 l0_0 x5_2).f0)==((rd_T43 l1_0 x5_2).f0))||(!(((rd_T43 l0_0 x5_2).f1)==((rd_T43 l1_0 x5_2).f1))))=true
       ·rw [if_pos c17] at H
        have c17b0:(!(((rd_T43 l0_0 x5_2).f0)==((rd_T43 l1_0 x5_2).f0))||(!(((rd_T43 l0_0 x5_2).f1)==((rd_T43 l1_0 x5_2).f1))))=true:=c17
        clear c17
        obtain rfl:=Option.some.inj H
        have hnb18:=NB101_102.out
        have hnc18:=NB102_101.out
        have hcz19_0:wr.cell? ⟨gb101,0,none⟩=some (.slice A0_0 l0_0.length c0_0):=(blk_cell BK101.out 0).trans rfl
        have hcz19_1:wr.cell? ⟨gb101,1,none⟩=some (.bool a0_1):=(blk_cell BK101.out 1).trans rfl
        have hfz19_0:=blk_frozen BK101.out 0
        have hfz19_1:=blk_frozen BK101.out 1
        have p103:0≤(x5_2:Int):=of_decide_eq_true (by first|(with_reducible assumption)|assumption)
        have q103:x5_2<(l0_0.length:Int):=of_decide_eq_true (by first|(with_reducible assumption)|assumption)
        obtain⟨ad103,e103,hx103_0,hx103_1⟩:=at_T43 HR0_0.out x5_2 p103 q103
        cases e103
        replace hx103_0:=(HB.out.cell (World.block_lt_of_cell? w _ hx103_0)).trans hx103_0
        replace hx103_1:=(HB.out.cell (World.block_lt_of_cell? w _ hx103_1)).trans hx103_1
        replace p103:=eq_true p103
        replace q103:=eq_true q103
        have hcz20_0:wr.cell? ⟨gb102,0,none⟩=some (.slice A1_0 l1_0.length c1_0):=(blk_cell BK102.out 0).trans rfl
        have hcz20_1:wr.cell? ⟨gb102,1,none⟩=some (.bool a1_1):=(blk_cell BK102.out 1).trans rfl
        have hfz20_0:=blk_frozen BK102.out 0
        have hfz20_1:=blk_frozen BK102.out 1
        have p104:0≤(x5_2:Int):=of_decide_eq_true (by first|(with_reducible assumption)|assumption)
        have q104:x5_2<(l1_0.length:Int):=of_decide_eq_true (by first|(with_reducible assumption)|assumption)
        obtain⟨ad104,e104,hx104_0,hx104_1⟩:=at_T43 HR1_0.out x5_2 p104 q104
        cases e104
        replace hx104_0:=(HB.out.cell (World.block_lt_of_cell? w _ hx104_0)).trans hx104_0
        replace hx104_1:=(HB.out.cell (World.block_lt_of_cell? w _ hx104_1)).trans hx104_1
        replace p104:=eq_true p104
        replace q104:=eq_true q104
        go_wp2
        repeat(go_quiet (fail);try go_wp2)
        go_ret
        exact⟨by first|rfl|(simp [errW_none,errW_some]<;>rfl)|(simp [*,errW_none,errW_some]<;>rfl),by repeat(first|(with_reducible first|exact HB.out|apply below_alloc|apply pw_below_drewN|apply below_drew1|refine below_set ?_ GE101.out|refine below_set ?_ GE102.out)|exact HB.out)⟩
       ·rw [if_neg c17] at H
        have c17b0:(!(((rd_T43 l0_0 x5_2).f0)==((rd_T43 l1_0 x5_2).f0))||(!(((rd_T43 l0_0 x5_2).f1)==((rd_T43 l1_0 x5_2).f1))))=false:=by simpa using c17
        clear c17
        have H':=Aside0.mk H
        clear H
        have hnb21:=NB101_102.out
        have hnc21:=NB102_101.out
        have hcz22_0:wr.cell? ⟨gb101,0,none⟩=some (.slice A0_0 l0_0.length c0_0):=(blk_cell BK101.out 0).trans rfl
        have hcz22_1:wr.cell? ⟨gb101,1,none⟩=some (.bool a0_1):=(blk_cell BK101.out 1).trans rfl
        have hfz22_0:=blk_frozen BK101.out 0
        have hfz22_1:=blk_frozen BK101.out 1
        have p103:0≤(x5_2:Int):=of_decide_eq_true (by first|(with_reducible assumption)|assumption)
        have q103:x5_2<(l0_0.length:Int):=of_decide_eq_true (by first|(with_reducible assumption)|assumption)
        obtain⟨ad103,e103,hx103_0,hx103_1⟩:=at_T43 HR0_0.out x5_2 p103 q103
        cases e103
        replace hx103_0:=(HB.out.cell (World.block_lt_of_cell? w _ hx103_0)).trans hx103_0
        replace hx103_1:=(HB.out.cell (World.block_lt_of_cell? w _ hx103_1)).trans hx103_1
        replace p103:=eq_true p103
        replace q103:=eq_true q103
        have hcz23_0:wr.cell? ⟨gb102,0,none⟩=some (.slice A1_0 l1_0.length c1_0):=(blk_cell BK102.out 0).trans rfl
        have hcz23_1:wr.cell? ⟨gb102,1,none⟩=some (.bool a1_1):=(blk_cell BK102.out 1).trans rfl
        have hfz23_0:=blk_frozen BK102.out 0
        have hfz23_1:=blk_frozen BK102.out 1
        have p104:0≤(x5_2:Int):=of_decide_eq_true (by first|(with_reducible assumption)|assumption)
        have q104:x5_2<(l1_0.length:Int):=of_decide_eq_true (by first|(with_reducible assumption)|assumption)
        obtain⟨ad104,e104,hx104_0,hx104_1⟩:=at_T43 HR1_0.out x5_2 p104 q104
        cases e104
        replace hx104_0:=(HB.out.cell (World.block_lt_of_cell? w _ hx104_0)).trans hx104_0
        replace hx104_1:=(HB.out.cell (World.block_lt_of_cell? w _ hx104_1)).trans hx104_1
        replace p104:=eq_true p104
        replace q104:=eq_true q104
        go_wp2
        repeat(go_quiet (fail);try go_wp2)
        go_roundg k2
        case measure=>have:=HJ2.out;have:=HK2.out;omega
        case rel=>exact⟨(wrap64 (x5_2+1)),(by first|rfl|(simp;done)|(simp [*];done)),H',⟨by have:=HJ2.out;have:=HK2.out;omega⟩,⟨by(with_reducible repeat(first|refine blk_drewN ?_ _|refine blk_drew ?_|refine blk_alloc ?_ _));exact BK101.out⟩,⟨by(with_reducible repeat(first|refine blk_drewN ?_ _|refine blk_drew ?_|refine blk_alloc ?_ _));exact BK102.out⟩,⟨by repeat(first|(with_reducible first|exact HB.out|apply below_alloc|apply pw_below_drewN|apply below_drew1|refine below_set ?_ GE101.out|refine below_set ?_ GE102.out)|exact HB.out)⟩⟩
      ·rw [if_neg c14] at H
       have c14b0:decide (x5_2<(l0_0.length:Int))=false:=decide_eq_false c14
       clear c14
       obtain rfl:=Option.some.inj H
       have hnb24:=NB101_102.out
       have hnc24:=NB102_101.out
       have hcz25_0:wr.cell? ⟨gb101,0,none⟩=some (.slice A0_0 l0_0.length c0_0):=(blk_cell BK101.out 0).trans rfl
       have hcz25_1:wr.cell? ⟨gb101,1,none⟩=some (.bool a0_1):=(blk_cell BK101.out 1).trans rfl
       have hfz25_0:=blk_frozen BK101.out 0
       have hfz25_1:=blk_frozen BK101.out 1
       go_wp2
       repeat(go_quiet (fail);try go_wp2)
       go_ret
       exact⟨by first|rfl|(simp [errW_none,errW_some]<;>rfl)|(simp [*,errW_none,errW_some]<;>rfl),by repeat(first|(with_reducible first|exact HB.out|apply below_alloc|apply pw_below_drewN|apply below_drew1|refine below_set ?_ GE101.out|refine below_set ?_ GE102.out)|exact HB.out)⟩
def machine_Start.f  :Option ((List (S43))×Bool):=some ((([(⟨false,0⟩:S43)]:List (S43))),false)
set_option maxHeartbeats 8000000 in
set_option maxRecDepth 100000 in
theorem machine_Start.calls  (r1:List (S43)) (r2:Bool) (w:World) (h:machine_Start.f  =some (r1,r2)):
 Calls Try.prog 17 #[] w fun e w'=>∃v0_:Value,e= .returned (.agg #[v0_,.bool r2])∧Kd.R k43 43 w' w.heap.size (fun _=>True) v0_ r1∧Below w.heap.size w w':=by
 have hu31:=Try.underlying31
 have hu43:=Try.underlying43
 have HB:=Aside0.mk (Below.refl w.heap.size w)
 have H:(some ((([(⟨false,0⟩:S43)]:List (S43))),false))=some (r1,r2):=h
 clear h
 obtain⟨y106,hy106⟩:∃y_:List (S43),y_=(([(⟨false,0⟩:S43)]:List (S43))):=⟨_,rfl⟩
 replace H:(some (y106,false))=some (r1,r2):=by first|(rw [hy106];with_reducible exact H)|(have H2_:=(Option.bind_some _ _).symm.trans H;rw [hy106];with_reducible exact H2_)|(have H2_:=(Option.bind_some _ _).symm.trans H;with_reducible exact H2_)|with_reducible exact H|(rw [hy106];exact H)|exact H
 have Ny106:=Aside0.mk hy106
 clear hy106
 simp only [Option.some.injEq,Prod.mk.injEq] at H
 obtain⟨rfl,rfl⟩:=H
 go_enter Try.func17,Try.ntmps17
 go_wp2_with (first|((with_reducible refine gate_dst (N:=0) rfl ?_);refine box_event ?hg (N:=0) ?hd (cs:=#[.slice none 0 0,.bool false]) (t:=31) ?hr ?_;(case hd=>rfl);(case hg=>rfl);(case hr=>first|(go_simp;done)|(go_simp;rfl));intro gb105 hg w1 hbox hb;have n0_:=Aside0.mk (below_step (by repeat(first|(with_reducible first|exact HB.out|apply below_alloc|apply pw_below_drewN|apply below_drew1)|exact HB.out)) hb);have n1_:=Aside0.mk (hbox);have n2_:=Aside0.mk ((by rw [hg];exact(below_size (by repeat(first|(with_reducible first|exact HB.out|apply below_alloc|apply pw_below_drewN|apply below_drew1)|exact HB.out))):w.heap.size≤gb105));have n3_:=Aside0.mk ((by rw [hg];exact(below_size (by repeat(first|(with_reducible first|exact HB.out|apply below_alloc|apply pw_below_drewN|apply below_drew1)|exact HB.out))):w.heap.size≤gb105));clear HB;have HB:=n0_;have BK105:=n1_;have GW105:=n2_;have GE105:=n3_;clear n0_ n1_ n2_ n3_;clear hb hbox hg)|((with_reducible refine gate_dst (N:=2) rfl ?_);refine Kd.R_lit k43 _ 43 ?hg (N:=2) ?hd (xs:=([(⟨false,0⟩:S43)]:List (S43))) (inner:= [.bool false,.int .i64 0]) (ok:=fun _=>True) (okp:=fun _=>True) ?hr ?hp (fun _ hk=>hk) trivial (Below.refl _ _) (Nat.le_refl _) (by simp) ?_;(case hd=>rfl);(case hg=>rfl);(case hr=>first|(go_simp;done)|(go_simp;rfl));(case hp=>exact(Reps.c2 (show Kd.M k43 _ _ _ (⟨false,0⟩:S43) [.bool false,.int .i64 0] from(k43_mkM _ _ _ (⟨false,0⟩:S43))) (Reps.none _ _)));intro v107 w2 ho3 hb hg_ hnew_;clear hg_ hnew_;(first|rw [←Ny106.out] at ho3|(simp only [Int.reduceToNat] at ho3;rw [←Ny106.out] at ho3));have n0_:=Aside0.mk (Kd.R_lower ho3 (below_size (by repeat(first|(with_reducible first|exact HB.out|apply below_alloc|apply pw_below_drewN|apply below_drew1|refine below_set ?_ GE105.out)|exact HB.out))));have n1_:=Aside0.mk (blk_below (g:=gb105) (o:= .cells #[.slice none 0 0,.bool false] 31 (0,0)) (by(with_reducible repeat(first|refine blk_drewN ?_ _|refine blk_drew ?_|refine blk_alloc ?_ _));exact BK105.out) hb);have n2_:=Aside0.mk (below_step (by repeat(first|(with_reducible first|exact HB.out|apply below_alloc|apply pw_below_drewN|apply below_drew1|refine below_set ?_ GE105.out)|exact HB.out)) hb);clear BK105;clear HB;have HO108:=n0_;have BK105:=n1_;have HB:=n2_;clear n0_ n1_ n2_;clear hb ho3;obtain⟨Ao4,co4,eo4⟩:=Kd.R_slice HO108.out;subst eo4;have hcz5_0:w2.cell? ⟨gb105,0,none⟩=some (.slice none 0 0):=(blk_cell BK105.out 0).trans rfl;have hcz5_1:w2.cell? ⟨gb105,1,none⟩=some (.bool false):=(blk_cell BK105.out 1).trans rfl;have hfz5_0:=blk_frozen BK105.out 0;have hfz5_1:=blk_frozen BK105.out 1))
 refine bodyPost_ret (results_cell_row rfl _ _ gb105 31 #[.slice Ao4 y106.length co4,.bool false] (0,0) _ rfl (by(with_reducible repeat(first|refine blk_drewN ?_ _|refine blk_drew ?_|refine blk_alloc ?_ _));refine blk_put (cs:=#[.slice Ao4 y106.length co4,.bool false]) ?_ 1 _ rfl;(with_reducible repeat(first|refine blk_drewN ?_ _|refine blk_drew ?_|refine blk_alloc ?_ _));refine blk_put (cs:=#[.slice none 0 0,.bool false]) ?_ 0 _ rfl;(with_reducible repeat(first|refine blk_drewN ?_ _|refine blk_drew ?_|refine blk_alloc ?_ _));exact BK105.out) Try.underlying31 rfl (by kernel_rfl)) rfl ?_
 exact⟨_,by first|rfl|(simp [errW_none,errW_some]<;>rfl)|(simp [*,errW_none,errW_some]<;>rfl),by(with_reducible repeat(first|apply Kd.R_alloc|apply Kd.R_drewN|apply Kd.R_drew));exact Kd.R_mono (Kd.R_far (p:=⟨gb105,1,none⟩) (Kd.R_far (p:=⟨gb105,0,none⟩) (Kd.R_types HO108.out BK105.out (by decide)) (fun _ hk=>hk.2) (.slice Ao4 y106.length co4)) (fun _ hk=>hk.2) (.bool false)) (fun _ hk=>trivial),by repeat(first|(with_reducible first|exact HB.out|apply below_alloc|apply pw_below_drewN|apply below_drew1|refine below_set ?_ GE105.out)|exact HB.out)⟩
def machine_dead.f  :Option ((List (S43))×Bool):=some (([]:List (S43)),true)
set_option maxHeartbeats 8000000 in
set_option maxRecDepth 100000 in
theorem machine_dead.calls  (r1:List (S43)) (r2:Bool) (w:World) (h:machine_dead.f  =some (r1,r2)):
 Calls Try.prog 36 #[] w fun e w'=>∃v0_:Value,e= .returned (.agg #[v0_,.bool r2])∧Kd.R k43 43 w' w.heap.size (fun _=>True) v0_ r1∧Below w.heap.size w w':=by
 have hu31:=Try.underlying31
 have HB:=Aside0.mk (Below.refl w.heap.size w)
 have H:(some (([]:List (S43)),true))=some (r1,r2):=h
 clear h
 simp only [Option.some.injEq,Prod.mk.injEq] at H
 obtain⟨rfl,rfl⟩:=H
 go_enter Try.func36,Try.ntmps36
 go_wp2_with (first|((with_reducible refine gate_dst (N:=0) rfl ?_);refine box_event ?hg (N:=0) ?hd (cs:=#[.slice none 0 0,.bool false]) (t:=31) ?hr ?_;(case hd=>rfl);(case hg=>rfl);(case hr=>first|(go_simp;done)|(go_simp;rfl));intro gb110 hg w1 hbox hb;have n0_:=Aside0.mk (below_step (by repeat(first|(with_reducible first|exact HB.out|apply below_alloc|apply pw_below_drewN|apply below_drew1)|exact HB.out)) hb);have n1_:=Aside0.mk (hbox);have n2_:=Aside0.mk ((by rw [hg];exact(below_size (by repeat(first|(with_reducible first|exact HB.out|apply below_alloc|apply pw_below_drewN|apply below_drew1)|exact HB.out))):w.heap.size≤gb110));have n3_:=Aside0.mk ((by rw [hg];exact(below_size (by repeat(first|(with_reducible first|exact HB.out|apply below_alloc|apply pw_below_drewN|apply below_drew1)|exact HB.out))):w.heap.size≤gb110));clear HB;have HB:=n0_;have BK110:=n1_;have GW110:=n2_;have GE110:=n3_;clear n0_ n1_ n2_ n3_;clear hb hbox hg;have hcz2_0:w1.cell? ⟨gb110,0,none⟩=some (.slice none 0 0):=(blk_cell BK110.out 0).trans rfl;have hcz2_1:w1.cell? ⟨gb110,1,none⟩=some (.bool false):=(blk_cell BK110.out 1).trans rfl;have hfz2_0:=blk_frozen BK110.out 0;have hfz2_1:=blk_frozen BK110.out 1))
 refine bodyPost_ret (results_cell_row rfl _ _ gb110 31 #[.slice none 0 0,.bool true] (0,0) _ rfl (by(with_reducible repeat(first|refine blk_drewN ?_ _|refine blk_drew ?_|refine blk_alloc ?_ _));refine blk_put (cs:=#[.slice none 0 0,.bool false]) ?_ 1 _ rfl;(with_reducible repeat(first|refine blk_drewN ?_ _|refine blk_drew ?_|refine blk_alloc ?_ _));refine blk_put (cs:=#[.slice none 0 0,.bool false]) ?_ 0 _ rfl;(with_reducible repeat(first|refine blk_drewN ?_ _|refine blk_drew ?_|refine blk_alloc ?_ _));exact BK110.out) Try.underlying31 rfl (by kernel_rfl)) rfl ?_
 exact⟨_,by first|rfl|(simp [errW_none,errW_some]<;>rfl)|(simp [*,errW_none,errW_some]<;>rfl),by first|exact Kd.R_nil _ _ _ _ _|exact Kd.N_nil _ _ _ _ _|exact Kd.V_nil _ _ _ _ _|exact Kd.Q_nil _ _ _ _ _|exact Kd.S_nil _ _ _ _ _,by repeat(first|(with_reducible first|exact HB.out|apply below_alloc|apply pw_below_drewN|apply below_drew1|refine below_set ?_ GE110.out)|exact HB.out)⟩
def regletref13_SameInts.l0:Nat→List Int→List Int→Int→Option (Bool)
 |0,_,_,_=>none
 |k+1,x0,x1,x5=>if x5<(x0.length:Int) then(if 0≤x5 then(if x5<(x1.length:Int) then(if(rd x0 x5)=(rd x1 x5) then(regletref13_SameInts.l0 k x0 x1 (wrap64 (x5+1))) else(some false)) else(none)) else(none)) else(some true)
def regletref13_SameInts.f (k:Nat) (l0:List Int) (l1:List Int):Option (Bool):=if(l0.length:Int)=(l1.length:Int) then(regletref13_SameInts.l0 k l0 l1 0) else(some false)
theorem regletref13_SameInts.mono_l:∀k,(∀y0 y1 y2,LeO (regletref13_SameInts.l0 k y0 y1 y2) (regletref13_SameInts.l0 (k+1) y0 y1 y2))
 |0=>fun _ _ _ r h=>by simp [regletref13_SameInts.l0] at h
 |k+1=>by
  have ih0:=regletref13_SameInts.mono_l k
  ·intro y0 y1 y2
   unfold regletref13_SameInts.l0
   repeat' first
   |(with_reducible exact ih0 _ _ _)
   |(with_reducible exact LeO.refl _)
   |(with_reducible exact LeO.none _)
   |(with_reducible refine LeO.ite ?_ ?_)
   |(with_reducible refine LeO.bind ?_ (fun _=>?_))
   |exact ih0 _ _ _
   |exact LeO.none _
   |refine LeO.ite ?_ ?_
   |refine LeO.bind ?_ (fun _=>?_)
theorem regletref13_SameInts.mono:∀a0 a1 k,LeO (regletref13_SameInts.f k a0 a1) (regletref13_SameInts.f (k+1) a0 a1):=by
 intro a0 a1 k
 have ih0:=regletref13_SameInts.mono_l k
 unfold regletref13_SameInts.f
 repeat' first
  |(with_reducible exact ih0 _ _ _)
  |(with_reducible exact LeO.refl _)
  |(with_reducible exact LeO.none _)
  |(with_reducible refine LeO.ite ?_ ?_)
  |(with_reducible refine LeO.bind ?_ (fun _=>?_))
  |exact ih0 _ _ _
  |exact LeO.none _
  |refine LeO.ite ?_ ?_
  |refine LeO.bind ?_ (fun _=>?_)
set_option maxHeartbeats 8000000 in
set_option maxRecDepth 100000 in
theorem regletref13_SameInts.calls (k:Nat) (A0:Option Addr) (c0:Nat) (l0:List Int) (A1:Option Addr) (c1:Nat) (l1:List Int) (r:Bool) (w:World) (hr0:Kd.C (Kd.int .i64) w A0 l0.length l0) (hc0:l0.length≤c0) (hr1:Kd.C (Kd.int .i64) w A1 l1.length l1) (hc1:l1.length≤c1) (h:regletref13_SameInts.f k l0 l1=some r):
 Calls Try.prog 24 #[.slice A0 l0.length c0,.slice A1 l1.length c1] w fun e w'=>e= .returned (.bool r)∧Drawn0 w w':=by
 have HR0:=Aside0.mk hr0
 have HC0:=Aside0.mk hc0
 clear hr0 hc0
 have HR1:=Aside0.mk hr1
 have HC1:=Aside0.mk hc1
 clear hr1 hc1
 have H:(if(l0.length:Int)=(l1.length:Int) then(regletref13_SameInts.l0 k l0 l1 0) else(some false))=some r:=h
 clear h
 by_cases c3:(l0.length:Int)=(l1.length:Int)
 ·rw [if_pos c3] at H
  have c3b0:((l0.length:Int)==(l1.length:Int))=true:=beq_iff_eq.mpr c3
  have c3b1:((l0.length:Int) !=(l1.length:Int))=false:=bne_eq_false_iff_eq.mpr c3
  have c3b2:(l0.length==l1.length)=true:=by first|simpa using c3|(simp at c3 ⊢;omega)
  clear c3
  have H':=Aside0.mk H
  clear H
  go_enter Try.func24,Try.ntmps24
  go_wp2
  repeat(go_quiet (fail);try go_wp2)
  go_loopg [5] k (fun kq v5 w'=>∃(x5_1:Int),v5= .int .i64 x5_1∧Aside0 (regletref13_SameInts.l0 kq l0 l1 x5_1=some r)∧Aside0 (kq≤k)∧Drawn0 w w')
  case atStart=>exact⟨(0),(by first|rfl|(simp;done)|(simp [*];done)),H',⟨Nat.le_refl _⟩,by repeat(first|exact Drawn0.refl _|apply Drawn0.step)⟩
  case round=>
   clear H'
   (try clear c1);(try clear c2);(try clear p2);(try clear c3);(try clear c3b0);(try clear c3b1);(try clear c3b2)
   obtain⟨x5_1,rfl,HA,HK1,⟨m1,rfl⟩⟩:=hrel
   cases gk with
   |zero=>exact absurd HA.out (by simp [regletref13_SameInts.l0])
   |succ k1=>
    have H:=HA.out
    clear HA
    simp only [regletref13_SameInts.l0] at H
    by_cases c4:x5_1<(l0.length:Int)
    ·rw [if_pos c4] at H
     have c4b0:decide (x5_1<(l0.length:Int))=true:=decide_eq_true c4
     clear c4
     by_cases c5:0≤x5_1
     rotate_left
     ·rw [if_neg c5] at H
      exact absurd H (by simp)
     rw [if_pos c5] at H
     have c5b0:decide (0≤x5_1)=true:=decide_eq_true c5
     clear c5
     by_cases c6:x5_1<(l1.length:Int)
     rotate_left
     ·rw [if_neg c6] at H
      exact absurd H (by simp)
     rw [if_pos c6] at H
     have c6b0:decide (x5_1<(l1.length:Int))=true:=decide_eq_true c6
     clear c6
     by_cases c7:(rd l0 x5_1)=(rd l1 x5_1)
     ·rw [if_pos c7] at H
      have c7b0:((rd l0 x5_1)==(rd l1 x5_1))=true:=beq_iff_eq.mpr c7
      have c7b1:((rd l0 x5_1) !=(rd l1 x5_1))=false:=bne_eq_false_iff_eq.mpr c7
      clear c7
      have H':=Aside0.mk H
      clear H
      have p143:0≤(x5_1:Int):=of_decide_eq_true (by first|(with_reducible assumption)|assumption)
      have q143:x5_1<(l0.length:Int):=of_decide_eq_true (by first|(with_reducible assumption)|assumption)
      obtain⟨ad143,e143,hx143_0⟩:=Kd.at_int HR0.out x5_1 p143 q143
      cases e143
      replace p143:=eq_true p143
      replace q143:=eq_true q143
      have p144:0≤(x5_1:Int):=of_decide_eq_true (by first|(with_reducible assumption)|assumption)
      have q144:x5_1<(l1.length:Int):=of_decide_eq_true (by first|(with_reducible assumption)|assumption)
      obtain⟨ad144,e144,hx144_0⟩:=Kd.at_int HR1.out x5_1 p144 q144
      cases e144
      replace p144:=eq_true p144
      replace q144:=eq_true q144
      go_wp2
      repeat(go_quiet (fail);try go_wp2)
      go_roundg k1
      case measure=>have:=HK1.out;omega
      case rel=>exact⟨(wrap64 (x5_1+1)),(by first|rfl|(simp;done)|(simp [*];done)),H',⟨by have:=HK1.out;omega⟩,by repeat(first|exact Drawn0.refl _|apply Drawn0.step)⟩
     ·rw [if_neg c7] at H
      have c7b0:((rd l0 x5_1)==(rd l1 x5_1))=false:=beq_eq_false_iff_ne.mpr c7
      have c7b1:((rd l0 x5_1) !=(rd l1 x5_1))=true:=bne_iff_ne.mpr c7
      obtain rfl:=Option.some.inj H
      have p143:0≤(x5_1:Int):=of_decide_eq_true (by first|(with_reducible assumption)|assumption)
      have q143:x5_1<(l0.length:Int):=of_decide_eq_true (by first|(with_reducible assumption)|assumption)
      obtain⟨ad143,e143,hx143_0⟩:=Kd.at_int HR0.out x5_1 p143 q143
      cases e143
      replace p143:=eq_true p143
      replace q143:=eq_true q143
      have p144:0≤(x5_1:Int):=of_decide_eq_true (by first|(with_reducible assumption)|assumption)
      have q144:x5_1<(l1.length:Int):=of_decide_eq_true (by first|(with_reducible assumption)|assumption)
      obtain⟨ad144,e144,hx144_0⟩:=Kd.at_int HR1.out x5_1 p144 q144
      cases e144
      replace p144:=eq_true p144
      replace q144:=eq_true q144
      go_wp2
      repeat(go_quiet (fail);try go_wp2)
      go_ret
      exact⟨by first|rfl|(simp;done)|(simp [*];done),by repeat(first|exact Drawn0.refl _|apply Drawn0.step)⟩
    ·rw [if_neg c4] at H
     have c4b0:decide (x5_1<(l0.length:Int))=false:=decide_eq_false c4
     clear c4
     obtain rfl:=Option.some.inj H
     go_wp2
     repeat(go_quiet (fail);try go_wp2)
     go_ret
     exact⟨by first|rfl|(simp;done)|(simp [*];done),by repeat(first|exact Drawn0.refl _|apply Drawn0.step)⟩
 ·rw [if_neg c3] at H
  have c3b0:((l0.length:Int)==(l1.length:Int))=false:=beq_eq_false_iff_ne.mpr c3
  have c3b1:((l0.length:Int) !=(l1.length:Int))=true:=bne_iff_ne.mpr c3
  have c3b2:(l0.length==l1.length)=false:=by first|simpa using c3|(simp at c3 ⊢;omega)
  obtain rfl:=Option.some.inj H
  go_enter Try.func24,Try.ntmps24
  go_wp2
  repeat(go_quiet (fail);try go_wp2)
  go_ret
  exact⟨by first|rfl|(simp;done)|(simp [*];done),by repeat(first|exact Drawn0.refl _|apply Drawn0.step)⟩
attribute [local go_sem] max2_int min2_int max_two min_two max_three min_three max_four min_four   -- for this text's walks alone
set_option linter.unusedVariables false
set_option linter.unusedSimpArgs false
def regletref13_list.l0:Nat→List Bool→List Int→Int→Option (List Int)
 |0,_,_,_=>none
 |k+1,x0,x3,x4=>if x4<(x0.length:Int) then(if 0≤x4 then(if rdOf false x0 x4=true then(if x3.length<17592186044416 then(regletref13_list.l0 k x0 (x3++ [x4]) (wrap64 (x4+1))) else(none)) else(regletref13_list.l0 k x0 x3 (wrap64 (x4+1)))) else(none)) else(some x3)
def regletref13_list.f (k:Nat) (l0:List Bool):Option (List Int):=regletref13_list.l0 k l0 ([]:List Int) 0
set_option maxHeartbeats 8000000 in
set_option maxRecDepth 100000 in
theorem regletref13_list.calls (k:Nat) (A0:Option Addr) (c0:Nat) (l0:List Bool) (r:List Int) (w:World) (hr0:Kd.C Kd.bool w A0 l0.length l0) (hc0:l0.length≤c0) (h:regletref13_list.f k l0=some r):
 Calls Try.prog 49 #[.slice A0 l0.length c0] w fun e w'=>∃v0_:Value,e= .returned (v0_)∧Kd.R (Kd.int .i64) 3 w' w.heap.size (fun _=>True) v0_ r∧Below w.heap.size w w':=by
 have HR0:=Aside0.mk hr0
 have HC0:=Aside0.mk hc0
 clear hr0 hc0
 have HB:=Aside0.mk (Below.refl w.heap.size w)
 have H:(regletref13_list.l0 k l0 ([]:List Int) 0)=some r:=h
 clear h
 have H':=Aside0.mk H
 clear H
 go_enter Try.func49,Try.ntmps49
 go_wp2
 go_loopg [3,4] k (fun kq v3 v4 w'=>∃(x3_1:List Int) (x4_1:Int),v4= .int .i64 x4_1∧Aside0 (regletref13_list.l0 kq l0 x3_1 x4_1=some r)∧Aside0 (kq≤k)∧Aside0 (Kd.R (Kd.int .i64) 3 w' w.heap.size (fun _=>True) v3 x3_1)∧Aside0 (Below w.heap.size w w'))
 case atStart=>exact⟨(([]:List Int)),(0),(by first|rfl|(simp;done)|(simp [*];done)),H',⟨Nat.le_refl _⟩,⟨by first|exact Kd.R_nil _ _ _ _ _|exact Kd.N_nil _ _ _ _ _|exact Kd.V_nil _ _ _ _ _|exact Kd.Q_nil _ _ _ _ _|exact Kd.S_nil _ _ _ _ _⟩,⟨by repeat(first|(with_reducible first|exact HB.out|apply below_alloc|apply pw_below_drewN|apply below_drew1)|exact HB.out)⟩⟩
 case round=>
  clear H'
  obtain⟨x3_1,x4_1,rfl,HA,HK1,HO_3,HB⟩:=hrel
  cases gk with
  |zero=>exact absurd HA.out (by simp [regletref13_list.l0])
  |succ k1=>
   have H:=HA.out
   clear HA
   simp only [regletref13_list.l0] at H
   by_cases c2:x4_1<(l0.length:Int)
   ·rw [if_pos c2] at H
    have c2b0:decide (x4_1<(l0.length:Int))=true:=decide_eq_true c2
    clear c2
    by_cases c3:0≤x4_1
    rotate_left
    ·rw [if_neg c3] at H
     exact absurd H (by simp)
    rw [if_pos c3] at H
    have c3b0:decide (0≤x4_1)=true:=decide_eq_true c3
    clear c3
    obtain⟨bq4,hbq4⟩:∃b_:Bool,b_=(rdOf false l0 x4_1):=⟨_,rfl⟩
    replace H:(if bq4=true then(if x3_1.length<17592186044416 then(regletref13_list.l0 k1 l0 (x3_1++ [x4_1]) (wrap64 (x4_1+1))) else(none)) else(regletref13_list.l0 k1 l0 x3_1 (wrap64 (x4_1+1))))=some r:=by rw [←hbq4] at H;exact H
    have Nbq4:=Aside0.mk hbq4
    clear hbq4
    by_cases c5:bq4=true
    ·subst c5
     have H1:(if x3_1.length<17592186044416 then(regletref13_list.l0 k1 l0 (x3_1++ [x4_1]) (wrap64 (x4_1+1))) else(none))=some r:=by rw [if_pos rfl] at H;exact H
     clear H
     have H:=H1
     clear H1
     by_cases c6:x3_1.length<17592186044416
     rotate_left
     ·rw [if_neg c6] at H
      exact absurd H (by simp)
     rw [if_pos c6] at H
     have LMc6:=Aside0.mk c6
     clear c6
     obtain⟨y385,hy385⟩:∃y_:List Int,y_=(x3_1++ [x4_1]):=⟨_,rfl⟩
     replace H:(regletref13_list.l0 k1 l0 y385 (wrap64 (x4_1+1)))=some r:=by first|(rw [hy385];with_reducible exact H)|(have H2_:=(Option.bind_some _ _).symm.trans H;rw [hy385];with_reducible exact H2_)|(have H2_:=(Option.bind_some _ _).symm.trans H;with_reducible exact H2_)|with_reducible exact H|(rw [hy385];exact H)|exact H
     have Ny385:=Aside0.mk hy385
     clear hy385
     have H':=Aside0.mk H
     clear H
     have p384:0≤(x4_1:Int):=of_decide_eq_true (by first|(with_reducible assumption)|assumption)
     have q384:x4_1<(l0.length:Int):=of_decide_eq_true (by first|(with_reducible assumption)|assumption)
     obtain⟨ad384,e384,hx384_0⟩:=Kd.at_bool HR0.out x4_1 p384 q384
     (try rw [←Nbq4.out] at hx384_0)
     cases e384
     replace hx384_0:=(HB.out.cell (World.block_lt_of_cell? w _ hx384_0)).trans hx384_0
     replace p384:=eq_true p384
     replace q384:=eq_true q384
     go_wp2_with (first|((with_reducible refine gate_builtin (b:= .append) (xs:=#[.tmp 15,.tmp 17]) rfl ?_);at_builtin;refine Kd.R_append (Kd.int .i64) (w0:=w) w.heap.size rfl (.tmp 15) (.tmp 17) 32 3 (.int .i64 0) 8 rfl Try.underlying32 info3 rfl (by decide) (by omega) u3 x3_1 x4_1 [.int .i64 x4_1] (fun _=>True) (fun _=>False) rfl rfl ?aP (fun _ hk=>hk.elim) ?aF ?aO ?aB ?aS ?aL ?_;(case aP=>exact rfl);(case aB=>exact(by repeat(first|(with_reducible first|exact HB.out|apply below_alloc|apply pw_below_drewN|apply below_drew1)|exact HB.out)));(case aF=>exact(fun _ _=>trivial));(case aO=>exact(by(with_reducible repeat(first|apply Kd.R_alloc|apply Kd.R_drewN|apply Kd.R_drew));exact HO_3.out));(case aS=>exact(below_size (by repeat(first|(with_reducible first|exact HB.out|apply below_alloc|apply pw_below_drewN|apply below_drew1)|exact HB.out))));(case aL=>have:=LMc6.out;omega);intro v386 w7 ho hb hg hat;rw [←Ny385.out] at ho;have n0_:=Aside0.mk (hb);have n1_:=Aside0.mk (ho);clear HB;clear HO_3;have HB:=n0_;have HO387:=n1_;clear n0_ n1_;clear ho hb hg hat))
     go_roundg k1
     case measure=>have:=HK1.out;omega
     case rel=>exact⟨(y385),(wrap64 (x4_1+1)),(by first|rfl|(simp;done)|(simp [*];done)),H',⟨by have:=HK1.out;omega⟩,⟨by(with_reducible repeat(first|apply Kd.R_alloc|apply Kd.R_drewN|apply Kd.R_drew));exact HO387.out⟩,⟨by repeat(first|(with_reducible first|exact HB.out|apply below_alloc|apply pw_below_drewN|apply below_drew1)|exact HB.out)⟩⟩
    ·replace c5:=Bool.eq_false_iff.mpr c5
     subst c5
     have H1:(regletref13_list.l0 k1 l0 x3_1 (wrap64 (x4_1+1)))=some r:=by rw [if_neg (show ¬(false=true) by decide)] at H;exact H
     clear H
     have H:=H1
     clear H1
     have H':=Aside0.mk H
     clear H
     have p384:0≤(x4_1:Int):=of_decide_eq_true (by first|(with_reducible assumption)|assumption)
     have q384:x4_1<(l0.length:Int):=of_decide_eq_true (by first|(with_reducible assumption)|assumption)
     obtain⟨ad384,e384,hx384_0⟩:=Kd.at_bool HR0.out x4_1 p384 q384
     (try rw [←Nbq4.out] at hx384_0)
     cases e384
     replace hx384_0:=(HB.out.cell (World.block_lt_of_cell? w _ hx384_0)).trans hx384_0
     replace p384:=eq_true p384
     replace q384:=eq_true q384
     go_wp2
     go_roundg k1
     case measure=>have:=HK1.out;omega
     case rel=>exact⟨(x3_1),(wrap64 (x4_1+1)),(by first|rfl|(simp;done)|(simp [*];done)),H',⟨by have:=HK1.out;omega⟩,⟨by(with_reducible repeat(first|apply Kd.R_alloc|apply Kd.R_drewN|apply Kd.R_drew));exact HO_3.out⟩,⟨by repeat(first|(with_reducible first|exact HB.out|apply below_alloc|apply pw_below_drewN|apply below_drew1)|exact HB.out)⟩⟩
   ·rw [if_neg c2] at H
    have c2b0:decide (x4_1<(l0.length:Int))=false:=decide_eq_false c2
    clear c2
    obtain rfl:=Option.some.inj H
    go_wp2
    go_ret
    exact⟨_,by first|rfl|(simp [errW_none,errW_some]<;>rfl)|(simp [*,errW_none,errW_some]<;>rfl),by(with_reducible repeat(first|apply Kd.R_alloc|apply Kd.R_drewN|apply Kd.R_drew));exact HO_3.out,by repeat(first|(with_reducible first|exact HB.out|apply below_alloc|apply pw_below_drewN|apply below_drew1)|exact HB.out)⟩
def regletref13_lists.l0:Nat→List (List Bool)→List (List Int)→Int→Option ((List (List Int)))
 |0,_,_,_=>none
 |k+1,x0,x3,x4=>if x4<(x0.length:Int) then(if 0≤x4 then((regletref13_list.f k (rd_L17 x0 x4)).bind fun t389=>(if x3.length<5864062014805 then(regletref13_lists.l0 k x0 (x3++ [t389]) (wrap64 (x4+1))) else(none))) else(none)) else(some x3)
def regletref13_lists.f (k:Nat) (l0:List (List Bool)):Option ((List (List Int))):=regletref13_lists.l0 k l0 ([]:List (List Int)) 0
set_option maxHeartbeats 8000000 in
set_option maxRecDepth 100000 in
theorem regletref13_lists.calls (k:Nat) (A0:Option Addr) (c0:Nat) (l0:List (List Bool)) (r:List (List Int)) (w:World) (hr0:Kd.C (Kd.slice 4 Kd.bool) w A0 l0.length l0) (hc0:l0.length≤c0) (h:regletref13_lists.f k l0=some r):
 Calls Try.prog 48 #[.slice A0 l0.length c0] w fun e w'=>∃v0_:Value,e= .returned (v0_)∧Kd.S (Kd.slice 3 (Kd.int .i64)) 32 w' w.heap.size (fun _=>True) v0_ r∧Below w.heap.size w w':=by
 have HR0:=Aside0.mk hr0
 have HC0:=Aside0.mk hc0
 clear hr0 hc0
 have HB:=Aside0.mk (Below.refl w.heap.size w)
 have H:(regletref13_lists.l0 k l0 ([]:List (List Int)) 0)=some r:=h
 clear h
 have H':=Aside0.mk H
 clear H
 go_enter Try.func48,Try.ntmps48
 go_wp2
 go_loopg [3,4] k (fun kq v3 v4 w'=>∃(x3_1:List (List Int)) (x4_1:Int),v4= .int .i64 x4_1∧Aside0 (regletref13_lists.l0 kq l0 x3_1 x4_1=some r)∧Aside0 (kq≤k)∧Aside0 (Kd.S (Kd.slice 3 (Kd.int .i64)) 32 w' w.heap.size (fun _=>True) v3 x3_1)∧Aside0 (Below w.heap.size w w'))
 case atStart=>exact⟨(([]:List (List Int))),(0),(by first|rfl|(simp;done)|(simp [*];done)),H',⟨Nat.le_refl _⟩,⟨by first|exact Kd.S_nil _ _ _ _ _|exact Kd.N_nil _ _ _ _ _|exact Kd.V_nil _ _ _ _ _|exact Kd.Q_nil _ _ _ _ _|exact Kd.R_nil _ _ _ _ _⟩,⟨by repeat(first|(with_reducible first|exact HB.out|apply below_alloc|apply pw_below_drewN|apply below_drew1)|exact HB.out)⟩⟩
 case round=>
  clear H'
  obtain⟨x3_1,x4_1,rfl,HA,HK1,HO_3,HB⟩:=hrel
  cases gk with
  |zero=>exact absurd HA.out (by simp [regletref13_lists.l0])
  |succ k1=>
   have H:=HA.out
   clear HA
   simp only [regletref13_lists.l0] at H
   by_cases c2:x4_1<(l0.length:Int)
   ·rw [if_pos c2] at H
    have c2b0:decide (x4_1<(l0.length:Int))=true:=decide_eq_true c2
    clear c2
    by_cases c3:0≤x4_1
    rotate_left
    ·rw [if_neg c3] at H
     exact absurd H (by simp)
    rw [if_pos c3] at H
    have c3b0:decide (0≤x4_1)=true:=decide_eq_true c3
    clear c3
    replace H:=Option.bind_eq_some_iff.mp H
    obtain⟨t389,A40,H⟩:=H
    replace H:(if x3_1.length<5864062014805 then(regletref13_lists.l0 k1 l0 (x3_1++ [t389]) (wrap64 (x4_1+1))) else(none))=some r:=H
    have A4:=Aside0.mk A40
    clear A40
    by_cases c5:x3_1.length<5864062014805
    rotate_left
    ·rw [if_neg c5] at H
     exact absurd H (by simp)
    rw [if_pos c5] at H
    have LMc5:=Aside0.mk c5
    clear c5
    obtain⟨y392,hy392⟩:∃y_:List (List Int),y_=(x3_1++ [t389]):=⟨_,rfl⟩
    replace H:(regletref13_lists.l0 k1 l0 y392 (wrap64 (x4_1+1)))=some r:=by first|(rw [hy392];with_reducible exact H)|(have H2_:=(Option.bind_some _ _).symm.trans H;rw [hy392];with_reducible exact H2_)|(have H2_:=(Option.bind_some _ _).symm.trans H;with_reducible exact H2_)|with_reducible exact H|(rw [hy392];exact H)|exact H
    have Ny392:=Aside0.mk hy392
    clear hy392
    have H':=Aside0.mk H
    clear H
    have p388:0≤(x4_1:Int):=of_decide_eq_true (by first|(with_reducible assumption)|assumption)
    have q388:x4_1<(l0.length:Int):=of_decide_eq_true (by first|(with_reducible assumption)|assumption)
    obtain⟨ad388,A388_0,c388_0,e388,hx388_0,hl388_0,hi388_0⟩:=at_L17 HR0.out x4_1 p388 q388
    cases e388
    replace hx388_0:=(HB.out.cell (World.block_lt_of_cell? w _ hx388_0)).trans hx388_0
    have HR388_0:=Aside0.mk hi388_0
    have HC388_0:=Aside0.mk hl388_0
    clear hi388_0 hl388_0
    replace p388:=eq_true p388
    replace q388:=eq_true q388
    go_wp2_with (first|((with_reducible refine gate_callee (f:=49) rfl ?_);refine goesL_ (some 16) rfl rfl Try.func49 (by kernel_rfl) rfl #[.slice A388_0 (rd_L17 l0 x4_1).length c388_0] rfl (by(try simp only [List.map_toArray,List.map_cons,List.map_nil]);first|done|rfl|(simp only [List.length_drop,List.length_take];rfl)) ?_;(with_reducible refine(regletref13_list.calls k1 _ _ (rd_L17 l0 x4_1) t389 _ ?side1 ?side2 A4.out).mono ?_);(case side1=>repeat(first|exact(Kd.C_below HR388_0.out HB.out)|(with_reducible refine Kd.C_alloc ?_ _)|(with_reducible refine Kd.C_drewN ?_ _)|(with_reducible refine Kd.C_drew ?_)));(case side2=>exact HC388_0.out);rintro e w6 ⟨v390,rfl,ho0,hb⟩;refine⟨_,rfl,?_⟩;have n0_:=Aside0.mk (Kd.S_elder' (by(with_reducible repeat(first|apply Kd.S_alloc|apply Kd.S_drewN|apply Kd.S_drew));exact HO_3.out) (Kd.R_base ho0) hb);have n1_:=Aside0.mk (Kd.R_lower ho0 (below_size (by repeat(first|(with_reducible first|exact HB.out|apply below_alloc|apply pw_below_drewN|apply below_drew1)|exact HB.out))));have n2_:=Aside0.mk (below_step (by repeat(first|(with_reducible first|exact HB.out|apply below_alloc|apply pw_below_drewN|apply below_drew1)|exact HB.out)) hb);clear HO_3;clear HB;have HO_3:=n0_;have HO391:=n1_;have HB:=n2_;clear n0_ n1_ n2_;(try clear hb);(try clear hb2);(try clear hk);(try clear hi);(try clear ho0);obtain⟨Ao8,co8,eo8⟩:=Kd.R_slice HO391.out;subst eo8)|((with_reducible refine gate_builtin (b:= .append) (xs:=#[.tmp 11,.tmp 17]) rfl ?_);at_builtin;refine Kd.S_append (Kd.slice 3 (Kd.int .i64)) (w0:=w) w.heap.size rfl (.tmp 11) (.tmp 17) 27 32 (.slice none 0 0) 24 rfl Try.underlying27 info32 rfl (by decide) (by omega) u3 x3_1 t389 [.slice Ao8 t389.length co8] (fun _=>True) (fun k_=>some k_=(.slice Ao8 t389.length co8:Value).ownBlock) rfl rfl ?aP (fun k_ hk_=>((Kd.R_mono (ok':=fun k_=>((fun _=>True)) k_∧some k_≠(u3:Value).ownBlock) (Kd.R_apart' (HO391.out) (Kd.S_typed HO_3.out) (by decide)) (fun k_ hk=>⟨trivial,hk.2⟩))).1 k_ hk_.symm) ?aF ?aO ?aB ?aS ?aL ?_;(case aP=>exact Kd.M_row (Kd.R_mono (Kd.R_tight rfl (Kd.R_mono (ok':=fun k_=>((fun _=>True)) k_∧some k_≠(u3:Value).ownBlock) (Kd.R_apart' (HO391.out) (Kd.S_typed HO_3.out) (by decide)) (fun k_ hk=>⟨trivial,hk.2⟩))) (fun _ h_=>h_)));(case aB=>exact(by repeat(first|(with_reducible first|exact HB.out|apply below_alloc|apply pw_below_drewN|apply below_drew1)|exact HB.out)));(case aF=>exact(fun _ _=>trivial));(case aO=>exact(by(with_reducible repeat(first|apply Kd.S_alloc|apply Kd.S_drewN|apply Kd.S_drew));exact Kd.S_mono HO_3.out (fun k_ hk=>⟨trivial,fun e_=>hk.2 e_⟩)));(case aS=>exact(below_size (by repeat(first|(with_reducible first|exact HB.out|apply below_alloc|apply pw_below_drewN|apply below_drew1)|exact HB.out))));(case aL=>have:=LMc5.out;omega);intro v393 w7 ho hb hg hat;rw [←Ny392.out] at ho;have n0_:=Aside0.mk (hb);have n1_:=Aside0.mk (ho);clear HB;clear HO_3;clear HO391;have HB:=n0_;have HO394:=n1_;clear n0_ n1_;clear ho hb hg hat))
    go_roundg k1
    case measure=>have:=HK1.out;omega
    case rel=>exact⟨(y392),(wrap64 (x4_1+1)),(by first|rfl|(simp;done)|(simp [*];done)),H',⟨by have:=HK1.out;omega⟩,⟨by(with_reducible repeat(first|apply Kd.S_alloc|apply Kd.S_drewN|apply Kd.S_drew));exact HO394.out⟩,⟨by repeat(first|(with_reducible first|exact HB.out|apply below_alloc|apply pw_below_drewN|apply below_drew1)|exact HB.out)⟩⟩
   ·rw [if_neg c2] at H
    have c2b0:decide (x4_1<(l0.length:Int))=false:=decide_eq_false c2
    clear c2
    obtain rfl:=Option.some.inj H
    go_wp2
    go_ret
    exact⟨_,by first|rfl|(simp [errW_none,errW_some]<;>rfl)|(simp [*,errW_none,errW_some]<;>rfl),by(with_reducible repeat(first|apply Kd.S_alloc|apply Kd.S_drewN|apply Kd.S_drew));exact HO_3.out,by repeat(first|(with_reducible first|exact HB.out|apply below_alloc|apply pw_below_drewN|apply below_drew1)|exact HB.out)⟩
def regletref14_has.l0:Nat→List Int→Int→Int→Option (Bool)
 |0,_,_,_=>none
 |k+1,x0,x1,x5=>if x5<(x0.length:Int) then(if 0≤x5 then(if(rd x0 x5)=x1 then(some true) else(regletref14_has.l0 k x0 x1 (wrap64 (x5+1)))) else(none)) else(some false)
def regletref14_has.f (k:Nat) (l0:List Int) (a1:Int):Option (Bool):=regletref14_has.l0 k l0 a1 0
set_option maxHeartbeats 8000000 in
set_option maxRecDepth 100000 in
theorem regletref14_has.calls (k:Nat) (A0:Option Addr) (c0:Nat) (l0:List Int) (a1:Int) (r:Bool) (w:World) (hr0:Kd.C (Kd.int .i64) w A0 l0.length l0) (hc0:l0.length≤c0) (h:regletref14_has.f k l0 a1=some r):
 Calls Try.prog 33 #[.slice A0 l0.length c0,.int .i64 a1] w fun e w'=>e= .returned (.bool r)∧Drawn0 w w':=by
 have HR0:=Aside0.mk hr0
 have HC0:=Aside0.mk hc0
 clear hr0 hc0
 have H:(regletref14_has.l0 k l0 a1 0)=some r:=h
 clear h
 have H':=Aside0.mk H
 clear H
 go_enter Try.func33,Try.ntmps33
 go_wp2
 go_loopg [5] k (fun kq v5 w'=>∃(x5_1:Int),v5= .int .i64 x5_1∧Aside0 (regletref14_has.l0 kq l0 a1 x5_1=some r)∧Aside0 (kq≤k)∧Drawn0 w w')
 case atStart=>exact⟨(0),(by first|rfl|(simp;done)|(simp [*];done)),H',⟨Nat.le_refl _⟩,by repeat(first|exact Drawn0.refl _|apply Drawn0.step)⟩
 case round=>
  clear H'
  (try clear p2)
  obtain⟨x5_1,rfl,HA,HK1,⟨m1,rfl⟩⟩:=hrel
  cases gk with
  |zero=>exact absurd HA.out (by simp [regletref14_has.l0])
  |succ k1=>
   have H:=HA.out
   clear HA
   simp only [regletref14_has.l0] at H
   by_cases c3:x5_1<(l0.length:Int)
   ·rw [if_pos c3] at H
    have c3b0:decide (x5_1<(l0.length:Int))=true:=decide_eq_true c3
    clear c3
    by_cases c4:0≤x5_1
    rotate_left
    ·rw [if_neg c4] at H
     exact absurd H (by simp)
    rw [if_pos c4] at H
    have c4b0:decide (0≤x5_1)=true:=decide_eq_true c4
    clear c4
    by_cases c5:(rd l0 x5_1)=a1
    ·rw [if_pos c5] at H
     have c5b0:((rd l0 x5_1)==a1)=true:=beq_iff_eq.mpr c5
     have c5b1:((rd l0 x5_1) !=a1)=false:=bne_eq_false_iff_eq.mpr c5
     clear c5
     obtain rfl:=Option.some.inj H
     have p395:0≤(x5_1:Int):=of_decide_eq_true (by first|(with_reducible assumption)|assumption)
     have q395:x5_1<(l0.length:Int):=of_decide_eq_true (by first|(with_reducible assumption)|assumption)
     obtain⟨ad395,e395,hx395_0⟩:=Kd.at_int HR0.out x5_1 p395 q395
     cases e395
     replace p395:=eq_true p395
     replace q395:=eq_true q395
     go_wp2
     go_ret
     exact⟨by first|rfl|(simp;done)|(simp [*];done),by repeat(first|exact Drawn0.refl _|apply Drawn0.step)⟩
    ·rw [if_neg c5] at H
     have c5b0:((rd l0 x5_1)==a1)=false:=beq_eq_false_iff_ne.mpr c5
     have c5b1:((rd l0 x5_1) !=a1)=true:=bne_iff_ne.mpr c5
     have H':=Aside0.mk H
     clear H
     have p395:0≤(x5_1:Int):=of_decide_eq_true (by first|(with_reducible assumption)|assumption)
     have q395:x5_1<(l0.length:Int):=of_decide_eq_true (by first|(with_reducible assumption)|assumption)
     obtain⟨ad395,e395,hx395_0⟩:=Kd.at_int HR0.out x5_1 p395 q395
     cases e395
     replace p395:=eq_true p395
     replace q395:=eq_true q395
     go_wp2
     go_roundg k1
     case measure=>have:=HK1.out;omega
     case rel=>exact⟨(wrap64 (x5_1+1)),(by first|rfl|(simp;done)|(simp [*];done)),H',⟨by have:=HK1.out;omega⟩,by repeat(first|exact Drawn0.refl _|apply Drawn0.step)⟩
   ·rw [if_neg c3] at H
    have c3b0:decide (x5_1<(l0.length:Int))=false:=decide_eq_false c3
    clear c3
    obtain rfl:=Option.some.inj H
    go_wp2
    go_ret
    exact⟨by first|rfl|(simp;done)|(simp [*];done),by repeat(first|exact Drawn0.refl _|apply Drawn0.step)⟩
def regletlaw16_tokens.l0:Nat→List Int→Int→List Int→Int→Option (List Int)
 |0,_,_,_,_=>none
 |k+1,x0,x1,x5,x6=>if x6<(x0.length:Int) then(if x6<10 then(if 0≤x6 then(if x1=0 then(none) else(if x5.length<17592186044416 then(regletlaw16_tokens.l0 k x0 x1 (x5++ [Int.tmod (wrap64 (rd x0 x6)) x1]) (wrap64 (x6+1))) else(none))) else(none)) else(some x5)) else(some x5)
def regletlaw16_tokens.f (k:Nat) (l0:List Int) (a1:Int):Option (List Int):=regletlaw16_tokens.l0 k l0 a1 ([]:List Int) 0
set_option maxHeartbeats 8000000 in
set_option maxRecDepth 100000 in
theorem regletlaw16_tokens.calls (k:Nat) (A0:Option Addr) (c0:Nat) (l0:List Int) (a1:Int) (r:List Int) (w:World) (hr0:Kd.C (Kd.int .u8) w A0 l0.length l0) (hc0:l0.length≤c0) (h:regletlaw16_tokens.f k l0 a1=some r):
 Calls Try.prog 15 #[.slice A0 l0.length c0,.int .i64 a1] w fun e w'=>∃v0_:Value,e= .returned (v0_)∧Kd.R (Kd.int .i64) 3 w' w.heap.size (fun _=>True) v0_ r∧Below w.heap.size w w':=by
 have HR0:=Aside0.mk hr0
 have HC0:=Aside0.mk hc0
 clear hr0 hc0
 have HB:=Aside0.mk (Below.refl w.heap.size w)
 have H:(regletlaw16_tokens.l0 k l0 a1 ([]:List Int) 0)=some r:=h
 clear h
 have H':=Aside0.mk H
 clear H
 go_enter Try.func15,Try.ntmps15
 go_wp2
 go_loopg [5,6] k (fun kq v5 v6 w'=>∃(x5_1:List Int) (x6_1:Int),v6= .int .i64 x6_1∧Aside0 (regletlaw16_tokens.l0 kq l0 a1 x5_1 x6_1=some r)∧Aside0 (kq≤k)∧Aside0 (Kd.R (Kd.int .i64) 3 w' w.heap.size (fun _=>True) v5 x5_1)∧Aside0 (Below w.heap.size w w'))
 case atStart=>exact⟨(([]:List Int)),(0),(by first|rfl|(simp;done)|(simp [*];done)),H',⟨Nat.le_refl _⟩,⟨by first|exact Kd.R_nil _ _ _ _ _|exact Kd.N_nil _ _ _ _ _|exact Kd.V_nil _ _ _ _ _|exact Kd.Q_nil _ _ _ _ _|exact Kd.S_nil _ _ _ _ _⟩,⟨by repeat(first|(with_reducible first|exact HB.out|apply below_alloc|apply pw_below_drewN|apply below_drew1)|exact HB.out)⟩⟩
 case round=>
  clear H'
  (try clear c1);(try clear p2)
  obtain⟨x5_1,x6_1,rfl,HA,HK1,HO_5,HB⟩:=hrel
  cases gk with
  |zero=>exact absurd HA.out (by simp [regletlaw16_tokens.l0])
  |succ k1=>
   have H:=HA.out
   clear HA
   simp only [regletlaw16_tokens.l0] at H
   by_cases c3:x6_1<(l0.length:Int)
   ·rw [if_pos c3] at H
    have c3b0:decide (x6_1<(l0.length:Int))=true:=decide_eq_true c3
    clear c3
    by_cases c4:x6_1<10
    ·rw [if_pos c4] at H
     have c4b0:decide (x6_1<10)=true:=decide_eq_true c4
     clear c4
     by_cases c5:0≤x6_1
     rotate_left
     ·rw [if_neg c5] at H
      exact absurd H (by simp)
     rw [if_pos c5] at H
     have c5b0:decide (0≤x6_1)=true:=decide_eq_true c5
     clear c5
     by_cases c6:a1=0
     ·rw [if_pos c6] at H
      exact absurd H (by simp)
     rw [if_neg c6] at H
     have c6b0:(a1==0)=false:=beq_eq_false_iff_ne.mpr c6
     have c6b1:(a1 !=0)=true:=bne_iff_ne.mpr c6
     by_cases c7:x5_1.length<17592186044416
     rotate_left
     ·rw [if_neg c7] at H
      exact absurd H (by simp)
     rw [if_pos c7] at H
     have LMc7:=Aside0.mk c7
     clear c7
     obtain⟨y442,hy442⟩:∃y_:List Int,y_=(x5_1++ [Int.tmod (wrap64 (rd l0 x6_1)) a1]):=⟨_,rfl⟩
     replace H:(regletlaw16_tokens.l0 k1 l0 a1 y442 (wrap64 (x6_1+1)))=some r:=by first|(rw [hy442];with_reducible exact H)|(have H2_:=(Option.bind_some _ _).symm.trans H;rw [hy442];with_reducible exact H2_)|(have H2_:=(Option.bind_some _ _).symm.trans H;with_reducible exact H2_)|with_reducible exact H|(rw [hy442];exact H)|exact H
     have Ny442:=Aside0.mk hy442
     clear hy442
     have H':=Aside0.mk H
     clear H
     have p441:0≤(x6_1:Int):=of_decide_eq_true (by first|(with_reducible assumption)|assumption)
     have q441:x6_1<(l0.length:Int):=of_decide_eq_true (by first|(with_reducible assumption)|assumption)
     obtain⟨ad441,e441,hx441_0⟩:=Kd.at_int HR0.out x6_1 p441 q441
     cases e441
     replace hx441_0:=(HB.out.cell (World.block_lt_of_cell? w _ hx441_0)).trans hx441_0
     replace p441:=eq_true p441
     replace q441:=eq_true q441
     go_wp2_with (first|((with_reducible refine gate_builtin (b:= .append) (xs:=#[.tmp 17,.tmp 25]) rfl ?_);at_builtin;refine Kd.R_append (Kd.int .i64) (w0:=w) w.heap.size rfl (.tmp 17) (.tmp 25) 32 3 (.int .i64 0) 8 rfl Try.underlying32 info3 rfl (by decide) (by omega) u5 x5_1 (Int.tmod (wrap64 (rd l0 x6_1)) a1) [.int .i64 (Int.tmod (wrap64 (rd l0 x6_1)) a1)] (fun _=>True) (fun _=>False) rfl rfl ?aP (fun _ hk=>hk.elim) ?aF ?aO ?aB ?aS ?aL ?_;(case aP=>exact rfl);(case aB=>exact(by repeat(first|(with_reducible first|exact HB.out|apply below_alloc|apply pw_below_drewN|apply below_drew1)|exact HB.out)));(case aF=>exact(fun _ _=>trivial));(case aO=>exact(by(with_reducible repeat(first|apply Kd.R_alloc|apply Kd.R_drewN|apply Kd.R_drew));exact HO_5.out));(case aS=>exact(below_size (by repeat(first|(with_reducible first|exact HB.out|apply below_alloc|apply pw_below_drewN|apply below_drew1)|exact HB.out))));(case aL=>have:=LMc7.out;omega);intro v443 w8 ho hb hg hat;rw [←Ny442.out] at ho;have n0_:=Aside0.mk (hb);have n1_:=Aside0.mk (ho);clear HB;clear HO_5;have HB:=n0_;have HO444:=n1_;clear n0_ n1_;clear ho hb hg hat))
     go_roundg k1
     case measure=>have:=HK1.out;omega
     case rel=>exact⟨(y442),(wrap64 (x6_1+1)),(by first|rfl|(simp;done)|(simp [*];done)),H',⟨by have:=HK1.out;omega⟩,⟨by(with_reducible repeat(first|apply Kd.R_alloc|apply Kd.R_drewN|apply Kd.R_drew));exact HO444.out⟩,⟨by repeat(first|(with_reducible first|exact HB.out|apply below_alloc|apply pw_below_drewN|apply below_drew1)|exact HB.out)⟩⟩
    ·rw [if_neg c4] at H
     have c4b0:decide (x6_1<10)=false:=decide_eq_false c4
     clear c4
     obtain rfl:=Option.some.inj H
     go_wp2
     go_ret
     exact⟨_,by first|rfl|(simp [errW_none,errW_some]<;>rfl)|(simp [*,errW_none,errW_some]<;>rfl),by(with_reducible repeat(first|apply Kd.R_alloc|apply Kd.R_drewN|apply Kd.R_drew));exact HO_5.out,by repeat(first|(with_reducible first|exact HB.out|apply below_alloc|apply pw_below_drewN|apply below_drew1)|exact HB.out)⟩
   ·rw [if_neg c3] at H
    have c3b0:decide (x6_1<(l0.length:Int))=false:=decide_eq_false c3
    clear c3
    obtain rfl:=Option.some.inj H
    go_wp2
    go_ret
    exact⟨_,by first|rfl|(simp [errW_none,errW_some]<;>rfl)|(simp [*,errW_none,errW_some]<;>rfl),by(with_reducible repeat(first|apply Kd.R_alloc|apply Kd.R_drewN|apply Kd.R_drew));exact HO_5.out,by repeat(first|(with_reducible first|exact HB.out|apply below_alloc|apply pw_below_drewN|apply below_drew1)|exact HB.out)⟩
attribute [local go_sem] max2_int min2_int max_two min_two max_three min_three max_four min_four   -- for this text's walks alone
set_option linter.unusedVariables false
set_option linter.unusedSimpArgs false
mutual
def regletref13_Right.l0:Nat→Int→List ByteArray→List (S72)→Int→Int→List (S35)→Option (Bool)
 |0,_,_,_,_,_,_=>none
 |k+1,x3,x209000,x209001,x209002,x209003,x209004=>if x3<(x209004.length:Int) then(if 0≤x3 then(if((rd_T35 x209004 x3).f0)<0 then(regletref13_Right.j1 k x3 true x209000 x209001 x209002 x209003 x209004 ((rd_T35 x209004 x3).f0) ((rd_T35 x209004 x3).f1)) else(regletref13_Right.j1 k x3 (decide (((rd_T35 x209004 x3).f0)≥(x209000.length:Int))) x209000 x209001 x209002 x209003 x209004 ((rd_T35 x209004 x3).f0) ((rd_T35 x209004 x3).f1))) else(none)) else(some true)
def regletref13_Right.j1:Nat→Int→Bool→List ByteArray→List (S72)→Int→Int→List (S35)→Int→List (S43)→Option (Bool)
 |0,_,_,_,_,_,_,_,_,_=>none
 |k+1,x3,x29,x209000,x209001,x209002,x209003,x209004,x211000,x211001=>if x29=true then(some false) else(regletref13_Right.l1 k x3 0 x209000 x209001 x209002 x209003 x209004 x211000 x211001)
def regletref13_Right.l1:Nat→Int→Int→List ByteArray→List (S72)→Int→Int→List (S35)→Int→List (S43)→Option (Bool)
 |0,_,_,_,_,_,_,_,_,_=>none
 |k+1,x3,x5,x209000,x209001,x209002,x209003,x209004,x211000,x211001=>if x5<(x211001.length:Int) then(if 0≤x5 then(if(rd_T43 x211001 x5).f0=true then(if((rd_T43 x211001 x5).f1)<0 then(some false) else(if((rd_T43 x211001 x5).f1)≥(x209001.length:Int) then(some false) else(regletref13_Right.l1 k x3 (wrap64 (x5+1)) x209000 x209001 x209002 x209003 x209004 x211000 x211001))) else(if((rd_T43 x211001 x5).f1)<0 then(some false) else(if((rd_T43 x211001 x5).f1)≥(x209000.length:Int) then(some false) else(regletref13_Right.l1 k x3 (wrap64 (x5+1)) x209000 x209001 x209002 x209003 x209004 x211000 x211001)))) else(none)) else(regletref13_Right.l0 k (wrap64 (x3+1)) x209000 x209001 x209002 x209003 x209004)
end
def regletref13_Right.f (k:Nat) (l0_0:List ByteArray) (l0_1:List (S72)) (a0_2:Int) (a0_3:Int) (l0_4:List (S35)):Option (Bool):=regletref13_Right.l0 k 0 l0_0 l0_1 a0_2 a0_3 l0_4
set_option maxHeartbeats 8000000 in
set_option maxRecDepth 100000 in
theorem regletref13_Right.calls (k:Nat) (A0_0:Option Addr) (c0_0:Nat) (l0_0:List ByteArray) (A0_1:Option Addr) (c0_1:Nat) (l0_1:List (S72)) (a0_2:Int) (a0_3:Int) (A0_4:Option Addr) (c0_4:Nat) (l0_4:List (S35)) (r:Bool) (w:World) (hr0_0:Kd.C Kd.string w A0_0 l0_0.length l0_0) (hc0_0:l0_0.length≤c0_0) (hr0_1:Kd.C k72 w A0_1 l0_1.length l0_1) (hc0_1:l0_1.length≤c0_1) (hr0_4:Kd.C k35 w A0_4 l0_4.length l0_4) (hc0_4:l0_4.length≤c0_4) (h:regletref13_Right.f k l0_0 l0_1 a0_2 a0_3 l0_4=some r):
 Calls Try.prog 30 #[.agg #[.slice A0_0 l0_0.length c0_0,.slice A0_1 l0_1.length c0_1,.int .i64 a0_2,.int .i64 a0_3,.slice A0_4 l0_4.length c0_4]] w fun e w'=>e= .returned (.bool r)∧Below w.heap.size w w':=by
 have hu26:=Try.underlying26
 have hu35:=Try.underlying35
 have HR0_0:=Aside0.mk hr0_0
 have HC0_0:=Aside0.mk hc0_0
 clear hr0_0 hc0_0
 have HR0_1:=Aside0.mk hr0_1
 have HC0_1:=Aside0.mk hc0_1
 clear hr0_1 hc0_1
 have HR0_4:=Aside0.mk hr0_4
 have HC0_4:=Aside0.mk hc0_4
 clear hr0_4 hc0_4
 have HB:=Aside0.mk (Below.refl w.heap.size w)
 have H:(regletref13_Right.l0 k 0 l0_0 l0_1 a0_2 a0_3 l0_4)=some r:=h
 clear h
 have H':=Aside0.mk H
 clear H
 go_enter Try.func30,Try.ntmps30
 go_wp2_with (first|((with_reducible refine gate_dst (N:=1) rfl ?_);(try(refine gate_guard (by rfl) ?_;dsimp only));refine box_event ?hg (N:=1) ?hd (cs:=#[.slice A0_0 l0_0.length c0_0,.slice A0_1 l0_1.length c0_1,.int .i64 a0_2,.int .i64 a0_3,.slice A0_4 l0_4.length c0_4]) (t:=26) ?hr ?_;(case hd=>rfl);(case hg=>rfl);(case hr=>first|(go_simp;done)|(go_simp;rfl));intro gb208 hg w2 hbox hb;have n0_:=Aside0.mk (below_step (by repeat(first|(with_reducible first|exact HB.out|apply below_alloc|apply pw_below_drewN|apply below_drew1)|exact HB.out)) hb);have n1_:=Aside0.mk (hbox);have n2_:=Aside0.mk ((by rw [hg];exact(below_size (by repeat(first|(with_reducible first|exact HB.out|apply below_alloc|apply pw_below_drewN|apply below_drew1)|exact HB.out))):w.heap.size≤gb208));have n3_:=Aside0.mk ((by rw [hg];exact(below_size (by repeat(first|(with_reducible first|exact HB.out|apply below_alloc|apply pw_below_drewN|apply below_drew1)|exact HB.out))):w.heap.size≤gb208));clear HB;have HB:=n0_;have BK208:=n1_;have GW208:=n2_;have GE208:=n3_;clear n0_ n1_ n2_ n3_;clear hb hbox hg))
 go_loopg [3] k (fun kq v3 w'=>∃(x3_1:Int),v3= .int .i64 x3_1∧Aside0 (regletref13_Right.l0 kq x3_1 l0_0 l0_1 a0_2 a0_3 l0_4=some r)∧Aside0 (kq≤k)∧Aside0 (w'.heap[gb208]?=some (.cells #[(.slice A0_0 l0_0.length c0_0),(.slice A0_1 l0_1.length c0_1),.int .i64 a0_2,.int .i64 a0_3,(.slice A0_4 l0_4.length c0_4)] 26 (0,0)))∧Aside0 (Below w.heap.size w w'))
 case atStart=>exact⟨(0),(by first|rfl|(simp;done)|(simp [*];done)),H',⟨Nat.le_refl _⟩,⟨by(with_reducible repeat(first|refine blk_drewN ?_ _|refine blk_drew ?_|refine blk_alloc ?_ _));exact BK208.out⟩,⟨by repeat(first|(with_reducible first|exact HB.out|apply below_alloc|apply pw_below_drewN|apply below_drew1|refine below_set ?_ GE208.out)|exact HB.out)⟩⟩
 case round=>
  clear H'
  (try clear p2)
  obtain⟨x3_1,rfl,HA,HK1,BK208,HB⟩:=hrel
  cases gk with
  |zero=>exact absurd HA.out (by simp [regletref13_Right.l0])
  |succ k1=>
   have H:=HA.out
   clear HA
   simp only [regletref13_Right.l0] at H
   by_cases c3:x3_1<(l0_4.length:Int)
   ·rw [if_pos c3] at H
    have c3b0:decide (x3_1<(l0_4.length:Int))=true:=decide_eq_true c3
    clear c3
    by_cases c4:0≤x3_1
    rotate_left
    ·rw [if_neg c4] at H
     exact absurd H (by simp)
    rw [if_pos c4] at H
    have c4b0:decide (0≤x3_1)=true:=decide_eq_true c4
    clear c4
    have HC5:=Aside0.mk H
    clear H
    have hcz6_0:wr.cell? ⟨gb208,0,none⟩=some (.slice A0_0 l0_0.length c0_0):=(blk_cell BK208.out 0).trans rfl
    have hcz6_1:wr.cell? ⟨gb208,1,none⟩=some (.slice A0_1 l0_1.length c0_1):=(blk_cell BK208.out 1).trans rfl
    have hcz6_2:wr.cell? ⟨gb208,2,none⟩=some (.int .i64 a0_2):=(blk_cell BK208.out 2).trans rfl
    have hcz6_3:wr.cell? ⟨gb208,3,none⟩=some (.int .i64 a0_3):=(blk_cell BK208.out 3).trans rfl
    have hcz6_4:wr.cell? ⟨gb208,4,none⟩=some (.slice A0_4 l0_4.length c0_4):=(blk_cell BK208.out 4).trans rfl
    have hfz6_0:=blk_frozen BK208.out 0
    have hfz6_1:=blk_frozen BK208.out 1
    have hfz6_2:=blk_frozen BK208.out 2
    have hfz6_3:=blk_frozen BK208.out 3
    have hfz6_4:=blk_frozen BK208.out 4
    have p209:0≤(x3_1:Int):=of_decide_eq_true (by first|(with_reducible assumption)|assumption)
    have q209:x3_1<(l0_4.length:Int):=of_decide_eq_true (by first|(with_reducible assumption)|assumption)
    obtain⟨ad209,A209_1,c209_1,e209,hx209_0,hx209_1,hl209_1,hi209_1⟩:=at_T35 HR0_4.out x3_1 p209 q209
    cases e209
    replace hx209_0:=(HB.out.cell (World.block_lt_of_cell? w _ hx209_0)).trans hx209_0
    replace hx209_1:=(HB.out.cell (World.block_lt_of_cell? w _ hx209_1)).trans hx209_1
    have HR209_1:=Aside0.mk hi209_1
    have HC209_1:=Aside0.mk hl209_1
    clear hi209_1 hl209_1
    replace p209:=eq_true p209
    replace q209:=eq_true q209
    go_upto_region 5 with(first|((with_reducible refine gate_dst (N:=4) rfl ?_);(try(refine gate_guard (by rfl) ?_;dsimp only));refine box_event ?hg (N:=4) ?hd (cs:=#[.int .i64 0,.slice none 0 0]) (t:=35) ?hr ?_;(case hd=>rfl);(case hg=>rfl);(case hr=>first|(go_simp;done)|(go_simp;rfl));intro gb210 hg w7 hbox hb;have n0_:=Aside0.mk (blk_below (g:=gb208) (o:= .cells #[.slice A0_0 l0_0.length c0_0,.slice A0_1 l0_1.length c0_1,.int .i64 a0_2,.int .i64 a0_3,.slice (some ad209) l0_4.length c0_4] 26 (0,0)) (by(with_reducible repeat(first|refine blk_drewN ?_ _|refine blk_drew ?_|refine blk_alloc ?_ _));exact BK208.out) hb);have n1_:=Aside0.mk (below_step (by repeat(first|(with_reducible first|exact HB.out|apply below_alloc|apply pw_below_drewN|apply below_drew1|refine below_set ?_ GE208.out)|exact HB.out)) hb);have n2_:=Aside0.mk (hbox);have n3_:=Aside0.mk ((by rw [hg];exact(below_size (by repeat(first|(with_reducible first|exact HB.out|apply below_alloc|apply pw_below_drewN|apply below_drew1|refine below_set ?_ GE208.out)|exact HB.out))):w.heap.size≤gb210));have n4_:=Aside0.mk ((by rw [hg];exact(below_size (by repeat(first|(with_reducible first|exact HB.out|apply below_alloc|apply pw_below_drewN|apply below_drew1|refine below_set ?_ GE208.out)|exact HB.out))):w.heap.size≤gb210));have n5_:=Aside0.mk ((by rw [hg];exact Nat.ne_of_lt (blk_lt (g:=gb208) (o:= .cells #[.slice A0_0 l0_0.length c0_0,.slice A0_1 l0_1.length c0_1,.int .i64 a0_2,.int .i64 a0_3,.slice (some ad209) l0_4.length c0_4] 26 (0,0)) (by(with_reducible repeat(first|refine blk_drewN ?_ _|refine blk_drew ?_|refine blk_alloc ?_ _));exact BK208.out)):gb208≠gb210));have n6_:=Aside0.mk ((by rw [hg];exact Nat.ne_of_gt (blk_lt (g:=gb208) (o:= .cells #[.slice A0_0 l0_0.length c0_0,.slice A0_1 l0_1.length c0_1,.int .i64 a0_2,.int .i64 a0_3,.slice (some ad209) l0_4.length c0_4] 26 (0,0)) (by(with_reducible repeat(first|refine blk_drewN ?_ _|refine blk_drew ?_|refine blk_alloc ?_ _));exact BK208.out)):gb210≠gb208));clear BK208;clear HB;have BK208:=n0_;have HB:=n1_;have BK210:=n2_;have GW210:=n3_;have GE210:=n4_;have NB208_210:=n5_;have NB210_208:=n6_;clear n0_ n1_ n2_ n3_ n4_ n5_ n6_;clear hb hbox hg;have hnb8:=NB210_208.out;have hnc8:=NB208_210.out;have hcz9_0:w7.cell? ⟨gb210,0,none⟩=some (.int .i64 0):=(blk_cell BK210.out 0).trans rfl;have hcz9_1:w7.cell? ⟨gb210,1,none⟩=some (.slice none 0 0):=(blk_cell BK210.out 1).trans rfl;have hfz9_0:=blk_frozen BK210.out 0;have hfz9_1:=blk_frozen BK210.out 1))
    (try simp only [Act.put,List.setIfInBounds_toArray,List.set_cons_zero,List.set_cons_succ])
    go_cut [29] (fun v29 wc=>∃(kq:Nat) (x29_4:Bool),v29= .bool x29_4∧Aside0 (regletref13_Right.j1 kq x3_1 x29_4 l0_0 l0_1 a0_2 a0_3 l0_4 ((rd_T35 l0_4 x3_1).f0) ((rd_T35 l0_4 x3_1).f1)=some r)∧Aside0 (kq≤k1)∧Aside0 (wc.heap[gb208]?=some (.cells #[(.slice A0_0 l0_0.length c0_0),(.slice A0_1 l0_1.length c0_1),.int .i64 a0_2,.int .i64 a0_3,(.slice (some ad209) l0_4.length c0_4)] 26 (0,0)))∧Aside0 (wc.heap[gb210]?=some (.cells #[.int .i64 ((rd_T35 l0_4 x3_1).f0),(.slice A209_1 ((rd_T35 l0_4 x3_1).f1).length c209_1)] 35 (0,0)))∧Aside0 (Below w.heap.size w wc))
    case first=>
     have H:=HC5.out
     clear HC5
     by_cases c10:((rd_T35 l0_4 x3_1).f0)<0
     ·rw [if_pos c10] at H
      have c10b0:decide (((rd_T35 l0_4 x3_1).f0)<0)=true:=decide_eq_true c10
      clear c10
      (first|rw [c10b0]|(simp only [i64_w,i32_w];rw [c10b0])|skip)
      have H':=Aside0.mk H
      clear H
      have hnb11:=NB210_208.out
      have hnc11:=NB208_210.out
      have hcz12_0:w7.cell? ⟨gb210,0,none⟩=some (.int .i64 0):=(blk_cell BK210.out 0).trans rfl
      have hcz12_1:w7.cell? ⟨gb210,1,none⟩=some (.slice none 0 0):=(blk_cell BK210.out 1).trans rfl
      have hfz12_0:=blk_frozen BK210.out 0
      have hfz12_1:=blk_frozen BK210.out 1
      go_wp2
      go_meet
      case rel=>exact⟨_,(true),(by first|rfl|(simp;done)|(simp [*];done)),H',⟨by have:=HK1.out;first|omega|exact Nat.le_refl _⟩,⟨by(with_reducible repeat(first|refine blk_drewN ?_ _|refine blk_drew ?_|refine blk_alloc ?_ _));refine blk_far ?_ NB208_210.out _;(with_reducible repeat(first|refine blk_drewN ?_ _|refine blk_drew ?_|refine blk_alloc ?_ _));refine blk_far ?_ NB208_210.out _;(with_reducible repeat(first|refine blk_drewN ?_ _|refine blk_drew ?_|refine blk_alloc ?_ _));exact BK208.out⟩,⟨by(with_reducible repeat(first|refine blk_drewN ?_ _|refine blk_drew ?_|refine blk_alloc ?_ _));refine blk_put (cs:=#[.int .i64 ((rd_T35 l0_4 x3_1).f0),.slice none 0 0]) ?_ 1 _ rfl;(with_reducible repeat(first|refine blk_drewN ?_ _|refine blk_drew ?_|refine blk_alloc ?_ _));refine blk_put (cs:=#[.int .i64 0,.slice none 0 0]) ?_ 0 _ rfl;(with_reducible repeat(first|refine blk_drewN ?_ _|refine blk_drew ?_|refine blk_alloc ?_ _));exact BK210.out⟩,⟨by repeat(first|(with_reducible first|exact HB.out|apply below_alloc|apply pw_below_drewN|apply below_drew1|refine below_set ?_ GE208.out|refine below_set ?_ GE210.out)|exact HB.out)⟩⟩
     ·rw [if_neg c10] at H
      have c10b0:decide (((rd_T35 l0_4 x3_1).f0)<0)=false:=decide_eq_false c10
      clear c10
      (first|rw [c10b0]|(simp only [i64_w,i32_w];rw [c10b0])|skip)
      have H':=Aside0.mk H
      clear H
      have hnb13:=NB210_208.out
      have hnc13:=NB208_210.out
      have hcz14_0:w7.cell? ⟨gb210,0,none⟩=some (.int .i64 0):=(blk_cell BK210.out 0).trans rfl
      have hcz14_1:w7.cell? ⟨gb210,1,none⟩=some (.slice none 0 0):=(blk_cell BK210.out 1).trans rfl
      have hfz14_0:=blk_frozen BK210.out 0
      have hfz14_1:=blk_frozen BK210.out 1
      have hcz15_0:w7.cell? ⟨gb208,0,none⟩=some (.slice A0_0 l0_0.length c0_0):=(blk_cell BK208.out 0).trans rfl
      have hcz15_1:w7.cell? ⟨gb208,1,none⟩=some (.slice A0_1 l0_1.length c0_1):=(blk_cell BK208.out 1).trans rfl
      have hcz15_2:w7.cell? ⟨gb208,2,none⟩=some (.int .i64 a0_2):=(blk_cell BK208.out 2).trans rfl
      have hcz15_3:w7.cell? ⟨gb208,3,none⟩=some (.int .i64 a0_3):=(blk_cell BK208.out 3).trans rfl
      have hcz15_4:w7.cell? ⟨gb208,4,none⟩=some (.slice (some ad209) l0_4.length c0_4):=(blk_cell BK208.out 4).trans rfl
      have hfz15_0:=blk_frozen BK208.out 0
      have hfz15_1:=blk_frozen BK208.out 1
      have hfz15_2:=blk_frozen BK208.out 2
      have hfz15_3:=blk_frozen BK208.out 3
      have hfz15_4:=blk_frozen BK208.out 4
      go_wp2
      go_meet
      case rel=>exact⟨_,(decide (((rd_T35 l0_4 x3_1).f0)≥(l0_0.length:Int))),(by first|rfl|(simp;done)|(simp [*];done)),H',⟨by have:=HK1.out;first|omega|exact Nat.le_refl _⟩,⟨by(with_reducible repeat(first|refine blk_drewN ?_ _|refine blk_drew ?_|refine blk_alloc ?_ _));refine blk_far ?_ NB208_210.out _;(with_reducible repeat(first|refine blk_drewN ?_ _|refine blk_drew ?_|refine blk_alloc ?_ _));refine blk_far ?_ NB208_210.out _;(with_reducible repeat(first|refine blk_drewN ?_ _|refine blk_drew ?_|refine blk_alloc ?_ _));exact BK208.out⟩,⟨by(with_reducible repeat(first|refine blk_drewN ?_ _|refine blk_drew ?_|refine blk_alloc ?_ _));refine blk_put (cs:=#[.int .i64 ((rd_T35 l0_4 x3_1).f0),.slice none 0 0]) ?_ 1 _ rfl;(with_reducible repeat(first|refine blk_drewN ?_ _|refine blk_drew ?_|refine blk_alloc ?_ _));refine blk_put (cs:=#[.int .i64 0,.slice none 0 0]) ?_ 0 _ rfl;(with_reducible repeat(first|refine blk_drewN ?_ _|refine blk_drew ?_|refine blk_alloc ?_ _));exact BK210.out⟩,⟨by repeat(first|(with_reducible first|exact HB.out|apply below_alloc|apply pw_below_drewN|apply below_drew1|refine below_set ?_ GE208.out|refine below_set ?_ GE210.out)|exact HB.out)⟩⟩
    case rest=>
     clear HC5
     (try clear c1);(try clear c2);(try clear p2);(try clear q2);(try clear hx2);(try clear c3);(try clear c3b0);(try clear c4);(try clear c4b0);(try clear c8);(try clear c10);(try clear c10b0);(try clear c11);(try clear c13);(try clear hcz12_0);(try clear hcz12_1);(try clear hcz14_0);(try clear hcz14_1);(try clear hcz15_0);(try clear hcz15_1);(try clear hcz15_2);(try clear hcz15_3);(try clear hcz15_4)
     (try clear hcz6_0);(try clear hcz6_1);(try clear hcz6_2);(try clear hcz6_3);(try clear hcz6_4);(try clear hcz9_0);(try clear hcz9_1);(try clear hfz12_0);(try clear hfz12_1);(try clear hfz14_0);(try clear hfz14_1);(try clear hfz15_0);(try clear hfz15_1);(try clear hfz15_2);(try clear hfz15_3);(try clear hfz15_4);(try clear hfz6_0);(try clear hfz6_1);(try clear hfz6_2);(try clear hfz6_3);(try clear hfz6_4)
     (try clear hfz9_0);(try clear hfz9_1);(try clear hx209_0);(try clear hx209_1);(try clear p2);(try clear p209);(try clear q209)
     obtain⟨kq,x29_4,rfl,HA,HJ4,BK208,BK210,HB⟩:=hcut
     cases kq with
     |zero=>exact absurd HA.out (by simp [regletref13_Right.j1])
     |succ kj4=>
      have H:=HA.out
      clear HA
      simp only [regletref13_Right.j1] at H
      by_cases c16:x29_4=true
      ·subst c16
       have H1:(some false)=some r:=by rw [if_pos rfl] at H;exact H
       clear H
       have H:=H1
       clear H1
       obtain rfl:=Option.some.inj H
       go_wp2
       go_ret
       exact⟨by first|rfl|(simp [errW_none,errW_some]<;>rfl)|(simp [*,errW_none,errW_some]<;>rfl),by repeat(first|(with_reducible first|exact HB.out|apply below_alloc|apply pw_below_drewN|apply below_drew1|refine below_set ?_ GE208.out|refine below_set ?_ GE210.out)|exact HB.out)⟩
      ·replace c16:=Bool.eq_false_iff.mpr c16
       subst c16
       have H1:(regletref13_Right.l1 kj4 x3_1 0 l0_0 l0_1 a0_2 a0_3 l0_4 ((rd_T35 l0_4 x3_1).f0) ((rd_T35 l0_4 x3_1).f1))=some r:=by rw [if_neg (show ¬(false=true) by decide)] at H;exact H
       clear H
       have H:=H1
       clear H1
       have H':=Aside0.mk H
       clear H
       go_wp2
       go_loopg [5] kj4 (fun kq v5 w'=>∃(x5_3:Int),v5= .int .i64 x5_3∧Aside0 (regletref13_Right.l1 kq x3_1 x5_3 l0_0 l0_1 a0_2 a0_3 l0_4 ((rd_T35 l0_4 x3_1).f0) ((rd_T35 l0_4 x3_1).f1)=some r)∧Aside0 (kq≤kj4)∧Aside0 (w'.heap[gb208]?=some (.cells #[(.slice A0_0 l0_0.length c0_0),(.slice A0_1 l0_1.length c0_1),.int .i64 a0_2,.int .i64 a0_3,(.slice (some ad209) l0_4.length c0_4)] 26 (0,0)))∧Aside0 (w'.heap[gb210]?=some (.cells #[.int .i64 ((rd_T35 l0_4 x3_1).f0),(.slice A209_1 ((rd_T35 l0_4 x3_1).f1).length c209_1)] 35 (0,0)))∧Aside0 (Below w.heap.size w w'))
       case atStart=>exact⟨(0),(by first|rfl|(simp;done)|(simp [*];done)),H',⟨Nat.le_refl _⟩,⟨by(with_reducible repeat(first|refine blk_drewN ?_ _|refine blk_drew ?_|refine blk_alloc ?_ _));exact BK208.out⟩,⟨by(with_reducible repeat(first|refine blk_drewN ?_ _|refine blk_drew ?_|refine blk_alloc ?_ _));exact BK210.out⟩,⟨by repeat(first|(with_reducible first|exact HB.out|apply below_alloc|apply pw_below_drewN|apply below_drew1|refine below_set ?_ GE208.out|refine below_set ?_ GE210.out)|exact HB.out)⟩⟩
       case round=>
        clear H'
        (try clear c1);(try clear c2);(try clear p2);(try clear q2);(try clear hx2);(try clear c3);(try clear c3b0);(try clear c4);(try clear c4b0);(try clear c8);(try clear c10);(try clear c10b0);(try clear c11);(try clear c13);(try clear c16);(try clear hcz12_0);(try clear hcz12_1);(try clear hcz14_0);(try clear hcz14_1);(try clear hcz15_0);(try clear hcz15_1);(try clear hcz15_2);(try clear hcz15_3);(try clear hcz15_4)
        (try clear hcz6_0);(try clear hcz6_1);(try clear hcz6_2);(try clear hcz6_3);(try clear hcz6_4);(try clear hcz9_0);(try clear hcz9_1);(try clear hfz12_0);(try clear hfz12_1);(try clear hfz14_0);(try clear hfz14_1);(try clear hfz15_0);(try clear hfz15_1);(try clear hfz15_2);(try clear hfz15_3);(try clear hfz15_4);(try clear hfz6_0);(try clear hfz6_1);(try clear hfz6_2);(try clear hfz6_3);(try clear hfz6_4)
        (try clear hfz9_0);(try clear hfz9_1);(try clear hx209_0);(try clear hx209_1);(try clear p2);(try clear p209);(try clear q2);(try clear q209)
        obtain⟨x5_3,rfl,HA,HK3,BK208,BK210,HB⟩:=hrel
        cases gk with
        |zero=>exact absurd HA.out (by simp [regletref13_Right.l1])
        |succ k3=>
         have H:=HA.out
         clear HA
         simp only [regletref13_Right.l1] at H
         by_cases c17:x5_3<(((rd_T35 l0_4 x3_1).f1).length:Int)
         ·rw [if_pos c17] at H
          have c17b0:decide (x5_3<(((rd_T35 l0_4 x3_1).f1).length:Int))=true:=decide_eq_true c17
          clear c17
          by_cases c18:0≤x5_3
          rotate_left
          ·rw [if_neg c18] at H
           exact absurd H (by simp)
          rw [if_pos c18] at H
          have c18b0:decide (0≤x5_3)=true:=decide_eq_true c18
          clear c18
          obtain⟨bq19,hbq19⟩:∃b_:Bool,b_=((rd_T43 ((rd_T35 l0_4 x3_1).f1) x5_3).f0):=⟨_,rfl⟩
          replace H:(if bq19=true then(if((rd_T43 ((rd_T35 l0_4 x3_1).f1) x5_3).f1)<0 then(some false) else(if((rd_T43 ((rd_T35 l0_4 x3_1).f1) x5_3).f1)≥(l0_1.length:Int) then(some false) else(regletref13_Right.l1 k3 x3_1 (wrap64 (x5_3+1)) l0_0 l0_1 a0_2 a0_3 l0_4 ((rd_T35 l0_4 x3_1).f0) ((rd_T35 l0_4 x3_1).f1)))) else(if((rd_T43 ((rd_T35 l0_4 x3_1).f1) x5_3).f1)<0 then(some false) else(if((rd_T43 ((rd_T35 l0_4 x3_1).f1) x5_3).f1)≥(l0_0.length:Int) then(some false) else(regletref13_Right.l1 k3 x3_1 (wrap64 (x5_3+1)) l0_0 l0_1 a0_2 a0_3 l0_4 ((rd_T35 l0_4 x3_1).f0) ((rd_T35 l0_4 x3_1).f1)))))=some r:=by rw [←hbq19] at H;exact H
          have Nbq19:=Aside0.mk hbq19
          clear hbq19
          by_cases c20:bq19=true
          ·subst c20
           have H1:(if((rd_T43 ((rd_T35 l0_4 x3_1).f1) x5_3).f1)<0 then(some false) else(if((rd_T43 ((rd_T35 l0_4 x3_1).f1) x5_3).f1)≥(l0_1.length:Int) then(some false) else(regletref13_Right.l1 k3 x3_1 (wrap64 (x5_3+1)) l0_0 l0_1 a0_2 a0_3 l0_4 ((rd_T35 l0_4 x3_1).f0) ((rd_T35 l0_4 x3_1).f1))))=some r:=by rw [if_pos rfl] at H;exact H
           clear H
           have H:=H1
           clear H1
           by_cases c21:((rd_T43 ((rd_T35 l0_4 x3_1).f1) x5_3).f1)<0
           ·rw [if_pos c21] at H
            have c21b0:decide (((rd_T43 ((rd_T35 l0_4 x3_1).f1) x5_3).f1)<0)=true:=decide_eq_true c21
            clear c21
            obtain rfl:=Option.some.inj H
            have hnb22:=NB210_208.out
            have hnc22:=NB208_210.out
            have hcz23_0:wr.cell? ⟨gb210,0,none⟩=some (.int .i64 ((rd_T35 l0_4 x3_1).f0)):=(blk_cell BK210.out 0).trans rfl
            have hcz23_1:wr.cell? ⟨gb210,1,none⟩=some (.slice A209_1 ((rd_T35 l0_4 x3_1).f1).length c209_1):=(blk_cell BK210.out 1).trans rfl
            have hfz23_0:=blk_frozen BK210.out 0
            have hfz23_1:=blk_frozen BK210.out 1
            have hcz24_0:wr.cell? ⟨gb208,0,none⟩=some (.slice A0_0 l0_0.length c0_0):=(blk_cell BK208.out 0).trans rfl
            have hcz24_1:wr.cell? ⟨gb208,1,none⟩=some (.slice A0_1 l0_1.length c0_1):=(blk_cell BK208.out 1).trans rfl
            have hcz24_2:wr.cell? ⟨gb208,2,none⟩=some (.int .i64 a0_2):=(blk_cell BK208.out 2).trans rfl
            have hcz24_3:wr.cell? ⟨gb208,3,none⟩=some (.int .i64 a0_3):=(blk_cell BK208.out 3).trans rfl
            have hcz24_4:wr.cell? ⟨gb208,4,none⟩=some (.slice (some ad209) l0_4.length c0_4):=(blk_cell BK208.out 4).trans rfl
            have hfz24_0:=blk_frozen BK208.out 0
            have hfz24_1:=blk_frozen BK208.out 1
            have hfz24_2:=blk_frozen BK208.out 2
            have hfz24_3:=blk_frozen BK208.out 3
            have hfz24_4:=blk_frozen BK208.out 4
            have p211:0≤(x5_3:Int):=of_decide_eq_true (by first|(with_reducible assumption)|assumption)
            have q211:x5_3<(((rd_T35 l0_4 x3_1).f1).length:Int):=of_decide_eq_true (by first|(with_reducible assumption)|assumption)
            obtain⟨ad211,e211,hx211_0,hx211_1⟩:=at_T43 HR209_1.out x5_3 p211 q211
            (try rw [←Nbq19.out] at hx211_0)
            cases e211
            replace hx211_0:=(HB.out.cell (World.block_lt_of_cell? w _ hx211_0)).trans hx211_0
            replace hx211_1:=(HB.out.cell (World.block_lt_of_cell? w _ hx211_1)).trans hx211_1
            replace p211:=eq_true p211
            replace q211:=eq_true q211
            have p212:0≤(x5_3:Int):=of_decide_eq_true (by first|(with_reducible assumption)|assumption)
            have q212:x5_3<(((rd_T35 l0_4 x3_1).f1).length:Int):=of_decide_eq_true (by first|(with_reducible assumption)|assumption)
            obtain⟨ad212,e212,hx212_0,hx212_1⟩:=at_T43 HR209_1.out x5_3 p212 q212
            (try rw [←Nbq19.out] at hx212_0)
            obtain rfl:ad211=ad212:=(by injection e212)
            replace hx212_0:=(HB.out.cell (World.block_lt_of_cell? w _ hx212_0)).trans hx212_0
            replace hx212_1:=(HB.out.cell (World.block_lt_of_cell? w _ hx212_1)).trans hx212_1
            replace p212:=eq_true p212
            replace q212:=eq_true q212
            go_wp2
            go_ret
            exact⟨by first|rfl|(simp [errW_none,errW_some]<;>rfl)|(simp [*,errW_none,errW_some]<;>rfl),by repeat(first|(with_reducible first|exact HB.out|apply below_alloc|apply pw_below_drewN|apply below_drew1|refine below_set ?_ GE208.out|refine below_set ?_ GE210.out)|exact HB.out)⟩
           ·rw [if_neg c21] at H
            have c21b0:decide (((rd_T43 ((rd_T35 l0_4 x3_1).f1) x5_3).f1)<0)=false:=decide_eq_false c21
            clear c21
            by_cases c25:((rd_T43 ((rd_T35 l0_4 x3_1).f1) x5_3).f1)≥(l0_1.length:Int)
            ·rw [if_pos c25] at H
             have c25b0:decide ((l0_1.length:Int)≤((rd_T43 ((rd_T35 l0_4 x3_1).f1) x5_3).f1))=true:=decide_eq_true c25
             clear c25
             obtain rfl:=Option.some.inj H
             have hnb26:=NB210_208.out
             have hnc26:=NB208_210.out
             have hcz27_0:wr.cell? ⟨gb210,0,none⟩=some (.int .i64 ((rd_T35 l0_4 x3_1).f0)):=(blk_cell BK210.out 0).trans rfl
             have hcz27_1:wr.cell? ⟨gb210,1,none⟩=some (.slice A209_1 ((rd_T35 l0_4 x3_1).f1).length c209_1):=(blk_cell BK210.out 1).trans rfl
             have hfz27_0:=blk_frozen BK210.out 0
             have hfz27_1:=blk_frozen BK210.out 1
             have hcz28_0:wr.cell? ⟨gb208,0,none⟩=some (.slice A0_0 l0_0.length c0_0):=(blk_cell BK208.out 0).trans rfl
             have hcz28_1:wr.cell? ⟨gb208,1,none⟩=some (.slice A0_1 l0_1.length c0_1):=(blk_cell BK208.out 1).trans rfl
             have hcz28_2:wr.cell? ⟨gb208,2,none⟩=some (.int .i64 a0_2):=(blk_cell BK208.out 2).trans rfl
             have hcz28_3:wr.cell? ⟨gb208,3,none⟩=some (.int .i64 a0_3):=(blk_cell BK208.out 3).trans rfl
             have hcz28_4:wr.cell? ⟨gb208,4,none⟩=some (.slice (some ad209) l0_4.length c0_4):=(blk_cell BK208.out 4).trans rfl
             have hfz28_0:=blk_frozen BK208.out 0
             have hfz28_1:=blk_frozen BK208.out 1
             have hfz28_2:=blk_frozen BK208.out 2
             have hfz28_3:=blk_frozen BK208.out 3
             have hfz28_4:=blk_frozen BK208.out 4
             have p211:0≤(x5_3:Int):=of_decide_eq_true (by first|(with_reducible assumption)|assumption)
             have q211:x5_3<(((rd_T35 l0_4 x3_1).f1).length:Int):=of_decide_eq_true (by first|(with_reducible assumption)|assumption)
             obtain⟨ad211,e211,hx211_0,hx211_1⟩:=at_T43 HR209_1.out x5_3 p211 q211
             (try rw [←Nbq19.out] at hx211_0)
             cases e211
             replace hx211_0:=(HB.out.cell (World.block_lt_of_cell? w _ hx211_0)).trans hx211_0
             replace hx211_1:=(HB.out.cell (World.block_lt_of_cell? w _ hx211_1)).trans hx211_1
             replace p211:=eq_true p211
             replace q211:=eq_true q211
             have p212:0≤(x5_3:Int):=of_decide_eq_true (by first|(with_reducible assumption)|assumption)
             have q212:x5_3<(((rd_T35 l0_4 x3_1).f1).length:Int):=of_decide_eq_true (by first|(with_reducible assumption)|assumption)
             obtain⟨ad212,e212,hx212_0,hx212_1⟩:=at_T43 HR209_1.out x5_3 p212 q212
             (try rw [←Nbq19.out] at hx212_0)
             obtain rfl:ad211=ad212:=(by injection e212)
             replace hx212_0:=(HB.out.cell (World.block_lt_of_cell? w _ hx212_0)).trans hx212_0
             replace hx212_1:=(HB.out.cell (World.block_lt_of_cell? w _ hx212_1)).trans hx212_1
             replace p212:=eq_true p212
             replace q212:=eq_true q212
             have p213:0≤(x5_3:Int):=of_decide_eq_true (by first|(with_reducible assumption)|assumption)
             have q213:x5_3<(((rd_T35 l0_4 x3_1).f1).length:Int):=of_decide_eq_true (by first|(with_reducible assumption)|assumption)
             obtain⟨ad213,e213,hx213_0,hx213_1⟩:=at_T43 HR209_1.out x5_3 p213 q213
             (try rw [←Nbq19.out] at hx213_0)
             obtain rfl:ad211=ad213:=(by injection e213)
             replace hx213_0:=(HB.out.cell (World.block_lt_of_cell? w _ hx213_0)).trans hx213_0
             replace hx213_1:=(HB.out.cell (World.block_lt_of_cell? w _ hx213_1)).trans hx213_1
             replace p213:=eq_true p213
             replace q213:=eq_true q213
             go_wp2
             go_ret
             exact⟨by first|rfl|(simp [errW_none,errW_some]<;>rfl)|(simp [*,errW_none,errW_some]<;>rfl),by repeat(first|(with_reducible first|exact HB.out|apply below_alloc|apply pw_below_drewN|apply below_drew1|refine below_set ?_ GE208.out|refine below_set ?_ GE210.out)|exact HB.out)⟩
            ·rw [if_neg c25] at H
             have c25b0:decide ((l0_1.length:Int)≤((rd_T43 ((rd_T35 l0_4 x3_1).f1) x5_3).f1))=false:=decide_eq_false c25
             clear c25
             have H':=Aside0.mk H
             clear H
             have hnb29:=NB210_208.out
             have hnc29:=NB208_210.out
             have hcz30_0:wr.cell? ⟨gb210,0,none⟩=some (.int .i64 ((rd_T35 l0_4 x3_1).f0)):=(blk_cell BK210.out 0).trans rfl
             have hcz30_1:wr.cell? ⟨gb210,1,none⟩=some (.slice A209_1 ((rd_T35 l0_4 x3_1).f1).length c209_1):=(blk_cell BK210.out 1).trans rfl
             have hfz30_0:=blk_frozen BK210.out 0
             have hfz30_1:=blk_frozen BK210.out 1
             have hcz31_0:wr.cell? ⟨gb208,0,none⟩=some (.slice A0_0 l0_0.length c0_0):=(blk_cell BK208.out 0).trans rfl
             have hcz31_1:wr.cell? ⟨gb208,1,none⟩=some (.slice A0_1 l0_1.length c0_1):=(blk_cell BK208.out 1).trans rfl
             have hcz31_2:wr.cell? ⟨gb208,2,none⟩=some (.int .i64 a0_2):=(blk_cell BK208.out 2).trans rfl
             have hcz31_3:wr.cell? ⟨gb208,3,none⟩=some (.int .i64 a0_3):=(blk_cell BK208.out 3).trans rfl
             have hcz31_4:wr.cell? ⟨gb208,4,none⟩=some (.slice (some ad209) l0_4.length c0_4):=(blk_cell BK208.out 4).trans rfl
             have hfz31_0:=blk_frozen BK208.out 0
             have hfz31_1:=blk_frozen BK208.out 1
             have hfz31_2:=blk_frozen BK208.out 2
             have hfz31_3:=blk_frozen BK208.out 3
             have hfz31_4:=blk_frozen BK208.out 4
             have p211:0≤(x5_3:Int):=of_decide_eq_true (by first|(with_reducible assumption)|assumption)
             have q211:x5_3<(((rd_T35 l0_4 x3_1).f1).length:Int):=of_decide_eq_true (by first|(with_reducible assumption)|assumption)
             obtain⟨ad211,e211,hx211_0,hx211_1⟩:=at_T43 HR209_1.out x5_3 p211 q211
             (try rw [←Nbq19.out] at hx211_0)
             cases e211
             replace hx211_0:=(HB.out.cell (World.block_lt_of_cell? w _ hx211_0)).trans hx211_0
             replace hx211_1:=(HB.out.cell (World.block_lt_of_cell? w _ hx211_1)).trans hx211_1
             replace p211:=eq_true p211
             replace q211:=eq_true q211
             have p212:0≤(x5_3:Int):=of_decide_eq_true (by first|(with_reducible assumption)|assumption)
             have q212:x5_3<(((rd_T35 l0_4 x3_1).f1).length:Int):=of_decide_eq_true (by first|(with_reducible assumption)|assumption)
             obtain⟨ad212,e212,hx212_0,hx212_1⟩:=at_T43 HR209_1.out x5_3 p212 q212
             (try rw [←Nbq19.out] at hx212_0)
             obtain rfl:ad211=ad212:=(by injection e212)
             replace hx212_0:=(HB.out.cell (World.block_lt_of_cell? w _ hx212_0)).trans hx212_0
             replace hx212_1:=(HB.out.cell (World.block_lt_of_cell? w _ hx212_1)).trans hx212_1
             replace p212:=eq_true p212
             replace q212:=eq_true q212
             have p213:0≤(x5_3:Int):=of_decide_eq_true (by first|(with_reducible assumption)|assumption)
             have q213:x5_3<(((rd_T35 l0_4 x3_1).f1).length:Int):=of_decide_eq_true (by first|(with_reducible assumption)|assumption)
             obtain⟨ad213,e213,hx213_0,hx213_1⟩:=at_T43 HR209_1.out x5_3 p213 q213
             (try rw [←Nbq19.out] at hx213_0)
             obtain rfl:ad211=ad213:=(by injection e213)
             replace hx213_0:=(HB.out.cell (World.block_lt_of_cell? w _ hx213_0)).trans hx213_0
             replace hx213_1:=(HB.out.cell (World.block_lt_of_cell? w _ hx213_1)).trans hx213_1
             replace p213:=eq_true p213
             replace q213:=eq_true q213
             go_wp2
             go_roundg k3
             case measure=>have:=HK1.out;have:=HJ4.out;have:=HK3.out;omega
             case rel=>exact⟨(wrap64 (x5_3+1)),(by first|rfl|(simp;done)|(simp [*];done)),H',⟨by have:=HK1.out;have:=HJ4.out;have:=HK3.out;omega⟩,⟨by(with_reducible repeat(first|refine blk_drewN ?_ _|refine blk_drew ?_|refine blk_alloc ?_ _));exact BK208.out⟩,⟨by(with_reducible repeat(first|refine blk_drewN ?_ _|refine blk_drew ?_|refine blk_alloc ?_ _));exact BK210.out⟩,⟨by repeat(first|(with_reducible first|exact HB.out|apply below_alloc|apply pw_below_drewN|apply below_drew1|refine below_set ?_ GE208.out|refine below_set ?_ GE210.out)|exact HB.out)⟩⟩
          ·replace c20:=Bool.eq_false_iff.mpr c20
           subst c20
           have H1:(if((rd_T43 ((rd_T35 l0_4 x3_1).f1) x5_3).f1)<0 then(some false) else(if((rd_T43 ((rd_T35 l0_4 x3_1).f1) x5_3).f1)≥(l0_0.length:Int) then(some false) else(regletref13_Right.l1 k3 x3_1 (wrap64 (x5_3+1)) l0_0 l0_1 a0_2 a0_3 l0_4 ((rd_T35 l0_4 x3_1).f0) ((rd_T35 l0_4 x3_1).f1))))=some r:=by rw [if_neg (show ¬(false=true) by decide)] at H;exact H
           clear H
           have H:=H1
           clear H1
           by_cases c32:((rd_T43 ((rd_T35 l0_4 x3_1).f1) x5_3).f1)<0
           ·rw [if_pos c32] at H
            have c32b0:decide (((rd_T43 ((rd_T35 l0_4 x3_1).f1) x5_3).f1)<0)=true:=decide_eq_true c32
            clear c32
            obtain rfl:=Option.some.inj H
            have hnb33:=NB210_208.out
            have hnc33:=NB208_210.out
            have hcz34_0:wr.cell? ⟨gb210,0,none⟩=some (.int .i64 ((rd_T35 l0_4 x3_1).f0)):=(blk_cell BK210.out 0).trans rfl
            have hcz34_1:wr.cell? ⟨gb210,1,none⟩=some (.slice A209_1 ((rd_T35 l0_4 x3_1).f1).length c209_1):=(blk_cell BK210.out 1).trans rfl
            have hfz34_0:=blk_frozen BK210.out 0
            have hfz34_1:=blk_frozen BK210.out 1
            have hcz35_0:wr.cell? ⟨gb208,0,none⟩=some (.slice A0_0 l0_0.length c0_0):=(blk_cell BK208.out 0).trans rfl
            have hcz35_1:wr.cell? ⟨gb208,1,none⟩=some (.slice A0_1 l0_1.length c0_1):=(blk_cell BK208.out 1).trans rfl
            have hcz35_2:wr.cell? ⟨gb208,2,none⟩=some (.int .i64 a0_2):=(blk_cell BK208.out 2).trans rfl
            have hcz35_3:wr.cell? ⟨gb208,3,none⟩=some (.int .i64 a0_3):=(blk_cell BK208.out 3).trans rfl
            have hcz35_4:wr.cell? ⟨gb208,4,none⟩=some (.slice (some ad209) l0_4.length c0_4):=(blk_cell BK208.out 4).trans rfl
            have hfz35_0:=blk_frozen BK208.out 0
            have hfz35_1:=blk_frozen BK208.out 1
            have hfz35_2:=blk_frozen BK208.out 2
            have hfz35_3:=blk_frozen BK208.out 3
            have hfz35_4:=blk_frozen BK208.out 4
            have p211:0≤(x5_3:Int):=of_decide_eq_true (by first|(with_reducible assumption)|assumption)
            have q211:x5_3<(((rd_T35 l0_4 x3_1).f1).length:Int):=of_decide_eq_true (by first|(with_reducible assumption)|assumption)
            obtain⟨ad211,e211,hx211_0,hx211_1⟩:=at_T43 HR209_1.out x5_3 p211 q211
            (try rw [←Nbq19.out] at hx211_0)
            cases e211
            replace hx211_0:=(HB.out.cell (World.block_lt_of_cell? w _ hx211_0)).trans hx211_0
            replace hx211_1:=(HB.out.cell (World.block_lt_of_cell? w _ hx211_1)).trans hx211_1
            replace p211:=eq_true p211
            replace q211:=eq_true q211
            have p214:0≤(x5_3:Int):=of_decide_eq_true (by first|(with_reducible assumption)|assumption)
            have q214:x5_3<(((rd_T35 l0_4 x3_1).f1).length:Int):=of_decide_eq_true (by first|(with_reducible assumption)|assumption)
            obtain⟨ad214,e214,hx214_0,hx214_1⟩:=at_T43 HR209_1.out x5_3 p214 q214
            (try rw [←Nbq19.out] at hx214_0)
            obtain rfl:ad211=ad214:=(by injection e214)
            replace hx214_0:=(HB.out.cell (World.block_lt_of_cell? w _ hx214_0)).trans hx214_0
            replace hx214_1:=(HB.out.cell (World.block_lt_of_cell? w _ hx214_1)).trans hx214_1
            replace p214:=eq_true p214
            replace q214:=eq_true q214
            go_wp2
            go_ret
            exact⟨by first|rfl|(simp [errW_none,errW_some]<;>rfl)|(simp [*,errW_none,errW_some]<;>rfl),by repeat(first|(with_reducible first|exact HB.out|apply below_alloc|apply pw_below_drewN|apply below_drew1|refine below_set ?_ GE208.out|refine below_set ?_ GE210.out)|exact HB.out)⟩
           ·rw [if_neg c32] at H
            have c32b0:decide (((rd_T43 ((rd_T35 l0_4 x3_1).f1) x5_3).f1)<0)=false:=decide_eq_false c32
            clear c32
            by_cases c36:((rd_T43 ((rd_T35 l0_4 x3_1).f1) x5_3).f1)≥(l0_0.length:Int)
            ·rw [if_pos c36] at H
             have c36b0:decide ((l0_0.length:Int)≤((rd_T43 ((rd_T35 l0_4 x3_1).f1) x5_3).f1))=true:=decide_eq_true c36
             clear c36
             obtain rfl:=Option.some.inj H
             have hnb37:=NB210_208.out
             have hnc37:=NB208_210.out
             have hcz38_0:wr.cell? ⟨gb210,0,none⟩=some (.int .i64 ((rd_T35 l0_4 x3_1).f0)):=(blk_cell BK210.out 0).trans rfl
             have hcz38_1:wr.cell? ⟨gb210,1,none⟩=some (.slice A209_1 ((rd_T35 l0_4 x3_1).f1).length c209_1):=(blk_cell BK210.out 1).trans rfl
             have hfz38_0:=blk_frozen BK210.out 0
             have hfz38_1:=blk_frozen BK210.out 1
             have hcz39_0:wr.cell? ⟨gb208,0,none⟩=some (.slice A0_0 l0_0.length c0_0):=(blk_cell BK208.out 0).trans rfl
             have hcz39_1:wr.cell? ⟨gb208,1,none⟩=some (.slice A0_1 l0_1.length c0_1):=(blk_cell BK208.out 1).trans rfl
             have hcz39_2:wr.cell? ⟨gb208,2,none⟩=some (.int .i64 a0_2):=(blk_cell BK208.out 2).trans rfl
             have hcz39_3:wr.cell? ⟨gb208,3,none⟩=some (.int .i64 a0_3):=(blk_cell BK208.out 3).trans rfl
             have hcz39_4:wr.cell? ⟨gb208,4,none⟩=some (.slice (some ad209) l0_4.length c0_4):=(blk_cell BK208.out 4).trans rfl
             have hfz39_0:=blk_frozen BK208.out 0
             have hfz39_1:=blk_frozen BK208.out 1
             have hfz39_2:=blk_frozen BK208.out 2
             have hfz39_3:=blk_frozen BK208.out 3
             have hfz39_4:=blk_frozen BK208.out 4
             have p211:0≤(x5_3:Int):=of_decide_eq_true (by first|(with_reducible assumption)|assumption)
             have q211:x5_3<(((rd_T35 l0_4 x3_1).f1).length:Int):=of_decide_eq_true (by first|(with_reducible assumption)|assumption)
             obtain⟨ad211,e211,hx211_0,hx211_1⟩:=at_T43 HR209_1.out x5_3 p211 q211
             (try rw [←Nbq19.out] at hx211_0)
             cases e211
             replace hx211_0:=(HB.out.cell (World.block_lt_of_cell? w _ hx211_0)).trans hx211_0
             replace hx211_1:=(HB.out.cell (World.block_lt_of_cell? w _ hx211_1)).trans hx211_1
             replace p211:=eq_true p211
             replace q211:=eq_true q211
             have p214:0≤(x5_3:Int):=of_decide_eq_true (by first|(with_reducible assumption)|assumption)
             have q214:x5_3<(((rd_T35 l0_4 x3_1).f1).length:Int):=of_decide_eq_true (by first|(with_reducible assumption)|assumption)
             obtain⟨ad214,e214,hx214_0,hx214_1⟩:=at_T43 HR209_1.out x5_3 p214 q214
             (try rw [←Nbq19.out] at hx214_0)
             obtain rfl:ad211=ad214:=(by injection e214)
             replace hx214_0:=(HB.out.cell (World.block_lt_of_cell? w _ hx214_0)).trans hx214_0
             replace hx214_1:=(HB.out.cell (World.block_lt_of_cell? w _ hx214_1)).trans hx214_1
             replace p214:=eq_true p214
             replace q214:=eq_true q214
             have p215:0≤(x5_3:Int):=of_decide_eq_true (by first|(with_reducible assumption)|assumption)
             have q215:x5_3<(((rd_T35 l0_4 x3_1).f1).length:Int):=of_decide_eq_true (by first|(with_reducible assumption)|assumption)
             obtain⟨ad215,e215,hx215_0,hx215_1⟩:=at_T43 HR209_1.out x5_3 p215 q215
             (try rw [←Nbq19.out] at hx215_0)
             obtain rfl:ad211=ad215:=(by injection e215)
             replace hx215_0:=(HB.out.cell (World.block_lt_of_cell? w _ hx215_0)).trans hx215_0
             replace hx215_1:=(HB.out.cell (World.block_lt_of_cell? w _ hx215_1)).trans hx215_1
             replace p215:=eq_true p215
             replace q215:=eq_true q215
             go_wp2
             go_ret
             exact⟨by first|rfl|(simp [errW_none,errW_some]<;>rfl)|(simp [*,errW_none,errW_some]<;>rfl),by repeat(first|(with_reducible first|exact HB.out|apply below_alloc|apply pw_below_drewN|apply below_drew1|refine below_set ?_ GE208.out|refine below_set ?_ GE210.out)|exact HB.out)⟩
            ·rw [if_neg c36] at H
             have c36b0:decide ((l0_0.length:Int)≤((rd_T43 ((rd_T35 l0_4 x3_1).f1) x5_3).f1))=false:=decide_eq_false c36
             clear c36
             have H':=Aside0.mk H
             clear H
             have hnb40:=NB210_208.out
             have hnc40:=NB208_210.out
             have hcz41_0:wr.cell? ⟨gb210,0,none⟩=some (.int .i64 ((rd_T35 l0_4 x3_1).f0)):=(blk_cell BK210.out 0).trans rfl
             have hcz41_1:wr.cell? ⟨gb210,1,none⟩=some (.slice A209_1 ((rd_T35 l0_4 x3_1).f1).length c209_1):=(blk_cell BK210.out 1).trans rfl
             have hfz41_0:=blk_frozen BK210.out 0
             have hfz41_1:=blk_frozen BK210.out 1
             have hcz42_0:wr.cell? ⟨gb208,0,none⟩=some (.slice A0_0 l0_0.length c0_0):=(blk_cell BK208.out 0).trans rfl
             have hcz42_1:wr.cell? ⟨gb208,1,none⟩=some (.slice A0_1 l0_1.length c0_1):=(blk_cell BK208.out 1).trans rfl
             have hcz42_2:wr.cell? ⟨gb208,2,none⟩=some (.int .i64 a0_2):=(blk_cell BK208.out 2).trans rfl
             have hcz42_3:wr.cell? ⟨gb208,3,none⟩=some (.int .i64 a0_3):=(blk_cell BK208.out 3).trans rfl
             have hcz42_4:wr.cell? ⟨gb208,4,none⟩=some (.slice (some ad209) l0_4.length c0_4):=(blk_cell BK208.out 4).trans rfl
             have hfz42_0:=blk_frozen BK208.out 0
             have hfz42_1:=blk_frozen BK208.out 1
             have hfz42_2:=blk_frozen BK208.out 2
             have hfz42_3:=blk_frozen BK208.out 3
             have hfz42_4:=blk_frozen BK208.out 4
             have p211:0≤(x5_3:Int):=of_decide_eq_true (by first|(with_reducible assumption)|assumption)
             have q211:x5_3<(((rd_T35 l0_4 x3_1).f1).length:Int):=of_decide_eq_true (by first|(with_reducible assumption)|assumption)
             obtain⟨ad211,e211,hx211_0,hx211_1⟩:=at_T43 HR209_1.out x5_3 p211 q211
             (try rw [←Nbq19.out] at hx211_0)
             cases e211
             replace hx211_0:=(HB.out.cell (World.block_lt_of_cell? w _ hx211_0)).trans hx211_0
             replace hx211_1:=(HB.out.cell (World.block_lt_of_cell? w _ hx211_1)).trans hx211_1
             replace p211:=eq_true p211
             replace q211:=eq_true q211
             have p214:0≤(x5_3:Int):=of_decide_eq_true (by first|(with_reducible assumption)|assumption)
             have q214:x5_3<(((rd_T35 l0_4 x3_1).f1).length:Int):=of_decide_eq_true (by first|(with_reducible assumption)|assumption)
             obtain⟨ad214,e214,hx214_0,hx214_1⟩:=at_T43 HR209_1.out x5_3 p214 q214
             (try rw [←Nbq19.out] at hx214_0)
             obtain rfl:ad211=ad214:=(by injection e214)
             replace hx214_0:=(HB.out.cell (World.block_lt_of_cell? w _ hx214_0)).trans hx214_0
             replace hx214_1:=(HB.out.cell (World.block_lt_of_cell? w _ hx214_1)).trans hx214_1
             replace p214:=eq_true p214
             replace q214:=eq_true q214
             have p215:0≤(x5_3:Int):=of_decide_eq_true (by first|(with_reducible assumption)|assumption)
             have q215:x5_3<(((rd_T35 l0_4 x3_1).f1).length:Int):=of_decide_eq_true (by first|(with_reducible assumption)|assumption)
             obtain⟨ad215,e215,hx215_0,hx215_1⟩:=at_T43 HR209_1.out x5_3 p215 q215
             (try rw [←Nbq19.out] at hx215_0)
             obtain rfl:ad211=ad215:=(by injection e215)
             replace hx215_0:=(HB.out.cell (World.block_lt_of_cell? w _ hx215_0)).trans hx215_0
             replace hx215_1:=(HB.out.cell (World.block_lt_of_cell? w _ hx215_1)).trans hx215_1
             replace p215:=eq_true p215
             replace q215:=eq_true q215
             go_wp2
             go_roundg k3
             case measure=>have:=HK1.out;have:=HJ4.out;have:=HK3.out;omega
             case rel=>exact⟨(wrap64 (x5_3+1)),(by first|rfl|(simp;done)|(simp [*];done)),H',⟨by have:=HK1.out;have:=HJ4.out;have:=HK3.out;omega⟩,⟨by(with_reducible repeat(first|refine blk_drewN ?_ _|refine blk_drew ?_|refine blk_alloc ?_ _));exact BK208.out⟩,⟨by(with_reducible repeat(first|refine blk_drewN ?_ _|refine blk_drew ?_|refine blk_alloc ?_ _));exact BK210.out⟩,⟨by repeat(first|(with_reducible first|exact HB.out|apply below_alloc|apply pw_below_drewN|apply below_drew1|refine below_set ?_ GE208.out|refine below_set ?_ GE210.out)|exact HB.out)⟩⟩
         ·rw [if_neg c17] at H
          have c17b0:decide (x5_3<(((rd_T35 l0_4 x3_1).f1).length:Int))=false:=decide_eq_false c17
          clear c17
          have H':=Aside0.mk H
          clear H
          have hnb43:=NB210_208.out
          have hnc43:=NB208_210.out
          have hcz44_0:wr.cell? ⟨gb210,0,none⟩=some (.int .i64 ((rd_T35 l0_4 x3_1).f0)):=(blk_cell BK210.out 0).trans rfl
          have hcz44_1:wr.cell? ⟨gb210,1,none⟩=some (.slice A209_1 ((rd_T35 l0_4 x3_1).f1).length c209_1):=(blk_cell BK210.out 1).trans rfl
          have hfz44_0:=blk_frozen BK210.out 0
          have hfz44_1:=blk_frozen BK210.out 1
          go_wp2
          go_roundg k3
          case measure=>have:=HK1.out;have:=HJ4.out;have:=HK3.out;omega
          case rel=>exact⟨(wrap64 (x3_1+1)),(by first|rfl|(simp;done)|(simp [*];done)),H',⟨by have:=HK1.out;have:=HJ4.out;have:=HK3.out;omega⟩,⟨by(with_reducible repeat(first|refine blk_drewN ?_ _|refine blk_drew ?_|refine blk_alloc ?_ _));exact BK208.out⟩,⟨by repeat(first|(with_reducible first|exact HB.out|apply below_alloc|apply pw_below_drewN|apply below_drew1|refine below_set ?_ GE208.out|refine below_set ?_ GE210.out)|exact HB.out)⟩⟩
   ·rw [if_neg c3] at H
    have c3b0:decide (x3_1<(l0_4.length:Int))=false:=decide_eq_false c3
    clear c3
    obtain rfl:=Option.some.inj H
    have hcz45_0:wr.cell? ⟨gb208,0,none⟩=some (.slice A0_0 l0_0.length c0_0):=(blk_cell BK208.out 0).trans rfl
    have hcz45_1:wr.cell? ⟨gb208,1,none⟩=some (.slice A0_1 l0_1.length c0_1):=(blk_cell BK208.out 1).trans rfl
    have hcz45_2:wr.cell? ⟨gb208,2,none⟩=some (.int .i64 a0_2):=(blk_cell BK208.out 2).trans rfl
    have hcz45_3:wr.cell? ⟨gb208,3,none⟩=some (.int .i64 a0_3):=(blk_cell BK208.out 3).trans rfl
    have hcz45_4:wr.cell? ⟨gb208,4,none⟩=some (.slice A0_4 l0_4.length c0_4):=(blk_cell BK208.out 4).trans rfl
    have hfz45_0:=blk_frozen BK208.out 0
    have hfz45_1:=blk_frozen BK208.out 1
    have hfz45_2:=blk_frozen BK208.out 2
    have hfz45_3:=blk_frozen BK208.out 3
    have hfz45_4:=blk_frozen BK208.out 4
    go_wp2
    go_ret
    exact⟨by first|rfl|(simp [errW_none,errW_some]<;>rfl)|(simp [*,errW_none,errW_some]<;>rfl),by repeat(first|(with_reducible first|exact HB.out|apply below_alloc|apply pw_below_drewN|apply below_drew1|refine below_set ?_ GE208.out)|exact HB.out)⟩
end Go.Proofs.Ytapjfnfengefpaa.P
end

section
namespace Go.Proofs.Ytapjfnfengefpaa.R
open Go.RowKit Go.Proofs.YtapjfnfengefpaaW.PrintWords Go.Proofs.YtapjfnfengefpaaW.PrintLast Go.Proofs.YtapjfnfengefpaaW.PrintMore
variable {α:Type}{d:Kd α}{t e:Nat}{w:World}{base n cap:Nat}{ok:Nat→Prop}{A:Option Addr}{v:Value}{m:List (List α)}
theorem S_row (hE:d.E= []) (h:Kd.S (Kd.slice t d) e w base ok (.slice A n cap) m) (i:Int) (h0:0≤i) (h1:i<m.length):
 ∃(g:Nat) (v:Value) (P:Nat→Prop),A=some ⟨g,0,none⟩∧w.cell? ⟨g,i.toNat,none⟩=some v∧d.R t w base P v (m.getD i.toNat [])∧(∀k,P k→ok k∧k≠g)∧
  ∀(w1:World) (P':Nat→Prop) (row':List α),Kept w w1 P→d.R t w1 base P' v row'→Kd.S (Kd.slice t d) e w1 base ok (.slice A n cap) (m.set i.toNat row'):=by
 obtain⟨g,cap',hv,_⟩:=Kd.S_form h (by omega)
 injection hv with hA hn hc
 subst hA
 subst hn
 subst hc
 obtain⟨oki,c,hcl,hM,hcell,hoki,hH⟩:=Kd.S_lend h ([]:List α) i h0 h1
 obtain⟨v,rfl,hR⟩:=hM
 refine⟨g,v,oki,rfl,?_,hR,hoki,fun w1 P' row' hk hR'=>?_⟩
 ·have:=hcell 0 v rfl
  rwa [show(Kd.slice t d).sz=1 from rfl,Nat.mul_one,Nat.add_zero] at this
 ·have hH':=Kd.H_step hH (fun k _ hn hlt=>hk.2 k hlt hn)
  exact Kd.H_back hH' (Kd.M_row (Kd.R_tight hE hR')) (fun k hk'=>hR.1 k hk'.symm)
end Go.Proofs.Ytapjfnfengefpaa.R
end

section
namespace Go.Proofs.Ytapjfnfengefpaa.P
open Go.RowKit Go.Proofs.YtapjfnfengefpaaW.PrintWords Go.Proofs.YtapjfnfengefpaaW.PrintLast Go.Proofs.YtapjfnfengefpaaW.PrintMore
attribute [local go_sem] max2_int min2_int max_two min_two max_three min_three max_four min_four   -- for this text's walks alone
set_option linter.unusedVariables false
set_option linter.unusedSimpArgs false
def regletref13_marks.l0:Nat→List (List Bool)→Int→List ByteArray→List (S72)→Int→Int→List (S35)→Option ((List (List Bool)))
 |0,_,_,_,_,_,_,_=>none
 |k+1,x3,x4,x337000,x337001,x337002,x337003,x337004=>if x4<(x337000.length:Int) then(if 0≤(wrap64 ((x337001.length:Int)+1)) then(if(wrap64 ((x337001.length:Int)+1):Int).toNat≤281474976710656 then(if x3.length<5864062014805 then(regletref13_marks.l0 k (x3++ [(List.replicate (wrap64 ((x337001.length:Int)+1):Int).toNat false)]) (wrap64 (x4+1)) x337000 x337001 x337002 x337003 x337004) else(none)) else(none)) else(none)) else(some x3)
def regletref13_marks.f (k:Nat) (l0_0:List ByteArray) (l0_1:List (S72)) (a0_2:Int) (a0_3:Int) (l0_4:List (S35)):Option ((List (List Bool))):=regletref13_marks.l0 k ([]:List (List Bool)) 0 l0_0 l0_1 a0_2 a0_3 l0_4
set_option maxHeartbeats 8000000 in
set_option maxRecDepth 100000 in
theorem regletref13_marks.calls (k:Nat) (A0_0:Option Addr) (c0_0:Nat) (l0_0:List ByteArray) (A0_1:Option Addr) (c0_1:Nat) (l0_1:List (S72)) (a0_2:Int) (a0_3:Int) (A0_4:Option Addr) (c0_4:Nat) (l0_4:List (S35)) (r:List (List Bool)) (w:World) (hr0_0:Kd.C Kd.string w A0_0 l0_0.length l0_0) (hc0_0:l0_0.length≤c0_0) (hr0_1:Kd.C k72 w A0_1 l0_1.length l0_1) (hc0_1:l0_1.length≤c0_1) (hr0_4:Kd.C k35 w A0_4 l0_4.length l0_4) (hc0_4:l0_4.length≤c0_4) (h:regletref13_marks.f k l0_0 l0_1 a0_2 a0_3 l0_4=some r):
 Calls Try.prog 43 #[.agg #[.slice A0_0 l0_0.length c0_0,.slice A0_1 l0_1.length c0_1,.int .i64 a0_2,.int .i64 a0_3,.slice A0_4 l0_4.length c0_4]] w fun e w'=>∃v0_:Value,e= .returned (v0_)∧Kd.S (Kd.slice 4 Kd.bool) 90 w' w.heap.size (fun _=>True) v0_ r∧Below w.heap.size w w':=by
 have hu26:=Try.underlying26
 have HR0_0:=Aside0.mk hr0_0
 have HC0_0:=Aside0.mk hc0_0
 clear hr0_0 hc0_0
 have HR0_1:=Aside0.mk hr0_1
 have HC0_1:=Aside0.mk hc0_1
 clear hr0_1 hc0_1
 have HR0_4:=Aside0.mk hr0_4
 have HC0_4:=Aside0.mk hc0_4
 clear hr0_4 hc0_4
 have HB:=Aside0.mk (Below.refl w.heap.size w)
 have H:(regletref13_marks.l0 k ([]:List (List Bool)) 0 l0_0 l0_1 a0_2 a0_3 l0_4)=some r:=h
 clear h
 have H':=Aside0.mk H
 clear H
 go_enter Try.func43,Try.ntmps43
 go_wp2_with (first|((with_reducible refine gate_dst (N:=1) rfl ?_);refine box_event ?hg (N:=1) ?hd (cs:=#[.slice A0_0 l0_0.length c0_0,.slice A0_1 l0_1.length c0_1,.int .i64 a0_2,.int .i64 a0_3,.slice A0_4 l0_4.length c0_4]) (t:=26) ?hr ?_;(case hd=>rfl);(case hg=>rfl);(case hr=>first|(go_simp;done)|(go_simp;rfl));intro gb336 hg w2 hbox hb;have n0_:=Aside0.mk (below_step (by repeat(first|(with_reducible first|exact HB.out|apply below_alloc|apply pw_below_drewN|apply below_drew1)|exact HB.out)) hb);have n1_:=Aside0.mk (hbox);have n2_:=Aside0.mk ((by rw [hg];exact(below_size (by repeat(first|(with_reducible first|exact HB.out|apply below_alloc|apply pw_below_drewN|apply below_drew1)|exact HB.out))):w.heap.size≤gb336));have n3_:=Aside0.mk ((by rw [hg];exact(below_size (by repeat(first|(with_reducible first|exact HB.out|apply below_alloc|apply pw_below_drewN|apply below_drew1)|exact HB.out))):w.heap.size≤gb336));clear HB;have HB:=n0_;have BK336:=n1_;have GW336:=n2_;have GE336:=n3_;clear n0_ n1_ n2_ n3_;clear hb hbox hg))
 go_loopg [3,4] k (fun kq v3 v4 w'=>∃(x3_1:List (List Bool)) (x4_1:Int),v4= .int .i64 x4_1∧Aside0 (regletref13_marks.l0 kq x3_1 x4_1 l0_0 l0_1 a0_2 a0_3 l0_4=some r)∧Aside0 (kq≤k)∧Aside0 (Kd.S (Kd.slice 4 Kd.bool) 90 w' w.heap.size (fun _=>True) v3 x3_1)∧Aside0 (w'.heap[gb336]?=some (.cells #[(.slice A0_0 l0_0.length c0_0),(.slice A0_1 l0_1.length c0_1),.int .i64 a0_2,.int .i64 a0_3,(.slice A0_4 l0_4.length c0_4)] 26 (0,0)))∧Aside0 (Below w.heap.size w w'))
 case atStart=>exact⟨(([]:List (List Bool))),(0),(by first|rfl|(simp;done)|(simp [*];done)),H',⟨Nat.le_refl _⟩,⟨by first|exact Kd.S_nil _ _ _ _ _|exact Kd.N_nil _ _ _ _ _|exact Kd.V_nil _ _ _ _ _|exact Kd.Q_nil _ _ _ _ _|exact Kd.R_nil _ _ _ _ _⟩,⟨by(with_reducible repeat(first|refine blk_drewN ?_ _|refine blk_drew ?_|refine blk_alloc ?_ _));exact BK336.out⟩,⟨by repeat(first|(with_reducible first|exact HB.out|apply below_alloc|apply pw_below_drewN|apply below_drew1|refine below_set ?_ GE336.out)|exact HB.out)⟩⟩
 case round=>
  clear H'
  (try clear p2)
  obtain⟨x3_1,x4_1,rfl,HA,HK1,HO_3,BK336,HB⟩:=hrel
  cases gk with
  |zero=>exact absurd HA.out (by simp [regletref13_marks.l0])
  |succ k1=>
   have H:=HA.out
   clear HA
   simp only [regletref13_marks.l0] at H
   by_cases c3:x4_1<(l0_0.length:Int)
   ·rw [if_pos c3] at H
    have c3b0:decide (x4_1<(l0_0.length:Int))=true:=decide_eq_true c3
    clear c3
    obtain⟨ji4,hji4⟩:∃j_:Int,(wrap64 ((l0_1.length:Int)+1))=j_:=⟨_,rfl⟩
    replace H:(if 0≤(ji4) then(if(ji4:Int).toNat≤281474976710656 then(if x3_1.length<5864062014805 then(regletref13_marks.l0 k1 (x3_1++ [(List.replicate (ji4:Int).toNat false)]) (wrap64 (x4_1+1)) l0_0 l0_1 a0_2 a0_3 l0_4) else(none)) else(none)) else(none))=some r:=by first|(rw [hji4] at H;exact H)|(simp only [hji4] at H ⊢;exact H)
    have hji4w:(IntKind.i64.wrap ((l0_1.length:Int)+1))=ji4:=(i64_w _).trans hji4
    by_cases c5:0≤(ji4)
    rotate_left
    ·rw [if_neg c5] at H
     exact absurd H (by simp)
    rw [if_pos c5] at H
    have c5b0:=eq_true c5
    have c5b1:decide (0≤(ji4))=true:=decide_eq_true c5
    clear c5
    by_cases c6:(ji4:Int).toNat≤281474976710656
    rotate_left
    ·rw [if_neg c6] at H
     exact absurd H (by simp)
    rw [if_pos c6] at H
    have c6b0:=eq_true c6
    have c6b1:decide ((ji4:Int).toNat≤281474976710656)=true:=decide_eq_true c6
    clear c6
    obtain⟨y337,hy337⟩:∃y_:List Bool,y_=(List.replicate (ji4:Int).toNat false):=⟨_,rfl⟩
    replace H:(if x3_1.length<5864062014805 then(regletref13_marks.l0 k1 (x3_1++ [y337]) (wrap64 (x4_1+1)) l0_0 l0_1 a0_2 a0_3 l0_4) else(none))=some r:=by first|(rw [hy337];with_reducible exact H)|(have H2_:=(Option.bind_some _ _).symm.trans H;rw [hy337];with_reducible exact H2_)|(have H2_:=(Option.bind_some _ _).symm.trans H;with_reducible exact H2_)|with_reducible exact H|(rw [hy337];exact H)|exact H
    have Ny337:=Aside0.mk hy337
    clear hy337
    by_cases c7:x3_1.length<5864062014805
    rotate_left
    ·rw [if_neg c7] at H
     exact absurd H (by simp)
    rw [if_pos c7] at H
    have LMc7:=Aside0.mk c7
    clear c7
    obtain⟨y340,hy340⟩:∃y_:List (List Bool),y_=(x3_1++ [y337]):=⟨_,rfl⟩
    replace H:(regletref13_marks.l0 k1 y340 (wrap64 (x4_1+1)) l0_0 l0_1 a0_2 a0_3 l0_4)=some r:=by first|(rw [hy340];with_reducible exact H)|(have H2_:=(Option.bind_some _ _).symm.trans H;rw [hy340];with_reducible exact H2_)|(have H2_:=(Option.bind_some _ _).symm.trans H;with_reducible exact H2_)|with_reducible exact H|(rw [hy340];exact H)|exact H
    have Ny340:=Aside0.mk hy340
    clear hy340
    have H':=Aside0.mk H
    clear H
    have hcz8_0:wr.cell? ⟨gb336,0,none⟩=some (.slice A0_0 l0_0.length c0_0):=(blk_cell BK336.out 0).trans rfl
    have hcz8_1:wr.cell? ⟨gb336,1,none⟩=some (.slice A0_1 l0_1.length c0_1):=(blk_cell BK336.out 1).trans rfl
    have hcz8_2:wr.cell? ⟨gb336,2,none⟩=some (.int .i64 a0_2):=(blk_cell BK336.out 2).trans rfl
    have hcz8_3:wr.cell? ⟨gb336,3,none⟩=some (.int .i64 a0_3):=(blk_cell BK336.out 3).trans rfl
    have hcz8_4:wr.cell? ⟨gb336,4,none⟩=some (.slice A0_4 l0_4.length c0_4):=(blk_cell BK336.out 4).trans rfl
    have hfz8_0:=blk_frozen BK336.out 0
    have hfz8_1:=blk_frozen BK336.out 1
    have hfz8_2:=blk_frozen BK336.out 2
    have hfz8_3:=blk_frozen BK336.out 3
    have hfz8_4:=blk_frozen BK336.out 4
    go_wp2_with (first|((with_reducible refine gate_dst (N:=17) rfl ?_);refine Kd.R_make Kd.bool _ 4 rfl (N:=17) rfl 90 _ _ rfl ji4 rfl rfl Try.underlying90 (.bool false) 1 info4 rfl (by decide) (by omega) false (ok:=fun _=>True) (okp:=fun _=>True) rfl (fun _ hk=>hk) trivial (of_decide_eq_true (by first|(with_reducible assumption)|assumption)) (Nat.le_trans (Nat.mul_le_mul_right _ (of_decide_eq_true (by first|(with_reducible assumption)|assumption):ji4.toNat≤281474976710656)) (by omega)) (Below.refl _ _) (Nat.le_refl _) ?_;intro v338 w9 ho10 hb hg_ hnew_;clear hg_ hnew_;(first|rw [←Ny337.out] at ho10|(simp only [Int.reduceToNat] at ho10;rw [←Ny337.out] at ho10));have n0_:=Aside0.mk (Kd.S_elder' (by(with_reducible repeat(first|apply Kd.S_alloc|apply Kd.S_drewN|apply Kd.S_drew));exact HO_3.out) (Kd.R_base ho10) hb);have n1_:=Aside0.mk (Kd.R_lower ho10 (below_size (by repeat(first|(with_reducible first|exact HB.out|apply below_alloc|apply pw_below_drewN|apply below_drew1|refine below_set ?_ GE336.out)|exact HB.out))));have n2_:=Aside0.mk (blk_below (g:=gb336) (o:= .cells #[.slice A0_0 l0_0.length c0_0,.slice A0_1 l0_1.length c0_1,.int .i64 a0_2,.int .i64 a0_3,.slice A0_4 l0_4.length c0_4] 26 (0,0)) (by(with_reducible repeat(first|refine blk_drewN ?_ _|refine blk_drew ?_|refine blk_alloc ?_ _));exact BK336.out) hb);have n3_:=Aside0.mk (below_step (by repeat(first|(with_reducible first|exact HB.out|apply below_alloc|apply pw_below_drewN|apply below_drew1|refine below_set ?_ GE336.out)|exact HB.out)) hb);clear HO_3;clear BK336;clear HB;have HO_3:=n0_;have HO339:=n1_;have BK336:=n2_;have HB:=n3_;clear n0_ n1_ n2_ n3_;clear hb ho10;obtain⟨Ao12,co12,eo12⟩:=Kd.R_slice HO339.out;subst eo12)|((with_reducible refine gate_builtin (b:= .append) (xs:=#[.tmp 12,.tmp 18]) rfl ?_);at_builtin;refine Kd.S_append (Kd.slice 4 Kd.bool) (w0:=w) w.heap.size rfl (.tmp 12) (.tmp 18) 88 90 (.slice none 0 0) 24 rfl Try.underlying88 info90 rfl (by decide) (by omega) u3 x3_1 y337 [.slice Ao12 y337.length co12] (fun _=>True) (fun k_=>some k_=(.slice Ao12 y337.length co12:Value).ownBlock) rfl rfl ?aP (fun k_ hk_=>((Kd.R_mono (ok':=fun k_=>((fun _=>True)) k_∧some k_≠(u3:Value).ownBlock) (Kd.R_apart' (HO339.out) (Kd.S_typed HO_3.out) (by decide)) (fun k_ hk=>⟨trivial,hk.2⟩))).1 k_ hk_.symm) ?aF ?aO ?aB ?aS ?aL ?_;(case aP=>exact Kd.M_row (Kd.R_mono (Kd.R_tight rfl (Kd.R_mono (ok':=fun k_=>((fun _=>True)) k_∧some k_≠(u3:Value).ownBlock) (Kd.R_apart' (HO339.out) (Kd.S_typed HO_3.out) (by decide)) (fun k_ hk=>⟨trivial,hk.2⟩))) (fun _ h_=>h_)));(case aB=>exact(by repeat(first|(with_reducible first|exact HB.out|apply below_alloc|apply pw_below_drewN|apply below_drew1|refine below_set ?_ GE336.out)|exact HB.out)));(case aF=>exact(fun _ _=>trivial));(case aO=>exact(by(with_reducible repeat(first|apply Kd.S_alloc|apply Kd.S_drewN|apply Kd.S_drew));exact Kd.S_mono HO_3.out (fun k_ hk=>⟨trivial,fun e_=>hk.2 e_⟩)));(case aS=>exact(below_size (by repeat(first|(with_reducible first|exact HB.out|apply below_alloc|apply pw_below_drewN|apply below_drew1|refine below_set ?_ GE336.out)|exact HB.out))));(case aL=>have:=LMc7.out;omega);intro v341 w11 ho hb hg hat;rw [←Ny340.out] at ho;have n0_:=Aside0.mk (blk_grown (g:=gb336) (o:= .cells #[.slice A0_0 l0_0.length c0_0,.slice A0_1 l0_1.length c0_1,.int .i64 a0_2,.int .i64 a0_3,.slice A0_4 l0_4.length c0_4] 26 (0,0)) (by(with_reducible repeat(first|refine blk_drewN ?_ _|refine blk_drew ?_|refine blk_alloc ?_ _));exact BK336.out) hg (Kd.S_ne HO_3.out BK336.out (by decide)));have n1_:=Aside0.mk (hb);have n2_:=Aside0.mk (ho);clear BK336;clear HB;clear HO_3;clear HO339;have BK336:=n0_;have HB:=n1_;have HO342:=n2_;clear n0_ n1_ n2_;clear ho hb hg hat))
    go_roundg k1
    case measure=>have:=HK1.out;omega
    case rel=>exact⟨(y340),(wrap64 (x4_1+1)),(by first|rfl|(simp;done)|(simp [*];done)),H',⟨by have:=HK1.out;omega⟩,⟨by(with_reducible repeat(first|apply Kd.S_alloc|apply Kd.S_drewN|apply Kd.S_drew));exact HO342.out⟩,⟨by(with_reducible repeat(first|refine blk_drewN ?_ _|refine blk_drew ?_|refine blk_alloc ?_ _));exact BK336.out⟩,⟨by repeat(first|(with_reducible first|exact HB.out|apply below_alloc|apply pw_below_drewN|apply below_drew1|refine below_set ?_ GE336.out)|exact HB.out)⟩⟩
   ·rw [if_neg c3] at H
    have c3b0:decide (x4_1<(l0_0.length:Int))=false:=decide_eq_false c3
    clear c3
    obtain rfl:=Option.some.inj H
    have hcz13_0:wr.cell? ⟨gb336,0,none⟩=some (.slice A0_0 l0_0.length c0_0):=(blk_cell BK336.out 0).trans rfl
    have hcz13_1:wr.cell? ⟨gb336,1,none⟩=some (.slice A0_1 l0_1.length c0_1):=(blk_cell BK336.out 1).trans rfl
    have hcz13_2:wr.cell? ⟨gb336,2,none⟩=some (.int .i64 a0_2):=(blk_cell BK336.out 2).trans rfl
    have hcz13_3:wr.cell? ⟨gb336,3,none⟩=some (.int .i64 a0_3):=(blk_cell BK336.out 3).trans rfl
    have hcz13_4:wr.cell? ⟨gb336,4,none⟩=some (.slice A0_4 l0_4.length c0_4):=(blk_cell BK336.out 4).trans rfl
    have hfz13_0:=blk_frozen BK336.out 0
    have hfz13_1:=blk_frozen BK336.out 1
    have hfz13_2:=blk_frozen BK336.out 2
    have hfz13_3:=blk_frozen BK336.out 3
    have hfz13_4:=blk_frozen BK336.out 4
    go_wp2
    go_ret
    exact⟨_,by first|rfl|(simp [errW_none,errW_some]<;>rfl)|(simp [*,errW_none,errW_some]<;>rfl),by(with_reducible repeat(first|apply Kd.S_alloc|apply Kd.S_drewN|apply Kd.S_drew));exact HO_3.out,by repeat(first|(with_reducible first|exact HB.out|apply below_alloc|apply pw_below_drewN|apply below_drew1|refine below_set ?_ GE336.out)|exact HB.out)⟩
attribute [local go_sem] max2_int min2_int max_two min_two max_three min_three max_four min_four   -- for this text's walks alone
set_option linter.unusedVariables false
set_option linter.unusedSimpArgs false
def regletref13_join.l0:Nat→List Bool→List Bool→Bool→Int→Option (Bool×List Bool)
 |0,_,_,_,_=>none
 |k+1,x0,x1,x5,x6=>if x6<(x0.length:Int) then(if x5=true then(if 0≤x6 then(if rdOf false x0 x6=true then(regletref13_join.l0 k (x0.set (x6:Int).toNat true) x1 true (wrap64 (x6+1))) else(if x6<(x1.length:Int) then(regletref13_join.l0 k (x0.set (x6:Int).toNat (rdOf false x1 x6)) x1 true (wrap64 (x6+1))) else(none))) else(none)) else(if 0≤x6 then(if x6<(x1.length:Int) then(if rdOf false x1 x6=true then(if rdOf false x0 x6=true then(regletref13_join.l0 k (x0.set (x6:Int).toNat true) x1 (!(rdOf false x0 x6)) (wrap64 (x6+1))) else(regletref13_join.l0 k (x0.set (x6:Int).toNat (rdOf false x1 x6)) x1 (!(rdOf false x0 x6)) (wrap64 (x6+1)))) else(if rdOf false x0 x6=true then(regletref13_join.l0 k (x0.set (x6:Int).toNat true) x1 false (wrap64 (x6+1))) else(regletref13_join.l0 k (x0.set (x6:Int).toNat (rdOf false x1 x6)) x1 false (wrap64 (x6+1))))) else(none)) else(none))) else(some (x5,x0))
def regletref13_join.f (k:Nat) (l0:List Bool) (l1:List Bool):Option (Bool×List Bool):=regletref13_join.l0 k l0 l1 false 0
set_option maxHeartbeats 8000000 in
set_option maxRecDepth 100000 in
theorem regletref13_join.calls (k:Nat) (P0_:Nat→Prop) (u9000_:Value) (l0:List Bool) (A1:Option Addr) (c1:Nat) (l1:List Bool) (r1:Bool) (r2:List Bool) (w0 w:World) (hB:Below w0.heap.size w0 w) (ho0:Kd.R Kd.bool 4 w w0.heap.size P0_ u9000_ l0) (hr1:∀W_,Kept w W_ (fun k_=>P0_ k_)→Kd.C Kd.bool W_ A1 l1.length l1) (hc1:l1.length≤c1) (h:regletref13_join.f k l0 l1=some (r1,r2)):
 Calls Try.prog 47 #[u9000_,.slice A1 l1.length c1] w fun e w'=>e= .returned (.bool r1)∧Kd.R Kd.bool 4 w' w0.heap.size (fun k_=>(P0_ k_∨w.heap.size≤k_)) u9000_ r2∧Below w0.heap.size w0 w'∧Kept w w' (fun k_=>P0_ k_):=by
 have HO0:=Aside0.mk (show Kd.R Kd.bool 4 w w0.heap.size (fun k_=>(P0_ k_∨w.heap.size≤k_)) u9000_ l0 from Kd.R_mono ho0 (fun k_ hk=>(.inl hk)))
 have HR1:=Aside0.mk hr1
 have HC1:=Aside0.mk hc1
 clear hr1 hc1
 have HK:=Aside0.mk (Kept.refl w (fun k_=>P0_ k_))
 have HW0:=Aside0.mk hB.size
 have HB:=Aside0.mk hB
 clear hB
 have H:(regletref13_join.l0 k l0 l1 false 0)=some (r1,r2):=h
 clear h
 have H':=Aside0.mk H
 clear H
 go_enter Try.func47,Try.ntmps47
 go_wp2
 go_loopg [5,6] k (fun kq v5 v6 w'=>∃(x0_1:List Bool) (x5_1:Bool) (x6_1:Int),v5= .bool x5_1∧v6= .int .i64 x6_1∧Aside0 (regletref13_join.l0 kq x0_1 l1 x5_1 x6_1=some (r1,r2))∧Aside0 (kq≤k)∧Aside0 (Kd.R Kd.bool 4 w' w0.heap.size (fun k_=>(P0_ k_∨w.heap.size≤k_)) u9000_ x0_1)∧Aside0 (Kept w w' (fun k_=>P0_ k_))∧Aside0 (Below w0.heap.size w0 w'))
 case atStart=>exact⟨(l0),(false),(0),(by first|rfl|(simp;done)|(simp [*];done)),(by first|rfl|(simp;done)|(simp [*];done)),H',⟨Nat.le_refl _⟩,⟨by(with_reducible repeat(first|apply Kd.R_alloc|apply Kd.R_drewN|apply Kd.R_drew));exact HO0.out⟩,⟨by repeat(first|(with_reducible first|exact HK.out|apply Kept.alloc|apply Kept.drewN|apply Kept.drew)|exact HK.out)⟩,⟨by repeat(first|(with_reducible first|exact HB.out|apply below_alloc|apply pw_below_drewN|apply below_drew1)|exact HB.out)⟩⟩
 case round=>
  clear H'
  (try clear c1);(try clear p2)
  obtain⟨x0_1,x5_1,x6_1,rfl,rfl,HA,HK1,HO_0,HK,HB⟩:=hrel
  cases gk with
  |zero=>exact absurd HA.out (by simp [regletref13_join.l0])
  |succ k1=>
   have H:=HA.out
   clear HA
   simp only [regletref13_join.l0] at H
   by_cases c3:x6_1<(x0_1.length:Int)
   ·rw [if_pos c3] at H
    have c3b0:decide (x6_1<(x0_1.length:Int))=true:=decide_eq_true c3
    clear c3
    by_cases c4:x5_1=true
    ·subst c4
     have H1:(if 0≤x6_1 then(if rdOf false x0_1 x6_1=true then(regletref13_join.l0 k1 (x0_1.set (x6_1:Int).toNat true) l1 true (wrap64 (x6_1+1))) else(if x6_1<(l1.length:Int) then(regletref13_join.l0 k1 (x0_1.set (x6_1:Int).toNat (rdOf false l1 x6_1)) l1 true (wrap64 (x6_1+1))) else(none))) else(none))=some (r1,r2):=by rw [if_pos rfl] at H;exact H
     clear H
     have H:=H1
     clear H1
     by_cases c5:0≤x6_1
     rotate_left
     ·rw [if_neg c5] at H
      exact absurd H (by simp)
     rw [if_pos c5] at H
     have c5b0:decide (0≤x6_1)=true:=decide_eq_true c5
     clear c5
     obtain⟨bq6,hbq6⟩:∃b_:Bool,b_=(rdOf false x0_1 x6_1):=⟨_,rfl⟩
     replace H:(if bq6=true then(regletref13_join.l0 k1 (x0_1.set (x6_1:Int).toNat true) l1 true (wrap64 (x6_1+1))) else(if x6_1<(l1.length:Int) then(regletref13_join.l0 k1 (x0_1.set (x6_1:Int).toNat (rdOf false l1 x6_1)) l1 true (wrap64 (x6_1+1))) else(none)))=some (r1,r2):=by rw [←hbq6] at H;exact H
     have Nbq6:=Aside0.mk hbq6
     clear hbq6
     by_cases c7:bq6=true
     ·subst c7
      have H1:(regletref13_join.l0 k1 (x0_1.set (x6_1:Int).toNat true) l1 true (wrap64 (x6_1+1)))=some (r1,r2):=by rw [if_pos rfl] at H;exact H
      clear H
      have H:=H1
      clear H1
      obtain⟨y358,hy358⟩:∃y_:List Bool,y_=(x0_1.set (x6_1:Int).toNat true):=⟨_,rfl⟩
      replace H:(regletref13_join.l0 k1 y358 l1 true (wrap64 (x6_1+1)))=some (r1,r2):=by first|(rw [hy358];with_reducible exact H)|(have H2_:=(Option.bind_some _ _).symm.trans H;rw [hy358];with_reducible exact H2_)|(have H2_:=(Option.bind_some _ _).symm.trans H;with_reducible exact H2_)|with_reducible exact H|(rw [hy358];exact H)|exact H
      have Ny358:=Aside0.mk hy358
      clear hy358
      have H':=Aside0.mk H
      clear H
      obtain⟨Ao9,co9,eo9⟩:=Kd.R_slice HO_0.out
      subst eo9
      have p357:0≤(x6_1:Int):=of_decide_eq_true (by first|(with_reducible assumption)|assumption)
      have q357:x6_1<(x0_1.length:Int):=of_decide_eq_true (by first|(with_reducible assumption)|assumption)
      obtain⟨ad357,e357,hx357_0⟩:=Kd.at_bool (Kd.R_reads' HO_0.out).2.2 x6_1 p357 q357
      (try rw [←Nbq6.out] at hx357_0)
      cases e357
      replace p357:=eq_true p357
      replace q357:=eq_true q357
      have p8:0≤(x6_1:Int):=of_decide_eq_true (by first|(with_reducible assumption)|assumption)
      have q8:(x6_1:Int)<((x0_1.length:Int):Int):=of_decide_eq_true (by first|(with_reducible assumption)|assumption)
      obtain⟨go8,co8,eo8,gb8,gl8,cl8,HG8⟩:=Kd.R_form HO_0.out (by omega)
      (first|cases eo8|(injection eo8 with ea_ en_ ec_;(first|subst ea_|(injection ea_ with ea_;subst ea_));subst ec_;clear en_))
      have GB8:=Aside0.mk gb8
      have GG8:=Aside0.mk HG8
      clear gb8 gl8 HG8
      have HMgo8:=Aside0.mk (show(P0_ go8∨w.heap.size≤go8) from(HO_0.out.1 _ rfl))
      (first|simp only [add_plain] at hx357_0|skip)
      obtain⟨hx8_0,hf8_0⟩:=Kd.R_celln false HO_0.out (x6_1:Int) p8 q8
      replace p8:=eq_true p8
      replace q8:=eq_true q8
      have HP10:=Kd.R_putg HO_0.out (x6_1:Int) true
      go_wp2_with (first|((with_reducible refine gate_store (t:=4) (p:=39) rfl ?_);refine store_event (t:=4) (p:=39) (v:=?vo_w11) (w1:=(wr.setCell ⟨go8,(x6_1:Int).toNat,none⟩ (.bool true))) ?hg ?ho ?hn ?hr ?_;(case ho=>rfl);(case hg=>rfl);(case hn=>rfl);(case hr=>first|(go_simp;done)|(go_simp;rfl));intro w11 hw;have hg:wr.grownBy w11 (some go8):=(by rw [hw];exact HP10.2);have hp_:Kd.R Kd.bool 4 w11 w0.heap.size (fun k_=>(P0_ k_∨w.heap.size≤k_)) (.slice (some ⟨go8,0,none⟩) x0_1.length co9) y358:=(by rw [hw,Ny358.out];exact HP10.1);clear HP10;have n0_:=Aside0.mk (hp_);have n1_:=Aside0.mk ((by rw [hw];exact below_set (HB.out) GB8.out:Below w0.heap.size w0 w11));have n2_:=Aside0.mk (Kept.of_grown (S:=(fun k_=>P0_ k_)) hg (by repeat(first|(with_reducible first|exact HK.out|apply Kept.alloc|apply Kept.drewN|apply Kept.drew)|exact HK.out)) (fun k_ e_=>(HO_0.out.1 k_ e_)));clear HO_0;clear HB;clear HK;have HO_0:=n0_;have HB:=n1_;have HK:=n2_;clear n0_ n1_ n2_;clear hg hw hp_))
      go_roundg k1
      case measure=>have:=HK1.out;omega
      case rel=>exact⟨(y358),(true),(wrap64 (x6_1+1)),(by first|rfl|(simp;done)|(simp [*];done)),(by first|rfl|(simp;done)|(simp [*];done)),H',⟨by have:=HK1.out;omega⟩,⟨by(with_reducible repeat(first|apply Kd.R_alloc|apply Kd.R_drewN|apply Kd.R_drew));exact HO_0.out⟩,⟨by repeat(first|(with_reducible first|exact HK.out|apply Kept.alloc|apply Kept.drewN|apply Kept.drew)|exact HK.out)⟩,⟨by repeat(first|(with_reducible first|exact HB.out|apply below_alloc|apply pw_below_drewN|apply below_drew1)|exact HB.out)⟩⟩
     ·replace c7:=Bool.eq_false_iff.mpr c7
      subst c7
      have H1:(if x6_1<(l1.length:Int) then(regletref13_join.l0 k1 (x0_1.set (x6_1:Int).toNat (rdOf false l1 x6_1)) l1 true (wrap64 (x6_1+1))) else(none))=some (r1,r2):=by rw [if_neg (show ¬(false=true) by decide)] at H;exact H
      clear H
      have H:=H1
      clear H1
      by_cases c12:x6_1<(l1.length:Int)
      rotate_left
      ·rw [if_neg c12] at H
       exact absurd H (by simp)
      rw [if_pos c12] at H
      have c12b0:decide (x6_1<(l1.length:Int))=true:=decide_eq_true c12
      clear c12
      obtain⟨y360,hy360⟩:∃y_:List Bool,y_=(x0_1.set (x6_1:Int).toNat (rdOf false l1 x6_1)):=⟨_,rfl⟩
      replace H:(regletref13_join.l0 k1 y360 l1 true (wrap64 (x6_1+1)))=some (r1,r2):=by first|(rw [hy360];with_reducible exact H)|(have H2_:=(Option.bind_some _ _).symm.trans H;rw [hy360];with_reducible exact H2_)|(have H2_:=(Option.bind_some _ _).symm.trans H;with_reducible exact H2_)|with_reducible exact H|(rw [hy360];exact H)|exact H
      have Ny360:=Aside0.mk hy360
      clear hy360
      have H':=Aside0.mk H
      clear H
      obtain⟨Ao14,co14,eo14⟩:=Kd.R_slice HO_0.out
      subst eo14
      have p357:0≤(x6_1:Int):=of_decide_eq_true (by first|(with_reducible assumption)|assumption)
      have q357:x6_1<(x0_1.length:Int):=of_decide_eq_true (by first|(with_reducible assumption)|assumption)
      obtain⟨ad357,e357,hx357_0⟩:=Kd.at_bool (Kd.R_reads' HO_0.out).2.2 x6_1 p357 q357
      (try rw [←Nbq6.out] at hx357_0)
      cases e357
      replace p357:=eq_true p357
      replace q357:=eq_true q357
      have p359:0≤(x6_1:Int):=of_decide_eq_true (by first|(with_reducible assumption)|assumption)
      have q359:x6_1<(l1.length:Int):=of_decide_eq_true (by first|(with_reducible assumption)|assumption)
      obtain⟨ad359,e359,hx359_0⟩:=Kd.at_bool (Kd.C_kept_now HR1.out HK.out) x6_1 p359 q359
      (try rw [←Nbq6.out] at hx359_0)
      cases e359
      replace p359:=eq_true p359
      replace q359:=eq_true q359
      have p13:0≤(x6_1:Int):=of_decide_eq_true (by first|(with_reducible assumption)|assumption)
      have q13:(x6_1:Int)<((x0_1.length:Int):Int):=of_decide_eq_true (by first|(with_reducible assumption)|assumption)
      obtain⟨go13,co13,eo13,gb13,gl13,cl13,HG13⟩:=Kd.R_form HO_0.out (by omega)
      (first|cases eo13|(injection eo13 with ea_ en_ ec_;(first|subst ea_|(injection ea_ with ea_;subst ea_));subst ec_;clear en_))
      have GB13:=Aside0.mk gb13
      have GG13:=Aside0.mk HG13
      clear gb13 gl13 HG13
      have HMgo13:=Aside0.mk (show(P0_ go13∨w.heap.size≤go13) from(HO_0.out.1 _ rfl))
      (first|simp only [add_plain] at hx357_0|skip)
      obtain⟨hx13_0,hf13_0⟩:=Kd.R_celln false HO_0.out (x6_1:Int) p13 q13
      replace p13:=eq_true p13
      replace q13:=eq_true q13
      have HP15:=Kd.R_putg HO_0.out (x6_1:Int) (rdOf false l1 x6_1)
      go_wp2_with (first|((with_reducible refine gate_store (t:=4) (p:=39) rfl ?_);refine store_event (t:=4) (p:=39) (v:=?vo_w16) (w1:=(wr.setCell ⟨go13,(x6_1:Int).toNat,none⟩ (.bool (rdOf false l1 x6_1)))) ?hg ?ho ?hn ?hr ?_;(case ho=>rfl);(case hg=>rfl);(case hn=>rfl);(case hr=>first|(go_simp;done)|(go_simp;rfl));intro w16 hw;have hg:wr.grownBy w16 (some go13):=(by rw [hw];exact HP15.2);have hp_:Kd.R Kd.bool 4 w16 w0.heap.size (fun k_=>(P0_ k_∨w.heap.size≤k_)) (.slice (some ⟨go13,0,none⟩) x0_1.length co14) y360:=(by rw [hw,Ny360.out];exact HP15.1);clear HP15;have n0_:=Aside0.mk (hp_);have n1_:=Aside0.mk ((by rw [hw];exact below_set (HB.out) GB13.out:Below w0.heap.size w0 w16));have n2_:=Aside0.mk (Kept.of_grown (S:=(fun k_=>P0_ k_)) hg (by repeat(first|(with_reducible first|exact HK.out|apply Kept.alloc|apply Kept.drewN|apply Kept.drew)|exact HK.out)) (fun k_ e_=>(HO_0.out.1 k_ e_)));clear HO_0;clear HB;clear HK;have HO_0:=n0_;have HB:=n1_;have HK:=n2_;clear n0_ n1_ n2_;clear hg hw hp_))
      go_roundg k1
      case measure=>have:=HK1.out;omega
      case rel=>exact⟨(y360),(true),(wrap64 (x6_1+1)),(by first|rfl|(simp;done)|(simp [*];done)),(by first|rfl|(simp;done)|(simp [*];done)),H',⟨by have:=HK1.out;omega⟩,⟨by(with_reducible repeat(first|apply Kd.R_alloc|apply Kd.R_drewN|apply Kd.R_drew));exact HO_0.out⟩,⟨by repeat(first|(with_reducible first|exact HK.out|apply Kept.alloc|apply Kept.drewN|apply Kept.drew)|exact HK.out)⟩,⟨by repeat(first|(with_reducible first|exact HB.out|apply below_alloc|apply pw_below_drewN|apply below_drew1)|exact HB.out)⟩⟩
    ·replace c4:=Bool.eq_false_iff.mpr c4
     subst c4
     have H1:(if 0≤x6_1 then(if x6_1<(l1.length:Int) then(if rdOf false l1 x6_1=true then(if rdOf false x0_1 x6_1=true then(regletref13_join.l0 k1 (x0_1.set (x6_1:Int).toNat true) l1 (!(rdOf false x0_1 x6_1)) (wrap64 (x6_1+1))) else(regletref13_join.l0 k1 (x0_1.set (x6_1:Int).toNat (rdOf false l1 x6_1)) l1 (!(rdOf false x0_1 x6_1)) (wrap64 (x6_1+1)))) else(if rdOf false x0_1 x6_1=true then(regletref13_join.l0 k1 (x0_1.set (x6_1:Int).toNat true) l1 false (wrap64 (x6_1+1))) else(regletref13_join.l0 k1 (x0_1.set (x6_1:Int).toNat (rdOf false l1 x6_1)) l1 false (wrap64 (x6_1+1))))) else(none)) else(none))=some (r1,r2):=by rw [if_neg (show ¬(false=true) by decide)] at H;exact H
     clear H
     have H:=H1
     clear H1
     by_cases c17:0≤x6_1
     rotate_left
     ·rw [if_neg c17] at H
      exact absurd H (by simp)
     rw [if_pos c17] at H
     have c17b0:decide (0≤x6_1)=true:=decide_eq_true c17
     clear c17
     by_cases c18:x6_1<(l1.length:Int)
     rotate_left
     ·rw [if_neg c18] at H
      exact absurd H (by simp)
     rw [if_pos c18] at H
     have c18b0:decide (x6_1<(l1.length:Int))=true:=decide_eq_true c18
     clear c18
     obtain⟨bq19,hbq19⟩:∃b_:Bool,b_=(rdOf false l1 x6_1):=⟨_,rfl⟩
     replace H:(if bq19=true then(if rdOf false x0_1 x6_1=true then(regletref13_join.l0 k1 (x0_1.set (x6_1:Int).toNat true) l1 (!(rdOf false x0_1 x6_1)) (wrap64 (x6_1+1))) else(regletref13_join.l0 k1 (x0_1.set (x6_1:Int).toNat (bq19)) l1 (!(rdOf false x0_1 x6_1)) (wrap64 (x6_1+1)))) else(if rdOf false x0_1 x6_1=true then(regletref13_join.l0 k1 (x0_1.set (x6_1:Int).toNat true) l1 false (wrap64 (x6_1+1))) else(regletref13_join.l0 k1 (x0_1.set (x6_1:Int).toNat (bq19)) l1 false (wrap64 (x6_1+1)))))=some (r1,r2):=by rw [←hbq19] at H;exact H
     have Nbq19:=Aside0.mk hbq19
     clear hbq19
     by_cases c20:bq19=true
     ·subst c20
      have H1:(if rdOf false x0_1 x6_1=true then(regletref13_join.l0 k1 (x0_1.set (x6_1:Int).toNat true) l1 (!(rdOf false x0_1 x6_1)) (wrap64 (x6_1+1))) else(regletref13_join.l0 k1 (x0_1.set (x6_1:Int).toNat (true)) l1 (!(rdOf false x0_1 x6_1)) (wrap64 (x6_1+1))))=some (r1,r2):=by rw [if_pos rfl] at H;exact H
      clear H
      have H:=H1
      clear H1
      obtain⟨bq21,hbq21⟩:∃b_:Bool,b_=(rdOf false x0_1 x6_1):=⟨_,rfl⟩
      replace H:(if bq21=true then(regletref13_join.l0 k1 (x0_1.set (x6_1:Int).toNat true) l1 (!(bq21)) (wrap64 (x6_1+1))) else(regletref13_join.l0 k1 (x0_1.set (x6_1:Int).toNat (true)) l1 (!(bq21)) (wrap64 (x6_1+1))))=some (r1,r2):=by rw [←hbq21] at H;exact H
      have Nbq21:=Aside0.mk hbq21
      clear hbq21
      by_cases c22:bq21=true
      ·subst c22
       have H1:(regletref13_join.l0 k1 (x0_1.set (x6_1:Int).toNat true) l1 (!(true)) (wrap64 (x6_1+1)))=some (r1,r2):=by rw [if_pos rfl] at H;exact H
       clear H
       have H:=H1
       clear H1
       obtain⟨y364,hy364⟩:∃y_:List Bool,y_=(x0_1.set (x6_1:Int).toNat true):=⟨_,rfl⟩
       replace H:(regletref13_join.l0 k1 y364 l1 (!(true)) (wrap64 (x6_1+1)))=some (r1,r2):=by first|(rw [hy364];with_reducible exact H)|(have H2_:=(Option.bind_some _ _).symm.trans H;rw [hy364];with_reducible exact H2_)|(have H2_:=(Option.bind_some _ _).symm.trans H;with_reducible exact H2_)|with_reducible exact H|(rw [hy364];exact H)|exact H
       have Ny364:=Aside0.mk hy364
       clear hy364
       have H':=Aside0.mk H
       clear H
       obtain⟨Ao24,co24,eo24⟩:=Kd.R_slice HO_0.out
       subst eo24
       have p361:0≤(x6_1:Int):=of_decide_eq_true (by first|(with_reducible assumption)|assumption)
       have q361:x6_1<(l1.length:Int):=of_decide_eq_true (by first|(with_reducible assumption)|assumption)
       obtain⟨ad361,e361,hx361_0⟩:=Kd.at_bool (Kd.C_kept_now HR1.out HK.out) x6_1 p361 q361
       (try rw [←Nbq19.out] at hx361_0)
       (try rw [←Nbq21.out] at hx361_0)
       cases e361
       replace p361:=eq_true p361
       replace q361:=eq_true q361
       have p362:0≤(x6_1:Int):=of_decide_eq_true (by first|(with_reducible assumption)|assumption)
       have q362:x6_1<(x0_1.length:Int):=of_decide_eq_true (by first|(with_reducible assumption)|assumption)
       obtain⟨ad362,e362,hx362_0⟩:=Kd.at_bool (Kd.R_reads' HO_0.out).2.2 x6_1 p362 q362
       (try rw [←Nbq19.out] at hx362_0)
       (try rw [←Nbq21.out] at hx362_0)
       cases e362
       replace p362:=eq_true p362
       replace q362:=eq_true q362
       have p363:0≤(x6_1:Int):=of_decide_eq_true (by first|(with_reducible assumption)|assumption)
       have q363:x6_1<(x0_1.length:Int):=of_decide_eq_true (by first|(with_reducible assumption)|assumption)
       obtain⟨ad363,e363,hx363_0⟩:=Kd.at_bool (Kd.R_reads' HO_0.out).2.2 x6_1 p363 q363
       (try rw [←Nbq19.out] at hx363_0)
       (try rw [←Nbq21.out] at hx363_0)
       obtain rfl:ad362=ad363:=(by injection e363)
       replace p363:=eq_true p363
       replace q363:=eq_true q363
       have p23:0≤(x6_1:Int):=of_decide_eq_true (by first|(with_reducible assumption)|assumption)
       have q23:(x6_1:Int)<((x0_1.length:Int):Int):=of_decide_eq_true (by first|(with_reducible assumption)|assumption)
       obtain⟨go23,co23,eo23,gb23,gl23,cl23,HG23⟩:=Kd.R_form HO_0.out (by omega)
       (first|cases eo23|(injection eo23 with ea_ en_ ec_;(first|subst ea_|(injection ea_ with ea_;subst ea_));subst ec_;clear en_))
       have GB23:=Aside0.mk gb23
       have GG23:=Aside0.mk HG23
       clear gb23 gl23 HG23
       have HMgo23:=Aside0.mk (show(P0_ go23∨w.heap.size≤go23) from(HO_0.out.1 _ rfl))
       (first|simp only [add_plain] at hx362_0|skip)
       (first|simp only [add_plain] at hx363_0|skip)
       obtain⟨hx23_0,hf23_0⟩:=Kd.R_celln false HO_0.out (x6_1:Int) p23 q23
       replace p23:=eq_true p23
       replace q23:=eq_true q23
       have HP25:=Kd.R_putg HO_0.out (x6_1:Int) true
       go_wp2_with (first|((with_reducible refine gate_store (t:=4) (p:=39) rfl ?_);refine store_event (t:=4) (p:=39) (v:=?vo_w26) (w1:=(wr.setCell ⟨go23,(x6_1:Int).toNat,none⟩ (.bool true))) ?hg ?ho ?hn ?hr ?_;(case ho=>rfl);(case hg=>rfl);(case hn=>rfl);(case hr=>first|(go_simp;done)|(go_simp;rfl));intro w26 hw;have hg:wr.grownBy w26 (some go23):=(by rw [hw];exact HP25.2);have hp_:Kd.R Kd.bool 4 w26 w0.heap.size (fun k_=>(P0_ k_∨w.heap.size≤k_)) (.slice (some ⟨go23,0,none⟩) x0_1.length co24) y364:=(by rw [hw,Ny364.out];exact HP25.1);clear HP25;have n0_:=Aside0.mk (hp_);have n1_:=Aside0.mk ((by rw [hw];exact below_set (HB.out) GB23.out:Below w0.heap.size w0 w26));have n2_:=Aside0.mk (Kept.of_grown (S:=(fun k_=>P0_ k_)) hg (by repeat(first|(with_reducible first|exact HK.out|apply Kept.alloc|apply Kept.drewN|apply Kept.drew)|exact HK.out)) (fun k_ e_=>(HO_0.out.1 k_ e_)));clear HO_0;clear HB;clear HK;have HO_0:=n0_;have HB:=n1_;have HK:=n2_;clear n0_ n1_ n2_;clear hg hw hp_))
       go_roundg k1
       case measure=>have:=HK1.out;omega
       case rel=>exact⟨(y364),(!(true)),(wrap64 (x6_1+1)),(by first|rfl|(simp;done)|(simp [*];done)),(by first|rfl|(simp;done)|(simp [*];done)),H',⟨by have:=HK1.out;omega⟩,⟨by(with_reducible repeat(first|apply Kd.R_alloc|apply Kd.R_drewN|apply Kd.R_drew));exact HO_0.out⟩,⟨by repeat(first|(with_reducible first|exact HK.out|apply Kept.alloc|apply Kept.drewN|apply Kept.drew)|exact HK.out)⟩,⟨by repeat(first|(with_reducible first|exact HB.out|apply below_alloc|apply pw_below_drewN|apply below_drew1)|exact HB.out)⟩⟩
      ·replace c22:=Bool.eq_false_iff.mpr c22
       subst c22
       have H1:(regletref13_join.l0 k1 (x0_1.set (x6_1:Int).toNat (true)) l1 (!(false)) (wrap64 (x6_1+1)))=some (r1,r2):=by rw [if_neg (show ¬(false=true) by decide)] at H;exact H
       clear H
       have H:=H1
       clear H1
       obtain⟨y366,hy366⟩:∃y_:List Bool,y_=(x0_1.set (x6_1:Int).toNat (true)):=⟨_,rfl⟩
       replace H:(regletref13_join.l0 k1 y366 l1 (!(false)) (wrap64 (x6_1+1)))=some (r1,r2):=by first|(rw [hy366];with_reducible exact H)|(have H2_:=(Option.bind_some _ _).symm.trans H;rw [hy366];with_reducible exact H2_)|(have H2_:=(Option.bind_some _ _).symm.trans H;with_reducible exact H2_)|with_reducible exact H|(rw [hy366];exact H)|exact H
       have Ny366:=Aside0.mk hy366
       clear hy366
       have H':=Aside0.mk H
       clear H
       obtain⟨Ao28,co28,eo28⟩:=Kd.R_slice HO_0.out
       subst eo28
       have p361:0≤(x6_1:Int):=of_decide_eq_true (by first|(with_reducible assumption)|assumption)
       have q361:x6_1<(l1.length:Int):=of_decide_eq_true (by first|(with_reducible assumption)|assumption)
       obtain⟨ad361,e361,hx361_0⟩:=Kd.at_bool (Kd.C_kept_now HR1.out HK.out) x6_1 p361 q361
       (try rw [←Nbq19.out] at hx361_0)
       (try rw [←Nbq21.out] at hx361_0)
       cases e361
       replace p361:=eq_true p361
       replace q361:=eq_true q361
       have p362:0≤(x6_1:Int):=of_decide_eq_true (by first|(with_reducible assumption)|assumption)
       have q362:x6_1<(x0_1.length:Int):=of_decide_eq_true (by first|(with_reducible assumption)|assumption)
       obtain⟨ad362,e362,hx362_0⟩:=Kd.at_bool (Kd.R_reads' HO_0.out).2.2 x6_1 p362 q362
       (try rw [←Nbq19.out] at hx362_0)
       (try rw [←Nbq21.out] at hx362_0)
       cases e362
       replace p362:=eq_true p362
       replace q362:=eq_true q362
       have p363:0≤(x6_1:Int):=of_decide_eq_true (by first|(with_reducible assumption)|assumption)
       have q363:x6_1<(x0_1.length:Int):=of_decide_eq_true (by first|(with_reducible assumption)|assumption)
       obtain⟨ad363,e363,hx363_0⟩:=Kd.at_bool (Kd.R_reads' HO_0.out).2.2 x6_1 p363 q363
       (try rw [←Nbq19.out] at hx363_0)
       (try rw [←Nbq21.out] at hx363_0)
       obtain rfl:ad362=ad363:=(by injection e363)
       replace p363:=eq_true p363
       replace q363:=eq_true q363
       have p365:0≤(x6_1:Int):=of_decide_eq_true (by first|(with_reducible assumption)|assumption)
       have q365:x6_1<(l1.length:Int):=of_decide_eq_true (by first|(with_reducible assumption)|assumption)
       obtain⟨ad365,e365,hx365_0⟩:=Kd.at_bool (Kd.C_kept_now HR1.out HK.out) x6_1 p365 q365
       (try rw [←Nbq19.out] at hx365_0)
       (try rw [←Nbq21.out] at hx365_0)
       obtain rfl:ad361=ad365:=(by injection e365)
       replace p365:=eq_true p365
       replace q365:=eq_true q365
       have p27:0≤(x6_1:Int):=of_decide_eq_true (by first|(with_reducible assumption)|assumption)
       have q27:(x6_1:Int)<((x0_1.length:Int):Int):=of_decide_eq_true (by first|(with_reducible assumption)|assumption)
       obtain⟨go27,co27,eo27,gb27,gl27,cl27,HG27⟩:=Kd.R_form HO_0.out (by omega)
       (first|cases eo27|(injection eo27 with ea_ en_ ec_;(first|subst ea_|(injection ea_ with ea_;subst ea_));subst ec_;clear en_))
       have GB27:=Aside0.mk gb27
       have GG27:=Aside0.mk HG27
       clear gb27 gl27 HG27
       have HMgo27:=Aside0.mk (show(P0_ go27∨w.heap.size≤go27) from(HO_0.out.1 _ rfl))
       (first|simp only [add_plain] at hx362_0|skip)
       (first|simp only [add_plain] at hx363_0|skip)
       obtain⟨hx27_0,hf27_0⟩:=Kd.R_celln false HO_0.out (x6_1:Int) p27 q27
       replace p27:=eq_true p27
       replace q27:=eq_true q27
       have HP29:=Kd.R_putg HO_0.out (x6_1:Int) true
       go_wp2_with (first|((with_reducible refine gate_store (t:=4) (p:=39) rfl ?_);refine store_event (t:=4) (p:=39) (v:=?vo_w30) (w1:=(wr.setCell ⟨go27,(x6_1:Int).toNat,none⟩ (.bool true))) ?hg ?ho ?hn ?hr ?_;(case ho=>rfl);(case hg=>rfl);(case hn=>rfl);(case hr=>first|(go_simp;done)|(go_simp;rfl));intro w30 hw;have hg:wr.grownBy w30 (some go27):=(by rw [hw];exact HP29.2);have hp_:Kd.R Kd.bool 4 w30 w0.heap.size (fun k_=>(P0_ k_∨w.heap.size≤k_)) (.slice (some ⟨go27,0,none⟩) x0_1.length co28) y366:=(by rw [hw,Ny366.out];exact HP29.1);clear HP29;have n0_:=Aside0.mk (hp_);have n1_:=Aside0.mk ((by rw [hw];exact below_set (HB.out) GB27.out:Below w0.heap.size w0 w30));have n2_:=Aside0.mk (Kept.of_grown (S:=(fun k_=>P0_ k_)) hg (by repeat(first|(with_reducible first|exact HK.out|apply Kept.alloc|apply Kept.drewN|apply Kept.drew)|exact HK.out)) (fun k_ e_=>(HO_0.out.1 k_ e_)));clear HO_0;clear HB;clear HK;have HO_0:=n0_;have HB:=n1_;have HK:=n2_;clear n0_ n1_ n2_;clear hg hw hp_))
       go_roundg k1
       case measure=>have:=HK1.out;omega
       case rel=>exact⟨(y366),(!(false)),(wrap64 (x6_1+1)),(by first|rfl|(simp;done)|(simp [*];done)),(by first|rfl|(simp;done)|(simp [*];done)),H',⟨by have:=HK1.out;omega⟩,⟨by(with_reducible repeat(first|apply Kd.R_alloc|apply Kd.R_drewN|apply Kd.R_drew));exact HO_0.out⟩,⟨by repeat(first|(with_reducible first|exact HK.out|apply Kept.alloc|apply Kept.drewN|apply Kept.drew)|exact HK.out)⟩,⟨by repeat(first|(with_reducible first|exact HB.out|apply below_alloc|apply pw_below_drewN|apply below_drew1)|exact HB.out)⟩⟩
     ·replace c20:=Bool.eq_false_iff.mpr c20
      subst c20
      have H1:(if rdOf false x0_1 x6_1=true then(regletref13_join.l0 k1 (x0_1.set (x6_1:Int).toNat true) l1 false (wrap64 (x6_1+1))) else(regletref13_join.l0 k1 (x0_1.set (x6_1:Int).toNat (false)) l1 false (wrap64 (x6_1+1))))=some (r1,r2):=by rw [if_neg (show ¬(false=true) by decide)] at H;exact H
      clear H
      have H:=H1
      clear H1
      obtain⟨bq31,hbq31⟩:∃b_:Bool,b_=(rdOf false x0_1 x6_1):=⟨_,rfl⟩
      replace H:(if bq31=true then(regletref13_join.l0 k1 (x0_1.set (x6_1:Int).toNat true) l1 false (wrap64 (x6_1+1))) else(regletref13_join.l0 k1 (x0_1.set (x6_1:Int).toNat (false)) l1 false (wrap64 (x6_1+1))))=some (r1,r2):=by rw [←hbq31] at H;exact H
      have Nbq31:=Aside0.mk hbq31
      clear hbq31
      by_cases c32:bq31=true
      ·subst c32
       have H1:(regletref13_join.l0 k1 (x0_1.set (x6_1:Int).toNat true) l1 false (wrap64 (x6_1+1)))=some (r1,r2):=by rw [if_pos rfl] at H;exact H
       clear H
       have H:=H1
       clear H1
       obtain⟨y368,hy368⟩:∃y_:List Bool,y_=(x0_1.set (x6_1:Int).toNat true):=⟨_,rfl⟩
       replace H:(regletref13_join.l0 k1 y368 l1 false (wrap64 (x6_1+1)))=some (r1,r2):=by first|(rw [hy368];with_reducible exact H)|(have H2_:=(Option.bind_some _ _).symm.trans H;rw [hy368];with_reducible exact H2_)|(have H2_:=(Option.bind_some _ _).symm.trans H;with_reducible exact H2_)|with_reducible exact H|(rw [hy368];exact H)|exact H
       have Ny368:=Aside0.mk hy368
       clear hy368
       have H':=Aside0.mk H
       clear H
       obtain⟨Ao34,co34,eo34⟩:=Kd.R_slice HO_0.out
       subst eo34
       have p361:0≤(x6_1:Int):=of_decide_eq_true (by first|(with_reducible assumption)|assumption)
       have q361:x6_1<(l1.length:Int):=of_decide_eq_true (by first|(with_reducible assumption)|assumption)
       obtain⟨ad361,e361,hx361_0⟩:=Kd.at_bool (Kd.C_kept_now HR1.out HK.out) x6_1 p361 q361
       (try rw [←Nbq19.out] at hx361_0)
       (try rw [←Nbq31.out] at hx361_0)
       cases e361
       replace p361:=eq_true p361
       replace q361:=eq_true q361
       have p367:0≤(x6_1:Int):=of_decide_eq_true (by first|(with_reducible assumption)|assumption)
       have q367:x6_1<(x0_1.length:Int):=of_decide_eq_true (by first|(with_reducible assumption)|assumption)
       obtain⟨ad367,e367,hx367_0⟩:=Kd.at_bool (Kd.R_reads' HO_0.out).2.2 x6_1 p367 q367
       (try rw [←Nbq19.out] at hx367_0)
       (try rw [←Nbq31.out] at hx367_0)
       cases e367
       replace p367:=eq_true p367
       replace q367:=eq_true q367
       have p33:0≤(x6_1:Int):=of_decide_eq_true (by first|(with_reducible assumption)|assumption)
       have q33:(x6_1:Int)<((x0_1.length:Int):Int):=of_decide_eq_true (by first|(with_reducible assumption)|assumption)
       obtain⟨go33,co33,eo33,gb33,gl33,cl33,HG33⟩:=Kd.R_form HO_0.out (by omega)
       (first|cases eo33|(injection eo33 with ea_ en_ ec_;(first|subst ea_|(injection ea_ with ea_;subst ea_));subst ec_;clear en_))
       have GB33:=Aside0.mk gb33
       have GG33:=Aside0.mk HG33
       clear gb33 gl33 HG33
       have HMgo33:=Aside0.mk (show(P0_ go33∨w.heap.size≤go33) from(HO_0.out.1 _ rfl))
       (first|simp only [add_plain] at hx367_0|skip)
       obtain⟨hx33_0,hf33_0⟩:=Kd.R_celln false HO_0.out (x6_1:Int) p33 q33
       replace p33:=eq_true p33
       replace q33:=eq_true q33
       have HP35:=Kd.R_putg HO_0.out (x6_1:Int) true
       go_wp2_with (first|((with_reducible refine gate_store (t:=4) (p:=39) rfl ?_);refine store_event (t:=4) (p:=39) (v:=?vo_w36) (w1:=(wr.setCell ⟨go33,(x6_1:Int).toNat,none⟩ (.bool true))) ?hg ?ho ?hn ?hr ?_;(case ho=>rfl);(case hg=>rfl);(case hn=>rfl);(case hr=>first|(go_simp;done)|(go_simp;rfl));intro w36 hw;have hg:wr.grownBy w36 (some go33):=(by rw [hw];exact HP35.2);have hp_:Kd.R Kd.bool 4 w36 w0.heap.size (fun k_=>(P0_ k_∨w.heap.size≤k_)) (.slice (some ⟨go33,0,none⟩) x0_1.length co34) y368:=(by rw [hw,Ny368.out];exact HP35.1);clear HP35;have n0_:=Aside0.mk (hp_);have n1_:=Aside0.mk ((by rw [hw];exact below_set (HB.out) GB33.out:Below w0.heap.size w0 w36));have n2_:=Aside0.mk (Kept.of_grown (S:=(fun k_=>P0_ k_)) hg (by repeat(first|(with_reducible first|exact HK.out|apply Kept.alloc|apply Kept.drewN|apply Kept.drew)|exact HK.out)) (fun k_ e_=>(HO_0.out.1 k_ e_)));clear HO_0;clear HB;clear HK;have HO_0:=n0_;have HB:=n1_;have HK:=n2_;clear n0_ n1_ n2_;clear hg hw hp_))
       go_roundg k1
       case measure=>have:=HK1.out;omega
       case rel=>exact⟨(y368),(false),(wrap64 (x6_1+1)),(by first|rfl|(simp;done)|(simp [*];done)),(by first|rfl|(simp;done)|(simp [*];done)),H',⟨by have:=HK1.out;omega⟩,⟨by(with_reducible repeat(first|apply Kd.R_alloc|apply Kd.R_drewN|apply Kd.R_drew));exact HO_0.out⟩,⟨by repeat(first|(with_reducible first|exact HK.out|apply Kept.alloc|apply Kept.drewN|apply Kept.drew)|exact HK.out)⟩,⟨by repeat(first|(with_reducible first|exact HB.out|apply below_alloc|apply pw_below_drewN|apply below_drew1)|exact HB.out)⟩⟩
      ·replace c32:=Bool.eq_false_iff.mpr c32
       subst c32
       have H1:(regletref13_join.l0 k1 (x0_1.set (x6_1:Int).toNat (false)) l1 false (wrap64 (x6_1+1)))=some (r1,r2):=by rw [if_neg (show ¬(false=true) by decide)] at H;exact H
       clear H
       have H:=H1
       clear H1
       obtain⟨y370,hy370⟩:∃y_:List Bool,y_=(x0_1.set (x6_1:Int).toNat (false)):=⟨_,rfl⟩
       replace H:(regletref13_join.l0 k1 y370 l1 false (wrap64 (x6_1+1)))=some (r1,r2):=by first|(rw [hy370];with_reducible exact H)|(have H2_:=(Option.bind_some _ _).symm.trans H;rw [hy370];with_reducible exact H2_)|(have H2_:=(Option.bind_some _ _).symm.trans H;with_reducible exact H2_)|with_reducible exact H|(rw [hy370];exact H)|exact H
       have Ny370:=Aside0.mk hy370
       clear hy370
       have H':=Aside0.mk H
       clear H
       obtain⟨Ao38,co38,eo38⟩:=Kd.R_slice HO_0.out
       subst eo38
       have p361:0≤(x6_1:Int):=of_decide_eq_true (by first|(with_reducible assumption)|assumption)
       have q361:x6_1<(l1.length:Int):=of_decide_eq_true (by first|(with_reducible assumption)|assumption)
       obtain⟨ad361,e361,hx361_0⟩:=Kd.at_bool (Kd.C_kept_now HR1.out HK.out) x6_1 p361 q361
       (try rw [←Nbq19.out] at hx361_0)
       (try rw [←Nbq31.out] at hx361_0)
       cases e361
       replace p361:=eq_true p361
       replace q361:=eq_true q361
       have p367:0≤(x6_1:Int):=of_decide_eq_true (by first|(with_reducible assumption)|assumption)
       have q367:x6_1<(x0_1.length:Int):=of_decide_eq_true (by first|(with_reducible assumption)|assumption)
       obtain⟨ad367,e367,hx367_0⟩:=Kd.at_bool (Kd.R_reads' HO_0.out).2.2 x6_1 p367 q367
       (try rw [←Nbq19.out] at hx367_0)
       (try rw [←Nbq31.out] at hx367_0)
       cases e367
       replace p367:=eq_true p367
       replace q367:=eq_true q367
       have p369:0≤(x6_1:Int):=of_decide_eq_true (by first|(with_reducible assumption)|assumption)
       have q369:x6_1<(l1.length:Int):=of_decide_eq_true (by first|(with_reducible assumption)|assumption)
       obtain⟨ad369,e369,hx369_0⟩:=Kd.at_bool (Kd.C_kept_now HR1.out HK.out) x6_1 p369 q369
       (try rw [←Nbq19.out] at hx369_0)
       (try rw [←Nbq31.out] at hx369_0)
       obtain rfl:ad361=ad369:=(by injection e369)
       replace p369:=eq_true p369
       replace q369:=eq_true q369
       have p37:0≤(x6_1:Int):=of_decide_eq_true (by first|(with_reducible assumption)|assumption)
       have q37:(x6_1:Int)<((x0_1.length:Int):Int):=of_decide_eq_true (by first|(with_reducible assumption)|assumption)
       obtain⟨go37,co37,eo37,gb37,gl37,cl37,HG37⟩:=Kd.R_form HO_0.out (by omega)
       (first|cases eo37|(injection eo37 with ea_ en_ ec_;(first|subst ea_|(injection ea_ with ea_;subst ea_));subst ec_;clear en_))
       have GB37:=Aside0.mk gb37
       have GG37:=Aside0.mk HG37
       clear gb37 gl37 HG37
       have HMgo37:=Aside0.mk (show(P0_ go37∨w.heap.size≤go37) from(HO_0.out.1 _ rfl))
       (first|simp only [add_plain] at hx367_0|skip)
       obtain⟨hx37_0,hf37_0⟩:=Kd.R_celln false HO_0.out (x6_1:Int) p37 q37
       replace p37:=eq_true p37
       replace q37:=eq_true q37
       have HP39:=Kd.R_putg HO_0.out (x6_1:Int) false
       go_wp2_with (first|((with_reducible refine gate_store (t:=4) (p:=39) rfl ?_);refine store_event (t:=4) (p:=39) (v:=?vo_w40) (w1:=(wr.setCell ⟨go37,(x6_1:Int).toNat,none⟩ (.bool false))) ?hg ?ho ?hn ?hr ?_;(case ho=>rfl);(case hg=>rfl);(case hn=>rfl);(case hr=>first|(go_simp;done)|(go_simp;rfl));intro w40 hw;have hg:wr.grownBy w40 (some go37):=(by rw [hw];exact HP39.2);have hp_:Kd.R Kd.bool 4 w40 w0.heap.size (fun k_=>(P0_ k_∨w.heap.size≤k_)) (.slice (some ⟨go37,0,none⟩) x0_1.length co38) y370:=(by rw [hw,Ny370.out];exact HP39.1);clear HP39;have n0_:=Aside0.mk (hp_);have n1_:=Aside0.mk ((by rw [hw];exact below_set (HB.out) GB37.out:Below w0.heap.size w0 w40));have n2_:=Aside0.mk (Kept.of_grown (S:=(fun k_=>P0_ k_)) hg (by repeat(first|(with_reducible first|exact HK.out|apply Kept.alloc|apply Kept.drewN|apply Kept.drew)|exact HK.out)) (fun k_ e_=>(HO_0.out.1 k_ e_)));clear HO_0;clear HB;clear HK;have HO_0:=n0_;have HB:=n1_;have HK:=n2_;clear n0_ n1_ n2_;clear hg hw hp_))
       go_roundg k1
       case measure=>have:=HK1.out;omega
       case rel=>exact⟨(y370),(false),(wrap64 (x6_1+1)),(by first|rfl|(simp;done)|(simp [*];done)),(by first|rfl|(simp;done)|(simp [*];done)),H',⟨by have:=HK1.out;omega⟩,⟨by(with_reducible repeat(first|apply Kd.R_alloc|apply Kd.R_drewN|apply Kd.R_drew));exact HO_0.out⟩,⟨by repeat(first|(with_reducible first|exact HK.out|apply Kept.alloc|apply Kept.drewN|apply Kept.drew)|exact HK.out)⟩,⟨by repeat(first|(with_reducible first|exact HB.out|apply below_alloc|apply pw_below_drewN|apply below_drew1)|exact HB.out)⟩⟩
   ·rw [if_neg c3] at H
    have c3b0:decide (x6_1<(x0_1.length:Int))=false:=decide_eq_false c3
    clear c3
    simp only [Option.some.injEq,Prod.mk.injEq] at H
    obtain⟨rfl,rfl⟩:=H
    obtain⟨Ao41,co41,eo41⟩:=Kd.R_slice HO_0.out
    subst eo41
    go_wp2
    go_ret
    exact⟨by first|rfl|(simp [errW_none,errW_some]<;>rfl)|(simp [*,errW_none,errW_some]<;>rfl),by(with_reducible repeat(first|apply Kd.R_alloc|apply Kd.R_drewN|apply Kd.R_drew));exact HO_0.out,by repeat(first|(with_reducible first|exact HB.out|apply below_alloc|apply pw_below_drewN|apply below_drew1)|exact HB.out),by repeat(first|(with_reducible first|exact HK.out|apply Kept.alloc|apply Kept.drewN|apply Kept.drew)|exact HK.out)⟩
def regletref13_begins.l0:Nat→List (S43)→List (List Bool)→List Bool→List Bool→Int→Option (List Bool×Bool)
 |0,_,_,_,_,_=>none
 |k+1,x1,x2,x3,x10,x11=>if x11<(x1.length:Int) then(if 0≤x11 then(if(rd_T43 x1 x11).f0=true then(if 0≤((rd_T43 x1 x11).f1) then(if((rd_T43 x1 x11).f1)<(x10.length:Int) then(some ((x10.set (((rd_T43 x1 x11).f1):Int).toNat true),false)) else(none)) else(none)) else(if 0≤((rd_T43 x1 x11).f1) then(if((rd_T43 x1 x11).f1)<(x2.length:Int) then((regletref13_join.f k x10 (rd_L17 x2 ((rd_T43 x1 x11).f1))).bind fun bt380=>(if((rd_T43 x1 x11).f1)<(x3.length:Int) then(if(rdOf false x3 ((rd_T43 x1 x11).f1)=true) then(regletref13_begins.l0 k x1 x2 x3 bt380.2 (wrap64 (x11+1))) else(some (bt380.2,false))) else(none))) else(none)) else(none))) else(none)) else(some (x10,true))
def regletref13_begins.f (k:Nat) (l0_0:List ByteArray) (l0_1:List (S72)) (a0_2:Int) (a0_3:Int) (l0_4:List (S35)) (l1:List (S43)) (l2:List (List Bool)) (l3:List Bool):Option (List Bool×Bool):=if 0≤(wrap64 ((l0_1.length:Int)+1)) then(if(wrap64 ((l0_1.length:Int)+1):Int).toNat≤281474976710656 then(regletref13_begins.l0 k l1 l2 l3 (List.replicate (wrap64 ((l0_1.length:Int)+1):Int).toNat false) 0) else(none)) else(none)
set_option maxHeartbeats 8000000 in
set_option maxRecDepth 100000 in
theorem regletref13_begins.calls (k:Nat) (A0_0:Option Addr) (c0_0:Nat) (l0_0:List ByteArray) (A0_1:Option Addr) (c0_1:Nat) (l0_1:List (S72)) (a0_2:Int) (a0_3:Int) (A0_4:Option Addr) (c0_4:Nat) (l0_4:List (S35)) (A1:Option Addr) (c1:Nat) (l1:List (S43)) (A2:Option Addr) (c2:Nat) (l2:List (List Bool)) (A3:Option Addr) (c3:Nat) (l3:List Bool) (r1:List Bool) (r2:Bool) (w:World) (hr0_0:Kd.C Kd.string w A0_0 l0_0.length l0_0) (hc0_0:l0_0.length≤c0_0) (hr0_1:Kd.C k72 w A0_1 l0_1.length l0_1) (hc0_1:l0_1.length≤c0_1) (hr0_4:Kd.C k35 w A0_4 l0_4.length l0_4) (hc0_4:l0_4.length≤c0_4) (hr1:Kd.C k43 w A1 l1.length l1) (hc1:l1.length≤c1) (hr2:Kd.C (Kd.slice 4 Kd.bool) w A2 l2.length l2) (hc2:l2.length≤c2) (hr3:Kd.C Kd.bool w A3 l3.length l3) (hc3:l3.length≤c3) (h:regletref13_begins.f k l0_0 l0_1 a0_2 a0_3 l0_4 l1 l2 l3=some (r1,r2)):
 Calls Try.prog 46 #[.agg #[.slice A0_0 l0_0.length c0_0,.slice A0_1 l0_1.length c0_1,.int .i64 a0_2,.int .i64 a0_3,.slice A0_4 l0_4.length c0_4],.slice A1 l1.length c1,.slice A2 l2.length c2,.slice A3 l3.length c3] w fun e w'=>∃v0_:Value,e= .returned (.tuple #[v0_,.bool r2])∧Kd.R Kd.bool 4 w' w.heap.size (fun _=>True) v0_ r1∧Below w.heap.size w w':=by
 have hu26:=Try.underlying26
 have HR0_0:=Aside0.mk hr0_0
 have HC0_0:=Aside0.mk hc0_0
 clear hr0_0 hc0_0
 have HR0_1:=Aside0.mk hr0_1
 have HC0_1:=Aside0.mk hc0_1
 clear hr0_1 hc0_1
 have HR0_4:=Aside0.mk hr0_4
 have HC0_4:=Aside0.mk hc0_4
 clear hr0_4 hc0_4
 have HR1:=Aside0.mk hr1
 have HC1:=Aside0.mk hc1
 clear hr1 hc1
 have HR2:=Aside0.mk hr2
 have HC2:=Aside0.mk hc2
 clear hr2 hc2
 have HR3:=Aside0.mk hr3
 have HC3:=Aside0.mk hc3
 clear hr3 hc3
 have HB:=Aside0.mk (Below.refl w.heap.size w)
 have H:(if 0≤(wrap64 ((l0_1.length:Int)+1)) then(if(wrap64 ((l0_1.length:Int)+1):Int).toNat≤281474976710656 then(regletref13_begins.l0 k l1 l2 l3 (List.replicate (wrap64 ((l0_1.length:Int)+1):Int).toNat false) 0) else(none)) else(none))=some (r1,r2):=h
 clear h
 obtain⟨ji5,hji5⟩:∃j_:Int,(wrap64 ((l0_1.length:Int)+1))=j_:=⟨_,rfl⟩
 replace H:(if 0≤(ji5) then(if(ji5:Int).toNat≤281474976710656 then(regletref13_begins.l0 k l1 l2 l3 (List.replicate (ji5:Int).toNat false) 0) else(none)) else(none))=some (r1,r2):=by first|(rw [hji5] at H;exact H)|(simp only [hji5] at H ⊢;exact H)
 have hji5w:(IntKind.i64.wrap ((l0_1.length:Int)+1))=ji5:=(i64_w _).trans hji5
 by_cases c6:0≤(ji5)
 rotate_left
 ·rw [if_neg c6] at H
  exact absurd H (by simp)
 rw [if_pos c6] at H
 have c6b0:=eq_true c6
 have c6b1:decide (0≤(ji5))=true:=decide_eq_true c6
 clear c6
 by_cases c7:(ji5:Int).toNat≤281474976710656
 rotate_left
 ·rw [if_neg c7] at H
  exact absurd H (by simp)
 rw [if_pos c7] at H
 have c7b0:=eq_true c7
 have c7b1:decide ((ji5:Int).toNat≤281474976710656)=true:=decide_eq_true c7
 clear c7
 obtain⟨y372,hy372⟩:∃y_:List Bool,y_=(List.replicate (ji5:Int).toNat false):=⟨_,rfl⟩
 replace H:(regletref13_begins.l0 k l1 l2 l3 y372 0)=some (r1,r2):=by first|(rw [hy372];with_reducible exact H)|(have H2_:=(Option.bind_some _ _).symm.trans H;rw [hy372];with_reducible exact H2_)|(have H2_:=(Option.bind_some _ _).symm.trans H;with_reducible exact H2_)|with_reducible exact H|(rw [hy372];exact H)|exact H
 have Ny372:=Aside0.mk hy372
 clear hy372
 have H':=Aside0.mk H
 clear H
 go_enter Try.func46,Try.ntmps46
 go_wp2_with (first|((with_reducible refine gate_dst (N:=4) rfl ?_);refine box_event ?hg (N:=4) ?hd (cs:=#[.slice A0_0 l0_0.length c0_0,.slice A0_1 l0_1.length c0_1,.int .i64 a0_2,.int .i64 a0_3,.slice A0_4 l0_4.length c0_4]) (t:=26) ?hr ?_;(case hd=>rfl);(case hg=>rfl);(case hr=>first|(go_simp;done)|(go_simp;rfl));intro gb371 hg w8 hbox hb;have n0_:=Aside0.mk (below_step (by repeat(first|(with_reducible first|exact HB.out|apply below_alloc|apply pw_below_drewN|apply below_drew1)|exact HB.out)) hb);have n1_:=Aside0.mk (hbox);have n2_:=Aside0.mk ((by rw [hg];exact(below_size (by repeat(first|(with_reducible first|exact HB.out|apply below_alloc|apply pw_below_drewN|apply below_drew1)|exact HB.out))):w.heap.size≤gb371));have n3_:=Aside0.mk ((by rw [hg];exact(below_size (by repeat(first|(with_reducible first|exact HB.out|apply below_alloc|apply pw_below_drewN|apply below_drew1)|exact HB.out))):w.heap.size≤gb371));clear HB;have HB:=n0_;have BK371:=n1_;have GW371:=n2_;have GE371:=n3_;clear n0_ n1_ n2_ n3_;clear hb hbox hg;have hcz9_0:w8.cell? ⟨gb371,0,none⟩=some (.slice A0_0 l0_0.length c0_0):=(blk_cell BK371.out 0).trans rfl;have hcz9_1:w8.cell? ⟨gb371,1,none⟩=some (.slice A0_1 l0_1.length c0_1):=(blk_cell BK371.out 1).trans rfl;have hcz9_2:w8.cell? ⟨gb371,2,none⟩=some (.int .i64 a0_2):=(blk_cell BK371.out 2).trans rfl;have hcz9_3:w8.cell? ⟨gb371,3,none⟩=some (.int .i64 a0_3):=(blk_cell BK371.out 3).trans rfl;have hcz9_4:w8.cell? ⟨gb371,4,none⟩=some (.slice A0_4 l0_4.length c0_4):=(blk_cell BK371.out 4).trans rfl;have hfz9_0:=blk_frozen BK371.out 0;have hfz9_1:=blk_frozen BK371.out 1;have hfz9_2:=blk_frozen BK371.out 2;have hfz9_3:=blk_frozen BK371.out 3;have hfz9_4:=blk_frozen BK371.out 4)|((with_reducible refine gate_dst (N:=16) rfl ?_);refine Kd.R_make Kd.bool _ 4 rfl (N:=16) rfl 90 _ _ rfl ji5 rfl rfl Try.underlying90 (.bool false) 1 info4 rfl (by decide) (by omega) false (ok:=fun _=>True) (okp:=fun _=>True) rfl (fun _ hk=>hk) trivial (of_decide_eq_true (by first|(with_reducible assumption)|assumption)) (Nat.le_trans (Nat.mul_le_mul_right _ (of_decide_eq_true (by first|(with_reducible assumption)|assumption):ji5.toNat≤281474976710656)) (by omega)) (Below.refl _ _) (Nat.le_refl _) ?_;intro v373 w10 ho11 hb hg_ hnew_;clear hg_ hnew_;(first|rw [←Ny372.out] at ho11|(simp only [Int.reduceToNat] at ho11;rw [←Ny372.out] at ho11));have n0_:=Aside0.mk (Kd.R_lower ho11 (below_size (by repeat(first|(with_reducible first|exact HB.out|apply below_alloc|apply pw_below_drewN|apply below_drew1|refine below_set ?_ GE371.out)|exact HB.out))));have n1_:=Aside0.mk (blk_below (g:=gb371) (o:= .cells #[.slice A0_0 l0_0.length c0_0,.slice A0_1 l0_1.length c0_1,.int .i64 a0_2,.int .i64 a0_3,.slice A0_4 l0_4.length c0_4] 26 (0,0)) (by(with_reducible repeat(first|refine blk_drewN ?_ _|refine blk_drew ?_|refine blk_alloc ?_ _));exact BK371.out) hb);have n2_:=Aside0.mk (below_step (by repeat(first|(with_reducible first|exact HB.out|apply below_alloc|apply pw_below_drewN|apply below_drew1|refine below_set ?_ GE371.out)|exact HB.out)) hb);clear BK371;clear HB;have HO374:=n0_;have BK371:=n1_;have HB:=n2_;clear n0_ n1_ n2_;clear hb ho11))
 go_loopg [11] k (fun kq v11 w'=>∃(x10_1:List Bool) (x11_1:Int),v11= .int .i64 x11_1∧Aside0 (regletref13_begins.l0 kq l1 l2 l3 x10_1 x11_1=some (r1,r2))∧Aside0 (kq≤k)∧Aside0 (Kd.R Kd.bool 4 w' w.heap.size (fun _=>True) v373 x10_1)∧Aside0 (w'.heap[gb371]?=some (.cells #[(.slice A0_0 l0_0.length c0_0),(.slice A0_1 l0_1.length c0_1),.int .i64 a0_2,.int .i64 a0_3,(.slice A0_4 l0_4.length c0_4)] 26 (0,0)))∧Aside0 (Below w.heap.size w w'))
 case atStart=>exact⟨(y372),(0),(by first|rfl|(simp;done)|(simp [*];done)),H',⟨Nat.le_refl _⟩,⟨by(with_reducible repeat(first|apply Kd.R_alloc|apply Kd.R_drewN|apply Kd.R_drew));exact HO374.out⟩,⟨by(with_reducible repeat(first|refine blk_drewN ?_ _|refine blk_drew ?_|refine blk_alloc ?_ _));exact BK371.out⟩,⟨by repeat(first|(with_reducible first|exact HB.out|apply below_alloc|apply pw_below_drewN|apply below_drew1|refine below_set ?_ GE371.out)|exact HB.out)⟩⟩
 case round=>
  clear H'
  (try clear c1);(try clear c2);(try clear p2);(try clear c3);(try clear c4);(try clear c6);(try clear c6b0);(try clear c6b1);(try clear p6);(try clear c7);(try clear c7b0);(try clear c7b1);(try clear hcz9_0);(try clear hcz9_1);(try clear hcz9_2);(try clear hcz9_3);(try clear hcz9_4);(try clear hfz9_0);(try clear hfz9_1);(try clear hfz9_2);(try clear hfz9_3);(try clear hfz9_4)
  obtain⟨x10_1,x11_1,rfl,HA,HK1,HO_10,BK371,HB⟩:=hrel
  cases gk with
  |zero=>exact absurd HA.out (by simp [regletref13_begins.l0])
  |succ k1=>
   have H:=HA.out
   clear HA
   simp only [regletref13_begins.l0] at H
   by_cases c12:x11_1<(l1.length:Int)
   ·rw [if_pos c12] at H
    have c12b0:decide (x11_1<(l1.length:Int))=true:=decide_eq_true c12
    clear c12
    by_cases c13:0≤x11_1
    rotate_left
    ·rw [if_neg c13] at H
     exact absurd H (by simp)
    rw [if_pos c13] at H
    have c13b0:decide (0≤x11_1)=true:=decide_eq_true c13
    clear c13
    obtain⟨bq14,hbq14⟩:∃b_:Bool,b_=((rd_T43 l1 x11_1).f0):=⟨_,rfl⟩
    replace H:(if bq14=true then(if 0≤((rd_T43 l1 x11_1).f1) then(if((rd_T43 l1 x11_1).f1)<(x10_1.length:Int) then(some ((x10_1.set (((rd_T43 l1 x11_1).f1):Int).toNat true),false)) else(none)) else(none)) else(if 0≤((rd_T43 l1 x11_1).f1) then(if((rd_T43 l1 x11_1).f1)<(l2.length:Int) then((regletref13_join.f k1 x10_1 (rd_L17 l2 ((rd_T43 l1 x11_1).f1))).bind fun bt380=>(if((rd_T43 l1 x11_1).f1)<(l3.length:Int) then(if(rdOf false l3 ((rd_T43 l1 x11_1).f1)=true) then(regletref13_begins.l0 k1 l1 l2 l3 bt380.2 (wrap64 (x11_1+1))) else(some (bt380.2,false))) else(none))) else(none)) else(none)))=some (r1,r2):=by rw [←hbq14] at H;exact H
    have Nbq14:=Aside0.mk hbq14
    clear hbq14
    by_cases c15:bq14=true
    ·subst c15
     have H1:(if 0≤((rd_T43 l1 x11_1).f1) then(if((rd_T43 l1 x11_1).f1)<(x10_1.length:Int) then(some ((x10_1.set (((rd_T43 l1 x11_1).f1):Int).toNat true),false)) else(none)) else(none))=some (r1,r2):=by rw [if_pos rfl] at H;exact H
     clear H
     have H:=H1
     clear H1
     by_cases c16:0≤((rd_T43 l1 x11_1).f1)
     rotate_left
     ·rw [if_neg c16] at H
      exact absurd H (by simp)
     rw [if_pos c16] at H
     have c16b0:decide (0≤((rd_T43 l1 x11_1).f1))=true:=decide_eq_true c16
     clear c16
     by_cases c17:((rd_T43 l1 x11_1).f1)<(x10_1.length:Int)
     rotate_left
     ·rw [if_neg c17] at H
      exact absurd H (by simp)
     rw [if_pos c17] at H
     have c17b0:decide (((rd_T43 l1 x11_1).f1)<(x10_1.length:Int))=true:=decide_eq_true c17
     clear c17
     obtain⟨y377,hy377⟩:∃y_:List Bool,y_=(x10_1.set (((rd_T43 l1 x11_1).f1):Int).toNat true):=⟨_,rfl⟩
     replace H:(some (y377,false))=some (r1,r2):=by first|(rw [hy377];with_reducible exact H)|(have H2_:=(Option.bind_some _ _).symm.trans H;rw [hy377];with_reducible exact H2_)|(have H2_:=(Option.bind_some _ _).symm.trans H;with_reducible exact H2_)|with_reducible exact H|(rw [hy377];exact H)|exact H
     have Ny377:=Aside0.mk hy377
     clear hy377
     simp only [Option.some.injEq,Prod.mk.injEq] at H
     obtain⟨rfl,rfl⟩:=H
     have p375:0≤(x11_1:Int):=of_decide_eq_true (by first|(with_reducible assumption)|assumption)
     have q375:x11_1<(l1.length:Int):=of_decide_eq_true (by first|(with_reducible assumption)|assumption)
     obtain⟨ad375,e375,hx375_0,hx375_1⟩:=at_T43 HR1.out x11_1 p375 q375
     (try rw [←Nbq14.out] at hx375_0)
     cases e375
     replace hx375_0:=(HB.out.cell (World.block_lt_of_cell? w _ hx375_0)).trans hx375_0
     replace hx375_1:=(HB.out.cell (World.block_lt_of_cell? w _ hx375_1)).trans hx375_1
     replace p375:=eq_true p375
     replace q375:=eq_true q375
     have p376:0≤(x11_1:Int):=of_decide_eq_true (by first|(with_reducible assumption)|assumption)
     have q376:x11_1<(l1.length:Int):=of_decide_eq_true (by first|(with_reducible assumption)|assumption)
     obtain⟨ad376,e376,hx376_0,hx376_1⟩:=at_T43 HR1.out x11_1 p376 q376
     (try rw [←Nbq14.out] at hx376_0)
     obtain rfl:ad375=ad376:=(by injection e376)
     replace hx376_0:=(HB.out.cell (World.block_lt_of_cell? w _ hx376_0)).trans hx376_0
     replace hx376_1:=(HB.out.cell (World.block_lt_of_cell? w _ hx376_1)).trans hx376_1
     replace p376:=eq_true p376
     replace q376:=eq_true q376
     have p18:0≤(((rd_T43 l1 x11_1).f1):Int):=of_decide_eq_true (by first|(with_reducible assumption)|assumption)
     have q18:(((rd_T43 l1 x11_1).f1):Int)<((x10_1.length:Int):Int):=of_decide_eq_true (by first|(with_reducible assumption)|assumption)
     obtain⟨go18,co18,eo18,gb18,gl18,cl18,HG18⟩:=Kd.R_form HO_10.out (by omega)
     (first|cases eo18|(injection eo18 with ea_ en_ ec_;(first|subst ea_|(injection ea_ with ea_;subst ea_));subst ec_;clear en_))
     have GB18:=Aside0.mk gb18
     have GG18:=Aside0.mk HG18
     clear gb18 gl18 HG18
     obtain⟨hx18_0,hf18_0⟩:=Kd.R_celln false HO_10.out (((rd_T43 l1 x11_1).f1):Int) p18 q18
     replace p18:=eq_true p18
     replace q18:=eq_true q18
     have HP19:=Kd.R_putg HO_10.out (((rd_T43 l1 x11_1).f1):Int) true
     go_wp2_with (first|((with_reducible refine gate_store (t:=4) (p:=34) rfl ?_);refine store_event (t:=4) (p:=34) (v:=?vo_w20) (w1:=(wr.setCell ⟨go18,(((rd_T43 l1 x11_1).f1):Int).toNat,none⟩ (.bool true))) ?hg ?ho ?hn ?hr ?_;(case ho=>rfl);(case hg=>rfl);(case hn=>rfl);(case hr=>first|(go_simp;done)|(go_simp;rfl));intro w20 hw;have hg:wr.grownBy w20 (some go18):=(by rw [hw];exact HP19.2);have hp_:Kd.R Kd.bool 4 w20 w.heap.size (fun _=>True) (.slice (some ⟨go18,0,none⟩) x10_1.length co18) y377:=(by rw [hw,Ny377.out];exact HP19.1);clear HP19;have n0_:=Aside0.mk (hp_);have n1_:=Aside0.mk (blk_grown (g:=gb371) (o:= .cells #[.slice A0_0 l0_0.length c0_0,.slice A0_1 l0_1.length c0_1,.int .i64 a0_2,.int .i64 a0_3,.slice A0_4 l0_4.length c0_4] 26 (0,0)) (by(with_reducible repeat(first|refine blk_drewN ?_ _|refine blk_drew ?_|refine blk_alloc ?_ _));exact BK371.out) hg (Kd.R_ne HO_10.out BK371.out (by decide)));have n2_:=Aside0.mk ((by rw [hw];exact below_set (HB.out) GB18.out:Below w.heap.size w w20));clear HO_10;clear BK371;clear HB;have HO_10:=n0_;have BK371:=n1_;have HB:=n2_;clear n0_ n1_ n2_;clear hg hw hp_))
     go_ret2
     exact⟨_,by first|rfl|(simp [errW_none,errW_some]<;>rfl)|(simp only [←hji5];first|rfl|(simp [errW_none,errW_some]<;>rfl))|(simp [*,errW_none,errW_some]<;>rfl),by(with_reducible repeat(first|apply Kd.R_alloc|apply Kd.R_drewN|apply Kd.R_drew));exact HO_10.out,by repeat(first|(with_reducible first|exact HB.out|apply below_alloc|apply pw_below_drewN|apply below_drew1|refine below_set ?_ GE371.out)|exact HB.out)⟩
    ·replace c15:=Bool.eq_false_iff.mpr c15
     subst c15
     have H1:(if 0≤((rd_T43 l1 x11_1).f1) then(if((rd_T43 l1 x11_1).f1)<(l2.length:Int) then((regletref13_join.f k1 x10_1 (rd_L17 l2 ((rd_T43 l1 x11_1).f1))).bind fun bt380=>(if((rd_T43 l1 x11_1).f1)<(l3.length:Int) then(if(rdOf false l3 ((rd_T43 l1 x11_1).f1)=true) then(regletref13_begins.l0 k1 l1 l2 l3 bt380.2 (wrap64 (x11_1+1))) else(some (bt380.2,false))) else(none))) else(none)) else(none))=some (r1,r2):=by rw [if_neg (show ¬(false=true) by decide)] at H;exact H
     clear H
     have H:=H1
     clear H1
     by_cases c21:0≤((rd_T43 l1 x11_1).f1)
     rotate_left
     ·rw [if_neg c21] at H
      exact absurd H (by simp)
     rw [if_pos c21] at H
     have c21b0:decide (0≤((rd_T43 l1 x11_1).f1))=true:=decide_eq_true c21
     clear c21
     by_cases c22:((rd_T43 l1 x11_1).f1)<(l2.length:Int)
     rotate_left
     ·rw [if_neg c22] at H
      exact absurd H (by simp)
     rw [if_pos c22] at H
     have c22b0:decide (((rd_T43 l1 x11_1).f1)<(l2.length:Int))=true:=decide_eq_true c22
     clear c22
     replace H:=Option.bind_eq_some_iff.mp H
     obtain⟨⟨t380,t381⟩,A230,H⟩:=H
     replace H:(if((rd_T43 l1 x11_1).f1)<(l3.length:Int) then(if(rdOf false l3 ((rd_T43 l1 x11_1).f1)=true) then(regletref13_begins.l0 k1 l1 l2 l3 t381 (wrap64 (x11_1+1))) else(some (t381,false))) else(none))=some (r1,r2):=H
     have A23:=Aside0.mk A230
     clear A230
     by_cases c24:((rd_T43 l1 x11_1).f1)<(l3.length:Int)
     rotate_left
     ·rw [if_neg c24] at H
      exact absurd H (by simp)
     rw [if_pos c24] at H
     have c24b0:decide (((rd_T43 l1 x11_1).f1)<(l3.length:Int))=true:=decide_eq_true c24
     clear c24
     obtain⟨bq25,hbq25⟩:∃b_:Bool,b_=(rdOf false l3 ((rd_T43 l1 x11_1).f1)):=⟨_,rfl⟩
     replace H:(if(bq25=true) then(regletref13_begins.l0 k1 l1 l2 l3 t381 (wrap64 (x11_1+1))) else(some (t381,false)))=some (r1,r2):=by rw [←hbq25] at H;exact H
     have Nbq25:=Aside0.mk hbq25
     clear hbq25
     by_cases c26:(bq25=true)
     ·subst c26
      have H1:(regletref13_begins.l0 k1 l1 l2 l3 t381 (wrap64 (x11_1+1)))=some (r1,r2):=by rw [if_pos rfl] at H;exact H
      clear H
      have H:=H1
      clear H1
      have H':=Aside0.mk H
      clear H
      have p375:0≤(x11_1:Int):=of_decide_eq_true (by first|(with_reducible assumption)|assumption)
      have q375:x11_1<(l1.length:Int):=of_decide_eq_true (by first|(with_reducible assumption)|assumption)
      obtain⟨ad375,e375,hx375_0,hx375_1⟩:=at_T43 HR1.out x11_1 p375 q375
      (try rw [←Nbq14.out] at hx375_0)
      (try rw [←Nbq25.out] at hx375_0)
      cases e375
      replace hx375_0:=(HB.out.cell (World.block_lt_of_cell? w _ hx375_0)).trans hx375_0
      replace hx375_1:=(HB.out.cell (World.block_lt_of_cell? w _ hx375_1)).trans hx375_1
      replace p375:=eq_true p375
      replace q375:=eq_true q375
      have p378:0≤(x11_1:Int):=of_decide_eq_true (by first|(with_reducible assumption)|assumption)
      have q378:x11_1<(l1.length:Int):=of_decide_eq_true (by first|(with_reducible assumption)|assumption)
      obtain⟨ad378,e378,hx378_0,hx378_1⟩:=at_T43 HR1.out x11_1 p378 q378
      (try rw [←Nbq14.out] at hx378_0)
      (try rw [←Nbq25.out] at hx378_0)
      obtain rfl:ad375=ad378:=(by injection e378)
      replace hx378_0:=(HB.out.cell (World.block_lt_of_cell? w _ hx378_0)).trans hx378_0
      replace hx378_1:=(HB.out.cell (World.block_lt_of_cell? w _ hx378_1)).trans hx378_1
      replace p378:=eq_true p378
      replace q378:=eq_true q378
      have p379:0≤(((rd_T43 l1 x11_1).f1):Int):=of_decide_eq_true (by first|(with_reducible assumption)|assumption)
      have q379:((rd_T43 l1 x11_1).f1)<(l2.length:Int):=of_decide_eq_true (by first|(with_reducible assumption)|assumption)
      obtain⟨ad379,A379_0,c379_0,e379,hx379_0,hl379_0,hi379_0⟩:=at_L17 HR2.out ((rd_T43 l1 x11_1).f1) p379 q379
      cases e379
      replace hx379_0:=(HB.out.cell (World.block_lt_of_cell? w _ hx379_0)).trans hx379_0
      have HR379_0:=Aside0.mk hi379_0
      have HC379_0:=Aside0.mk hl379_0
      clear hi379_0 hl379_0
      replace p379:=eq_true p379
      replace q379:=eq_true q379
      obtain⟨Ao27,co27,eo27⟩:=Kd.R_slice HO_10.out
      subst eo27
      go_wp2_with (first|((with_reducible refine gate_callee (f:=47) rfl ?_);refine goesL_ (some 45) rfl rfl Try.func47 (by kernel_rfl) rfl #[.slice Ao27 x10_1.length co27,.slice A379_0 (rd_L17 l2 ((rd_T43 l1 x11_1).f1)).length c379_0] rfl (by(try simp only [List.map_toArray,List.map_cons,List.map_nil]);first|done|rfl|(simp only [List.length_drop,List.length_take];rfl)) ?_;(with_reducible refine(regletref13_join.calls k1 (fun k_=>some k_=(.slice Ao27 x10_1.length co27:Value).ownBlock) (.slice Ao27 x10_1.length co27) x10_1 _ _ (rd_L17 l2 ((rd_T43 l1 x11_1).f1)) t380 t381 w _ ?side1 ?side2 ?side3 ?side4 A23.out).mono ?_);(case side1=>repeat(first|(with_reducible first|exact HB.out|apply below_alloc|apply pw_below_drewN|apply below_drew1|refine below_set ?_ GE371.out)|exact HB.out));(case side2=>exact Kd.R_tight rfl HO_10.out);(case side3=>exact Kd.C_kept_came Kd.heap_bool HR379_0.out (by repeat(first|(with_reducible first|exact HB.out|apply below_alloc|apply pw_below_drewN|apply below_drew1|refine below_set ?_ GE371.out)|exact HB.out)) (fun k_ hs_=>(fun e_=>Kd.R_base HO_10.out k_ e_.symm) hs_));(case side4=>exact HC379_0.out);rintro e w28 ⟨rfl,hy0,hb,hkp⟩;refine⟨_,rfl,?_⟩;have n0_:=Aside0.mk (Kd.R_reok rfl hy0 (fun k_ e_=>HO_10.out.1 k_ e_));have n1_:=Aside0.mk (blk_kept (by(with_reducible repeat(first|refine blk_drewN ?_ _|refine blk_drew ?_|refine blk_alloc ?_ _));exact BK371.out) hkp (fun hs_=>(fun e_=>(Kd.R_ne HO_10.out BK371.out (by decide)) e_) hs_));have n2_:=Aside0.mk (hb);clear HO_10;clear BK371;clear HB;have HO_10:=n0_;have BK371:=n1_;have HB:=n2_;clear n0_ n1_ n2_;(try clear hb);(try clear hkp);(try clear hy0);have p382:0≤(x11_1:Int):=of_decide_eq_true (by first|(with_reducible assumption)|assumption);have q382:x11_1<(l1.length:Int):=of_decide_eq_true (by first|(with_reducible assumption)|assumption);obtain⟨ad382,e382,hx382_0,hx382_1⟩:=at_T43 HR1.out x11_1 p382 q382;(try rw [←Nbq14.out] at hx382_0);(try rw [←Nbq25.out] at hx382_0);obtain rfl:ad375=ad382:=(by injection e382);replace hx382_0:=(HB.out.cell (World.block_lt_of_cell? w _ hx382_0)).trans hx382_0;replace hx382_1:=(HB.out.cell (World.block_lt_of_cell? w _ hx382_1)).trans hx382_1;replace p382:=eq_true p382;replace q382:=eq_true q382;have p383:0≤(((rd_T43 l1 x11_1).f1):Int):=of_decide_eq_true (by first|(with_reducible assumption)|assumption);have q383:((rd_T43 l1 x11_1).f1)<(l3.length:Int):=of_decide_eq_true (by first|(with_reducible assumption)|assumption);obtain⟨ad383,e383,hx383_0⟩:=Kd.at_bool HR3.out ((rd_T43 l1 x11_1).f1) p383 q383;(try rw [←Nbq14.out] at hx383_0);(try rw [←Nbq25.out] at hx383_0);cases e383;replace hx383_0:=(HB.out.cell (World.block_lt_of_cell? w _ hx383_0)).trans hx383_0;replace p383:=eq_true p383;replace q383:=eq_true q383))
      go_roundg k1
      case measure=>have:=HK1.out;omega
      case rel=>exact⟨(t381),(wrap64 (x11_1+1)),(by first|rfl|(simp;done)|(simp [*];done)),H',⟨by have:=HK1.out;omega⟩,⟨by(with_reducible repeat(first|apply Kd.R_alloc|apply Kd.R_drewN|apply Kd.R_drew));exact HO_10.out⟩,⟨by(with_reducible repeat(first|refine blk_drewN ?_ _|refine blk_drew ?_|refine blk_alloc ?_ _));exact BK371.out⟩,⟨by repeat(first|(with_reducible first|exact HB.out|apply below_alloc|apply pw_below_drewN|apply below_drew1|refine below_set ?_ GE371.out)|exact HB.out)⟩⟩
     ·replace c26:=Bool.eq_false_iff.mpr c26
      subst c26
      have H1:(some (t381,false))=some (r1,r2):=by rw [if_neg (show ¬(false=true) by decide)] at H;exact H
      clear H
      have H:=H1
      clear H1
      simp only [Option.some.injEq,Prod.mk.injEq] at H
      obtain⟨rfl,rfl⟩:=H
      have p375:0≤(x11_1:Int):=of_decide_eq_true (by first|(with_reducible assumption)|assumption)
      have q375:x11_1<(l1.length:Int):=of_decide_eq_true (by first|(with_reducible assumption)|assumption)
      obtain⟨ad375,e375,hx375_0,hx375_1⟩:=at_T43 HR1.out x11_1 p375 q375
      (try rw [←Nbq14.out] at hx375_0)
      (try rw [←Nbq25.out] at hx375_0)
      cases e375
      replace hx375_0:=(HB.out.cell (World.block_lt_of_cell? w _ hx375_0)).trans hx375_0
      replace hx375_1:=(HB.out.cell (World.block_lt_of_cell? w _ hx375_1)).trans hx375_1
      replace p375:=eq_true p375
      replace q375:=eq_true q375
      have p378:0≤(x11_1:Int):=of_decide_eq_true (by first|(with_reducible assumption)|assumption)
      have q378:x11_1<(l1.length:Int):=of_decide_eq_true (by first|(with_reducible assumption)|assumption)
      obtain⟨ad378,e378,hx378_0,hx378_1⟩:=at_T43 HR1.out x11_1 p378 q378
      (try rw [←Nbq14.out] at hx378_0)
      (try rw [←Nbq25.out] at hx378_0)
      obtain rfl:ad375=ad378:=(by injection e378)
      replace hx378_0:=(HB.out.cell (World.block_lt_of_cell? w _ hx378_0)).trans hx378_0
      replace hx378_1:=(HB.out.cell (World.block_lt_of_cell? w _ hx378_1)).trans hx378_1
      replace p378:=eq_true p378
      replace q378:=eq_true q378
      have p379:0≤(((rd_T43 l1 x11_1).f1):Int):=of_decide_eq_true (by first|(with_reducible assumption)|assumption)
      have q379:((rd_T43 l1 x11_1).f1)<(l2.length:Int):=of_decide_eq_true (by first|(with_reducible assumption)|assumption)
      obtain⟨ad379,A379_0,c379_0,e379,hx379_0,hl379_0,hi379_0⟩:=at_L17 HR2.out ((rd_T43 l1 x11_1).f1) p379 q379
      cases e379
      replace hx379_0:=(HB.out.cell (World.block_lt_of_cell? w _ hx379_0)).trans hx379_0
      have HR379_0:=Aside0.mk hi379_0
      have HC379_0:=Aside0.mk hl379_0
      clear hi379_0 hl379_0
      replace p379:=eq_true p379
      replace q379:=eq_true q379
      obtain⟨Ao29,co29,eo29⟩:=Kd.R_slice HO_10.out
      subst eo29
      go_wp2_with (first|((with_reducible refine gate_callee (f:=47) rfl ?_);refine goesL_ (some 45) rfl rfl Try.func47 (by kernel_rfl) rfl #[.slice Ao29 x10_1.length co29,.slice A379_0 (rd_L17 l2 ((rd_T43 l1 x11_1).f1)).length c379_0] rfl (by(try simp only [List.map_toArray,List.map_cons,List.map_nil]);first|done|rfl|(simp only [List.length_drop,List.length_take];rfl)) ?_;(with_reducible refine(regletref13_join.calls k1 (fun k_=>some k_=(.slice Ao29 x10_1.length co29:Value).ownBlock) (.slice Ao29 x10_1.length co29) x10_1 _ _ (rd_L17 l2 ((rd_T43 l1 x11_1).f1)) t380 t381 w _ ?side1 ?side2 ?side3 ?side4 A23.out).mono ?_);(case side1=>repeat(first|(with_reducible first|exact HB.out|apply below_alloc|apply pw_below_drewN|apply below_drew1|refine below_set ?_ GE371.out)|exact HB.out));(case side2=>exact Kd.R_tight rfl HO_10.out);(case side3=>exact Kd.C_kept_came Kd.heap_bool HR379_0.out (by repeat(first|(with_reducible first|exact HB.out|apply below_alloc|apply pw_below_drewN|apply below_drew1|refine below_set ?_ GE371.out)|exact HB.out)) (fun k_ hs_=>(fun e_=>Kd.R_base HO_10.out k_ e_.symm) hs_));(case side4=>exact HC379_0.out);rintro e w30 ⟨rfl,hy0,hb,hkp⟩;refine⟨_,rfl,?_⟩;have n0_:=Aside0.mk (Kd.R_reok rfl hy0 (fun k_ e_=>HO_10.out.1 k_ e_));have n1_:=Aside0.mk (blk_kept (by(with_reducible repeat(first|refine blk_drewN ?_ _|refine blk_drew ?_|refine blk_alloc ?_ _));exact BK371.out) hkp (fun hs_=>(fun e_=>(Kd.R_ne HO_10.out BK371.out (by decide)) e_) hs_));have n2_:=Aside0.mk (hb);clear HO_10;clear BK371;clear HB;have HO_10:=n0_;have BK371:=n1_;have HB:=n2_;clear n0_ n1_ n2_;(try clear hb);(try clear hkp);(try clear hy0);have p382:0≤(x11_1:Int):=of_decide_eq_true (by first|(with_reducible assumption)|assumption);have q382:x11_1<(l1.length:Int):=of_decide_eq_true (by first|(with_reducible assumption)|assumption);obtain⟨ad382,e382,hx382_0,hx382_1⟩:=at_T43 HR1.out x11_1 p382 q382;(try rw [←Nbq14.out] at hx382_0);(try rw [←Nbq25.out] at hx382_0);obtain rfl:ad375=ad382:=(by injection e382);replace hx382_0:=(HB.out.cell (World.block_lt_of_cell? w _ hx382_0)).trans hx382_0;replace hx382_1:=(HB.out.cell (World.block_lt_of_cell? w _ hx382_1)).trans hx382_1;replace p382:=eq_true p382;replace q382:=eq_true q382;have p383:0≤(((rd_T43 l1 x11_1).f1):Int):=of_decide_eq_true (by first|(with_reducible assumption)|assumption);have q383:((rd_T43 l1 x11_1).f1)<(l3.length:Int):=of_decide_eq_true (by first|(with_reducible assumption)|assumption);obtain⟨ad383,e383,hx383_0⟩:=Kd.at_bool HR3.out ((rd_T43 l1 x11_1).f1) p383 q383;(try rw [←Nbq14.out] at hx383_0);(try rw [←Nbq25.out] at hx383_0);cases e383;replace hx383_0:=(HB.out.cell (World.block_lt_of_cell? w _ hx383_0)).trans hx383_0;replace p383:=eq_true p383;replace q383:=eq_true q383))
      go_ret2
      exact⟨_,by first|rfl|(simp [errW_none,errW_some]<;>rfl)|(simp only [←hji5];first|rfl|(simp [errW_none,errW_some]<;>rfl))|(simp [*,errW_none,errW_some]<;>rfl),by(with_reducible repeat(first|apply Kd.R_alloc|apply Kd.R_drewN|apply Kd.R_drew));exact HO_10.out,by repeat(first|(with_reducible first|exact HB.out|apply below_alloc|apply pw_below_drewN|apply below_drew1|refine below_set ?_ GE371.out)|exact HB.out)⟩
   ·rw [if_neg c12] at H
    have c12b0:decide (x11_1<(l1.length:Int))=false:=decide_eq_false c12
    clear c12
    simp only [Option.some.injEq,Prod.mk.injEq] at H
    obtain⟨rfl,rfl⟩:=H
    go_wp2
    go_ret2
    exact⟨_,by first|rfl|(simp [errW_none,errW_some]<;>rfl)|(simp only [←hji5];first|rfl|(simp [errW_none,errW_some]<;>rfl))|(simp [*,errW_none,errW_some]<;>rfl),by(with_reducible repeat(first|apply Kd.R_alloc|apply Kd.R_drewN|apply Kd.R_drew));exact HO_10.out,by repeat(first|(with_reducible first|exact HB.out|apply below_alloc|apply pw_below_drewN|apply below_drew1|refine below_set ?_ GE371.out)|exact HB.out)⟩
end Go.Proofs.Ytapjfnfengefpaa.P
end
