/- Packed texts of this claim: the walks of the functions, and their plain laws; see the claim's last text. -/
import Derived.Test.YtapjfnfengefpaaProg
import Derived.Below
import Derived.Deep.Draws
import Derived.Deep.AppendLies
import Derived.Maps.AppendAt
import Derived.OwnWalk
import Derived.Laws.BytesArg
import Derived.Laws.MakeOwn
import Derived.Laws.OwnMore
import Derived.Deep.OwnRows
import Derived.Tactics
import Derived.Lib.ConvBytes
import Derived.Laws.Slices
import Derived.WalkKit
import Derived.KernelRfl
import Derived.RowKit3
import Derived.Deep.LoopGhost
import Derived.Deep.QuietTactic
import Derived.BigQuiet
import Derived.WideLaws
import Derived.Deep.DeepCutAuto
import Derived.Deep.CutBlock
import Derived.Deep.RegionHeld3
import Derived.Laws.Rows
import Derived.Lib.AppendStr
import Derived.ArgAppend
import Derived.Laws.IdiomCopy
import Derived.OrdersHeld
import Derived.Laws.BitsLemmas
import Derived.RowKit
import Derived.Laws.Runes
import Derived.Deep.Cut
import Derived.Shelf.Abstract
import Derived.Test.YtapjfnfengefpaaKMachineClear1
section
namespace Go.Proofs.Ytapjfnfengefpaa.P
open Go.RowKit Go.Proofs.YtapjfnfengefpaaW.PrintWords Go.Proofs.YtapjfnfengefpaaW.PrintLast Go.Proofs.YtapjfnfengefpaaW.PrintMore
abbrev T:Bool:=true
abbrev F:Bool:=false
theorem pq:(∀(a:Act) (d:Option Tmp) (v:Value),a.put d v=match d with|none=>a|some i=>{a with tmps:=a.tmps.setIfInBounds i v})∧(∀(l:List Value) (i:Nat) (a:Value),l.toArray.setIfInBounds i a=(l.set i a).toArray)∧(∀(x:Value) (l:List Value) (a:Value),(x::l).set 0 a=a::l)∧(∀(x:Value) (l:List Value) (n:Nat) (a:Value),(x::l).set (n+1) a=x::l.set n a)∧(∀n,IntKind.i64.wrap n=wrap64 n)∧∀n,IntKind.i32.wrap n=wrap32 n:=⟨fun _ d _=>by cases d<;>rfl,fun _ _ _=>List.setIfInBounds_toArray ..,fun _ _ _=>rfl,fun _ _ _ _=>rfl,i64_w,i32_w⟩
abbrev aM:=@Aside0.mk
abbrev aA:=@Kd.R_alloc
abbrev aB:=@Kd.R_drewN
abbrev aC:=@Kd.R_drew
abbrev aD:=@Kd.R_below
abbrev aE:=@Kd.R_far
abbrev aF:=@Kd.R_reads'
abbrev aG:=@blk_cell
abbrev aH:=@blk_frozen
abbrev aI:=@blk_alloc
abbrev aJ:=@blk_drewN
abbrev aK:=@blk_drew
abbrev aL:=@below_set
abbrev aN:=@below_alloc
abbrev aO:=@below_drew1
abbrev aP:=@pw_below_drewN
abbrev aT:=@Kd.N_reads'
abbrev aV:=@Kd.S_drewN
abbrev aW:=@Kd.S_drew
abbrev aY:=@Kd.N_drewN
abbrev aZ:=@Kd.N_drew
abbrev bC:=@Kd.C_drew
abbrev bD:=@Kd.C_below
abbrev bE:=@Kd.R_elder'
abbrev bF:=@blk_below
abbrev bG:=@below_step
abbrev bH:=@below_size
abbrev bI:=@gate_callee
abbrev bJ:=@gate_dst
abbrev bL:=@Kd.R_lower
abbrev bN:=@blk_lt
abbrev Grew (w W:World):Prop:=Nonempty (Below w.heap.size w W)
theorem Grew.b {w W:World}(h:Grew w W):Below w.heap.size w W:=h.elim id
instance grew0 (w:World):Grew w w:=⟨Below.refl _ _⟩
instance grewA (w W:World) (o:Obj) [h:Grew w W]:Grew w (W.alloc o):=⟨aN h.b o⟩
instance grewN (w W:World) (n:Nat) [h:Grew w W]:Grew w (W.drewN n):=⟨aP h.b n⟩
instance grewD (w W:World) [h:Grew w W]:Grew w W.drew:=⟨aO h.b⟩
theorem gB {w W:World}{g:Nat}{o:Obj}(h:w.heap[g]?=some o) [k:Grew w W]:W.heap[g]?=some o:=bF h k.b
theorem gR {α:Type}{d:Kd α}{e base:Nat}{ok:Nat→Prop}{v:Value}{xs:List α}{w W:World}(h:d.R e w base ok v xs) [k:Grew w W]:d.R e W base ok v xs:=aD h k.b
theorem gS {α:Type}{d:Kd α}{e base:Nat}{ok:Nat→Prop}{v:Value}{xs:List α}{w W:World}(h:Kd.S d e w base ok v xs) [k:Grew w W]:Kd.S d e W base ok v xs:=Kd.S_below h k.b
theorem gN {α:Type}{d:Kd α}{e base:Nat}{ok:Nat→Prop}{v:Value}{xs:List α}{w W:World}(h:Kd.N d e w base ok v xs) [k:Grew w W]:Kd.N d e W base ok v xs:=Kd.N_below h k.b
theorem gC {α:Type}{d:Kd α}{A:Option Addr}{n:Nat}{xs:List α}{w W:World}(h:d.C w A n xs) [k:Grew w W]:d.C W A n xs:=bD h k.b
theorem gW {b w W:World}(h:Below b.heap.size b w) [k:Grew w W]:Below b.heap.size b W:=bG h k.b
attribute [local go_sem] max2_int min2_int max_two min_two max_three min_three max_four min_four   -- for this text's walks alone
set_option linter.unusedVariables false
set_option linter.unusedSimpArgs false
def errW:Option Int→Value
 |none=> .nilIface
 |some c=> .iface 0 (.int .i64 c)
theorem errW_none:errW none= .nilIface:=rfl
theorem errW_some (c:Int):errW (some c)= .iface 0 (.int .i64 c):=rfl
theorem info3:(Try.prog.info? 3).map (fun i=>(i.zero,i.size,i.bytes))=some (some (.int .i64 0),1,8):=by kernel_rfl
theorem info4:(Try.prog.info? 4).map (fun i=>(i.zero,i.size,i.bytes))=some (some (.bool false),1,1):=by kernel_rfl
theorem info32:(Try.prog.info? 32).map (fun i=>(i.zero,i.size,i.bytes))=some (some (.slice none 0 0),1,24):=by kernel_rfl
theorem info43:(Try.prog.info? 43).map (fun i=>(i.zero,i.size,i.bytes))=some (some (.agg #[(.bool false),(.int .i64 0)]),2,16):=by kernel_rfl
theorem info72:(Try.prog.info? 72).map (fun i=>(i.zero,i.size,i.bytes))=some (some (.agg #[(.string ⟨#[]⟩),(.int .i64 0),(.string ⟨#[]⟩),(.slice none 0 0),(.int .i64 0),(.int .i64 0),(.slice none 0 0)]),7,104):=by kernel_rfl
theorem info78:(Try.prog.info? 78).map (fun i=>(i.zero,i.size,i.bytes))=some (some (.agg #[(.int .i64 0),(.int .i64 0),(.int .i64 0),(.int .i64 0)]),4,32):=by kernel_rfl
theorem info90:(Try.prog.info? 90).map (fun i=>(i.zero,i.size,i.bytes))=some (some (.slice none 0 0),1,24):=by kernel_rfl
structure S43 where
 f0:Bool
 f1:Int
def z43:S43:=⟨false,(0:Int)⟩
def k43:Kd S43:=Kd.iso (Kd.pair Kd.bool (Kd.int .i64)) (fun x:S43=>(x.f0,x.f1))
theorem k43_open {w:World}{x:S43}{cs:List Value}(h:k43.K w x cs):cs= [.bool x.f0,.int .i64 x.f1]:=by
 obtain⟨_,_,rfl,rfl,rfl⟩:=h;exact rfl
theorem k43_openM {w:World}{base:Nat}{ok:Nat→Prop}{x:S43}{cs:List Value}(h:k43.M w base ok x cs):cs= [.bool x.f0,.int .i64 x.f1]:=by
 obtain⟨_,_,rfl,rfl,rfl⟩:=h;exact rfl
theorem k43_mkM (w:World) (base:Nat) (ok:Nat→Prop) (x:S43)  :k43.M w base ok x [.bool x.f0,.int .i64 x.f1]:=⟨[.bool x.f0],[.int .i64 x.f1],rfl,rfl,rfl⟩
def rd_T43 (xs:List S43) (i:Int):S43:=xs.getD i.toNat z43
theorem at_T43 {w:World}{A:Option Addr}{n:Nat}{xs:List S43}(h:Kd.C k43 w A n xs) (i:Int) (h0:0≤i) (h1:i<n):∃ad,A=some ad∧w.cell? (ad.add (i.toNat * 2))=some (.bool (rd_T43 xs i).f0)∧w.cell? ⟨(ad.add (i.toNat * 2)).block,(ad.add (i.toNat * 2)).off+1,none⟩=some (.int .i64 (rd_T43 xs i).f1):=by
 obtain⟨ad,c,e,_,hK,hc0⟩:=Kd.C_get h z43 i h0 h1;have hc:∀j u,c[j]?=some u→w.cell? (ad.add (i.toNat * 2+j))=some u:=hc0;obtain rfl:=k43_open hK;exact⟨ad,e,hc 0 _ rfl,by rw [←add_field _ _ 1 (by omega)];exact hc 1 _ rfl⟩
def rd_L5 (xs:List (List Int)) (i:Int):(List Int):=xs.getD i.toNat ([]:List Int)
theorem at_L5 {w:World}{A:Option Addr}{n:Nat}{xs:List (List Int)}(h:Kd.C (Kd.slice 3 (Kd.int .i64)) w A n xs) (i:Int) (h0:0≤i) (h1:i<n):∃ad A0 c0,A=some ad∧w.cell? (ad.add i.toNat)=some (.slice A0 (rd_L5 xs i).length c0)∧(rd_L5 xs i).length≤c0∧(Kd.int .i64).C w A0 (rd_L5 xs i).length (rd_L5 xs i):=by
 obtain⟨ad,c,e,_,hK,hc0⟩:=Kd.C_get h ([]:List Int) i h0 h1;have hc:∀j u,c[j]?=some u→w.cell? (ad.add (i.toNat * 1+j))=some u:=hc0;obtain⟨A0,c0,rfl,l0,g0⟩:=hK;exact⟨ad,A0,c0,e,by have hq:=hc 0 _ rfl;rwa [Nat.mul_one,Nat.add_zero] at hq,l0,g0⟩
structure S70 where
 f0:Int
 f1:ByteArray
 f2:(List Int)
 f3:Int
 f4:Int
 f5:(List S70)
def z70:S70:=⟨(0:Int),(⟨#[]⟩:ByteArray),([]:List Int),(0:Int),(0:Int),([]:List S70)⟩
def F70 (d:Kd S70):Kd S70:=Kd.iso (Kd.pair (Kd.int .i64) (Kd.pair Kd.string (Kd.pair (Kd.slice 3 (Kd.int .i64)) (Kd.pair (Kd.int .i64) (Kd.pair (Kd.int .i64) (Kd.slice 70 d)))))) (fun x:S70=>(x.f0,x.f1,x.f2,x.f3,x.f4,x.f5))
theorem mono70:Kd.Mono F70:=Kd.mono_iso _ (Kd.mono_pair (Kd.mono_const _) (Kd.mono_pair (Kd.mono_const _) (Kd.mono_pair (Kd.mono_const _) (Kd.mono_pair (Kd.mono_const _) (Kd.mono_pair (Kd.mono_const _) (Kd.mono_slice 70 Kd.mono_id))))))
theorem sub70:Kd.Sub F70 [3,70]:=Kd.sub_iso _ (Kd.sub_pair (Kd.sub_const _ (by decide)) (Kd.sub_pair (Kd.sub_const _ (by decide)) (Kd.sub_pair (Kd.sub_const _ (by decide)) (Kd.sub_pair (Kd.sub_const _ (by decide)) (Kd.sub_pair (Kd.sub_const _ (by decide)) (Kd.sub_slice 70 (by decide) Kd.sub_id))))))
theorem sz70:∀n,(Kd.upto F70 6 [3,70] n).sz=6:=Kd.upto_sz (fun _=>rfl)
def k70:Kd S70:=Kd.fix F70 6 [3,70] sz70 (Kd.upto_E sub70)
theorem k70_mk (w:World) (x:S70) {A2:Option Addr}{c2:Nat}(l2:x.f2.length≤c2) (g2:(Kd.int .i64).C w A2 x.f2.length x.f2) {A5:Option Addr}{c5:Nat}(l5:x.f5.length≤c5) (g5:k70.C w A5 x.f5.length x.f5):k70.K w x [.int .i64 x.f0,.string x.f1,.slice A2 x.f2.length c2,.int .i64 x.f3,.int .i64 x.f4,.slice A5 x.f5.length c5]:=by
 obtain⟨n5,q5⟩:=Kd.fix_C_back mono70 g5;have r5:=Kd.upto_C_le mono70 sz70 (show n5≤n5 by omega) q5;exact⟨n5+1,⟨[.int .i64 x.f0],[.string x.f1,.slice A2 x.f2.length c2,.int .i64 x.f3,.int .i64 x.f4,.slice A5 x.f5.length c5],rfl,rfl,⟨[.string x.f1],[.slice A2 x.f2.length c2,.int .i64 x.f3,.int .i64 x.f4,.slice A5 x.f5.length c5],rfl,rfl,⟨[.slice A2 x.f2.length c2],[.int .i64 x.f3,.int .i64 x.f4,.slice A5 x.f5.length c5],rfl,⟨A2,c2,rfl,l2,g2⟩,⟨[.int .i64 x.f3],[.int .i64 x.f4,.slice A5 x.f5.length c5],rfl,rfl,⟨[.int .i64 x.f4],[.slice A5 x.f5.length c5],rfl,rfl,⟨A5,c5,rfl,l5,r5⟩⟩⟩⟩⟩⟩⟩
theorem k70_mkM (w:World) (base:Nat) (ok:Nat→Prop) (x:S70) {v2:Value}(g2:(Kd.int .i64).R 3 w base ok v2 x.f2) {v5:Value}(g5:k70.R 70 w base ok v5 x.f5):k70.M w base ok x [.int .i64 x.f0,.string x.f1,v2,.int .i64 x.f3,.int .i64 x.f4,v5]:=by
 obtain⟨n5,q5⟩:=Kd.fix_R_back mono70 g5;have r5:=Kd.upto_R_le mono70 sz70 (show n5≤n5 by omega) q5;exact⟨n5+1,⟨[.int .i64 x.f0],[.string x.f1,v2,.int .i64 x.f3,.int .i64 x.f4,v5],rfl,rfl,⟨[.string x.f1],[v2,.int .i64 x.f3,.int .i64 x.f4,v5],rfl,rfl,⟨[v2],[.int .i64 x.f3,.int .i64 x.f4,v5],rfl,⟨v2,rfl,g2⟩,⟨[.int .i64 x.f3],[.int .i64 x.f4,v5],rfl,rfl,⟨[.int .i64 x.f4],[v5],rfl,rfl,⟨v5,rfl,r5⟩⟩⟩⟩⟩⟩⟩
structure S72 where
 f0:ByteArray
 f1:S70
def z72:S72:=⟨(⟨#[]⟩:ByteArray),z70⟩
def k72:Kd S72:=Kd.iso (Kd.pair Kd.string k70) (fun x:S72=>(x.f0,x.f1))
theorem k72_mk (w:World) (x:S72) {A3:Option Addr}{c3:Nat}(l3:x.f1.f2.length≤c3) (g3:(Kd.int .i64).C w A3 x.f1.f2.length x.f1.f2) {A6:Option Addr}{c6:Nat}(l6:x.f1.f5.length≤c6) (g6:k70.C w A6 x.f1.f5.length x.f1.f5):k72.K w x [.string x.f0,.int .i64 x.f1.f0,.string x.f1.f1,.slice A3 x.f1.f2.length c3,.int .i64 x.f1.f3,.int .i64 x.f1.f4,.slice A6 x.f1.f5.length c6]:=⟨[.string x.f0],[.int .i64 x.f1.f0,.string x.f1.f1,.slice A3 x.f1.f2.length c3,.int .i64 x.f1.f3,.int .i64 x.f1.f4,.slice A6 x.f1.f5.length c6],rfl,rfl,(k70_mk w x.f1 l3 g3 l6 g6)⟩
theorem k72_mkM (w:World) (base:Nat) (ok:Nat→Prop) (x:S72) {v3:Value}(g3:(Kd.int .i64).R 3 w base ok v3 x.f1.f2) {v6:Value}(g6:k70.R 70 w base ok v6 x.f1.f5):k72.M w base ok x [.string x.f0,.int .i64 x.f1.f0,.string x.f1.f1,v3,.int .i64 x.f1.f3,.int .i64 x.f1.f4,v6]:=⟨[.string x.f0],[.int .i64 x.f1.f0,.string x.f1.f1,v3,.int .i64 x.f1.f3,.int .i64 x.f1.f4,v6],rfl,rfl,(k70_mkM w base ok x.f1 g3 g6)⟩
theorem k72_mkF (W:World) (ok:Nat→Prop) (x:S72) {A3:Option Addr}{c3:Nat}(l3:x.f1.f2.length≤c3) (g3:Kd.F (Kd.int .i64) W ok A3 x.f1.f2.length x.f1.f2) {A6:Option Addr}{c6:Nat}(l6:x.f1.f5.length≤c6) (g6:Kd.F k70 W ok A6 x.f1.f5.length x.f1.f5):Kd.FK k72 W ok x [.string x.f0,.int .i64 x.f1.f0,.string x.f1.f1,.slice A3 x.f1.f2.length c3,.int .i64 x.f1.f3,.int .i64 x.f1.f4,.slice A6 x.f1.f5.length c6]:=fun W2 hW=>k72_mk W2 x l3 (g3 W2 hW) l6 (g6 W2 hW)
structure S35 where
 f0:Int
 f1:(List S43)
def z35:S35:=⟨(0:Int),([]:List S43)⟩
def k35:Kd S35:=Kd.iso (Kd.pair (Kd.int .i64) (Kd.slice 43 k43)) (fun x:S35=>(x.f0,x.f1))
theorem k35_open {w:World}{x:S35}{cs:List Value}(h:k35.K w x cs):∃A1 c1,cs= [.int .i64 x.f0,.slice A1 x.f1.length c1]∧x.f1.length≤c1∧k43.C w A1 x.f1.length x.f1:=by
 obtain⟨_,_,rfl,rfl,⟨A1,c1,rfl,l1,g1⟩⟩:=h;exact⟨A1,c1,rfl,l1,g1⟩
theorem k35_openM {w:World}{base:Nat}{ok:Nat→Prop}{x:S35}{cs:List Value}(h:k35.M w base ok x cs):∃v1,cs= [.int .i64 x.f0,v1]∧k43.R 43 w base ok v1 x.f1:=by
 obtain⟨_,_,rfl,rfl,⟨v1,rfl,g1⟩⟩:=h;exact⟨v1,rfl,g1⟩
theorem k35_mk (w:World) (x:S35) {A1:Option Addr}{c1:Nat}(l1:x.f1.length≤c1) (g1:k43.C w A1 x.f1.length x.f1):k35.K w x [.int .i64 x.f0,.slice A1 x.f1.length c1]:=⟨[.int .i64 x.f0],[.slice A1 x.f1.length c1],rfl,rfl,⟨A1,c1,rfl,l1,g1⟩⟩
theorem k35_mkM (w:World) (base:Nat) (ok:Nat→Prop) (x:S35) {v1:Value}(g1:k43.R 43 w base ok v1 x.f1):k35.M w base ok x [.int .i64 x.f0,v1]:=⟨[.int .i64 x.f0],[v1],rfl,rfl,⟨v1,rfl,g1⟩⟩
theorem k35_mkF (W:World) (ok:Nat→Prop) (x:S35) {A1:Option Addr}{c1:Nat}(l1:x.f1.length≤c1) (g1:Kd.F k43 W ok A1 x.f1.length x.f1):Kd.FK k35 W ok x [.int .i64 x.f0,.slice A1 x.f1.length c1]:=fun W2 hW=>k35_mk W2 x l1 (g1 W2 hW)
def rd_T35 (xs:List S35) (i:Int):S35:=xs.getD i.toNat z35
theorem at_T35 {w:World}{A:Option Addr}{n:Nat}{xs:List S35}(h:Kd.C k35 w A n xs) (i:Int) (h0:0≤i) (h1:i<n):∃ad A1 c1,A=some ad∧w.cell? (ad.add (i.toNat * 2))=some (.int .i64 (rd_T35 xs i).f0)∧w.cell? ⟨(ad.add (i.toNat * 2)).block,(ad.add (i.toNat * 2)).off+1,none⟩=some (.slice A1 (rd_T35 xs i).f1.length c1)∧(rd_T35 xs i).f1.length≤c1∧k43.C w A1 (rd_T35 xs i).f1.length (rd_T35 xs i).f1:=by
 obtain⟨ad,c,e,_,hK,hc0⟩:=Kd.C_get h z35 i h0 h1;have hc:∀j u,c[j]?=some u→w.cell? (ad.add (i.toNat * 2+j))=some u:=hc0;obtain⟨A1,c1,rfl,l1,g1⟩:=k35_open hK;exact⟨ad,A1,c1,e,hc 0 _ rfl,by rw [←add_field _ _ 1 (by omega)];exact hc 1 _ rfl,l1,g1⟩
def rd_L17 (xs:List (List Bool)) (i:Int):(List Bool):=xs.getD i.toNat ([]:List Bool)
theorem at_L17 {w:World}{A:Option Addr}{n:Nat}{xs:List (List Bool)}(h:Kd.C (Kd.slice 4 Kd.bool) w A n xs) (i:Int) (h0:0≤i) (h1:i<n):∃ad A0 c0,A=some ad∧w.cell? (ad.add i.toNat)=some (.slice A0 (rd_L17 xs i).length c0)∧(rd_L17 xs i).length≤c0∧Kd.bool.C w A0 (rd_L17 xs i).length (rd_L17 xs i):=by
 obtain⟨ad,c,e,_,hK,hc0⟩:=Kd.C_get h ([]:List Bool) i h0 h1;have hc:∀j u,c[j]?=some u→w.cell? (ad.add (i.toNat * 1+j))=some u:=hc0;obtain⟨A0,c0,rfl,l0,g0⟩:=hK;exact⟨ad,A0,c0,e,by have hq:=hc 0 _ rfl;rwa [Nat.mul_one,Nat.add_zero] at hq,l0,g0⟩
structure S78 where
 f0:Int
 f1:Int
 f2:Int
 f3:Int
def k78:Kd S78:=Kd.iso (Kd.pair (Kd.int .i64) (Kd.pair (Kd.int .i64) (Kd.pair (Kd.int .i64) (Kd.int .i64)))) (fun x:S78=>(x.f0,x.f1,x.f2,x.f3))
theorem k78_mkM (w:World) (base:Nat) (ok:Nat→Prop) (x:S78)  :k78.M w base ok x [.int .i64 x.f0,.int .i64 x.f1,.int .i64 x.f2,.int .i64 x.f3]:=⟨[.int .i64 x.f0],[.int .i64 x.f1,.int .i64 x.f2,.int .i64 x.f3],rfl,rfl,⟨[.int .i64 x.f1],[.int .i64 x.f2,.int .i64 x.f3],rfl,rfl,⟨[.int .i64 x.f2],[.int .i64 x.f3],rfl,rfl,rfl⟩⟩⟩
end Go.Proofs.Ytapjfnfengefpaa.P
end

section
namespace Go.Proofs.Ytapjfnfengefpaa.H
open Go.RowKit Go.Proofs.YtapjfnfengefpaaW.PrintWords Go.Proofs.YtapjfnfengefpaaW.PrintLast Go.Proofs.YtapjfnfengefpaaW.PrintMore
theorem Ev.pos {α:Type}{c:Prop} [Decidable c] {f g:Nat→Option α}{r:α}(h:c) (k:Ev f r):Ev (fun n=>if c then f n else g n) r:=
 Ev.congr (fun _=>if_pos h) k
theorem Ev.neg {α:Type}{c:Prop} [Decidable c] {f g:Nat→Option α}{r:α}(h:¬c) (k:Ev g r):Ev (fun n=>if c then f n else g n) r:=
 Ev.congr (fun _=>if_neg h) k
theorem Ev.some {α:Type}{r s:α}(h:r=s):Ev (fun _=>Option.some r) s:=h ▸ Ev.now r
theorem Ev.some' {α:Type}{g:Option α}{r:α}(h:g=Option.some r):Ev (fun _=>g) r:=⟨0,fun _ _=>h⟩
theorem Ev.bind0 {α β:Type}{g:Option α}{f:Nat→α→Option β}{a:α}{r:β}(h:g=Option.some a) (k:Ev (fun n=>f n a) r):Ev (fun n=>g.bind (f n)) r:=
 Ev.congr (fun _=>by rw [h];rfl) k
theorem Ev.val {α:Type}{g:Nat→Option α}{r s:α}(h:Ev g r) (e:r=s):Ev g s:=e ▸ h
theorem wrap64_id {x:Int}(h0: -9223372036854775808≤x) (h1:x≤9223372036854775807):wrap64 x=x:=by
 unfold wrap64;omega
theorem wf_u8 {x:Int}(h:(Lit.int .u8 x).wf=true):0≤x∧x≤255:=by
 simp [Lit.wf,IntKind.min,IntKind.max,IntKind.bits,IntKind.signed] at h;omega
end Go.Proofs.Ytapjfnfengefpaa.H
end

section
namespace Go.Proofs.Ytapjfnfengefpaa.P
open Go.RowKit Go.Proofs.YtapjfnfengefpaaW.PrintWords Go.Proofs.YtapjfnfengefpaaW.PrintLast Go.Proofs.YtapjfnfengefpaaW.PrintMore
set_option linter.unusedVariables false
set_option linter.unusedSimpArgs false
def mPick (l:List Int) (at_:Nat) (n:Int):Int:=if l.length<at_+1 then 0 else Int.tmod (l.getD at_ 0) n
theorem wrap_u8 {x:Int}(h0:0≤x) (h1:x≤255):IntKind.i64.wrap x=x:=by rw [IntKind.wrap_i64];omega
theorem wrap_tmod {x n:Int}(h0:0≤x) (h1:x≤255):IntKind.i64.wrap (x.tmod n)=x.tmod n:=by
 have h2:0≤x.tmod n:=Int.tmod_nonneg n h0
 have h3:x.tmod n≤x:=by
  obtain⟨a,rfl⟩:=Int.eq_ofNat_of_zero_le h0;rcases Int.lt_or_le n 0 with hn|hn
  ·obtain⟨b,hb⟩:=Int.eq_ofNat_of_zero_le (show 0≤ -n by omega)
   have:(a:Int).tmod n=(a:Int).tmod b:=by rw [show n= -(b:Int) by omega,Int.tmod_neg]
   rw [this,←Int.ofNat_tmod]
   exact_mod_cast Nat.mod_le a b
  ·obtain⟨b,rfl⟩:=Int.eq_ofNat_of_zero_le hn
   rw [←Int.ofNat_tmod]
   exact_mod_cast Nat.mod_le a b
 rw [IntKind.wrap_i64];omega
set_option maxHeartbeats 1000000 in
theorem pick_any (l:List Int) (A0:Option Addr) (c0 at_:Nat) (n:Int) (LB AB:Nat) (W:World) (hne:LB≠AB) (hl:W.cell? ⟨LB,0,none⟩=some (.slice A0 l.length c0)) (hab:W.heap[AB]?=some (.cells #[.int .i64 (at_:Int)] 3 (0,0)))
 (hr:∀W',Kept W W' (fun k=>k=AB)→Kd.C (Kd.int .u8) W' A0 l.length l) (hn:n≠0) (hat:at_<1000000) (hu:∀x∈l,0≤x∧x≤255):
 Calls Try.prog 29 #[.int .i64 n,.pointer (some ⟨AB,0,none⟩),.pointer (some ⟨LB,0,none⟩)] W fun e w'=>e= .returned (.int .i64 (mPick l at_ n))∧Aside0 (Kept W w' (fun k=>k=AB))∧Aside0 (w'.heap[AB]?=some (.cells #[.int .i64 ((at_+1:Nat):Int)] 3 (0,0)))∧Aside0 (Below AB W w'):=by
 have ha:W.cell? ⟨AB,0,none⟩=some (.int .i64 (at_:Int)):=(aG hab 0).trans rfl;have hf:=aH hab 0;have HA3:=aM (blk_put hab 0 (.int .i64 ((at_:Int)+1)) (cs':=#[.int .i64 ((at_+1:Nat):Int)]) rfl);have hK:=Kept.setCell (Kept.refl W (fun k=>k=AB)) (p:=⟨AB,0,none⟩) (.inl rfl) (.int .i64 ((at_:Int)+1));have hw1:IntKind.i64.wrap ((at_:Int)+1)=(at_:Int)+1:=by rw [IntKind.wrap_i64];omega
 have hw2:IntKind.i64.wrap ((at_:Int)+1 - 1)=(at_:Int):=by rw [IntKind.wrap_i64];omega
 have hl2:(W.setCell ⟨AB,0,none⟩ (.int .i64 ((at_:Int)+1))).cell? ⟨LB,0,none⟩=some (.slice A0 l.length c0):=Go.Proofs.YtapjfnfengefpaaW.PrintWords.cell_kept hl hK hne;have ha2:(W.setCell ⟨AB,0,none⟩ (.int .i64 ((at_:Int)+1))).cell? ⟨AB,0,none⟩=some (.int .i64 ((at_:Int)+1)):=World.cell?_setCell_same' _ _ _ (by rw [ha];rfl);have HB:Aside0 (Below AB W (W.setCell ⟨AB,0,none⟩ (.int .i64 ((at_:Int)+1)))):=⟨(Below.refl AB W).setCell (Nat.le_refl _) _⟩;have HK:=aM hK;have HU:=aM hu;have HR:=aM hr;clear hK hu hr hab
 by_cases hlt:l.length<at_+1
 ·have e:mPick l at_ n=0:=if_pos hlt
  rw [e];have d0:decide ((at_:Int)+1>(l.length:Int))=true:=decide_eq_true (by omega);clear hlt e;go_enter Try.func29,Try.ntmps29
  go_wp2
  go_ret
  exact⟨rfl,HK,HA3,HB⟩
 ·have e:mPick l at_ n=Int.tmod (l.getD at_ 0) n:=if_neg hlt
  rw [e];have d0:decide ((at_:Int)+1>(l.length:Int))=false:=decide_eq_false (by omega);obtain⟨ad,ead,hc⟩:=Kd.at_int (HR.out _ HK.out) (at_:Int) (by omega) (by omega)
  cases ead;have p0:(0≤(at_:Int))=True:=eq_true (by omega);have p1:((at_:Int)<(l.length:Int))=True:=eq_true (by omega);have hx:=HU.out (l.getD at_ 0) (by rw [List.getD_eq_getElem?_getD,List.getElem?_eq_getElem (by omega)];exact List.getElem_mem _);have hx0:rd l (at_:Int)=l.getD at_ 0:=rfl;rw [hx0] at hc;generalize l.getD at_ 0=x at hc hx;have hw3:=wrap_u8 hx.1 hx.2;have hw4:=wrap_tmod (n:=n) hx.1 hx.2;rw [Int.toNat_natCast] at hc;clear hx hx0 hlt e;go_enter Try.func29,Try.ntmps29
  go_wp2
  go_ret
  exact⟨rfl,HK,HA3,HB⟩
theorem mPick_lt {l:List Int}(hu:∀x∈l,0≤x∧x≤255) (at_:Nat) {n:Int}(hn:0<n):0≤mPick l at_ n∧mPick l at_ n<n:=by
 unfold mPick
 split
 ·omega
 ·have hx:=hu (l.getD at_ 0) (by rw [List.getD_eq_getElem?_getD,List.getElem?_eq_getElem (by omega)];exact List.getElem_mem _)
  exact⟨Int.tmod_nonneg n hx.1,Int.tmod_lt_of_pos _ hn⟩
def mRight (l:List Int) (n t:Int):Nat→Nat→List S43→List S43×Nat
 |0,at_,acc=>(acc,at_)
 |c+1,at_,acc=>mRight l n t c (at_+2) (acc++ [if mPick l at_ 2=0 then⟨true,mPick l (at_+1) t⟩ else⟨false,mPick l (at_+1) n⟩])
def mProds (l:List Int) (n t:Int):Nat→Nat→List S35→List S35
 |0,_,acc=>acc
 |i+1,at_,acc=>mProds l n t i (mRight l n t (mPick l (at_+1) 4).toNat (at_+2) []).2 (acc++ [⟨mPick l at_ n,(mRight l n t (mPick l (at_+1) 4).toNat (at_+2) []).1⟩])
def mNames:List ByteArray:= [⟨#[97]⟩,⟨#[98]⟩,⟨#[99]⟩,⟨#[100]⟩,⟨#[101]⟩]
def mTexts:List ByteArray:= [⟨#[120]⟩,⟨#[121]⟩,⟨#[122]⟩,⟨#[119]⟩]
def mTok (s:ByteArray):S72:=⟨⟨#[]⟩,⟨5,s,[],0,0,[]⟩⟩
def regletlaw13_Made.f (k:Nat) (l:List Int):Option (List ByteArray×List S72×Int×Int×List S35):=
 if l.all (fun x=>decide (0≤x∧x≤255))=true then some (mNames.take (1+mPick l 0 5).toNat,(mTexts.map mTok).take (1+mPick l 1 4).toNat,0,0,mProds l (1+mPick l 0 5) (1+mPick l 1 4) (1+mPick l 2 10).toNat 3 []) else none
structure MadeI (w:World) (A0:Option Addr) (n0 c0:Nat) (at_:Nat) (vn vt vp:Value) (W:World):Prop where
 bel:Below w.heap.size w W
 l:W.heap[w.heap.size]?=some (.cells #[.slice A0 n0 c0] 39 (0,0))
 r:W.heap[w.heap.size+1]?=some (.cells #[.slice none 0 0,.slice none 0 0,.int .i64 0,.int .i64 0,.slice none 0 0] 26 (0,0))
 s:W.heap[w.heap.size+2]?=some (.cells #[vn,vt,.int .i64 0,.int .i64 0,vp] 26 (0,0))
 a:W.heap[w.heap.size+3]?=some (.cells #[.int .i64 (at_:Int)] 3 (0,0))
theorem MadeI.pick {w W W':World}{A0:Option Addr}{n0 c0 at_:Nat}{vn vt vp:Value}(h:MadeI w A0 n0 c0 at_ vn vt vp W) (hk:Kept W W' (fun k=>k=w.heap.size+3)) (ha:W'.heap[w.heap.size+3]?=some (.cells #[.int .i64 ((at_+1:Nat):Int)] 3 (0,0))) (hb:Below (w.heap.size+3) W W'):MadeI w A0 n0 c0 (at_+1) vn vt vp W':=
 ⟨h.bel.trans (hb.mono (by omega)),blk_kept h.l hk (by simp),blk_kept h.r hk (by simp),blk_kept h.s hk (by simp),ha⟩
theorem MadeI.calls {w W:World}{A0:Option Addr}{l:List Int}{c0 at_:Nat}{vn vt vp:Value}(h:MadeI w A0 l.length c0 at_ vn vt vp W) (hr:Kd.C (Kd.int .u8) w A0 l.length l) (n:Int) (hn:n≠0) (hat:at_<1000000) (hu:∀x∈l,0≤x∧x≤255):
 Calls Try.prog 29 #[.int .i64 n,.pointer (some ⟨w.heap.size+3,0,none⟩),.pointer (some ⟨w.heap.size,0,none⟩)] W fun e w'=>e= .returned (.int .i64 (mPick l at_ n))∧Aside0 (MadeI w A0 l.length c0 (at_+1) vn vt vp w')∧Aside0 (Kept W w' (fun k=>k=w.heap.size+3)):=by
 refine(pick_any l A0 c0 at_ n w.heap.size (w.heap.size+3) W (by omega) ((aG h.l 0).trans rfl) h.a (fun W' hk=>?_) hn hat hu).mono ?_
 ·refine Kd.C_kept_came (Kd.heap_int _) hr h.bel (S:=fun k=>k=w.heap.size+3) (fun k hk=>by omega) W' hk
 ·rintro e w' ⟨rfl,hk,ha,hb⟩
  exact⟨rfl,⟨h.pick hk.out ha.out hb.out⟩,hk⟩
theorem miStr:(Try.prog.info? 9).map (fun i=>(i.zero,i.size,i.bytes))=some (some (.string ⟨#[]⟩),1,16):=by kernel_rfl
theorem miSym:(Try.prog.info? 43).map (fun i=>(i.zero,i.size,i.bytes))=some (some (.agg #[.bool false,.int .i64 0]),2,16):=by kernel_rfl
theorem miTok:(Try.prog.info? 72).map (fun i=>(i.zero,i.size,i.bytes))=some (some (.agg #[.string ⟨#[]⟩,.int .i64 0,.string ⟨#[]⟩,.slice none 0 0,.int .i64 0,.int .i64 0,.slice none 0 0]),7,104):=by kernel_rfl
theorem miProd:(Try.prog.info? 35).map (fun i=>(i.zero,i.size,i.bytes))=some (some (.agg #[.int .i64 0,.slice none 0 0]),2,32):=by kernel_rfl
section
variable {w W W':World}{A0:Option Addr}{n0 c0 at_:Nat}{vn vt vp:Value}
theorem MadeI.below (h:MadeI w A0 n0 c0 at_ vn vt vp W) (hb:Below W.heap.size W W'):MadeI w A0 n0 c0 at_ vn vt vp W':=
 ⟨h.bel.trans (hb.mono h.bel.size),(hb.block _ (bN h.l)).trans h.l,(hb.block _ (bN h.r)).trans h.r,(hb.block _ (bN h.s)).trans h.s,(hb.block _ (bN h.a)).trans h.a⟩
theorem MadeI.below4 (h:MadeI w A0 n0 c0 at_ vn vt vp W) (hb:Below (w.heap.size+4) W W'):MadeI w A0 n0 c0 at_ vn vt vp W':=
 ⟨h.bel.trans (hb.mono (by omega)),(hb.block _ (by omega)).trans h.l,(hb.block _ (by omega)).trans h.r,(hb.block _ (by omega)).trans h.s,(hb.block _ (by omega)).trans h.a⟩
theorem MadeI.size (h:MadeI w A0 n0 c0 at_ vn vt vp W):w.heap.size+4≤W.heap.size:=bN h.a
theorem MadeI.put0 (h:MadeI w A0 n0 c0 at_ vn vt vp W) (v:Value):MadeI w A0 n0 c0 at_ v vt vp (W.setCell ⟨w.heap.size+2,0,none⟩ v):=
 ⟨aL h.bel (by simp),blk_far h.l (by simp) _,blk_far h.r (by simp) _,blk_put h.s 0 v rfl,blk_far h.a (by simp) _⟩
theorem MadeI.put1 (h:MadeI w A0 n0 c0 at_ vn vt vp W) (v:Value):MadeI w A0 n0 c0 at_ vn v vp (W.setCell ⟨w.heap.size+2,1,none⟩ v):=
 ⟨aL h.bel (by simp),blk_far h.l (by simp) _,blk_far h.r (by simp) _,blk_put h.s 1 v rfl,blk_far h.a (by simp) _⟩
theorem MadeI.put4 (h:MadeI w A0 n0 c0 at_ vn vt vp W) (v:Value):MadeI w A0 n0 c0 at_ vn vt v (W.setCell ⟨w.heap.size+2,4,none⟩ v):=
 ⟨aL h.bel (by simp),blk_far h.l (by simp) _,blk_far h.r (by simp) _,blk_put h.s 4 v rfl,blk_far h.a (by simp) _⟩
end
theorem set5_kept (W:World) (g:Nat) (v0 v1 v2 v3 v4:Value):Kept W (((((W.setCell ⟨g,0,none⟩ v0).setCell ⟨g,1,none⟩ v1).setCell ⟨g,2,none⟩ v2).setCell ⟨g,3,none⟩ v3).setCell ⟨g,4,none⟩ v4) (fun k=>k=g):=by
 have h0:=Kept.setCell (Kept.refl W (fun k=>k=g)) (p:=⟨g,0,none⟩) (.inl rfl) v0;have h1:=Kept.setCell h0 (p:=⟨g,1,none⟩) (.inl rfl) v1;have h2:=Kept.setCell h1 (p:=⟨g,2,none⟩) (.inl rfl) v2;have h3:=Kept.setCell h2 (p:=⟨g,3,none⟩) (.inl rfl) v3;exact Kept.setCell h3 (p:=⟨g,4,none⟩) (.inl rfl) v4
theorem set5_below {w W:World}{g:Nat}(h:Below w.heap.size w W) (hg:w.heap.size≤g) (v0 v1 v2 v3 v4:Value):Below w.heap.size w (((((W.setCell ⟨g,0,none⟩ v0).setCell ⟨g,1,none⟩ v1).setCell ⟨g,2,none⟩ v2).setCell ⟨g,3,none⟩ v3).setCell ⟨g,4,none⟩ v4):=by
 have h0:=aL (j:=0) (v:=v0) h hg;have h1:=aL (j:=1) (v:=v1) h0 hg;have h2:=aL (j:=2) (v:=v2) h1 hg;have h3:=aL (j:=3) (v:=v3) h2 hg;exact aL (j:=4) (v:=v4) h3 hg
theorem name_at (i:Nat) (h:i<5):([Value.string ⟨#[97]⟩,Value.string ⟨#[98]⟩,Value.string ⟨#[99]⟩,Value.string ⟨#[100]⟩,Value.string ⟨#[101]⟩]:List Value)[i]?=some (.string (mNames.getD i ⟨#[]⟩)):=by
 match i,h with
 |0,_=>rfl
 |1,_=>rfl
 |2,_=>rfl
 |3,_=>rfl
 |4,_=>rfl
theorem text_at (i:Nat) (h:i<4):([Value.string ⟨#[120]⟩,Value.string ⟨#[121]⟩,Value.string ⟨#[122]⟩,Value.string ⟨#[119]⟩]:List Value)[i]?=some (.string (mTexts.getD i ⟨#[]⟩)):=by
 match i,h with
 |0,_=>rfl
 |1,_=>rfl
 |2,_=>rfl
 |3,_=>rfl
theorem take_next {α:Type}(xs:List α) (d:α) (i:Nat) (h:i<xs.length):xs.take i++ [xs.getD i d]=xs.take (i+1):=by
 rw [List.take_add_one,List.getD_eq_getElem?_getD,List.getElem?_eq_getElem h];rfl
set_option maxHeartbeats 4000000 in
set_option maxRecDepth 100000 in
theorem regletlaw13_Made.calls (k:Nat) (A0:Option Addr) (c0:Nat) (l0:List Int) (r1:List ByteArray) (r2:List S72) (r3 r4:Int) (r5:List S35) (w:World) (hr0:Kd.C (Kd.int .u8) w A0 l0.length l0) (hc0:l0.length≤c0) (h:regletlaw13_Made.f k l0=some (r1,r2,r3,r4,r5)):
 Calls Try.prog 13 #[.slice A0 l0.length c0] w fun e w'=>∃v0_ v1_ v2_:Value,e= .returned (.agg #[v0_,v1_,.int .i64 r3,.int .i64 r4,v2_])∧Kd.R Kd.string 9 w' w.heap.size (fun _=>True) v0_ r1∧Kd.R k72 72 w' w.heap.size (fun _=>True) v1_ r2∧Kd.S k35 35 w' w.heap.size (fun _=>True) v2_ r5∧Below w.heap.size w w':=by
 unfold regletlaw13_Made.f at h
 split at h
 case isFalse=>simp at h
 rename_i hall
 have hu:∀x∈l0,0≤x∧x≤255:=fun x hx=>of_decide_eq_true (List.all_eq_true.1 hall x hx)
 obtain⟨h1,h2⟩:=Prod.mk.inj (Option.some.inj h);obtain⟨h2,h3⟩:=Prod.mk.inj h2;obtain⟨h3,h4⟩:=Prod.mk.inj h3;obtain⟨h4,h5⟩:=Prod.mk.inj h4;subst h1 h2 h3 h4 h5;have HU:=aM hu;have HR0:=aM hr0;clear h hall hu hr0 hc0 h2 h3 h4
 have hI0:MadeI w A0 l0.length c0 0 (.slice none 0 0) (.slice none 0 0) (.slice none 0 0) ((((w.alloc (.cells #[.slice A0 l0.length c0] 39)).alloc (.cells #[.slice none 0 0,.slice none 0 0,.int .i64 0,.int .i64 0,.slice none 0 0] 26)).alloc (.cells #[.slice none 0 0,.slice none 0 0,.int .i64 0,.int .i64 0,.slice none 0 0] 26)).alloc (.cells #[.int .i64 0] 3)):=by
  refine⟨aN (aN (aN (aN (Below.refl _ w) _) _) _) _,?_,?_,?_,?_⟩
  ·exact aI (aI (aI (heap_alloc_new w _) _) _) _
  ·have h:=heap_alloc_new (w.alloc (.cells #[.slice A0 l0.length c0] 39)) (.cells #[.slice none 0 0,.slice none 0 0,.int .i64 0,.int .i64 0,.slice none 0 0] 26)
   rw [World.size_alloc] at h;exact aI (aI h _) _
  ·have h:=heap_alloc_new ((w.alloc (.cells #[.slice A0 l0.length c0] 39)).alloc (.cells #[.slice none 0 0,.slice none 0 0,.int .i64 0,.int .i64 0,.slice none 0 0] 26)) (.cells #[.slice none 0 0,.slice none 0 0,.int .i64 0,.int .i64 0,.slice none 0 0] 26)
   rw [World.size_alloc,World.size_alloc] at h;exact aI h _
  ·have h:=heap_alloc_new (((w.alloc (.cells #[.slice A0 l0.length c0] 39)).alloc (.cells #[.slice none 0 0,.slice none 0 0,.int .i64 0,.int .i64 0,.slice none 0 0] 26)).alloc (.cells #[.slice none 0 0,.slice none 0 0,.int .i64 0,.int .i64 0,.slice none 0 0] 26)) (.cells #[.int .i64 0] 3)
   rw [World.size_alloc,World.size_alloc,World.size_alloc] at h;exact h
 have HI0:=aM hI0;clear hI0;have eg:∀args w,(callFunc 29 args).run Try.prog w= .ok (.enter 29 args) w:=enters_of Try.func29 (by kernel_rfl) rfl;have hp0:=mPick_lt HU.out 0 (n:=5) (by decide);have hp1:=mPick_lt HU.out 1 (n:=4) (by decide);have hp2:=mPick_lt HU.out 2 (n:=10) (by decide);obtain⟨m,em,hm1,hm5⟩:∃m:Nat,1+mPick l0 0 5=(m:Int)∧1≤m∧m≤5:=⟨(1+mPick l0 0 5).toNat,by omega,by omega,by omega⟩;obtain⟨q,eq_,hq1,hq4⟩:∃q:Nat,1+mPick l0 1 4=(q:Int)∧1≤q∧q≤4:=⟨(1+mPick l0 1 4).toNat,by omega,by omega,by omega⟩;obtain⟨c,ec,hc1,hc10⟩:∃c:Nat,1+mPick l0 2 10=(c:Int)∧1≤c∧c≤10:=⟨(1+mPick l0 2 10).toNat,by omega,by omega,by omega⟩;simp only [em,eq_,ec,Int.toNat_natCast];have EM:=aM em;have EQ:=aM eq_;have EC:=aM ec;clear em eq_ ec hp0 hp1 hp2;go_enter Try.func13,Try.ntmps13
 go_upto_region 4 with fail
 simp only [Nat.add_assoc,Nat.reduceAdd];generalize ((((w.alloc (.cells #[.slice A0 l0.length c0] 39)).alloc (.cells #[.slice none 0 0,.slice none 0 0,.int .i64 0,.int .i64 0,.slice none 0 0] 26)).alloc (.cells #[.slice none 0 0,.slice none 0 0,.int .i64 0,.int .i64 0,.slice none 0 0] 26)).alloc (.cells #[.int .i64 0] 3))=W0 at HI0 ⊢
 go_cut [6,7] from 14 (fun s6 s7 wc=>s6= .int .i64 (m:Int)∧s7= .int .i64 (q:Int)∧Aside0 (MadeI w A0 l0.length c0 2 (.slice none 0 0) (.slice none 0 0) (.slice none 0 0) wc))
 case first=>
  have P1:=aM (HI0.out.calls HR0.out 5 (by decide) (by decide) HU.out);have hw1:IntKind.i64.wrap (1+mPick l0 0 5)=1+mPick l0 0 5:=by have:=mPick_lt HU.out 0 (n:=5) (by decide);rw [IntKind.wrap_i64];omega
  have hw2:IntKind.i64.wrap (1+mPick l0 1 4)=1+mPick l0 1 4:=by have:=mPick_lt HU.out 1 (n:=4) (by decide);rw [IntKind.wrap_i64];omega
  go_wp2_with (first
   |(go_at_fn 29;(with_reducible refine P1.out.mono ?_);rintro e w1 ⟨rfl,HI1,hk1⟩;have P2:=aM (HI1.out.calls HR0.out 4 (by decide) (by decide) HU.out);clear P1)
   |(go_at_fn 29;(with_reducible refine P2.out.mono ?_);rintro e w2 ⟨rfl,HI2,hk2⟩;clear P2))
  go_meet
  case rel=>exact⟨congrArg _ EM.out,congrArg _ EQ.out,HI2⟩
 case rest=>
  obtain⟨rfl,rfl,HI2⟩:=hcut;obtain⟨w2,ew2⟩:∃w2:World,w2=wc:=⟨_,rfl⟩;subst ew2;clear HI0;have M5:=aM hm5;have Q4:=aM hq4;have C10:=aM hc10;have M1:=aM hm1;have Q1:=aM hq1;have C1:=aM hc1;clear hm5 hq4 hc10 hm1 hq1 hc1
  go_upto_region 5 with fail
  iterate 7 (first|go_values|go_skip|go_guarded|go_step|go_upon|go_back|(simp only [Int.not_lt,Int.not_le] at *;go_simp))
  go_cut [8] from 14 (fun s8 wc=>∃vn:Value,Aside0 (MadeI w A0 l0.length c0 2 vn (.slice none 0 0) (.slice none 0 0) wc)∧Aside0 (Kd.R Kd.string 9 wc (w.heap.size+4) (fun k=>w.heap.size+4≤k) vn (mNames.take m)))
  case first=>
   go_wp2
   go_loopg [8] m (fun kq v8 wr=>∃(i:Nat) (vn:Value),v8= .int .i64 i∧i≤m∧m - i≤kq∧Aside0 (MadeI w A0 l0.length c0 2 vn (.slice none 0 0) (.slice none 0 0) wr)∧Aside0 (Kd.R Kd.string 9 wr (w.heap.size+4) (fun k=>w.heap.size+4≤k) vn (mNames.take i)))
   case atStart=>exact⟨0,.slice none 0 0,rfl,by omega,by omega,HI2,⟨Kd.R_nil _ _ _ _ _⟩⟩
   case round=>
    clear HI2;obtain⟨i,vn,rfl,hi,hm,HI,HN⟩:=hrel
    by_cases hlt:i<m
    ·have d0:decide (i<m)=true:=decide_eq_true hlt
     have d1:(i<m)=True:=eq_true hlt;have HLT:=aM hlt;have HM:=aM hm;have p0:(0≤(i:Int))=True:=eq_true (by omega);have p1:((i:Int)<5)=True:=eq_true (by have:=M5.out;omega);have hwr:IntKind.i64.wrap ((i:Int)+1)=(i:Int)+1:=by rw [IntKind.wrap_i64];have:=M5.out;omega
     have H1:=aM (HI.out.below (aO (Below.refl _ wr)));have H2:=aM (H1.out.below (aN (Below.refl _ wr.drew) (.cells #[.string ⟨#[97]⟩,.string ⟨#[98]⟩,.string ⟨#[99]⟩,.string ⟨#[100]⟩,.string ⟨#[101]⟩] 9)));obtain⟨nm,enm⟩:∃nm:ByteArray,nm=mNames.getD i ⟨#[]⟩:=⟨_,rfl⟩;have c8:([Value.string ⟨#[97]⟩,Value.string ⟨#[98]⟩,Value.string ⟨#[99]⟩,Value.string ⟨#[100]⟩,Value.string ⟨#[101]⟩]:List Value)[i]?=some (.string nm):=by rw [enm];exact name_at i (by have:=M5.out;omega)
     have ENM:=aM enm;clear enm;have HS2:=aM H2.out.size;clear hlt hm hi;go_wp2
     refine start_ (n:=10) (S:=fun w'=>w'.cell? ⟨w.heap.size+2,0,none⟩=some vn) (ds:= [9]) #[F,F,F,F,F,F,F,F,F,F] (by kernel_rfl) rfl rfl ((aG HI.out.s 0).trans rfl) (fun hHeld=>?_)
     refine pure_ (i:=0) (N:=some 25) (v:=?_) (a':=?_) #[T,F,F,F,F,F,F,F,F,F] rfl rfl (by kernel_rfl) (fun _ _ _ h=>h) (Or.inl ⟨by rfl,?_⟩) ?_ ?_
     rotate_left;(intro w';go_simp;with_reducible rfl);rotate_left;(simp only [pq];rfl)
     refine pure_ (i:=3) (N:=some 28) (v:=?_) (a':=?_) #[T,F,F,T,F,F,F,F,F,F] rfl rfl (by kernel_rfl) (fun _ _ _ h=>h) (Or.inl ⟨by rfl,?_⟩) ?_ ?_
     rotate_left;(intro w';go_simp;with_reducible rfl);rotate_left;(simp only [pq];rfl)
     refine take_ (i:=1) (N:=some 26) (v:=?_) (a':=?_) #[T,T,F,T,F,F,F,F,F,F] rfl rfl (by kernel_rfl) (fun _ _ _ h=>h) (Or.inl ⟨by rfl,?_⟩) hHeld ?_ ?_
     rotate_left
     ·intro w' s0
      go_simp
      with_reducible rfl
     rotate_left
     ·simp only [pq]
      rfl
     refine one_ (i:=2) (N:=some 27) #[T,T,T,T,F,F,F,F,F,F] rfl rfl (by kernel_rfl) (by decide) (fun K hK=>?_)
     refine value_ (w1:=?_) (v:=?_) (by rfl) rfl ?_ ?_
     rotate_left 2
     ·go_simp
      constructor
      ·rfl
      ·rfl
     refine hK.out _ _ ((aG H2.out.s 0).trans rfl) (fun hHeld=>?_)
     clear hK K;refine norm_ (a':=?_) ?_ ?_
     rotate_left
     ·show Act.put _ (some 27) _=_
      simp only [pq];rfl
     refine pure_ (i:=4) (N:=some 29) (v:=?_) (a':=?_) #[T,T,T,T,T,F,F,F,F,F] rfl rfl (by kernel_rfl) (fun _ _ _ h=>h) (Or.inl ⟨by rfl,?_⟩) ?_ ?_
     rotate_left;(intro w';go_simp;with_reducible rfl);rotate_left;(simp only [pq];rfl)
     refine one_ (i:=5) (N:=some 30) #[T,T,T,T,T,T,F,F,F,F] rfl rfl (by kernel_rfl) (by decide) (fun K hK=>?_)
     refine value_ (w1:=?_) (v:=?_) (by rfl) rfl ?_ ?_
     rotate_left 2
     ·go_simp
      constructor
      ·rfl
      ·rfl
     refine hK.out _ _ (hHeld) (fun hHeld=>?_)
     clear hK K;refine norm_ (a':=?_) ?_ ?_
     rotate_left
     ·show Act.put _ (some 30) _=_
      simp only [pq];rfl
     refine one_ (i:=6) (N:=some 31) #[T,T,T,T,T,T,T,F,F,F] rfl rfl (by kernel_rfl) (by decide) (fun K hK=>?_)
     refine value_ (w1:=?_) (v:=?_) (by rfl) rfl ?_ ?_
     rotate_left 2
     ·go_simp
      constructor
      ·rfl
      ·rfl
     refine hK.out _ _ ((aG (H2.out.below (aN (Below.refl _ _) _)).s 0).trans rfl) (fun hHeld=>?_)
     clear hK K;refine norm_ (a':=?_) ?_ ?_
     rotate_left
     ·show Act.put _ (some 31) _=_
      simp only [pq];rfl
     refine one_ (i:=7) (N:=some 32) #[T,T,T,T,T,T,T,T,F,F] rfl rfl (by kernel_rfl) (by decide) (fun K hK=>?_)
     refine Kd.R_append_step Kd.string (w0:=wr.drew.alloc (.cells #[.string ⟨#[97]⟩,.string ⟨#[98]⟩,.string ⟨#[99]⟩,.string ⟨#[100]⟩,.string ⟨#[101]⟩] 9)) (w.heap.size+4) (by rfl) (.tmp 26) (.tmp 31) 22 9 (.string ⟨#[]⟩) 16 rfl Try.underlying22 miStr rfl (by decide) (by omega) vn (mNames.take i) nm [.string nm] (fun k=>w.heap.size+4≤k) (fun _=>False) rfl (by rw [World.size_alloc];rfl) rfl (fun _ hk=>hk.elim) (fun k hk=>Nat.le_trans HS2.out hk) (aA (aC HN.out) _) (Below.refl _ _) HS2.out (by have:=M5.out;have:=HLT.out;have:=List.length_take_le i mNames;omega) ?_
     intro v1 w1 ho hb hg hat;obtain⟨An,ln,cn,rfl⟩:∃An ln cn,v1= .slice An ln cn:=by obtain⟨An,cn,e⟩:=Kd.R_slice ho;exact⟨An,_,cn,e⟩
     rw [ENM.out,take_next mNames ⟨#[]⟩ i (by have:=M5.out;have:=HLT.out;show i<5;omega)] at ho;have H3:=aM (H2.out.below4 hb);have HN3:=aM ho;have f3:=aH H3.out.s 0;clear ho hb hg hat;refine hK.out _ _ ((aG H3.out.s 0).trans rfl) (fun hHeld=>?_)
     clear hK K;refine norm_ (a':=?_) ?_ ?_
     rotate_left
     ·show Act.put _ (some 32) _=_
      simp only [pq];rfl
     refine pure_ (i:=8) (N:=some 33) (v:=?_) (a':=?_) #[T,T,T,T,T,T,T,T,T,F] rfl rfl (by kernel_rfl) (fun _ _ _ h=>h) (Or.inl ⟨by rfl,?_⟩) ?_ ?_
     rotate_left;(intro w';go_simp;with_reducible rfl);rotate_left;(simp only [pq];rfl)
     refine last_ (i:=9) (N:=none) #[T,T,T,T,T,T,T,T,T,T] rfl rfl (by kernel_rfl) (by decide) (fun K hK=>?_)
     refine skip_ (w1:=?_) (by rfl) rfl ?_ ?_
     rotate_left
     ·go_simp
      rfl
     refine hK.out _ _ ?_
     clear hK K;refine done_ (by kernel_rfl) ?_
     go_wp2
     go_roundg (m - (i+1))
     case measure=>have:=HM.out;have:=HLT.out;omega
     case rel=>exact⟨i+1,_,rfl,by have:=HLT.out;omega,Nat.le_refl _,⟨H3.out.put0 _⟩,⟨Kd.R_kept HN3.out (Kept.setCell (Kept.refl _ (fun k=>k=w.heap.size+2)) (.inl rfl) _) (fun k hk=>by omega)⟩⟩
    ·obtain rfl:i=m:=by omega
     have d0:decide ((i:Int)<(i:Int))=false:=decide_eq_false (by omega);clear hlt;go_wp2
     go_meet
     case rel=>exact⟨vn,HI,HN⟩
  case rest=>
   obtain⟨vn,HI3,HN3⟩:=hcut;obtain⟨w3,ew3⟩:∃w3:World,w3=wc:=⟨_,rfl⟩;subst ew3;clear HI2;have HB3:=aM HI3.out.size;have HN3b:Aside0 (Kd.R Kd.string 9 w3 (w.heap.size+4) (fun k=>w.heap.size+4≤k∧k<w3.heap.size) vn (mNames.take m)):=⟨Kd.R_mono (Kd.R_bound HN3.out) (fun k hk=>⟨hk.2.1,hk.2.2.1⟩)⟩;clear HN3
   go_upto_region 9 with fail
   iterate 7 (first|go_values|go_skip|go_guarded|go_step|go_upon|go_back|(simp only [Int.not_lt,Int.not_le] at *;go_simp))
   go_cut [9] from 14 (fun s9 wc=>∃vt:Value,Aside0 (MadeI w A0 l0.length c0 2 vn vt (.slice none 0 0) wc)∧Aside0 (Kept w3 wc (fun k=>k<w.heap.size+4∨w3.heap.size≤k))∧Aside0 (Kd.R k72 72 wc (w.heap.size+4) (fun k=>w3.heap.size≤k) vt ((mTexts.map mTok).take q)))
   case first=>
    go_wp2
    go_loopg [9] q (fun kq v9 wr=>∃(i:Nat) (vt:Value),v9= .int .i64 i∧i≤q∧q - i≤kq∧Aside0 (MadeI w A0 l0.length c0 2 vn vt (.slice none 0 0) wr)∧Aside0 (Kept w3 wr (fun k=>k<w.heap.size+4∨w3.heap.size≤k))∧Aside0 (Kd.R k72 72 wr (w.heap.size+4) (fun k=>w3.heap.size≤k) vt ((mTexts.map mTok).take i)))
    case atStart=>exact⟨0,.slice none 0 0,rfl,by omega,by omega,HI3,⟨Kept.refl _ _⟩,⟨Kd.R_nil _ _ _ _ _⟩⟩
    case round=>
     clear HI3;obtain⟨i,vt,rfl,hi,hm,HI,HK,HT⟩:=hrel
     by_cases hlt:i<q
     ·have d0:decide (i<q)=true:=decide_eq_true hlt
      have d1:(i<q)=True:=eq_true hlt;have HLT:=aM hlt;have HM:=aM hm;have p0:(0≤(i:Int))=True:=eq_true (by omega);have p1:((i:Int)<4)=True:=eq_true (by have:=Q4.out;omega);have hwr:IntKind.i64.wrap ((i:Int)+1)=(i:Int)+1:=by rw [IntKind.wrap_i64];have:=Q4.out;omega
      have H1:=aM (HI.out.below (aO (Below.refl _ wr)));have H2:=aM (H1.out.below (aN (Below.refl _ wr.drew) (.cells #[.string ⟨#[120]⟩,.string ⟨#[121]⟩,.string ⟨#[122]⟩,.string ⟨#[119]⟩] 9)));have HK2:Aside0 (Kept w3 (wr.drew.alloc (.cells #[.string ⟨#[120]⟩,.string ⟨#[121]⟩,.string ⟨#[122]⟩,.string ⟨#[119]⟩] 9)) (fun k=>k<w.heap.size+4∨w3.heap.size≤k)):=⟨Kept.alloc (Kept.drew HK.out) _⟩;obtain⟨tx,etx⟩:∃tx:ByteArray,tx=mTexts.getD i ⟨#[]⟩:=⟨_,rfl⟩;have c8:([Value.string ⟨#[120]⟩,Value.string ⟨#[121]⟩,Value.string ⟨#[122]⟩,Value.string ⟨#[119]⟩]:List Value)[i]?=some (.string tx):=by rw [etx];exact text_at i (by have:=Q4.out;omega)
      have ETX:Aside0 (mTok tx=(mTexts.map mTok).getD i (mTok ⟨#[]⟩)):=⟨by rw [etx,List.getD_eq_getElem?_getD,List.getD_eq_getElem?_getD,List.getElem?_map,List.getElem?_eq_getElem (show i<mTexts.length by have:=Q4.out;show i<4;omega)];rfl⟩;have HS2:=aM H2.out.size;have HZ2:Aside0 (w3.heap.size≤(wr.drew.alloc (.cells #[.string ⟨#[120]⟩,.string ⟨#[121]⟩,.string ⟨#[122]⟩,.string ⟨#[119]⟩] 9)).heap.size):=⟨HK2.out.1⟩;clear hlt hm hi etx;go_wp2
      refine start_ (n:=12) (S:=fun w'=>w'.cell? ⟨w.heap.size+2,1,none⟩=some vt) (ds:= [11]) #[F,F,F,F,F,F,F,F,F,F,F,F] (by kernel_rfl) rfl rfl ((aG HI.out.s 1).trans rfl) (fun hHeld=>?_)
      refine pure_ (i:=0) (N:=some 39) (v:=?_) (a':=?_) #[T,F,F,F,F,F,F,F,F,F,F,F] rfl rfl (by kernel_rfl) (fun _ _ _ h=>h) (Or.inl ⟨by rfl,?_⟩) ?_ ?_
      rotate_left;(intro w';go_simp;with_reducible rfl);rotate_left;(simp only [pq];rfl)
      refine pure_ (i:=3) (N:=some 42) (v:=?_) (a':=?_) #[T,F,F,T,F,F,F,F,F,F,F,F] rfl rfl (by kernel_rfl) (fun _ _ _ h=>h) (Or.inl ⟨by rfl,?_⟩) ?_ ?_
      rotate_left;(intro w';go_simp;with_reducible rfl);rotate_left;(simp only [pq];rfl)
      refine take_ (i:=1) (N:=some 40) (v:=?_) (a':=?_) #[T,T,F,T,F,F,F,F,F,F,F,F] rfl rfl (by kernel_rfl) (fun _ _ _ h=>h) (Or.inl ⟨by rfl,?_⟩) hHeld ?_ ?_
      rotate_left
      ·intro w' s0
       go_simp
       with_reducible rfl
      rotate_left
      ·simp only [pq]
       rfl
      refine one_ (i:=2) (N:=some 41) #[T,T,T,T,F,F,F,F,F,F,F,F] rfl rfl (by kernel_rfl) (by decide) (fun K hK=>?_)
      refine value_ (w1:=?_) (v:=?_) (by rfl) rfl ?_ ?_
      rotate_left 2
      ·go_simp
       constructor
       ·rfl
       ·rfl
      refine hK.out _ _ ((aG H2.out.s 1).trans rfl) (fun hHeld=>?_)
      clear hK K;refine norm_ (a':=?_) ?_ ?_
      rotate_left
      ·show Act.put _ (some 41) _=_
       simp only [pq];rfl
      refine pure_ (i:=4) (N:=some 43) (v:=?_) (a':=?_) #[T,T,T,T,T,F,F,F,F,F,F,F] rfl rfl (by kernel_rfl) (fun _ _ _ h=>h) (Or.inl ⟨by rfl,?_⟩) ?_ ?_
      rotate_left;(intro w';go_simp;with_reducible rfl);rotate_left;(simp only [pq];rfl)
      refine one_ (i:=5) (N:=some 44) #[T,T,T,T,T,T,F,F,F,F,F,F] rfl rfl (by kernel_rfl) (by decide) (fun K hK=>?_)
      refine value_ (w1:=?_) (v:=?_) (by rfl) rfl ?_ ?_
      rotate_left 2
      ·go_simp
       constructor
       ·rfl
       ·rfl
      refine hK.out _ _ (hHeld) (fun hHeld=>?_)
      clear hK K;refine norm_ (a':=?_) ?_ ?_
      rotate_left
      ·show Act.put _ (some 44) _=_
       simp only [pq];rfl
      refine pure_ (i:=6) (N:=some 45) (v:=?_) (a':=?_) #[T,T,T,T,T,T,T,F,F,F,F,F] rfl rfl (by kernel_rfl) (fun _ _ _ h=>h) (Or.inl ⟨by rfl,?_⟩) ?_ ?_
      rotate_left;(intro w';go_simp;with_reducible rfl);rotate_left;(simp only [pq];rfl)
      refine pure_ (i:=7) (N:=some 46) (v:=?_) (a':=?_) #[T,T,T,T,T,T,T,T,F,F,F,F] rfl rfl (by kernel_rfl) (fun _ _ _ h=>h) (Or.inl ⟨by rfl,?_⟩) ?_ ?_
      rotate_left;(intro w';go_simp;with_reducible rfl);rotate_left;(simp only [pq];rfl)
      refine one_ (i:=8) (N:=some 47) #[T,T,T,T,T,T,T,T,T,F,F,F] rfl rfl (by kernel_rfl) (by decide) (fun K hK=>?_)
      refine value_ (w1:=?_) (v:=?_) (by rfl) rfl ?_ ?_
      rotate_left 2
      ·go_simp
       constructor
       ·rfl
       ·rfl
      refine hK.out _ _ ((aG (H2.out.below (aN (Below.refl _ _) _)).s 1).trans rfl) (fun hHeld=>?_)
      clear hK K;refine norm_ (a':=?_) ?_ ?_
      rotate_left
      ·show Act.put _ (some 47) _=_
       simp only [pq];rfl
      refine one_ (i:=9) (N:=some 48) #[T,T,T,T,T,T,T,T,T,T,F,F] rfl rfl (by kernel_rfl) (by decide) (fun K hK=>?_)
      refine Kd.R_append_step k72 (w0:=wr.drew.alloc (.cells #[.string ⟨#[120]⟩,.string ⟨#[121]⟩,.string ⟨#[122]⟩,.string ⟨#[119]⟩] 9)) (w.heap.size+4) (by rfl) (.tmp 40) (.tmp 47) 23 72 (.agg #[.string ⟨#[]⟩,.int .i64 0,.string ⟨#[]⟩,.slice none 0 0,.int .i64 0,.int .i64 0,.slice none 0 0]) 104 rfl Try.underlying23 miTok rfl (by decide) (by omega) vt ((mTexts.map mTok).take i) (mTok tx) [.string ⟨#[]⟩,.int .i64 5,.string tx,.slice none 0 0,.int .i64 0,.int .i64 0,.slice none 0 0] (fun k=>w3.heap.size≤k) (fun _=>False) rfl (by rw [World.size_alloc];rfl) (k72_mkM _ _ _ (mTok tx) (Kd.R_nil _ _ _ _ _) (Kd.R_nil _ _ _ _ _)) (fun _ hk=>hk.elim) (fun k hk=>Nat.le_trans HZ2.out hk) (aA (aC HT.out) _) (Below.refl _ _) HS2.out (by have:=Q4.out;have:=HLT.out;have:=List.length_take_le i (mTexts.map mTok);omega) ?_
      intro v1 w1 ho hb hg hat;obtain⟨An,ln,cn,rfl⟩:∃An ln cn,v1= .slice An ln cn:=by obtain⟨An,cn,e⟩:=Kd.R_slice ho;exact⟨An,_,cn,e⟩
      rw [ETX.out,take_next (mTexts.map mTok) (mTok ⟨#[]⟩) i (by have:=Q4.out;have:=HLT.out;show i<4;omega)] at ho;have H3:=aM (H2.out.below4 hb);have HK3:=aM (Kept.of_grown hg HK2.out (fun k hk=> .inl (.inr (HT.out.1 k hk))));have HT3:=aM ho;have f3:=aH H3.out.s 1;clear ho hb hg hat;refine hK.out _ _ ((aG H3.out.s 1).trans rfl) (fun hHeld=>?_)
      clear hK K;refine norm_ (a':=?_) ?_ ?_
      rotate_left
      ·show Act.put _ (some 48) _=_
       simp only [pq];rfl
      refine pure_ (i:=10) (N:=some 49) (v:=?_) (a':=?_) #[T,T,T,T,T,T,T,T,T,T,T,F] rfl rfl (by kernel_rfl) (fun _ _ _ h=>h) (Or.inl ⟨by rfl,?_⟩) ?_ ?_
      rotate_left;(intro w';go_simp;with_reducible rfl);rotate_left;(simp only [pq];rfl)
      refine last_ (i:=11) (N:=none) #[T,T,T,T,T,T,T,T,T,T,T,T] rfl rfl (by kernel_rfl) (by decide) (fun K hK=>?_)
      refine skip_ (w1:=?_) (by rfl) rfl ?_ ?_
      rotate_left
      ·go_simp
       rfl
      refine hK.out _ _ ?_
      clear hK K;refine done_ (by kernel_rfl) ?_
      go_wp2
      go_roundg (q - (i+1))
      case measure=>have:=HM.out;have:=HLT.out;omega
      case rel=>exact⟨i+1,_,rfl,by have:=HLT.out;omega,Nat.le_refl _,⟨H3.out.put1 _⟩,⟨Kept.setCell HK3.out (.inl (.inl (by simp))) _⟩,⟨Kd.R_kept HT3.out (Kept.setCell (Kept.refl _ (fun k=>k=w.heap.size+2)) (.inl rfl) _) (fun k hk=>by have:=HB3.out;omega)⟩⟩
     ·obtain rfl:i=q:=by omega
      clear hlt;go_wp2
      go_meet
      case rel=>exact⟨vt,HI,HK,HT⟩
   case rest=>
    obtain⟨vt,HI4,HK4,HT4⟩:=hcut;obtain⟨w4,ew4⟩:∃w4:World,w4=wc:=⟨_,rfl⟩;subst ew4;clear HI3;have HN4:=aM (Kd.R_kept HN3b.out HK4.out (fun k hk h=>by omega));clear HN3b
    go_upto_region 13 with fail
    have P3:=aM (HI4.out.calls HR0.out 10 (by decide) (by decide) HU.out);have hw3:IntKind.i64.wrap (1+mPick l0 2 10)=1+mPick l0 2 10:=by have:=EC.out;have:=C10.out;rw [IntKind.wrap_i64];omega
    go_cut [10] from 14 (fun s10 wc=>s10= .int .i64 (c:Int)∧Aside0 (MadeI w A0 l0.length c0 3 vn vt (.slice none 0 0) wc)∧Aside0 (Kept w4 wc (fun k=>k<w.heap.size+4∨w4.heap.size≤k)))
    case first=>
     go_wp2_with (first
      |(go_at_fn 29;(with_reducible refine P3.out.mono ?_);rintro e w5 ⟨rfl,HI5,HK5⟩;clear P3))
     go_meet
     case rel=>exact⟨congrArg _ EC.out,HI5,⟨Kept.mono HK5.out (fun k hk=> .inl (by omega))⟩⟩
    case rest=>
     obtain⟨rfl,HI5,HK5⟩:=hcut;obtain⟨w5,ew5⟩:∃w5:World,w5=wc:=⟨_,rfl⟩;subst ew5;clear P3 hw3 HI4;have HS4:Aside0 (w.heap.size+4≤w4.heap.size):=⟨by have:=HK4.out.1;have:=HB3.out;omega⟩;go_wp2
     go_loopg [10,11,12] c (fun kq v10 v11 v12 wr=>∃(i at_:Nat) (vp:Value) (acc:List S35),v10= .int .i64 (i:Int)∧i≤kq∧Aside0 (acc.length+i=c)∧Aside0 (at_+8 * i≤3+8 * c)∧Aside0 (mProds l0 m q i at_ acc=mProds l0 m q c 3 [])∧Aside0 (MadeI w A0 l0.length c0 at_ vn vt vp wr)∧Aside0 (Kept w4 wr (fun k=>k<w.heap.size+4∨w4.heap.size≤k))∧Aside0 (Kd.S k35 35 wr (w.heap.size+4) (fun k=>w4.heap.size≤k) vp acc))
     case atStart=>exact⟨c,3,.slice none 0 0,[],rfl,by omega,⟨by simp⟩,⟨by omega⟩,⟨rfl⟩,HI5,HK5,⟨Kd.S_nil _ _ _ _ _⟩⟩
     case round=>
      clear HI5 HK5;obtain⟨i,at_,vp,acc,rfl,hi,HL,HAT,HM,HI,HK,HP⟩:=hrel
      cases i with
      |zero=>
       obtain⟨An,ln,kn,rfl⟩:∃An ln kn,vn= .slice An ln kn:=by obtain⟨An,cn,e⟩:=Kd.R_slice HN4.out;exact⟨An,_,cn,e⟩
       obtain⟨At,lt,kt,rfl⟩:∃At lt kt,vt= .slice At lt kt:=by obtain⟨An,cn,e⟩:=Kd.R_slice HT4.out;exact⟨An,_,cn,e⟩
       obtain⟨Ap,lp,kp,rfl⟩:∃Ap lp kp,vp= .slice Ap lp kp:=by obtain⟨An,cn,e⟩:=Kd.S_slice HP.out;exact⟨An,_,cn,e⟩
       obtain⟨q0,q1,q2,q3,q4⟩:wr.cell? ⟨w.heap.size+2,0,none⟩=some (.slice An ln kn)∧wr.cell? ⟨w.heap.size+2,1,none⟩=some (.slice At lt kt)∧wr.cell? ⟨w.heap.size+2,2,none⟩=some (.int .i64 0)∧wr.cell? ⟨w.heap.size+2,3,none⟩=some (.int .i64 0)∧wr.cell? ⟨w.heap.size+2,4,none⟩=some (.slice Ap lp kp):=⟨(aG HI.out.s 0).trans rfl,(aG HI.out.s 1).trans rfl,(aG HI.out.s 2).trans rfl,(aG HI.out.s 3).trans rfl,(aG HI.out.s 4).trans rfl⟩;obtain⟨q5,q6,q7,q8,q9⟩:wr.cell? ⟨w.heap.size+1,0,none⟩=some (.slice none 0 0)∧wr.cell? ⟨w.heap.size+1,1,none⟩=some (.slice none 0 0)∧wr.cell? ⟨w.heap.size+1,2,none⟩=some (.int .i64 0)∧wr.cell? ⟨w.heap.size+1,3,none⟩=some (.int .i64 0)∧wr.cell? ⟨w.heap.size+1,4,none⟩=some (.slice none 0 0):=⟨(aG HI.out.r 0).trans rfl,(aG HI.out.r 1).trans rfl,(aG HI.out.r 2).trans rfl,(aG HI.out.r 3).trans rfl,(aG HI.out.r 4).trans rfl⟩;have f5:=aH HI.out.r 0;have f6:=aH HI.out.r 1;have f7:=aH HI.out.r 2;have f8:=aH HI.out.r 3;have f9:=aH HI.out.r 4;go_wp2
       refine bodyPost_ret (results_cell_row rfl _ _ (w.heap.size+1) 26 #[.slice An ln kn,.slice At lt kt,.int .i64 0,.int .i64 0,.slice Ap lp kp] (0,0) _ rfl (by refine blk_put (cs:=#[.slice An ln kn,.slice At lt kt,.int .i64 0,.int .i64 0,.slice none 0 0]) ?_ 4 _ rfl;refine blk_put (cs:=#[.slice An ln kn,.slice At lt kt,.int .i64 0,.int .i64 0,.slice none 0 0]) ?_ 3 _ rfl;refine blk_put (cs:=#[.slice An ln kn,.slice At lt kt,.int .i64 0,.int .i64 0,.slice none 0 0]) ?_ 2 _ rfl;refine blk_put (cs:=#[.slice An ln kn,.slice none 0 0,.int .i64 0,.int .i64 0,.slice none 0 0]) ?_ 1 _ rfl;refine blk_put (cs:=#[.slice none 0 0,.slice none 0 0,.int .i64 0,.int .i64 0,.slice none 0 0]) ?_ 0 _ rfl;exact HI.out.r) Try.underlying26 rfl (by kernel_rfl)) rfl ?_
       have hS34:w3.heap.size≤w4.heap.size:=HK4.out.1;refine⟨_,_,_,rfl,?_,?_,?_,?_⟩
       ·exact bL (Kd.R_mono (Kd.R_kept (Kd.R_kept HN4.out HK.out (fun k hk h=>by have:=HS4.out;omega)) (set5_kept wr _ _ _ _ _ _) (fun k hk h=>by omega)) (fun _ _=>trivial)) (by omega)
       ·exact bL (Kd.R_mono (Kd.R_kept (Kd.R_kept (Kd.R_mono (ok':=fun k=>w3.heap.size≤k∧k<w4.heap.size) (Kd.R_bound HT4.out) (fun k hk=>⟨hk.1,hk.2.2.1⟩)) HK.out (fun k hk h=>by have:=HB3.out;omega)) (set5_kept wr _ _ _ _ _ _) (fun k hk h=>by have:=HB3.out;omega)) (fun _ _=>trivial)) (by omega)
       ·have hp:=HM.out
        rw [mProds] at hp;rw [←hp];exact Kd.S_lower (Kd.S_mono (Kd.S_kept HP.out (set5_kept wr _ _ _ _ _ _) (fun k hk h=>by have:=HS4.out;omega)) (fun _ _=>trivial)) (by omega)
       ·exact set5_below HI.out.bel (by omega) _ _ _ _ _
      |succ i=>
       have d0:decide (((i+1:Nat):Int)>0)=true:=decide_eq_true (by omega);have d0b:(0<((i:Int)+1))=True:=eq_true (by omega);have P6:=aM (HI.out.calls HR0.out (m:Int) (by have:=M1.out;omega) (by have:=HAT.out;have:=C10.out;omega) HU.out);have hpn:=mPick_lt HU.out (at_+1) (n:=4) (by decide);obtain⟨cn,ecn,hcn⟩:∃cn:Nat,mPick l0 (at_+1) 4=(cn:Int)∧cn≤3:=⟨(mPick l0 (at_+1) 4).toNat,by omega,by omega⟩;have HATB:Aside0 (at_+8 * (i+1)≤83):=⟨by have:=HAT.out;have:=C10.out;omega⟩;have HCN:=aM hcn;have ECN:=aM ecn;clear hpn hcn ecn
       go_wp2_with (first
        |(go_at_fn 29;(with_reducible refine P6.out.mono ?_);rintro e w6 ⟨rfl,HI6,HK6⟩;clear P6;have HI7:=aM (HI6.out.below (aN (Below.refl _ w6) (.cells #[.int .i64 (mPick l0 at_ (m:Int)),.slice none 0 0] 35)));have P7:=aM (HI7.out.calls HR0.out 4 (by decide) (by have:=HATB.out;omega) HU.out);rw [ECN.out] at P7)
        |(go_at_fn 29;(with_reducible refine P7.out.mono ?_);rintro e w7 ⟨rfl,HI8,HK8⟩;clear P7))
       have HB8:=aM (blk_kept (heap_alloc_new w6 (.cells #[.int .i64 (mPick l0 at_ (m:Int)),.slice none 0 0] 35)) HK8.out (fun h=>by have:=HI6.out.size;omega));have HSZ6:Aside0 (wr.heap.size≤w6.heap.size∧w.heap.size+4≤wr.heap.size∧w4.heap.size≤wr.heap.size):=⟨HK6.out.1,HI.out.size,HK.out.1⟩;have HK9:Aside0 (Kept wr w7 (fun k=>k<w.heap.size+4∨wr.heap.size≤k)):=⟨Kept.then_ (Kept.alloc (Kept.mono HK6.out (fun k hk=> .inl (by omega))) (.cells #[.int .i64 (mPick l0 at_ (m:Int)),.slice none 0 0] 35)) HK8.out (fun k hk=> .inl (.inl (by omega)))⟩;clear HI7 HI6 HK6 HK8;have HQI:=aM hi;have hwi:IntKind.i64.wrap (((i+1:Nat):Int) - 1)=(i:Int):=by rw [IntKind.wrap_i64];have:=HL.out;have:=C10.out;omega
       clear hi;obtain⟨wo,ewo⟩:∃wo:World,wo=wr:=⟨_,rfl⟩;subst ewo
       go_loopg [12] cn (fun kq v12 wr=>∃(j a2:Nat) (vr:Value) (ar:List S43),v12= .int .i64 (j:Int)∧j≤kq∧Aside0 (ar.length+j=cn)∧Aside0 (a2+2 * j≤at_+2+2 * cn)∧Aside0 (mRight l0 m q j a2 ar=mRight l0 m q cn (at_+2) [])∧Aside0 (MadeI w A0 l0.length c0 a2 vn vt vp wr)∧Aside0 (wr.heap[w6.heap.size]?=some (.cells #[.int .i64 (mPick l0 at_ (m:Int)),vr] 35 (0,0)))∧Aside0 (Kept wo wr (fun k=>k<w.heap.size+4∨wo.heap.size≤k))∧Aside0 (Kd.R k43 43 wr (w.heap.size+4) (fun k=>w6.heap.size<k) vr ar))
       case atStart=>exact⟨cn,at_+2,.slice none 0 0,[],rfl,by omega,⟨by simp⟩,⟨by omega⟩,⟨rfl⟩,HI8,HB8,HK9,⟨Kd.R_nil _ _ _ _ _⟩⟩
       case round=>
        clear HI8 HB8 HK9;obtain⟨j,a2,vr,ar,rfl,hj,HJL,HA2,HMR,HI8,HB8,HK9,HR8⟩:=hrel
        cases j with
        |zero=>
         have b0:wr.cell? ⟨w6.heap.size,0,none⟩=some (.int .i64 (mPick l0 at_ (m:Int))):=(aG HB8.out 0).trans rfl;have b1:wr.cell? ⟨w6.heap.size,1,none⟩=some vr:=(aG HB8.out 1).trans rfl;have q4:wr.cell? ⟨w.heap.size+2,4,none⟩=some vp:=(aG HI8.out.s 4).trans rfl;have HPB:=aM (Kd.S_kept (Kd.S_mono (ok':=fun k=>w4.heap.size≤k∧k<wo.heap.size) (Kd.S_bound HP.out) (fun k hk=>⟨hk.1,hk.2.2.1⟩)) HK9.out (fun k hk h=>by have:=HS4.out;omega));have HKw:=aM (Kept.then_ HK.out HK9.out (fun k hk=>hk.elim (fun h=> .inl (.inl h)) (fun h=> .inl (.inr (by have:=HSZ6.out;omega)))));have HSi:=aM HI8.out.size;have HSw:Aside0 (w4.heap.size≤wr.heap.size):=⟨HKw.out.1⟩;have HACC:Aside0 (acc.length≤10):=⟨by have:=HL.out;have:=C10.out;omega⟩
         go_wp2_with (first
          |((with_reducible refine gate_builtin (b:= .append) (xs:=#[.tmp 89,.tmp 91]) rfl ?_);at_builtin;refine Kd.S_append k35 (w0:=wr) (w.heap.size+4) rfl (.tmp 89) (.tmp 91) 24 35 (.agg #[.int .i64 0,.slice none 0 0]) 32 rfl Try.underlying24 miProd rfl (by decide) (by omega) vp acc (⟨mPick l0 at_ (m:Int),ar⟩:S35) [.int .i64 (mPick l0 at_ (m:Int)),vr] (fun k=>w4.heap.size≤k) (fun k=>w6.heap.size<k) rfl rfl (k35_mkM _ _ _ (⟨mPick l0 at_ (m:Int),ar⟩:S35) HR8.out) (fun k hk=>⟨by have:=HSZ6.out;omega,fun e=>by have:=(Kd.S_R HPB.out).1 k e.symm;have:=HSZ6.out;omega⟩) (fun k hk=>Nat.le_trans HSw.out hk) (Kd.S_mono HPB.out (fun k hk=>⟨hk.1,by have:=HSZ6.out;omega⟩)) (Below.refl _ _) HSi.out (by have:=HACC.out;omega) ?_;intro v1 w10 ho hb hg hat;obtain⟨Ap,lp,kp,rfl⟩:∃An ln cn,v1= .slice An ln cn:=(by obtain⟨An,cn,e⟩:=Kd.S_slice ho;exact⟨An,_,cn,e⟩);have HI12:=aM (HI8.out.below4 hb);have HK12:=aM (Kept.of_grown hg HKw.out (fun k hk=> .inl (.inr ((Kd.S_R HPB.out).1 k hk).1)));have HS12:=aM ho;have f4:=aH HI12.out.s 4;have q4':w10.cell? ⟨w.heap.size+2,4,none⟩=some vp:=(aG HI12.out.s 4).trans rfl;clear ho hb hg hat q4 b0 b1))
         go_roundg i
         case measure=>have:=HQI.out;omega
         case rel=>exact⟨i,a2,_,acc++ [⟨mPick l0 at_ (m:Int),ar⟩],congrArg (Value.int .i64) (by unfold wrap64;have:=HACC.out;have:=HL.out;have:=C10.out;omega),Nat.le_refl _,⟨by have:=HL.out;simp;omega⟩,⟨by have:=HAT.out;have:=HA2.out;have:=HCN.out;omega⟩,⟨by have h:=HM.out;rw [mProds,ECN.out,Int.toNat_natCast,←HMR.out,mRight] at h;exact h⟩,⟨HI12.out.put4 _⟩,⟨Kept.setCell HK12.out (.inl (.inl (by simp))) _⟩,⟨Kd.S_kept HS12.out (Kept.setCell (Kept.refl _ (fun k=>k=w.heap.size+2)) (.inl rfl) _) (fun k hk h=>by have:=HS4.out;omega)⟩⟩
        |succ j=>
         have d2:(0<((j:Int)+1))=True:=eq_true (by omega);have P8:=aM (HI8.out.calls HR0.out 2 (by decide) (by have:=HATB.out;have:=HA2.out;have:=HCN.out;omega) HU.out);have HJ:=aM hj;clear hj
         by_cases hz:mPick l0 a2 2=0
         ·rw [hz] at P8
          go_wp2_with (first
           |(go_at_fn 29;(with_reducible refine P8.out.mono ?_);rintro e w8 ⟨rfl,HI10,HK10⟩;clear P8))
          have HZ:=aM hz;clear hz;have HI10d:=aM (HI10.out.below (aO (Below.refl _ w8)));have P9:=aM (HI10d.out.calls HR0.out (q:Int) (by have:=Q1.out;omega) (by have:=HATB.out;have:=HA2.out;have:=HCN.out;omega) HU.out);obtain⟨x,ex⟩:∃x:Int,x=mPick l0 (a2+1) (q:Int):=⟨_,rfl⟩;rw [←ex] at P9;have EX:=aM ex;have HB10:=aM (blk_kept HB8.out HK10.out (fun h=>by have:=HSZ6.out;omega));have HR10:=aM (Kd.R_kept HR8.out HK10.out (fun k hk h=>by have:=HSZ6.out;omega));have HK12:=aM (Kept.then_ HK9.out HK10.out (fun k hk=> .inl (.inl (by omega))));have HARL:Aside0 (ar.length≤3):=⟨by have:=HJL.out;have:=HCN.out;omega⟩;clear ex;refine start_ (n:=10) (S:=fun w'=>w'.cell? ⟨w6.heap.size,1,none⟩=some vr) (ds:= [9]) #[F,F,F,F,F,F,F,F,F,F] (by kernel_rfl) rfl rfl ((aG HB10.out 1).trans rfl) (fun hHeld=>?_)
          refine pure_ (i:=0) (N:=some 70) (v:=?_) (a':=?_) #[T,F,F,F,F,F,F,F,F,F] rfl rfl (by kernel_rfl) (fun _ _ _ h=>h) (Or.inl ⟨by rfl,?_⟩) ?_ ?_
          rotate_left;(intro w';go_simp;with_reducible rfl);rotate_left;(simp only [pq];rfl)
          refine pure_ (i:=2) (N:=some 72) (v:=?_) (a':=?_) #[T,F,T,F,F,F,F,F,F,F] rfl rfl (by kernel_rfl) (fun _ _ _ h=>h) (Or.inl ⟨by rfl,?_⟩) ?_ ?_
          rotate_left;(intro w';go_simp;with_reducible rfl);rotate_left;(simp only [pq];rfl)
          refine pure_ (i:=3) (N:=some 73) (v:=?_) (a':=?_) #[T,F,T,T,F,F,F,F,F,F] rfl rfl (by kernel_rfl) (fun _ _ _ h=>h) (Or.inl ⟨by rfl,?_⟩) ?_ ?_
          rotate_left;(intro w';go_simp;with_reducible rfl);rotate_left;(simp only [pq];rfl)
          refine take_ (i:=1) (N:=some 71) (v:=?_) (a':=?_) #[T,T,T,T,F,F,F,F,F,F] rfl rfl (by kernel_rfl) (fun _ _ _ h=>h) (Or.inl ⟨by rfl,?_⟩) hHeld ?_ ?_
          rotate_left
          ·intro w' s0
           go_simp
           with_reducible rfl
          rotate_left
          ·simp only [pq]
           rfl
          refine one_ (i:=4) (N:=some 74) #[T,T,T,T,T,F,F,F,F,F] rfl rfl (by kernel_rfl) (by decide) (fun K hK=>?_)
          refine call_ 29 #[.int .i64 (q:Int),.pointer (some ⟨w.heap.size+3,0,none⟩),.pointer (some ⟨w.heap.size,0,none⟩)] (by rfl) rfl (by unfold execOp;simp [resolve,Deferred.ofValue,invoke,Act.eval,eg]) ?_
          with_reducible refine P9.out.mono ?_
          rintro e w9 ⟨rfl,HI11,HK11⟩
          refine⟨_,rfl,?_⟩
          have HB11:=aM (blk_kept (W:=w8.drew) HB10.out HK11.out (fun h=>by have:=HSZ6.out;omega));have HR11:=aM (Kd.R_kept (aC HR10.out) HK11.out (fun k hk h=>by have:=HSZ6.out;omega));have HK13:=aM (Kept.then_ (Kept.drew HK12.out) HK11.out (fun k hk=> .inl (.inl (by omega))));have HS11:=aM HI11.out.size;have HL11:Aside0 (w6.heap.size<w9.heap.size):=⟨bN HB11.out⟩;refine hK.out _ _ ((aG HB11.out 1).trans rfl) (fun hHeld=>?_)
          clear hK K;refine norm_ (a':=?_) ?_ ?_
          rotate_left
          ·show Act.put _ (some 74) _=_
           simp only [pq];rfl
          refine pure_ (i:=5) (N:=some 75) (v:=?_) (a':=?_) #[T,T,T,T,T,T,F,F,F,F] rfl rfl (by kernel_rfl) (fun _ _ _ h=>h) (Or.inl ⟨by rfl,?_⟩) ?_ ?_
          rotate_left;(intro w';go_simp;with_reducible rfl);rotate_left;(simp only [pq];rfl)
          refine one_ (i:=6) (N:=some 76) #[T,T,T,T,T,T,T,F,F,F] rfl rfl (by kernel_rfl) (by decide) (fun K hK=>?_)
          refine value_ (w1:=?_) (v:=?_) (by rfl) rfl ?_ ?_
          rotate_left 2
          ·go_simp
           constructor
           ·rfl
           ·rfl
          refine hK.out _ _ ((aG (aI HB11.out _) 1).trans rfl) (fun hHeld=>?_)
          clear hK K;refine norm_ (a':=?_) ?_ ?_
          rotate_left
          ·show Act.put _ (some 76) _=_
           simp only [pq];rfl
          refine one_ (i:=7) (N:=some 77) #[T,T,T,T,T,T,T,T,F,F] rfl rfl (by kernel_rfl) (by decide) (fun K hK=>?_)
          refine Kd.R_append_step k43 (w0:=w9) (w.heap.size+4) (by rfl) (.tmp 71) (.tmp 76) 29 43 (.agg #[.bool false,.int .i64 0]) 16 rfl Try.underlying29 miSym rfl (by decide) (by omega) vr ar (⟨true,x⟩:S43) [.bool true,.int .i64 x] (fun k=>w6.heap.size<k) (fun _=>False) rfl rfl (k43_mkM _ _ _ (⟨true,x⟩:S43)) (fun _ hk=>hk.elim) (fun k hk=>Nat.lt_of_lt_of_le HL11.out hk) HR11.out (Below.refl _ _) HS11.out (by have:=HARL.out;omega) ?_
          intro v1 w1 ho hb hg hat;obtain⟨An,ln,kn,rfl⟩:∃An ln cn,v1= .slice An ln cn:=by obtain⟨An,cn,e⟩:=Kd.R_slice ho;exact⟨An,_,cn,e⟩
          have HI12:=aM (HI11.out.below4 hb);have HB12:=aM (blk_grown HB11.out hg (fun e=>Nat.lt_irrefl _ (HR11.out.1 _ e.symm)));have HK14:=aM (Kept.of_grown hg HK13.out (fun k hk=> .inl (.inr (by have:=HR11.out.1 k hk;have:=HSZ6.out;omega))));have HR12:=aM ho;have f3:=aH HB12.out 1;clear ho hb hg hat;refine hK.out _ _ ((aG HB12.out 1).trans rfl) (fun hHeld=>?_)
          clear hK K;refine norm_ (a':=?_) ?_ ?_
          rotate_left
          ·show Act.put _ (some 77) _=_
           simp only [pq];rfl
          refine pure_ (i:=8) (N:=some 78) (v:=?_) (a':=?_) #[T,T,T,T,T,T,T,T,T,F] rfl rfl (by kernel_rfl) (fun _ _ _ h=>h) (Or.inl ⟨by rfl,?_⟩) ?_ ?_
          rotate_left;(intro w';go_simp;with_reducible rfl);rotate_left;(simp only [pq];rfl)
          refine last_ (i:=9) (N:=none) #[T,T,T,T,T,T,T,T,T,T] rfl rfl (by kernel_rfl) (by decide) (fun K hK=>?_)
          refine skip_ (w1:=?_) (by rfl) rfl ?_ ?_
          rotate_left
          ·go_simp
           rfl
          refine hK.out _ _ ?_
          clear hK K;refine done_ (by kernel_rfl) ?_
          go_wp2
          go_roundg j
          case measure=>have:=HJ.out;omega
          case rel=>exact⟨j,a2+2,_,ar++ [⟨true,x⟩],congrArg (Value.int .i64) (by unfold wrap64;have:=HJL.out;have:=HCN.out;omega),Nat.le_refl _,⟨by have:=HJL.out;simp;omega⟩,⟨by have:=HA2.out;omega⟩,⟨by have h:=HMR.out;rw [mRight,if_pos HZ.out,←EX.out] at h;exact h⟩,⟨HI12.out.below4 ((Below.refl _ _).setCell (show w.heap.size+4≤w6.heap.size by have:=HSZ6.out;omega) _)⟩,⟨blk_put HB12.out 1 _ rfl⟩,⟨Kept.setCell HK14.out (.inl (.inr (show wo.heap.size≤w6.heap.size from HSZ6.out.1))) _⟩,⟨Kd.R_kept HR12.out (Kept.setCell (Kept.refl _ (fun k=>k=w6.heap.size)) (.inl rfl) _) (fun k hk h=>by omega)⟩⟩
         ·have hzd:(mPick l0 a2 2=0)=False:=eq_false hz
          go_wp2_with (first
           |(go_at_fn 29;(with_reducible refine P8.out.mono ?_);rintro e w8 ⟨rfl,HI10,HK10⟩;clear P8))
          have HZ:=aM hz;clear hz;have HI10d:=aM (HI10.out.below (aO (Below.refl _ w8)));have P9:=aM (HI10d.out.calls HR0.out (m:Int) (by have:=M1.out;omega) (by have:=HATB.out;have:=HA2.out;have:=HCN.out;omega) HU.out);obtain⟨x,ex⟩:∃x:Int,x=mPick l0 (a2+1) (m:Int):=⟨_,rfl⟩;rw [←ex] at P9;have EX:=aM ex;have HB10:=aM (blk_kept HB8.out HK10.out (fun h=>by have:=HSZ6.out;omega));have HR10:=aM (Kd.R_kept HR8.out HK10.out (fun k hk h=>by have:=HSZ6.out;omega));have HK12:=aM (Kept.then_ HK9.out HK10.out (fun k hk=> .inl (.inl (by omega))));have HARL:Aside0 (ar.length≤3):=⟨by have:=HJL.out;have:=HCN.out;omega⟩;clear ex;refine start_ (n:=10) (S:=fun w'=>w'.cell? ⟨w6.heap.size,1,none⟩=some vr) (ds:= [9]) #[F,F,F,F,F,F,F,F,F,F] (by kernel_rfl) rfl rfl ((aG HB10.out 1).trans rfl) (fun hHeld=>?_)
          refine pure_ (i:=0) (N:=some 79) (v:=?_) (a':=?_) #[T,F,F,F,F,F,F,F,F,F] rfl rfl (by kernel_rfl) (fun _ _ _ h=>h) (Or.inl ⟨by rfl,?_⟩) ?_ ?_
          rotate_left;(intro w';go_simp;with_reducible rfl);rotate_left;(simp only [pq];rfl)
          refine pure_ (i:=2) (N:=some 81) (v:=?_) (a':=?_) #[T,F,T,F,F,F,F,F,F,F] rfl rfl (by kernel_rfl) (fun _ _ _ h=>h) (Or.inl ⟨by rfl,?_⟩) ?_ ?_
          rotate_left;(intro w';go_simp;with_reducible rfl);rotate_left;(simp only [pq];rfl)
          refine pure_ (i:=3) (N:=some 82) (v:=?_) (a':=?_) #[T,F,T,T,F,F,F,F,F,F] rfl rfl (by kernel_rfl) (fun _ _ _ h=>h) (Or.inl ⟨by rfl,?_⟩) ?_ ?_
          rotate_left;(intro w';go_simp;with_reducible rfl);rotate_left;(simp only [pq];rfl)
          refine take_ (i:=1) (N:=some 80) (v:=?_) (a':=?_) #[T,T,T,T,F,F,F,F,F,F] rfl rfl (by kernel_rfl) (fun _ _ _ h=>h) (Or.inl ⟨by rfl,?_⟩) hHeld ?_ ?_
          rotate_left
          ·intro w' s0
           go_simp
           with_reducible rfl
          rotate_left
          ·simp only [pq]
           rfl
          refine one_ (i:=4) (N:=some 83) #[T,T,T,T,T,F,F,F,F,F] rfl rfl (by kernel_rfl) (by decide) (fun K hK=>?_)
          refine call_ 29 #[.int .i64 (m:Int),.pointer (some ⟨w.heap.size+3,0,none⟩),.pointer (some ⟨w.heap.size,0,none⟩)] (by rfl) rfl (by unfold execOp;simp [resolve,Deferred.ofValue,invoke,Act.eval,eg]) ?_
          with_reducible refine P9.out.mono ?_
          rintro e w9 ⟨rfl,HI11,HK11⟩
          refine⟨_,rfl,?_⟩
          have HB11:=aM (blk_kept (W:=w8.drew) HB10.out HK11.out (fun h=>by have:=HSZ6.out;omega));have HR11:=aM (Kd.R_kept (aC HR10.out) HK11.out (fun k hk h=>by have:=HSZ6.out;omega));have HK13:=aM (Kept.then_ (Kept.drew HK12.out) HK11.out (fun k hk=> .inl (.inl (by omega))));have HS11:=aM HI11.out.size;have HL11:Aside0 (w6.heap.size<w9.heap.size):=⟨bN HB11.out⟩;refine hK.out _ _ ((aG HB11.out 1).trans rfl) (fun hHeld=>?_)
          clear hK K;refine norm_ (a':=?_) ?_ ?_
          rotate_left
          ·show Act.put _ (some 83) _=_
           simp only [pq];rfl
          refine pure_ (i:=5) (N:=some 84) (v:=?_) (a':=?_) #[T,T,T,T,T,T,F,F,F,F] rfl rfl (by kernel_rfl) (fun _ _ _ h=>h) (Or.inl ⟨by rfl,?_⟩) ?_ ?_
          rotate_left;(intro w';go_simp;with_reducible rfl);rotate_left;(simp only [pq];rfl)
          refine one_ (i:=6) (N:=some 85) #[T,T,T,T,T,T,T,F,F,F] rfl rfl (by kernel_rfl) (by decide) (fun K hK=>?_)
          refine value_ (w1:=?_) (v:=?_) (by rfl) rfl ?_ ?_
          rotate_left 2
          ·go_simp
           constructor
           ·rfl
           ·rfl
          refine hK.out _ _ ((aG (aI HB11.out _) 1).trans rfl) (fun hHeld=>?_)
          clear hK K;refine norm_ (a':=?_) ?_ ?_
          rotate_left
          ·show Act.put _ (some 85) _=_
           simp only [pq];rfl
          refine one_ (i:=7) (N:=some 86) #[T,T,T,T,T,T,T,T,F,F] rfl rfl (by kernel_rfl) (by decide) (fun K hK=>?_)
          refine Kd.R_append_step k43 (w0:=w9) (w.heap.size+4) (by rfl) (.tmp 80) (.tmp 85) 29 43 (.agg #[.bool false,.int .i64 0]) 16 rfl Try.underlying29 miSym rfl (by decide) (by omega) vr ar (⟨false,x⟩:S43) [.bool false,.int .i64 x] (fun k=>w6.heap.size<k) (fun _=>False) rfl rfl (k43_mkM _ _ _ (⟨false,x⟩:S43)) (fun _ hk=>hk.elim) (fun k hk=>Nat.lt_of_lt_of_le HL11.out hk) HR11.out (Below.refl _ _) HS11.out (by have:=HARL.out;omega) ?_
          intro v1 w1 ho hb hg hat;obtain⟨An,ln,kn,rfl⟩:∃An ln cn,v1= .slice An ln cn:=by obtain⟨An,cn,e⟩:=Kd.R_slice ho;exact⟨An,_,cn,e⟩
          have HI12:=aM (HI11.out.below4 hb);have HB12:=aM (blk_grown HB11.out hg (fun e=>Nat.lt_irrefl _ (HR11.out.1 _ e.symm)));have HK14:=aM (Kept.of_grown hg HK13.out (fun k hk=> .inl (.inr (by have:=HR11.out.1 k hk;have:=HSZ6.out;omega))));have HR12:=aM ho;have f3:=aH HB12.out 1;clear ho hb hg hat;refine hK.out _ _ ((aG HB12.out 1).trans rfl) (fun hHeld=>?_)
          clear hK K;refine norm_ (a':=?_) ?_ ?_
          rotate_left
          ·show Act.put _ (some 86) _=_
           simp only [pq];rfl
          refine pure_ (i:=8) (N:=some 87) (v:=?_) (a':=?_) #[T,T,T,T,T,T,T,T,T,F] rfl rfl (by kernel_rfl) (fun _ _ _ h=>h) (Or.inl ⟨by rfl,?_⟩) ?_ ?_
          rotate_left;(intro w';go_simp;with_reducible rfl);rotate_left;(simp only [pq];rfl)
          refine last_ (i:=9) (N:=none) #[T,T,T,T,T,T,T,T,T,T] rfl rfl (by kernel_rfl) (by decide) (fun K hK=>?_)
          refine skip_ (w1:=?_) (by rfl) rfl ?_ ?_
          rotate_left
          ·go_simp
           rfl
          refine hK.out _ _ ?_
          clear hK K;refine done_ (by kernel_rfl) ?_
          go_wp2
          go_roundg j
          case measure=>have:=HJ.out;omega
          case rel=>exact⟨j,a2+2,_,ar++ [⟨false,x⟩],congrArg (Value.int .i64) (by unfold wrap64;have:=HJL.out;have:=HCN.out;omega),Nat.le_refl _,⟨by have:=HJL.out;simp;omega⟩,⟨by have:=HA2.out;omega⟩,⟨by have h:=HMR.out;rw [mRight,if_neg HZ.out,←EX.out] at h;exact h⟩,⟨HI12.out.below4 ((Below.refl _ _).setCell (show w.heap.size+4≤w6.heap.size by have:=HSZ6.out;omega) _)⟩,⟨blk_put HB12.out 1 _ rfl⟩,⟨Kept.setCell HK14.out (.inl (.inr (show wo.heap.size≤w6.heap.size from HSZ6.out.1))) _⟩,⟨Kd.R_kept HR12.out (Kept.setCell (Kept.refl _ (fun k=>k=w6.heap.size)) (.inl rfl) _) (fun k hk h=>by omega)⟩⟩
def dAll (ps:List S35) (rule:Int) (i:Nat):List Int:=((List.range i).filter (fun j:Nat=>decide ((rd_T35 ps (j:Int)).f0=rule))).map (fun j:Nat=>(j:Int))
theorem dAll_yes {ps:List S35}{rule:Int}{i:Nat}(h:(rd_T35 ps (i:Int)).f0=rule):dAll ps rule (i+1)=dAll ps rule i++ [(i:Int)]:=by
 unfold dAll;rw [List.range_succ,List.filter_append];simp [h]
theorem dAll_no {ps:List S35}{rule:Int}{i:Nat}(h:¬(rd_T35 ps (i:Int)).f0=rule):dAll ps rule (i+1)=dAll ps rule i:=by
 unfold dAll;rw [List.range_succ,List.filter_append];simp [h]
theorem dAll_length (ps:List S35) (rule:Int) (i:Nat):(dAll ps rule i).length≤i:=by
 unfold dAll;rw [List.length_map];exact Nat.le_trans (List.length_filter_le _ _) (by simp)
theorem dAll_mem {ps:List S35}{rule:Int}{i:Nat}{x:Int}(h:x∈dAll ps rule i):0≤x∧x<(i:Int)∧(rd_T35 ps x).f0=rule:=by
 unfold dAll at h
 obtain⟨j,hj,rfl⟩:=List.mem_map.1 h;obtain⟨h1,h2⟩:=List.mem_filter.1 hj;exact⟨by omega,by have:=List.mem_range.1 h1;omega,of_decide_eq_true h2⟩
def dK (L:List Int) (at_ n:Nat):Int:=if at_<L.length then if at_<60 then Int.tmod (L.getD at_ 0) (n:Int) else(n:Int) - 1 else(n:Int) - 1
theorem dK_lt {L:List Int}(hu:∀x∈L,0≤x∧x≤255) (at_:Nat) {n:Nat}(hn:0<n):0≤dK L at_ n∧dK L at_ n<(n:Int):=by
 unfold dK
 split
 ·split
  ·rename_i h _
   have hx:=hu (L.getD at_ 0) (by rw [List.getD_eq_getElem?_getD,List.getElem?_eq_getElem h];exact List.getElem_mem _);exact⟨Int.tmod_nonneg _ hx.1,Int.tmod_lt_of_pos _ (by omega)⟩
  ·omega
 ·omega
def drvL (next:Int→Nat→(List Int×Bool)×Nat):List S43→List Int→Nat→(List Int×Bool)×Nat
 | [],out,at_=>((out,true),at_)
 |x::xs,out,at_=>if x.f0=true then drvL next xs (out++ [x.f1]) at_ else
  if(next x.f1 at_).1.2=true then if out.length+(next x.f1 at_).1.1.length>60 then(([],false),(next x.f1 at_).2) else drvL next xs (out++(next x.f1 at_).1.1) (next x.f1 at_).2 else(([],false),(next x.f1 at_).2)
def drv (ps:List S35) (L:List Int):Nat→Int→Nat→Nat→(List Int×Bool)×Nat
 |0,_,_,at_=>(([],false),at_)
 |f+1,rule,deep,at_=>if(dAll ps rule ps.length).length=0∨10<deep then(([],false),at_) else
  drvL (fun r a=>drv ps L f r (deep+1) a) (rd_T35 ps ((dAll ps rule ps.length).getD (dK L at_ (dAll ps rule ps.length).length).toNat 0)).f1 [] (at_+1)
theorem drvL_at {next:Int→Nat→(List Int×Bool)×Nat}{B:Nat}(h:∀r a,(next r a).2≤a+B):∀(l:List S43) (out:List Int) (at_:Nat),(drvL next l out at_).2≤at_+l.length * B
 | [],out,at_=>by simp [drvL]
 |x::xs,out,at_=>by
  unfold drvL
  have e:(x::xs).length * B=B+xs.length * B:=by rw [List.length_cons,Nat.succ_mul];omega
  rw [e];have h1:=h x.f1 at_
  split
  ·have:=drvL_at h xs (out++ [x.f1]) at_;omega
  ·split
   ·split
    ·simp only;omega
    ·have:=drvL_at h xs (out++(next x.f1 at_).1.1) (next x.f1 at_).2;omega
   ·simp only;omega
theorem drv_at {ps:List S35}{L:List Int}(hr:∀p∈ps,p.f1.length≤10):∀(f:Nat) (rule:Int) (deep at_:Nat),(drv ps L f rule deep at_).2≤at_+11 ^ f
 |0,rule,deep,at_=>by simp [drv]
 |f+1,rule,deep,at_=>by
  unfold drv
  split
  ·exact Nat.le_add_right _ _
  ·have h1:=drvL_at (next:=fun r a=>drv ps L f r (deep+1) a) (B:=11 ^ f) (fun r a=>drv_at hr f r (deep+1) a) (rd_T35 ps ((dAll ps rule ps.length).getD (dK L at_ (dAll ps rule ps.length).length).toNat 0)).f1 [] (at_+1)
   have h2:(rd_T35 ps ((dAll ps rule ps.length).getD (dK L at_ (dAll ps rule ps.length).length).toNat 0)).f1.length≤10:=by
    generalize (dAll ps rule ps.length).getD (dK L at_ (dAll ps rule ps.length).length).toNat 0=i
    unfold rd_T35
    rw [List.getD_eq_getElem?_getD]
    cases hg:ps[i.toNat]? with
    |none=>exact Nat.zero_le _
    |some p=>exact hr p (List.mem_of_getElem? hg)
   have h3:1≤11 ^ f:=Nat.one_le_pow _ _ (by decide);have h4:(rd_T35 ps ((dAll ps rule ps.length).getD (dK L at_ (dAll ps rule ps.length).length).toNat 0)).f1.length * 11 ^ f≤10 * 11 ^ f:=Nat.mul_le_mul_right _ h2;rw [Nat.pow_succ];omega
theorem drvL_len {next:Int→Nat→(List Int×Bool)×Nat}:∀(l:List S43) (out:List Int) (at_ i:Nat),out.length≤60+i→(drvL next l out at_).1.1.length≤60+i+l.length
 | [],out,at_,i,h=>by simpa [drvL] using h
 |x::xs,out,at_,i,h=>by
  unfold drvL
  simp only [List.length_cons]
  split
  ·have:=drvL_len (next:=next) xs (out++ [x.f1]) at_ (i+1) (by simp;omega);omega
  ·split
   ·split
    ·simp
    ·rename_i hs
     have:=drvL_len (next:=next) xs (out++(next x.f1 at_).1.1) (next x.f1 at_).2 i (by simp;omega);omega
   ·simp
theorem drv_len {ps:List S35}{L:List Int}(hr:∀p∈ps,p.f1.length≤10) (f:Nat) (rule:Int) (deep at_:Nat):(drv ps L f rule deep at_).1.1.length≤70:=by
 cases f with
 |zero=>simp [drv]
 |succ f=>
  unfold drv
  split
  ·simp
  ·have h1:=drvL_len (next:=fun r a=>drv ps L f r (deep+1) a) (rd_T35 ps ((dAll ps rule ps.length).getD (dK L at_ (dAll ps rule ps.length).length).toNat 0)).f1 [] (at_+1) 0 (by simp)
   have h2:(rd_T35 ps ((dAll ps rule ps.length).getD (dK L at_ (dAll ps rule ps.length).length).toNat 0)).f1.length≤10:=by
    generalize (dAll ps rule ps.length).getD (dK L at_ (dAll ps rule ps.length).length).toNat 0=i
    unfold rd_T35
    rw [List.getD_eq_getElem?_getD]
    cases hg:ps[i.toNat]? with
    |none=>exact Nat.zero_le _
    |some p=>exact hr p (List.mem_of_getElem? hg)
   omega
theorem diInt:(Try.prog.info? 3).map (fun i=>(i.zero,i.size,i.bytes))=some (some (.int .i64 0),1,8):=by kernel_rfl
theorem kept_step {W w6 w7:World}{S:Nat→Prop}(h:Kept W w6 S) (hb:Below W.heap.size w6 w7):Kept W w7 S:=⟨Nat.le_trans h.1 hb.size,fun i hi hn=>(hb.block i hi).trans (h.2 i hi hn)⟩
def derObj (A0:Option Addr) (n0 c0:Nat) (A1:Option Addr) (n1 c1:Nat) (a2 a3:Int) (A4:Option Addr) (n4 c4:Nat) (AL:Option Addr) (nL cL:Nat) (at_:Nat):Obj:=
 .cells #[.slice A0 n0 c0,.slice A1 n1 c1,.int .i64 a2,.int .i64 a3,.slice A4 n4 c4,.slice AL nL cL,.int .i64 (at_:Int)] 53 (0,0)
def DerPost (w0 W:World) (DB:Nat) (O:Nat→Obj) (res:(List Int×Bool)×Nat) (e:Ending) (w':World):Prop:=
 ∃v:Value,e= .returned (.tuple #[v,.bool res.1.2])∧Aside0 (Kd.R (Kd.int .i64) 3 w' W.heap.size (fun _=>True) v res.1.1)∧Aside0 (w'.heap[DB]?=some (O res.2))∧Aside0 (Kept W w' (fun k=>k=DB))∧Aside0 (Below w0.heap.size w0 w')
set_option maxHeartbeats 4000000 in
set_option maxRecDepth 100000 in
theorem derive_step (ps:List S35) (L:List Int) (w0:World) (DB:Nat) (A0:Option Addr) (n0 c0:Nat) (A1:Option Addr) (n1 c1:Nat) (a2 a3:Int) (A4:Option Addr) (c4:Nat) (AL:Option Addr) (cL:Nat) (hDB:w0.heap.size≤DB) (hps:Kd.C k35 w0 A4 ps.length ps) (hL:Kd.C (Kd.int .u8) w0 AL L.length L) (hu:∀x∈L,0≤x∧x≤255) (hr:∀p∈ps,p.f1.length≤10) (hps2:ps.length≤1000000)
 (rule:Int) (deep at_:Nat) (W:World) (hdeep:deep≤100) (hB:Below w0.heap.size w0 W) (hblk:W.heap[DB]?=some (derObj A0 n0 c0 A1 n1 c1 a2 a3 A4 ps.length c4 AL L.length cL at_)) (nxt:Int→Nat→(List Int×Bool)×Nat) (B:Nat) (res:(List Int×Bool)×Nat) (hlim:at_+1+10 * B≤1125899906842624) (hn:∀r a,(nxt r a).2≤a+B∧(nxt r a).1.1.length≤70)
 (hres:res=if(dAll ps rule ps.length).length=0∨10<deep then(([],false),at_) else drvL nxt (rd_T35 ps ((dAll ps rule ps.length).getD (dK L at_ (dAll ps rule ps.length).length).toNat 0)).f1 [] (at_+1))
 (hrec:¬((dAll ps rule ps.length).length=0∨10<deep)→∀(r:Int) (a:Nat) (W':World),a+B≤1125899906842624→Below w0.heap.size w0 W'→W'.heap[DB]?=some (derObj A0 n0 c0 A1 n1 c1 a2 a3 A4 ps.length c4 AL L.length cL a)→
  Calls Try.prog 21 #[.pointer (some ⟨DB,0,none⟩),.int .i64 r,.int .i64 ((deep:Int)+1)] W' (DerPost w0 W' DB (derObj A0 n0 c0 A1 n1 c1 a2 a3 A4 ps.length c4 AL L.length cL) (nxt r a))):
 Calls Try.prog 21 #[.pointer (some ⟨DB,0,none⟩),.int .i64 rule,.int .i64 (deep:Int)] W (DerPost w0 W DB (derObj A0 n0 c0 A1 n1 c1 a2 a3 A4 ps.length c4 AL L.length cL) res):=by
 have HDB:=aM hDB;have HPS:=aM hps;have HL:=aM hL;have HU:=aM hu;have HR:=aM hr;have HP2:=aM hps2;have HDEEP:=aM hdeep;have HB:=aM hB;have HBLK:=aM hblk;have HLIM:=aM hlim;have HN:=aM hn;have HRES:=aM hres;have HREC:=aM hrec;have HDBW:Aside0 (DB<W.heap.size):=⟨bN hblk⟩;clear hDB hps hL hu hr hps2 hdeep hB hblk hlim hn hres hrec;go_enter Try.func21,Try.ntmps21
 go_upto_region 2 with fail
 iterate 7 (first|go_values|go_skip|go_guarded|go_step|go_upon|go_back|(simp only [Int.not_lt,Int.not_le] at *;go_simp))
 go_cut [8,9] from 16 (fun s8 s9 wc=>Aside0 (Below W.heap.size W wc)∧Aside0 (Kd.R (Kd.int .i64) 3 wc W.heap.size (fun _=>True) s8 (dAll ps rule ps.length)))
 case first=>
  go_wp2
  go_loopg [8,9] ps.length (fun kq v8 v9 wr=>∃i:Nat,v9= .int .i64 (i:Int)∧i≤ps.length∧ps.length - i≤kq∧Aside0 (Below W.heap.size W wr)∧Aside0 (Kd.R (Kd.int .i64) 3 wr W.heap.size (fun _=>True) v8 (dAll ps rule i)))
  case atStart=>exact⟨0,rfl,by omega,by omega,⟨Below.refl _ _⟩,⟨Kd.R_nil _ _ _ _ _⟩⟩
  case round=>
   obtain⟨i,rfl,hi,hm,HBW,HA⟩:=hrel;have HBK:=aM ((HBW.out.block _ HDBW.out).trans HBLK.out);have q4:wr.cell? ⟨DB,4,none⟩=some (.slice A4 ps.length c4):=(aG HBK.out 4).trans rfl
   by_cases hlt:i<ps.length
   ·have d0:decide (i<ps.length)=true:=decide_eq_true hlt
    have d1:(i<ps.length)=True:=eq_true hlt;obtain⟨ad,A5,c5,ead,e0,e1,_,_⟩:=at_T35 (bD HPS.out (HB.out.trans (HBW.out.mono HB.out.size))) (i:Int) (by omega) (by omega);rw [Int.toNat_natCast] at e0 e1;have p0:(0≤(i:Int))=True:=eq_true (by omega);have p1:((i:Int)<(ps.length:Int))=True:=eq_true (by omega);have hwr:IntKind.i64.wrap ((i:Int)+1)=(i:Int)+1:=by rw [IntKind.wrap_i64];have:=HP2.out;omega
    have HLT:=aM hlt;have HM:=aM hm
    cases ead;clear hlt hm hi e1
    by_cases hru:(rd_T35 ps (i:Int)).f0=rule
    ·rw [hru] at e0
     have HRU:=aM hru;have HSZ:Aside0 (W.heap.size≤wr.heap.size):=⟨HBW.out.size⟩;have HAL:=aM (dAll_length ps rule i);clear hru
     go_wp2_with (first|((with_reducible refine gate_builtin (b:= .append) (xs:=#[.tmp 37,.tmp 39]) rfl ?_);at_builtin;refine Kd.R_append (Kd.int .i64) (w0:=wr) W.heap.size rfl (.tmp 37) (.tmp 39) 32 3 (.int .i64 0) 8 rfl Try.underlying32 diInt rfl (by decide) (by omega) u8 (dAll ps rule i) (i:Int) [.int .i64 (i:Int)] (fun _=>True) (fun _=>False) rfl rfl rfl (fun _ hk=>hk.elim) (fun _ _=>trivial) HA.out (Below.refl _ _) HSZ.out (by have:=HAL.out;have:=HP2.out;have:=HLT.out;omega) ?_;intro v1 w2 ho hb hg hat;have HA2:=aM ho;have HB2:Aside0 (Below W.heap.size W w2):=⟨HBW.out.trans hb⟩;clear ho hb hg hat))
     go_roundg (ps.length - (i+1))
     case measure=>have:=HM.out;have:=HLT.out;omega
     case rel=>exact⟨i+1,rfl,by have:=HLT.out;omega,Nat.le_refl _,HB2,⟨by rw [dAll_yes HRU.out];exact HA2.out⟩⟩
    ·obtain⟨x,ex⟩:∃x,x=(rd_T35 ps (i:Int)).f0:=⟨_,rfl⟩
     rw [←ex] at e0 hru;have EX:=aM ex;have HRU:=aM hru;have d2:decide (x=rule)=false:=decide_eq_false hru;have d3:(x=rule)=False:=eq_false hru;have d4:(x==rule)=false:=by simp [hru]
     clear ex hru;go_wp2
     go_roundg (ps.length - (i+1))
     case measure=>have:=HM.out;have:=HLT.out;omega
     case rel=>exact⟨i+1,rfl,by have:=HLT.out;omega,Nat.le_refl _,HBW,⟨by rw [dAll_no (by rw [←EX.out];exact HRU.out)];exact HA.out⟩⟩
   ·obtain rfl:i=ps.length:=by omega
    clear hlt;go_wp2
    go_meet
    case rel=>exact⟨HBW,HA⟩
 case rest=>
  obtain⟨HBW,HA⟩:=hcut;obtain⟨w1,ew1⟩:∃w1:World,w1=wc:=⟨_,rfl⟩;subst ew1;have HBK:=aM ((HBW.out.block _ HDBW.out).trans HBLK.out);have HB1:Aside0 (Below w0.heap.size w0 w1):=⟨HB.out.trans (HBW.out.mono HB.out.size)⟩;have HMEM:Aside0 (∀x∈dAll ps rule ps.length,0≤x∧x<(ps.length:Int)):=⟨fun x hx=>⟨(dAll_mem hx).1,(dAll_mem hx).2.1⟩⟩;have HALN:=aM (dAll_length ps rule ps.length);generalize dAll ps rule ps.length=all at HA HRES HREC HMEM HALN;obtain⟨A8,n,c8,rfl⟩:∃A n c,u8= .slice A n c:=by obtain⟨A,c,e⟩:=Kd.R_slice HA.out;exact⟨A,_,c,e⟩
  have hnl:=(aF HA.out).1;subst hnl;have HALL:∃n:Nat,n=all.length:=⟨_,rfl⟩;obtain⟨n,en⟩:=HALL;have hdwr:IntKind.i64.wrap ((n:Int) - 1)=(n:Int) - 1:=by rw [IntKind.wrap_i64];have:=HALN.out;have:=HP2.out;omega
  rw [←en] at HA HRES HREC ⊢;have EN:=aM en;clear en
  by_cases hz:n=0
  ·subst hz
   have hres:res=(([],false),at_):=by rw [HRES.out,if_pos (.inl rfl)]
   subst hres;go_wp2
   go_ret2
   exact⟨_,rfl,⟨Kd.R_nil _ _ _ _ _⟩,HBK,⟨Kept.of_below HBW.out _⟩,HB1⟩
  ·have z1:(n=0)=False:=eq_false hz
   have z2:decide (n=0)=false:=decide_eq_false hz;have z3:((n:Int)==0)=false:=by simp [hz]
   by_cases hd:10<deep
   ·have hres:res=(([],false),at_):=by rw [HRES.out,if_pos (.inr hd)]
    subst hres;have y1:(10<deep)=True:=eq_true hd;have y2:decide ((deep:Int)>10)=true:=decide_eq_true (by omega);have y3:((10:Int)<(deep:Int))=True:=eq_true (by omega);go_wp2
    go_ret2
    exact⟨_,rfl,⟨Kd.R_nil _ _ _ _ _⟩,HBK,⟨Kept.of_below HBW.out _⟩,HB1⟩
   ·have y1:(10<deep)=False:=eq_false hd
    have y2:decide ((deep:Int)>10)=false:=decide_eq_false (by omega);have y3:((10:Int)<(deep:Int))=False:=eq_false (by omega);have hnot:¬(n=0∨10<deep):=fun h=>h.elim hz hd
    have HRES2:Aside0 (res=drvL nxt (rd_T35 ps (all.getD (dK L at_ n).toNat 0)).f1 [] (at_+1)):=⟨by rw [HRES.out,if_neg hnot]⟩;have HREC2:=aM (HREC.out hnot);have HN0:Aside0 (0<n):=⟨Nat.pos_of_ne_zero hz⟩;clear HREC HRES hnot hz hd
    go_upto_region 10 with fail
    go_cut [67] from 16 (fun s67 wc=>s67= .bool (decide (at_<L.length∧at_<60))∧Aside0 (Below w1.heap.size w1 wc))
    case first=>
     have q5:Aside0 (w1.cell? ⟨DB,5,none⟩=some (.slice AL L.length cL)):=⟨(aG HBK.out 5).trans rfl⟩;have q6:Aside0 (w1.cell? ⟨DB,6,none⟩=some (.int .i64 (at_:Int))):=⟨(aG HBK.out 6).trans rfl⟩
     by_cases h1:at_<L.length
     ·have x1:decide ((at_:Int)<(L.length:Int))=true:=decide_eq_true (by omega)
      have x2:decide (at_<L.length)=true:=decide_eq_true h1
      by_cases h2:at_<60
      ·have x3:decide ((at_:Int)<60)=true:=decide_eq_true (by omega)
       have x4:decide (at_<60)=true:=decide_eq_true h2;have x5:decide (at_<L.length∧at_<60)=true:=decide_eq_true ⟨h1,h2⟩;refine start_ (n:=17) (S:=fun w'=>w'.cell? ⟨DB,6,none⟩=some (.int .i64 (at_:Int))∧w'.cell? ⟨DB,5,none⟩=some (.slice AL L.length cL)) (ds:= []) #[F,F,F,F,F,F,F,F,F,F,F,F,F,F,F,F,F] (by kernel_rfl) rfl rfl ⟨q6.out,q5.out⟩ (fun hHeld=>?_)
       refine pure_ (i:=0) (N:=some 51) (v:=?_) (a':=?_) #[T,F,F,F,F,F,F,F,F,F,F,F,F,F,F,F,F] rfl rfl (by kernel_rfl) (fun _ _ _ h=>h) (Or.inl ⟨by rfl,?_⟩) ?_ ?_
       rotate_left;(intro w';go_simp;with_reducible rfl);rotate_left;(simp only [pq];rfl)
       refine pure_ (i:=1) (N:=some 52) (v:=?_) (a':=?_) #[T,T,F,F,F,F,F,F,F,F,F,F,F,F,F,F,F] rfl rfl (by kernel_rfl) (fun _ _ _ h=>h) (Or.inl ⟨by rfl,?_⟩) ?_ ?_
       rotate_left;(intro w';go_simp;with_reducible rfl);rotate_left;(simp only [pq];rfl)
       refine pure_ (i:=2) (N:=some 53) (v:=?_) (a':=?_) #[T,T,T,F,F,F,F,F,F,F,F,F,F,F,F,F,F] rfl rfl (by kernel_rfl) (fun _ _ _ h=>h) (Or.inl ⟨by rfl,?_⟩) ?_ ?_
       rotate_left;(intro w';go_simp;with_reducible rfl);rotate_left;(simp only [pq];rfl)
       refine pure_ (i:=4) (N:=some 55) (v:=?_) (a':=?_) #[T,T,T,F,T,F,F,F,F,F,F,F,F,F,F,F,F] rfl rfl (by kernel_rfl) (fun _ _ _ h=>h) (Or.inl ⟨by rfl,?_⟩) ?_ ?_
       rotate_left;(intro w';go_simp;with_reducible rfl);rotate_left;(simp only [pq];rfl)
       refine pure_ (i:=5) (N:=some 56) (v:=?_) (a':=?_) #[T,T,T,F,T,T,F,F,F,F,F,F,F,F,F,F,F] rfl rfl (by kernel_rfl) (fun _ _ _ h=>h) (Or.inl ⟨by rfl,?_⟩) ?_ ?_
       rotate_left;(intro w';go_simp;with_reducible rfl);rotate_left;(simp only [pq];rfl)
       refine pure_ (i:=6) (N:=some 57) (v:=?_) (a':=?_) #[T,T,T,F,T,T,T,F,F,F,F,F,F,F,F,F,F] rfl rfl (by kernel_rfl) (fun _ _ _ h=>h) (Or.inl ⟨by rfl,?_⟩) ?_ ?_
       rotate_left;(intro w';go_simp;with_reducible rfl);rotate_left;(simp only [pq];rfl)
       refine take_ (i:=3) (N:=some 54) (v:=?_) (a':=?_) #[T,T,T,T,T,T,T,F,F,F,F,F,F,F,F,F,F] rfl rfl (by kernel_rfl) (fun _ _ _ h=>h) (Or.inl ⟨by rfl,?_⟩) hHeld ?_ ?_
       rotate_left
       ·rintro w' ⟨s0,s1⟩
        go_simp
        with_reducible rfl
       rotate_left
       ·simp only [pq]
        rfl
       refine take_ (i:=7) (N:=some 58) (v:=?_) (a':=?_) #[T,T,T,T,T,T,T,T,F,F,F,F,F,F,F,F,F] rfl rfl (by kernel_rfl) (fun _ _ _ h=>h) (Or.inl ⟨by rfl,?_⟩) hHeld ?_ ?_
       rotate_left
       ·rintro w' ⟨s0,s1⟩
        go_simp
        with_reducible rfl
       rotate_left
       ·simp only [pq]
        rfl
       refine pure_ (i:=8) (N:=some 59) (v:=?_) (a':=?_) #[T,T,T,T,T,T,T,T,T,F,F,F,F,F,F,F,F] rfl rfl (by kernel_rfl) (fun _ _ _ h=>h) (Or.inl ⟨by rfl,?_⟩) ?_ ?_
       rotate_left;(intro w';go_simp;with_reducible rfl);rotate_left;(simp only [pq];rfl)
       refine pure_ (i:=9) (N:=some 60) (v:=?_) (a':=?_) #[T,T,T,T,T,T,T,T,T,T,F,F,F,F,F,F,F] rfl rfl (by kernel_rfl) (fun _ _ _ h=>h) (Or.inl ⟨by rfl,?_⟩) ?_ ?_
       rotate_left;(intro w';go_simp;with_reducible rfl);rotate_left;(simp only [pq];rfl)
       refine pure_ (i:=10) (N:=some 61) (v:=?_) (a':=?_) #[T,T,T,T,T,T,T,T,T,T,T,F,F,F,F,F,F] rfl rfl (by kernel_rfl) (fun _ _ _ h=>h) (Or.inl ⟨by rfl,?_⟩) ?_ ?_
       rotate_left;(intro w';go_simp;with_reducible rfl);rotate_left;(simp only [pq];rfl)
       refine pure_ (i:=11) (N:=some 62) (v:=?_) (a':=?_) #[T,T,T,T,T,T,T,T,T,T,T,T,F,F,F,F,F] rfl rfl (by kernel_rfl) (fun _ _ _ h=>h) (Or.inl ⟨by rfl,?_⟩) ?_ ?_
       rotate_left;(intro w';go_simp;with_reducible rfl);rotate_left;(simp only [pq];rfl)
       refine pure_ (i:=12) (N:=some 63) (v:=?_) (a':=?_) #[T,T,T,T,T,T,T,T,T,T,T,T,T,F,F,F,F] rfl rfl (by kernel_rfl) (fun _ _ _ h=>h) (Or.inl ⟨by rfl,?_⟩) ?_ ?_
       rotate_left;(intro w';go_simp;with_reducible rfl);rotate_left;(simp only [pq];rfl)
       refine pure_ (i:=13) (N:=some 64) (v:=?_) (a':=?_) #[T,T,T,T,T,T,T,T,T,T,T,T,T,T,F,F,F] rfl rfl (by kernel_rfl) (fun _ _ _ h=>h) (Or.inl ⟨by rfl,?_⟩) ?_ ?_
       rotate_left;(intro w';go_simp;with_reducible rfl);rotate_left;(simp only [pq];rfl)
       refine take_ (i:=14) (N:=some 65) (v:=?_) (a':=?_) #[T,T,T,T,T,T,T,T,T,T,T,T,T,T,T,F,F] rfl rfl (by kernel_rfl) (fun _ _ _ h=>h) (Or.inl ⟨by rfl,?_⟩) hHeld ?_ ?_
       rotate_left
       ·rintro w' ⟨s0,s1⟩
        go_simp
        with_reducible rfl
       rotate_left
       ·simp only [pq]
        rfl
       refine pure_ (i:=15) (N:=some 66) (v:=?_) (a':=?_) #[T,T,T,T,T,T,T,T,T,T,T,T,T,T,T,T,F] rfl rfl (by kernel_rfl) (fun _ _ _ h=>h) (Or.inl ⟨by rfl,?_⟩) ?_ ?_
       rotate_left;(intro w';go_simp;with_reducible rfl);rotate_left;(simp only [pq];rfl)
       refine pure_ (i:=16) (N:=some 67) (v:=?_) (a':=?_) #[T,T,T,T,T,T,T,T,T,T,T,T,T,T,T,T,T] rfl rfl (by kernel_rfl) (fun _ _ _ h=>h) (Or.inl ⟨by rfl,?_⟩) ?_ ?_
       rotate_left;(intro w';go_simp;with_reducible rfl);rotate_left;(simp only [pq];rfl)
       refine done_ (by kernel_rfl) ?_
       go_wp2_with fail
       go_meet
       case rel=>exact⟨congrArg Value.bool x5.symm,⟨aO (Below.refl _ _)⟩⟩
      ·have x3:decide ((at_:Int)<60)=false:=decide_eq_false (by omega)
       have x4:decide (at_<60)=false:=decide_eq_false h2;have x5:decide (at_<L.length∧at_<60)=false:=decide_eq_false (fun h=>h2 h.2);refine start_ (n:=17) (S:=fun w'=>w'.cell? ⟨DB,6,none⟩=some (.int .i64 (at_:Int))∧w'.cell? ⟨DB,5,none⟩=some (.slice AL L.length cL)) (ds:= []) #[F,F,F,F,F,F,F,F,F,F,F,F,F,F,F,F,F] (by kernel_rfl) rfl rfl ⟨q6.out,q5.out⟩ (fun hHeld=>?_)
       refine pure_ (i:=0) (N:=some 51) (v:=?_) (a':=?_) #[T,F,F,F,F,F,F,F,F,F,F,F,F,F,F,F,F] rfl rfl (by kernel_rfl) (fun _ _ _ h=>h) (Or.inl ⟨by rfl,?_⟩) ?_ ?_
       rotate_left;(intro w';go_simp;with_reducible rfl);rotate_left;(simp only [pq];rfl)
       refine pure_ (i:=1) (N:=some 52) (v:=?_) (a':=?_) #[T,T,F,F,F,F,F,F,F,F,F,F,F,F,F,F,F] rfl rfl (by kernel_rfl) (fun _ _ _ h=>h) (Or.inl ⟨by rfl,?_⟩) ?_ ?_
       rotate_left;(intro w';go_simp;with_reducible rfl);rotate_left;(simp only [pq];rfl)
       refine pure_ (i:=2) (N:=some 53) (v:=?_) (a':=?_) #[T,T,T,F,F,F,F,F,F,F,F,F,F,F,F,F,F] rfl rfl (by kernel_rfl) (fun _ _ _ h=>h) (Or.inl ⟨by rfl,?_⟩) ?_ ?_
       rotate_left;(intro w';go_simp;with_reducible rfl);rotate_left;(simp only [pq];rfl)
       refine pure_ (i:=4) (N:=some 55) (v:=?_) (a':=?_) #[T,T,T,F,T,F,F,F,F,F,F,F,F,F,F,F,F] rfl rfl (by kernel_rfl) (fun _ _ _ h=>h) (Or.inl ⟨by rfl,?_⟩) ?_ ?_
       rotate_left;(intro w';go_simp;with_reducible rfl);rotate_left;(simp only [pq];rfl)
       refine pure_ (i:=5) (N:=some 56) (v:=?_) (a':=?_) #[T,T,T,F,T,T,F,F,F,F,F,F,F,F,F,F,F] rfl rfl (by kernel_rfl) (fun _ _ _ h=>h) (Or.inl ⟨by rfl,?_⟩) ?_ ?_
       rotate_left;(intro w';go_simp;with_reducible rfl);rotate_left;(simp only [pq];rfl)
       refine pure_ (i:=6) (N:=some 57) (v:=?_) (a':=?_) #[T,T,T,F,T,T,T,F,F,F,F,F,F,F,F,F,F] rfl rfl (by kernel_rfl) (fun _ _ _ h=>h) (Or.inl ⟨by rfl,?_⟩) ?_ ?_
       rotate_left;(intro w';go_simp;with_reducible rfl);rotate_left;(simp only [pq];rfl)
       refine take_ (i:=3) (N:=some 54) (v:=?_) (a':=?_) #[T,T,T,T,T,T,T,F,F,F,F,F,F,F,F,F,F] rfl rfl (by kernel_rfl) (fun _ _ _ h=>h) (Or.inl ⟨by rfl,?_⟩) hHeld ?_ ?_
       rotate_left
       ·rintro w' ⟨s0,s1⟩
        go_simp
        with_reducible rfl
       rotate_left
       ·simp only [pq]
        rfl
       refine take_ (i:=7) (N:=some 58) (v:=?_) (a':=?_) #[T,T,T,T,T,T,T,T,F,F,F,F,F,F,F,F,F] rfl rfl (by kernel_rfl) (fun _ _ _ h=>h) (Or.inl ⟨by rfl,?_⟩) hHeld ?_ ?_
       rotate_left
       ·rintro w' ⟨s0,s1⟩
        go_simp
        with_reducible rfl
       rotate_left
       ·simp only [pq]
        rfl
       refine pure_ (i:=8) (N:=some 59) (v:=?_) (a':=?_) #[T,T,T,T,T,T,T,T,T,F,F,F,F,F,F,F,F] rfl rfl (by kernel_rfl) (fun _ _ _ h=>h) (Or.inl ⟨by rfl,?_⟩) ?_ ?_
       rotate_left;(intro w';go_simp;with_reducible rfl);rotate_left;(simp only [pq];rfl)
       refine pure_ (i:=9) (N:=some 60) (v:=?_) (a':=?_) #[T,T,T,T,T,T,T,T,T,T,F,F,F,F,F,F,F] rfl rfl (by kernel_rfl) (fun _ _ _ h=>h) (Or.inl ⟨by rfl,?_⟩) ?_ ?_
       rotate_left;(intro w';go_simp;with_reducible rfl);rotate_left;(simp only [pq];rfl)
       refine pure_ (i:=10) (N:=some 61) (v:=?_) (a':=?_) #[T,T,T,T,T,T,T,T,T,T,T,F,F,F,F,F,F] rfl rfl (by kernel_rfl) (fun _ _ _ h=>h) (Or.inl ⟨by rfl,?_⟩) ?_ ?_
       rotate_left;(intro w';go_simp;with_reducible rfl);rotate_left;(simp only [pq];rfl)
       refine pure_ (i:=11) (N:=some 62) (v:=?_) (a':=?_) #[T,T,T,T,T,T,T,T,T,T,T,T,F,F,F,F,F] rfl rfl (by kernel_rfl) (fun _ _ _ h=>h) (Or.inl ⟨by rfl,?_⟩) ?_ ?_
       rotate_left;(intro w';go_simp;with_reducible rfl);rotate_left;(simp only [pq];rfl)
       refine pure_ (i:=12) (N:=some 63) (v:=?_) (a':=?_) #[T,T,T,T,T,T,T,T,T,T,T,T,T,F,F,F,F] rfl rfl (by kernel_rfl) (fun _ _ _ h=>h) (Or.inl ⟨by rfl,?_⟩) ?_ ?_
       rotate_left;(intro w';go_simp;with_reducible rfl);rotate_left;(simp only [pq];rfl)
       refine pure_ (i:=13) (N:=some 64) (v:=?_) (a':=?_) #[T,T,T,T,T,T,T,T,T,T,T,T,T,T,F,F,F] rfl rfl (by kernel_rfl) (fun _ _ _ h=>h) (Or.inl ⟨by rfl,?_⟩) ?_ ?_
       rotate_left;(intro w';go_simp;with_reducible rfl);rotate_left;(simp only [pq];rfl)
       refine take_ (i:=14) (N:=some 65) (v:=?_) (a':=?_) #[T,T,T,T,T,T,T,T,T,T,T,T,T,T,T,F,F] rfl rfl (by kernel_rfl) (fun _ _ _ h=>h) (Or.inl ⟨by rfl,?_⟩) hHeld ?_ ?_
       rotate_left
       ·rintro w' ⟨s0,s1⟩
        go_simp
        with_reducible rfl
       rotate_left
       ·simp only [pq]
        rfl
       refine pure_ (i:=15) (N:=some 66) (v:=?_) (a':=?_) #[T,T,T,T,T,T,T,T,T,T,T,T,T,T,T,T,F] rfl rfl (by kernel_rfl) (fun _ _ _ h=>h) (Or.inl ⟨by rfl,?_⟩) ?_ ?_
       rotate_left;(intro w';go_simp;with_reducible rfl);rotate_left;(simp only [pq];rfl)
       refine pure_ (i:=16) (N:=some 67) (v:=?_) (a':=?_) #[T,T,T,T,T,T,T,T,T,T,T,T,T,T,T,T,T] rfl rfl (by kernel_rfl) (fun _ _ _ h=>h) (Or.inl ⟨by rfl,?_⟩) ?_ ?_
       rotate_left;(intro w';go_simp;with_reducible rfl);rotate_left;(simp only [pq];rfl)
       refine done_ (by kernel_rfl) ?_
       go_wp2_with fail
       go_meet
       case rel=>exact⟨congrArg Value.bool x5.symm,⟨aO (Below.refl _ _)⟩⟩
     ·have x1:decide ((at_:Int)<(L.length:Int))=false:=decide_eq_false (by omega)
      have x2:decide (at_<L.length)=false:=decide_eq_false h1;have x5:decide (at_<L.length∧at_<60)=false:=decide_eq_false (fun h=>h1 h.1);refine start_ (n:=17) (S:=fun w'=>w'.cell? ⟨DB,6,none⟩=some (.int .i64 (at_:Int))∧w'.cell? ⟨DB,5,none⟩=some (.slice AL L.length cL)) (ds:= []) #[F,F,F,F,F,F,F,F,F,F,F,F,F,F,F,F,F] (by kernel_rfl) rfl rfl ⟨q6.out,q5.out⟩ (fun hHeld=>?_)
      refine pure_ (i:=0) (N:=some 51) (v:=?_) (a':=?_) #[T,F,F,F,F,F,F,F,F,F,F,F,F,F,F,F,F] rfl rfl (by kernel_rfl) (fun _ _ _ h=>h) (Or.inl ⟨by rfl,?_⟩) ?_ ?_
      rotate_left;(intro w';go_simp;with_reducible rfl);rotate_left;(simp only [pq];rfl)
      refine pure_ (i:=1) (N:=some 52) (v:=?_) (a':=?_) #[T,T,F,F,F,F,F,F,F,F,F,F,F,F,F,F,F] rfl rfl (by kernel_rfl) (fun _ _ _ h=>h) (Or.inl ⟨by rfl,?_⟩) ?_ ?_
      rotate_left;(intro w';go_simp;with_reducible rfl);rotate_left;(simp only [pq];rfl)
      refine pure_ (i:=2) (N:=some 53) (v:=?_) (a':=?_) #[T,T,T,F,F,F,F,F,F,F,F,F,F,F,F,F,F] rfl rfl (by kernel_rfl) (fun _ _ _ h=>h) (Or.inl ⟨by rfl,?_⟩) ?_ ?_
      rotate_left;(intro w';go_simp;with_reducible rfl);rotate_left;(simp only [pq];rfl)
      refine pure_ (i:=4) (N:=some 55) (v:=?_) (a':=?_) #[T,T,T,F,T,F,F,F,F,F,F,F,F,F,F,F,F] rfl rfl (by kernel_rfl) (fun _ _ _ h=>h) (Or.inl ⟨by rfl,?_⟩) ?_ ?_
      rotate_left;(intro w';go_simp;with_reducible rfl);rotate_left;(simp only [pq];rfl)
      refine pure_ (i:=5) (N:=some 56) (v:=?_) (a':=?_) #[T,T,T,F,T,T,F,F,F,F,F,F,F,F,F,F,F] rfl rfl (by kernel_rfl) (fun _ _ _ h=>h) (Or.inl ⟨by rfl,?_⟩) ?_ ?_
      rotate_left;(intro w';go_simp;with_reducible rfl);rotate_left;(simp only [pq];rfl)
      refine pure_ (i:=6) (N:=some 57) (v:=?_) (a':=?_) #[T,T,T,F,T,T,T,F,F,F,F,F,F,F,F,F,F] rfl rfl (by kernel_rfl) (fun _ _ _ h=>h) (Or.inl ⟨by rfl,?_⟩) ?_ ?_
      rotate_left;(intro w';go_simp;with_reducible rfl);rotate_left;(simp only [pq];rfl)
      refine take_ (i:=3) (N:=some 54) (v:=?_) (a':=?_) #[T,T,T,T,T,T,T,F,F,F,F,F,F,F,F,F,F] rfl rfl (by kernel_rfl) (fun _ _ _ h=>h) (Or.inl ⟨by rfl,?_⟩) hHeld ?_ ?_
      rotate_left
      ·rintro w' ⟨s0,s1⟩
       go_simp
       with_reducible rfl
      rotate_left
      ·simp only [pq]
       rfl
      refine take_ (i:=7) (N:=some 58) (v:=?_) (a':=?_) #[T,T,T,T,T,T,T,T,F,F,F,F,F,F,F,F,F] rfl rfl (by kernel_rfl) (fun _ _ _ h=>h) (Or.inl ⟨by rfl,?_⟩) hHeld ?_ ?_
      rotate_left
      ·rintro w' ⟨s0,s1⟩
       go_simp
       with_reducible rfl
      rotate_left
      ·simp only [pq]
       rfl
      refine pure_ (i:=8) (N:=some 59) (v:=?_) (a':=?_) #[T,T,T,T,T,T,T,T,T,F,F,F,F,F,F,F,F] rfl rfl (by kernel_rfl) (fun _ _ _ h=>h) (Or.inl ⟨by rfl,?_⟩) ?_ ?_
      rotate_left;(intro w';go_simp;with_reducible rfl);rotate_left;(simp only [pq];rfl)
      refine pure_ (i:=9) (N:=some 60) (v:=?_) (a':=?_) #[T,T,T,T,T,T,T,T,T,T,F,F,F,F,F,F,F] rfl rfl (by kernel_rfl) (fun _ _ _ h=>h) (Or.inl ⟨by rfl,?_⟩) ?_ ?_
      rotate_left;(intro w';go_simp;with_reducible rfl);rotate_left;(simp only [pq];rfl)
      refine pure_ (i:=10) (N:=some 61) (v:=?_) (a':=?_) #[T,T,T,T,T,T,T,T,T,T,T,F,F,F,F,F,F] rfl rfl (by kernel_rfl) (fun _ _ _ h=>h) (Or.inl ⟨by rfl,?_⟩) ?_ ?_
      rotate_left;(intro w';go_simp;with_reducible rfl);rotate_left;(simp only [pq];rfl)
      refine pure_ (i:=11) (N:=some 62) (v:=undef) (a':=?_) #[T,T,T,T,T,T,T,T,T,T,T,T,F,F,F,F,F] rfl rfl (by kernel_rfl) (fun _ _ _ h=>h) (Or.inr ⟨by rfl,rfl⟩) ?_ ?_
      rotate_left
      ·simp only [pq]
       rfl
      refine pure_ (i:=12) (N:=some 63) (v:=undef) (a':=?_) #[T,T,T,T,T,T,T,T,T,T,T,T,T,F,F,F,F] rfl rfl (by kernel_rfl) (fun _ _ _ h=>h) (Or.inr ⟨by rfl,rfl⟩) ?_ ?_
      rotate_left
      ·simp only [pq]
       rfl
      refine pure_ (i:=13) (N:=some 64) (v:=undef) (a':=?_) #[T,T,T,T,T,T,T,T,T,T,T,T,T,T,F,F,F] rfl rfl (by kernel_rfl) (fun _ _ _ h=>h) (Or.inr ⟨by rfl,rfl⟩) ?_ ?_
      rotate_left
      ·simp only [pq]
       rfl
      refine pure_ (i:=14) (N:=some 65) (v:=undef) (a':=?_) #[T,T,T,T,T,T,T,T,T,T,T,T,T,T,T,F,F] rfl rfl (by kernel_rfl) (fun _ _ _ h=>h) (Or.inr ⟨by rfl,rfl⟩) ?_ ?_
      rotate_left
      ·simp only [pq]
       rfl
      refine pure_ (i:=15) (N:=some 66) (v:=undef) (a':=?_) #[T,T,T,T,T,T,T,T,T,T,T,T,T,T,T,T,F] rfl rfl (by kernel_rfl) (fun _ _ _ h=>h) (Or.inr ⟨by rfl,rfl⟩) ?_ ?_
      rotate_left
      ·simp only [pq]
       rfl
      refine pure_ (i:=16) (N:=some 67) (v:=?_) (a':=?_) #[T,T,T,T,T,T,T,T,T,T,T,T,T,T,T,T,T] rfl rfl (by kernel_rfl) (fun _ _ _ h=>h) (Or.inl ⟨by rfl,?_⟩) ?_ ?_
      rotate_left;(intro w';go_simp;with_reducible rfl);rotate_left;(simp only [pq];rfl)
      refine done_ (by kernel_rfl) ?_
      go_wp2_with fail
      go_meet
      case rel=>exact⟨congrArg Value.bool x5.symm,⟨aO (Below.refl _ _)⟩⟩
    case rest=>
     obtain⟨rfl,HBD⟩:=hcut;obtain⟨w2,ew2⟩:∃w2:World,w2=wc:=⟨_,rfl⟩;subst ew2
     go_upto_if 67 with fail
     have HBK2:=aM ((HBD.out.block _ (bN HBK.out)).trans HBK.out);have HB2:Aside0 (Below w0.heap.size w0 w2):=⟨HB1.out.trans (HBD.out.mono HB1.out.size)⟩;have HA2:=aM (aD HA.out HBD.out);have HBW2:Aside0 (Below W.heap.size W w2):=⟨HBW.out.trans (HBD.out.mono HBW.out.size)⟩;clear HBK HB1 HA HBW HBD
     go_cut [10] from 16 (fun s10 wc=>s10= .int .i64 (dK L at_ n)∧Aside0 (Below w2.heap.size w2 wc))
     case first=>
      by_cases hc:at_<L.length∧at_<60
      ·have x5:decide (at_<L.length∧at_<60)=true:=decide_eq_true hc
       have hk:dK L at_ n=Int.tmod (L.getD at_ 0) (n:Int):=by unfold dK;rw [if_pos hc.1,if_pos hc.2]
       have HKD:=aM hk;have q5:Aside0 (w2.cell? ⟨DB,5,none⟩=some (.slice AL L.length cL)):=⟨(aG HBK2.out 5).trans rfl⟩;have q6:Aside0 (w2.cell? ⟨DB,6,none⟩=some (.int .i64 (at_:Int))):=⟨(aG HBK2.out 6).trans rfl⟩;obtain⟨ad,ead,hcell⟩:=Kd.at_int (bD HL.out HB2.out) (at_:Int) (by omega) (by have:=hc.1;omega);have hx:=HU.out (L.getD at_ 0) (by rw [List.getD_eq_getElem?_getD,List.getElem?_eq_getElem hc.1];exact List.getElem_mem _);rw [show rd L (at_:Int)=L.getD at_ 0 from rfl,Int.toNat_natCast] at hcell;generalize L.getD at_ 0=x at hcell hx HKD;have hw3:IntKind.i64.wrap x=x:=by rw [IntKind.wrap_i64];omega
       have hw4:IntKind.i64.wrap (x.tmod n)=x.tmod n:=by
        have h1:=Int.tmod_nonneg (n:Int) hx.1;have h2:=Int.tmod_lt_of_pos x (show(0:Int)<n by have:=HN0.out;omega);have h3:=HALN.out;have h4:=HP2.out;have h5:=EN.out;rw [IntKind.wrap_i64];omega
       have p0:(0≤(at_:Int))=True:=eq_true (by omega);have p1:((at_:Int)<(L.length:Int))=True:=eq_true (by have:=hc.1;omega);have p2:(at_<L.length)=True:=eq_true hc.1;have p3:(n=0)=False:=eq_false (by have:=HN0.out;omega);have p4:((n:Int)=0)=False:=eq_false (by have:=HN0.out;omega)
       cases ead;clear hx hk hc;rw [x5]
       go_upto_region 11 with fail
       refine start_ (n:=15) (S:=fun w'=>w'.cell? ⟨DB,5,none⟩=some (.slice (some ad) L.length cL)∧w'.cell? ⟨DB,6,none⟩=some (.int .i64 (at_:Int))∧w'.cell? (ad.add at_)=some (.int .u8 x)) (ds:= []) #[F,F,F,F,F,F,F,F,F,F,F,F,F,F,F] (by kernel_rfl) rfl rfl ⟨q5.out,q6.out,hcell⟩ (fun hHeld=>?_)
       refine pure_ (i:=0) (N:=some 68) (v:=?_) (a':=?_) #[T,F,F,F,F,F,F,F,F,F,F,F,F,F,F] rfl rfl (by kernel_rfl) (fun _ _ _ h=>h) (Or.inl ⟨by rfl,?_⟩) ?_ ?_
       rotate_left;(intro w';go_simp;with_reducible rfl);rotate_left;(simp only [pq];rfl)
       refine pure_ (i:=1) (N:=some 69) (v:=?_) (a':=?_) #[T,T,F,F,F,F,F,F,F,F,F,F,F,F,F] rfl rfl (by kernel_rfl) (fun _ _ _ h=>h) (Or.inl ⟨by rfl,?_⟩) ?_ ?_
       rotate_left;(intro w';go_simp;with_reducible rfl);rotate_left;(simp only [pq];rfl)
       refine pure_ (i:=2) (N:=some 70) (v:=?_) (a':=?_) #[T,T,T,F,F,F,F,F,F,F,F,F,F,F,F] rfl rfl (by kernel_rfl) (fun _ _ _ h=>h) (Or.inl ⟨by rfl,?_⟩) ?_ ?_
       rotate_left;(intro w';go_simp;with_reducible rfl);rotate_left;(simp only [pq];rfl)
       refine pure_ (i:=4) (N:=some 72) (v:=?_) (a':=?_) #[T,T,T,F,T,F,F,F,F,F,F,F,F,F,F] rfl rfl (by kernel_rfl) (fun _ _ _ h=>h) (Or.inl ⟨by rfl,?_⟩) ?_ ?_
       rotate_left;(intro w';go_simp;with_reducible rfl);rotate_left;(simp only [pq];rfl)
       refine pure_ (i:=5) (N:=some 73) (v:=?_) (a':=?_) #[T,T,T,F,T,T,F,F,F,F,F,F,F,F,F] rfl rfl (by kernel_rfl) (fun _ _ _ h=>h) (Or.inl ⟨by rfl,?_⟩) ?_ ?_
       rotate_left;(intro w';go_simp;with_reducible rfl);rotate_left;(simp only [pq];rfl)
       refine pure_ (i:=6) (N:=some 74) (v:=?_) (a':=?_) #[T,T,T,F,T,T,T,F,F,F,F,F,F,F,F] rfl rfl (by kernel_rfl) (fun _ _ _ h=>h) (Or.inl ⟨by rfl,?_⟩) ?_ ?_
       rotate_left;(intro w';go_simp;with_reducible rfl);rotate_left;(simp only [pq];rfl)
       refine pure_ (i:=11) (N:=some 79) (v:=?_) (a':=?_) #[T,T,T,F,T,T,T,F,F,F,F,T,F,F,F] rfl rfl (by kernel_rfl) (fun _ _ _ h=>h) (Or.inl ⟨by rfl,?_⟩) ?_ ?_
       rotate_left;(intro w';go_simp;with_reducible rfl);rotate_left;(simp only [pq];rfl)
       refine pure_ (i:=12) (N:=some 80) (v:=?_) (a':=?_) #[T,T,T,F,T,T,T,F,F,F,F,T,T,F,F] rfl rfl (by kernel_rfl) (fun _ _ _ h=>h) (Or.inl ⟨by rfl,?_⟩) ?_ ?_
       rotate_left;(intro w';go_simp;with_reducible rfl);rotate_left;(simp only [pq];rfl)
       refine take_ (i:=3) (N:=some 71) (v:=?_) (a':=?_) #[T,T,T,T,T,T,T,F,F,F,F,T,T,F,F] rfl rfl (by kernel_rfl) (fun _ _ _ h=>h) (Or.inl ⟨by rfl,?_⟩) hHeld ?_ ?_
       rotate_left
       ·rintro w' ⟨s0,s1,s2⟩
        go_simp
        with_reducible rfl
       rotate_left
       ·simp only [pq]
        rfl
       refine take_ (i:=7) (N:=some 75) (v:=?_) (a':=?_) #[T,T,T,T,T,T,T,T,F,F,F,T,T,F,F] rfl rfl (by kernel_rfl) (fun _ _ _ h=>h) (Or.inl ⟨by rfl,?_⟩) hHeld ?_ ?_
       rotate_left
       ·rintro w' ⟨s0,s1,s2⟩
        go_simp
        with_reducible rfl
       rotate_left
       ·simp only [pq]
        rfl
       refine pure_ (i:=8) (N:=some 76) (v:=?_) (a':=?_) #[T,T,T,T,T,T,T,T,T,F,F,T,T,F,F] rfl rfl (by kernel_rfl) (fun _ _ _ h=>h) (Or.inl ⟨by rfl,?_⟩) ?_ ?_
       rotate_left;(intro w';go_simp;with_reducible rfl);rotate_left;(simp only [pq];rfl)
       refine take_ (i:=9) (N:=some 77) (v:=?_) (a':=?_) #[T,T,T,T,T,T,T,T,T,T,F,T,T,F,F] rfl rfl (by kernel_rfl) (fun _ _ _ h=>h) (Or.inl ⟨by rfl,?_⟩) hHeld ?_ ?_
       rotate_left
       ·rintro w' ⟨s0,s1,s2⟩
        go_simp
        with_reducible rfl
       rotate_left
       ·simp only [pq]
        rfl
       refine pure_ (i:=10) (N:=some 78) (v:=?_) (a':=?_) #[T,T,T,T,T,T,T,T,T,T,T,T,T,F,F] rfl rfl (by kernel_rfl) (fun _ _ _ h=>h) (Or.inl ⟨by rfl,?_⟩) ?_ ?_
       rotate_left;(intro w';go_simp;with_reducible rfl);rotate_left;(simp only [pq];rfl)
       refine pure_ (i:=13) (N:=some 81) (v:=?_) (a':=?_) #[T,T,T,T,T,T,T,T,T,T,T,T,T,T,F] rfl rfl (by kernel_rfl) (fun _ _ _ h=>h) (Or.inl ⟨by rfl,?_⟩) ?_ ?_
       rotate_left;(intro w';go_simp;with_reducible rfl);rotate_left;(simp only [pq];rfl)
       refine pure_ (i:=14) (N:=some 10) (v:=?_) (a':=?_) #[T,T,T,T,T,T,T,T,T,T,T,T,T,T,T] rfl rfl (by kernel_rfl) (fun _ _ _ h=>h) (Or.inl ⟨by rfl,?_⟩) ?_ ?_
       rotate_left;(intro w';go_simp;with_reducible rfl);rotate_left;(simp only [pq];rfl)
       refine done_ (by kernel_rfl) ?_
       go_wp2_with fail
       go_meet
       case rel=>exact⟨congrArg _ HKD.out.symm,⟨aO (Below.refl _ _)⟩⟩
      ·have x5:decide (at_<L.length∧at_<60)=false:=decide_eq_false hc
       have hk:dK L at_ n=(n:Int) - 1:=by
        unfold dK
        split
        ·split
         ·rename_i h1 h2;exact absurd ⟨h1,h2⟩ hc
         ·rfl
        ·rfl
       rw [x5];clear hc
       go_wp2_with fail
       go_meet
       case rel=>exact⟨congrArg _ hk.symm,⟨Below.refl _ _⟩⟩
     case rest=>
      obtain⟨rfl,HBD⟩:=hcut;obtain⟨w3,ew3⟩:∃w3:World,w3=wc:=⟨_,rfl⟩;subst ew3;have HBK3:=aM ((HBD.out.block _ (bN HBK2.out)).trans HBK2.out);have HB3:Aside0 (Below w0.heap.size w0 w3):=⟨HB2.out.trans (HBD.out.mono HB2.out.size)⟩;have HA3:=aM (aD HA2.out HBD.out);have HBW3:Aside0 (Below W.heap.size W w3):=⟨HBW2.out.trans (HBD.out.mono HBW2.out.size)⟩;clear HBK2 HB2 HA2 HBW2 HBD;have q6:w3.cell? ⟨DB,6,none⟩=some (.int .i64 (at_:Int)):=(aG HBK3.out 6).trans rfl;have f6:=aH HBK3.out 6;have hw5:IntKind.i64.wrap ((at_:Int)+1)=(at_:Int)+1:=by rw [IntKind.wrap_i64];have:=HLIM.out;omega
      go_upto_region 14 with fail
      have HK4:Aside0 (Kept w3 (w3.setCell ⟨DB,6,none⟩ (.int .i64 ((at_:Int)+1))) (fun k=>k=DB)):=⟨Kept.setCell (Kept.refl w3 (fun k=>k=DB)) (p:=⟨DB,6,none⟩) (.inl rfl) _⟩;have HBK4:Aside0 ((w3.setCell ⟨DB,6,none⟩ (.int .i64 ((at_:Int)+1))).heap[DB]?=some (derObj A0 n0 c0 A1 n1 c1 a2 a3 A4 ps.length c4 AL L.length cL (at_+1))):=⟨blk_put HBK3.out 6 _ rfl⟩;have HB4:Aside0 (Below w0.heap.size w0 (w3.setCell ⟨DB,6,none⟩ (.int .i64 ((at_:Int)+1)))):=⟨HB3.out.setCell (p:=⟨DB,6,none⟩) HDB.out _⟩;have HA4:=aM (Kd.R_kept (Kd.R_mono (ok':=fun k=>W.heap.size≤k) (Kd.R_bound HA3.out) (fun k hk=>hk.2.1)) HK4.out (fun k hk h=>by have:=HDBW.out;omega));have HKW4:=aM (Kept.then_ (Kept.of_below HBW3.out (fun k=>k=DB)) HK4.out (fun k hk=> .inl hk));generalize w3.setCell ⟨DB,6,none⟩ (.int .i64 ((at_:Int)+1))=w4 at HK4 HBK4 HB4 HA4 HKW4 ⊢;clear HK4 HBK3 HB3 HA3 HBW3 q6 f6 hw5;have hkk:=dK_lt HU.out at_ HN0.out;generalize dK L at_ n=kk at hkk HRES2 ⊢;have hln:=EN.out;obtain⟨VD,ead8,hc8⟩:=Kd.at_int (aF HA4.out).2.2 kk hkk.1 (by omega);have hx:=HMEM.out (all.getD kk.toNat 0) (by rw [List.getD_eq_getElem?_getD,List.getElem?_eq_getElem (show kk.toNat<all.length by omega)];exact List.getElem_mem _);rw [show rd all kk=all.getD kk.toNat 0 from rfl] at hc8;generalize all.getD kk.toNat 0=x at hx hc8 HRES2;obtain⟨ad,A5,c5,ead,_,e1,_,hC5⟩:=at_T35 (bD HPS.out HB4.out) x hx.1 hx.2;obtain⟨ad',A5',c5',ead',_,e1',hle5,hC50⟩:=at_T35 HPS.out x hx.1 hx.2
      cases ead8
      cases ead
      cases ead';have e1'':=((HB4.out.cell (World.block_lt_of_cell? w0 _ e1')).trans e1').symm.trans e1;injection e1'' with e1''
      injection e1'' with ea5 _ ec5
      subst ea5
      have hmem:rd_T35 ps x∈ps:=by
       show ps.getD x.toNat _∈ps
       rw [List.getD_eq_getElem?_getD,List.getElem?_eq_getElem (show x.toNat<ps.length by omega)];exact List.getElem_mem _
      have HR10:=aM (HR.out _ hmem);have HC5:=aM hC50;generalize rd_T35 ps x=p at HR10 HC5 e1 HRES2 hle5;obtain⟨left,r⟩:=p;simp only at HR10 HC5 e1 HRES2 hle5;have HE1:=aM e1;have HC8:=aM hc8;have HQ4:Aside0 (w4.cell? ⟨DB,4,none⟩=some (.slice (some ad) ps.length c4)):=⟨(aG HBK4.out 4).trans rfl⟩;have p0:(0≤kk)=True:=eq_true hkk.1;have p1:(kk<(n:Int))=True:=eq_true hkk.2;have p2:(0≤x)=True:=eq_true hx.1;have p3:(x<(ps.length:Int))=True:=eq_true hx.2;clear hkk hx hln hmem e1 hc8 hC5 e1' hle5 ec5 hC50;refine start_ (n:=13) (S:=fun w'=>w'.cell? ⟨DB,4,none⟩=some (.slice (some ad) ps.length c4)∧w'.cell? (VD.add kk.toNat)=some (.int .i64 x)∧w'.cell? ⟨(ad.add (x.toNat * 2)).block,(ad.add (x.toNat * 2)).off+1,none⟩=some (.slice A5' r.length c5)) (ds:= []) #[F,F,F,F,F,F,F,F,F,F,F,F,F] (by kernel_rfl) rfl rfl ⟨HQ4.out,HC8.out,HE1.out⟩ (fun hHeld=>?_)
      refine pure_ (i:=0) (N:=some 89) (v:=?_) (a':=?_) #[T,F,F,F,F,F,F,F,F,F,F,F,F] rfl rfl (by kernel_rfl) (fun _ _ _ h=>h) (Or.inl ⟨by rfl,?_⟩) ?_ ?_
      rotate_left;(intro w';go_simp;with_reducible rfl);rotate_left;(simp only [pq];rfl)
      refine pure_ (i:=1) (N:=some 90) (v:=?_) (a':=?_) #[T,T,F,F,F,F,F,F,F,F,F,F,F] rfl rfl (by kernel_rfl) (fun _ _ _ h=>h) (Or.inl ⟨by rfl,?_⟩) ?_ ?_
      rotate_left;(intro w';go_simp;with_reducible rfl);rotate_left;(simp only [pq];rfl)
      refine pure_ (i:=2) (N:=some 91) (v:=?_) (a':=?_) #[T,T,T,F,F,F,F,F,F,F,F,F,F] rfl rfl (by kernel_rfl) (fun _ _ _ h=>h) (Or.inl ⟨by rfl,?_⟩) ?_ ?_
      rotate_left;(intro w';go_simp;with_reducible rfl);rotate_left;(simp only [pq];rfl)
      refine pure_ (i:=3) (N:=some 92) (v:=?_) (a':=?_) #[T,T,T,T,F,F,F,F,F,F,F,F,F] rfl rfl (by kernel_rfl) (fun _ _ _ h=>h) (Or.inl ⟨by rfl,?_⟩) ?_ ?_
      rotate_left;(intro w';go_simp;with_reducible rfl);rotate_left;(simp only [pq];rfl)
      refine pure_ (i:=5) (N:=some 94) (v:=?_) (a':=?_) #[T,T,T,T,F,T,F,F,F,F,F,F,F] rfl rfl (by kernel_rfl) (fun _ _ _ h=>h) (Or.inl ⟨by rfl,?_⟩) ?_ ?_
      rotate_left;(intro w';go_simp;with_reducible rfl);rotate_left;(simp only [pq];rfl)
      refine pure_ (i:=6) (N:=some 95) (v:=?_) (a':=?_) #[T,T,T,T,F,T,T,F,F,F,F,F,F] rfl rfl (by kernel_rfl) (fun _ _ _ h=>h) (Or.inl ⟨by rfl,?_⟩) ?_ ?_
      rotate_left;(intro w';go_simp;with_reducible rfl);rotate_left;(simp only [pq];rfl)
      refine pure_ (i:=7) (N:=some 96) (v:=?_) (a':=?_) #[T,T,T,T,F,T,T,T,F,F,F,F,F] rfl rfl (by kernel_rfl) (fun _ _ _ h=>h) (Or.inl ⟨by rfl,?_⟩) ?_ ?_
      rotate_left;(intro w';go_simp;with_reducible rfl);rotate_left;(simp only [pq];rfl)
      refine take_ (i:=4) (N:=some 93) (v:=?_) (a':=?_) #[T,T,T,T,T,T,T,T,F,F,F,F,F] rfl rfl (by kernel_rfl) (fun _ _ _ h=>h) (Or.inl ⟨by rfl,?_⟩) hHeld ?_ ?_
      rotate_left
      ·rintro w' ⟨s0,s1,s2⟩
       go_simp
       with_reducible rfl
      rotate_left
      ·simp only [pq]
       rfl
      refine take_ (i:=8) (N:=some 97) (v:=?_) (a':=?_) #[T,T,T,T,T,T,T,T,T,F,F,F,F] rfl rfl (by kernel_rfl) (fun _ _ _ h=>h) (Or.inl ⟨by rfl,?_⟩) hHeld ?_ ?_
      rotate_left
      ·rintro w' ⟨s0,s1,s2⟩
       go_simp
       with_reducible rfl
      rotate_left
      ·simp only [pq]
       rfl
      refine pure_ (i:=9) (N:=some 98) (v:=?_) (a':=?_) #[T,T,T,T,T,T,T,T,T,T,F,F,F] rfl rfl (by kernel_rfl) (fun _ _ _ h=>h) (Or.inl ⟨by rfl,?_⟩) ?_ ?_
      rotate_left;(intro w';go_simp;with_reducible rfl);rotate_left;(simp only [pq];rfl)
      refine pure_ (i:=10) (N:=some 99) (v:=?_) (a':=?_) #[T,T,T,T,T,T,T,T,T,T,T,F,F] rfl rfl (by kernel_rfl) (fun _ _ _ h=>h) (Or.inl ⟨by rfl,?_⟩) ?_ ?_
      rotate_left;(intro w';go_simp;with_reducible rfl);rotate_left;(simp only [pq];rfl)
      refine take_ (i:=11) (N:=some 100) (v:=?_) (a':=?_) #[T,T,T,T,T,T,T,T,T,T,T,T,F] rfl rfl (by kernel_rfl) (fun _ _ _ h=>h) (Or.inl ⟨by rfl,?_⟩) hHeld ?_ ?_
      rotate_left
      ·rintro w' ⟨s0,s1,s2⟩
       go_simp
       with_reducible rfl
      rotate_left
      ·simp only [pq]
       rfl
      refine pure_ (i:=12) (N:=some 12) (v:=?_) (a':=?_) #[T,T,T,T,T,T,T,T,T,T,T,T,T] rfl rfl (by kernel_rfl) (fun _ _ _ h=>h) (Or.inl ⟨by rfl,?_⟩) ?_ ?_
      rotate_left;(intro w';go_simp;with_reducible rfl);rotate_left;(simp only [pq];rfl)
      refine done_ (by kernel_rfl) ?_
      have HB5:Aside0 (Below w0.heap.size w0 w4.drew):=⟨aO HB4.out⟩;have HKW5:Aside0 (Kept W w4.drew (fun k=>k=DB)):=⟨Kept.drew HKW4.out⟩;have HBK5:Aside0 (w4.drew.heap[DB]?=some (derObj A0 n0 c0 A1 n1 c1 a2 a3 (some ad) ps.length c4 AL L.length cL (at_+1))):=⟨HBK4.out⟩;generalize w4.drew=w5 at HB5 HKW5 HBK5 ⊢;clear HA4 HC8 HE1 HQ4 HB4 HBK4 HKW4;go_wp2
      go_loopg [11,13,14,15] r.length (fun kq v11 v13 v14 v15 wr=>∃(j at2:Nat) (out:List Int),v13= .int .i64 (j:Int)∧j≤r.length∧r.length - j≤kq∧Aside0 (out.length≤60+j)∧Aside0 (at2≤at_+1+j * B)∧Aside0 (drvL nxt (r.drop j) out at2=res)∧Aside0 (wr.heap[DB]?=some (derObj A0 n0 c0 A1 n1 c1 a2 a3 (some ad) ps.length c4 AL L.length cL at2))∧Aside0 (Kept W wr (fun k=>k=DB))∧Aside0 (Below w0.heap.size w0 wr)∧Aside0 (Kd.R (Kd.int .i64) 3 wr W.heap.size (fun _=>True) v11 out))
      case atStart=>exact⟨0,at_+1,[],rfl,by omega,by omega,⟨by simp⟩,⟨by omega⟩,⟨by simpa using HRES2.out.symm⟩,HBK5,HKW5,HB5,⟨Kd.R_nil _ _ _ _ _⟩⟩
      case round=>
       clear HBK5 HKW5 HB5 HRES2;obtain⟨j,at2,out,rfl,hj,hm,HOL,HAT2,HDR,HBK5,HKW5,HB5,HO⟩:=hrel
       by_cases hlt:j<r.length
       ·have d0:decide (j<r.length)=true:=decide_eq_true hlt
        have d1:(j<r.length)=True:=eq_true hlt;have H:=HDR.out;rw [List.drop_eq_getElem_cons hlt] at H;simp only [drvL] at H;obtain⟨Rp,ea5,e0,e1⟩:=at_T43 (bD HC5.out HB5.out) (j:Int) (by omega) (by omega)
        cases ea5;have hrd:rd_T43 r (j:Int)=r[j]:=by simp [rd_T43,hlt]
        rw [hrd] at e0 e1;rw [Int.toNat_natCast] at e0 e1;generalize r[j]=y at H e0 e1;obtain⟨tk,x5⟩:=y;simp only at H e0 e1;have p5:(0≤(j:Int))=True:=eq_true (by omega);have p6:((j:Int)<(r.length:Int))=True:=eq_true (by omega);have hwj:IntKind.i64.wrap ((j:Int)+1)=(j:Int)+1:=by rw [IntKind.wrap_i64];have:=HR10.out;omega
        have HLT:=aM hlt;have HM:=aM hm;have HSW:Aside0 (W.heap.size≤wr.heap.size):=⟨HKW5.out.1⟩;clear hlt hm hj hrd HDR
        cases tk with
        |true=>
         rw [if_pos rfl] at H;have HD2:=aM H;clear H
         go_wp2_with (first|((with_reducible refine gate_builtin (b:= .append) (xs:=#[.tmp 112,.tmp 118]) rfl ?_);at_builtin;refine Kd.R_append (Kd.int .i64) (w0:=wr) W.heap.size rfl (.tmp 112) (.tmp 118) 32 3 (.int .i64 0) 8 rfl Try.underlying32 diInt rfl (by decide) (by omega) u11 out x5 [.int .i64 x5] (fun _=>True) (fun _=>False) rfl rfl rfl (fun _ hk=>hk.elim) (fun _ _=>trivial) HO.out (Below.refl _ _) HSW.out (by have:=HOL.out;have:=HR10.out;have:=HLT.out;omega) ?_;intro v1 w6 ho hb hg hat;have BZ:=aM ho;have HBK6:=aM ((hb.block DB HDBW.out).trans HBK5.out);have HKW6:=aM (kept_step HKW5.out hb);have HB6:Aside0 (Below w0.heap.size w0 w6):=⟨HB5.out.trans (hb.mono HB.out.size)⟩;clear ho hb hg hat))
         go_roundg (r.length - (j+1))
         case measure=>have:=HM.out;have:=HLT.out;omega
         case rel=>exact⟨j+1,at2,out++ [x5],rfl,by have:=HLT.out;omega,Nat.le_refl _,⟨by have:=HOL.out;simp;omega⟩,⟨by have:=HAT2.out;rw [Nat.succ_mul];omega⟩,HD2,HBK6,HKW6,HB6,BZ⟩
        |false=>
         rw [if_neg (by simp)] at H;have hjB:(j+1) * B≤10 * B:=Nat.mul_le_mul_right _ (by have:=HLT.out;have:=HR10.out;omega);rw [Nat.succ_mul] at hjB;have P6:=aM (HREC2.out x5 at2 wr (by have:=HAT2.out;have:=HLIM.out;omega) HB5.out HBK5.out);have hna:=HN.out x5 at2;have hwd:IntKind.i64.wrap ((deep:Int)+1)=(deep:Int)+1:=by rw [IntKind.wrap_i64];have:=HDEEP.out;omega
         generalize nxt x5 at2=q at H P6 hna;obtain⟨⟨lq,okq⟩,aq⟩:=q;simp only at H hna;have HNA:=aM hna;have HH:=aM H;clear H hna hjB
         go_upto_region 21 with(first|(go_at_call 21;(with_reducible refine P6.out.mono ?_);rintro e w6 ⟨v6,rfl,HR6,HBK6,HK6,HB6⟩;clear P6))
         have BZ:=aM (Kd.R_kept (Kd.R_mono (ok':=fun k=>W.heap.size≤k) (Kd.R_bound HO.out) (fun k hk=>hk.2.1)) HK6.out (fun k hk h=>by have:=HDBW.out;omega));have HKW6:=aM (Kept.then_ HKW5.out HK6.out (fun k hk=> .inl hk));have H:=HH.out;obtain⟨A6,m6,c6,rfl⟩:∃A n c,v6= .slice A n c:=by obtain⟨A,c,e⟩:=Kd.R_slice HR6.out;exact⟨A,_,c,e⟩
         obtain⟨A11,m11,c11,rfl⟩:∃A n c,u11= .slice A n c:=by obtain⟨A,c,e⟩:=Kd.R_slice BZ.out;exact⟨A,_,c,e⟩
         have hm6:=(aF HR6.out).1;have hm11:=(aF BZ.out).1;have HSW6:Aside0 (W.heap.size≤w6.heap.size):=⟨HKW6.out.1⟩;have hwm:IntKind.i64.wrap ((m11:Int)+(m6:Int))=(m11:Int)+(m6:Int):=by rw [IntKind.wrap_i64];have:=HOL.out;have:=HNA.out.2;have:=HR10.out;have:=HLT.out;omega
         have HM6:=aM hm6;have HM11:=aM hm11;clear HO HKW5 HBK5 HB5 HH hm6 hm11 e0 e1
         cases okq with
         |false=>
          rw [if_neg (by simp)] at H;subst H;go_wp2
          go_ret2
          exact⟨_,rfl,⟨Kd.R_nil _ _ _ _ _⟩,HBK6,HKW6,HB6⟩
         |true=>
          rw [if_pos rfl] at H
          by_cases hs:out.length+lq.length>60
          ·rw [if_pos hs] at H
           subst H;have s0:60<m11+m6:=by have:=HM6.out;have:=HM11.out;omega
           have s1:decide ((m11:Int)+(m6:Int)>60)=true:=decide_eq_true (by omega);have s2:((60:Int)<(m11:Int)+(m6:Int))=True:=eq_true (by omega);clear hs;go_wp2
           go_ret2
           exact⟨_,rfl,⟨Kd.R_nil _ _ _ _ _⟩,HBK6,HKW6,HB6⟩
          ·rw [if_neg hs] at H
           have HD2:=aM H;have HSL:Aside0 (out.length+lq.length≤60):=⟨by omega⟩;have s0:¬60<m11+m6:=by have:=HM6.out;have:=HM11.out;omega
           have s1:decide ((m11:Int)+(m6:Int)>60)=false:=decide_eq_false (by omega);have s2:((60:Int)<(m11:Int)+(m6:Int))=False:=eq_false (by omega);clear hs H
           go_wp2_with (first|((with_reducible refine gate_builtin (b:= .append) (xs:=#[.tmp 142,.tmp 143]) rfl ?_);at_builtin;refine Kd.R_append_rows (Kd.int .i64) (Rr:=(Kd.int .i64).K w6) (w0:=w6) W.heap.size rfl (.tmp 142) (.tmp 143) 32 3 (.int .i64 0) 8 rfl Try.underlying32 diInt rfl (by decide) (by omega) (.slice A11 m11 c11) out lq A6 m6 c6 (fun _=>True) (fun _=>False) rfl rfl (Kd.R_mono BZ.out (fun _ _=>trivial)) (by have h:=(aF HR6.out).2.2;rw [←HM6.out] at h;exact h) (fun _ _ h=>h) (fun _ h=>h.elim) (fun _ _=>trivial) (Below.refl _ _) HSW6.out (by have:=HM6.out;have:=HSL.out;omega) ?_;intro v1 w7 ho hb hg hat;have VE:=aM ho;have HBK7:=aM ((hb.block DB HDBW.out).trans HBK6.out);have HKW7:=aM (kept_step HKW6.out hb);have HB7:Aside0 (Below w0.heap.size w0 w7):=⟨HB6.out.trans (hb.mono HB.out.size)⟩;clear ho hb hg hat))
           go_roundg (r.length - (j+1))
           case measure=>have:=HM.out;have:=HLT.out;omega
           case rel=>exact⟨j+1,aq,out++lq,rfl,by have:=HLT.out;omega,Nat.le_refl _,⟨by have:=HSL.out;simp;omega⟩,⟨by have:=HAT2.out;have:=HNA.out.1;rw [Nat.succ_mul];omega⟩,HD2,HBK7,HKW7,HB7,VE⟩
       ·obtain rfl:j=r.length:=by omega
        have H:=HDR.out;rw [List.drop_length] at H;simp only [drvL] at H;subst H;clear hlt HDR;go_wp2
        go_ret2
        exact⟨_,rfl,HO,HBK5,HKW5,HB5⟩
theorem derive_any (ps:List S35) (L:List Int) (w0:World) (DB:Nat) (A0:Option Addr) (n0 c0:Nat) (A1:Option Addr) (n1 c1:Nat) (a2 a3:Int) (A4:Option Addr) (c4:Nat) (AL:Option Addr) (cL:Nat) (hDB:w0.heap.size≤DB) (hps:Kd.C k35 w0 A4 ps.length ps) (hL:Kd.C (Kd.int .u8) w0 AL L.length L) (hu:∀x∈L,0≤x∧x≤255) (hr:∀p∈ps,p.f1.length≤10) (hps2:ps.length≤1000000):∀(f:Nat) (rule:Int) (deep at_:Nat) (W:World),
 12≤deep+f→deep≤12→at_+11 ^ f≤1125899906842624→Below w0.heap.size w0 W→W.heap[DB]?=some (derObj A0 n0 c0 A1 n1 c1 a2 a3 A4 ps.length c4 AL L.length cL at_)→
 Calls Try.prog 21 #[.pointer (some ⟨DB,0,none⟩),.int .i64 rule,.int .i64 (deep:Int)] W (DerPost w0 W DB (derObj A0 n0 c0 A1 n1 c1 a2 a3 A4 ps.length c4 AL L.length cL) (drv ps L f rule deep at_))
 |0,rule,deep,at_,W,h1,h2,h3,hB,hblk=>by
  have hst:(dAll ps rule ps.length).length=0∨10<deep:= .inr (by omega);exact derive_step ps L w0 DB A0 n0 c0 A1 n1 c1 a2 a3 A4 c4 AL cL hDB hps hL hu hr hps2 rule deep at_ W (by omega) hB hblk (fun _ a=>(([],false),a)) 0 _ (by simp at h3;omega) (fun r a=>⟨by simp,by simp⟩) (by rw [if_pos hst];rfl) (fun hn=>absurd hst hn)
 |f+1,rule,deep,at_,W,h1,h2,h3,hB,hblk=>by
  have h5:1≤11 ^ f:=Nat.one_le_pow _ _ (by decide);rw [Nat.pow_succ] at h3
  exact derive_step ps L w0 DB A0 n0 c0 A1 n1 c1 a2 a3 A4 c4 AL cL hDB hps hL hu hr hps2 rule deep at_ W (by omega) hB hblk (fun r a=>drv ps L f r (deep+1) a) (11 ^ f) _ (by omega) (fun r a=>⟨drv_at hr f r (deep+1) a,drv_len hr f r (deep+1) a⟩) (by rw [drv])
   (fun hn r a W' ha hB' hb'=>by
    have hd:deep≤10:=Nat.le_of_not_lt (fun h=>hn (.inr h));exact derive_any ps L w0 DB A0 n0 c0 A1 n1 c1 a2 a3 A4 c4 AL cL hDB hps hL hu hr hps2 f r (deep+1) a W' (by omega) (by omega) (by omega) hB' hb')
end Go.Proofs.Ytapjfnfengefpaa.P
end

section
namespace Go.Proofs.Ytapjfnfengefpaa.R
open Go.RowKit Go.Proofs.YtapjfnfengefpaaW.PrintWords Go.Proofs.YtapjfnfengefpaaW.PrintLast Go.Proofs.YtapjfnfengefpaaW.PrintMore
variable {α:Type}{d:Kd α}{t e:Nat}{w:World}{base n cap:Nat}{ok:Nat→Prop}{A:Option Addr}{v:Value}{m:List (List α)}
theorem S_row (hE:d.E= []) (h:Kd.S (Kd.slice t d) e w base ok (.slice A n cap) m) (i:Int) (h0:0≤i) (h1:i<m.length):
 ∃(g:Nat) (v:Value) (P:Nat→Prop),A=some ⟨g,0,none⟩∧w.cell? ⟨g,i.toNat,none⟩=some v∧d.R t w base P v (m.getD i.toNat [])∧(∀k,P k→ok k∧k≠g)∧
  ∀(w1:World) (P':Nat→Prop) (row':List α),Kept w w1 P→d.R t w1 base P' v row'→Kd.S (Kd.slice t d) e w1 base ok (.slice A n cap) (m.set i.toNat row'):=by
 obtain⟨g,cap',hv,_⟩:=Kd.S_form h (by omega);injection hv with hA hn hc
 subst hA;subst hn;subst hc;obtain⟨oki,c,hcl,hM,hcell,hoki,hH⟩:=Kd.S_lend h ([]:List α) i h0 h1;obtain⟨v,rfl,hR⟩:=hM;refine⟨g,v,oki,rfl,?_,hR,hoki,fun w1 P' row' hk hR'=>?_⟩
 ·have:=hcell 0 v rfl
  rwa [show(Kd.slice t d).sz=1 from rfl,Nat.mul_one,Nat.add_zero] at this
 ·have hH':=Kd.H_step hH (fun k _ hn hlt=>hk.2 k hlt hn)
  exact Kd.H_back hH' (Kd.M_row (Kd.R_tight hE hR')) (fun k hk'=>hR.1 k hk'.symm)
end Go.Proofs.Ytapjfnfengefpaa.R
end

section
namespace Go.Proofs.Ytapjfnfengefpaa.P
open Go.RowKit Go.Proofs.YtapjfnfengefpaaW.PrintWords Go.Proofs.YtapjfnfengefpaaW.PrintLast Go.Proofs.YtapjfnfengefpaaW.PrintMore
set_option linter.unusedVariables false
set_option linter.unusedSimpArgs false
def okSym (nn nt:Nat) (x:S43):Bool:=decide (0≤x.f1) && (if x.f0=true then decide (x.f1<(nt:Int)) else decide (x.f1<(nn:Int)))
def okProd (nn nt:Nat) (x:S35):Bool:=decide (0≤x.f0) && decide (x.f0<(nn:Int)) && x.f1.all (okSym nn nt)
theorem symbols1_any (x:S43) (B:Nat) (W:World) (A0 A1:Option Addr) (n0 n1 c0 c1:Nat)
 (h0:W.cell? ⟨B,0,none⟩=some (.slice A0 n0 c0)) (h1:W.cell? ⟨B,1,none⟩=some (.slice A1 n1 c1)) (hB:B<W.heap.size):
 Calls Try.prog 61 #[.agg #[.bool x.f0,.int .i64 x.f1],.pointer (some ⟨B,0,none⟩)] W fun e w'=>e= .returned (.bool (!okSym n0 n1 x))∧Below W.heap.size W w':=by
 have hne:B≠W.heap.size:=by omega
 obtain⟨b,n⟩:=x
 unfold okSym
 by_cases c0:n<0
 ·have d0:decide (n<0)=true:=decide_eq_true c0
  have d1:decide (0≤n)=false:=decide_eq_false (by omega)
  cases b<;>(go_enter Try.func61,Try.ntmps61;go_wp2;go_ret;exact⟨rfl,(Below.refl _ W).alloc (Nat.le_refl _) _⟩)
 have d0:decide (n<0)=false:=decide_eq_false c0;have d1:decide (0≤n)=true:=decide_eq_true (by omega)
 cases b with
 |true=>
  by_cases c2:(n1:Int)≤n
  ·have d2:decide ((n1:Int)≤n)=true:=decide_eq_true c2
   have d3:decide (n<(n1:Int))=false:=decide_eq_false (by omega);go_enter Try.func61,Try.ntmps61
   go_wp2
   go_ret
   exact⟨rfl,(Below.refl _ W).alloc (Nat.le_refl _) _⟩
  ·have d2:decide ((n1:Int)≤n)=false:=decide_eq_false c2
   have d3:decide (n<(n1:Int))=true:=decide_eq_true (by omega);go_enter Try.func61,Try.ntmps61
   go_wp2
   go_ret
   exact⟨rfl,(Below.refl _ W).alloc (Nat.le_refl _) _⟩
 |false=>
  by_cases c2:(n0:Int)≤n
  ·have d2:decide ((n0:Int)≤n)=true:=decide_eq_true c2
   have d3:decide (n<(n0:Int))=false:=decide_eq_false (by omega);go_enter Try.func61,Try.ntmps61
   go_wp2
   go_ret
   exact⟨rfl,(Below.refl _ W).alloc (Nat.le_refl _) _⟩
  ·have d2:decide ((n0:Int)≤n)=false:=decide_eq_false c2
   have d3:decide (n<(n0:Int))=true:=decide_eq_true (by omega);go_enter Try.func61,Try.ntmps61
   go_wp2
   go_ret
   exact⟨rfl,(Below.refl _ W).alloc (Nat.le_refl _) _⟩
theorem indexSym_any (p:S43→Bool) (g:Nat) (lb:Array Value) (eg:∀args w,(callFunc g args).run Try.prog w= .ok (.enter g args) w) (A:Option Addr) (c:Nat) (zs:List S43) (w:World)
 (hr:Kd.C k43 w A zs.length zs) (hbig:zs.length≤9223372036854775807) (hp:∀(W:World) (x:S43),x∈zs→Below w.heap.size w W→Calls Try.prog g (#[.agg #[.bool x.f0,.int .i64 x.f1]]++lb) W fun e w'=>e= .returned (.bool (p x))∧Below w.heap.size w w'):
 Calls Try.prog 58 #[.slice A zs.length c,.func (.func g) #[] lb] w fun e w'=>(∃n:Int,e= .returned (.int .i64 n)∧Aside0 (decide (0≤n)=zs.any p))∧Below w.heap.size w w':=by
 go_enter Try.func58,Try.ntmps58
 go_wp2
 go_loopg [5,8] zs.length (fun gg _ s8 wr=>∃kk:Nat,kk≤zs.length∧zs.length - kk≤gg∧s8= .int .i64 kk∧Aside0 (Below w.heap.size w wr)∧Aside0 ((zs.take kk).any p=false))
 case atStart=>exact⟨0,Nat.zero_le _,by omega,rfl,⟨Below.refl _ w⟩,⟨by simp⟩⟩
 case round=>
  obtain⟨kk,hkk,hg,rfl,BW,PA⟩:=hrel
  by_cases hlt:kk<zs.length
  ·have hltz:(kk:Int)<(zs.length:Int):=by omega
   have hrd:rd_T43 zs (kk:Int)=zs[kk]:=by simp [rd_T43,hlt]
   obtain⟨ad,e,l0,l1⟩:=at_T43 (bD hr BW.out) (kk:Int) (by omega) (by omega);have hcall:=hp wr zs[kk] (List.getElem_mem hlt) BW.out;rw [hrd,Int.toNat_natCast] at l0 l1;subst e;have PB:Aside0 ((zs.take (kk+1)).any p=p zs[kk]):=⟨by rw [List.take_succ_eq_append_getElem hlt,List.any_append,PA.out];simp⟩
   have PC:Aside0 (zs.any p=(p zs[kk]||(zs.drop (kk+1)).any p)):=⟨by
    conv=>lhs;rw [←List.take_append_drop (kk+1) zs]
    rw [List.any_append,PB.out]⟩
   clear hp hr hrd;generalize zs[kk]=y at l0 l1 hcall PB PC
   cases hq:p y with
   |true=>
    rw [hq] at hcall;have PD:Aside0 (zs.any p=true):=⟨by rw [PC.out,hq];simp⟩;clear PA PB PC hq
    go_wp2_with (go_at_fn g;refine hcall.mono ?_;rintro e w' ⟨rfl,hb'⟩)
    go_ret
    exact⟨⟨_,rfl,⟨by rw [PD.out];simp⟩⟩,hb'⟩
   |false=>
    rw [hq] at hcall;have PD:Aside0 ((zs.take (kk+1)).any p=false):=⟨by rw [PB.out,hq]⟩;clear PA PB PC hq
    go_wp2_with (go_at_fn g;refine hcall.mono ?_;rintro e w' ⟨rfl,hb'⟩)
    go_roundg (zs.length - (kk+1))
    case measure=>omega
    case rel=>exact⟨kk+1,by omega,by omega,by go_num,⟨hb'⟩,PD⟩
  ·have hltz:¬(kk:Int)<(zs.length:Int):=by omega
   have:kk=zs.length:=by omega
   subst this;have PD:Aside0 (zs.any p=false):=⟨by have:=PA.out;rwa [List.take_length] at this⟩;clear PA hp hr;go_wp2
   go_ret
   exact⟨⟨-1,rfl,⟨by rw [PD.out];simp⟩⟩,BW.out⟩
theorem containsSym_any (p:S43→Bool) (g:Nat) (lb:Array Value) (eg:∀args w,(callFunc g args).run Try.prog w= .ok (.enter g args) w) (A:Option Addr) (c:Nat) (zs:List S43) (w:World)
 (hr:Kd.C k43 w A zs.length zs) (hbig:zs.length≤9223372036854775807) (hp:∀(W:World) (x:S43),x∈zs→Below w.heap.size w W→Calls Try.prog g (#[.agg #[.bool x.f0,.int .i64 x.f1]]++lb) W fun e w'=>e= .returned (.bool (p x))∧Below w.heap.size w w'):
 Calls Try.prog 51 #[.slice A zs.length c,.func (.func g) #[] lb] w fun e w'=>e= .returned (.bool (zs.any p))∧Below w.heap.size w w':=by
 have hcon:=indexSym_any p g lb eg A c zs w hr hbig hp;have e6:∀args w,(callFunc 58 args).run Try.prog w= .ok (.enter 58 args) w:=enters_of Try.func58 (by kernel_rfl) rfl;clear hp hr;go_enter Try.func51,Try.ntmps51
 go_wp2_with (go_at_fn 58;refine hcon.mono ?_;rintro e w' ⟨⟨nn_,rfl,hn_⟩,hb'⟩)
 go_ret
 exact⟨by rw [←hn_.out];rfl,hb'⟩
theorem any_not {α:Type}(p:α→Bool) (l:List α):(!l.any fun x=>!p x)=l.all p:=by
 induction l with
 |nil=>rfl
 |cons a l ih=>simp only [List.any_cons,List.all_cons,←ih];cases p a<;>simp
def firsts_symbols.f (aU:List ByteArray) (aX:List (S72)) (bA:Int) (bB:Int) (aQ:List (S35)) (l1:List (S43)):Option Bool:=if l1.length≤9223372036854775807 then some (l1.all (okSym aU.length aX.length)) else none
theorem firsts_symbols.calls (bM:Option Addr) (bO:Nat) (aU:List ByteArray) (bQ:Option Addr) (bR:Nat) (aX:List (S72)) (bA:Int) (bB:Int) (bV:Option Addr) (bS:Nat) (aQ:List (S35)) (A1:Option Addr) (c1:Nat) (l1:List (S43)) (r:Bool) (w:World)
 (dX:Kd.C Kd.string w bM aU.length aU) (eE:aU.length≤bO) (eF:Kd.C k72 w bQ aX.length aX) (eG:aX.length≤bR) (dZ:Kd.C k35 w bV aQ.length aQ) (eM:aQ.length≤bS) (hr1:Kd.C k43 w A1 l1.length l1) (hc1:l1.length≤c1)
 (h:firsts_symbols.f aU aX bA bB aQ l1=some r):
 Calls Try.prog 56 #[.agg #[.slice bM aU.length bO,.slice bQ aX.length bR,.int .i64 bA,.int .i64 bB,.slice bV aQ.length bS],.slice A1 l1.length c1] w fun e w'=>e= .returned (.bool r)∧Below w.heap.size w w':=by
 unfold firsts_symbols.f at h
 split at h
 case isFalse=>simp at h
 rename_i hbig
 obtain rfl:=Option.some.inj h;clear h;have eg:∀args w,(callFunc 61 args).run Try.prog w= .ok (.enter 61 args) w:=enters_of Try.func61 (by kernel_rfl) rfl;have e6:∀args w,(callFunc 51 args).run Try.prog w= .ok (.enter 51 args) w:=enters_of Try.func51 (by kernel_rfl) rfl;have HW:Aside0 (Below w.heap.size w (w.alloc (.cells #[.slice bM aU.length bO,.slice bQ aX.length bR,.int .i64 bA,.int .i64 bB,.slice bV aQ.length bS] 26))):=⟨(Below.refl _ w).alloc (Nat.le_refl _) _⟩
 have hcon:=containsSym_any (fun x=>!okSym aU.length aX.length x) 61 #[.pointer (some ⟨w.heap.size,0,none⟩)] eg A1 c1 l1 (w.alloc (.cells #[.slice bM aU.length bO,.slice bQ aX.length bR,.int .i64 bA,.int .i64 bB,.slice bV aQ.length bS] 26)) (bD hr1 HW.out) hbig (fun W x _ hb=>by
  have hlt:w.heap.size<(w.alloc (.cells #[.slice bM aU.length bO,.slice bQ aX.length bR,.int .i64 bA,.int .i64 bB,.slice bV aQ.length bS] 26)).heap.size:=by simp
  refine(symbols1_any x w.heap.size W bM bQ aU.length aX.length bO bR ?_ ?_ (Nat.lt_of_lt_of_le hlt hb.size)).mono ?_
  ·exact(hb.cell (p:=⟨w.heap.size,0,none⟩) hlt).trans (by simp)
  ·exact(hb.cell (p:=⟨w.heap.size,1,none⟩) hlt).trans (by simp)
  ·rintro e w' ⟨he,hb'⟩
   exact⟨he,hb.trans (hb'.mono hb.size)⟩)
 clear dX eF dZ hr1;rw [←any_not];generalize (l1.any fun x=>!okSym aU.length aX.length x)=rr at hcon ⊢;go_enter Try.func56,Try.ntmps56
 go_wp2_with (go_at_fn 51;refine hcon.mono ?_;rintro e w' ⟨rfl,hb'⟩)
 go_ret
 exact⟨rfl,HW.out.trans (hb'.mono (by simp))⟩
theorem indexProd_any (p:S35→Bool) (g:Nat) (lb:Array Value) (eg:∀args w,(callFunc g args).run Try.prog w= .ok (.enter g args) w) (A:Option Addr) (c:Nat) (zs:List S35) (w:World)
 (hr:Kd.C k35 w A zs.length zs) (hbig:zs.length≤9223372036854775807) (hp:∀(W:World) (x:S35) (A1:Option Addr) (c1:Nat),x∈zs→Below w.heap.size w W→x.f1.length≤c1→Kd.C k43 W A1 x.f1.length x.f1→Calls Try.prog g (#[.agg #[.int .i64 x.f0,.slice A1 x.f1.length c1]]++lb) W fun e w'=>e= .returned (.bool (p x))∧Below w.heap.size w w'):
 Calls Try.prog 60 #[.slice A zs.length c,.func (.func g) #[] lb] w fun e w'=>(∃n:Int,e= .returned (.int .i64 n)∧Aside0 (decide (0≤n)=zs.any p))∧Below w.heap.size w w':=by
 go_enter Try.func60,Try.ntmps60
 go_wp2
 go_loopg [5,8] zs.length (fun gg _ s8 wr=>∃kk:Nat,kk≤zs.length∧zs.length - kk≤gg∧s8= .int .i64 kk∧Aside0 (Below w.heap.size w wr)∧Aside0 ((zs.take kk).any p=false))
 case atStart=>exact⟨0,Nat.zero_le _,by omega,rfl,⟨Below.refl _ w⟩,⟨by simp⟩⟩
 case round=>
  obtain⟨kk,hkk,hg,rfl,BW,PA⟩:=hrel
  by_cases hlt:kk<zs.length
  ·have hltz:(kk:Int)<(zs.length:Int):=by omega
   have hrd:rd_T35 zs (kk:Int)=zs[kk]:=by simp [rd_T35,hlt]
   obtain⟨ad,A1,c1,e,l0,l1,hle1,hC1⟩:=at_T35 (bD hr BW.out) (kk:Int) (by omega) (by omega);have hcall:=hp wr zs[kk] A1 c1 (List.getElem_mem hlt) BW.out (by rw [←hrd];exact hle1) (by rw [←hrd];exact hC1);rw [hrd,Int.toNat_natCast] at l0 l1;subst e;have PB:Aside0 ((zs.take (kk+1)).any p=p zs[kk]):=⟨by rw [List.take_succ_eq_append_getElem hlt,List.any_append,PA.out];simp⟩
   have PC:Aside0 (zs.any p=(p zs[kk]||(zs.drop (kk+1)).any p)):=⟨by
    conv=>lhs;rw [←List.take_append_drop (kk+1) zs]
    rw [List.any_append,PB.out]⟩
   clear hp hr hrd hle1 hC1;generalize zs[kk]=y at l0 l1 hcall PB PC
   cases hq:p y with
   |true=>
    rw [hq] at hcall;have PD:Aside0 (zs.any p=true):=⟨by rw [PC.out,hq];simp⟩;clear PA PB PC hq
    go_wp2_with (go_at_fn g;refine hcall.mono ?_;rintro e w' ⟨rfl,hb'⟩)
    go_ret
    exact⟨⟨_,rfl,⟨by rw [PD.out];simp⟩⟩,hb'⟩
   |false=>
    rw [hq] at hcall;have PD:Aside0 ((zs.take (kk+1)).any p=false):=⟨by rw [PB.out,hq]⟩;clear PA PB PC hq
    go_wp2_with (go_at_fn g;refine hcall.mono ?_;rintro e w' ⟨rfl,hb'⟩)
    go_roundg (zs.length - (kk+1))
    case measure=>omega
    case rel=>exact⟨kk+1,by omega,by omega,by go_num,⟨hb'⟩,PD⟩
  ·have hltz:¬(kk:Int)<(zs.length:Int):=by omega
   have:kk=zs.length:=by omega
   subst this;have PD:Aside0 (zs.any p=false):=⟨by have:=PA.out;rwa [List.take_length] at this⟩;clear PA hp hr;go_wp2
   go_ret
   exact⟨⟨-1,rfl,⟨by rw [PD.out];simp⟩⟩,BW.out⟩
theorem containsProd_any (p:S35→Bool) (g:Nat) (lb:Array Value) (eg:∀args w,(callFunc g args).run Try.prog w= .ok (.enter g args) w) (A:Option Addr) (c:Nat) (zs:List S35) (w:World)
 (hr:Kd.C k35 w A zs.length zs) (hbig:zs.length≤9223372036854775807) (hp:∀(W:World) (x:S35) (A1:Option Addr) (c1:Nat),x∈zs→Below w.heap.size w W→x.f1.length≤c1→Kd.C k43 W A1 x.f1.length x.f1→Calls Try.prog g (#[.agg #[.int .i64 x.f0,.slice A1 x.f1.length c1]]++lb) W fun e w'=>e= .returned (.bool (p x))∧Below w.heap.size w w'):
 Calls Try.prog 54 #[.slice A zs.length c,.func (.func g) #[] lb] w fun e w'=>e= .returned (.bool (zs.any p))∧Below w.heap.size w w':=by
 have hcon:=indexProd_any p g lb eg A c zs w hr hbig hp;have e6:∀args w,(callFunc 60 args).run Try.prog w= .ok (.enter 60 args) w:=enters_of Try.func60 (by kernel_rfl) rfl;clear hp hr;go_enter Try.func54,Try.ntmps54
 go_wp2_with (go_at_fn 60;refine hcon.mono ?_;rintro e w' ⟨⟨nn_,rfl,hn_⟩,hb'⟩)
 go_ret
 exact⟨by rw [←hn_.out];rfl,hb'⟩
theorem Right1_any (x:S35) (A1:Option Addr) (c1:Nat) (B:Nat) (W:World) (bM:Option Addr) (bO:Nat) (aU:List ByteArray) (bQ:Option Addr) (bR:Nat) (aX:List (S72)) (bA:Int) (bB:Int) (bV:Option Addr) (bS:Nat) (aQ:List (S35))
 (dX:Kd.C Kd.string W bM aU.length aU) (eE:aU.length≤bO) (eF:Kd.C k72 W bQ aX.length aX) (eG:aX.length≤bR) (dZ:Kd.C k35 W bV aQ.length aQ) (eM:aQ.length≤bS)
 (hb:W.heap[B]?=some (.cells #[.slice bM aU.length bO,.slice bQ aX.length bR,.int .i64 bA,.int .i64 bB,.slice bV aQ.length bS] 26 (0,0)))
 (hle:x.f1.length≤c1) (hbig:x.f1.length≤9223372036854775807) (hC:Kd.C k43 W A1 x.f1.length x.f1):
 Calls Try.prog 55 #[.agg #[.int .i64 x.f0,.slice A1 x.f1.length c1],.pointer (some ⟨B,0,none⟩)] W fun e w'=>e= .returned (.bool (!okProd aU.length aX.length x))∧Below W.heap.size W w':=by
 have hB:=bN hb;have hne:B≠W.heap.size:=by omega
 have q0:W.cell? ⟨B,0,none⟩=some (.slice bM aU.length bO):=(aG hb 0).trans rfl;have q1:W.cell? ⟨B,1,none⟩=some (.slice bQ aX.length bR):=(aG hb 1).trans rfl;have q2:W.cell? ⟨B,2,none⟩=some (.int .i64 bA):=(aG hb 2).trans rfl;have q3:W.cell? ⟨B,3,none⟩=some (.int .i64 bB):=(aG hb 3).trans rfl;have q4:W.cell? ⟨B,4,none⟩=some (.slice bV aQ.length bS):=(aG hb 4).trans rfl;clear hb;obtain⟨n,l⟩:=x;simp only at hle hbig hC ⊢
 have hcon:=firsts_symbols.calls bM bO aU bQ bR aX bA bB bV bS aQ A1 c1 l (l.all (okSym aU.length aX.length)) (W.alloc (.cells #[.int .i64 n,.slice A1 l.length c1] 35))
  (bD dX ((Below.refl _ W).alloc (Nat.le_refl _) _)) eE (bD eF ((Below.refl _ W).alloc (Nat.le_refl _) _)) eG (bD dZ ((Below.refl _ W).alloc (Nat.le_refl _) _)) eM (bD hC ((Below.refl _ W).alloc (Nat.le_refl _) _)) hle (by unfold firsts_symbols.f;rw [if_pos hbig])
 unfold okProd
 generalize l.all (okSym aU.length aX.length)=rr at hcon ⊢;clear dX eF dZ hC
 by_cases d0:n<0
 ·have e0:decide (n<0)=true:=decide_eq_true d0
  have e1:decide (0≤n)=false:=decide_eq_false (by omega);go_enter Try.func55,Try.ntmps55
  go_wp2
  go_ret
  exact⟨by first|rfl|(rw [e1];rfl),(Below.refl _ W).alloc (Nat.le_refl _) _⟩
 ·have e0:decide (n<0)=false:=decide_eq_false d0
  have e1:decide (0≤n)=true:=decide_eq_true (by omega)
  by_cases d2:(aU.length:Int)≤n
  ·have e2:decide ((aU.length:Int)≤n)=true:=decide_eq_true d2
   have e3:decide (n<(aU.length:Int))=false:=decide_eq_false (by omega);go_enter Try.func55,Try.ntmps55
   go_wp2
   go_ret
   exact⟨by first|rfl|(rw [e1,e3];rfl),(Below.refl _ W).alloc (Nat.le_refl _) _⟩
  ·have e2:decide ((aU.length:Int)≤n)=false:=decide_eq_false d2
   have e3:decide (n<(aU.length:Int))=true:=decide_eq_true (by omega);go_enter Try.func55,Try.ntmps55
   go_wp2_with (go_at_call 56;refine hcon.mono ?_;rintro e w' ⟨rfl,hb'⟩)
   go_ret
   exact⟨by first|(rw [e1,e3];simp;done)|simp,((Below.refl _ W).alloc (Nat.le_refl _) _).trans (hb'.mono (by simp))⟩
def firsts_Right.f (aU:List ByteArray) (aX:List (S72)) (bA:Int) (bB:Int) (aQ:List (S35)):Option Bool:=if aQ.length≤9223372036854775807∧aQ.all (fun p=>decide (p.f1.length≤9223372036854775807))=true then some (aQ.all (okProd aU.length aX.length)) else none
theorem firsts_Right.calls (bM:Option Addr) (bO:Nat) (aU:List ByteArray) (bQ:Option Addr) (bR:Nat) (aX:List (S72)) (bA:Int) (bB:Int) (bV:Option Addr) (bS:Nat) (aQ:List (S35)) (r:Bool) (w:World)
 (dX:Kd.C Kd.string w bM aU.length aU) (eE:aU.length≤bO) (eF:Kd.C k72 w bQ aX.length aX) (eG:aX.length≤bR) (dZ:Kd.C k35 w bV aQ.length aQ) (eM:aQ.length≤bS)
 (h:firsts_Right.f aU aX bA bB aQ=some r):
 Calls Try.prog 39 #[.agg #[.slice bM aU.length bO,.slice bQ aX.length bR,.int .i64 bA,.int .i64 bB,.slice bV aQ.length bS]] w fun e w'=>e= .returned (.bool r)∧Below w.heap.size w w':=by
 unfold firsts_Right.f at h
 split at h
 case isFalse=>simp at h
 rename_i hbig
 obtain⟨hbig,hrow⟩:=hbig;obtain rfl:=Option.some.inj h;clear h;have eg:∀args w,(callFunc 55 args).run Try.prog w= .ok (.enter 55 args) w:=enters_of Try.func55 (by kernel_rfl) rfl;have e6:∀args w,(callFunc 54 args).run Try.prog w= .ok (.enter 54 args) w:=enters_of Try.func54 (by kernel_rfl) rfl;have HW:Aside0 (Below w.heap.size w (w.alloc (.cells #[.slice bM aU.length bO,.slice bQ aX.length bR,.int .i64 bA,.int .i64 bB,.slice bV aQ.length bS] 26))):=⟨(Below.refl _ w).alloc (Nat.le_refl _) _⟩
 have hcon:=containsProd_any (fun x=>!okProd aU.length aX.length x) 55 #[.pointer (some ⟨w.heap.size,0,none⟩)] eg bV bS aQ (w.alloc (.cells #[.slice bM aU.length bO,.slice bQ aX.length bR,.int .i64 bA,.int .i64 bB,.slice bV aQ.length bS] 26)) (bD dZ HW.out) hbig (fun W x A1 c1 hx hb hle hC=>by
  have hlt:w.heap.size<(w.alloc (.cells #[.slice bM aU.length bO,.slice bQ aX.length bR,.int .i64 bA,.int .i64 bB,.slice bV aQ.length bS] 26)).heap.size:=by simp
  have hall:=HW.out.trans (hb.mono (by simp));refine(Right1_any x A1 c1 w.heap.size W bM bO aU bQ bR aX bA bB bV bS aQ (bD dX hall) eE (bD eF hall) eG (bD dZ hall) eM ((hb.block _ hlt).trans (by simpa using heap_alloc_new w _)) hle (of_decide_eq_true (List.all_eq_true.1 hrow x hx)) hC).mono ?_
  rintro e w' ⟨he,hb'⟩
  exact⟨he,hb.trans (hb'.mono hb.size)⟩)
 clear dX eF dZ;rw [←any_not];generalize (aQ.any fun x=>!okProd aU.length aX.length x)=rr at hcon ⊢;go_enter Try.func39,Try.ntmps39
 go_wp2_with (go_at_fn 54;refine hcon.mono ?_;rintro e w' ⟨rfl,hb'⟩)
 go_ret
 exact⟨rfl,HW.out.trans (hb'.mono (by simp))⟩
end Go.Proofs.Ytapjfnfengefpaa.P
end

section
namespace Go.Proofs.Ytapjfnfengefpaa.P
open Go.RowKit Go.Proofs.YtapjfnfengefpaaW.PrintWords Go.Proofs.YtapjfnfengefpaaW.PrintLast Go.Proofs.YtapjfnfengefpaaW.PrintMore Go.Proofs.Ytapjfnfengefpaa.R
set_option linter.unusedVariables false
set_option linter.unusedSimpArgs false
def oddP (token:Bool) (out:List Bool) (x:S43):Bool:=(x.f0 && !token)||(!x.f0 && !rdOf false out x.f1)
end Go.Proofs.Ytapjfnfengefpaa.P
end

section
namespace Go.Proofs.Ytapjfnfengefpaa.P
open Go.RowKit Go.Proofs.YtapjfnfengefpaaW.PrintWords Go.Proofs.YtapjfnfengefpaaW.PrintLast Go.Proofs.YtapjfnfengefpaaW.PrintMore
attribute [local go_sem] max2_int min2_int max_two min_two max_three min_three max_four min_four   -- for this text's walks alone
set_option linter.unusedVariables false
set_option linter.unusedSimpArgs false
def regletref16_Start.f  :Option ((List (S43))×Bool):=some ((([(⟨false,0⟩:S43)]:List (S43))),false)
set_option maxHeartbeats 8000000 in
set_option maxRecDepth 100000 in
theorem regletref16_Start.calls  (r1:List (S43)) (r2:Bool) (w:World) (h:regletref16_Start.f  =some (r1,r2)):
 Calls Try.prog 18 #[] w fun e w'=>∃v0_:Value,e= .returned (.agg #[v0_,.bool r2])∧Kd.R k43 43 w' w.heap.size (fun _=>True) v0_ r1∧Below w.heap.size w w':=by
 have hu31:=Try.underlying31;have hu43:=Try.underlying43;have HB:=aM (Below.refl w.heap.size w);have H:(some ((([(⟨false,0⟩:S43)]:List (S43))),false))=some (r1,r2):=h;clear h;obtain⟨y278,Gs⟩:∃y_:List (S43),y_=(([(⟨false,0⟩:S43)]:List (S43))):=⟨_,rfl⟩;replace H:(some (y278,false))=some (r1,r2):=by first|(rw [Gs];with_reducible exact H)|(have H2_:=(Option.bind_some _ _).symm.trans H;rw [Gs];with_reducible exact H2_)|(have H2_:=(Option.bind_some _ _).symm.trans H;with_reducible exact H2_)|with_reducible exact H|(rw [Gs];exact H)|exact H
 have Xf:=aM Gs;clear Gs;simp only [Option.some.injEq,Prod.mk.injEq] at H;obtain⟨rfl,rfl⟩:=H;go_enter Try.func18,Try.ntmps18
 go_wp2_with (first|((with_reducible refine bJ (N:=0) rfl ?_);refine box_event ?hg (N:=0) ?hd (cs:=#[.slice none 0 0,.bool false]) (t:=31) ?hr ?_;(case hd=>rfl);(case hg=>rfl);(case hr=>first|(go_simp;done)|(go_simp;rfl));intro Bu hg w1 hbox hb;have cE:=aM (bG (gW HB.out) hb);have cF:=aM (hbox);have cH:=aM ((by rw [hg];exact(bH (gW HB.out)):w.heap.size≤Bu));have cM:=aM ((by rw [hg];exact(bH (gW HB.out)):w.heap.size≤Bu));clear HB;have HB:=cE;have uL:=cF;have GW277:=cH;have CA:=cM;clear cE cF cH cM;clear hb hbox hg)|((with_reducible refine bJ (N:=2) rfl ?_);refine Kd.R_lit k43 _ 43 ?hg (N:=2) ?hd (xs:=([(⟨false,0⟩:S43)]:List (S43))) (inner:= [.bool false,.int .i64 0]) (ok:=fun _=>True) (okp:=fun _=>True) ?hr ?hp (fun _ hk=>hk) trivial (Below.refl _ _) (Nat.le_refl _) (by simp) ?_;(case hd=>rfl);(case hg=>rfl);(case hr=>first|(go_simp;done)|(go_simp;rfl));(case hp=>exact(Reps.c2 (show Kd.M k43 _ _ _ (⟨false,0⟩:S43) [.bool false,.int .i64 0] from(k43_mkM _ _ _ (⟨false,0⟩:S43))) (Reps.none _ _)));intro v279 w2 ho3 hb hg_ hnew_;clear hg_ hnew_;(first|rw [←Xf.out] at ho3|(simp only [Int.reduceToNat] at ho3;rw [←Xf.out] at ho3));have cE:=aM (bL ho3 (bH (gW HB.out)));have cF:=aM (bF (gB uL.out) hb);have cH:=aM (bG (gW HB.out) hb);clear uL;clear HB;have Xg:=cE;have uL:=cF;have HB:=cH;clear cE cF cH;clear hb ho3;obtain⟨Ze,Zf,QF⟩:=Kd.R_slice Xg.out;subst QF;have Zg:w2.cell? ⟨Bu,0,none⟩=some (.slice none 0 0):=(aG uL.out 0).trans rfl;have Zh:w2.cell? ⟨Bu,1,none⟩=some (.bool false):=(aG uL.out 1).trans rfl;have Zi:=aH uL.out 0;have Zj:=aH uL.out 1))
 refine bodyPost_ret (results_cell_row rfl _ _ Bu 31 #[.slice Ze y278.length Zf,.bool false] (0,0) _ rfl (by(with_reducible repeat(first|refine aJ ?_ _|refine aK ?_|refine aI ?_ _));refine blk_put (cs:=#[.slice Ze y278.length Zf,.bool false]) ?_ 1 _ rfl;(with_reducible repeat(first|refine aJ ?_ _|refine aK ?_|refine aI ?_ _));refine blk_put (cs:=#[.slice none 0 0,.bool false]) ?_ 0 _ rfl;(with_reducible repeat(first|refine aJ ?_ _|refine aK ?_|refine aI ?_ _));exact uL.out) Try.underlying31 rfl (by kernel_rfl)) rfl ?_
 exact⟨_,by first|rfl|(simp [errW_none,errW_some]<;>rfl)|(simp [*,errW_none,errW_some]<;>rfl),by(with_reducible repeat(first|apply aA|apply aB|apply aC));exact Kd.R_mono (aE (p:=⟨Bu,1,none⟩) (aE (p:=⟨Bu,0,none⟩) (Kd.R_types Xg.out uL.out (by decide)) (fun _ hk=>hk.2) (.slice Ze y278.length Zf)) (fun _ hk=>hk.2) (.bool false)) (fun _ hk=>trivial),by repeat(first|(with_reducible first|exact HB.out|apply aN|apply aP|apply aO|refine aL ?_ CA.out)|exact HB.out)⟩
def regletref13_marks.l0:Nat→List (List Bool)→Int→List ByteArray→List (S72)→Int→Int→List (S35)→Option ((List (List Bool)))
 |0,_,_,_,_,_,_,_=>none
 |k+1,x3,x4,x337000,x337001,x337002,x337003,x337004=>if x4<(x337000.length:Int) then(if 0≤(wrap64 ((x337001.length:Int)+1)) then(if(wrap64 ((x337001.length:Int)+1):Int).toNat≤281474976710656 then(if x3.length<5864062014805 then(regletref13_marks.l0 k (x3++ [(List.replicate (wrap64 ((x337001.length:Int)+1):Int).toNat false)]) (wrap64 (x4+1)) x337000 x337001 x337002 x337003 x337004) else(none)) else(none)) else(none)) else(some x3)
def regletref13_marks.f (k:Nat) (aU:List ByteArray) (aX:List (S72)) (bA:Int) (bB:Int) (aQ:List (S35)):Option ((List (List Bool))):=regletref13_marks.l0 k ([]:List (List Bool)) 0 aU aX bA bB aQ
set_option maxHeartbeats 8000000 in
set_option maxRecDepth 100000 in
theorem regletref13_marks.calls (k:Nat) (bM:Option Addr) (bO:Nat) (aU:List ByteArray) (bQ:Option Addr) (bR:Nat) (aX:List (S72)) (bA:Int) (bB:Int) (bV:Option Addr) (bS:Nat) (aQ:List (S35)) (r:List (List Bool)) (w:World) (dX:Kd.C Kd.string w bM aU.length aU) (eE:aU.length≤bO) (eF:Kd.C k72 w bQ aX.length aX) (eG:aX.length≤bR) (dZ:Kd.C k35 w bV aQ.length aQ) (eM:aQ.length≤bS) (h:regletref13_marks.f k aU aX bA bB aQ=some r):
 Calls Try.prog 43 #[.agg #[.slice bM aU.length bO,.slice bQ aX.length bR,.int .i64 bA,.int .i64 bB,.slice bV aQ.length bS]] w fun e w'=>∃v0_:Value,e= .returned (v0_)∧Kd.S (Kd.slice 4 Kd.bool) 90 w' w.heap.size (fun _=>True) v0_ r∧Below w.heap.size w w':=by
 have hu26:=Try.underlying26;have fN:=aM dX;have fS:=aM eE;clear dX eE;have gA:=aM eF;have gD:=aM eG;clear eF eG;have eJ:=aM dZ;have gE:=aM eM;clear dZ eM;have HB:=aM (Below.refl w.heap.size w);have H:(regletref13_marks.l0 k ([]:List (List Bool)) 0 aU aX bA bB aQ)=some r:=h;clear h;have H':=aM H;clear H;go_enter Try.func43,Try.ntmps43
 go_wp2_with (first|((with_reducible refine bJ (N:=1) rfl ?_);refine box_event ?hg (N:=1) ?hd (cs:=#[.slice bM aU.length bO,.slice bQ aX.length bR,.int .i64 bA,.int .i64 bB,.slice bV aQ.length bS]) (t:=26) ?hr ?_;(case hd=>rfl);(case hg=>rfl);(case hr=>first|(go_simp;done)|(go_simp;rfl));intro pR hg w2 hbox hb;have cE:=aM (bG (gW HB.out) hb);have cF:=aM (hbox);have cH:=aM ((by rw [hg];exact(bH (gW HB.out)):w.heap.size≤pR));have cM:=aM ((by rw [hg];exact(bH (gW HB.out)):w.heap.size≤pR));clear HB;have HB:=cE;have iJ:=cF;have GW336:=cH;have TO:=cM;clear cE cF cH cM;clear hb hbox hg))
 go_loopg [3,4] k (fun kq v3 v4 w'=>∃(dF:List (List Bool)) (cC:Int),v4= .int .i64 cC∧Aside0 (regletref13_marks.l0 kq dF cC aU aX bA bB aQ=some r)∧Aside0 (kq≤k)∧Aside0 (Kd.S (Kd.slice 4 Kd.bool) 90 w' w.heap.size (fun _=>True) v3 dF)∧Aside0 (w'.heap[pR]?=some (.cells #[(.slice bM aU.length bO),(.slice bQ aX.length bR),.int .i64 bA,.int .i64 bB,(.slice bV aQ.length bS)] 26 (0,0)))∧Aside0 (Below w.heap.size w w'))
 case atStart=>exact⟨(([]:List (List Bool))),(0),(by first|rfl|(simp;done)|(simp [*];done)),H',⟨Nat.le_refl _⟩,⟨by first|exact Kd.S_nil _ _ _ _ _|exact Kd.N_nil _ _ _ _ _|exact Kd.V_nil _ _ _ _ _|exact Kd.Q_nil _ _ _ _ _|exact Kd.R_nil _ _ _ _ _⟩,⟨gB iJ.out⟩,⟨gW HB.out⟩⟩
 case round=>
  clear H'
  (try clear p2)
  obtain⟨dF,cC,rfl,HA,HK1,gG,iJ,HB⟩:=hrel
  cases gk with
  |zero=>exact absurd HA.out (by simp [regletref13_marks.l0])
  |succ k1=>
   have H:=HA.out;clear HA;simp only [regletref13_marks.l0] at H
   by_cases c3:cC<(aU.length:Int)
   ·rw [if_pos c3] at H
    have uM:decide (cC<(aU.length:Int))=true:=decide_eq_true c3;clear c3;obtain⟨On,Zk⟩:∃j_:Int,(wrap64 ((aX.length:Int)+1))=j_:=⟨_,rfl⟩;replace H:(if 0≤(On) then(if(On:Int).toNat≤281474976710656 then(if dF.length<5864062014805 then(regletref13_marks.l0 k1 (dF++ [(List.replicate (On:Int).toNat false)]) (wrap64 (cC+1)) aU aX bA bB aQ) else(none)) else(none)) else(none))=some r:=by first|(rw [Zk] at H;exact H)|(simp only [Zk] at H ⊢;exact H)
    have hji4w:(IntKind.i64.wrap ((aX.length:Int)+1))=On:=(i64_w _).trans Zk
    by_cases c5:0≤(On)
    rotate_left
    ·rw [if_neg c5] at H
     exact absurd H (by simp)
    rw [if_pos c5] at H;have Gt:=eq_true c5;have Oh:decide (0≤(On))=true:=decide_eq_true c5;clear c5
    by_cases c6:(On:Int).toNat≤281474976710656
    rotate_left
    ·rw [if_neg c6] at H
     exact absurd H (by simp)
    rw [if_pos c6] at H;have yT:=eq_true c6;have Jk:decide ((On:Int).toNat≤281474976710656)=true:=decide_eq_true c6;clear c6;obtain⟨y337,Gu⟩:∃y_:List Bool,y_=(List.replicate (On:Int).toNat false):=⟨_,rfl⟩;replace H:(if dF.length<5864062014805 then(regletref13_marks.l0 k1 (dF++ [y337]) (wrap64 (cC+1)) aU aX bA bB aQ) else(none))=some r:=by first|(rw [Gu];with_reducible exact H)|(have H2_:=(Option.bind_some _ _).symm.trans H;rw [Gu];with_reducible exact H2_)|(have H2_:=(Option.bind_some _ _).symm.trans H;with_reducible exact H2_)|with_reducible exact H|(rw [Gu];exact H)|exact H
    have Xh:=aM Gu;clear Gu
    by_cases c7:dF.length<5864062014805
    rotate_left
    ·rw [if_neg c7] at H
     exact absurd H (by simp)
    rw [if_pos c7] at H;have QG:=aM c7;clear c7;obtain⟨y340,Gv⟩:∃y_:List (List Bool),y_=(dF++ [y337]):=⟨_,rfl⟩;replace H:(regletref13_marks.l0 k1 y340 (wrap64 (cC+1)) aU aX bA bB aQ)=some r:=by first|(rw [Gv];with_reducible exact H)|(have H2_:=(Option.bind_some _ _).symm.trans H;rw [Gv];with_reducible exact H2_)|(have H2_:=(Option.bind_some _ _).symm.trans H;with_reducible exact H2_)|with_reducible exact H|(rw [Gv];exact H)|exact H
    have CB:=aM Gv;clear Gv;have H':=aM H;clear H;have jP:wr.cell? ⟨pR,0,none⟩=some (.slice bM aU.length bO):=(aG iJ.out 0).trans rfl;have jQ:wr.cell? ⟨pR,1,none⟩=some (.slice bQ aX.length bR):=(aG iJ.out 1).trans rfl;have lA:wr.cell? ⟨pR,2,none⟩=some (.int .i64 bA):=(aG iJ.out 2).trans rfl;have lB:wr.cell? ⟨pR,3,none⟩=some (.int .i64 bB):=(aG iJ.out 3).trans rfl;have lC:wr.cell? ⟨pR,4,none⟩=some (.slice bV aQ.length bS):=(aG iJ.out 4).trans rfl;have jR:=aH iJ.out 0;have jS:=aH iJ.out 1;have lD:=aH iJ.out 2;have lE:=aH iJ.out 3;have lF:=aH iJ.out 4
    go_wp2_with (first|((with_reducible refine bJ (N:=17) rfl ?_);refine Kd.R_make Kd.bool _ 4 rfl (N:=17) rfl 90 _ _ rfl On rfl rfl Try.underlying90 (.bool false) 1 info4 rfl (by decide) (by omega) false (ok:=fun _=>True) (okp:=fun _=>True) rfl (fun _ hk=>hk) trivial (of_decide_eq_true (by first|(with_reducible assumption)|assumption)) (Nat.le_trans (Nat.mul_le_mul_right _ (of_decide_eq_true (by first|(with_reducible assumption)|assumption):On.toNat≤281474976710656)) (by omega)) (Below.refl _ _) (Nat.le_refl _) ?_;intro v338 w9 ho10 hb hg_ hnew_;clear hg_ hnew_;(first|rw [←Xh.out] at ho10|(simp only [Int.reduceToNat] at ho10;rw [←Xh.out] at ho10));have cE:=aM (Kd.S_elder' (gS gG.out) (Kd.R_base ho10) hb);have cF:=aM (bL ho10 (bH (gW HB.out)));have cH:=aM (bF (gB iJ.out) hb);have cM:=aM (bG (gW HB.out) hb);clear gG;clear iJ;clear HB;have gG:=cE;have Kk:=cF;have iJ:=cH;have HB:=cM;clear cE cF cH cM;clear hb ho10;obtain⟨CC,CD,QH⟩:=Kd.R_slice Kk.out;subst QH)|((with_reducible refine gate_builtin (b:= .append) (xs:=#[.tmp 12,.tmp 18]) rfl ?_);at_builtin;refine Kd.S_append (Kd.slice 4 Kd.bool) (w0:=w) w.heap.size rfl (.tmp 12) (.tmp 18) 88 90 (.slice none 0 0) 24 rfl Try.underlying88 info90 rfl (by decide) (by omega) u3 dF y337 [.slice CC y337.length CD] (fun _=>True) (fun k_=>some k_=(.slice CC y337.length CD:Value).ownBlock) rfl rfl ?aP (fun k_ hk_=>((Kd.R_mono (ok':=fun k_=>((fun _=>True)) k_∧some k_≠(u3:Value).ownBlock) (Kd.R_apart' (Kk.out) (Kd.S_typed gG.out) (by decide)) (fun k_ hk=>⟨trivial,hk.2⟩))).1 k_ hk_.symm) ?aF ?aO ?aB ?aS ?aL ?_;(case aP=>exact Kd.M_row (Kd.R_mono (Kd.R_tight rfl (Kd.R_mono (ok':=fun k_=>((fun _=>True)) k_∧some k_≠(u3:Value).ownBlock) (Kd.R_apart' (Kk.out) (Kd.S_typed gG.out) (by decide)) (fun k_ hk=>⟨trivial,hk.2⟩))) (fun _ h_=>h_)));(case aB=>exact(gW HB.out));(case aF=>exact(fun _ _=>trivial));(case aO=>exact(by(with_reducible repeat(first|apply Kd.S_alloc|apply aV|apply aW));exact Kd.S_mono gG.out (fun k_ hk=>⟨trivial,fun e_=>hk.2 e_⟩)));(case aS=>exact(bH (gW HB.out)));(case aL=>have:=QG.out;omega);intro v341 w11 ho hb hg hat;rw [←CB.out] at ho;have cE:=aM (blk_grown (gB iJ.out) hg (Kd.S_ne gG.out iJ.out (by decide)));have cF:=aM (hb);have cH:=aM (ho);clear iJ;clear HB;clear gG;clear Kk;have iJ:=cE;have HB:=cF;have CG:=cH;clear cE cF cH;clear ho hb hg hat))
    go_roundg k1
    case measure=>have:=HK1.out;omega
    case rel=>exact⟨(y340),(wrap64 (cC+1)),(by first|rfl|(simp;done)|(simp [*];done)),H',⟨by have:=HK1.out;omega⟩,⟨gS CG.out⟩,⟨gB iJ.out⟩,⟨gW HB.out⟩⟩
   ·rw [if_neg c3] at H
    have uM:decide (cC<(aU.length:Int))=false:=decide_eq_false c3;clear c3;obtain rfl:=Option.some.inj H;have sT:wr.cell? ⟨pR,0,none⟩=some (.slice bM aU.length bO):=(aG iJ.out 0).trans rfl;have sU:wr.cell? ⟨pR,1,none⟩=some (.slice bQ aX.length bR):=(aG iJ.out 1).trans rfl;have sV:wr.cell? ⟨pR,2,none⟩=some (.int .i64 bA):=(aG iJ.out 2).trans rfl;have sW:wr.cell? ⟨pR,3,none⟩=some (.int .i64 bB):=(aG iJ.out 3).trans rfl;have sX:wr.cell? ⟨pR,4,none⟩=some (.slice bV aQ.length bS):=(aG iJ.out 4).trans rfl;have sY:=aH iJ.out 0;have sZ:=aH iJ.out 1;have tA:=aH iJ.out 2;have tB:=aH iJ.out 3;have tC:=aH iJ.out 4;go_wp2
    go_ret
    exact⟨_,by first|rfl|(simp [errW_none,errW_some]<;>rfl)|(simp [*,errW_none,errW_some]<;>rfl),gS gG.out,gW HB.out⟩
attribute [local go_sem] max2_int min2_int max_two min_two max_three min_three max_four min_four   -- for this text's walks alone
set_option linter.unusedVariables false
set_option linter.unusedSimpArgs false
def regletref13_join.l0:Nat→List Bool→List Bool→Bool→Int→Option (Bool×List Bool)
 |0,_,_,_,_=>none
 |k+1,x0,x1,x5,x6=>if x6<(x0.length:Int) then(if x5=true then(if 0≤x6 then(if rdOf false x0 x6=true then(regletref13_join.l0 k (x0.set (x6:Int).toNat true) x1 true (wrap64 (x6+1))) else(if x6<(x1.length:Int) then(regletref13_join.l0 k (x0.set (x6:Int).toNat (rdOf false x1 x6)) x1 true (wrap64 (x6+1))) else(none))) else(none)) else(if 0≤x6 then(if x6<(x1.length:Int) then(if rdOf false x1 x6=true then(if rdOf false x0 x6=true then(regletref13_join.l0 k (x0.set (x6:Int).toNat true) x1 (!(rdOf false x0 x6)) (wrap64 (x6+1))) else(regletref13_join.l0 k (x0.set (x6:Int).toNat (rdOf false x1 x6)) x1 (!(rdOf false x0 x6)) (wrap64 (x6+1)))) else(if rdOf false x0 x6=true then(regletref13_join.l0 k (x0.set (x6:Int).toNat true) x1 false (wrap64 (x6+1))) else(regletref13_join.l0 k (x0.set (x6:Int).toNat (rdOf false x1 x6)) x1 false (wrap64 (x6+1))))) else(none)) else(none))) else(some (x5,x0))
def regletref13_join.f (k:Nat) (l0:List Bool) (l1:List Bool):Option (Bool×List Bool):=regletref13_join.l0 k l0 l1 false 0
set_option maxHeartbeats 8000000 in
set_option maxRecDepth 100000 in
theorem regletref13_join.calls (k:Nat) (P0_:Nat→Prop) (u9000_:Value) (l0:List Bool) (A1:Option Addr) (c1:Nat) (l1:List Bool) (r1:Bool) (r2:List Bool) (w0 w:World) (hB:Below w0.heap.size w0 w) (ho0:Kd.R Kd.bool 4 w w0.heap.size P0_ u9000_ l0) (hr1:∀W_,Kept w W_ (fun k_=>P0_ k_)→Kd.C Kd.bool W_ A1 l1.length l1) (hc1:l1.length≤c1) (h:regletref13_join.f k l0 l1=some (r1,r2)):
 Calls Try.prog 47 #[u9000_,.slice A1 l1.length c1] w fun e w'=>e= .returned (.bool r1)∧Kd.R Kd.bool 4 w' w0.heap.size (fun k_=>(P0_ k_∨w.heap.size≤k_)) u9000_ r2∧Below w0.heap.size w0 w'∧Kept w w' (fun k_=>P0_ k_):=by
 have CH:=aM (show Kd.R Kd.bool 4 w w0.heap.size (fun k_=>(P0_ k_∨w.heap.size≤k_)) u9000_ l0 from Kd.R_mono ho0 (fun k_ hk=>(.inl hk)));have HR1:=aM hr1;have HC1:=aM hc1;clear hr1 hc1;have HK:=aM (Kept.refl w (fun k_=>P0_ k_));have HW0:=aM hB.size;have HB:=aM hB;clear hB;have H:(regletref13_join.l0 k l0 l1 false 0)=some (r1,r2):=h;clear h;have H':=aM H;clear H;go_enter Try.func47,Try.ntmps47
 go_wp2
 go_loopg [5,6] k (fun kq v5 v6 w'=>∃(fC:List Bool) (gH:Bool) (cB:Int),v5= .bool gH∧v6= .int .i64 cB∧Aside0 (regletref13_join.l0 kq fC l1 gH cB=some (r1,r2))∧Aside0 (kq≤k)∧Aside0 (Kd.R Kd.bool 4 w' w0.heap.size (fun k_=>(P0_ k_∨w.heap.size≤k_)) u9000_ fC)∧Aside0 (Kept w w' (fun k_=>P0_ k_))∧Aside0 (Below w0.heap.size w0 w'))
 case atStart=>exact⟨(l0),(false),(0),(by first|rfl|(simp;done)|(simp [*];done)),(by first|rfl|(simp;done)|(simp [*];done)),H',⟨Nat.le_refl _⟩,⟨gR CH.out⟩,⟨by repeat(first|(with_reducible first|exact HK.out|apply Kept.alloc|apply Kept.drewN|apply Kept.drew)|exact HK.out)⟩,⟨gW HB.out⟩⟩
 case round=>
  clear H'
  (try clear c1);(try clear p2)
  obtain⟨fC,gH,cB,rfl,rfl,HA,HK1,fR,HK,HB⟩:=hrel
  cases gk with
  |zero=>exact absurd HA.out (by simp [regletref13_join.l0])
  |succ k1=>
   have H:=HA.out;clear HA;simp only [regletref13_join.l0] at H
   by_cases c3:cB<(fC.length:Int)
   ·rw [if_pos c3] at H
    have uM:decide (cB<(fC.length:Int))=true:=decide_eq_true c3;clear c3
    by_cases c4:gH=true
    ·subst c4
     have H1:(if 0≤cB then(if rdOf false fC cB=true then(regletref13_join.l0 k1 (fC.set (cB:Int).toNat true) l1 true (wrap64 (cB+1))) else(if cB<(l1.length:Int) then(regletref13_join.l0 k1 (fC.set (cB:Int).toNat (rdOf false l1 cB)) l1 true (wrap64 (cB+1))) else(none))) else(none))=some (r1,r2):=by rw [if_pos rfl] at H;exact H
     clear H;have H:=H1;clear H1
     by_cases c5:0≤cB
     rotate_left
     ·rw [if_neg c5] at H
      exact absurd H (by simp)
     rw [if_pos c5] at H;have Gt:decide (0≤cB)=true:=decide_eq_true c5;clear c5;obtain⟨bq6,hbq6⟩:∃b_:Bool,b_=(rdOf false fC cB):=⟨_,rfl⟩;replace H:(if bq6=true then(regletref13_join.l0 k1 (fC.set (cB:Int).toNat true) l1 true (wrap64 (cB+1))) else(if cB<(l1.length:Int) then(regletref13_join.l0 k1 (fC.set (cB:Int).toNat (rdOf false l1 cB)) l1 true (wrap64 (cB+1))) else(none)))=some (r1,r2):=by rw [←hbq6] at H;exact H
     have Nbq6:=aM hbq6;clear hbq6
     by_cases c7:bq6=true
     ·subst c7
      have H1:(regletref13_join.l0 k1 (fC.set (cB:Int).toNat true) l1 true (wrap64 (cB+1)))=some (r1,r2):=by rw [if_pos rfl] at H;exact H
      clear H;have H:=H1;clear H1;obtain⟨y358,Gw⟩:∃y_:List Bool,y_=(fC.set (cB:Int).toNat true):=⟨_,rfl⟩;replace H:(regletref13_join.l0 k1 y358 l1 true (wrap64 (cB+1)))=some (r1,r2):=by first|(rw [Gw];with_reducible exact H)|(have H2_:=(Option.bind_some _ _).symm.trans H;rw [Gw];with_reducible exact H2_)|(have H2_:=(Option.bind_some _ _).symm.trans H;with_reducible exact H2_)|with_reducible exact H|(rw [Gw];exact H)|exact H
      have CI:=aM Gw;clear Gw;have H':=aM H;clear H;obtain⟨Zl,Xi,QI⟩:=Kd.R_slice fR.out;subst QI;have p357:0≤(cB:Int):=of_decide_eq_true (by first|(with_reducible assumption)|assumption);have q357:cB<(fC.length:Int):=of_decide_eq_true (by first|(with_reducible assumption)|assumption);obtain⟨CJ,e357,uN⟩:=Kd.at_bool (aF fR.out).2.2 cB p357 q357
      (try rw [←Nbq6.out] at uN)
      cases e357;replace p357:=eq_true p357;replace q357:=eq_true q357;have p8:0≤(cB:Int):=of_decide_eq_true (by first|(with_reducible assumption)|assumption);have q8:(cB:Int)<((fC.length:Int):Int):=of_decide_eq_true (by first|(with_reducible assumption)|assumption);obtain⟨go8,Zm,BX,TP,gl8,cl8,HG8⟩:=Kd.R_form fR.out (by omega)
      (first|cases BX|(injection BX with ea_ en_ ec_;(first|subst ea_|(injection ea_ with ea_;subst ea_));subst ec_;clear en_))
      have GB8:=aM TP;have GG8:=aM HG8;clear TP gl8 HG8;have HMgo8:=aM (show(P0_ go8∨w.heap.size≤go8) from(fR.out.1 _ rfl))
      (first|simp only [add_plain] at uN|skip)
      obtain⟨TQ,hf8_0⟩:=Kd.R_celln false fR.out (cB:Int) p8 q8;replace p8:=eq_true p8;replace q8:=eq_true q8;have HP10:=Kd.R_putg fR.out (cB:Int) true
      go_wp2_with (first|((with_reducible refine gate_store (t:=4) (p:=39) rfl ?_);refine store_event (t:=4) (p:=39) (v:=?vo_w11) (w1:=(wr.setCell ⟨go8,(cB:Int).toNat,none⟩ (.bool true))) ?hg ?ho ?hn ?hr ?_;(case ho=>rfl);(case hg=>rfl);(case hn=>rfl);(case hr=>first|(go_simp;done)|(go_simp;rfl));intro w11 hw;have hg:wr.grownBy w11 (some go8):=(by rw [hw];exact HP10.2);have hp_:Kd.R Kd.bool 4 w11 w0.heap.size (fun k_=>(P0_ k_∨w.heap.size≤k_)) (.slice (some ⟨go8,0,none⟩) fC.length Xi) y358:=(by rw [hw,CI.out];exact HP10.1);clear HP10;have cE:=aM (hp_);have cF:=aM ((by rw [hw];exact aL (HB.out) GB8.out:Below w0.heap.size w0 w11));have cH:=aM (Kept.of_grown (S:=(fun k_=>P0_ k_)) hg (by repeat(first|(with_reducible first|exact HK.out|apply Kept.alloc|apply Kept.drewN|apply Kept.drew)|exact HK.out)) (fun k_ e_=>(fR.out.1 k_ e_)));clear fR;clear HB;clear HK;have fR:=cE;have HB:=cF;have HK:=cH;clear cE cF cH;clear hg hw hp_))
      go_roundg k1
      case measure=>have:=HK1.out;omega
      case rel=>exact⟨(y358),(true),(wrap64 (cB+1)),(by first|rfl|(simp;done)|(simp [*];done)),(by first|rfl|(simp;done)|(simp [*];done)),H',⟨by have:=HK1.out;omega⟩,⟨gR fR.out⟩,⟨by repeat(first|(with_reducible first|exact HK.out|apply Kept.alloc|apply Kept.drewN|apply Kept.drew)|exact HK.out)⟩,⟨gW HB.out⟩⟩
     ·replace c7:=Bool.eq_false_iff.mpr c7
      subst c7;have H1:(if cB<(l1.length:Int) then(regletref13_join.l0 k1 (fC.set (cB:Int).toNat (rdOf false l1 cB)) l1 true (wrap64 (cB+1))) else(none))=some (r1,r2):=by rw [if_neg (show ¬(false=true) by decide)] at H;exact H
      clear H;have H:=H1;clear H1
      by_cases c12:cB<(l1.length:Int)
      rotate_left
      ·rw [if_neg c12] at H
       exact absurd H (by simp)
      rw [if_pos c12] at H;have Gx:decide (cB<(l1.length:Int))=true:=decide_eq_true c12;clear c12;obtain⟨y360,Gy⟩:∃y_:List Bool,y_=(fC.set (cB:Int).toNat (rdOf false l1 cB)):=⟨_,rfl⟩;replace H:(regletref13_join.l0 k1 y360 l1 true (wrap64 (cB+1)))=some (r1,r2):=by first|(rw [Gy];with_reducible exact H)|(have H2_:=(Option.bind_some _ _).symm.trans H;rw [Gy];with_reducible exact H2_)|(have H2_:=(Option.bind_some _ _).symm.trans H;with_reducible exact H2_)|with_reducible exact H|(rw [Gy];exact H)|exact H
      have CK:=aM Gy;clear Gy;have H':=aM H;clear H;obtain⟨CL,Zn,Zo⟩:=Kd.R_slice fR.out;subst Zo;have p357:0≤(cB:Int):=of_decide_eq_true (by first|(with_reducible assumption)|assumption);have q357:cB<(fC.length:Int):=of_decide_eq_true (by first|(with_reducible assumption)|assumption);obtain⟨CJ,e357,uN⟩:=Kd.at_bool (aF fR.out).2.2 cB p357 q357
      (try rw [←Nbq6.out] at uN)
      cases e357;replace p357:=eq_true p357;replace q357:=eq_true q357;have p359:0≤(cB:Int):=of_decide_eq_true (by first|(with_reducible assumption)|assumption);have q359:cB<(l1.length:Int):=of_decide_eq_true (by first|(with_reducible assumption)|assumption);obtain⟨TR,e359,Rq⟩:=Kd.at_bool (Kd.C_kept_now HR1.out HK.out) cB p359 q359
      (try rw [←Nbq6.out] at Rq)
      cases e359;replace p359:=eq_true p359;replace q359:=eq_true q359;have p13:0≤(cB:Int):=of_decide_eq_true (by first|(with_reducible assumption)|assumption);have q13:(cB:Int)<((fC.length:Int):Int):=of_decide_eq_true (by first|(with_reducible assumption)|assumption);obtain⟨go13,VF,CM,CN,gl13,cl13,HG13⟩:=Kd.R_form fR.out (by omega)
      (first|cases CM|(injection CM with ea_ en_ ec_;(first|subst ea_|(injection ea_ with ea_;subst ea_));subst ec_;clear en_))
      have GB13:=aM CN;have GG13:=aM HG13;clear CN gl13 HG13;have HMgo13:=aM (show(P0_ go13∨w.heap.size≤go13) from(fR.out.1 _ rfl))
      (first|simp only [add_plain] at uN|skip)
      obtain⟨QJ,hf13_0⟩:=Kd.R_celln false fR.out (cB:Int) p13 q13;replace p13:=eq_true p13;replace q13:=eq_true q13;have HP15:=Kd.R_putg fR.out (cB:Int) (rdOf false l1 cB)
      go_wp2_with (first|((with_reducible refine gate_store (t:=4) (p:=39) rfl ?_);refine store_event (t:=4) (p:=39) (v:=?vo_w16) (w1:=(wr.setCell ⟨go13,(cB:Int).toNat,none⟩ (.bool (rdOf false l1 cB)))) ?hg ?ho ?hn ?hr ?_;(case ho=>rfl);(case hg=>rfl);(case hn=>rfl);(case hr=>first|(go_simp;done)|(go_simp;rfl));intro w16 hw;have hg:wr.grownBy w16 (some go13):=(by rw [hw];exact HP15.2);have hp_:Kd.R Kd.bool 4 w16 w0.heap.size (fun k_=>(P0_ k_∨w.heap.size≤k_)) (.slice (some ⟨go13,0,none⟩) fC.length Zn) y360:=(by rw [hw,CK.out];exact HP15.1);clear HP15;have cE:=aM (hp_);have cF:=aM ((by rw [hw];exact aL (HB.out) GB13.out:Below w0.heap.size w0 w16));have cH:=aM (Kept.of_grown (S:=(fun k_=>P0_ k_)) hg (by repeat(first|(with_reducible first|exact HK.out|apply Kept.alloc|apply Kept.drewN|apply Kept.drew)|exact HK.out)) (fun k_ e_=>(fR.out.1 k_ e_)));clear fR;clear HB;clear HK;have fR:=cE;have HB:=cF;have HK:=cH;clear cE cF cH;clear hg hw hp_))
      go_roundg k1
      case measure=>have:=HK1.out;omega
      case rel=>exact⟨(y360),(true),(wrap64 (cB+1)),(by first|rfl|(simp;done)|(simp [*];done)),(by first|rfl|(simp;done)|(simp [*];done)),H',⟨by have:=HK1.out;omega⟩,⟨gR fR.out⟩,⟨by repeat(first|(with_reducible first|exact HK.out|apply Kept.alloc|apply Kept.drewN|apply Kept.drew)|exact HK.out)⟩,⟨gW HB.out⟩⟩
    ·replace c4:=Bool.eq_false_iff.mpr c4
     subst c4;have H1:(if 0≤cB then(if cB<(l1.length:Int) then(if rdOf false l1 cB=true then(if rdOf false fC cB=true then(regletref13_join.l0 k1 (fC.set (cB:Int).toNat true) l1 (!(rdOf false fC cB)) (wrap64 (cB+1))) else(regletref13_join.l0 k1 (fC.set (cB:Int).toNat (rdOf false l1 cB)) l1 (!(rdOf false fC cB)) (wrap64 (cB+1)))) else(if rdOf false fC cB=true then(regletref13_join.l0 k1 (fC.set (cB:Int).toNat true) l1 false (wrap64 (cB+1))) else(regletref13_join.l0 k1 (fC.set (cB:Int).toNat (rdOf false l1 cB)) l1 false (wrap64 (cB+1))))) else(none)) else(none))=some (r1,r2):=by rw [if_neg (show ¬(false=true) by decide)] at H;exact H
     clear H;have H:=H1;clear H1
     by_cases c17:0≤cB
     rotate_left
     ·rw [if_neg c17] at H
      exact absurd H (by simp)
     rw [if_pos c17] at H;have mN:decide (0≤cB)=true:=decide_eq_true c17;clear c17
     by_cases c18:cB<(l1.length:Int)
     rotate_left
     ·rw [if_neg c18] at H
      exact absurd H (by simp)
     rw [if_pos c18] at H;have Kl:decide (cB<(l1.length:Int))=true:=decide_eq_true c18;clear c18;obtain⟨bq19,hbq19⟩:∃b_:Bool,b_=(rdOf false l1 cB):=⟨_,rfl⟩;replace H:(if bq19=true then(if rdOf false fC cB=true then(regletref13_join.l0 k1 (fC.set (cB:Int).toNat true) l1 (!(rdOf false fC cB)) (wrap64 (cB+1))) else(regletref13_join.l0 k1 (fC.set (cB:Int).toNat (bq19)) l1 (!(rdOf false fC cB)) (wrap64 (cB+1)))) else(if rdOf false fC cB=true then(regletref13_join.l0 k1 (fC.set (cB:Int).toNat true) l1 false (wrap64 (cB+1))) else(regletref13_join.l0 k1 (fC.set (cB:Int).toNat (bq19)) l1 false (wrap64 (cB+1)))))=some (r1,r2):=by rw [←hbq19] at H;exact H
     have Nbq19:=aM hbq19;clear hbq19
     by_cases c20:bq19=true
     ·subst c20
      have H1:(if rdOf false fC cB=true then(regletref13_join.l0 k1 (fC.set (cB:Int).toNat true) l1 (!(rdOf false fC cB)) (wrap64 (cB+1))) else(regletref13_join.l0 k1 (fC.set (cB:Int).toNat (true)) l1 (!(rdOf false fC cB)) (wrap64 (cB+1))))=some (r1,r2):=by rw [if_pos rfl] at H;exact H
      clear H;have H:=H1;clear H1;obtain⟨bq21,hbq21⟩:∃b_:Bool,b_=(rdOf false fC cB):=⟨_,rfl⟩;replace H:(if bq21=true then(regletref13_join.l0 k1 (fC.set (cB:Int).toNat true) l1 (!(bq21)) (wrap64 (cB+1))) else(regletref13_join.l0 k1 (fC.set (cB:Int).toNat (true)) l1 (!(bq21)) (wrap64 (cB+1))))=some (r1,r2):=by rw [←hbq21] at H;exact H
      have Nbq21:=aM hbq21;clear hbq21
      by_cases c22:bq21=true
      ·subst c22
       have H1:(regletref13_join.l0 k1 (fC.set (cB:Int).toNat true) l1 (!(true)) (wrap64 (cB+1)))=some (r1,r2):=by rw [if_pos rfl] at H;exact H
       clear H;have H:=H1;clear H1;obtain⟨y364,Gz⟩:∃y_:List Bool,y_=(fC.set (cB:Int).toNat true):=⟨_,rfl⟩;replace H:(regletref13_join.l0 k1 y364 l1 (!(true)) (wrap64 (cB+1)))=some (r1,r2):=by first|(rw [Gz];with_reducible exact H)|(have H2_:=(Option.bind_some _ _).symm.trans H;rw [Gz];with_reducible exact H2_)|(have H2_:=(Option.bind_some _ _).symm.trans H;with_reducible exact H2_)|with_reducible exact H|(rw [Gz];exact H)|exact H
       have CO:=aM Gz;clear Gz;have H':=aM H;clear H;obtain⟨VG,QK,QL⟩:=Kd.R_slice fR.out;subst QL;have p361:0≤(cB:Int):=of_decide_eq_true (by first|(with_reducible assumption)|assumption);have q361:cB<(l1.length:Int):=of_decide_eq_true (by first|(with_reducible assumption)|assumption);obtain⟨Ha,e361,lM⟩:=Kd.at_bool (Kd.C_kept_now HR1.out HK.out) cB p361 q361
       (try rw [←Nbq19.out] at lM)
       (try rw [←Nbq21.out] at lM)
       cases e361;replace p361:=eq_true p361;replace q361:=eq_true q361;have p362:0≤(cB:Int):=of_decide_eq_true (by first|(with_reducible assumption)|assumption);have q362:cB<(fC.length:Int):=of_decide_eq_true (by first|(with_reducible assumption)|assumption);obtain⟨Oo,e362,qM⟩:=Kd.at_bool (aF fR.out).2.2 cB p362 q362
       (try rw [←Nbq19.out] at qM)
       (try rw [←Nbq21.out] at qM)
       cases e362;replace p362:=eq_true p362;replace q362:=eq_true q362;have p363:0≤(cB:Int):=of_decide_eq_true (by first|(with_reducible assumption)|assumption);have q363:cB<(fC.length:Int):=of_decide_eq_true (by first|(with_reducible assumption)|assumption);obtain⟨Oq,e363,qN⟩:=Kd.at_bool (aF fR.out).2.2 cB p363 q363
       (try rw [←Nbq19.out] at qN)
       (try rw [←Nbq21.out] at qN)
       obtain rfl:Oo=Oq:=(by injection e363);replace p363:=eq_true p363;replace q363:=eq_true q363;have p23:0≤(cB:Int):=of_decide_eq_true (by first|(with_reducible assumption)|assumption);have q23:(cB:Int)<((fC.length:Int):Int):=of_decide_eq_true (by first|(with_reducible assumption)|assumption);obtain⟨go23,VH,CP,CQ,gl23,cl23,HG23⟩:=Kd.R_form fR.out (by omega)
       (first|cases CP|(injection CP with ea_ en_ ec_;(first|subst ea_|(injection ea_ with ea_;subst ea_));subst ec_;clear en_))
       have GB23:=aM CQ;have GG23:=aM HG23;clear CQ gl23 HG23;have HMgo23:=aM (show(P0_ go23∨w.heap.size≤go23) from(fR.out.1 _ rfl))
       (first|simp only [add_plain] at qM|skip)
       (first|simp only [add_plain] at qN|skip)
       obtain⟨QM,hf23_0⟩:=Kd.R_celln false fR.out (cB:Int) p23 q23;replace p23:=eq_true p23;replace q23:=eq_true q23;have HP25:=Kd.R_putg fR.out (cB:Int) true
       go_wp2_with (first|((with_reducible refine gate_store (t:=4) (p:=39) rfl ?_);refine store_event (t:=4) (p:=39) (v:=?vo_w26) (w1:=(wr.setCell ⟨go23,(cB:Int).toNat,none⟩ (.bool true))) ?hg ?ho ?hn ?hr ?_;(case ho=>rfl);(case hg=>rfl);(case hn=>rfl);(case hr=>first|(go_simp;done)|(go_simp;rfl));intro w26 hw;have hg:wr.grownBy w26 (some go23):=(by rw [hw];exact HP25.2);have hp_:Kd.R Kd.bool 4 w26 w0.heap.size (fun k_=>(P0_ k_∨w.heap.size≤k_)) (.slice (some ⟨go23,0,none⟩) fC.length QK) y364:=(by rw [hw,CO.out];exact HP25.1);clear HP25;have cE:=aM (hp_);have cF:=aM ((by rw [hw];exact aL (HB.out) GB23.out:Below w0.heap.size w0 w26));have cH:=aM (Kept.of_grown (S:=(fun k_=>P0_ k_)) hg (by repeat(first|(with_reducible first|exact HK.out|apply Kept.alloc|apply Kept.drewN|apply Kept.drew)|exact HK.out)) (fun k_ e_=>(fR.out.1 k_ e_)));clear fR;clear HB;clear HK;have fR:=cE;have HB:=cF;have HK:=cH;clear cE cF cH;clear hg hw hp_))
       go_roundg k1
       case measure=>have:=HK1.out;omega
       case rel=>exact⟨(y364),(!(true)),(wrap64 (cB+1)),(by first|rfl|(simp;done)|(simp [*];done)),(by first|rfl|(simp;done)|(simp [*];done)),H',⟨by have:=HK1.out;omega⟩,⟨gR fR.out⟩,⟨by repeat(first|(with_reducible first|exact HK.out|apply Kept.alloc|apply Kept.drewN|apply Kept.drew)|exact HK.out)⟩,⟨gW HB.out⟩⟩
      ·replace c22:=Bool.eq_false_iff.mpr c22
       subst c22;have H1:(regletref13_join.l0 k1 (fC.set (cB:Int).toNat (true)) l1 (!(false)) (wrap64 (cB+1)))=some (r1,r2):=by rw [if_neg (show ¬(false=true) by decide)] at H;exact H
       clear H;have H:=H1;clear H1;obtain⟨y366,Hb⟩:∃y_:List Bool,y_=(fC.set (cB:Int).toNat (true)):=⟨_,rfl⟩;replace H:(regletref13_join.l0 k1 y366 l1 (!(false)) (wrap64 (cB+1)))=some (r1,r2):=by first|(rw [Hb];with_reducible exact H)|(have H2_:=(Option.bind_some _ _).symm.trans H;rw [Hb];with_reducible exact H2_)|(have H2_:=(Option.bind_some _ _).symm.trans H;with_reducible exact H2_)|with_reducible exact H|(rw [Hb];exact H)|exact H
       have CR:=aM Hb;clear Hb;have H':=aM H;clear H;obtain⟨VI,QN,QO⟩:=Kd.R_slice fR.out;subst QO;have p361:0≤(cB:Int):=of_decide_eq_true (by first|(with_reducible assumption)|assumption);have q361:cB<(l1.length:Int):=of_decide_eq_true (by first|(with_reducible assumption)|assumption);obtain⟨Ha,e361,lM⟩:=Kd.at_bool (Kd.C_kept_now HR1.out HK.out) cB p361 q361
       (try rw [←Nbq19.out] at lM)
       (try rw [←Nbq21.out] at lM)
       cases e361;replace p361:=eq_true p361;replace q361:=eq_true q361;have p362:0≤(cB:Int):=of_decide_eq_true (by first|(with_reducible assumption)|assumption);have q362:cB<(fC.length:Int):=of_decide_eq_true (by first|(with_reducible assumption)|assumption);obtain⟨Oo,e362,qM⟩:=Kd.at_bool (aF fR.out).2.2 cB p362 q362
       (try rw [←Nbq19.out] at qM)
       (try rw [←Nbq21.out] at qM)
       cases e362;replace p362:=eq_true p362;replace q362:=eq_true q362;have p363:0≤(cB:Int):=of_decide_eq_true (by first|(with_reducible assumption)|assumption);have q363:cB<(fC.length:Int):=of_decide_eq_true (by first|(with_reducible assumption)|assumption);obtain⟨Oq,e363,qN⟩:=Kd.at_bool (aF fR.out).2.2 cB p363 q363
       (try rw [←Nbq19.out] at qN)
       (try rw [←Nbq21.out] at qN)
       obtain rfl:Oo=Oq:=(by injection e363);replace p363:=eq_true p363;replace q363:=eq_true q363;have p365:0≤(cB:Int):=of_decide_eq_true (by first|(with_reducible assumption)|assumption);have q365:cB<(l1.length:Int):=of_decide_eq_true (by first|(with_reducible assumption)|assumption);obtain⟨CS,e365,Km⟩:=Kd.at_bool (Kd.C_kept_now HR1.out HK.out) cB p365 q365
       (try rw [←Nbq19.out] at Km)
       (try rw [←Nbq21.out] at Km)
       obtain rfl:Ha=CS:=(by injection e365);replace p365:=eq_true p365;replace q365:=eq_true q365;have p27:0≤(cB:Int):=of_decide_eq_true (by first|(with_reducible assumption)|assumption);have q27:(cB:Int)<((fC.length:Int):Int):=of_decide_eq_true (by first|(with_reducible assumption)|assumption);obtain⟨go27,Cw,Oi,CT,gl27,cl27,HG27⟩:=Kd.R_form fR.out (by omega)
       (first|cases Oi|(injection Oi with ea_ en_ ec_;(first|subst ea_|(injection ea_ with ea_;subst ea_));subst ec_;clear en_))
       have GB27:=aM CT;have GG27:=aM HG27;clear CT gl27 HG27;have HMgo27:=aM (show(P0_ go27∨w.heap.size≤go27) from(fR.out.1 _ rfl))
       (first|simp only [add_plain] at qM|skip)
       (first|simp only [add_plain] at qN|skip)
       obtain⟨QP,hf27_0⟩:=Kd.R_celln false fR.out (cB:Int) p27 q27;replace p27:=eq_true p27;replace q27:=eq_true q27;have HP29:=Kd.R_putg fR.out (cB:Int) true
       go_wp2_with (first|((with_reducible refine gate_store (t:=4) (p:=39) rfl ?_);refine store_event (t:=4) (p:=39) (v:=?vo_w30) (w1:=(wr.setCell ⟨go27,(cB:Int).toNat,none⟩ (.bool true))) ?hg ?ho ?hn ?hr ?_;(case ho=>rfl);(case hg=>rfl);(case hn=>rfl);(case hr=>first|(go_simp;done)|(go_simp;rfl));intro w30 hw;have hg:wr.grownBy w30 (some go27):=(by rw [hw];exact HP29.2);have hp_:Kd.R Kd.bool 4 w30 w0.heap.size (fun k_=>(P0_ k_∨w.heap.size≤k_)) (.slice (some ⟨go27,0,none⟩) fC.length QN) y366:=(by rw [hw,CR.out];exact HP29.1);clear HP29;have cE:=aM (hp_);have cF:=aM ((by rw [hw];exact aL (HB.out) GB27.out:Below w0.heap.size w0 w30));have cH:=aM (Kept.of_grown (S:=(fun k_=>P0_ k_)) hg (by repeat(first|(with_reducible first|exact HK.out|apply Kept.alloc|apply Kept.drewN|apply Kept.drew)|exact HK.out)) (fun k_ e_=>(fR.out.1 k_ e_)));clear fR;clear HB;clear HK;have fR:=cE;have HB:=cF;have HK:=cH;clear cE cF cH;clear hg hw hp_))
       go_roundg k1
       case measure=>have:=HK1.out;omega
       case rel=>exact⟨(y366),(!(false)),(wrap64 (cB+1)),(by first|rfl|(simp;done)|(simp [*];done)),(by first|rfl|(simp;done)|(simp [*];done)),H',⟨by have:=HK1.out;omega⟩,⟨gR fR.out⟩,⟨by repeat(first|(with_reducible first|exact HK.out|apply Kept.alloc|apply Kept.drewN|apply Kept.drew)|exact HK.out)⟩,⟨gW HB.out⟩⟩
     ·replace c20:=Bool.eq_false_iff.mpr c20
      subst c20;have H1:(if rdOf false fC cB=true then(regletref13_join.l0 k1 (fC.set (cB:Int).toNat true) l1 false (wrap64 (cB+1))) else(regletref13_join.l0 k1 (fC.set (cB:Int).toNat (false)) l1 false (wrap64 (cB+1))))=some (r1,r2):=by rw [if_neg (show ¬(false=true) by decide)] at H;exact H
      clear H;have H:=H1;clear H1;obtain⟨bq31,hbq31⟩:∃b_:Bool,b_=(rdOf false fC cB):=⟨_,rfl⟩;replace H:(if bq31=true then(regletref13_join.l0 k1 (fC.set (cB:Int).toNat true) l1 false (wrap64 (cB+1))) else(regletref13_join.l0 k1 (fC.set (cB:Int).toNat (false)) l1 false (wrap64 (cB+1))))=some (r1,r2):=by rw [←hbq31] at H;exact H
      have Nbq31:=aM hbq31;clear hbq31
      by_cases c32:bq31=true
      ·subst c32
       have H1:(regletref13_join.l0 k1 (fC.set (cB:Int).toNat true) l1 false (wrap64 (cB+1)))=some (r1,r2):=by rw [if_pos rfl] at H;exact H
       clear H;have H:=H1;clear H1;obtain⟨y368,Hc⟩:∃y_:List Bool,y_=(fC.set (cB:Int).toNat true):=⟨_,rfl⟩;replace H:(regletref13_join.l0 k1 y368 l1 false (wrap64 (cB+1)))=some (r1,r2):=by first|(rw [Hc];with_reducible exact H)|(have H2_:=(Option.bind_some _ _).symm.trans H;rw [Hc];with_reducible exact H2_)|(have H2_:=(Option.bind_some _ _).symm.trans H;with_reducible exact H2_)|with_reducible exact H|(rw [Hc];exact H)|exact H
       have CU:=aM Hc;clear Hc;have H':=aM H;clear H;obtain⟨VJ,QQ,QR⟩:=Kd.R_slice fR.out;subst QR;have p361:0≤(cB:Int):=of_decide_eq_true (by first|(with_reducible assumption)|assumption);have q361:cB<(l1.length:Int):=of_decide_eq_true (by first|(with_reducible assumption)|assumption);obtain⟨Ha,e361,lM⟩:=Kd.at_bool (Kd.C_kept_now HR1.out HK.out) cB p361 q361
       (try rw [←Nbq19.out] at lM)
       (try rw [←Nbq31.out] at lM)
       cases e361;replace p361:=eq_true p361;replace q361:=eq_true q361;have p367:0≤(cB:Int):=of_decide_eq_true (by first|(with_reducible assumption)|assumption);have q367:cB<(fC.length:Int):=of_decide_eq_true (by first|(with_reducible assumption)|assumption);obtain⟨CV,e367,qO⟩:=Kd.at_bool (aF fR.out).2.2 cB p367 q367
       (try rw [←Nbq19.out] at qO)
       (try rw [←Nbq31.out] at qO)
       cases e367;replace p367:=eq_true p367;replace q367:=eq_true q367;have p33:0≤(cB:Int):=of_decide_eq_true (by first|(with_reducible assumption)|assumption);have q33:(cB:Int)<((fC.length:Int):Int):=of_decide_eq_true (by first|(with_reducible assumption)|assumption);obtain⟨go33,VK,CW,CX,gl33,cl33,HG33⟩:=Kd.R_form fR.out (by omega)
       (first|cases CW|(injection CW with ea_ en_ ec_;(first|subst ea_|(injection ea_ with ea_;subst ea_));subst ec_;clear en_))
       have GB33:=aM CX;have GG33:=aM HG33;clear CX gl33 HG33;have HMgo33:=aM (show(P0_ go33∨w.heap.size≤go33) from(fR.out.1 _ rfl))
       (first|simp only [add_plain] at qO|skip)
       obtain⟨QS,hf33_0⟩:=Kd.R_celln false fR.out (cB:Int) p33 q33;replace p33:=eq_true p33;replace q33:=eq_true q33;have HP35:=Kd.R_putg fR.out (cB:Int) true
       go_wp2_with (first|((with_reducible refine gate_store (t:=4) (p:=39) rfl ?_);refine store_event (t:=4) (p:=39) (v:=?vo_w36) (w1:=(wr.setCell ⟨go33,(cB:Int).toNat,none⟩ (.bool true))) ?hg ?ho ?hn ?hr ?_;(case ho=>rfl);(case hg=>rfl);(case hn=>rfl);(case hr=>first|(go_simp;done)|(go_simp;rfl));intro w36 hw;have hg:wr.grownBy w36 (some go33):=(by rw [hw];exact HP35.2);have hp_:Kd.R Kd.bool 4 w36 w0.heap.size (fun k_=>(P0_ k_∨w.heap.size≤k_)) (.slice (some ⟨go33,0,none⟩) fC.length QQ) y368:=(by rw [hw,CU.out];exact HP35.1);clear HP35;have cE:=aM (hp_);have cF:=aM ((by rw [hw];exact aL (HB.out) GB33.out:Below w0.heap.size w0 w36));have cH:=aM (Kept.of_grown (S:=(fun k_=>P0_ k_)) hg (by repeat(first|(with_reducible first|exact HK.out|apply Kept.alloc|apply Kept.drewN|apply Kept.drew)|exact HK.out)) (fun k_ e_=>(fR.out.1 k_ e_)));clear fR;clear HB;clear HK;have fR:=cE;have HB:=cF;have HK:=cH;clear cE cF cH;clear hg hw hp_))
       go_roundg k1
       case measure=>have:=HK1.out;omega
       case rel=>exact⟨(y368),(false),(wrap64 (cB+1)),(by first|rfl|(simp;done)|(simp [*];done)),(by first|rfl|(simp;done)|(simp [*];done)),H',⟨by have:=HK1.out;omega⟩,⟨gR fR.out⟩,⟨by repeat(first|(with_reducible first|exact HK.out|apply Kept.alloc|apply Kept.drewN|apply Kept.drew)|exact HK.out)⟩,⟨gW HB.out⟩⟩
      ·replace c32:=Bool.eq_false_iff.mpr c32
       subst c32;have H1:(regletref13_join.l0 k1 (fC.set (cB:Int).toNat (false)) l1 false (wrap64 (cB+1)))=some (r1,r2):=by rw [if_neg (show ¬(false=true) by decide)] at H;exact H
       clear H;have H:=H1;clear H1;obtain⟨y370,Hd⟩:∃y_:List Bool,y_=(fC.set (cB:Int).toNat (false)):=⟨_,rfl⟩;replace H:(regletref13_join.l0 k1 y370 l1 false (wrap64 (cB+1)))=some (r1,r2):=by first|(rw [Hd];with_reducible exact H)|(have H2_:=(Option.bind_some _ _).symm.trans H;rw [Hd];with_reducible exact H2_)|(have H2_:=(Option.bind_some _ _).symm.trans H;with_reducible exact H2_)|with_reducible exact H|(rw [Hd];exact H)|exact H
       have CY:=aM Hd;clear Hd;have H':=aM H;clear H;obtain⟨VL,QT,QU⟩:=Kd.R_slice fR.out;subst QU;have p361:0≤(cB:Int):=of_decide_eq_true (by first|(with_reducible assumption)|assumption);have q361:cB<(l1.length:Int):=of_decide_eq_true (by first|(with_reducible assumption)|assumption);obtain⟨Ha,e361,lM⟩:=Kd.at_bool (Kd.C_kept_now HR1.out HK.out) cB p361 q361
       (try rw [←Nbq19.out] at lM)
       (try rw [←Nbq31.out] at lM)
       cases e361;replace p361:=eq_true p361;replace q361:=eq_true q361;have p367:0≤(cB:Int):=of_decide_eq_true (by first|(with_reducible assumption)|assumption);have q367:cB<(fC.length:Int):=of_decide_eq_true (by first|(with_reducible assumption)|assumption);obtain⟨CV,e367,qO⟩:=Kd.at_bool (aF fR.out).2.2 cB p367 q367
       (try rw [←Nbq19.out] at qO)
       (try rw [←Nbq31.out] at qO)
       cases e367;replace p367:=eq_true p367;replace q367:=eq_true q367;have p369:0≤(cB:Int):=of_decide_eq_true (by first|(with_reducible assumption)|assumption);have q369:cB<(l1.length:Int):=of_decide_eq_true (by first|(with_reducible assumption)|assumption);obtain⟨CZ,e369,Kn⟩:=Kd.at_bool (Kd.C_kept_now HR1.out HK.out) cB p369 q369
       (try rw [←Nbq19.out] at Kn)
       (try rw [←Nbq31.out] at Kn)
       obtain rfl:Ha=CZ:=(by injection e369);replace p369:=eq_true p369;replace q369:=eq_true q369;have p37:0≤(cB:Int):=of_decide_eq_true (by first|(with_reducible assumption)|assumption);have q37:(cB:Int)<((fC.length:Int):Int):=of_decide_eq_true (by first|(with_reducible assumption)|assumption);obtain⟨go37,VM,DA,DC,gl37,cl37,HG37⟩:=Kd.R_form fR.out (by omega)
       (first|cases DA|(injection DA with ea_ en_ ec_;(first|subst ea_|(injection ea_ with ea_;subst ea_));subst ec_;clear en_))
       have GB37:=aM DC;have GG37:=aM HG37;clear DC gl37 HG37;have HMgo37:=aM (show(P0_ go37∨w.heap.size≤go37) from(fR.out.1 _ rfl))
       (first|simp only [add_plain] at qO|skip)
       obtain⟨QV,hf37_0⟩:=Kd.R_celln false fR.out (cB:Int) p37 q37;replace p37:=eq_true p37;replace q37:=eq_true q37;have HP39:=Kd.R_putg fR.out (cB:Int) false
       go_wp2_with (first|((with_reducible refine gate_store (t:=4) (p:=39) rfl ?_);refine store_event (t:=4) (p:=39) (v:=?vo_w40) (w1:=(wr.setCell ⟨go37,(cB:Int).toNat,none⟩ (.bool false))) ?hg ?ho ?hn ?hr ?_;(case ho=>rfl);(case hg=>rfl);(case hn=>rfl);(case hr=>first|(go_simp;done)|(go_simp;rfl));intro w40 hw;have hg:wr.grownBy w40 (some go37):=(by rw [hw];exact HP39.2);have hp_:Kd.R Kd.bool 4 w40 w0.heap.size (fun k_=>(P0_ k_∨w.heap.size≤k_)) (.slice (some ⟨go37,0,none⟩) fC.length QT) y370:=(by rw [hw,CY.out];exact HP39.1);clear HP39;have cE:=aM (hp_);have cF:=aM ((by rw [hw];exact aL (HB.out) GB37.out:Below w0.heap.size w0 w40));have cH:=aM (Kept.of_grown (S:=(fun k_=>P0_ k_)) hg (by repeat(first|(with_reducible first|exact HK.out|apply Kept.alloc|apply Kept.drewN|apply Kept.drew)|exact HK.out)) (fun k_ e_=>(fR.out.1 k_ e_)));clear fR;clear HB;clear HK;have fR:=cE;have HB:=cF;have HK:=cH;clear cE cF cH;clear hg hw hp_))
       go_roundg k1
       case measure=>have:=HK1.out;omega
       case rel=>exact⟨(y370),(false),(wrap64 (cB+1)),(by first|rfl|(simp;done)|(simp [*];done)),(by first|rfl|(simp;done)|(simp [*];done)),H',⟨by have:=HK1.out;omega⟩,⟨gR fR.out⟩,⟨by repeat(first|(with_reducible first|exact HK.out|apply Kept.alloc|apply Kept.drewN|apply Kept.drew)|exact HK.out)⟩,⟨gW HB.out⟩⟩
   ·rw [if_neg c3] at H
    have uM:decide (cB<(fC.length:Int))=false:=decide_eq_false c3;clear c3;simp only [Option.some.injEq,Prod.mk.injEq] at H;obtain⟨rfl,rfl⟩:=H;obtain⟨VN,VO,QW⟩:=Kd.R_slice fR.out;subst QW;go_wp2
    go_ret
    exact⟨by first|rfl|(simp [errW_none,errW_some]<;>rfl)|(simp [*,errW_none,errW_some]<;>rfl),gR fR.out,gW HB.out,by repeat(first|(with_reducible first|exact HK.out|apply Kept.alloc|apply Kept.drewN|apply Kept.drew)|exact HK.out)⟩
def regletref13_begins.l0:Nat→List (S43)→List (List Bool)→List Bool→List Bool→Int→Option (List Bool×Bool)
 |0,_,_,_,_,_=>none
 |k+1,x1,x2,x3,x10,x11=>if x11<(x1.length:Int) then(if 0≤x11 then(if(rd_T43 x1 x11).f0=true then(if 0≤((rd_T43 x1 x11).f1) then(if((rd_T43 x1 x11).f1)<(x10.length:Int) then(some ((x10.set (((rd_T43 x1 x11).f1):Int).toNat true),false)) else(none)) else(none)) else(if 0≤((rd_T43 x1 x11).f1) then(if((rd_T43 x1 x11).f1)<(x2.length:Int) then((regletref13_join.f k x10 (rd_L17 x2 ((rd_T43 x1 x11).f1))).bind fun yL=>(if((rd_T43 x1 x11).f1)<(x3.length:Int) then(if(rdOf false x3 ((rd_T43 x1 x11).f1)=true) then(regletref13_begins.l0 k x1 x2 x3 yL.2 (wrap64 (x11+1))) else(some (yL.2,false))) else(none))) else(none)) else(none))) else(none)) else(some (x10,true))
def regletref13_begins.f (k:Nat) (aU:List ByteArray) (aX:List (S72)) (bA:Int) (bB:Int) (aQ:List (S35)) (l1:List (S43)) (l2:List (List Bool)) (l3:List Bool):Option (List Bool×Bool):=if 0≤(wrap64 ((aX.length:Int)+1)) then(if(wrap64 ((aX.length:Int)+1):Int).toNat≤281474976710656 then(regletref13_begins.l0 k l1 l2 l3 (List.replicate (wrap64 ((aX.length:Int)+1):Int).toNat false) 0) else(none)) else(none)
set_option maxHeartbeats 8000000 in
set_option maxRecDepth 100000 in
theorem regletref13_begins.calls (k:Nat) (bM:Option Addr) (bO:Nat) (aU:List ByteArray) (bQ:Option Addr) (bR:Nat) (aX:List (S72)) (bA:Int) (bB:Int) (bV:Option Addr) (bS:Nat) (aQ:List (S35)) (A1:Option Addr) (c1:Nat) (l1:List (S43)) (A2:Option Addr) (c2:Nat) (l2:List (List Bool)) (A3:Option Addr) (c3:Nat) (l3:List Bool) (r1:List Bool) (r2:Bool) (w:World) (dX:Kd.C Kd.string w bM aU.length aU) (eE:aU.length≤bO) (eF:Kd.C k72 w bQ aX.length aX) (eG:aX.length≤bR) (dZ:Kd.C k35 w bV aQ.length aQ) (eM:aQ.length≤bS) (hr1:Kd.C k43 w A1 l1.length l1) (hc1:l1.length≤c1) (hr2:Kd.C (Kd.slice 4 Kd.bool) w A2 l2.length l2) (hc2:l2.length≤c2) (hr3:Kd.C Kd.bool w A3 l3.length l3) (hc3:l3.length≤c3) (h:regletref13_begins.f k aU aX bA bB aQ l1 l2 l3=some (r1,r2)):
 Calls Try.prog 46 #[.agg #[.slice bM aU.length bO,.slice bQ aX.length bR,.int .i64 bA,.int .i64 bB,.slice bV aQ.length bS],.slice A1 l1.length c1,.slice A2 l2.length c2,.slice A3 l3.length c3] w fun e w'=>∃v0_:Value,e= .returned (.tuple #[v0_,.bool r2])∧Kd.R Kd.bool 4 w' w.heap.size (fun _=>True) v0_ r1∧Below w.heap.size w w':=by
 have hu26:=Try.underlying26;have fN:=aM dX;have fS:=aM eE;clear dX eE;have gA:=aM eF;have gD:=aM eG;clear eF eG;have eJ:=aM dZ;have gE:=aM eM;clear dZ eM;have HR1:=aM hr1;have HC1:=aM hc1;clear hr1 hc1;have HR2:=aM hr2;have HC2:=aM hc2;clear hr2 hc2;have HR3:=aM hr3;have HC3:=aM hc3;clear hr3 hc3;have HB:=aM (Below.refl w.heap.size w);have H:(if 0≤(wrap64 ((aX.length:Int)+1)) then(if(wrap64 ((aX.length:Int)+1):Int).toNat≤281474976710656 then(regletref13_begins.l0 k l1 l2 l3 (List.replicate (wrap64 ((aX.length:Int)+1):Int).toNat false) 0) else(none)) else(none))=some (r1,r2):=h;clear h;obtain⟨Ot,Oj⟩:∃j_:Int,(wrap64 ((aX.length:Int)+1))=j_:=⟨_,rfl⟩;replace H:(if 0≤(Ot) then(if(Ot:Int).toNat≤281474976710656 then(regletref13_begins.l0 k l1 l2 l3 (List.replicate (Ot:Int).toNat false) 0) else(none)) else(none))=some (r1,r2):=by first|(rw [Oj] at H;exact H)|(simp only [Oj] at H ⊢;exact H)
 have hji5w:(IntKind.i64.wrap ((aX.length:Int)+1))=Ot:=(i64_w _).trans Oj
 by_cases c6:0≤(Ot)
 rotate_left
 ·rw [if_neg c6] at H
  exact absurd H (by simp)
 rw [if_pos c6] at H;have yT:=eq_true c6;have Jk:decide (0≤(Ot))=true:=decide_eq_true c6;clear c6
 by_cases c7:(Ot:Int).toNat≤281474976710656
 rotate_left
 ·rw [if_neg c7] at H
  exact absurd H (by simp)
 rw [if_pos c7] at H;have yU:=eq_true c7;have He:decide ((Ot:Int).toNat≤281474976710656)=true:=decide_eq_true c7;clear c7;obtain⟨y372,Hf⟩:∃y_:List Bool,y_=(List.replicate (Ot:Int).toNat false):=⟨_,rfl⟩;replace H:(regletref13_begins.l0 k l1 l2 l3 y372 0)=some (r1,r2):=by first|(rw [Hf];with_reducible exact H)|(have H2_:=(Option.bind_some _ _).symm.trans H;rw [Hf];with_reducible exact H2_)|(have H2_:=(Option.bind_some _ _).symm.trans H;with_reducible exact H2_)|with_reducible exact H|(rw [Hf];exact H)|exact H
 have Xj:=aM Hf;clear Hf;have H':=aM H;clear H;go_enter Try.func46,Try.ntmps46
 go_wp2_with (first|((with_reducible refine bJ (N:=4) rfl ?_);refine box_event ?hg (N:=4) ?hd (cs:=#[.slice bM aU.length bO,.slice bQ aX.length bR,.int .i64 bA,.int .i64 bB,.slice bV aQ.length bS]) (t:=26) ?hr ?_;(case hd=>rfl);(case hg=>rfl);(case hr=>first|(go_simp;done)|(go_simp;rfl));intro yM hg w8 hbox hb;have cE:=aM (bG (gW HB.out) hb);have cF:=aM (hbox);have cH:=aM ((by rw [hg];exact(bH (gW HB.out)):w.heap.size≤yM));have cM:=aM ((by rw [hg];exact(bH (gW HB.out)):w.heap.size≤yM));clear HB;have HB:=cE;have iW:=cF;have GW371:=cH;have Xk:=cM;clear cE cF cH cM;clear hb hbox hg;have nW:w8.cell? ⟨yM,0,none⟩=some (.slice bM aU.length bO):=(aG iW.out 0).trans rfl;have nX:w8.cell? ⟨yM,1,none⟩=some (.slice bQ aX.length bR):=(aG iW.out 1).trans rfl;have Bv:w8.cell? ⟨yM,2,none⟩=some (.int .i64 bA):=(aG iW.out 2).trans rfl;have Bw:w8.cell? ⟨yM,3,none⟩=some (.int .i64 bB):=(aG iW.out 3).trans rfl;have By:w8.cell? ⟨yM,4,none⟩=some (.slice bV aQ.length bS):=(aG iW.out 4).trans rfl;have nY:=aH iW.out 0;have nZ:=aH iW.out 1;have Bz:=aH iW.out 2;have Ca:=aH iW.out 3;have Cb:=aH iW.out 4)|((with_reducible refine bJ (N:=16) rfl ?_);refine Kd.R_make Kd.bool _ 4 rfl (N:=16) rfl 90 _ _ rfl Ot rfl rfl Try.underlying90 (.bool false) 1 info4 rfl (by decide) (by omega) false (ok:=fun _=>True) (okp:=fun _=>True) rfl (fun _ hk=>hk) trivial (of_decide_eq_true (by first|(with_reducible assumption)|assumption)) (Nat.le_trans (Nat.mul_le_mul_right _ (of_decide_eq_true (by first|(with_reducible assumption)|assumption):Ot.toNat≤281474976710656)) (by omega)) (Below.refl _ _) (Nat.le_refl _) ?_;intro v373 w10 ho11 hb hg_ hnew_;clear hg_ hnew_;(first|rw [←Xj.out] at ho11|(simp only [Int.reduceToNat] at ho11;rw [←Xj.out] at ho11));have cE:=aM (bL ho11 (bH (gW HB.out)));have cF:=aM (bF (gB iW.out) hb);have cH:=aM (bG (gW HB.out) hb);clear iW;clear HB;have DD:=cE;have iW:=cF;have HB:=cH;clear cE cF cH;clear hb ho11))
 go_loopg [11] k (fun kq v11 w'=>∃(gF:List Bool) (cJ:Int),v11= .int .i64 cJ∧Aside0 (regletref13_begins.l0 kq l1 l2 l3 gF cJ=some (r1,r2))∧Aside0 (kq≤k)∧Aside0 (Kd.R Kd.bool 4 w' w.heap.size (fun _=>True) v373 gF)∧Aside0 (w'.heap[yM]?=some (.cells #[(.slice bM aU.length bO),(.slice bQ aX.length bR),.int .i64 bA,.int .i64 bB,(.slice bV aQ.length bS)] 26 (0,0)))∧Aside0 (Below w.heap.size w w'))
 case atStart=>exact⟨(y372),(0),(by first|rfl|(simp;done)|(simp [*];done)),H',⟨Nat.le_refl _⟩,⟨gR DD.out⟩,⟨gB iW.out⟩,⟨gW HB.out⟩⟩
 case round=>
  clear H'
  (try clear c1);(try clear c2);(try clear p2);(try clear c3);(try clear c4);(try clear c6);(try clear yT);(try clear Jk);(try clear p6);(try clear c7);(try clear yU);(try clear He);(try clear nW);(try clear nX);(try clear Bv);(try clear Bw);(try clear By);(try clear nY);(try clear nZ);(try clear Bz);(try clear Ca);(try clear Cb)
  obtain⟨gF,cJ,rfl,HA,HK1,cY,iW,HB⟩:=hrel
  cases gk with
  |zero=>exact absurd HA.out (by simp [regletref13_begins.l0])
  |succ k1=>
   have H:=HA.out;clear HA;simp only [regletref13_begins.l0] at H
   by_cases c12:cJ<(l1.length:Int)
   ·rw [if_pos c12] at H
    have Gx:decide (cJ<(l1.length:Int))=true:=decide_eq_true c12;clear c12
    by_cases c13:0≤cJ
    rotate_left
    ·rw [if_neg c13] at H
     exact absurd H (by simp)
    rw [if_pos c13] at H;have oF:decide (0≤cJ)=true:=decide_eq_true c13;clear c13;obtain⟨bq14,hbq14⟩:∃b_:Bool,b_=((rd_T43 l1 cJ).f0):=⟨_,rfl⟩;replace H:(if bq14=true then(if 0≤((rd_T43 l1 cJ).f1) then(if((rd_T43 l1 cJ).f1)<(gF.length:Int) then(some ((gF.set (((rd_T43 l1 cJ).f1):Int).toNat true),false)) else(none)) else(none)) else(if 0≤((rd_T43 l1 cJ).f1) then(if((rd_T43 l1 cJ).f1)<(l2.length:Int) then((regletref13_join.f k1 gF (rd_L17 l2 ((rd_T43 l1 cJ).f1))).bind fun yL=>(if((rd_T43 l1 cJ).f1)<(l3.length:Int) then(if(rdOf false l3 ((rd_T43 l1 cJ).f1)=true) then(regletref13_begins.l0 k1 l1 l2 l3 yL.2 (wrap64 (cJ+1))) else(some (yL.2,false))) else(none))) else(none)) else(none)))=some (r1,r2):=by rw [←hbq14] at H;exact H
    have Nbq14:=aM hbq14;clear hbq14
    by_cases c15:bq14=true
    ·subst c15
     have H1:(if 0≤((rd_T43 l1 cJ).f1) then(if((rd_T43 l1 cJ).f1)<(gF.length:Int) then(some ((gF.set (((rd_T43 l1 cJ).f1):Int).toNat true),false)) else(none)) else(none))=some (r1,r2):=by rw [if_pos rfl] at H;exact H
     clear H;have H:=H1;clear H1
     by_cases c16:0≤((rd_T43 l1 cJ).f1)
     rotate_left
     ·rw [if_neg c16] at H
      exact absurd H (by simp)
     rw [if_pos c16] at H;have Ou:decide (0≤((rd_T43 l1 cJ).f1))=true:=decide_eq_true c16;clear c16
     by_cases c17:((rd_T43 l1 cJ).f1)<(gF.length:Int)
     rotate_left
     ·rw [if_neg c17] at H
      exact absurd H (by simp)
     rw [if_pos c17] at H;have mN:decide (((rd_T43 l1 cJ).f1)<(gF.length:Int))=true:=decide_eq_true c17;clear c17;obtain⟨y377,Hg⟩:∃y_:List Bool,y_=(gF.set (((rd_T43 l1 cJ).f1):Int).toNat true):=⟨_,rfl⟩;replace H:(some (y377,false))=some (r1,r2):=by first|(rw [Hg];with_reducible exact H)|(have H2_:=(Option.bind_some _ _).symm.trans H;rw [Hg];with_reducible exact H2_)|(have H2_:=(Option.bind_some _ _).symm.trans H;with_reducible exact H2_)|with_reducible exact H|(rw [Hg];exact H)|exact H
     have DE:=aM Hg;clear Hg;simp only [Option.some.injEq,Prod.mk.injEq] at H;obtain⟨rfl,rfl⟩:=H;have p375:0≤(cJ:Int):=of_decide_eq_true (by first|(with_reducible assumption)|assumption);have q375:cJ<(l1.length:Int):=of_decide_eq_true (by first|(with_reducible assumption)|assumption);obtain⟨Cc,e375,iY,lN⟩:=at_T43 HR1.out cJ p375 q375
     (try rw [←Nbq14.out] at iY)
     cases e375;replace iY:=(HB.out.cell (World.block_lt_of_cell? w _ iY)).trans iY;replace lN:=(HB.out.cell (World.block_lt_of_cell? w _ lN)).trans lN;replace p375:=eq_true p375;replace q375:=eq_true q375;have p376:0≤(cJ:Int):=of_decide_eq_true (by first|(with_reducible assumption)|assumption);have q376:cJ<(l1.length:Int):=of_decide_eq_true (by first|(with_reducible assumption)|assumption);obtain⟨DF,e376,yY,De⟩:=at_T43 HR1.out cJ p376 q376
     (try rw [←Nbq14.out] at yY)
     obtain rfl:Cc=DF:=(by injection e376);replace yY:=(HB.out.cell (World.block_lt_of_cell? w _ yY)).trans yY;replace De:=(HB.out.cell (World.block_lt_of_cell? w _ De)).trans De;replace p376:=eq_true p376;replace q376:=eq_true q376;have p18:0≤(((rd_T43 l1 cJ).f1):Int):=of_decide_eq_true (by first|(with_reducible assumption)|assumption);have q18:(((rd_T43 l1 cJ).f1):Int)<((gF.length:Int):Int):=of_decide_eq_true (by first|(with_reducible assumption)|assumption);obtain⟨go18,Zp,Rs,DG,gl18,cl18,HG18⟩:=Kd.R_form cY.out (by omega)
     (first|cases Rs|(injection Rs with ea_ en_ ec_;(first|subst ea_|(injection ea_ with ea_;subst ea_));subst ec_;clear en_))
     have GB18:=aM DG;have GG18:=aM HG18;clear DG gl18 HG18;obtain⟨QX,hf18_0⟩:=Kd.R_celln false cY.out (((rd_T43 l1 cJ).f1):Int) p18 q18;replace p18:=eq_true p18;replace q18:=eq_true q18;have HP19:=Kd.R_putg cY.out (((rd_T43 l1 cJ).f1):Int) true
     go_wp2_with (first|((with_reducible refine gate_store (t:=4) (p:=34) rfl ?_);refine store_event (t:=4) (p:=34) (v:=?vo_w20) (w1:=(wr.setCell ⟨go18,(((rd_T43 l1 cJ).f1):Int).toNat,none⟩ (.bool true))) ?hg ?ho ?hn ?hr ?_;(case ho=>rfl);(case hg=>rfl);(case hn=>rfl);(case hr=>first|(go_simp;done)|(go_simp;rfl));intro w20 hw;have hg:wr.grownBy w20 (some go18):=(by rw [hw];exact HP19.2);have hp_:Kd.R Kd.bool 4 w20 w.heap.size (fun _=>True) (.slice (some ⟨go18,0,none⟩) gF.length Zp) y377:=(by rw [hw,DE.out];exact HP19.1);clear HP19;have cE:=aM (hp_);have cF:=aM (blk_grown (gB iW.out) hg (Kd.R_ne cY.out iW.out (by decide)));have cH:=aM ((by rw [hw];exact aL (HB.out) GB18.out:Below w.heap.size w w20));clear cY;clear iW;clear HB;have cY:=cE;have iW:=cF;have HB:=cH;clear cE cF cH;clear hg hw hp_))
     go_ret2
     exact⟨_,by first|rfl|(simp [errW_none,errW_some]<;>rfl)|(simp only [←Oj];first|rfl|(simp [errW_none,errW_some]<;>rfl))|(simp [*,errW_none,errW_some]<;>rfl),gR cY.out,gW HB.out⟩
    ·replace c15:=Bool.eq_false_iff.mpr c15
     subst c15;have H1:(if 0≤((rd_T43 l1 cJ).f1) then(if((rd_T43 l1 cJ).f1)<(l2.length:Int) then((regletref13_join.f k1 gF (rd_L17 l2 ((rd_T43 l1 cJ).f1))).bind fun yL=>(if((rd_T43 l1 cJ).f1)<(l3.length:Int) then(if(rdOf false l3 ((rd_T43 l1 cJ).f1)=true) then(regletref13_begins.l0 k1 l1 l2 l3 yL.2 (wrap64 (cJ+1))) else(some (yL.2,false))) else(none))) else(none)) else(none))=some (r1,r2):=by rw [if_neg (show ¬(false=true) by decide)] at H;exact H
     clear H;have H:=H1;clear H1
     by_cases c21:0≤((rd_T43 l1 cJ).f1)
     rotate_left
     ·rw [if_neg c21] at H
      exact absurd H (by simp)
     rw [if_pos c21] at H;have Ov:decide (0≤((rd_T43 l1 cJ).f1))=true:=decide_eq_true c21;clear c21
     by_cases c22:((rd_T43 l1 cJ).f1)<(l2.length:Int)
     rotate_left
     ·rw [if_neg c22] at H
      exact absurd H (by simp)
     rw [if_pos c22] at H;have uO:decide (((rd_T43 l1 cJ).f1)<(l2.length:Int))=true:=decide_eq_true c22;clear c22;replace H:=Option.bind_eq_some_iff.mp H;obtain⟨⟨t380,t381⟩,A230,H⟩:=H;replace H:(if((rd_T43 l1 cJ).f1)<(l3.length:Int) then(if(rdOf false l3 ((rd_T43 l1 cJ).f1)=true) then(regletref13_begins.l0 k1 l1 l2 l3 t381 (wrap64 (cJ+1))) else(some (t381,false))) else(none))=some (r1,r2):=H;have A23:=aM A230;clear A230
     by_cases c24:((rd_T43 l1 cJ).f1)<(l3.length:Int)
     rotate_left
     ·rw [if_neg c24] at H
      exact absurd H (by simp)
     rw [if_pos c24] at H;have Cd:decide (((rd_T43 l1 cJ).f1)<(l3.length:Int))=true:=decide_eq_true c24;clear c24;obtain⟨bq25,hbq25⟩:∃b_:Bool,b_=(rdOf false l3 ((rd_T43 l1 cJ).f1)):=⟨_,rfl⟩;replace H:(if(bq25=true) then(regletref13_begins.l0 k1 l1 l2 l3 t381 (wrap64 (cJ+1))) else(some (t381,false)))=some (r1,r2):=by rw [←hbq25] at H;exact H
     have Nbq25:=aM hbq25;clear hbq25
     by_cases c26:(bq25=true)
     ·subst c26
      have H1:(regletref13_begins.l0 k1 l1 l2 l3 t381 (wrap64 (cJ+1)))=some (r1,r2):=by rw [if_pos rfl] at H;exact H
      clear H;have H:=H1;clear H1;have H':=aM H;clear H;have p375:0≤(cJ:Int):=of_decide_eq_true (by first|(with_reducible assumption)|assumption);have q375:cJ<(l1.length:Int):=of_decide_eq_true (by first|(with_reducible assumption)|assumption);obtain⟨Cc,e375,iY,lN⟩:=at_T43 HR1.out cJ p375 q375
      (try rw [←Nbq14.out] at iY)
      (try rw [←Nbq25.out] at iY)
      cases e375;replace iY:=(HB.out.cell (World.block_lt_of_cell? w _ iY)).trans iY;replace lN:=(HB.out.cell (World.block_lt_of_cell? w _ lN)).trans lN;replace p375:=eq_true p375;replace q375:=eq_true q375;have p378:0≤(cJ:Int):=of_decide_eq_true (by first|(with_reducible assumption)|assumption);have q378:cJ<(l1.length:Int):=of_decide_eq_true (by first|(with_reducible assumption)|assumption);obtain⟨Ow,e378,lO,qP⟩:=at_T43 HR1.out cJ p378 q378
      (try rw [←Nbq14.out] at lO)
      (try rw [←Nbq25.out] at lO)
      obtain rfl:Cc=Ow:=(by injection e378);replace lO:=(HB.out.cell (World.block_lt_of_cell? w _ lO)).trans lO;replace qP:=(HB.out.cell (World.block_lt_of_cell? w _ qP)).trans qP;replace p378:=eq_true p378;replace q378:=eq_true q378;have p379:0≤(((rd_T43 l1 cJ).f1):Int):=of_decide_eq_true (by first|(with_reducible assumption)|assumption);have q379:((rd_T43 l1 cJ).f1)<(l2.length:Int):=of_decide_eq_true (by first|(with_reducible assumption)|assumption);obtain⟨DH,Jl,Jm,e379,qQ,uP,uQ⟩:=at_L17 HR2.out ((rd_T43 l1 cJ).f1) p379 q379
      cases e379;replace qQ:=(HB.out.cell (World.block_lt_of_cell? w _ qQ)).trans qQ;have Df:=aM uQ;have Dg:=aM uP;clear uQ uP;replace p379:=eq_true p379;replace q379:=eq_true q379;obtain⟨Dh,Cw,Oi⟩:=Kd.R_slice cY.out;subst Oi
      go_wp2_with (first|((with_reducible refine bI (f:=47) rfl ?_);refine goesL_ (some 45) rfl rfl Try.func47 (by kernel_rfl) rfl #[.slice Dh gF.length Cw,.slice Jl (rd_L17 l2 ((rd_T43 l1 cJ).f1)).length Jm] rfl (by(try simp only [List.map_toArray,List.map_cons,List.map_nil]);first|done|rfl|(simp only [List.length_drop,List.length_take];rfl)) ?_;(with_reducible refine(regletref13_join.calls k1 (fun k_=>some k_=(.slice Dh gF.length Cw:Value).ownBlock) (.slice Dh gF.length Cw) gF _ _ (rd_L17 l2 ((rd_T43 l1 cJ).f1)) t380 t381 w _ ?side1 ?side2 ?side3 ?side4 A23.out).mono ?_);(case side1=>repeat(first|(with_reducible first|exact HB.out|apply aN|apply aP|apply aO|refine aL ?_ Xk.out)|exact HB.out));(case side2=>exact Kd.R_tight rfl cY.out);(case side3=>exact Kd.C_kept_came Kd.heap_bool Df.out (gW HB.out) (fun k_ hs_=>(fun e_=>Kd.R_base cY.out k_ e_.symm) hs_));(case side4=>exact Dg.out);rintro e w28 ⟨rfl,DI,hb,hkp⟩;refine⟨_,rfl,?_⟩;have cE:=aM (Kd.R_reok rfl DI (fun k_ e_=>cY.out.1 k_ e_));have cF:=aM (blk_kept (gB iW.out) hkp (fun hs_=>(fun e_=>(Kd.R_ne cY.out iW.out (by decide)) e_) hs_));have cH:=aM (hb);clear cY;clear iW;clear HB;have cY:=cE;have iW:=cF;have HB:=cH;clear cE cF cH;(try clear hb);(try clear hkp);(try clear DI);have p382:0≤(cJ:Int):=of_decide_eq_true (by first|(with_reducible assumption)|assumption);have q382:cJ<(l1.length:Int):=of_decide_eq_true (by first|(with_reducible assumption)|assumption);obtain⟨Ox,e382,lP,qR⟩:=at_T43 HR1.out cJ p382 q382;(try rw [←Nbq14.out] at lP);(try rw [←Nbq25.out] at lP);obtain rfl:Cc=Ox:=(by injection e382);replace lP:=(HB.out.cell (World.block_lt_of_cell? w _ lP)).trans lP;replace qR:=(HB.out.cell (World.block_lt_of_cell? w _ qR)).trans qR;replace p382:=eq_true p382;replace q382:=eq_true q382;have p383:0≤(((rd_T43 l1 cJ).f1):Int):=of_decide_eq_true (by first|(with_reducible assumption)|assumption);have q383:((rd_T43 l1 cJ).f1)<(l3.length:Int):=of_decide_eq_true (by first|(with_reducible assumption)|assumption);obtain⟨DJ,e383,lQ⟩:=Kd.at_bool HR3.out ((rd_T43 l1 cJ).f1) p383 q383;(try rw [←Nbq14.out] at lQ);(try rw [←Nbq25.out] at lQ);cases e383;replace lQ:=(HB.out.cell (World.block_lt_of_cell? w _ lQ)).trans lQ;replace p383:=eq_true p383;replace q383:=eq_true q383))
      go_roundg k1
      case measure=>have:=HK1.out;omega
      case rel=>exact⟨(t381),(wrap64 (cJ+1)),(by first|rfl|(simp;done)|(simp [*];done)),H',⟨by have:=HK1.out;omega⟩,⟨gR cY.out⟩,⟨gB iW.out⟩,⟨gW HB.out⟩⟩
     ·replace c26:=Bool.eq_false_iff.mpr c26
      subst c26;have H1:(some (t381,false))=some (r1,r2):=by rw [if_neg (show ¬(false=true) by decide)] at H;exact H
      clear H;have H:=H1;clear H1;simp only [Option.some.injEq,Prod.mk.injEq] at H;obtain⟨rfl,rfl⟩:=H;have p375:0≤(cJ:Int):=of_decide_eq_true (by first|(with_reducible assumption)|assumption);have q375:cJ<(l1.length:Int):=of_decide_eq_true (by first|(with_reducible assumption)|assumption);obtain⟨Cc,e375,iY,lN⟩:=at_T43 HR1.out cJ p375 q375
      (try rw [←Nbq14.out] at iY)
      (try rw [←Nbq25.out] at iY)
      cases e375;replace iY:=(HB.out.cell (World.block_lt_of_cell? w _ iY)).trans iY;replace lN:=(HB.out.cell (World.block_lt_of_cell? w _ lN)).trans lN;replace p375:=eq_true p375;replace q375:=eq_true q375;have p378:0≤(cJ:Int):=of_decide_eq_true (by first|(with_reducible assumption)|assumption);have q378:cJ<(l1.length:Int):=of_decide_eq_true (by first|(with_reducible assumption)|assumption);obtain⟨Ow,e378,lO,qP⟩:=at_T43 HR1.out cJ p378 q378
      (try rw [←Nbq14.out] at lO)
      (try rw [←Nbq25.out] at lO)
      obtain rfl:Cc=Ow:=(by injection e378);replace lO:=(HB.out.cell (World.block_lt_of_cell? w _ lO)).trans lO;replace qP:=(HB.out.cell (World.block_lt_of_cell? w _ qP)).trans qP;replace p378:=eq_true p378;replace q378:=eq_true q378;have p379:0≤(((rd_T43 l1 cJ).f1):Int):=of_decide_eq_true (by first|(with_reducible assumption)|assumption);have q379:((rd_T43 l1 cJ).f1)<(l2.length:Int):=of_decide_eq_true (by first|(with_reducible assumption)|assumption);obtain⟨DH,Jl,Jm,e379,qQ,uP,uQ⟩:=at_L17 HR2.out ((rd_T43 l1 cJ).f1) p379 q379
      cases e379;replace qQ:=(HB.out.cell (World.block_lt_of_cell? w _ qQ)).trans qQ;have Df:=aM uQ;have Dg:=aM uP;clear uQ uP;replace p379:=eq_true p379;replace q379:=eq_true q379;obtain⟨jA,jB,Zq⟩:=Kd.R_slice cY.out;subst Zq
      go_wp2_with (first|((with_reducible refine bI (f:=47) rfl ?_);refine goesL_ (some 45) rfl rfl Try.func47 (by kernel_rfl) rfl #[.slice jA gF.length jB,.slice Jl (rd_L17 l2 ((rd_T43 l1 cJ).f1)).length Jm] rfl (by(try simp only [List.map_toArray,List.map_cons,List.map_nil]);first|done|rfl|(simp only [List.length_drop,List.length_take];rfl)) ?_;(with_reducible refine(regletref13_join.calls k1 (fun k_=>some k_=(.slice jA gF.length jB:Value).ownBlock) (.slice jA gF.length jB) gF _ _ (rd_L17 l2 ((rd_T43 l1 cJ).f1)) t380 t381 w _ ?side1 ?side2 ?side3 ?side4 A23.out).mono ?_);(case side1=>repeat(first|(with_reducible first|exact HB.out|apply aN|apply aP|apply aO|refine aL ?_ Xk.out)|exact HB.out));(case side2=>exact Kd.R_tight rfl cY.out);(case side3=>exact Kd.C_kept_came Kd.heap_bool Df.out (gW HB.out) (fun k_ hs_=>(fun e_=>Kd.R_base cY.out k_ e_.symm) hs_));(case side4=>exact Dg.out);rintro e w30 ⟨rfl,DI,hb,hkp⟩;refine⟨_,rfl,?_⟩;have cE:=aM (Kd.R_reok rfl DI (fun k_ e_=>cY.out.1 k_ e_));have cF:=aM (blk_kept (gB iW.out) hkp (fun hs_=>(fun e_=>(Kd.R_ne cY.out iW.out (by decide)) e_) hs_));have cH:=aM (hb);clear cY;clear iW;clear HB;have cY:=cE;have iW:=cF;have HB:=cH;clear cE cF cH;(try clear hb);(try clear hkp);(try clear DI);have p382:0≤(cJ:Int):=of_decide_eq_true (by first|(with_reducible assumption)|assumption);have q382:cJ<(l1.length:Int):=of_decide_eq_true (by first|(with_reducible assumption)|assumption);obtain⟨Ox,e382,lP,qR⟩:=at_T43 HR1.out cJ p382 q382;(try rw [←Nbq14.out] at lP);(try rw [←Nbq25.out] at lP);obtain rfl:Cc=Ox:=(by injection e382);replace lP:=(HB.out.cell (World.block_lt_of_cell? w _ lP)).trans lP;replace qR:=(HB.out.cell (World.block_lt_of_cell? w _ qR)).trans qR;replace p382:=eq_true p382;replace q382:=eq_true q382;have p383:0≤(((rd_T43 l1 cJ).f1):Int):=of_decide_eq_true (by first|(with_reducible assumption)|assumption);have q383:((rd_T43 l1 cJ).f1)<(l3.length:Int):=of_decide_eq_true (by first|(with_reducible assumption)|assumption);obtain⟨DJ,e383,lQ⟩:=Kd.at_bool HR3.out ((rd_T43 l1 cJ).f1) p383 q383;(try rw [←Nbq14.out] at lQ);(try rw [←Nbq25.out] at lQ);cases e383;replace lQ:=(HB.out.cell (World.block_lt_of_cell? w _ lQ)).trans lQ;replace p383:=eq_true p383;replace q383:=eq_true q383))
      go_ret2
      exact⟨_,by first|rfl|(simp [errW_none,errW_some]<;>rfl)|(simp only [←Oj];first|rfl|(simp [errW_none,errW_some]<;>rfl))|(simp [*,errW_none,errW_some]<;>rfl),gR cY.out,gW HB.out⟩
   ·rw [if_neg c12] at H
    have Gx:decide (cJ<(l1.length:Int))=false:=decide_eq_false c12;clear c12;simp only [Option.some.injEq,Prod.mk.injEq] at H;obtain⟨rfl,rfl⟩:=H;go_wp2
    go_ret2
    exact⟨_,by first|rfl|(simp [errW_none,errW_some]<;>rfl)|(simp only [←Oj];first|rfl|(simp [errW_none,errW_some]<;>rfl))|(simp [*,errW_none,errW_some]<;>rfl),gR cY.out,gW HB.out⟩
end Go.Proofs.Ytapjfnfengefpaa.P
end
