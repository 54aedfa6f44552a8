/- Packed texts of this claim: the walks of the functions, and their plain laws; see the claim's last text. -/
import Derived.Test.YtapjfnfengefpaaProg
import Derived.Below
import Derived.Deep.Draws
import Derived.Deep.AppendLies
import Derived.Maps.AppendAt
import Derived.OwnWalk
import Derived.Laws.BytesArg
import Derived.Laws.MakeOwn
import Derived.Laws.OwnMore
import Derived.Deep.OwnRows
import Derived.Tactics
import Derived.Lib.ConvBytes
import Derived.Laws.Slices
import Derived.WalkKit
import Derived.KernelRfl
import Derived.RowKit3
import Derived.Deep.LoopGhost
import Derived.Deep.QuietTactic
import Derived.BigQuiet
import Derived.WideLaws
import Derived.Deep.DeepCutAuto
import Derived.Deep.CutBlock
import Derived.Deep.RegionHeld3
import Derived.Laws.Rows
import Derived.Lib.AppendStr
import Derived.ArgAppend
import Derived.Laws.IdiomCopy
import Derived.OrdersHeld
import Derived.Laws.BitsLemmas
import Derived.RowKit
import Derived.Laws.Runes
import Derived.Test.YtapjfnfengefpaaKMachineMade1
section
namespace Go.Proofs.Ytapjfnfengefpaa.P
open Go.RowKit Go.Proofs.YtapjfnfengefpaaW.PrintWords Go.Proofs.YtapjfnfengefpaaW.PrintLast Go.Proofs.YtapjfnfengefpaaW.PrintMore
abbrev T:Bool:=true
abbrev F:Bool:=false
theorem pq:(∀(a:Act) (d:Option Tmp) (v:Value),a.put d v=match d with|none=>a|some i=>{a with tmps:=a.tmps.setIfInBounds i v})∧(∀(l:List Value) (i:Nat) (a:Value),l.toArray.setIfInBounds i a=(l.set i a).toArray)∧(∀(x:Value) (l:List Value) (a:Value),(x::l).set 0 a=a::l)∧(∀(x:Value) (l:List Value) (n:Nat) (a:Value),(x::l).set (n+1) a=x::l.set n a)∧(∀n,IntKind.i64.wrap n=wrap64 n)∧∀n,IntKind.i32.wrap n=wrap32 n:=⟨fun _ d _=>by cases d<;>rfl,fun _ _ _=>List.setIfInBounds_toArray ..,fun _ _ _=>rfl,fun _ _ _ _=>rfl,i64_w,i32_w⟩
abbrev aM:=@Aside0.mk
abbrev aA:=@Kd.R_alloc
abbrev aB:=@Kd.R_drewN
abbrev aC:=@Kd.R_drew
abbrev aD:=@Kd.R_below
abbrev aE:=@Kd.R_far
abbrev aF:=@Kd.R_reads'
abbrev aG:=@blk_cell
abbrev aH:=@blk_frozen
abbrev aI:=@blk_alloc
abbrev aJ:=@blk_drewN
abbrev aK:=@blk_drew
abbrev aL:=@below_set
abbrev aN:=@below_alloc
abbrev aO:=@below_drew1
abbrev aP:=@pw_below_drewN
abbrev aT:=@Kd.N_reads'
abbrev aV:=@Kd.S_drewN
abbrev aW:=@Kd.S_drew
abbrev aY:=@Kd.N_drewN
abbrev aZ:=@Kd.N_drew
abbrev bD:=@Kd.C_below
abbrev bE:=@Kd.R_elder'
abbrev bF:=@blk_below
abbrev bG:=@below_step
abbrev bH:=@below_size
abbrev bI:=@gate_callee
abbrev bJ:=@gate_dst
abbrev bL:=@Kd.R_lower
abbrev bN:=@blk_lt
abbrev Grew (w W:World):Prop:=Nonempty (Below w.heap.size w W)
theorem Grew.b {w W:World}(h:Grew w W):Below w.heap.size w W:=h.elim id
instance grew0 (w:World):Grew w w:=⟨Below.refl _ _⟩
instance grewA (w W:World) (o:Obj) [h:Grew w W]:Grew w (W.alloc o):=⟨aN h.b o⟩
instance grewN (w W:World) (n:Nat) [h:Grew w W]:Grew w (W.drewN n):=⟨aP h.b n⟩
instance grewD (w W:World) [h:Grew w W]:Grew w W.drew:=⟨aO h.b⟩
theorem gB {w W:World}{g:Nat}{o:Obj}(h:w.heap[g]?=some o) [k:Grew w W]:W.heap[g]?=some o:=bF h k.b
theorem gR {α:Type}{d:Kd α}{e base:Nat}{ok:Nat→Prop}{v:Value}{xs:List α}{w W:World}(h:d.R e w base ok v xs) [k:Grew w W]:d.R e W base ok v xs:=aD h k.b
theorem gS {α:Type}{d:Kd α}{e base:Nat}{ok:Nat→Prop}{v:Value}{xs:List α}{w W:World}(h:Kd.S d e w base ok v xs) [k:Grew w W]:Kd.S d e W base ok v xs:=Kd.S_below h k.b
theorem gN {α:Type}{d:Kd α}{e base:Nat}{ok:Nat→Prop}{v:Value}{xs:List α}{w W:World}(h:Kd.N d e w base ok v xs) [k:Grew w W]:Kd.N d e W base ok v xs:=Kd.N_below h k.b
theorem gC {α:Type}{d:Kd α}{A:Option Addr}{n:Nat}{xs:List α}{w W:World}(h:d.C w A n xs) [k:Grew w W]:d.C W A n xs:=bD h k.b
theorem gW {b w W:World}(h:Below b.heap.size b w) [k:Grew w W]:Below b.heap.size b W:=bG h k.b
attribute [local go_sem] max2_int min2_int max_two min_two max_three min_three max_four min_four   -- for this text's walks alone
set_option linter.unusedVariables false
set_option linter.unusedSimpArgs false
def errW:Option Int→Value
 |none=> .nilIface
 |some c=> .iface 0 (.int .i64 c)
theorem errW_none:errW none= .nilIface:=rfl
theorem errW_some (c:Int):errW (some c)= .iface 0 (.int .i64 c):=rfl
theorem info3:(Try.prog.info? 3).map (fun i=>(i.zero,i.size,i.bytes))=some (some (.int .i64 0),1,8):=by kernel_rfl
theorem info4:(Try.prog.info? 4).map (fun i=>(i.zero,i.size,i.bytes))=some (some (.bool false),1,1):=by kernel_rfl
theorem info32:(Try.prog.info? 32).map (fun i=>(i.zero,i.size,i.bytes))=some (some (.slice none 0 0),1,24):=by kernel_rfl
theorem info43:(Try.prog.info? 43).map (fun i=>(i.zero,i.size,i.bytes))=some (some (.agg #[(.bool false),(.int .i64 0)]),2,16):=by kernel_rfl
theorem info72:(Try.prog.info? 72).map (fun i=>(i.zero,i.size,i.bytes))=some (some (.agg #[(.string ⟨#[]⟩),(.int .i64 0),(.string ⟨#[]⟩),(.slice none 0 0),(.int .i64 0),(.int .i64 0),(.slice none 0 0)]),7,104):=by kernel_rfl
theorem info78:(Try.prog.info? 78).map (fun i=>(i.zero,i.size,i.bytes))=some (some (.agg #[(.int .i64 0),(.int .i64 0),(.int .i64 0),(.int .i64 0)]),4,32):=by kernel_rfl
theorem info90:(Try.prog.info? 90).map (fun i=>(i.zero,i.size,i.bytes))=some (some (.slice none 0 0),1,24):=by kernel_rfl
structure S43 where
 f0:Bool
 f1:Int
def z43:S43:=⟨false,(0:Int)⟩
def k43:Kd S43:=Kd.iso (Kd.pair Kd.bool (Kd.int .i64)) (fun x:S43=>(x.f0,x.f1))
theorem k43_open {w:World}{x:S43}{cs:List Value}(h:k43.K w x cs):cs= [.bool x.f0,.int .i64 x.f1]:=by
 obtain⟨_,_,rfl,rfl,rfl⟩:=h
 exact rfl
theorem k43_mkM (w:World) (base:Nat) (ok:Nat→Prop) (x:S43)  :k43.M w base ok x [.bool x.f0,.int .i64 x.f1]:=⟨[.bool x.f0],[.int .i64 x.f1],rfl,rfl,rfl⟩
def rd_T43 (xs:List S43) (i:Int):S43:=xs.getD i.toNat z43
theorem at_T43 {w:World}{A:Option Addr}{n:Nat}{xs:List S43}(h:Kd.C k43 w A n xs) (i:Int) (h0:0≤i) (h1:i<n):∃ad,A=some ad∧w.cell? (ad.add (i.toNat * 2))=some (.bool (rd_T43 xs i).f0)∧w.cell? ⟨(ad.add (i.toNat * 2)).block,(ad.add (i.toNat * 2)).off+1,none⟩=some (.int .i64 (rd_T43 xs i).f1):=by
 obtain⟨ad,c,e,_,hK,hc0⟩:=Kd.C_get h z43 i h0 h1
 have hc:∀j u,c[j]?=some u→w.cell? (ad.add (i.toNat * 2+j))=some u:=hc0
 obtain rfl:=k43_open hK
 exact⟨ad,e,hc 0 _ rfl,by rw [←add_field _ _ 1 (by omega)];exact hc 1 _ rfl⟩
def rd_L5 (xs:List (List Int)) (i:Int):(List Int):=xs.getD i.toNat ([]:List Int)
theorem at_L5 {w:World}{A:Option Addr}{n:Nat}{xs:List (List Int)}(h:Kd.C (Kd.slice 3 (Kd.int .i64)) w A n xs) (i:Int) (h0:0≤i) (h1:i<n):∃ad A0 c0,A=some ad∧w.cell? (ad.add i.toNat)=some (.slice A0 (rd_L5 xs i).length c0)∧(rd_L5 xs i).length≤c0∧(Kd.int .i64).C w A0 (rd_L5 xs i).length (rd_L5 xs i):=by
 obtain⟨ad,c,e,_,hK,hc0⟩:=Kd.C_get h ([]:List Int) i h0 h1
 have hc:∀j u,c[j]?=some u→w.cell? (ad.add (i.toNat * 1+j))=some u:=hc0
 obtain⟨A0,c0,rfl,l0,g0⟩:=hK
 exact⟨ad,A0,c0,e,by have hq:=hc 0 _ rfl;rwa [Nat.mul_one,Nat.add_zero] at hq,l0,g0⟩
structure S70 where
 f0:Int
 f1:ByteArray
 f2:(List Int)
 f3:Int
 f4:Int
 f5:(List S70)
def z70:S70:=⟨(0:Int),(⟨#[]⟩:ByteArray),([]:List Int),(0:Int),(0:Int),([]:List S70)⟩
def F70 (d:Kd S70):Kd S70:=Kd.iso (Kd.pair (Kd.int .i64) (Kd.pair Kd.string (Kd.pair (Kd.slice 3 (Kd.int .i64)) (Kd.pair (Kd.int .i64) (Kd.pair (Kd.int .i64) (Kd.slice 70 d)))))) (fun x:S70=>(x.f0,x.f1,x.f2,x.f3,x.f4,x.f5))
theorem mono70:Kd.Mono F70:=Kd.mono_iso _ (Kd.mono_pair (Kd.mono_const _) (Kd.mono_pair (Kd.mono_const _) (Kd.mono_pair (Kd.mono_const _) (Kd.mono_pair (Kd.mono_const _) (Kd.mono_pair (Kd.mono_const _) (Kd.mono_slice 70 Kd.mono_id))))))
theorem sub70:Kd.Sub F70 [3,70]:=Kd.sub_iso _ (Kd.sub_pair (Kd.sub_const _ (by decide)) (Kd.sub_pair (Kd.sub_const _ (by decide)) (Kd.sub_pair (Kd.sub_const _ (by decide)) (Kd.sub_pair (Kd.sub_const _ (by decide)) (Kd.sub_pair (Kd.sub_const _ (by decide)) (Kd.sub_slice 70 (by decide) Kd.sub_id))))))
theorem sz70:∀n,(Kd.upto F70 6 [3,70] n).sz=6:=Kd.upto_sz (fun _=>rfl)
def k70:Kd S70:=Kd.fix F70 6 [3,70] sz70 (Kd.upto_E sub70)
theorem k70_mk (w:World) (x:S70) {A2:Option Addr}{c2:Nat}(l2:x.f2.length≤c2) (g2:(Kd.int .i64).C w A2 x.f2.length x.f2) {A5:Option Addr}{c5:Nat}(l5:x.f5.length≤c5) (g5:k70.C w A5 x.f5.length x.f5):k70.K w x [.int .i64 x.f0,.string x.f1,.slice A2 x.f2.length c2,.int .i64 x.f3,.int .i64 x.f4,.slice A5 x.f5.length c5]:=by
 obtain⟨n5,q5⟩:=Kd.fix_C_back mono70 g5
 have r5:=Kd.upto_C_le mono70 sz70 (show n5≤n5 by omega) q5
 exact⟨n5+1,⟨[.int .i64 x.f0],[.string x.f1,.slice A2 x.f2.length c2,.int .i64 x.f3,.int .i64 x.f4,.slice A5 x.f5.length c5],rfl,rfl,⟨[.string x.f1],[.slice A2 x.f2.length c2,.int .i64 x.f3,.int .i64 x.f4,.slice A5 x.f5.length c5],rfl,rfl,⟨[.slice A2 x.f2.length c2],[.int .i64 x.f3,.int .i64 x.f4,.slice A5 x.f5.length c5],rfl,⟨A2,c2,rfl,l2,g2⟩,⟨[.int .i64 x.f3],[.int .i64 x.f4,.slice A5 x.f5.length c5],rfl,rfl,⟨[.int .i64 x.f4],[.slice A5 x.f5.length c5],rfl,rfl,⟨A5,c5,rfl,l5,r5⟩⟩⟩⟩⟩⟩⟩
theorem k70_mkM (w:World) (base:Nat) (ok:Nat→Prop) (x:S70) {v2:Value}(g2:(Kd.int .i64).R 3 w base ok v2 x.f2) {v5:Value}(g5:k70.R 70 w base ok v5 x.f5):k70.M w base ok x [.int .i64 x.f0,.string x.f1,v2,.int .i64 x.f3,.int .i64 x.f4,v5]:=by
 obtain⟨n5,q5⟩:=Kd.fix_R_back mono70 g5
 have r5:=Kd.upto_R_le mono70 sz70 (show n5≤n5 by omega) q5
 exact⟨n5+1,⟨[.int .i64 x.f0],[.string x.f1,v2,.int .i64 x.f3,.int .i64 x.f4,v5],rfl,rfl,⟨[.string x.f1],[v2,.int .i64 x.f3,.int .i64 x.f4,v5],rfl,rfl,⟨[v2],[.int .i64 x.f3,.int .i64 x.f4,v5],rfl,⟨v2,rfl,g2⟩,⟨[.int .i64 x.f3],[.int .i64 x.f4,v5],rfl,rfl,⟨[.int .i64 x.f4],[v5],rfl,rfl,⟨v5,rfl,r5⟩⟩⟩⟩⟩⟩⟩
structure S72 where
 f0:ByteArray
 f1:S70
def z72:S72:=⟨(⟨#[]⟩:ByteArray),z70⟩
def k72:Kd S72:=Kd.iso (Kd.pair Kd.string k70) (fun x:S72=>(x.f0,x.f1))
theorem k72_mk (w:World) (x:S72) {A3:Option Addr}{c3:Nat}(l3:x.f1.f2.length≤c3) (g3:(Kd.int .i64).C w A3 x.f1.f2.length x.f1.f2) {A6:Option Addr}{c6:Nat}(l6:x.f1.f5.length≤c6) (g6:k70.C w A6 x.f1.f5.length x.f1.f5):k72.K w x [.string x.f0,.int .i64 x.f1.f0,.string x.f1.f1,.slice A3 x.f1.f2.length c3,.int .i64 x.f1.f3,.int .i64 x.f1.f4,.slice A6 x.f1.f5.length c6]:=⟨[.string x.f0],[.int .i64 x.f1.f0,.string x.f1.f1,.slice A3 x.f1.f2.length c3,.int .i64 x.f1.f3,.int .i64 x.f1.f4,.slice A6 x.f1.f5.length c6],rfl,rfl,(k70_mk w x.f1 l3 g3 l6 g6)⟩
theorem k72_mkM (w:World) (base:Nat) (ok:Nat→Prop) (x:S72) {v3:Value}(g3:(Kd.int .i64).R 3 w base ok v3 x.f1.f2) {v6:Value}(g6:k70.R 70 w base ok v6 x.f1.f5):k72.M w base ok x [.string x.f0,.int .i64 x.f1.f0,.string x.f1.f1,v3,.int .i64 x.f1.f3,.int .i64 x.f1.f4,v6]:=⟨[.string x.f0],[.int .i64 x.f1.f0,.string x.f1.f1,v3,.int .i64 x.f1.f3,.int .i64 x.f1.f4,v6],rfl,rfl,(k70_mkM w base ok x.f1 g3 g6)⟩
theorem k72_mkF (W:World) (ok:Nat→Prop) (x:S72) {A3:Option Addr}{c3:Nat}(l3:x.f1.f2.length≤c3) (g3:Kd.F (Kd.int .i64) W ok A3 x.f1.f2.length x.f1.f2) {A6:Option Addr}{c6:Nat}(l6:x.f1.f5.length≤c6) (g6:Kd.F k70 W ok A6 x.f1.f5.length x.f1.f5):Kd.FK k72 W ok x [.string x.f0,.int .i64 x.f1.f0,.string x.f1.f1,.slice A3 x.f1.f2.length c3,.int .i64 x.f1.f3,.int .i64 x.f1.f4,.slice A6 x.f1.f5.length c6]:=fun W2 hW=>k72_mk W2 x l3 (g3 W2 hW) l6 (g6 W2 hW)
structure S35 where
 f0:Int
 f1:(List S43)
def z35:S35:=⟨(0:Int),([]:List S43)⟩
def k35:Kd S35:=Kd.iso (Kd.pair (Kd.int .i64) (Kd.slice 43 k43)) (fun x:S35=>(x.f0,x.f1))
theorem k35_open {w:World}{x:S35}{cs:List Value}(h:k35.K w x cs):∃A1 c1,cs= [.int .i64 x.f0,.slice A1 x.f1.length c1]∧x.f1.length≤c1∧k43.C w A1 x.f1.length x.f1:=by
 obtain⟨_,_,rfl,rfl,⟨A1,c1,rfl,l1,g1⟩⟩:=h
 exact⟨A1,c1,rfl,l1,g1⟩
theorem k35_mk (w:World) (x:S35) {A1:Option Addr}{c1:Nat}(l1:x.f1.length≤c1) (g1:k43.C w A1 x.f1.length x.f1):k35.K w x [.int .i64 x.f0,.slice A1 x.f1.length c1]:=⟨[.int .i64 x.f0],[.slice A1 x.f1.length c1],rfl,rfl,⟨A1,c1,rfl,l1,g1⟩⟩
theorem k35_mkM (w:World) (base:Nat) (ok:Nat→Prop) (x:S35) {v1:Value}(g1:k43.R 43 w base ok v1 x.f1):k35.M w base ok x [.int .i64 x.f0,v1]:=⟨[.int .i64 x.f0],[v1],rfl,rfl,⟨v1,rfl,g1⟩⟩
theorem k35_mkF (W:World) (ok:Nat→Prop) (x:S35) {A1:Option Addr}{c1:Nat}(l1:x.f1.length≤c1) (g1:Kd.F k43 W ok A1 x.f1.length x.f1):Kd.FK k35 W ok x [.int .i64 x.f0,.slice A1 x.f1.length c1]:=fun W2 hW=>k35_mk W2 x l1 (g1 W2 hW)
def rd_T35 (xs:List S35) (i:Int):S35:=xs.getD i.toNat z35
theorem at_T35 {w:World}{A:Option Addr}{n:Nat}{xs:List S35}(h:Kd.C k35 w A n xs) (i:Int) (h0:0≤i) (h1:i<n):∃ad A1 c1,A=some ad∧w.cell? (ad.add (i.toNat * 2))=some (.int .i64 (rd_T35 xs i).f0)∧w.cell? ⟨(ad.add (i.toNat * 2)).block,(ad.add (i.toNat * 2)).off+1,none⟩=some (.slice A1 (rd_T35 xs i).f1.length c1)∧(rd_T35 xs i).f1.length≤c1∧k43.C w A1 (rd_T35 xs i).f1.length (rd_T35 xs i).f1:=by
 obtain⟨ad,c,e,_,hK,hc0⟩:=Kd.C_get h z35 i h0 h1
 have hc:∀j u,c[j]?=some u→w.cell? (ad.add (i.toNat * 2+j))=some u:=hc0
 obtain⟨A1,c1,rfl,l1,g1⟩:=k35_open hK
 exact⟨ad,A1,c1,e,hc 0 _ rfl,by rw [←add_field _ _ 1 (by omega)];exact hc 1 _ rfl,l1,g1⟩
def rd_L17 (xs:List (List Bool)) (i:Int):(List Bool):=xs.getD i.toNat ([]:List Bool)
theorem at_L17 {w:World}{A:Option Addr}{n:Nat}{xs:List (List Bool)}(h:Kd.C (Kd.slice 4 Kd.bool) w A n xs) (i:Int) (h0:0≤i) (h1:i<n):∃ad A0 c0,A=some ad∧w.cell? (ad.add i.toNat)=some (.slice A0 (rd_L17 xs i).length c0)∧(rd_L17 xs i).length≤c0∧Kd.bool.C w A0 (rd_L17 xs i).length (rd_L17 xs i):=by
 obtain⟨ad,c,e,_,hK,hc0⟩:=Kd.C_get h ([]:List Bool) i h0 h1
 have hc:∀j u,c[j]?=some u→w.cell? (ad.add (i.toNat * 1+j))=some u:=hc0
 obtain⟨A0,c0,rfl,l0,g0⟩:=hK
 exact⟨ad,A0,c0,e,by have hq:=hc 0 _ rfl;rwa [Nat.mul_one,Nat.add_zero] at hq,l0,g0⟩
structure S78 where
 f0:Int
 f1:Int
 f2:Int
 f3:Int
def k78:Kd S78:=Kd.iso (Kd.pair (Kd.int .i64) (Kd.pair (Kd.int .i64) (Kd.pair (Kd.int .i64) (Kd.int .i64)))) (fun x:S78=>(x.f0,x.f1,x.f2,x.f3))
theorem k78_mkM (w:World) (base:Nat) (ok:Nat→Prop) (x:S78)  :k78.M w base ok x [.int .i64 x.f0,.int .i64 x.f1,.int .i64 x.f2,.int .i64 x.f3]:=⟨[.int .i64 x.f0],[.int .i64 x.f1,.int .i64 x.f2,.int .i64 x.f3],rfl,rfl,⟨[.int .i64 x.f1],[.int .i64 x.f2,.int .i64 x.f3],rfl,rfl,⟨[.int .i64 x.f2],[.int .i64 x.f3],rfl,rfl,rfl⟩⟩⟩
attribute [local go_sem] max2_int min2_int max_two min_two max_three min_three max_four min_four   -- for this text's walks alone
set_option linter.unusedVariables false
set_option linter.unusedSimpArgs false
theorem eqA43 (d:Nat) (w:World) (x0 y0:Bool) (x1 y1:Int):
 (Op.equalIn (d+2) 43 (.agg #[.bool x0,.int .i64 x1]) (.agg #[.bool y0,.int .i64 y1])).run Try.prog w= .ok (x0==y0 && (x1==y1)) w:=by
 refine eqA_of Try.underlying43 (by kernel_rfl) ?_
 refine eqf_cons (by rfl) (by go_simp;rfl) (by go_simp;rfl) (by go_simp) ?_
 exact eqf_last (by rfl) (by go_simp;rfl) (by go_simp;rfl) (by go_simp)
attribute [local go_sem] max2_int min2_int max_two min_two max_three min_three max_four min_four   -- for this text's walks alone
set_option linter.unusedVariables false
set_option linter.unusedSimpArgs false
attribute [local go_sem high] eqA43
mutual
def regletref16_Same.j0:Nat→Bool→List (S43)→Bool→List (S43)→Bool→Option (Bool)
 |0,_,_,_,_,_=>none
 |k+1,x19,x102000,x102001,x103000,x103001=>if x19=true then(some false) else(regletref16_Same.l0 k 0 x102000 x102001 x103000 x103001)
def regletref16_Same.l0:Nat→Int→List (S43)→Bool→List (S43)→Bool→Option (Bool)
 |0,_,_,_,_,_=>none
 |k+1,x5,x102000,x102001,x103000,x103001=>if x5<(x102000.length:Int) then(if 0≤x5 then(if x5<(x103000.length:Int) then(if(!(((rd_T43 x102000 x5).f0)==((rd_T43 x103000 x5).f0))||(!(((rd_T43 x102000 x5).f1)==((rd_T43 x103000 x5).f1))))=true then(some false) else(regletref16_Same.l0 k (wrap64 (x5+1)) x102000 x102001 x103000 x103001)) else(none)) else(none)) else(some true)
end
def regletref16_Same.f (k:Nat) (aU:List (S43)) (jZ:Bool) (kA:List (S43)) (lD:Bool):Option (Bool):=if(jZ !=lD)=true then(regletref16_Same.j0 k true aU jZ kA lD) else(regletref16_Same.j0 k ((aU.length:Int) !=(kA.length:Int)) aU jZ kA lD)
theorem regletref16_Same.mono_l:∀k,(∀y0 y1 y2 y3 y4,LeO (regletref16_Same.j0 k y0 y1 y2 y3 y4) (regletref16_Same.j0 (k+1) y0 y1 y2 y3 y4))∧(∀y0 y1 y2 y3 y4,LeO (regletref16_Same.l0 k y0 y1 y2 y3 y4) (regletref16_Same.l0 (k+1) y0 y1 y2 y3 y4))
 |0=>⟨fun _ _ _ _ _ r h=>by simp [regletref16_Same.j0] at h,fun _ _ _ _ _ r h=>by simp [regletref16_Same.l0] at h⟩
 |k+1=>by
  obtain⟨ih0,ih1⟩:=regletref16_Same.mono_l k
  refine⟨?_,?_⟩
  ·intro y0 y1 y2 y3 y4
   unfold regletref16_Same.j0
   repeat' first
   |(with_reducible exact ih0 _ _ _ _ _)
   |(with_reducible exact ih1 _ _ _ _ _)
   |(with_reducible exact LeO.refl _)
   |(with_reducible exact LeO.none _)
   |(with_reducible refine LeO.ite ?_ ?_)
   |(with_reducible refine LeO.bind ?_ (fun _=>?_))
   |exact ih0 _ _ _ _ _
   |exact ih1 _ _ _ _ _
   |exact LeO.none _
   |refine LeO.ite ?_ ?_
   |refine LeO.bind ?_ (fun _=>?_)
  ·intro y0 y1 y2 y3 y4
   unfold regletref16_Same.l0
   repeat' first
   |(with_reducible exact ih0 _ _ _ _ _)
   |(with_reducible exact ih1 _ _ _ _ _)
   |(with_reducible exact LeO.refl _)
   |(with_reducible exact LeO.none _)
   |(with_reducible refine LeO.ite ?_ ?_)
   |(with_reducible refine LeO.bind ?_ (fun _=>?_))
   |exact ih0 _ _ _ _ _
   |exact ih1 _ _ _ _ _
   |exact LeO.none _
   |refine LeO.ite ?_ ?_
   |refine LeO.bind ?_ (fun _=>?_)
theorem regletref16_Same.mono:∀a0 a1 a2 a3 k,LeO (regletref16_Same.f k a0 a1 a2 a3) (regletref16_Same.f (k+1) a0 a1 a2 a3):=by
 intro a0 a1 a2 a3 k
 obtain⟨ih0,ih1⟩:=regletref16_Same.mono_l k
 unfold regletref16_Same.f
 repeat' first
  |(with_reducible exact ih0 _ _ _ _ _)
  |(with_reducible exact ih1 _ _ _ _ _)
  |(with_reducible exact LeO.refl _)
  |(with_reducible exact LeO.none _)
  |(with_reducible refine LeO.ite ?_ ?_)
  |(with_reducible refine LeO.bind ?_ (fun _=>?_))
  |exact ih0 _ _ _ _ _
  |exact ih1 _ _ _ _ _
  |exact LeO.none _
  |refine LeO.ite ?_ ?_
  |refine LeO.bind ?_ (fun _=>?_)
set_option maxHeartbeats 8000000 in
set_option maxRecDepth 100000 in
theorem regletref16_Same.calls (k:Nat) (bC:Option Addr) (bK:Nat) (aU:List (S43)) (jZ:Bool) (Aa:Option Addr) (Ab:Nat) (kA:List (S43)) (lD:Bool) (r:Bool) (w:World) (dM:Kd.C k43 w bC aU.length aU) (dT:aU.length≤bK) (Ug:Kd.C k43 w Aa kA.length kA) (Uh:kA.length≤Ab) (h:regletref16_Same.f k aU jZ kA lD=some r):
 Calls Try.prog 16 #[.agg #[.slice bC aU.length bK,.bool jZ],.agg #[.slice Aa kA.length Ab,.bool lD]] w fun e w'=>e= .returned (.bool r)∧Below w.heap.size w w':=by
 have hu31:=Try.underlying31
 have hu43:=Try.underlying43
 have eS:=aM dM
 have eU:=aM dT
 clear dM dT
 have Ui:=aM Ug
 have OD:=aM Uh
 clear Ug Uh
 have HB:=aM (Below.refl w.heap.size w)
 have H:(if(jZ !=lD)=true then(regletref16_Same.j0 k true aU jZ kA lD) else(regletref16_Same.j0 k ((aU.length:Int) !=(kA.length:Int)) aU jZ kA lD))=some r:=h
 clear h
 have HC3:=aM H
 clear H
 go_enter Try.func16,Try.ntmps16
 go_upto_region 1 with(first|((with_reducible refine bJ (N:=2) rfl ?_);(try(refine gate_guard (by rfl) ?_;dsimp only));refine box_event ?hg (N:=2) ?hd (cs:=#[.slice bC aU.length bK,.bool jZ]) (t:=31) ?hr ?_;(case hd=>rfl);(case hg=>rfl);(case hr=>first|(go_simp;done)|(go_simp;rfl));intro hO hg w4 hbox hb;have bY:=aM (bG (gW HB.out) hb);have bZ:=aM (hbox);have cA:=aM ((by rw [hg];exact(bH (gW HB.out)):w.heap.size≤hO));have cC:=aM ((by rw [hg];exact(bH (gW HB.out)):w.heap.size≤hO));clear HB;have HB:=bY;have fN:=bZ;have GW101:=cA;have Uj:=cC;clear bY bZ cA cC;clear hb hbox hg)|((with_reducible refine bJ (N:=3) rfl ?_);(try(refine gate_guard (by rfl) ?_;dsimp only));refine box_event ?hg (N:=3) ?hd (cs:=#[.slice Aa kA.length Ab,.bool lD]) (t:=31) ?hr ?_;(case hd=>rfl);(case hg=>rfl);(case hr=>first|(go_simp;done)|(go_simp;rfl));intro jP hg w5 hbox hb;have bY:=aM (bF (gB fN.out) hb);have bZ:=aM (bG (gW HB.out) hb);have cA:=aM (hbox);have cC:=aM ((by rw [hg];exact(bH (gW HB.out)):w.heap.size≤jP));have cQ:=aM ((by rw [hg];exact(bH (gW HB.out)):w.heap.size≤jP));have dA:=aM ((by rw [hg];exact Nat.ne_of_lt (bN (g:=hO) (o:= .cells #[.slice bC aU.length bK,.bool jZ] 31 (0,0)) (gB fN.out)):hO≠jP));have dH:=aM ((by rw [hg];exact Nat.ne_of_gt (bN (g:=hO) (o:= .cells #[.slice bC aU.length bK,.bool jZ] 31 (0,0)) (gB fN.out)):jP≠hO));clear fN;clear HB;have fN:=bY;have HB:=bZ;have jQ:=cA;have GW102:=cC;have Uk:=cQ;have lU:=dA;have lV:=dH;clear bY bZ cA cC cQ dA dH;clear hb hbox hg))
 repeat(go_quiet (first|((with_reducible refine bJ (N:=2) rfl ?_);(try(refine gate_guard (by rfl) ?_;dsimp only));refine box_event ?hg (N:=2) ?hd (cs:=#[.slice bC aU.length bK,.bool jZ]) (t:=31) ?hr ?_;(case hd=>rfl);(case hg=>rfl);(case hr=>first|(go_simp;done)|(go_simp;rfl));intro hO hg w4 hbox hb;have bY:=aM (bG (gW HB.out) hb);have bZ:=aM (hbox);have cA:=aM ((by rw [hg];exact(bH (gW HB.out)):w.heap.size≤hO));have cC:=aM ((by rw [hg];exact(bH (gW HB.out)):w.heap.size≤hO));clear HB;have HB:=bY;have fN:=bZ;have GW101:=cA;have Uj:=cC;clear bY bZ cA cC;clear hb hbox hg)|((with_reducible refine bJ (N:=3) rfl ?_);(try(refine gate_guard (by rfl) ?_;dsimp only));refine box_event ?hg (N:=3) ?hd (cs:=#[.slice Aa kA.length Ab,.bool lD]) (t:=31) ?hr ?_;(case hd=>rfl);(case hg=>rfl);(case hr=>first|(go_simp;done)|(go_simp;rfl));intro jP hg w5 hbox hb;have bY:=aM (bF (gB fN.out) hb);have bZ:=aM (bG (gW HB.out) hb);have cA:=aM (hbox);have cC:=aM ((by rw [hg];exact(bH (gW HB.out)):w.heap.size≤jP));have cQ:=aM ((by rw [hg];exact(bH (gW HB.out)):w.heap.size≤jP));have dA:=aM ((by rw [hg];exact Nat.ne_of_lt (bN (g:=hO) (o:= .cells #[.slice bC aU.length bK,.bool jZ] 31 (0,0)) (gB fN.out)):hO≠jP));have dH:=aM ((by rw [hg];exact Nat.ne_of_gt (bN (g:=hO) (o:= .cells #[.slice bC aU.length bK,.bool jZ] 31 (0,0)) (gB fN.out)):jP≠hO));clear fN;clear HB;have fN:=bY;have HB:=bZ;have jQ:=cA;have GW102:=cC;have Uk:=cQ;have lU:=dA;have lV:=dH;clear bY bZ cA cC cQ dA dH;clear hb hbox hg));go_upto_region 1 with(first|((with_reducible refine bJ (N:=2) rfl ?_);(try(refine gate_guard (by rfl) ?_;dsimp only));refine box_event ?hg (N:=2) ?hd (cs:=#[.slice bC aU.length bK,.bool jZ]) (t:=31) ?hr ?_;(case hd=>rfl);(case hg=>rfl);(case hr=>first|(go_simp;done)|(go_simp;rfl));intro hO hg w4 hbox hb;have bY:=aM (bG (gW HB.out) hb);have bZ:=aM (hbox);have cA:=aM ((by rw [hg];exact(bH (gW HB.out)):w.heap.size≤hO));have cC:=aM ((by rw [hg];exact(bH (gW HB.out)):w.heap.size≤hO));clear HB;have HB:=bY;have fN:=bZ;have GW101:=cA;have Uj:=cC;clear bY bZ cA cC;clear hb hbox hg)|((with_reducible refine bJ (N:=3) rfl ?_);(try(refine gate_guard (by rfl) ?_;dsimp only));refine box_event ?hg (N:=3) ?hd (cs:=#[.slice Aa kA.length Ab,.bool lD]) (t:=31) ?hr ?_;(case hd=>rfl);(case hg=>rfl);(case hr=>first|(go_simp;done)|(go_simp;rfl));intro jP hg w5 hbox hb;have bY:=aM (bF (gB fN.out) hb);have bZ:=aM (bG (gW HB.out) hb);have cA:=aM (hbox);have cC:=aM ((by rw [hg];exact(bH (gW HB.out)):w.heap.size≤jP));have cQ:=aM ((by rw [hg];exact(bH (gW HB.out)):w.heap.size≤jP));have dA:=aM ((by rw [hg];exact Nat.ne_of_lt (bN (g:=hO) (o:= .cells #[.slice bC aU.length bK,.bool jZ] 31 (0,0)) (gB fN.out)):hO≠jP));have dH:=aM ((by rw [hg];exact Nat.ne_of_gt (bN (g:=hO) (o:= .cells #[.slice bC aU.length bK,.bool jZ] 31 (0,0)) (gB fN.out)):jP≠hO));clear fN;clear HB;have fN:=bY;have HB:=bZ;have jQ:=cA;have GW102:=cC;have Uk:=cQ;have lU:=dA;have lV:=dH;clear bY bZ cA cC cQ dA dH;clear hb hbox hg)))
 (try simp only [Act.put,List.setIfInBounds_toArray,List.set_cons_zero,List.set_cons_succ])
 go_cut [19] (fun v19 wc=>∃(kq:Nat) (Hu:Bool),v19= .bool Hu∧Aside0 (regletref16_Same.j0 kq Hu aU jZ kA lD=some r)∧Aside0 (kq≤k)∧Aside0 (wc.heap[hO]?=some (.cells #[(.slice bC aU.length bK),.bool jZ] 31 (0,0)))∧Aside0 (wc.heap[jP]?=some (.cells #[(.slice Aa kA.length Ab),.bool lD] 31 (0,0)))∧Aside0 (Below w.heap.size w wc))
 case first=>
  have H:=HC3.out
  clear HC3
  by_cases c6:(jZ !=lD)=true
  ·rw [if_pos c6] at H
   have tK:(jZ !=lD)=true:=c6
   (try(have Bo:decide (jZ=lD)=false:=by simpa using c6))
   (try(have We:(jZ==lD)=false:=by simpa using c6))
   (try(have PZ:¬(jZ=lD):=by simpa using c6))
   clear c6
   (first|rw [tK]|(simp only [i64_w,i32_w];rw [tK])|skip)
   have H':=aM H
   clear H
   have hnb7:=lU.out
   have hnc7:=lV.out
   have lW:w5.cell? ⟨hO,0,none⟩=some (.slice bC aU.length bK):=(aG fN.out 0).trans rfl
   have lX:w5.cell? ⟨hO,1,none⟩=some (.bool jZ):=(aG fN.out 1).trans rfl
   have lY:=aH fN.out 0
   have lZ:=aH fN.out 1
   have nB:w5.cell? ⟨jP,0,none⟩=some (.slice Aa kA.length Ab):=(aG jQ.out 0).trans rfl
   have nC:w5.cell? ⟨jP,1,none⟩=some (.bool lD):=(aG jQ.out 1).trans rfl
   have nD:=aH jQ.out 0
   have nE:=aH jQ.out 1
   go_wp2
   repeat(go_quiet (fail);try go_wp2)
   go_meet
   case rel=>exact⟨_,(true),(by first|rfl|(simp;done)|(simp [*];done)),H',⟨by first|omega|exact Nat.le_refl _⟩,⟨gB fN.out⟩,⟨gB jQ.out⟩,⟨gW HB.out⟩⟩
  ·rw [if_neg c6] at H
   have tK:(jZ !=lD)=false:=by simpa using c6
   (try(have Bo:decide (jZ=lD)=true:=by simpa using c6))
   (try(have We:(jZ==lD)=true:=by simpa using c6))
   clear c6
   (first|rw [tK]|(simp only [i64_w,i32_w];rw [tK])|skip)
   have H':=aM H
   clear H
   have hnb10:=lU.out
   have hnc10:=lV.out
   have rQ:w5.cell? ⟨hO,0,none⟩=some (.slice bC aU.length bK):=(aG fN.out 0).trans rfl
   have rR:w5.cell? ⟨hO,1,none⟩=some (.bool jZ):=(aG fN.out 1).trans rfl
   have rS:=aH fN.out 0
   have rT:=aH fN.out 1
   have kU:w5.cell? ⟨jP,0,none⟩=some (.slice Aa kA.length Ab):=(aG jQ.out 0).trans rfl
   have kV:w5.cell? ⟨jP,1,none⟩=some (.bool lD):=(aG jQ.out 1).trans rfl
   have kW:=aH jQ.out 0
   have kX:=aH jQ.out 1
   go_wp2
   repeat(go_quiet (fail);try go_wp2)
   go_meet
   case rel=>exact⟨_,(((aU.length:Int) !=(kA.length:Int))),(by first|rfl|(simp;done)|(simp [*];done)),H',⟨by first|omega|exact Nat.le_refl _⟩,⟨gB fN.out⟩,⟨gB jQ.out⟩,⟨gW HB.out⟩⟩
 case rest=>
  clear HC3
  (try clear c1);(try clear p2);(try clear c6);(try clear tK);(try clear Bo);(try clear We);(try clear c7);(try clear c10);(try clear rQ);(try clear rR);(try clear kU);(try clear kV);(try clear lW);(try clear lX);(try clear nB);(try clear nC);(try clear rS);(try clear rT);(try clear kW);(try clear kX);(try clear lY);(try clear lZ)
  (try clear nD);(try clear nE)
  obtain⟨kq,Hu,rfl,HA,HJ2,fN,jQ,HB⟩:=hcut
  cases kq with
  |zero=>exact absurd HA.out (by simp [regletref16_Same.j0])
  |succ Wf=>
   have H:=HA.out
   clear HA
   simp only [regletref16_Same.j0] at H
   by_cases c13:Hu=true
   ·subst c13
    have H1:(some false)=some r:=by rw [if_pos rfl] at H;exact H
    clear H
    have H:=H1
    clear H1
    obtain rfl:=Option.some.inj H
    go_wp2
    repeat(go_quiet (fail);try go_wp2)
    go_ret
    exact⟨by first|rfl|(simp [errW_none,errW_some]<;>rfl)|(simp [*,errW_none,errW_some]<;>rfl),gW HB.out⟩
   ·replace c13:=Bool.eq_false_iff.mpr c13
    subst c13
    have H1:(regletref16_Same.l0 Wf 0 aU jZ kA lD)=some r:=by rw [if_neg (show ¬(false=true) by decide)] at H;exact H
    clear H
    have H:=H1
    clear H1
    have H':=aM H
    clear H
    go_wp2
    repeat(go_quiet (fail);try go_wp2)
    go_loopg [5] Wf (fun kq v5 w'=>∃(bU:Int),v5= .int .i64 bU∧Aside0 (regletref16_Same.l0 kq bU aU jZ kA lD=some r)∧Aside0 (kq≤Wf)∧Aside0 (w'.heap[hO]?=some (.cells #[(.slice bC aU.length bK),.bool jZ] 31 (0,0)))∧Aside0 (w'.heap[jP]?=some (.cells #[(.slice Aa kA.length Ab),.bool lD] 31 (0,0)))∧Aside0 (Below w.heap.size w w'))
    case atStart=>exact⟨(0),(by first|rfl|(simp;done)|(simp [*];done)),H',⟨Nat.le_refl _⟩,⟨gB fN.out⟩,⟨gB jQ.out⟩,⟨gW HB.out⟩⟩
    case round=>
     clear H'
     (try clear c1);(try clear p2);(try clear c6);(try clear tK);(try clear Bo);(try clear We);(try clear c7);(try clear c10);(try clear c13);(try clear rQ);(try clear rR);(try clear kU);(try clear kV);(try clear lW);(try clear lX);(try clear nB);(try clear nC);(try clear rS);(try clear rT);(try clear kW);(try clear kX);(try clear lY);(try clear lZ)
     (try clear nD);(try clear nE);(try clear p2)
     obtain⟨bU,rfl,HA,HK2,fN,jQ,HB⟩:=hrel
     cases gk with
     |zero=>exact absurd HA.out (by simp [regletref16_Same.l0])
     |succ k2=>
      have H:=HA.out
      clear HA
      simp only [regletref16_Same.l0] at H
      by_cases c14:bU<(aU.length:Int)
      ·rw [if_pos c14] at H
       have Ac:decide (bU<(aU.length:Int))=true:=decide_eq_true c14
       clear c14
       by_cases c15:0≤bU
       rotate_left
       ·rw [if_neg c15] at H
        exact absurd H (by simp)
       rw [if_pos c15] at H
       have yH:decide (0≤bU)=true:=decide_eq_true c15
       clear c15
       by_cases c16:bU<(kA.length:Int)
       rotate_left
       ·rw [if_neg c16] at H
        exact absurd H (by simp)
       rw [if_pos c16] at H
       have Ls:decide (bU<(kA.length:Int))=true:=decide_eq_true c16
       clear c16
       by_cases c17:(!(((rd_T43 aU bU).f0)==((rd_T43 kA bU).f0))||(!(((rd_T43 aU bU).f1)==((rd_T43 kA bU).f1))))=true
       ·rw [if_pos c17] at H
        have mD:(!(((rd_T43 aU bU).f0)==((rd_T43 kA bU).f0))||(!(((rd_T43 aU bU).f1)==((rd_T43 kA bU).f1))))=true:=c17
        clear c17
        obtain rfl:=Option.some.inj H
        have hnb18:=lU.out
        have hnc18:=lV.out
        have Hv:wr.cell? ⟨hO,0,none⟩=some (.slice bC aU.length bK):=(aG fN.out 0).trans rfl
        have Hw:wr.cell? ⟨hO,1,none⟩=some (.bool jZ):=(aG fN.out 1).trans rfl
        have Hx:=aH fN.out 0
        have Hy:=aH fN.out 1
        have p103:0≤(bU:Int):=of_decide_eq_true (by first|(with_reducible assumption)|assumption)
        have q103:bU<(aU.length:Int):=of_decide_eq_true (by first|(with_reducible assumption)|assumption)
        obtain⟨Yi,e103,pT,pU⟩:=at_T43 eS.out bU p103 q103
        cases e103
        replace pT:=(HB.out.cell (World.block_lt_of_cell? w _ pT)).trans pT
        replace pU:=(HB.out.cell (World.block_lt_of_cell? w _ pU)).trans pU
        replace p103:=eq_true p103
        replace q103:=eq_true q103
        have rU:wr.cell? ⟨jP,0,none⟩=some (.slice Aa kA.length Ab):=(aG jQ.out 0).trans rfl
        have rV:wr.cell? ⟨jP,1,none⟩=some (.bool lD):=(aG jQ.out 1).trans rfl
        have rW:=aH jQ.out 0
        have rX:=aH jQ.out 1
        have p104:0≤(bU:Int):=of_decide_eq_true (by first|(with_reducible assumption)|assumption)
        have q104:bU<(kA.length:Int):=of_decide_eq_true (by first|(with_reducible assumption)|assumption)
        obtain⟨Yj,e104,pV,pW⟩:=at_T43 Ui.out bU p104 q104
        cases e104
        replace pV:=(HB.out.cell (World.block_lt_of_cell? w _ pV)).trans pV
        replace pW:=(HB.out.cell (World.block_lt_of_cell? w _ pW)).trans pW
        replace p104:=eq_true p104
        replace q104:=eq_true q104
        go_wp2
        repeat(go_quiet (fail);try go_wp2)
        go_ret
        exact⟨by first|rfl|(simp [errW_none,errW_some]<;>rfl)|(simp [*,errW_none,errW_some]<;>rfl),gW HB.out⟩
       ·rw [if_neg c17] at H
        have mD:(!(((rd_T43 aU bU).f0)==((rd_T43 kA bU).f0))||(!(((rd_T43 aU bU).f1)==((rd_T43 kA bU).f1))))=false:=by simpa using c17
        clear c17
        have H':=aM H
        clear H
        have hnb21:=lU.out
        have hnc21:=lV.out
        have Ok:wr.cell? ⟨hO,0,none⟩=some (.slice bC aU.length bK):=(aG fN.out 0).trans rfl
        have Ol:wr.cell? ⟨hO,1,none⟩=some (.bool jZ):=(aG fN.out 1).trans rfl
        have Om:=aH fN.out 0
        have On:=aH fN.out 1
        have p103:0≤(bU:Int):=of_decide_eq_true (by first|(with_reducible assumption)|assumption)
        have q103:bU<(aU.length:Int):=of_decide_eq_true (by first|(with_reducible assumption)|assumption)
        obtain⟨Yi,e103,pT,pU⟩:=at_T43 eS.out bU p103 q103
        cases e103
        replace pT:=(HB.out.cell (World.block_lt_of_cell? w _ pT)).trans pT
        replace pU:=(HB.out.cell (World.block_lt_of_cell? w _ pU)).trans pU
        replace p103:=eq_true p103
        replace q103:=eq_true q103
        have Oo:wr.cell? ⟨jP,0,none⟩=some (.slice Aa kA.length Ab):=(aG jQ.out 0).trans rfl
        have Oq:wr.cell? ⟨jP,1,none⟩=some (.bool lD):=(aG jQ.out 1).trans rfl
        have Ot:=aH jQ.out 0
        have Ou:=aH jQ.out 1
        have p104:0≤(bU:Int):=of_decide_eq_true (by first|(with_reducible assumption)|assumption)
        have q104:bU<(kA.length:Int):=of_decide_eq_true (by first|(with_reducible assumption)|assumption)
        obtain⟨Yj,e104,pV,pW⟩:=at_T43 Ui.out bU p104 q104
        cases e104
        replace pV:=(HB.out.cell (World.block_lt_of_cell? w _ pV)).trans pV
        replace pW:=(HB.out.cell (World.block_lt_of_cell? w _ pW)).trans pW
        replace p104:=eq_true p104
        replace q104:=eq_true q104
        go_wp2
        repeat(go_quiet (fail);try go_wp2)
        go_roundg k2
        case measure=>have:=HJ2.out;have:=HK2.out;omega
        case rel=>exact⟨(wrap64 (bU+1)),(by first|rfl|(simp;done)|(simp [*];done)),H',⟨by have:=HJ2.out;have:=HK2.out;omega⟩,⟨gB fN.out⟩,⟨gB jQ.out⟩,⟨gW HB.out⟩⟩
      ·rw [if_neg c14] at H
       have Ac:decide (bU<(aU.length:Int))=false:=decide_eq_false c14
       clear c14
       obtain rfl:=Option.some.inj H
       have hnb24:=lU.out
       have hnc24:=lV.out
       have yQ:wr.cell? ⟨hO,0,none⟩=some (.slice bC aU.length bK):=(aG fN.out 0).trans rfl
       have yR:wr.cell? ⟨hO,1,none⟩=some (.bool jZ):=(aG fN.out 1).trans rfl
       have yS:=aH fN.out 0
       have yT:=aH fN.out 1
       go_wp2
       repeat(go_quiet (fail);try go_wp2)
       go_ret
       exact⟨by first|rfl|(simp [errW_none,errW_some]<;>rfl)|(simp [*,errW_none,errW_some]<;>rfl),gW HB.out⟩
def machine_Start.f  :Option ((List (S43))×Bool):=some ((([(⟨false,0⟩:S43)]:List (S43))),false)
set_option maxHeartbeats 8000000 in
set_option maxRecDepth 100000 in
theorem machine_Start.calls  (r1:List (S43)) (r2:Bool) (w:World) (h:machine_Start.f  =some (r1,r2)):
 Calls Try.prog 17 #[] w fun e w'=>∃v0_:Value,e= .returned (.agg #[v0_,.bool r2])∧Kd.R k43 43 w' w.heap.size (fun _=>True) v0_ r1∧Below w.heap.size w w':=by
 have hu31:=Try.underlying31
 have hu43:=Try.underlying43
 have HB:=aM (Below.refl w.heap.size w)
 have H:(some ((([(⟨false,0⟩:S43)]:List (S43))),false))=some (r1,r2):=h
 clear h
 obtain⟨y106,Es⟩:∃y_:List (S43),y_=(([(⟨false,0⟩:S43)]:List (S43))):=⟨_,rfl⟩
 replace H:(some (y106,false))=some (r1,r2):=by first|(rw [Es];with_reducible exact H)|(have H2_:=(Option.bind_some _ _).symm.trans H;rw [Es];with_reducible exact H2_)|(have H2_:=(Option.bind_some _ _).symm.trans H;with_reducible exact H2_)|with_reducible exact H|(rw [Es];exact H)|exact H
 have Ul:=aM Es
 clear Es
 simp only [Option.some.injEq,Prod.mk.injEq] at H
 obtain⟨rfl,rfl⟩:=H
 go_enter Try.func17,Try.ntmps17
 go_wp2_with (first|((with_reducible refine bJ (N:=0) rfl ?_);refine box_event ?hg (N:=0) ?hd (cs:=#[.slice none 0 0,.bool false]) (t:=31) ?hr ?_;(case hd=>rfl);(case hg=>rfl);(case hr=>first|(go_simp;done)|(go_simp;rfl));intro Ad hg w1 hbox hb;have bY:=aM (bG (gW HB.out) hb);have bZ:=aM (hbox);have cA:=aM ((by rw [hg];exact(bH (gW HB.out)):w.heap.size≤Ad));have cC:=aM ((by rw [hg];exact(bH (gW HB.out)):w.heap.size≤Ad));clear HB;have HB:=bY;have tN:=bZ;have GW105:=cA;have Yk:=cC;clear bY bZ cA cC;clear hb hbox hg)|((with_reducible refine bJ (N:=2) rfl ?_);refine Kd.R_lit k43 _ 43 ?hg (N:=2) ?hd (xs:=([(⟨false,0⟩:S43)]:List (S43))) (inner:= [.bool false,.int .i64 0]) (ok:=fun _=>True) (okp:=fun _=>True) ?hr ?hp (fun _ hk=>hk) trivial (Below.refl _ _) (Nat.le_refl _) (by simp) ?_;(case hd=>rfl);(case hg=>rfl);(case hr=>first|(go_simp;done)|(go_simp;rfl));(case hp=>exact(Reps.c2 (show Kd.M k43 _ _ _ (⟨false,0⟩:S43) [.bool false,.int .i64 0] from(k43_mkM _ _ _ (⟨false,0⟩:S43))) (Reps.none _ _)));intro v107 w2 ho3 hb hg_ hnew_;clear hg_ hnew_;(first|rw [←Ul.out] at ho3|(simp only [Int.reduceToNat] at ho3;rw [←Ul.out] at ho3));have bY:=aM (bL ho3 (bH (gW HB.out)));have bZ:=aM (bF (gB tN.out) hb);have cA:=aM (bG (gW HB.out) hb);clear tN;clear HB;have Um:=bY;have tN:=bZ;have HB:=cA;clear bY bZ cA;clear hb ho3;obtain⟨Wg,Wh,KX⟩:=Kd.R_slice Um.out;subst KX;have Wi:w2.cell? ⟨Ad,0,none⟩=some (.slice none 0 0):=(aG tN.out 0).trans rfl;have Wj:w2.cell? ⟨Ad,1,none⟩=some (.bool false):=(aG tN.out 1).trans rfl;have Wk:=aH tN.out 0;have Wl:=aH tN.out 1))
 refine bodyPost_ret (results_cell_row rfl _ _ Ad 31 #[.slice Wg y106.length Wh,.bool false] (0,0) _ rfl (by(with_reducible repeat(first|refine aJ ?_ _|refine aK ?_|refine aI ?_ _));refine blk_put (cs:=#[.slice Wg y106.length Wh,.bool false]) ?_ 1 _ rfl;(with_reducible repeat(first|refine aJ ?_ _|refine aK ?_|refine aI ?_ _));refine blk_put (cs:=#[.slice none 0 0,.bool false]) ?_ 0 _ rfl;(with_reducible repeat(first|refine aJ ?_ _|refine aK ?_|refine aI ?_ _));exact tN.out) Try.underlying31 rfl (by kernel_rfl)) rfl ?_
 exact⟨_,by first|rfl|(simp [errW_none,errW_some]<;>rfl)|(simp [*,errW_none,errW_some]<;>rfl),by(with_reducible repeat(first|apply aA|apply aB|apply aC));exact Kd.R_mono (aE (p:=⟨Ad,1,none⟩) (aE (p:=⟨Ad,0,none⟩) (Kd.R_types Um.out tN.out (by decide)) (fun _ hk=>hk.2) (.slice Wg y106.length Wh)) (fun _ hk=>hk.2) (.bool false)) (fun _ hk=>trivial),by repeat(first|(with_reducible first|exact HB.out|apply aN|apply aP|apply aO|refine aL ?_ Yk.out)|exact HB.out)⟩
def machine_dead.f  :Option ((List (S43))×Bool):=some (([]:List (S43)),true)
set_option maxHeartbeats 8000000 in
set_option maxRecDepth 100000 in
theorem machine_dead.calls  (r1:List (S43)) (r2:Bool) (w:World) (h:machine_dead.f  =some (r1,r2)):
 Calls Try.prog 36 #[] w fun e w'=>∃v0_:Value,e= .returned (.agg #[v0_,.bool r2])∧Kd.R k43 43 w' w.heap.size (fun _=>True) v0_ r1∧Below w.heap.size w w':=by
 have hu31:=Try.underlying31
 have HB:=aM (Below.refl w.heap.size w)
 have H:(some (([]:List (S43)),true))=some (r1,r2):=h
 clear h
 simp only [Option.some.injEq,Prod.mk.injEq] at H
 obtain⟨rfl,rfl⟩:=H
 go_enter Try.func36,Try.ntmps36
 go_wp2_with (first|((with_reducible refine bJ (N:=0) rfl ?_);refine box_event ?hg (N:=0) ?hd (cs:=#[.slice none 0 0,.bool false]) (t:=31) ?hr ?_;(case hd=>rfl);(case hg=>rfl);(case hr=>first|(go_simp;done)|(go_simp;rfl));intro Et hg w1 hbox hb;have bY:=aM (bG (gW HB.out) hb);have bZ:=aM (hbox);have cA:=aM ((by rw [hg];exact(bH (gW HB.out)):w.heap.size≤Et));have cC:=aM ((by rw [hg];exact(bH (gW HB.out)):w.heap.size≤Et));clear HB;have HB:=bY;have Eu:=bZ;have GW110:=cA;have Yl:=cC;clear bY bZ cA cC;clear hb hbox hg;have KY:w1.cell? ⟨Et,0,none⟩=some (.slice none 0 0):=(aG Eu.out 0).trans rfl;have KZ:w1.cell? ⟨Et,1,none⟩=some (.bool false):=(aG Eu.out 1).trans rfl;have LA:=aH Eu.out 0;have LC:=aH Eu.out 1))
 refine bodyPost_ret (results_cell_row rfl _ _ Et 31 #[.slice none 0 0,.bool true] (0,0) _ rfl (by(with_reducible repeat(first|refine aJ ?_ _|refine aK ?_|refine aI ?_ _));refine blk_put (cs:=#[.slice none 0 0,.bool false]) ?_ 1 _ rfl;(with_reducible repeat(first|refine aJ ?_ _|refine aK ?_|refine aI ?_ _));refine blk_put (cs:=#[.slice none 0 0,.bool false]) ?_ 0 _ rfl;(with_reducible repeat(first|refine aJ ?_ _|refine aK ?_|refine aI ?_ _));exact Eu.out) Try.underlying31 rfl (by kernel_rfl)) rfl ?_
 exact⟨_,by first|rfl|(simp [errW_none,errW_some]<;>rfl)|(simp [*,errW_none,errW_some]<;>rfl),by first|exact Kd.R_nil _ _ _ _ _|exact Kd.N_nil _ _ _ _ _|exact Kd.V_nil _ _ _ _ _|exact Kd.Q_nil _ _ _ _ _|exact Kd.S_nil _ _ _ _ _,by repeat(first|(with_reducible first|exact HB.out|apply aN|apply aP|apply aO|refine aL ?_ Yl.out)|exact HB.out)⟩
def regletref13_SameInts.l0:Nat→List Int→List Int→Int→Option (Bool)
 |0,_,_,_=>none
 |k+1,x0,x1,x5=>if x5<(x0.length:Int) then(if 0≤x5 then(if x5<(x1.length:Int) then(if(rd x0 x5)=(rd x1 x5) then(regletref13_SameInts.l0 k x0 x1 (wrap64 (x5+1))) else(some false)) else(none)) else(none)) else(some true)
def regletref13_SameInts.f (k:Nat) (l0:List Int) (l1:List Int):Option (Bool):=if(l0.length:Int)=(l1.length:Int) then(regletref13_SameInts.l0 k l0 l1 0) else(some false)
theorem regletref13_SameInts.mono_l:∀k,(∀y0 y1 y2,LeO (regletref13_SameInts.l0 k y0 y1 y2) (regletref13_SameInts.l0 (k+1) y0 y1 y2))
 |0=>fun _ _ _ r h=>by simp [regletref13_SameInts.l0] at h
 |k+1=>by
  have ih0:=regletref13_SameInts.mono_l k
  ·intro y0 y1 y2
   unfold regletref13_SameInts.l0
   repeat' first
   |(with_reducible exact ih0 _ _ _)
   |(with_reducible exact LeO.refl _)
   |(with_reducible exact LeO.none _)
   |(with_reducible refine LeO.ite ?_ ?_)
   |(with_reducible refine LeO.bind ?_ (fun _=>?_))
   |exact ih0 _ _ _
   |exact LeO.none _
   |refine LeO.ite ?_ ?_
   |refine LeO.bind ?_ (fun _=>?_)
theorem regletref13_SameInts.mono:∀a0 a1 k,LeO (regletref13_SameInts.f k a0 a1) (regletref13_SameInts.f (k+1) a0 a1):=by
 intro a0 a1 k
 have ih0:=regletref13_SameInts.mono_l k
 unfold regletref13_SameInts.f
 repeat' first
  |(with_reducible exact ih0 _ _ _)
  |(with_reducible exact LeO.refl _)
  |(with_reducible exact LeO.none _)
  |(with_reducible refine LeO.ite ?_ ?_)
  |(with_reducible refine LeO.bind ?_ (fun _=>?_))
  |exact ih0 _ _ _
  |exact LeO.none _
  |refine LeO.ite ?_ ?_
  |refine LeO.bind ?_ (fun _=>?_)
set_option maxHeartbeats 8000000 in
set_option maxRecDepth 100000 in
theorem regletref13_SameInts.calls (k:Nat) (A0:Option Addr) (c0:Nat) (l0:List Int) (A1:Option Addr) (c1:Nat) (l1:List Int) (r:Bool) (w:World) (hr0:Kd.C (Kd.int .i64) w A0 l0.length l0) (hc0:l0.length≤c0) (hr1:Kd.C (Kd.int .i64) w A1 l1.length l1) (hc1:l1.length≤c1) (h:regletref13_SameInts.f k l0 l1=some r):
 Calls Try.prog 24 #[.slice A0 l0.length c0,.slice A1 l1.length c1] w fun e w'=>e= .returned (.bool r)∧Drawn0 w w':=by
 have HR0:=aM hr0
 have HC0:=aM hc0
 clear hr0 hc0
 have HR1:=aM hr1
 have HC1:=aM hc1
 clear hr1 hc1
 have H:(if(l0.length:Int)=(l1.length:Int) then(regletref13_SameInts.l0 k l0 l1 0) else(some false))=some r:=h
 clear h
 by_cases c3:(l0.length:Int)=(l1.length:Int)
 ·rw [if_pos c3] at H
  have tE:((l0.length:Int)==(l1.length:Int))=true:=beq_iff_eq.mpr c3
  have Ym:((l0.length:Int) !=(l1.length:Int))=false:=bne_eq_false_iff_eq.mpr c3
  have Yn:(l0.length==l1.length)=true:=by first|simpa using c3|(simp at c3 ⊢;omega)
  clear c3
  have H':=aM H
  clear H
  go_enter Try.func24,Try.ntmps24
  go_wp2
  repeat(go_quiet (fail);try go_wp2)
  go_loopg [5] k (fun kq v5 w'=>∃(fM:Int),v5= .int .i64 fM∧Aside0 (regletref13_SameInts.l0 kq l0 l1 fM=some r)∧Aside0 (kq≤k)∧Drawn0 w w')
  case atStart=>exact⟨(0),(by first|rfl|(simp;done)|(simp [*];done)),H',⟨Nat.le_refl _⟩,by repeat(first|exact Drawn0.refl _|apply Drawn0.step)⟩
  case round=>
   clear H'
   (try clear c1);(try clear c2);(try clear p2);(try clear c3);(try clear tE);(try clear Ym);(try clear Yn)
   obtain⟨fM,rfl,HA,HK1,⟨m1,rfl⟩⟩:=hrel
   cases gk with
   |zero=>exact absurd HA.out (by simp [regletref13_SameInts.l0])
   |succ k1=>
    have H:=HA.out
    clear HA
    simp only [regletref13_SameInts.l0] at H
    by_cases c4:fM<(l0.length:Int)
    ·rw [if_pos c4] at H
     have Ag:decide (fM<(l0.length:Int))=true:=decide_eq_true c4
     clear c4
     by_cases c5:0≤fM
     rotate_left
     ·rw [if_neg c5] at H
      exact absurd H (by simp)
     rw [if_pos c5] at H
     have Ah:decide (0≤fM)=true:=decide_eq_true c5
     clear c5
     by_cases c6:fM<(l1.length:Int)
     rotate_left
     ·rw [if_neg c6] at H
      exact absurd H (by simp)
     rw [if_pos c6] at H
     have tK:decide (fM<(l1.length:Int))=true:=decide_eq_true c6
     clear c6
     by_cases c7:(rd l0 fM)=(rd l1 fM)
     ·rw [if_pos c7] at H
      have xW:((rd l0 fM)==(rd l1 fM))=true:=beq_iff_eq.mpr c7
      have Cb:((rd l0 fM) !=(rd l1 fM))=false:=bne_eq_false_iff_eq.mpr c7
      clear c7
      have H':=aM H
      clear H
      have p143:0≤(fM:Int):=of_decide_eq_true (by first|(with_reducible assumption)|assumption)
      have q143:fM<(l0.length:Int):=of_decide_eq_true (by first|(with_reducible assumption)|assumption)
      obtain⟨Yo,e143,Ov⟩:=Kd.at_int HR0.out fM p143 q143
      cases e143
      replace p143:=eq_true p143
      replace q143:=eq_true q143
      have p144:0≤(fM:Int):=of_decide_eq_true (by first|(with_reducible assumption)|assumption)
      have q144:fM<(l1.length:Int):=of_decide_eq_true (by first|(with_reducible assumption)|assumption)
      obtain⟨Yp,e144,Ow⟩:=Kd.at_int HR1.out fM p144 q144
      cases e144
      replace p144:=eq_true p144
      replace q144:=eq_true q144
      go_wp2
      repeat(go_quiet (fail);try go_wp2)
      go_roundg k1
      case measure=>have:=HK1.out;omega
      case rel=>exact⟨(wrap64 (fM+1)),(by first|rfl|(simp;done)|(simp [*];done)),H',⟨by have:=HK1.out;omega⟩,by repeat(first|exact Drawn0.refl _|apply Drawn0.step)⟩
     ·rw [if_neg c7] at H
      have xW:((rd l0 fM)==(rd l1 fM))=false:=beq_eq_false_iff_ne.mpr c7
      have Cb:((rd l0 fM) !=(rd l1 fM))=true:=bne_iff_ne.mpr c7
      obtain rfl:=Option.some.inj H
      have p143:0≤(fM:Int):=of_decide_eq_true (by first|(with_reducible assumption)|assumption)
      have q143:fM<(l0.length:Int):=of_decide_eq_true (by first|(with_reducible assumption)|assumption)
      obtain⟨Yo,e143,Ov⟩:=Kd.at_int HR0.out fM p143 q143
      cases e143
      replace p143:=eq_true p143
      replace q143:=eq_true q143
      have p144:0≤(fM:Int):=of_decide_eq_true (by first|(with_reducible assumption)|assumption)
      have q144:fM<(l1.length:Int):=of_decide_eq_true (by first|(with_reducible assumption)|assumption)
      obtain⟨Yp,e144,Ow⟩:=Kd.at_int HR1.out fM p144 q144
      cases e144
      replace p144:=eq_true p144
      replace q144:=eq_true q144
      go_wp2
      repeat(go_quiet (fail);try go_wp2)
      go_ret
      exact⟨by first|rfl|(simp;done)|(simp [*];done),by repeat(first|exact Drawn0.refl _|apply Drawn0.step)⟩
    ·rw [if_neg c4] at H
     have Ag:decide (fM<(l0.length:Int))=false:=decide_eq_false c4
     clear c4
     obtain rfl:=Option.some.inj H
     go_wp2
     repeat(go_quiet (fail);try go_wp2)
     go_ret
     exact⟨by first|rfl|(simp;done)|(simp [*];done),by repeat(first|exact Drawn0.refl _|apply Drawn0.step)⟩
 ·rw [if_neg c3] at H
  have tE:((l0.length:Int)==(l1.length:Int))=false:=beq_eq_false_iff_ne.mpr c3
  have Ym:((l0.length:Int) !=(l1.length:Int))=true:=bne_iff_ne.mpr c3
  have Yn:(l0.length==l1.length)=false:=by first|simpa using c3|(simp at c3 ⊢;omega)
  obtain rfl:=Option.some.inj H
  go_enter Try.func24,Try.ntmps24
  go_wp2
  repeat(go_quiet (fail);try go_wp2)
  go_ret
  exact⟨by first|rfl|(simp;done)|(simp [*];done),by repeat(first|exact Drawn0.refl _|apply Drawn0.step)⟩
attribute [local go_sem] max2_int min2_int max_two min_two max_three min_three max_four min_four   -- for this text's walks alone
set_option linter.unusedVariables false
set_option linter.unusedSimpArgs false
def regletref16_Start.f  :Option ((List (S43))×Bool):=some ((([(⟨false,0⟩:S43)]:List (S43))),false)
set_option maxHeartbeats 8000000 in
set_option maxRecDepth 100000 in
theorem regletref16_Start.calls  (r1:List (S43)) (r2:Bool) (w:World) (h:regletref16_Start.f  =some (r1,r2)):
 Calls Try.prog 18 #[] w fun e w'=>∃v0_:Value,e= .returned (.agg #[v0_,.bool r2])∧Kd.R k43 43 w' w.heap.size (fun _=>True) v0_ r1∧Below w.heap.size w w':=by
 have hu31:=Try.underlying31
 have hu43:=Try.underlying43
 have HB:=aM (Below.refl w.heap.size w)
 have H:(some ((([(⟨false,0⟩:S43)]:List (S43))),false))=some (r1,r2):=h
 clear h
 obtain⟨y278,Ew⟩:∃y_:List (S43),y_=(([(⟨false,0⟩:S43)]:List (S43))):=⟨_,rfl⟩
 replace H:(some (y278,false))=some (r1,r2):=by first|(rw [Ew];with_reducible exact H)|(have H2_:=(Option.bind_some _ _).symm.trans H;rw [Ew];with_reducible exact H2_)|(have H2_:=(Option.bind_some _ _).symm.trans H;with_reducible exact H2_)|with_reducible exact H|(rw [Ew];exact H)|exact H
 have Un:=aM Ew
 clear Ew
 simp only [Option.some.injEq,Prod.mk.injEq] at H
 obtain⟨rfl,rfl⟩:=H
 go_enter Try.func18,Try.ntmps18
 go_wp2_with (first|((with_reducible refine bJ (N:=0) rfl ?_);refine box_event ?hg (N:=0) ?hd (cs:=#[.slice none 0 0,.bool false]) (t:=31) ?hr ?_;(case hd=>rfl);(case hg=>rfl);(case hr=>first|(go_simp;done)|(go_simp;rfl));intro Ai hg w1 hbox hb;have bY:=aM (bG (gW HB.out) hb);have bZ:=aM (hbox);have cA:=aM ((by rw [hg];exact(bH (gW HB.out)):w.heap.size≤Ai));have cC:=aM ((by rw [hg];exact(bH (gW HB.out)):w.heap.size≤Ai));clear HB;have HB:=bY;have tO:=bZ;have GW277:=cA;have Yq:=cC;clear bY bZ cA cC;clear hb hbox hg)|((with_reducible refine bJ (N:=2) rfl ?_);refine Kd.R_lit k43 _ 43 ?hg (N:=2) ?hd (xs:=([(⟨false,0⟩:S43)]:List (S43))) (inner:= [.bool false,.int .i64 0]) (ok:=fun _=>True) (okp:=fun _=>True) ?hr ?hp (fun _ hk=>hk) trivial (Below.refl _ _) (Nat.le_refl _) (by simp) ?_;(case hd=>rfl);(case hg=>rfl);(case hr=>first|(go_simp;done)|(go_simp;rfl));(case hp=>exact(Reps.c2 (show Kd.M k43 _ _ _ (⟨false,0⟩:S43) [.bool false,.int .i64 0] from(k43_mkM _ _ _ (⟨false,0⟩:S43))) (Reps.none _ _)));intro v279 w2 ho3 hb hg_ hnew_;clear hg_ hnew_;(first|rw [←Un.out] at ho3|(simp only [Int.reduceToNat] at ho3;rw [←Un.out] at ho3));have bY:=aM (bL ho3 (bH (gW HB.out)));have bZ:=aM (bF (gB tO.out) hb);have cA:=aM (bG (gW HB.out) hb);clear tO;clear HB;have Uo:=bY;have tO:=bZ;have HB:=cA;clear bY bZ cA;clear hb ho3;obtain⟨Wg,Wh,KX⟩:=Kd.R_slice Uo.out;subst KX;have Wi:w2.cell? ⟨Ai,0,none⟩=some (.slice none 0 0):=(aG tO.out 0).trans rfl;have Wj:w2.cell? ⟨Ai,1,none⟩=some (.bool false):=(aG tO.out 1).trans rfl;have Wk:=aH tO.out 0;have Wl:=aH tO.out 1))
 refine bodyPost_ret (results_cell_row rfl _ _ Ai 31 #[.slice Wg y278.length Wh,.bool false] (0,0) _ rfl (by(with_reducible repeat(first|refine aJ ?_ _|refine aK ?_|refine aI ?_ _));refine blk_put (cs:=#[.slice Wg y278.length Wh,.bool false]) ?_ 1 _ rfl;(with_reducible repeat(first|refine aJ ?_ _|refine aK ?_|refine aI ?_ _));refine blk_put (cs:=#[.slice none 0 0,.bool false]) ?_ 0 _ rfl;(with_reducible repeat(first|refine aJ ?_ _|refine aK ?_|refine aI ?_ _));exact tO.out) Try.underlying31 rfl (by kernel_rfl)) rfl ?_
 exact⟨_,by first|rfl|(simp [errW_none,errW_some]<;>rfl)|(simp [*,errW_none,errW_some]<;>rfl),by(with_reducible repeat(first|apply aA|apply aB|apply aC));exact Kd.R_mono (aE (p:=⟨Ai,1,none⟩) (aE (p:=⟨Ai,0,none⟩) (Kd.R_types Uo.out tO.out (by decide)) (fun _ hk=>hk.2) (.slice Wg y278.length Wh)) (fun _ hk=>hk.2) (.bool false)) (fun _ hk=>trivial),by repeat(first|(with_reducible first|exact HB.out|apply aN|apply aP|apply aO|refine aL ?_ Yq.out)|exact HB.out)⟩
def regletref13_marks.l0:Nat→List (List Bool)→Int→List ByteArray→List (S72)→Int→Int→List (S35)→Option ((List (List Bool)))
 |0,_,_,_,_,_,_,_=>none
 |k+1,x3,x4,x337000,x337001,x337002,x337003,x337004=>if x4<(x337000.length:Int) then(if 0≤(wrap64 ((x337001.length:Int)+1)) then(if(wrap64 ((x337001.length:Int)+1):Int).toNat≤281474976710656 then(if x3.length<5864062014805 then(regletref13_marks.l0 k (x3++ [(List.replicate (wrap64 ((x337001.length:Int)+1):Int).toNat false)]) (wrap64 (x4+1)) x337000 x337001 x337002 x337003 x337004) else(none)) else(none)) else(none)) else(some x3)
def regletref13_marks.f (k:Nat) (aU:List ByteArray) (aX:List (S72)) (bA:Int) (bB:Int) (aQ:List (S35)):Option ((List (List Bool))):=regletref13_marks.l0 k ([]:List (List Bool)) 0 aU aX bA bB aQ
set_option maxHeartbeats 8000000 in
set_option maxRecDepth 100000 in
theorem regletref13_marks.calls (k:Nat) (bC:Option Addr) (bK:Nat) (aU:List ByteArray) (bM:Option Addr) (bO:Nat) (aX:List (S72)) (bA:Int) (bB:Int) (bQ:Option Addr) (bP:Nat) (aQ:List (S35)) (r:List (List Bool)) (w:World) (dM:Kd.C Kd.string w bC aU.length aU) (dT:aU.length≤bK) (dU:Kd.C k72 w bM aX.length aX) (dY:aX.length≤bO) (dR:Kd.C k35 w bQ aQ.length aQ) (eB:aQ.length≤bP) (h:regletref13_marks.f k aU aX bA bB aQ=some r):
 Calls Try.prog 43 #[.agg #[.slice bC aU.length bK,.slice bM aX.length bO,.int .i64 bA,.int .i64 bB,.slice bQ aQ.length bP]] w fun e w'=>∃v0_:Value,e= .returned (v0_)∧Kd.S (Kd.slice 4 Kd.bool) 90 w' w.heap.size (fun _=>True) v0_ r∧Below w.heap.size w w':=by
 have hu26:=Try.underlying26
 have eS:=aM dM
 have eU:=aM dT
 clear dM dT
 have eX:=aM dU
 have eY:=aM dY
 clear dU dY
 have dW:=aM dR
 have eZ:=aM eB
 clear dR eB
 have HB:=aM (Below.refl w.heap.size w)
 have H:(regletref13_marks.l0 k ([]:List (List Bool)) 0 aU aX bA bB aQ)=some r:=h
 clear h
 have H':=aM H
 clear H
 go_enter Try.func43,Try.ntmps43
 go_wp2_with (first|((with_reducible refine bJ (N:=1) rfl ?_);refine box_event ?hg (N:=1) ?hd (cs:=#[.slice bC aU.length bK,.slice bM aX.length bO,.int .i64 bA,.int .i64 bB,.slice bQ aQ.length bP]) (t:=26) ?hr ?_;(case hd=>rfl);(case hg=>rfl);(case hr=>first|(go_simp;done)|(go_simp;rfl));intro oT hg w2 hbox hb;have bY:=aM (bG (gW HB.out) hb);have bZ:=aM (hbox);have cA:=aM ((by rw [hg];exact(bH (gW HB.out)):w.heap.size≤oT));have cC:=aM ((by rw [hg];exact(bH (gW HB.out)):w.heap.size≤oT));clear HB;have HB:=bY;have iI:=bZ;have GW336:=cA;have OE:=cC;clear bY bZ cA cC;clear hb hbox hg))
 go_loopg [3,4] k (fun kq v3 v4 w'=>∃(dB:List (List Bool)) (eC:Int),v4= .int .i64 eC∧Aside0 (regletref13_marks.l0 kq dB eC aU aX bA bB aQ=some r)∧Aside0 (kq≤k)∧Aside0 (Kd.S (Kd.slice 4 Kd.bool) 90 w' w.heap.size (fun _=>True) v3 dB)∧Aside0 (w'.heap[oT]?=some (.cells #[(.slice bC aU.length bK),(.slice bM aX.length bO),.int .i64 bA,.int .i64 bB,(.slice bQ aQ.length bP)] 26 (0,0)))∧Aside0 (Below w.heap.size w w'))
 case atStart=>exact⟨(([]:List (List Bool))),(0),(by first|rfl|(simp;done)|(simp [*];done)),H',⟨Nat.le_refl _⟩,⟨by first|exact Kd.S_nil _ _ _ _ _|exact Kd.N_nil _ _ _ _ _|exact Kd.V_nil _ _ _ _ _|exact Kd.Q_nil _ _ _ _ _|exact Kd.R_nil _ _ _ _ _⟩,⟨gB iI.out⟩,⟨gW HB.out⟩⟩
 case round=>
  clear H'
  (try clear p2)
  obtain⟨dB,eC,rfl,HA,HK1,gG,iI,HB⟩:=hrel
  cases gk with
  |zero=>exact absurd HA.out (by simp [regletref13_marks.l0])
  |succ k1=>
   have H:=HA.out
   clear HA
   simp only [regletref13_marks.l0] at H
   by_cases c3:eC<(aU.length:Int)
   ·rw [if_pos c3] at H
    have tE:decide (eC<(aU.length:Int))=true:=decide_eq_true c3
    clear c3
    obtain⟨Lt,Wm⟩:∃j_:Int,(wrap64 ((aX.length:Int)+1))=j_:=⟨_,rfl⟩
    replace H:(if 0≤(Lt) then(if(Lt:Int).toNat≤281474976710656 then(if dB.length<5864062014805 then(regletref13_marks.l0 k1 (dB++ [(List.replicate (Lt:Int).toNat false)]) (wrap64 (eC+1)) aU aX bA bB aQ) else(none)) else(none)) else(none))=some r:=by first|(rw [Wm] at H;exact H)|(simp only [Wm] at H ⊢;exact H)
    have hji4w:(IntKind.i64.wrap ((aX.length:Int)+1))=Lt:=(i64_w _).trans Wm
    by_cases c5:0≤(Lt)
    rotate_left
    ·rw [if_neg c5] at H
     exact absurd H (by simp)
    rw [if_pos c5] at H
    have Ah:=eq_true c5
    have Li:decide (0≤(Lt))=true:=decide_eq_true c5
    clear c5
    by_cases c6:(Lt:Int).toNat≤281474976710656
    rotate_left
    ·rw [if_neg c6] at H
     exact absurd H (by simp)
    rw [if_pos c6] at H
    have tK:=eq_true c6
    have Bo:decide ((Lt:Int).toNat≤281474976710656)=true:=decide_eq_true c6
    clear c6
    obtain⟨y337,Ex⟩:∃y_:List Bool,y_=(List.replicate (Lt:Int).toNat false):=⟨_,rfl⟩
    replace H:(if dB.length<5864062014805 then(regletref13_marks.l0 k1 (dB++ [y337]) (wrap64 (eC+1)) aU aX bA bB aQ) else(none))=some r:=by first|(rw [Ex];with_reducible exact H)|(have H2_:=(Option.bind_some _ _).symm.trans H;rw [Ex];with_reducible exact H2_)|(have H2_:=(Option.bind_some _ _).symm.trans H;with_reducible exact H2_)|with_reducible exact H|(rw [Ex];exact H)|exact H
    have Up:=aM Ex
    clear Ex
    by_cases c7:dB.length<5864062014805
    rotate_left
    ·rw [if_neg c7] at H
     exact absurd H (by simp)
    rw [if_pos c7] at H
    have Wn:=aM c7
    clear c7
    obtain⟨y340,Ey⟩:∃y_:List (List Bool),y_=(dB++ [y337]):=⟨_,rfl⟩
    replace H:(regletref13_marks.l0 k1 y340 (wrap64 (eC+1)) aU aX bA bB aQ)=some r:=by first|(rw [Ey];with_reducible exact H)|(have H2_:=(Option.bind_some _ _).symm.trans H;rw [Ey];with_reducible exact H2_)|(have H2_:=(Option.bind_some _ _).symm.trans H;with_reducible exact H2_)|with_reducible exact H|(rw [Ey];exact H)|exact H
    have Yr:=aM Ey
    clear Ey
    have H':=aM H
    clear H
    have lW:wr.cell? ⟨oT,0,none⟩=some (.slice bC aU.length bK):=(aG iI.out 0).trans rfl
    have lX:wr.cell? ⟨oT,1,none⟩=some (.slice bM aX.length bO):=(aG iI.out 1).trans rfl
    have oK:wr.cell? ⟨oT,2,none⟩=some (.int .i64 bA):=(aG iI.out 2).trans rfl
    have oL:wr.cell? ⟨oT,3,none⟩=some (.int .i64 bB):=(aG iI.out 3).trans rfl
    have oM:wr.cell? ⟨oT,4,none⟩=some (.slice bQ aQ.length bP):=(aG iI.out 4).trans rfl
    have lY:=aH iI.out 0
    have lZ:=aH iI.out 1
    have oN:=aH iI.out 2
    have oO:=aH iI.out 3
    have oP:=aH iI.out 4
    go_wp2_with (first|((with_reducible refine bJ (N:=17) rfl ?_);refine Kd.R_make Kd.bool _ 4 rfl (N:=17) rfl 90 _ _ rfl Lt rfl rfl Try.underlying90 (.bool false) 1 info4 rfl (by decide) (by omega) false (ok:=fun _=>True) (okp:=fun _=>True) rfl (fun _ hk=>hk) trivial (of_decide_eq_true (by first|(with_reducible assumption)|assumption)) (Nat.le_trans (Nat.mul_le_mul_right _ (of_decide_eq_true (by first|(with_reducible assumption)|assumption):Lt.toNat≤281474976710656)) (by omega)) (Below.refl _ _) (Nat.le_refl _) ?_;intro v338 w9 ho10 hb hg_ hnew_;clear hg_ hnew_;(first|rw [←Up.out] at ho10|(simp only [Int.reduceToNat] at ho10;rw [←Up.out] at ho10));have bY:=aM (Kd.S_elder' (gS gG.out) (Kd.R_base ho10) hb);have bZ:=aM (bL ho10 (bH (gW HB.out)));have cA:=aM (bF (gB iI.out) hb);have cC:=aM (bG (gW HB.out) hb);clear gG;clear iI;clear HB;have gG:=bY;have Hz:=bZ;have iI:=cA;have HB:=cC;clear bY bZ cA cC;clear hb ho10;obtain⟨Ys,Yt,LD⟩:=Kd.R_slice Hz.out;subst LD)|((with_reducible refine gate_builtin (b:= .append) (xs:=#[.tmp 12,.tmp 18]) rfl ?_);at_builtin;refine Kd.S_append (Kd.slice 4 Kd.bool) (w0:=w) w.heap.size rfl (.tmp 12) (.tmp 18) 88 90 (.slice none 0 0) 24 rfl Try.underlying88 info90 rfl (by decide) (by omega) u3 dB y337 [.slice Ys y337.length Yt] (fun _=>True) (fun k_=>some k_=(.slice Ys y337.length Yt:Value).ownBlock) rfl rfl ?aP (fun k_ hk_=>((Kd.R_mono (ok':=fun k_=>((fun _=>True)) k_∧some k_≠(u3:Value).ownBlock) (Kd.R_apart' (Hz.out) (Kd.S_typed gG.out) (by decide)) (fun k_ hk=>⟨trivial,hk.2⟩))).1 k_ hk_.symm) ?aF ?aO ?aB ?aS ?aL ?_;(case aP=>exact Kd.M_row (Kd.R_mono (Kd.R_tight rfl (Kd.R_mono (ok':=fun k_=>((fun _=>True)) k_∧some k_≠(u3:Value).ownBlock) (Kd.R_apart' (Hz.out) (Kd.S_typed gG.out) (by decide)) (fun k_ hk=>⟨trivial,hk.2⟩))) (fun _ h_=>h_)));(case aB=>exact(gW HB.out));(case aF=>exact(fun _ _=>trivial));(case aO=>exact(by(with_reducible repeat(first|apply Kd.S_alloc|apply aV|apply aW));exact Kd.S_mono gG.out (fun k_ hk=>⟨trivial,fun e_=>hk.2 e_⟩)));(case aS=>exact(bH (gW HB.out)));(case aL=>have:=Wn.out;omega);intro v341 w11 ho hb hg hat;rw [←Yr.out] at ho;have bY:=aM (blk_grown (gB iI.out) hg (Kd.S_ne gG.out iI.out (by decide)));have bZ:=aM (hb);have cA:=aM (ho);clear iI;clear HB;clear gG;clear Hz;have iI:=bY;have HB:=bZ;have Yu:=cA;clear bY bZ cA;clear ho hb hg hat))
    go_roundg k1
    case measure=>have:=HK1.out;omega
    case rel=>exact⟨(y340),(wrap64 (eC+1)),(by first|rfl|(simp;done)|(simp [*];done)),H',⟨by have:=HK1.out;omega⟩,⟨gS Yu.out⟩,⟨gB iI.out⟩,⟨gW HB.out⟩⟩
   ·rw [if_neg c3] at H
    have tE:decide (eC<(aU.length:Int))=false:=decide_eq_false c3
    clear c3
    obtain rfl:=Option.some.inj H
    have rY:wr.cell? ⟨oT,0,none⟩=some (.slice bC aU.length bK):=(aG iI.out 0).trans rfl
    have rZ:wr.cell? ⟨oT,1,none⟩=some (.slice bM aX.length bO):=(aG iI.out 1).trans rfl
    have sA:wr.cell? ⟨oT,2,none⟩=some (.int .i64 bA):=(aG iI.out 2).trans rfl
    have sB:wr.cell? ⟨oT,3,none⟩=some (.int .i64 bB):=(aG iI.out 3).trans rfl
    have sC:wr.cell? ⟨oT,4,none⟩=some (.slice bQ aQ.length bP):=(aG iI.out 4).trans rfl
    have sD:=aH iI.out 0
    have sE:=aH iI.out 1
    have sF:=aH iI.out 2
    have sG:=aH iI.out 3
    have sH:=aH iI.out 4
    go_wp2
    go_ret
    exact⟨_,by first|rfl|(simp [errW_none,errW_some]<;>rfl)|(simp [*,errW_none,errW_some]<;>rfl),gS gG.out,gW HB.out⟩
attribute [local go_sem] max2_int min2_int max_two min_two max_three min_three max_four min_four   -- for this text's walks alone
set_option linter.unusedVariables false
set_option linter.unusedSimpArgs false
def regletref13_list.l0:Nat→List Bool→List Int→Int→Option (List Int)
 |0,_,_,_=>none
 |k+1,x0,x3,x4=>if x4<(x0.length:Int) then(if 0≤x4 then(if rdOf false x0 x4=true then(if x3.length<17592186044416 then(regletref13_list.l0 k x0 (x3++ [x4]) (wrap64 (x4+1))) else(none)) else(regletref13_list.l0 k x0 x3 (wrap64 (x4+1)))) else(none)) else(some x3)
def regletref13_list.f (k:Nat) (l0:List Bool):Option (List Int):=regletref13_list.l0 k l0 ([]:List Int) 0
set_option maxHeartbeats 8000000 in
set_option maxRecDepth 100000 in
theorem regletref13_list.calls (k:Nat) (A0:Option Addr) (c0:Nat) (l0:List Bool) (r:List Int) (w:World) (hr0:Kd.C Kd.bool w A0 l0.length l0) (hc0:l0.length≤c0) (h:regletref13_list.f k l0=some r):
 Calls Try.prog 49 #[.slice A0 l0.length c0] w fun e w'=>∃v0_:Value,e= .returned (v0_)∧Kd.R (Kd.int .i64) 3 w' w.heap.size (fun _=>True) v0_ r∧Below w.heap.size w w':=by
 have HR0:=aM hr0
 have HC0:=aM hc0
 clear hr0 hc0
 have HB:=aM (Below.refl w.heap.size w)
 have H:(regletref13_list.l0 k l0 ([]:List Int) 0)=some r:=h
 clear h
 have H':=aM H
 clear H
 go_enter Try.func49,Try.ntmps49
 go_wp2
 go_loopg [3,4] k (fun kq v3 v4 w'=>∃(dB:List Int) (eC:Int),v4= .int .i64 eC∧Aside0 (regletref13_list.l0 kq l0 dB eC=some r)∧Aside0 (kq≤k)∧Aside0 (Kd.R (Kd.int .i64) 3 w' w.heap.size (fun _=>True) v3 dB)∧Aside0 (Below w.heap.size w w'))
 case atStart=>exact⟨(([]:List Int)),(0),(by first|rfl|(simp;done)|(simp [*];done)),H',⟨Nat.le_refl _⟩,⟨by first|exact Kd.R_nil _ _ _ _ _|exact Kd.N_nil _ _ _ _ _|exact Kd.V_nil _ _ _ _ _|exact Kd.Q_nil _ _ _ _ _|exact Kd.S_nil _ _ _ _ _⟩,⟨gW HB.out⟩⟩
 case round=>
  clear H'
  obtain⟨dB,eC,rfl,HA,HK1,gG,HB⟩:=hrel
  cases gk with
  |zero=>exact absurd HA.out (by simp [regletref13_list.l0])
  |succ k1=>
   have H:=HA.out
   clear HA
   simp only [regletref13_list.l0] at H
   by_cases c2:eC<(l0.length:Int)
   ·rw [if_pos c2] at H
    have Wo:decide (eC<(l0.length:Int))=true:=decide_eq_true c2
    clear c2
    by_cases c3:0≤eC
    rotate_left
    ·rw [if_neg c3] at H
     exact absurd H (by simp)
    rw [if_pos c3] at H
    have tE:decide (0≤eC)=true:=decide_eq_true c3
    clear c3
    obtain⟨bq4,hbq4⟩:∃b_:Bool,b_=(rdOf false l0 eC):=⟨_,rfl⟩
    replace H:(if bq4=true then(if dB.length<17592186044416 then(regletref13_list.l0 k1 l0 (dB++ [eC]) (wrap64 (eC+1))) else(none)) else(regletref13_list.l0 k1 l0 dB (wrap64 (eC+1))))=some r:=by rw [←hbq4] at H;exact H
    have Nbq4:=aM hbq4
    clear hbq4
    by_cases c5:bq4=true
    ·subst c5
     have H1:(if dB.length<17592186044416 then(regletref13_list.l0 k1 l0 (dB++ [eC]) (wrap64 (eC+1))) else(none))=some r:=by rw [if_pos rfl] at H;exact H
     clear H
     have H:=H1
     clear H1
     by_cases c6:dB.length<17592186044416
     rotate_left
     ·rw [if_neg c6] at H
      exact absurd H (by simp)
     rw [if_pos c6] at H
     have Wp:=aM c6
     clear c6
     obtain⟨y385,Ez⟩:∃y_:List Int,y_=(dB++ [eC]):=⟨_,rfl⟩
     replace H:(regletref13_list.l0 k1 l0 y385 (wrap64 (eC+1)))=some r:=by first|(rw [Ez];with_reducible exact H)|(have H2_:=(Option.bind_some _ _).symm.trans H;rw [Ez];with_reducible exact H2_)|(have H2_:=(Option.bind_some _ _).symm.trans H;with_reducible exact H2_)|with_reducible exact H|(rw [Ez];exact H)|exact H
     have Yv:=aM Ez
     clear Ez
     have H':=aM H
     clear H
     have p384:0≤(eC:Int):=of_decide_eq_true (by first|(with_reducible assumption)|assumption)
     have q384:eC<(l0.length:Int):=of_decide_eq_true (by first|(with_reducible assumption)|assumption)
     obtain⟨Yw,e384,mI⟩:=Kd.at_bool HR0.out eC p384 q384
     (try rw [←Nbq4.out] at mI)
     cases e384
     replace mI:=(HB.out.cell (World.block_lt_of_cell? w _ mI)).trans mI
     replace p384:=eq_true p384
     replace q384:=eq_true q384
     go_wp2_with (first|((with_reducible refine gate_builtin (b:= .append) (xs:=#[.tmp 15,.tmp 17]) rfl ?_);at_builtin;refine Kd.R_append (Kd.int .i64) (w0:=w) w.heap.size rfl (.tmp 15) (.tmp 17) 32 3 (.int .i64 0) 8 rfl Try.underlying32 info3 rfl (by decide) (by omega) u3 dB eC [.int .i64 eC] (fun _=>True) (fun _=>False) rfl rfl ?aP (fun _ hk=>hk.elim) ?aF ?aO ?aB ?aS ?aL ?_;(case aP=>exact rfl);(case aB=>exact(gW HB.out));(case aF=>exact(fun _ _=>trivial));(case aO=>exact(gR gG.out));(case aS=>exact(bH (gW HB.out)));(case aL=>have:=Wp.out;omega);intro v386 w7 ho hb hg hat;rw [←Yv.out] at ho;have bY:=aM (hb);have bZ:=aM (ho);clear HB;clear gG;have HB:=bY;have Yx:=bZ;clear bY bZ;clear ho hb hg hat))
     go_roundg k1
     case measure=>have:=HK1.out;omega
     case rel=>exact⟨(y385),(wrap64 (eC+1)),(by first|rfl|(simp;done)|(simp [*];done)),H',⟨by have:=HK1.out;omega⟩,⟨gR Yx.out⟩,⟨gW HB.out⟩⟩
    ·replace c5:=Bool.eq_false_iff.mpr c5
     subst c5
     have H1:(regletref13_list.l0 k1 l0 dB (wrap64 (eC+1)))=some r:=by rw [if_neg (show ¬(false=true) by decide)] at H;exact H
     clear H
     have H:=H1
     clear H1
     have H':=aM H
     clear H
     have p384:0≤(eC:Int):=of_decide_eq_true (by first|(with_reducible assumption)|assumption)
     have q384:eC<(l0.length:Int):=of_decide_eq_true (by first|(with_reducible assumption)|assumption)
     obtain⟨Yw,e384,mI⟩:=Kd.at_bool HR0.out eC p384 q384
     (try rw [←Nbq4.out] at mI)
     cases e384
     replace mI:=(HB.out.cell (World.block_lt_of_cell? w _ mI)).trans mI
     replace p384:=eq_true p384
     replace q384:=eq_true q384
     go_wp2
     go_roundg k1
     case measure=>have:=HK1.out;omega
     case rel=>exact⟨(dB),(wrap64 (eC+1)),(by first|rfl|(simp;done)|(simp [*];done)),H',⟨by have:=HK1.out;omega⟩,⟨gR gG.out⟩,⟨gW HB.out⟩⟩
   ·rw [if_neg c2] at H
    have Wo:decide (eC<(l0.length:Int))=false:=decide_eq_false c2
    clear c2
    obtain rfl:=Option.some.inj H
    go_wp2
    go_ret
    exact⟨_,by first|rfl|(simp [errW_none,errW_some]<;>rfl)|(simp [*,errW_none,errW_some]<;>rfl),gR gG.out,gW HB.out⟩
def regletref13_lists.l0:Nat→List (List Bool)→List (List Int)→Int→Option ((List (List Int)))
 |0,_,_,_=>none
 |k+1,x0,x3,x4=>if x4<(x0.length:Int) then(if 0≤x4 then((regletref13_list.f k (rd_L17 x0 x4)).bind fun t389=>(if x3.length<5864062014805 then(regletref13_lists.l0 k x0 (x3++ [t389]) (wrap64 (x4+1))) else(none))) else(none)) else(some x3)
def regletref13_lists.f (k:Nat) (l0:List (List Bool)):Option ((List (List Int))):=regletref13_lists.l0 k l0 ([]:List (List Int)) 0
set_option maxHeartbeats 8000000 in
set_option maxRecDepth 100000 in
theorem regletref13_lists.calls (k:Nat) (A0:Option Addr) (c0:Nat) (l0:List (List Bool)) (r:List (List Int)) (w:World) (hr0:Kd.C (Kd.slice 4 Kd.bool) w A0 l0.length l0) (hc0:l0.length≤c0) (h:regletref13_lists.f k l0=some r):
 Calls Try.prog 48 #[.slice A0 l0.length c0] w fun e w'=>∃v0_:Value,e= .returned (v0_)∧Kd.S (Kd.slice 3 (Kd.int .i64)) 32 w' w.heap.size (fun _=>True) v0_ r∧Below w.heap.size w w':=by
 have HR0:=aM hr0
 have HC0:=aM hc0
 clear hr0 hc0
 have HB:=aM (Below.refl w.heap.size w)
 have H:(regletref13_lists.l0 k l0 ([]:List (List Int)) 0)=some r:=h
 clear h
 have H':=aM H
 clear H
 go_enter Try.func48,Try.ntmps48
 go_wp2
 go_loopg [3,4] k (fun kq v3 v4 w'=>∃(dB:List (List Int)) (eC:Int),v4= .int .i64 eC∧Aside0 (regletref13_lists.l0 kq l0 dB eC=some r)∧Aside0 (kq≤k)∧Aside0 (Kd.S (Kd.slice 3 (Kd.int .i64)) 32 w' w.heap.size (fun _=>True) v3 dB)∧Aside0 (Below w.heap.size w w'))
 case atStart=>exact⟨(([]:List (List Int))),(0),(by first|rfl|(simp;done)|(simp [*];done)),H',⟨Nat.le_refl _⟩,⟨by first|exact Kd.S_nil _ _ _ _ _|exact Kd.N_nil _ _ _ _ _|exact Kd.V_nil _ _ _ _ _|exact Kd.Q_nil _ _ _ _ _|exact Kd.R_nil _ _ _ _ _⟩,⟨gW HB.out⟩⟩
 case round=>
  clear H'
  obtain⟨dB,eC,rfl,HA,HK1,gG,HB⟩:=hrel
  cases gk with
  |zero=>exact absurd HA.out (by simp [regletref13_lists.l0])
  |succ k1=>
   have H:=HA.out
   clear HA
   simp only [regletref13_lists.l0] at H
   by_cases c2:eC<(l0.length:Int)
   ·rw [if_pos c2] at H
    have Wo:decide (eC<(l0.length:Int))=true:=decide_eq_true c2
    clear c2
    by_cases c3:0≤eC
    rotate_left
    ·rw [if_neg c3] at H
     exact absurd H (by simp)
    rw [if_pos c3] at H
    have tE:decide (0≤eC)=true:=decide_eq_true c3
    clear c3
    replace H:=Option.bind_eq_some_iff.mp H
    obtain⟨t389,A40,H⟩:=H
    replace H:(if dB.length<5864062014805 then(regletref13_lists.l0 k1 l0 (dB++ [t389]) (wrap64 (eC+1))) else(none))=some r:=H
    have A4:=aM A40
    clear A40
    by_cases c5:dB.length<5864062014805
    rotate_left
    ·rw [if_neg c5] at H
     exact absurd H (by simp)
    rw [if_pos c5] at H
    have LE:=aM c5
    clear c5
    obtain⟨y392,Fa⟩:∃y_:List (List Int),y_=(dB++ [t389]):=⟨_,rfl⟩
    replace H:(regletref13_lists.l0 k1 l0 y392 (wrap64 (eC+1)))=some r:=by first|(rw [Fa];with_reducible exact H)|(have H2_:=(Option.bind_some _ _).symm.trans H;rw [Fa];with_reducible exact H2_)|(have H2_:=(Option.bind_some _ _).symm.trans H;with_reducible exact H2_)|with_reducible exact H|(rw [Fa];exact H)|exact H
    have Yy:=aM Fa
    clear Fa
    have H':=aM H
    clear H
    have p388:0≤(eC:Int):=of_decide_eq_true (by first|(with_reducible assumption)|assumption)
    have q388:eC<(l0.length:Int):=of_decide_eq_true (by first|(with_reducible assumption)|assumption)
    obtain⟨OG,Wq,Wr,e388,Cc,Ia,Ib⟩:=at_L17 HR0.out eC p388 q388
    cases e388
    replace Cc:=(HB.out.cell (World.block_lt_of_cell? w _ Cc)).trans Cc
    have Ox:=aM Ib
    have Oy:=aM Ia
    clear Ib Ia
    replace p388:=eq_true p388
    replace q388:=eq_true q388
    go_wp2_with (first|((with_reducible refine bI (f:=49) rfl ?_);refine goesL_ (some 16) rfl rfl Try.func49 (by kernel_rfl) rfl #[.slice Wq (rd_L17 l0 eC).length Wr] rfl (by(try simp only [List.map_toArray,List.map_cons,List.map_nil]);first|done|rfl|(simp only [List.length_drop,List.length_take];rfl)) ?_;(with_reducible refine(regletref13_list.calls k1 _ _ (rd_L17 l0 eC) t389 _ ?side1 ?side2 A4.out).mono ?_);(case side1=>exact gC (bD Ox.out HB.out));(case side2=>exact Oy.out);rintro e w6 ⟨v390,rfl,ho0,hb⟩;refine⟨_,rfl,?_⟩;have bY:=aM (Kd.S_elder' (gS gG.out) (Kd.R_base ho0) hb);have bZ:=aM (bL ho0 (bH (gW HB.out)));have cA:=aM (bG (gW HB.out) hb);clear gG;clear HB;have gG:=bY;have Ic:=bZ;have HB:=cA;clear bY bZ cA;(try clear hb);(try clear hb2);(try clear hk);(try clear hi);(try clear ho0);obtain⟨Yg,Ws,Yh⟩:=Kd.R_slice Ic.out;subst Yh)|((with_reducible refine gate_builtin (b:= .append) (xs:=#[.tmp 11,.tmp 17]) rfl ?_);at_builtin;refine Kd.S_append (Kd.slice 3 (Kd.int .i64)) (w0:=w) w.heap.size rfl (.tmp 11) (.tmp 17) 27 32 (.slice none 0 0) 24 rfl Try.underlying27 info32 rfl (by decide) (by omega) u3 dB t389 [.slice Yg t389.length Ws] (fun _=>True) (fun k_=>some k_=(.slice Yg t389.length Ws:Value).ownBlock) rfl rfl ?aP (fun k_ hk_=>((Kd.R_mono (ok':=fun k_=>((fun _=>True)) k_∧some k_≠(u3:Value).ownBlock) (Kd.R_apart' (Ic.out) (Kd.S_typed gG.out) (by decide)) (fun k_ hk=>⟨trivial,hk.2⟩))).1 k_ hk_.symm) ?aF ?aO ?aB ?aS ?aL ?_;(case aP=>exact Kd.M_row (Kd.R_mono (Kd.R_tight rfl (Kd.R_mono (ok':=fun k_=>((fun _=>True)) k_∧some k_≠(u3:Value).ownBlock) (Kd.R_apart' (Ic.out) (Kd.S_typed gG.out) (by decide)) (fun k_ hk=>⟨trivial,hk.2⟩))) (fun _ h_=>h_)));(case aB=>exact(gW HB.out));(case aF=>exact(fun _ _=>trivial));(case aO=>exact(by(with_reducible repeat(first|apply Kd.S_alloc|apply aV|apply aW));exact Kd.S_mono gG.out (fun k_ hk=>⟨trivial,fun e_=>hk.2 e_⟩)));(case aS=>exact(bH (gW HB.out)));(case aL=>have:=LE.out;omega);intro v393 w7 ho hb hg hat;rw [←Yy.out] at ho;have bY:=aM (hb);have bZ:=aM (ho);clear HB;clear gG;clear Ic;have HB:=bY;have Yz:=bZ;clear bY bZ;clear ho hb hg hat))
    go_roundg k1
    case measure=>have:=HK1.out;omega
    case rel=>exact⟨(y392),(wrap64 (eC+1)),(by first|rfl|(simp;done)|(simp [*];done)),H',⟨by have:=HK1.out;omega⟩,⟨gS Yz.out⟩,⟨gW HB.out⟩⟩
   ·rw [if_neg c2] at H
    have Wo:decide (eC<(l0.length:Int))=false:=decide_eq_false c2
    clear c2
    obtain rfl:=Option.some.inj H
    go_wp2
    go_ret
    exact⟨_,by first|rfl|(simp [errW_none,errW_some]<;>rfl)|(simp [*,errW_none,errW_some]<;>rfl),gS gG.out,gW HB.out⟩
def regletref14_has.l0:Nat→List Int→Int→Int→Option (Bool)
 |0,_,_,_=>none
 |k+1,x0,x1,x5=>if x5<(x0.length:Int) then(if 0≤x5 then(if(rd x0 x5)=x1 then(some true) else(regletref14_has.l0 k x0 x1 (wrap64 (x5+1)))) else(none)) else(some false)
def regletref14_has.f (k:Nat) (l0:List Int) (a1:Int):Option (Bool):=regletref14_has.l0 k l0 a1 0
set_option maxHeartbeats 8000000 in
set_option maxRecDepth 100000 in
theorem regletref14_has.calls (k:Nat) (A0:Option Addr) (c0:Nat) (l0:List Int) (a1:Int) (r:Bool) (w:World) (hr0:Kd.C (Kd.int .i64) w A0 l0.length l0) (hc0:l0.length≤c0) (h:regletref14_has.f k l0 a1=some r):
 Calls Try.prog 33 #[.slice A0 l0.length c0,.int .i64 a1] w fun e w'=>e= .returned (.bool r)∧Drawn0 w w':=by
 have HR0:=aM hr0
 have HC0:=aM hc0
 clear hr0 hc0
 have H:(regletref14_has.l0 k l0 a1 0)=some r:=h
 clear h
 have H':=aM H
 clear H
 go_enter Try.func33,Try.ntmps33
 go_wp2
 go_loopg [5] k (fun kq v5 w'=>∃(fM:Int),v5= .int .i64 fM∧Aside0 (regletref14_has.l0 kq l0 a1 fM=some r)∧Aside0 (kq≤k)∧Drawn0 w w')
 case atStart=>exact⟨(0),(by first|rfl|(simp;done)|(simp [*];done)),H',⟨Nat.le_refl _⟩,by repeat(first|exact Drawn0.refl _|apply Drawn0.step)⟩
 case round=>
  clear H'
  (try clear p2)
  obtain⟨fM,rfl,HA,HK1,⟨m1,rfl⟩⟩:=hrel
  cases gk with
  |zero=>exact absurd HA.out (by simp [regletref14_has.l0])
  |succ k1=>
   have H:=HA.out
   clear HA
   simp only [regletref14_has.l0] at H
   by_cases c3:fM<(l0.length:Int)
   ·rw [if_pos c3] at H
    have tE:decide (fM<(l0.length:Int))=true:=decide_eq_true c3
    clear c3
    by_cases c4:0≤fM
    rotate_left
    ·rw [if_neg c4] at H
     exact absurd H (by simp)
    rw [if_pos c4] at H
    have Ag:decide (0≤fM)=true:=decide_eq_true c4
    clear c4
    by_cases c5:(rd l0 fM)=a1
    ·rw [if_pos c5] at H
     have Ah:((rd l0 fM)==a1)=true:=beq_iff_eq.mpr c5
     have Li:((rd l0 fM) !=a1)=false:=bne_eq_false_iff_eq.mpr c5
     clear c5
     obtain rfl:=Option.some.inj H
     have p395:0≤(fM:Int):=of_decide_eq_true (by first|(with_reducible assumption)|assumption)
     have q395:fM<(l0.length:Int):=of_decide_eq_true (by first|(with_reducible assumption)|assumption)
     obtain⟨Za,e395,Oz⟩:=Kd.at_int HR0.out fM p395 q395
     cases e395
     replace p395:=eq_true p395
     replace q395:=eq_true q395
     go_wp2
     go_ret
     exact⟨by first|rfl|(simp;done)|(simp [*];done),by repeat(first|exact Drawn0.refl _|apply Drawn0.step)⟩
    ·rw [if_neg c5] at H
     have Ah:((rd l0 fM)==a1)=false:=beq_eq_false_iff_ne.mpr c5
     have Li:((rd l0 fM) !=a1)=true:=bne_iff_ne.mpr c5
     have H':=aM H
     clear H
     have p395:0≤(fM:Int):=of_decide_eq_true (by first|(with_reducible assumption)|assumption)
     have q395:fM<(l0.length:Int):=of_decide_eq_true (by first|(with_reducible assumption)|assumption)
     obtain⟨Za,e395,Oz⟩:=Kd.at_int HR0.out fM p395 q395
     cases e395
     replace p395:=eq_true p395
     replace q395:=eq_true q395
     go_wp2
     go_roundg k1
     case measure=>have:=HK1.out;omega
     case rel=>exact⟨(wrap64 (fM+1)),(by first|rfl|(simp;done)|(simp [*];done)),H',⟨by have:=HK1.out;omega⟩,by repeat(first|exact Drawn0.refl _|apply Drawn0.step)⟩
   ·rw [if_neg c3] at H
    have tE:decide (fM<(l0.length:Int))=false:=decide_eq_false c3
    clear c3
    obtain rfl:=Option.some.inj H
    go_wp2
    go_ret
    exact⟨by first|rfl|(simp;done)|(simp [*];done),by repeat(first|exact Drawn0.refl _|apply Drawn0.step)⟩
def regletlaw16_tokens.l0:Nat→List Int→Int→List Int→Int→Option (List Int)
 |0,_,_,_,_=>none
 |k+1,x0,x1,x5,x6=>if x6<(x0.length:Int) then(if x6<10 then(if 0≤x6 then(if x1=0 then(none) else(if x5.length<17592186044416 then(regletlaw16_tokens.l0 k x0 x1 (x5++ [Int.tmod (wrap64 (rd x0 x6)) x1]) (wrap64 (x6+1))) else(none))) else(none)) else(some x5)) else(some x5)
def regletlaw16_tokens.f (k:Nat) (l0:List Int) (a1:Int):Option (List Int):=regletlaw16_tokens.l0 k l0 a1 ([]:List Int) 0
set_option maxHeartbeats 8000000 in
set_option maxRecDepth 100000 in
theorem regletlaw16_tokens.calls (k:Nat) (A0:Option Addr) (c0:Nat) (l0:List Int) (a1:Int) (r:List Int) (w:World) (hr0:Kd.C (Kd.int .u8) w A0 l0.length l0) (hc0:l0.length≤c0) (h:regletlaw16_tokens.f k l0 a1=some r):
 Calls Try.prog 15 #[.slice A0 l0.length c0,.int .i64 a1] w fun e w'=>∃v0_:Value,e= .returned (v0_)∧Kd.R (Kd.int .i64) 3 w' w.heap.size (fun _=>True) v0_ r∧Below w.heap.size w w':=by
 have HR0:=aM hr0
 have HC0:=aM hc0
 clear hr0 hc0
 have HB:=aM (Below.refl w.heap.size w)
 have H:(regletlaw16_tokens.l0 k l0 a1 ([]:List Int) 0)=some r:=h
 clear h
 have H':=aM H
 clear H
 go_enter Try.func15,Try.ntmps15
 go_wp2
 go_loopg [5,6] k (fun kq v5 v6 w'=>∃(fM:List Int) (bV:Int),v6= .int .i64 bV∧Aside0 (regletlaw16_tokens.l0 kq l0 a1 fM bV=some r)∧Aside0 (kq≤k)∧Aside0 (Kd.R (Kd.int .i64) 3 w' w.heap.size (fun _=>True) v5 fM)∧Aside0 (Below w.heap.size w w'))
 case atStart=>exact⟨(([]:List Int)),(0),(by first|rfl|(simp;done)|(simp [*];done)),H',⟨Nat.le_refl _⟩,⟨by first|exact Kd.R_nil _ _ _ _ _|exact Kd.N_nil _ _ _ _ _|exact Kd.V_nil _ _ _ _ _|exact Kd.Q_nil _ _ _ _ _|exact Kd.S_nil _ _ _ _ _⟩,⟨gW HB.out⟩⟩
 case round=>
  clear H'
  (try clear c1);(try clear p2)
  obtain⟨fM,bV,rfl,HA,HK1,jB,HB⟩:=hrel
  cases gk with
  |zero=>exact absurd HA.out (by simp [regletlaw16_tokens.l0])
  |succ k1=>
   have H:=HA.out
   clear HA
   simp only [regletlaw16_tokens.l0] at H
   by_cases c3:bV<(l0.length:Int)
   ·rw [if_pos c3] at H
    have tE:decide (bV<(l0.length:Int))=true:=decide_eq_true c3
    clear c3
    by_cases c4:bV<10
    ·rw [if_pos c4] at H
     have Ag:decide (bV<10)=true:=decide_eq_true c4
     clear c4
     by_cases c5:0≤bV
     rotate_left
     ·rw [if_neg c5] at H
      exact absurd H (by simp)
     rw [if_pos c5] at H
     have Ah:decide (0≤bV)=true:=decide_eq_true c5
     clear c5
     by_cases c6:a1=0
     ·rw [if_pos c6] at H
      exact absurd H (by simp)
     rw [if_neg c6] at H
     have tK:(a1==0)=false:=beq_eq_false_iff_ne.mpr c6
     have Bo:(a1 !=0)=true:=bne_iff_ne.mpr c6
     by_cases c7:fM.length<17592186044416
     rotate_left
     ·rw [if_neg c7] at H
      exact absurd H (by simp)
     rw [if_pos c7] at H
     have Wn:=aM c7
     clear c7
     obtain⟨y442,Fb⟩:∃y_:List Int,y_=(fM++ [Int.tmod (wrap64 (rd l0 bV)) a1]):=⟨_,rfl⟩
     replace H:(regletlaw16_tokens.l0 k1 l0 a1 y442 (wrap64 (bV+1)))=some r:=by first|(rw [Fb];with_reducible exact H)|(have H2_:=(Option.bind_some _ _).symm.trans H;rw [Fb];with_reducible exact H2_)|(have H2_:=(Option.bind_some _ _).symm.trans H;with_reducible exact H2_)|with_reducible exact H|(rw [Fb];exact H)|exact H
     have Zb:=aM Fb
     clear Fb
     have H':=aM H
     clear H
     have p441:0≤(bV:Int):=of_decide_eq_true (by first|(with_reducible assumption)|assumption)
     have q441:bV<(l0.length:Int):=of_decide_eq_true (by first|(with_reducible assumption)|assumption)
     obtain⟨OH,e441,Cd⟩:=Kd.at_int HR0.out bV p441 q441
     cases e441
     replace Cd:=(HB.out.cell (World.block_lt_of_cell? w _ Cd)).trans Cd
     replace p441:=eq_true p441
     replace q441:=eq_true q441
     go_wp2_with (first|((with_reducible refine gate_builtin (b:= .append) (xs:=#[.tmp 17,.tmp 25]) rfl ?_);at_builtin;refine Kd.R_append (Kd.int .i64) (w0:=w) w.heap.size rfl (.tmp 17) (.tmp 25) 32 3 (.int .i64 0) 8 rfl Try.underlying32 info3 rfl (by decide) (by omega) u5 fM (Int.tmod (wrap64 (rd l0 bV)) a1) [.int .i64 (Int.tmod (wrap64 (rd l0 bV)) a1)] (fun _=>True) (fun _=>False) rfl rfl ?aP (fun _ hk=>hk.elim) ?aF ?aO ?aB ?aS ?aL ?_;(case aP=>exact rfl);(case aB=>exact(gW HB.out));(case aF=>exact(fun _ _=>trivial));(case aO=>exact(gR jB.out));(case aS=>exact(bH (gW HB.out)));(case aL=>have:=Wn.out;omega);intro v443 w8 ho hb hg hat;rw [←Zb.out] at ho;have bY:=aM (hb);have bZ:=aM (ho);clear HB;clear jB;have HB:=bY;have Zc:=bZ;clear bY bZ;clear ho hb hg hat))
     go_roundg k1
     case measure=>have:=HK1.out;omega
     case rel=>exact⟨(y442),(wrap64 (bV+1)),(by first|rfl|(simp;done)|(simp [*];done)),H',⟨by have:=HK1.out;omega⟩,⟨gR Zc.out⟩,⟨gW HB.out⟩⟩
    ·rw [if_neg c4] at H
     have Ag:decide (bV<10)=false:=decide_eq_false c4
     clear c4
     obtain rfl:=Option.some.inj H
     go_wp2
     go_ret
     exact⟨_,by first|rfl|(simp [errW_none,errW_some]<;>rfl)|(simp [*,errW_none,errW_some]<;>rfl),gR jB.out,gW HB.out⟩
   ·rw [if_neg c3] at H
    have tE:decide (bV<(l0.length:Int))=false:=decide_eq_false c3
    clear c3
    obtain rfl:=Option.some.inj H
    go_wp2
    go_ret
    exact⟨_,by first|rfl|(simp [errW_none,errW_some]<;>rfl)|(simp [*,errW_none,errW_some]<;>rfl),gR jB.out,gW HB.out⟩
attribute [local go_sem] max2_int min2_int max_two min_two max_three min_three max_four min_four   -- for this text's walks alone
set_option linter.unusedVariables false
set_option linter.unusedSimpArgs false
mutual
def regletref13_Right.l0:Nat→Int→List ByteArray→List (S72)→Int→Int→List (S35)→Option (Bool)
 |0,_,_,_,_,_,_=>none
 |k+1,x3,x209000,x209001,x209002,x209003,x209004=>if x3<(x209004.length:Int) then(if 0≤x3 then(if((rd_T35 x209004 x3).f0)<0 then(regletref13_Right.j1 k x3 true x209000 x209001 x209002 x209003 x209004 ((rd_T35 x209004 x3).f0) ((rd_T35 x209004 x3).f1)) else(regletref13_Right.j1 k x3 (decide (((rd_T35 x209004 x3).f0)≥(x209000.length:Int))) x209000 x209001 x209002 x209003 x209004 ((rd_T35 x209004 x3).f0) ((rd_T35 x209004 x3).f1))) else(none)) else(some true)
def regletref13_Right.j1:Nat→Int→Bool→List ByteArray→List (S72)→Int→Int→List (S35)→Int→List (S43)→Option (Bool)
 |0,_,_,_,_,_,_,_,_,_=>none
 |k+1,x3,x29,x209000,x209001,x209002,x209003,x209004,x211000,x211001=>if x29=true then(some false) else(regletref13_Right.l1 k x3 0 x209000 x209001 x209002 x209003 x209004 x211000 x211001)
def regletref13_Right.l1:Nat→Int→Int→List ByteArray→List (S72)→Int→Int→List (S35)→Int→List (S43)→Option (Bool)
 |0,_,_,_,_,_,_,_,_,_=>none
 |k+1,x3,x5,x209000,x209001,x209002,x209003,x209004,x211000,x211001=>if x5<(x211001.length:Int) then(if 0≤x5 then(if(rd_T43 x211001 x5).f0=true then(if((rd_T43 x211001 x5).f1)<0 then(some false) else(if((rd_T43 x211001 x5).f1)≥(x209001.length:Int) then(some false) else(regletref13_Right.l1 k x3 (wrap64 (x5+1)) x209000 x209001 x209002 x209003 x209004 x211000 x211001))) else(if((rd_T43 x211001 x5).f1)<0 then(some false) else(if((rd_T43 x211001 x5).f1)≥(x209000.length:Int) then(some false) else(regletref13_Right.l1 k x3 (wrap64 (x5+1)) x209000 x209001 x209002 x209003 x209004 x211000 x211001)))) else(none)) else(regletref13_Right.l0 k (wrap64 (x3+1)) x209000 x209001 x209002 x209003 x209004)
end
def regletref13_Right.f (k:Nat) (aU:List ByteArray) (aX:List (S72)) (bA:Int) (bB:Int) (aQ:List (S35)):Option (Bool):=regletref13_Right.l0 k 0 aU aX bA bB aQ
set_option maxHeartbeats 8000000 in
set_option maxRecDepth 100000 in
theorem regletref13_Right.calls (k:Nat) (bC:Option Addr) (bK:Nat) (aU:List ByteArray) (bM:Option Addr) (bO:Nat) (aX:List (S72)) (bA:Int) (bB:Int) (bQ:Option Addr) (bP:Nat) (aQ:List (S35)) (r:Bool) (w:World) (dM:Kd.C Kd.string w bC aU.length aU) (dT:aU.length≤bK) (dU:Kd.C k72 w bM aX.length aX) (dY:aX.length≤bO) (dR:Kd.C k35 w bQ aQ.length aQ) (eB:aQ.length≤bP) (h:regletref13_Right.f k aU aX bA bB aQ=some r):
 Calls Try.prog 30 #[.agg #[.slice bC aU.length bK,.slice bM aX.length bO,.int .i64 bA,.int .i64 bB,.slice bQ aQ.length bP]] w fun e w'=>e= .returned (.bool r)∧Below w.heap.size w w':=by
 have hu26:=Try.underlying26
 have hu35:=Try.underlying35
 have eS:=aM dM
 have eU:=aM dT
 clear dM dT
 have eX:=aM dU
 have eY:=aM dY
 clear dU dY
 have dW:=aM dR
 have eZ:=aM eB
 clear dR eB
 have HB:=aM (Below.refl w.heap.size w)
 have H:(regletref13_Right.l0 k 0 aU aX bA bB aQ)=some r:=h
 clear h
 have H':=aM H
 clear H
 go_enter Try.func30,Try.ntmps30
 go_wp2_with (first|((with_reducible refine bJ (N:=1) rfl ?_);(try(refine gate_guard (by rfl) ?_;dsimp only));refine box_event ?hg (N:=1) ?hd (cs:=#[.slice bC aU.length bK,.slice bM aX.length bO,.int .i64 bA,.int .i64 bB,.slice bQ aQ.length bP]) (t:=26) ?hr ?_;(case hd=>rfl);(case hg=>rfl);(case hr=>first|(go_simp;done)|(go_simp;rfl));intro eP hg w2 hbox hb;have bY:=aM (bG (gW HB.out) hb);have bZ:=aM (hbox);have cA:=aM ((by rw [hg];exact(bH (gW HB.out)):w.heap.size≤eP));have cC:=aM ((by rw [hg];exact(bH (gW HB.out)):w.heap.size≤eP));clear HB;have HB:=bY;have cL:=bZ;have GW208:=cA;have Uq:=cC;clear bY bZ cA cC;clear hb hbox hg))
 go_loopg [3] k (fun kq v3 w'=>∃(dB:Int),v3= .int .i64 dB∧Aside0 (regletref13_Right.l0 kq dB aU aX bA bB aQ=some r)∧Aside0 (kq≤k)∧Aside0 (w'.heap[eP]?=some (.cells #[(.slice bC aU.length bK),(.slice bM aX.length bO),.int .i64 bA,.int .i64 bB,(.slice bQ aQ.length bP)] 26 (0,0)))∧Aside0 (Below w.heap.size w w'))
 case atStart=>exact⟨(0),(by first|rfl|(simp;done)|(simp [*];done)),H',⟨Nat.le_refl _⟩,⟨gB cL.out⟩,⟨gW HB.out⟩⟩
 case round=>
  clear H'
  (try clear p2)
  obtain⟨dB,rfl,HA,HK1,cL,HB⟩:=hrel
  cases gk with
  |zero=>exact absurd HA.out (by simp [regletref13_Right.l0])
  |succ k1=>
   have H:=HA.out
   clear HA
   simp only [regletref13_Right.l0] at H
   by_cases c3:dB<(aQ.length:Int)
   ·rw [if_pos c3] at H
    have tE:decide (dB<(aQ.length:Int))=true:=decide_eq_true c3
    clear c3
    by_cases c4:0≤dB
    rotate_left
    ·rw [if_neg c4] at H
     exact absurd H (by simp)
    rw [if_pos c4] at H
    have Ag:decide (0≤dB)=true:=decide_eq_true c4
    clear c4
    have HC5:=aM H
    clear H
    have rD:wr.cell? ⟨eP,0,none⟩=some (.slice bC aU.length bK):=(aG cL.out 0).trans rfl
    have rE:wr.cell? ⟨eP,1,none⟩=some (.slice bM aX.length bO):=(aG cL.out 1).trans rfl
    have rF:wr.cell? ⟨eP,2,none⟩=some (.int .i64 bA):=(aG cL.out 2).trans rfl
    have rG:wr.cell? ⟨eP,3,none⟩=some (.int .i64 bB):=(aG cL.out 3).trans rfl
    have rH:wr.cell? ⟨eP,4,none⟩=some (.slice bQ aQ.length bP):=(aG cL.out 4).trans rfl
    have rI:=aH cL.out 0
    have rJ:=aH cL.out 1
    have rK:=aH cL.out 2
    have rL:=aH cL.out 3
    have rM:=aH cL.out 4
    have p209:0≤(dB:Int):=of_decide_eq_true (by first|(with_reducible assumption)|assumption)
    have q209:dB<(aQ.length:Int):=of_decide_eq_true (by first|(with_reducible assumption)|assumption)
    obtain⟨rN,pX,pY,e209,tP,tQ,Id,Ie⟩:=at_T35 dW.out dB p209 q209
    cases e209
    replace tP:=(HB.out.cell (World.block_lt_of_cell? w _ tP)).trans tP
    replace tQ:=(HB.out.cell (World.block_lt_of_cell? w _ tQ)).trans tQ
    have iY:=aM Ie
    have GF:=aM Id
    clear Ie Id
    replace p209:=eq_true p209
    replace q209:=eq_true q209
    go_upto_region 5 with(first|((with_reducible refine bJ (N:=4) rfl ?_);(try(refine gate_guard (by rfl) ?_;dsimp only));refine box_event ?hg (N:=4) ?hd (cs:=#[.int .i64 0,.slice none 0 0]) (t:=35) ?hr ?_;(case hd=>rfl);(case hg=>rfl);(case hr=>first|(go_simp;done)|(go_simp;rfl));intro jC hg w7 hbox hb;have bY:=aM (bF (gB cL.out) hb);have bZ:=aM (bG (gW HB.out) hb);have cA:=aM (hbox);have cC:=aM ((by rw [hg];exact(bH (gW HB.out)):w.heap.size≤jC));have cQ:=aM ((by rw [hg];exact(bH (gW HB.out)):w.heap.size≤jC));have dA:=aM ((by rw [hg];exact Nat.ne_of_lt (bN (g:=eP) (o:= .cells #[.slice bC aU.length bK,.slice bM aX.length bO,.int .i64 bA,.int .i64 bB,.slice (some rN) aQ.length bP] 26 (0,0)) (gB cL.out)):eP≠jC));have dH:=aM ((by rw [hg];exact Nat.ne_of_gt (bN (g:=eP) (o:= .cells #[.slice bC aU.length bK,.slice bM aX.length bO,.int .i64 bA,.int .i64 bB,.slice (some rN) aQ.length bP] 26 (0,0)) (gB cL.out)):jC≠eP));clear cL;clear HB;have cL:=bY;have HB:=bZ;have fI:=cA;have GW210:=cC;have Ur:=cQ;have gU:=dA;have jK:=dH;clear bY bZ cA cC cQ dA dH;clear hb hbox hg;have hnb8:=jK.out;have hnc8:=gU.out;have nB:w7.cell? ⟨jC,0,none⟩=some (.int .i64 0):=(aG fI.out 0).trans rfl;have nC:w7.cell? ⟨jC,1,none⟩=some (.slice none 0 0):=(aG fI.out 1).trans rfl;have nD:=aH fI.out 0;have nE:=aH fI.out 1))
    (try simp only [Act.put,List.setIfInBounds_toArray,List.set_cons_zero,List.set_cons_succ])
    go_cut [29] (fun v29 wc=>∃(kq:Nat) (If:Bool),v29= .bool If∧Aside0 (regletref13_Right.j1 kq dB If aU aX bA bB aQ ((rd_T35 aQ dB).f0) ((rd_T35 aQ dB).f1)=some r)∧Aside0 (kq≤k1)∧Aside0 (wc.heap[eP]?=some (.cells #[(.slice bC aU.length bK),(.slice bM aX.length bO),.int .i64 bA,.int .i64 bB,(.slice (some rN) aQ.length bP)] 26 (0,0)))∧Aside0 (wc.heap[jC]?=some (.cells #[.int .i64 ((rd_T35 aQ dB).f0),(.slice pX ((rd_T35 aQ dB).f1).length pY)] 35 (0,0)))∧Aside0 (Below w.heap.size w wc))
    case first=>
     have H:=HC5.out
     clear HC5
     by_cases c10:((rd_T35 aQ dB).f0)<0
     ·rw [if_pos c10] at H
      have nN:decide (((rd_T35 aQ dB).f0)<0)=true:=decide_eq_true c10
      clear c10
      (first|rw [nN]|(simp only [i64_w,i32_w];rw [nN])|skip)
      have H':=aM H
      clear H
      have hnb11:=jK.out
      have hnc11:=gU.out
      have kU:w7.cell? ⟨jC,0,none⟩=some (.int .i64 0):=(aG fI.out 0).trans rfl
      have kV:w7.cell? ⟨jC,1,none⟩=some (.slice none 0 0):=(aG fI.out 1).trans rfl
      have kW:=aH fI.out 0
      have kX:=aH fI.out 1
      go_wp2
      go_meet
      case rel=>exact⟨_,(true),(by first|rfl|(simp;done)|(simp [*];done)),H',⟨by have:=HK1.out;first|omega|exact Nat.le_refl _⟩,⟨by(with_reducible repeat(first|refine aJ ?_ _|refine aK ?_|refine aI ?_ _));refine blk_far ?_ gU.out _;(with_reducible repeat(first|refine aJ ?_ _|refine aK ?_|refine aI ?_ _));refine blk_far ?_ gU.out _;(with_reducible repeat(first|refine aJ ?_ _|refine aK ?_|refine aI ?_ _));exact cL.out⟩,⟨by(with_reducible repeat(first|refine aJ ?_ _|refine aK ?_|refine aI ?_ _));refine blk_put (cs:=#[.int .i64 ((rd_T35 aQ dB).f0),.slice none 0 0]) ?_ 1 _ rfl;(with_reducible repeat(first|refine aJ ?_ _|refine aK ?_|refine aI ?_ _));refine blk_put (cs:=#[.int .i64 0,.slice none 0 0]) ?_ 0 _ rfl;(with_reducible repeat(first|refine aJ ?_ _|refine aK ?_|refine aI ?_ _));exact fI.out⟩,⟨by repeat(first|(with_reducible first|exact HB.out|apply aN|apply aP|apply aO|refine aL ?_ Uq.out|refine aL ?_ Ur.out)|exact HB.out)⟩⟩
     ·rw [if_neg c10] at H
      have nN:decide (((rd_T35 aQ dB).f0)<0)=false:=decide_eq_false c10
      clear c10
      (first|rw [nN]|(simp only [i64_w,i32_w];rw [nN])|skip)
      have H':=aM H
      clear H
      have hnb13:=jK.out
      have hnc13:=gU.out
      have nO:w7.cell? ⟨jC,0,none⟩=some (.int .i64 0):=(aG fI.out 0).trans rfl
      have nP:w7.cell? ⟨jC,1,none⟩=some (.slice none 0 0):=(aG fI.out 1).trans rfl
      have nQ:=aH fI.out 0
      have nR:=aH fI.out 1
      have Ig:w7.cell? ⟨eP,0,none⟩=some (.slice bC aU.length bK):=(aG cL.out 0).trans rfl
      have Ih:w7.cell? ⟨eP,1,none⟩=some (.slice bM aX.length bO):=(aG cL.out 1).trans rfl
      have Ii:w7.cell? ⟨eP,2,none⟩=some (.int .i64 bA):=(aG cL.out 2).trans rfl
      have Ij:w7.cell? ⟨eP,3,none⟩=some (.int .i64 bB):=(aG cL.out 3).trans rfl
      have Ik:w7.cell? ⟨eP,4,none⟩=some (.slice (some rN) aQ.length bP):=(aG cL.out 4).trans rfl
      have Il:=aH cL.out 0
      have Im:=aH cL.out 1
      have In:=aH cL.out 2
      have Io:=aH cL.out 3
      have Ip:=aH cL.out 4
      go_wp2
      go_meet
      case rel=>exact⟨_,(decide (((rd_T35 aQ dB).f0)≥(aU.length:Int))),(by first|rfl|(simp;done)|(simp [*];done)),H',⟨by have:=HK1.out;first|omega|exact Nat.le_refl _⟩,⟨by(with_reducible repeat(first|refine aJ ?_ _|refine aK ?_|refine aI ?_ _));refine blk_far ?_ gU.out _;(with_reducible repeat(first|refine aJ ?_ _|refine aK ?_|refine aI ?_ _));refine blk_far ?_ gU.out _;(with_reducible repeat(first|refine aJ ?_ _|refine aK ?_|refine aI ?_ _));exact cL.out⟩,⟨by(with_reducible repeat(first|refine aJ ?_ _|refine aK ?_|refine aI ?_ _));refine blk_put (cs:=#[.int .i64 ((rd_T35 aQ dB).f0),.slice none 0 0]) ?_ 1 _ rfl;(with_reducible repeat(first|refine aJ ?_ _|refine aK ?_|refine aI ?_ _));refine blk_put (cs:=#[.int .i64 0,.slice none 0 0]) ?_ 0 _ rfl;(with_reducible repeat(first|refine aJ ?_ _|refine aK ?_|refine aI ?_ _));exact fI.out⟩,⟨by repeat(first|(with_reducible first|exact HB.out|apply aN|apply aP|apply aO|refine aL ?_ Uq.out|refine aL ?_ Ur.out)|exact HB.out)⟩⟩
    case rest=>
     clear HC5
     (try clear c1);(try clear c2);(try clear p2);(try clear q2);(try clear hx2);(try clear c3);(try clear tE);(try clear c4);(try clear Ag);(try clear c8);(try clear c10);(try clear nN);(try clear c11);(try clear c13);(try clear kU);(try clear kV);(try clear nO);(try clear nP);(try clear Ig);(try clear Ih);(try clear Ii);(try clear Ij);(try clear Ik)
     (try clear rD);(try clear rE);(try clear rF);(try clear rG);(try clear rH);(try clear nB);(try clear nC);(try clear kW);(try clear kX);(try clear nQ);(try clear nR);(try clear Il);(try clear Im);(try clear In);(try clear Io);(try clear Ip);(try clear rI);(try clear rJ);(try clear rK);(try clear rL);(try clear rM)
     (try clear nD);(try clear nE);(try clear tP);(try clear tQ);(try clear p2);(try clear p209);(try clear q209)
     obtain⟨kq,If,rfl,HA,HJ4,cL,fI,HB⟩:=hcut
     cases kq with
     |zero=>exact absurd HA.out (by simp [regletref13_Right.j1])
     |succ Pa=>
      have H:=HA.out
      clear HA
      simp only [regletref13_Right.j1] at H
      by_cases c16:If=true
      ·subst c16
       have H1:(some false)=some r:=by rw [if_pos rfl] at H;exact H
       clear H
       have H:=H1
       clear H1
       obtain rfl:=Option.some.inj H
       go_wp2
       go_ret
       exact⟨by first|rfl|(simp [errW_none,errW_some]<;>rfl)|(simp [*,errW_none,errW_some]<;>rfl),gW HB.out⟩
      ·replace c16:=Bool.eq_false_iff.mpr c16
       subst c16
       have H1:(regletref13_Right.l1 Pa dB 0 aU aX bA bB aQ ((rd_T35 aQ dB).f0) ((rd_T35 aQ dB).f1))=some r:=by rw [if_neg (show ¬(false=true) by decide)] at H;exact H
       clear H
       have H:=H1
       clear H1
       have H':=aM H
       clear H
       go_wp2
       go_loopg [5] Pa (fun kq v5 w'=>∃(eM:Int),v5= .int .i64 eM∧Aside0 (regletref13_Right.l1 kq dB eM aU aX bA bB aQ ((rd_T35 aQ dB).f0) ((rd_T35 aQ dB).f1)=some r)∧Aside0 (kq≤Pa)∧Aside0 (w'.heap[eP]?=some (.cells #[(.slice bC aU.length bK),(.slice bM aX.length bO),.int .i64 bA,.int .i64 bB,(.slice (some rN) aQ.length bP)] 26 (0,0)))∧Aside0 (w'.heap[jC]?=some (.cells #[.int .i64 ((rd_T35 aQ dB).f0),(.slice pX ((rd_T35 aQ dB).f1).length pY)] 35 (0,0)))∧Aside0 (Below w.heap.size w w'))
       case atStart=>exact⟨(0),(by first|rfl|(simp;done)|(simp [*];done)),H',⟨Nat.le_refl _⟩,⟨gB cL.out⟩,⟨gB fI.out⟩,⟨gW HB.out⟩⟩
       case round=>
        clear H'
        (try clear c1);(try clear c2);(try clear p2);(try clear q2);(try clear hx2);(try clear c3);(try clear tE);(try clear c4);(try clear Ag);(try clear c8);(try clear c10);(try clear nN);(try clear c11);(try clear c13);(try clear c16);(try clear kU);(try clear kV);(try clear nO);(try clear nP);(try clear Ig);(try clear Ih);(try clear Ii);(try clear Ij);(try clear Ik)
        (try clear rD);(try clear rE);(try clear rF);(try clear rG);(try clear rH);(try clear nB);(try clear nC);(try clear kW);(try clear kX);(try clear nQ);(try clear nR);(try clear Il);(try clear Im);(try clear In);(try clear Io);(try clear Ip);(try clear rI);(try clear rJ);(try clear rK);(try clear rL);(try clear rM)
        (try clear nD);(try clear nE);(try clear tP);(try clear tQ);(try clear p2);(try clear p209);(try clear q2);(try clear q209)
        obtain⟨eM,rfl,HA,HK3,cL,fI,HB⟩:=hrel
        cases gk with
        |zero=>exact absurd HA.out (by simp [regletref13_Right.l1])
        |succ k3=>
         have H:=HA.out
         clear HA
         simp only [regletref13_Right.l1] at H
         by_cases c17:eM<(((rd_T35 aQ dB).f1).length:Int)
         ·rw [if_pos c17] at H
          have mD:decide (eM<(((rd_T35 aQ dB).f1).length:Int))=true:=decide_eq_true c17
          clear c17
          by_cases c18:0≤eM
          rotate_left
          ·rw [if_neg c18] at H
           exact absurd H (by simp)
          rw [if_pos c18] at H
          have Iq:decide (0≤eM)=true:=decide_eq_true c18
          clear c18
          obtain⟨bq19,hbq19⟩:∃b_:Bool,b_=((rd_T43 ((rd_T35 aQ dB).f1) eM).f0):=⟨_,rfl⟩
          replace H:(if bq19=true then(if((rd_T43 ((rd_T35 aQ dB).f1) eM).f1)<0 then(some false) else(if((rd_T43 ((rd_T35 aQ dB).f1) eM).f1)≥(aX.length:Int) then(some false) else(regletref13_Right.l1 k3 dB (wrap64 (eM+1)) aU aX bA bB aQ ((rd_T35 aQ dB).f0) ((rd_T35 aQ dB).f1)))) else(if((rd_T43 ((rd_T35 aQ dB).f1) eM).f1)<0 then(some false) else(if((rd_T43 ((rd_T35 aQ dB).f1) eM).f1)≥(aU.length:Int) then(some false) else(regletref13_Right.l1 k3 dB (wrap64 (eM+1)) aU aX bA bB aQ ((rd_T35 aQ dB).f0) ((rd_T35 aQ dB).f1)))))=some r:=by rw [←hbq19] at H;exact H
          have Nbq19:=aM hbq19
          clear hbq19
          by_cases c20:bq19=true
          ·subst c20
           have H1:(if((rd_T43 ((rd_T35 aQ dB).f1) eM).f1)<0 then(some false) else(if((rd_T43 ((rd_T35 aQ dB).f1) eM).f1)≥(aX.length:Int) then(some false) else(regletref13_Right.l1 k3 dB (wrap64 (eM+1)) aU aX bA bB aQ ((rd_T35 aQ dB).f0) ((rd_T35 aQ dB).f1))))=some r:=by rw [if_pos rfl] at H;exact H
           clear H
           have H:=H1
           clear H1
           by_cases c21:((rd_T43 ((rd_T35 aQ dB).f1) eM).f1)<0
           ·rw [if_pos c21] at H
            have Fc:decide (((rd_T43 ((rd_T35 aQ dB).f1) eM).f1)<0)=true:=decide_eq_true c21
            clear c21
            obtain rfl:=Option.some.inj H
            have hnb22:=jK.out
            have hnc22:=gU.out
            have Oo:wr.cell? ⟨jC,0,none⟩=some (.int .i64 ((rd_T35 aQ dB).f0)):=(aG fI.out 0).trans rfl
            have Oq:wr.cell? ⟨jC,1,none⟩=some (.slice pX ((rd_T35 aQ dB).f1).length pY):=(aG fI.out 1).trans rfl
            have Ot:=aH fI.out 0
            have Ou:=aH fI.out 1
            have tR:wr.cell? ⟨eP,0,none⟩=some (.slice bC aU.length bK):=(aG cL.out 0).trans rfl
            have tS:wr.cell? ⟨eP,1,none⟩=some (.slice bM aX.length bO):=(aG cL.out 1).trans rfl
            have yU:wr.cell? ⟨eP,2,none⟩=some (.int .i64 bA):=(aG cL.out 2).trans rfl
            have yV:wr.cell? ⟨eP,3,none⟩=some (.int .i64 bB):=(aG cL.out 3).trans rfl
            have yW:wr.cell? ⟨eP,4,none⟩=some (.slice (some rN) aQ.length bP):=(aG cL.out 4).trans rfl
            have tT:=aH cL.out 0
            have tU:=aH cL.out 1
            have yX:=aH cL.out 2
            have yY:=aH cL.out 3
            have yZ:=aH cL.out 4
            have p211:0≤(eM:Int):=of_decide_eq_true (by first|(with_reducible assumption)|assumption)
            have q211:eM<(((rd_T35 aQ dB).f1).length:Int):=of_decide_eq_true (by first|(with_reducible assumption)|assumption)
            obtain⟨nF,e211,fA,gH⟩:=at_T43 iY.out eM p211 q211
            (try rw [←Nbq19.out] at fA)
            cases e211
            replace fA:=(HB.out.cell (World.block_lt_of_cell? w _ fA)).trans fA
            replace gH:=(HB.out.cell (World.block_lt_of_cell? w _ gH)).trans gH
            replace p211:=eq_true p211
            replace q211:=eq_true q211
            have p212:0≤(eM:Int):=of_decide_eq_true (by first|(with_reducible assumption)|assumption)
            have q212:eM<(((rd_T35 aQ dB).f1).length:Int):=of_decide_eq_true (by first|(with_reducible assumption)|assumption)
            obtain⟨Fd,e212,jR,lE⟩:=at_T43 iY.out eM p212 q212
            (try rw [←Nbq19.out] at jR)
            obtain rfl:nF=Fd:=(by injection e212)
            replace jR:=(HB.out.cell (World.block_lt_of_cell? w _ jR)).trans jR
            replace lE:=(HB.out.cell (World.block_lt_of_cell? w _ lE)).trans lE
            replace p212:=eq_true p212
            replace q212:=eq_true q212
            go_wp2
            go_ret
            exact⟨by first|rfl|(simp [errW_none,errW_some]<;>rfl)|(simp [*,errW_none,errW_some]<;>rfl),gW HB.out⟩
           ·rw [if_neg c21] at H
            have Fc:decide (((rd_T43 ((rd_T35 aQ dB).f1) eM).f1)<0)=false:=decide_eq_false c21
            clear c21
            by_cases c25:((rd_T43 ((rd_T35 aQ dB).f1) eM).f1)≥(aX.length:Int)
            ·rw [if_pos c25] at H
             have Lu:decide ((aX.length:Int)≤((rd_T43 ((rd_T35 aQ dB).f1) eM).f1))=true:=decide_eq_true c25
             clear c25
             obtain rfl:=Option.some.inj H
             have hnb26:=jK.out
             have hnc26:=gU.out
             have sI:wr.cell? ⟨jC,0,none⟩=some (.int .i64 ((rd_T35 aQ dB).f0)):=(aG fI.out 0).trans rfl
             have sJ:wr.cell? ⟨jC,1,none⟩=some (.slice pX ((rd_T35 aQ dB).f1).length pY):=(aG fI.out 1).trans rfl
             have sK:=aH fI.out 0
             have sL:=aH fI.out 1
             have pZ:wr.cell? ⟨eP,0,none⟩=some (.slice bC aU.length bK):=(aG cL.out 0).trans rfl
             have qA:wr.cell? ⟨eP,1,none⟩=some (.slice bM aX.length bO):=(aG cL.out 1).trans rfl
             have Ce:wr.cell? ⟨eP,2,none⟩=some (.int .i64 bA):=(aG cL.out 2).trans rfl
             have Cf:wr.cell? ⟨eP,3,none⟩=some (.int .i64 bB):=(aG cL.out 3).trans rfl
             have Cg:wr.cell? ⟨eP,4,none⟩=some (.slice (some rN) aQ.length bP):=(aG cL.out 4).trans rfl
             have qB:=aH cL.out 0
             have qC:=aH cL.out 1
             have Ch:=aH cL.out 2
             have Ci:=aH cL.out 3
             have Cj:=aH cL.out 4
             have p211:0≤(eM:Int):=of_decide_eq_true (by first|(with_reducible assumption)|assumption)
             have q211:eM<(((rd_T35 aQ dB).f1).length:Int):=of_decide_eq_true (by first|(with_reducible assumption)|assumption)
             obtain⟨nF,e211,fA,gH⟩:=at_T43 iY.out eM p211 q211
             (try rw [←Nbq19.out] at fA)
             cases e211
             replace fA:=(HB.out.cell (World.block_lt_of_cell? w _ fA)).trans fA
             replace gH:=(HB.out.cell (World.block_lt_of_cell? w _ gH)).trans gH
             replace p211:=eq_true p211
             replace q211:=eq_true q211
             have p212:0≤(eM:Int):=of_decide_eq_true (by first|(with_reducible assumption)|assumption)
             have q212:eM<(((rd_T35 aQ dB).f1).length:Int):=of_decide_eq_true (by first|(with_reducible assumption)|assumption)
             obtain⟨Fd,e212,jR,lE⟩:=at_T43 iY.out eM p212 q212
             (try rw [←Nbq19.out] at jR)
             obtain rfl:nF=Fd:=(by injection e212)
             replace jR:=(HB.out.cell (World.block_lt_of_cell? w _ jR)).trans jR
             replace lE:=(HB.out.cell (World.block_lt_of_cell? w _ lE)).trans lE
             replace p212:=eq_true p212
             replace q212:=eq_true q212
             have p213:0≤(eM:Int):=of_decide_eq_true (by first|(with_reducible assumption)|assumption)
             have q213:eM<(((rd_T35 aQ dB).f1).length:Int):=of_decide_eq_true (by first|(with_reducible assumption)|assumption)
             obtain⟨Lv,e213,mJ,qD⟩:=at_T43 iY.out eM p213 q213
             (try rw [←Nbq19.out] at mJ)
             obtain rfl:nF=Lv:=(by injection e213)
             replace mJ:=(HB.out.cell (World.block_lt_of_cell? w _ mJ)).trans mJ
             replace qD:=(HB.out.cell (World.block_lt_of_cell? w _ qD)).trans qD
             replace p213:=eq_true p213
             replace q213:=eq_true q213
             go_wp2
             go_ret
             exact⟨by first|rfl|(simp [errW_none,errW_some]<;>rfl)|(simp [*,errW_none,errW_some]<;>rfl),gW HB.out⟩
            ·rw [if_neg c25] at H
             have Lu:decide ((aX.length:Int)≤((rd_T43 ((rd_T35 aQ dB).f1) eM).f1))=false:=decide_eq_false c25
             clear c25
             have H':=aM H
             clear H
             have hnb29:=jK.out
             have hnc29:=gU.out
             have zA:wr.cell? ⟨jC,0,none⟩=some (.int .i64 ((rd_T35 aQ dB).f0)):=(aG fI.out 0).trans rfl
             have zB:wr.cell? ⟨jC,1,none⟩=some (.slice pX ((rd_T35 aQ dB).f1).length pY):=(aG fI.out 1).trans rfl
             have zC:=aH fI.out 0
             have zD:=aH fI.out 1
             have Pb:wr.cell? ⟨eP,0,none⟩=some (.slice bC aU.length bK):=(aG cL.out 0).trans rfl
             have Pc:wr.cell? ⟨eP,1,none⟩=some (.slice bM aX.length bO):=(aG cL.out 1).trans rfl
             have GG:wr.cell? ⟨eP,2,none⟩=some (.int .i64 bA):=(aG cL.out 2).trans rfl
             have GH:wr.cell? ⟨eP,3,none⟩=some (.int .i64 bB):=(aG cL.out 3).trans rfl
             have GI:wr.cell? ⟨eP,4,none⟩=some (.slice (some rN) aQ.length bP):=(aG cL.out 4).trans rfl
             have Pd:=aH cL.out 0
             have Pe:=aH cL.out 1
             have GJ:=aH cL.out 2
             have GK:=aH cL.out 3
             have GL:=aH cL.out 4
             have p211:0≤(eM:Int):=of_decide_eq_true (by first|(with_reducible assumption)|assumption)
             have q211:eM<(((rd_T35 aQ dB).f1).length:Int):=of_decide_eq_true (by first|(with_reducible assumption)|assumption)
             obtain⟨nF,e211,fA,gH⟩:=at_T43 iY.out eM p211 q211
             (try rw [←Nbq19.out] at fA)
             cases e211
             replace fA:=(HB.out.cell (World.block_lt_of_cell? w _ fA)).trans fA
             replace gH:=(HB.out.cell (World.block_lt_of_cell? w _ gH)).trans gH
             replace p211:=eq_true p211
             replace q211:=eq_true q211
             have p212:0≤(eM:Int):=of_decide_eq_true (by first|(with_reducible assumption)|assumption)
             have q212:eM<(((rd_T35 aQ dB).f1).length:Int):=of_decide_eq_true (by first|(with_reducible assumption)|assumption)
             obtain⟨Fd,e212,jR,lE⟩:=at_T43 iY.out eM p212 q212
             (try rw [←Nbq19.out] at jR)
             obtain rfl:nF=Fd:=(by injection e212)
             replace jR:=(HB.out.cell (World.block_lt_of_cell? w _ jR)).trans jR
             replace lE:=(HB.out.cell (World.block_lt_of_cell? w _ lE)).trans lE
             replace p212:=eq_true p212
             replace q212:=eq_true q212
             have p213:0≤(eM:Int):=of_decide_eq_true (by first|(with_reducible assumption)|assumption)
             have q213:eM<(((rd_T35 aQ dB).f1).length:Int):=of_decide_eq_true (by first|(with_reducible assumption)|assumption)
             obtain⟨Lv,e213,mJ,qD⟩:=at_T43 iY.out eM p213 q213
             (try rw [←Nbq19.out] at mJ)
             obtain rfl:nF=Lv:=(by injection e213)
             replace mJ:=(HB.out.cell (World.block_lt_of_cell? w _ mJ)).trans mJ
             replace qD:=(HB.out.cell (World.block_lt_of_cell? w _ qD)).trans qD
             replace p213:=eq_true p213
             replace q213:=eq_true q213
             go_wp2
             go_roundg k3
             case measure=>have:=HK1.out;have:=HJ4.out;have:=HK3.out;omega
             case rel=>exact⟨(wrap64 (eM+1)),(by first|rfl|(simp;done)|(simp [*];done)),H',⟨by have:=HK1.out;have:=HJ4.out;have:=HK3.out;omega⟩,⟨gB cL.out⟩,⟨gB fI.out⟩,⟨gW HB.out⟩⟩
          ·replace c20:=Bool.eq_false_iff.mpr c20
           subst c20
           have H1:(if((rd_T43 ((rd_T35 aQ dB).f1) eM).f1)<0 then(some false) else(if((rd_T43 ((rd_T35 aQ dB).f1) eM).f1)≥(aU.length:Int) then(some false) else(regletref13_Right.l1 k3 dB (wrap64 (eM+1)) aU aX bA bB aQ ((rd_T35 aQ dB).f0) ((rd_T35 aQ dB).f1))))=some r:=by rw [if_neg (show ¬(false=true) by decide)] at H;exact H
           clear H
           have H:=H1
           clear H1
           by_cases c32:((rd_T43 ((rd_T35 aQ dB).f1) eM).f1)<0
           ·rw [if_pos c32] at H
            have Us:decide (((rd_T43 ((rd_T35 aQ dB).f1) eM).f1)<0)=true:=decide_eq_true c32
            clear c32
            obtain rfl:=Option.some.inj H
            have hnb33:=jK.out
            have hnc33:=gU.out
            have qE:wr.cell? ⟨jC,0,none⟩=some (.int .i64 ((rd_T35 aQ dB).f0)):=(aG fI.out 0).trans rfl
            have qF:wr.cell? ⟨jC,1,none⟩=some (.slice pX ((rd_T35 aQ dB).f1).length pY):=(aG fI.out 1).trans rfl
            have qG:=aH fI.out 0
            have qH:=aH fI.out 1
            have sM:wr.cell? ⟨eP,0,none⟩=some (.slice bC aU.length bK):=(aG cL.out 0).trans rfl
            have sN:wr.cell? ⟨eP,1,none⟩=some (.slice bM aX.length bO):=(aG cL.out 1).trans rfl
            have tV:wr.cell? ⟨eP,2,none⟩=some (.int .i64 bA):=(aG cL.out 2).trans rfl
            have tW:wr.cell? ⟨eP,3,none⟩=some (.int .i64 bB):=(aG cL.out 3).trans rfl
            have tX:wr.cell? ⟨eP,4,none⟩=some (.slice (some rN) aQ.length bP):=(aG cL.out 4).trans rfl
            have sO:=aH cL.out 0
            have sP:=aH cL.out 1
            have tY:=aH cL.out 2
            have tZ:=aH cL.out 3
            have uA:=aH cL.out 4
            have p211:0≤(eM:Int):=of_decide_eq_true (by first|(with_reducible assumption)|assumption)
            have q211:eM<(((rd_T35 aQ dB).f1).length:Int):=of_decide_eq_true (by first|(with_reducible assumption)|assumption)
            obtain⟨nF,e211,fA,gH⟩:=at_T43 iY.out eM p211 q211
            (try rw [←Nbq19.out] at fA)
            cases e211
            replace fA:=(HB.out.cell (World.block_lt_of_cell? w _ fA)).trans fA
            replace gH:=(HB.out.cell (World.block_lt_of_cell? w _ gH)).trans gH
            replace p211:=eq_true p211
            replace q211:=eq_true q211
            have p214:0≤(eM:Int):=of_decide_eq_true (by first|(with_reducible assumption)|assumption)
            have q214:eM<(((rd_T35 aQ dB).f1).length:Int):=of_decide_eq_true (by first|(with_reducible assumption)|assumption)
            obtain⟨Fe,e214,jS,lF⟩:=at_T43 iY.out eM p214 q214
            (try rw [←Nbq19.out] at jS)
            obtain rfl:nF=Fe:=(by injection e214)
            replace jS:=(HB.out.cell (World.block_lt_of_cell? w _ jS)).trans jS
            replace lF:=(HB.out.cell (World.block_lt_of_cell? w _ lF)).trans lF
            replace p214:=eq_true p214
            replace q214:=eq_true q214
            go_wp2
            go_ret
            exact⟨by first|rfl|(simp [errW_none,errW_some]<;>rfl)|(simp [*,errW_none,errW_some]<;>rfl),gW HB.out⟩
           ·rw [if_neg c32] at H
            have Us:decide (((rd_T43 ((rd_T35 aQ dB).f1) eM).f1)<0)=false:=decide_eq_false c32
            clear c32
            by_cases c36:((rd_T43 ((rd_T35 aQ dB).f1) eM).f1)≥(aU.length:Int)
            ·rw [if_pos c36] at H
             have Zd:decide ((aU.length:Int)≤((rd_T43 ((rd_T35 aQ dB).f1) eM).f1))=true:=decide_eq_true c36
             clear c36
             obtain rfl:=Option.some.inj H
             have hnb37:=jK.out
             have hnc37:=gU.out
             have Pf:wr.cell? ⟨jC,0,none⟩=some (.int .i64 ((rd_T35 aQ dB).f0)):=(aG fI.out 0).trans rfl
             have Pg:wr.cell? ⟨jC,1,none⟩=some (.slice pX ((rd_T35 aQ dB).f1).length pY):=(aG fI.out 1).trans rfl
             have Ph:=aH fI.out 0
             have Pi:=aH fI.out 1
             have zE:wr.cell? ⟨eP,0,none⟩=some (.slice bC aU.length bK):=(aG cL.out 0).trans rfl
             have zF:wr.cell? ⟨eP,1,none⟩=some (.slice bM aX.length bO):=(aG cL.out 1).trans rfl
             have Ck:wr.cell? ⟨eP,2,none⟩=some (.int .i64 bA):=(aG cL.out 2).trans rfl
             have Cl:wr.cell? ⟨eP,3,none⟩=some (.int .i64 bB):=(aG cL.out 3).trans rfl
             have Cm:wr.cell? ⟨eP,4,none⟩=some (.slice (some rN) aQ.length bP):=(aG cL.out 4).trans rfl
             have zG:=aH cL.out 0
             have zH:=aH cL.out 1
             have Cn:=aH cL.out 2
             have Co:=aH cL.out 3
             have Cp:=aH cL.out 4
             have p211:0≤(eM:Int):=of_decide_eq_true (by first|(with_reducible assumption)|assumption)
             have q211:eM<(((rd_T35 aQ dB).f1).length:Int):=of_decide_eq_true (by first|(with_reducible assumption)|assumption)
             obtain⟨nF,e211,fA,gH⟩:=at_T43 iY.out eM p211 q211
             (try rw [←Nbq19.out] at fA)
             cases e211
             replace fA:=(HB.out.cell (World.block_lt_of_cell? w _ fA)).trans fA
             replace gH:=(HB.out.cell (World.block_lt_of_cell? w _ gH)).trans gH
             replace p211:=eq_true p211
             replace q211:=eq_true q211
             have p214:0≤(eM:Int):=of_decide_eq_true (by first|(with_reducible assumption)|assumption)
             have q214:eM<(((rd_T35 aQ dB).f1).length:Int):=of_decide_eq_true (by first|(with_reducible assumption)|assumption)
             obtain⟨Fe,e214,jS,lF⟩:=at_T43 iY.out eM p214 q214
             (try rw [←Nbq19.out] at jS)
             obtain rfl:nF=Fe:=(by injection e214)
             replace jS:=(HB.out.cell (World.block_lt_of_cell? w _ jS)).trans jS
             replace lF:=(HB.out.cell (World.block_lt_of_cell? w _ lF)).trans lF
             replace p214:=eq_true p214
             replace q214:=eq_true q214
             have p215:0≤(eM:Int):=of_decide_eq_true (by first|(with_reducible assumption)|assumption)
             have q215:eM<(((rd_T35 aQ dB).f1).length:Int):=of_decide_eq_true (by first|(with_reducible assumption)|assumption)
             obtain⟨Lw,e215,mK,qI⟩:=at_T43 iY.out eM p215 q215
             (try rw [←Nbq19.out] at mK)
             obtain rfl:nF=Lw:=(by injection e215)
             replace mK:=(HB.out.cell (World.block_lt_of_cell? w _ mK)).trans mK
             replace qI:=(HB.out.cell (World.block_lt_of_cell? w _ qI)).trans qI
             replace p215:=eq_true p215
             replace q215:=eq_true q215
             go_wp2
             go_ret
             exact⟨by first|rfl|(simp [errW_none,errW_some]<;>rfl)|(simp [*,errW_none,errW_some]<;>rfl),gW HB.out⟩
            ·rw [if_neg c36] at H
             have Zd:decide ((aU.length:Int)≤((rd_T43 ((rd_T35 aQ dB).f1) eM).f1))=false:=decide_eq_false c36
             clear c36
             have H':=aM H
             clear H
             have hnb40:=jK.out
             have hnc40:=gU.out
             have zI:wr.cell? ⟨jC,0,none⟩=some (.int .i64 ((rd_T35 aQ dB).f0)):=(aG fI.out 0).trans rfl
             have zJ:wr.cell? ⟨jC,1,none⟩=some (.slice pX ((rd_T35 aQ dB).f1).length pY):=(aG fI.out 1).trans rfl
             have zK:=aH fI.out 0
             have zL:=aH fI.out 1
             have Ir:wr.cell? ⟨eP,0,none⟩=some (.slice bC aU.length bK):=(aG cL.out 0).trans rfl
             have Is:wr.cell? ⟨eP,1,none⟩=some (.slice bM aX.length bO):=(aG cL.out 1).trans rfl
             have Pj:wr.cell? ⟨eP,2,none⟩=some (.int .i64 bA):=(aG cL.out 2).trans rfl
             have Pk:wr.cell? ⟨eP,3,none⟩=some (.int .i64 bB):=(aG cL.out 3).trans rfl
             have Pl:wr.cell? ⟨eP,4,none⟩=some (.slice (some rN) aQ.length bP):=(aG cL.out 4).trans rfl
             have It:=aH cL.out 0
             have Iu:=aH cL.out 1
             have Pm:=aH cL.out 2
             have Pn:=aH cL.out 3
             have Po:=aH cL.out 4
             have p211:0≤(eM:Int):=of_decide_eq_true (by first|(with_reducible assumption)|assumption)
             have q211:eM<(((rd_T35 aQ dB).f1).length:Int):=of_decide_eq_true (by first|(with_reducible assumption)|assumption)
             obtain⟨nF,e211,fA,gH⟩:=at_T43 iY.out eM p211 q211
             (try rw [←Nbq19.out] at fA)
             cases e211
             replace fA:=(HB.out.cell (World.block_lt_of_cell? w _ fA)).trans fA
             replace gH:=(HB.out.cell (World.block_lt_of_cell? w _ gH)).trans gH
             replace p211:=eq_true p211
             replace q211:=eq_true q211
             have p214:0≤(eM:Int):=of_decide_eq_true (by first|(with_reducible assumption)|assumption)
             have q214:eM<(((rd_T35 aQ dB).f1).length:Int):=of_decide_eq_true (by first|(with_reducible assumption)|assumption)
             obtain⟨Fe,e214,jS,lF⟩:=at_T43 iY.out eM p214 q214
             (try rw [←Nbq19.out] at jS)
             obtain rfl:nF=Fe:=(by injection e214)
             replace jS:=(HB.out.cell (World.block_lt_of_cell? w _ jS)).trans jS
             replace lF:=(HB.out.cell (World.block_lt_of_cell? w _ lF)).trans lF
             replace p214:=eq_true p214
             replace q214:=eq_true q214
             have p215:0≤(eM:Int):=of_decide_eq_true (by first|(with_reducible assumption)|assumption)
             have q215:eM<(((rd_T35 aQ dB).f1).length:Int):=of_decide_eq_true (by first|(with_reducible assumption)|assumption)
             obtain⟨Lw,e215,mK,qI⟩:=at_T43 iY.out eM p215 q215
             (try rw [←Nbq19.out] at mK)
             obtain rfl:nF=Lw:=(by injection e215)
             replace mK:=(HB.out.cell (World.block_lt_of_cell? w _ mK)).trans mK
             replace qI:=(HB.out.cell (World.block_lt_of_cell? w _ qI)).trans qI
             replace p215:=eq_true p215
             replace q215:=eq_true q215
             go_wp2
             go_roundg k3
             case measure=>have:=HK1.out;have:=HJ4.out;have:=HK3.out;omega
             case rel=>exact⟨(wrap64 (eM+1)),(by first|rfl|(simp;done)|(simp [*];done)),H',⟨by have:=HK1.out;have:=HJ4.out;have:=HK3.out;omega⟩,⟨gB cL.out⟩,⟨gB fI.out⟩,⟨gW HB.out⟩⟩
         ·rw [if_neg c17] at H
          have mD:decide (eM<(((rd_T35 aQ dB).f1).length:Int))=false:=decide_eq_false c17
          clear c17
          have H':=aM H
          clear H
          have hnb43:=jK.out
          have hnc43:=gU.out
          have Iv:wr.cell? ⟨jC,0,none⟩=some (.int .i64 ((rd_T35 aQ dB).f0)):=(aG fI.out 0).trans rfl
          have Iw:wr.cell? ⟨jC,1,none⟩=some (.slice pX ((rd_T35 aQ dB).f1).length pY):=(aG fI.out 1).trans rfl
          have Ix:=aH fI.out 0
          have Iy:=aH fI.out 1
          go_wp2
          go_roundg k3
          case measure=>have:=HK1.out;have:=HJ4.out;have:=HK3.out;omega
          case rel=>exact⟨(wrap64 (dB+1)),(by first|rfl|(simp;done)|(simp [*];done)),H',⟨by have:=HK1.out;have:=HJ4.out;have:=HK3.out;omega⟩,⟨gB cL.out⟩,⟨gW HB.out⟩⟩
   ·rw [if_neg c3] at H
    have tE:decide (dB<(aQ.length:Int))=false:=decide_eq_false c3
    clear c3
    obtain rfl:=Option.some.inj H
    have Pp:wr.cell? ⟨eP,0,none⟩=some (.slice bC aU.length bK):=(aG cL.out 0).trans rfl
    have Pq:wr.cell? ⟨eP,1,none⟩=some (.slice bM aX.length bO):=(aG cL.out 1).trans rfl
    have Pr:wr.cell? ⟨eP,2,none⟩=some (.int .i64 bA):=(aG cL.out 2).trans rfl
    have Ps:wr.cell? ⟨eP,3,none⟩=some (.int .i64 bB):=(aG cL.out 3).trans rfl
    have Pt:wr.cell? ⟨eP,4,none⟩=some (.slice bQ aQ.length bP):=(aG cL.out 4).trans rfl
    have Pu:=aH cL.out 0
    have Pv:=aH cL.out 1
    have Pw:=aH cL.out 2
    have Px:=aH cL.out 3
    have Py:=aH cL.out 4
    go_wp2
    go_ret
    exact⟨by first|rfl|(simp [errW_none,errW_some]<;>rfl)|(simp [*,errW_none,errW_some]<;>rfl),gW HB.out⟩
end Go.Proofs.Ytapjfnfengefpaa.P
end

section
namespace Go.Proofs.Ytapjfnfengefpaa.R
open Go.RowKit Go.Proofs.YtapjfnfengefpaaW.PrintWords Go.Proofs.YtapjfnfengefpaaW.PrintLast Go.Proofs.YtapjfnfengefpaaW.PrintMore
variable {α:Type}{d:Kd α}{t e:Nat}{w:World}{base n cap:Nat}{ok:Nat→Prop}{A:Option Addr}{v:Value}{m:List (List α)}
theorem S_row (hE:d.E= []) (h:Kd.S (Kd.slice t d) e w base ok (.slice A n cap) m) (i:Int) (h0:0≤i) (h1:i<m.length):
 ∃(g:Nat) (v:Value) (P:Nat→Prop),A=some ⟨g,0,none⟩∧w.cell? ⟨g,i.toNat,none⟩=some v∧d.R t w base P v (m.getD i.toNat [])∧(∀k,P k→ok k∧k≠g)∧
  ∀(w1:World) (P':Nat→Prop) (row':List α),Kept w w1 P→d.R t w1 base P' v row'→Kd.S (Kd.slice t d) e w1 base ok (.slice A n cap) (m.set i.toNat row'):=by
 obtain⟨g,cap',hv,_⟩:=Kd.S_form h (by omega)
 injection hv with hA hn hc
 subst hA
 subst hn
 subst hc
 obtain⟨oki,c,hcl,hM,hcell,hoki,hH⟩:=Kd.S_lend h ([]:List α) i h0 h1
 obtain⟨v,rfl,hR⟩:=hM
 refine⟨g,v,oki,rfl,?_,hR,hoki,fun w1 P' row' hk hR'=>?_⟩
 ·have:=hcell 0 v rfl
  rwa [show(Kd.slice t d).sz=1 from rfl,Nat.mul_one,Nat.add_zero] at this
 ·have hH':=Kd.H_step hH (fun k _ hn hlt=>hk.2 k hlt hn)
  exact Kd.H_back hH' (Kd.M_row (Kd.R_tight hE hR')) (fun k hk'=>hR.1 k hk'.symm)
end Go.Proofs.Ytapjfnfengefpaa.R
end

section
namespace Go.Proofs.Ytapjfnfengefpaa.P
open Go.RowKit Go.Proofs.YtapjfnfengefpaaW.PrintWords Go.Proofs.YtapjfnfengefpaaW.PrintLast Go.Proofs.YtapjfnfengefpaaW.PrintMore
attribute [local go_sem] max2_int min2_int max_two min_two max_three min_three max_four min_four   -- for this text's walks alone
set_option linter.unusedVariables false
set_option linter.unusedSimpArgs false
def regletref13_join.l0:Nat→List Bool→List Bool→Bool→Int→Option (Bool×List Bool)
 |0,_,_,_,_=>none
 |k+1,x0,x1,x5,x6=>if x6<(x0.length:Int) then(if x5=true then(if 0≤x6 then(if rdOf false x0 x6=true then(regletref13_join.l0 k (x0.set (x6:Int).toNat true) x1 true (wrap64 (x6+1))) else(if x6<(x1.length:Int) then(regletref13_join.l0 k (x0.set (x6:Int).toNat (rdOf false x1 x6)) x1 true (wrap64 (x6+1))) else(none))) else(none)) else(if 0≤x6 then(if x6<(x1.length:Int) then(if rdOf false x1 x6=true then(if rdOf false x0 x6=true then(regletref13_join.l0 k (x0.set (x6:Int).toNat true) x1 (!(rdOf false x0 x6)) (wrap64 (x6+1))) else(regletref13_join.l0 k (x0.set (x6:Int).toNat (rdOf false x1 x6)) x1 (!(rdOf false x0 x6)) (wrap64 (x6+1)))) else(if rdOf false x0 x6=true then(regletref13_join.l0 k (x0.set (x6:Int).toNat true) x1 false (wrap64 (x6+1))) else(regletref13_join.l0 k (x0.set (x6:Int).toNat (rdOf false x1 x6)) x1 false (wrap64 (x6+1))))) else(none)) else(none))) else(some (x5,x0))
def regletref13_join.f (k:Nat) (l0:List Bool) (l1:List Bool):Option (Bool×List Bool):=regletref13_join.l0 k l0 l1 false 0
set_option maxHeartbeats 8000000 in
set_option maxRecDepth 100000 in
theorem regletref13_join.calls (k:Nat) (P0_:Nat→Prop) (u9000_:Value) (l0:List Bool) (A1:Option Addr) (c1:Nat) (l1:List Bool) (r1:Bool) (r2:List Bool) (w0 w:World) (hB:Below w0.heap.size w0 w) (ho0:Kd.R Kd.bool 4 w w0.heap.size P0_ u9000_ l0) (hr1:∀W_,Kept w W_ (fun k_=>P0_ k_)→Kd.C Kd.bool W_ A1 l1.length l1) (hc1:l1.length≤c1) (h:regletref13_join.f k l0 l1=some (r1,r2)):
 Calls Try.prog 47 #[u9000_,.slice A1 l1.length c1] w fun e w'=>e= .returned (.bool r1)∧Kd.R Kd.bool 4 w' w0.heap.size (fun k_=>(P0_ k_∨w.heap.size≤k_)) u9000_ r2∧Below w0.heap.size w0 w'∧Kept w w' (fun k_=>P0_ k_):=by
 have Ze:=aM (show Kd.R Kd.bool 4 w w0.heap.size (fun k_=>(P0_ k_∨w.heap.size≤k_)) u9000_ l0 from Kd.R_mono ho0 (fun k_ hk=>(.inl hk)))
 have HR1:=aM hr1
 have HC1:=aM hc1
 clear hr1 hc1
 have HK:=aM (Kept.refl w (fun k_=>P0_ k_))
 have HW0:=aM hB.size
 have HB:=aM hB
 clear hB
 have H:(regletref13_join.l0 k l0 l1 false 0)=some (r1,r2):=h
 clear h
 have H':=aM H
 clear H
 go_enter Try.func47,Try.ntmps47
 go_wp2
 go_loopg [5,6] k (fun kq v5 v6 w'=>∃(fB:List Bool) (fM:Bool) (bV:Int),v5= .bool fM∧v6= .int .i64 bV∧Aside0 (regletref13_join.l0 kq fB l1 fM bV=some (r1,r2))∧Aside0 (kq≤k)∧Aside0 (Kd.R Kd.bool 4 w' w0.heap.size (fun k_=>(P0_ k_∨w.heap.size≤k_)) u9000_ fB)∧Aside0 (Kept w w' (fun k_=>P0_ k_))∧Aside0 (Below w0.heap.size w0 w'))
 case atStart=>exact⟨(l0),(false),(0),(by first|rfl|(simp;done)|(simp [*];done)),(by first|rfl|(simp;done)|(simp [*];done)),H',⟨Nat.le_refl _⟩,⟨gR Ze.out⟩,⟨by repeat(first|(with_reducible first|exact HK.out|apply Kept.alloc|apply Kept.drewN|apply Kept.drew)|exact HK.out)⟩,⟨gW HB.out⟩⟩
 case round=>
  clear H'
  (try clear c1);(try clear p2)
  obtain⟨fB,fM,bV,rfl,rfl,HA,HK1,fR,HK,HB⟩:=hrel
  cases gk with
  |zero=>exact absurd HA.out (by simp [regletref13_join.l0])
  |succ k1=>
   have H:=HA.out
   clear HA
   simp only [regletref13_join.l0] at H
   by_cases c3:bV<(fB.length:Int)
   ·rw [if_pos c3] at H
    have tE:decide (bV<(fB.length:Int))=true:=decide_eq_true c3
    clear c3
    by_cases c4:fM=true
    ·subst c4
     have H1:(if 0≤bV then(if rdOf false fB bV=true then(regletref13_join.l0 k1 (fB.set (bV:Int).toNat true) l1 true (wrap64 (bV+1))) else(if bV<(l1.length:Int) then(regletref13_join.l0 k1 (fB.set (bV:Int).toNat (rdOf false l1 bV)) l1 true (wrap64 (bV+1))) else(none))) else(none))=some (r1,r2):=by rw [if_pos rfl] at H;exact H
     clear H
     have H:=H1
     clear H1
     by_cases c5:0≤bV
     rotate_left
     ·rw [if_neg c5] at H
      exact absurd H (by simp)
     rw [if_pos c5] at H
     have Ah:decide (0≤bV)=true:=decide_eq_true c5
     clear c5
     obtain⟨bq6,hbq6⟩:∃b_:Bool,b_=(rdOf false fB bV):=⟨_,rfl⟩
     replace H:(if bq6=true then(regletref13_join.l0 k1 (fB.set (bV:Int).toNat true) l1 true (wrap64 (bV+1))) else(if bV<(l1.length:Int) then(regletref13_join.l0 k1 (fB.set (bV:Int).toNat (rdOf false l1 bV)) l1 true (wrap64 (bV+1))) else(none)))=some (r1,r2):=by rw [←hbq6] at H;exact H
     have Nbq6:=aM hbq6
     clear hbq6
     by_cases c7:bq6=true
     ·subst c7
      have H1:(regletref13_join.l0 k1 (fB.set (bV:Int).toNat true) l1 true (wrap64 (bV+1)))=some (r1,r2):=by rw [if_pos rfl] at H;exact H
      clear H
      have H:=H1
      clear H1
      obtain⟨y358,Ff⟩:∃y_:List Bool,y_=(fB.set (bV:Int).toNat true):=⟨_,rfl⟩
      replace H:(regletref13_join.l0 k1 y358 l1 true (wrap64 (bV+1)))=some (r1,r2):=by first|(rw [Ff];with_reducible exact H)|(have H2_:=(Option.bind_some _ _).symm.trans H;rw [Ff];with_reducible exact H2_)|(have H2_:=(Option.bind_some _ _).symm.trans H;with_reducible exact H2_)|with_reducible exact H|(rw [Ff];exact H)|exact H
      have Zf:=aM Ff
      clear Ff
      have H':=aM H
      clear H
      obtain⟨RA,QA,QC⟩:=Kd.R_slice fR.out
      subst QC
      have p357:0≤(bV:Int):=of_decide_eq_true (by first|(with_reducible assumption)|assumption)
      have q357:bV<(fB.length:Int):=of_decide_eq_true (by first|(with_reducible assumption)|assumption)
      obtain⟨Zg,e357,uB⟩:=Kd.at_bool (aF fR.out).2.2 bV p357 q357
      (try rw [←Nbq6.out] at uB)
      cases e357
      replace p357:=eq_true p357
      replace q357:=eq_true q357
      have p8:0≤(bV:Int):=of_decide_eq_true (by first|(with_reducible assumption)|assumption)
      have q8:(bV:Int)<((fB.length:Int):Int):=of_decide_eq_true (by first|(with_reducible assumption)|assumption)
      obtain⟨go8,Ws,Yh,OI,gl8,cl8,HG8⟩:=Kd.R_form fR.out (by omega)
      (first|cases Yh|(injection Yh with ea_ en_ ec_;(first|subst ea_|(injection ea_ with ea_;subst ea_));subst ec_;clear en_))
      have GB8:=aM OI
      have GG8:=aM HG8
      clear OI gl8 HG8
      have HMgo8:=aM (show(P0_ go8∨w.heap.size≤go8) from(fR.out.1 _ rfl))
      (first|simp only [add_plain] at uB|skip)
      obtain⟨OJ,hf8_0⟩:=Kd.R_celln false fR.out (bV:Int) p8 q8
      replace p8:=eq_true p8
      replace q8:=eq_true q8
      have HP10:=Kd.R_putg fR.out (bV:Int) true
      go_wp2_with (first|((with_reducible refine gate_store (t:=4) (p:=39) rfl ?_);refine store_event (t:=4) (p:=39) (v:=?vo_w11) (w1:=(wr.setCell ⟨go8,(bV:Int).toNat,none⟩ (.bool true))) ?hg ?ho ?hn ?hr ?_;(case ho=>rfl);(case hg=>rfl);(case hn=>rfl);(case hr=>first|(go_simp;done)|(go_simp;rfl));intro w11 hw;have hg:wr.grownBy w11 (some go8):=(by rw [hw];exact HP10.2);have hp_:Kd.R Kd.bool 4 w11 w0.heap.size (fun k_=>(P0_ k_∨w.heap.size≤k_)) (.slice (some ⟨go8,0,none⟩) fB.length QA) y358:=(by rw [hw,Zf.out];exact HP10.1);clear HP10;have bY:=aM (hp_);have bZ:=aM ((by rw [hw];exact aL (HB.out) GB8.out:Below w0.heap.size w0 w11));have cA:=aM (Kept.of_grown (S:=(fun k_=>P0_ k_)) hg (by repeat(first|(with_reducible first|exact HK.out|apply Kept.alloc|apply Kept.drewN|apply Kept.drew)|exact HK.out)) (fun k_ e_=>(fR.out.1 k_ e_)));clear fR;clear HB;clear HK;have fR:=bY;have HB:=bZ;have HK:=cA;clear bY bZ cA;clear hg hw hp_))
      go_roundg k1
      case measure=>have:=HK1.out;omega
      case rel=>exact⟨(y358),(true),(wrap64 (bV+1)),(by first|rfl|(simp;done)|(simp [*];done)),(by first|rfl|(simp;done)|(simp [*];done)),H',⟨by have:=HK1.out;omega⟩,⟨gR fR.out⟩,⟨by repeat(first|(with_reducible first|exact HK.out|apply Kept.alloc|apply Kept.drewN|apply Kept.drew)|exact HK.out)⟩,⟨gW HB.out⟩⟩
     ·replace c7:=Bool.eq_false_iff.mpr c7
      subst c7
      have H1:(if bV<(l1.length:Int) then(regletref13_join.l0 k1 (fB.set (bV:Int).toNat (rdOf false l1 bV)) l1 true (wrap64 (bV+1))) else(none))=some (r1,r2):=by rw [if_neg (show ¬(false=true) by decide)] at H;exact H
      clear H
      have H:=H1
      clear H1
      by_cases c12:bV<(l1.length:Int)
      rotate_left
      ·rw [if_neg c12] at H
       exact absurd H (by simp)
      rw [if_pos c12] at H
      have Br:decide (bV<(l1.length:Int))=true:=decide_eq_true c12
      clear c12
      obtain⟨y360,Fg⟩:∃y_:List Bool,y_=(fB.set (bV:Int).toNat (rdOf false l1 bV)):=⟨_,rfl⟩
      replace H:(regletref13_join.l0 k1 y360 l1 true (wrap64 (bV+1)))=some (r1,r2):=by first|(rw [Fg];with_reducible exact H)|(have H2_:=(Option.bind_some _ _).symm.trans H;rw [Fg];with_reducible exact H2_)|(have H2_:=(Option.bind_some _ _).symm.trans H;with_reducible exact H2_)|with_reducible exact H|(rw [Fg];exact H)|exact H
      have Zh:=aM Fg
      clear Fg
      have H':=aM H
      clear H
      obtain⟨oU,nK,Lx⟩:=Kd.R_slice fR.out
      subst Lx
      have p357:0≤(bV:Int):=of_decide_eq_true (by first|(with_reducible assumption)|assumption)
      have q357:bV<(fB.length:Int):=of_decide_eq_true (by first|(with_reducible assumption)|assumption)
      obtain⟨Zg,e357,uB⟩:=Kd.at_bool (aF fR.out).2.2 bV p357 q357
      (try rw [←Nbq6.out] at uB)
      cases e357
      replace p357:=eq_true p357
      replace q357:=eq_true q357
      have p359:0≤(bV:Int):=of_decide_eq_true (by first|(with_reducible assumption)|assumption)
      have q359:bV<(l1.length:Int):=of_decide_eq_true (by first|(with_reducible assumption)|assumption)
      obtain⟨OK,e359,Pz⟩:=Kd.at_bool (Kd.C_kept_now HR1.out HK.out) bV p359 q359
      (try rw [←Nbq6.out] at Pz)
      cases e359
      replace p359:=eq_true p359
      replace q359:=eq_true q359
      have p13:0≤(bV:Int):=of_decide_eq_true (by first|(with_reducible assumption)|assumption)
      have q13:(bV:Int)<((fB.length:Int):Int):=of_decide_eq_true (by first|(with_reducible assumption)|assumption)
      obtain⟨go13,nL,Qa,Zi,gl13,cl13,HG13⟩:=Kd.R_form fR.out (by omega)
      (first|cases Qa|(injection Qa with ea_ en_ ec_;(first|subst ea_|(injection ea_ with ea_;subst ea_));subst ec_;clear en_))
      have GB13:=aM Zi
      have GG13:=aM HG13
      clear Zi gl13 HG13
      have HMgo13:=aM (show(P0_ go13∨w.heap.size≤go13) from(fR.out.1 _ rfl))
      (first|simp only [add_plain] at uB|skip)
      obtain⟨LF,hf13_0⟩:=Kd.R_celln false fR.out (bV:Int) p13 q13
      replace p13:=eq_true p13
      replace q13:=eq_true q13
      have HP15:=Kd.R_putg fR.out (bV:Int) (rdOf false l1 bV)
      go_wp2_with (first|((with_reducible refine gate_store (t:=4) (p:=39) rfl ?_);refine store_event (t:=4) (p:=39) (v:=?vo_w16) (w1:=(wr.setCell ⟨go13,(bV:Int).toNat,none⟩ (.bool (rdOf false l1 bV)))) ?hg ?ho ?hn ?hr ?_;(case ho=>rfl);(case hg=>rfl);(case hn=>rfl);(case hr=>first|(go_simp;done)|(go_simp;rfl));intro w16 hw;have hg:wr.grownBy w16 (some go13):=(by rw [hw];exact HP15.2);have hp_:Kd.R Kd.bool 4 w16 w0.heap.size (fun k_=>(P0_ k_∨w.heap.size≤k_)) (.slice (some ⟨go13,0,none⟩) fB.length nK) y360:=(by rw [hw,Zh.out];exact HP15.1);clear HP15;have bY:=aM (hp_);have bZ:=aM ((by rw [hw];exact aL (HB.out) GB13.out:Below w0.heap.size w0 w16));have cA:=aM (Kept.of_grown (S:=(fun k_=>P0_ k_)) hg (by repeat(first|(with_reducible first|exact HK.out|apply Kept.alloc|apply Kept.drewN|apply Kept.drew)|exact HK.out)) (fun k_ e_=>(fR.out.1 k_ e_)));clear fR;clear HB;clear HK;have fR:=bY;have HB:=bZ;have HK:=cA;clear bY bZ cA;clear hg hw hp_))
      go_roundg k1
      case measure=>have:=HK1.out;omega
      case rel=>exact⟨(y360),(true),(wrap64 (bV+1)),(by first|rfl|(simp;done)|(simp [*];done)),(by first|rfl|(simp;done)|(simp [*];done)),H',⟨by have:=HK1.out;omega⟩,⟨gR fR.out⟩,⟨by repeat(first|(with_reducible first|exact HK.out|apply Kept.alloc|apply Kept.drewN|apply Kept.drew)|exact HK.out)⟩,⟨gW HB.out⟩⟩
    ·replace c4:=Bool.eq_false_iff.mpr c4
     subst c4
     have H1:(if 0≤bV then(if bV<(l1.length:Int) then(if rdOf false l1 bV=true then(if rdOf false fB bV=true then(regletref13_join.l0 k1 (fB.set (bV:Int).toNat true) l1 (!(rdOf false fB bV)) (wrap64 (bV+1))) else(regletref13_join.l0 k1 (fB.set (bV:Int).toNat (rdOf false l1 bV)) l1 (!(rdOf false fB bV)) (wrap64 (bV+1)))) else(if rdOf false fB bV=true then(regletref13_join.l0 k1 (fB.set (bV:Int).toNat true) l1 false (wrap64 (bV+1))) else(regletref13_join.l0 k1 (fB.set (bV:Int).toNat (rdOf false l1 bV)) l1 false (wrap64 (bV+1))))) else(none)) else(none))=some (r1,r2):=by rw [if_neg (show ¬(false=true) by decide)] at H;exact H
     clear H
     have H:=H1
     clear H1
     by_cases c17:0≤bV
     rotate_left
     ·rw [if_neg c17] at H
      exact absurd H (by simp)
     rw [if_pos c17] at H
     have mD:decide (0≤bV)=true:=decide_eq_true c17
     clear c17
     by_cases c18:bV<(l1.length:Int)
     rotate_left
     ·rw [if_neg c18] at H
      exact absurd H (by simp)
     rw [if_pos c18] at H
     have Iq:decide (bV<(l1.length:Int))=true:=decide_eq_true c18
     clear c18
     obtain⟨bq19,hbq19⟩:∃b_:Bool,b_=(rdOf false l1 bV):=⟨_,rfl⟩
     replace H:(if bq19=true then(if rdOf false fB bV=true then(regletref13_join.l0 k1 (fB.set (bV:Int).toNat true) l1 (!(rdOf false fB bV)) (wrap64 (bV+1))) else(regletref13_join.l0 k1 (fB.set (bV:Int).toNat (bq19)) l1 (!(rdOf false fB bV)) (wrap64 (bV+1)))) else(if rdOf false fB bV=true then(regletref13_join.l0 k1 (fB.set (bV:Int).toNat true) l1 false (wrap64 (bV+1))) else(regletref13_join.l0 k1 (fB.set (bV:Int).toNat (bq19)) l1 false (wrap64 (bV+1)))))=some (r1,r2):=by rw [←hbq19] at H;exact H
     have Nbq19:=aM hbq19
     clear hbq19
     by_cases c20:bq19=true
     ·subst c20
      have H1:(if rdOf false fB bV=true then(regletref13_join.l0 k1 (fB.set (bV:Int).toNat true) l1 (!(rdOf false fB bV)) (wrap64 (bV+1))) else(regletref13_join.l0 k1 (fB.set (bV:Int).toNat (true)) l1 (!(rdOf false fB bV)) (wrap64 (bV+1))))=some (r1,r2):=by rw [if_pos rfl] at H;exact H
      clear H
      have H:=H1
      clear H1
      obtain⟨bq21,hbq21⟩:∃b_:Bool,b_=(rdOf false fB bV):=⟨_,rfl⟩
      replace H:(if bq21=true then(regletref13_join.l0 k1 (fB.set (bV:Int).toNat true) l1 (!(bq21)) (wrap64 (bV+1))) else(regletref13_join.l0 k1 (fB.set (bV:Int).toNat (true)) l1 (!(bq21)) (wrap64 (bV+1))))=some (r1,r2):=by rw [←hbq21] at H;exact H
      have Nbq21:=aM hbq21
      clear hbq21
      by_cases c22:bq21=true
      ·subst c22
       have H1:(regletref13_join.l0 k1 (fB.set (bV:Int).toNat true) l1 (!(true)) (wrap64 (bV+1)))=some (r1,r2):=by rw [if_pos rfl] at H;exact H
       clear H
       have H:=H1
       clear H1
       obtain⟨y364,Fh⟩:∃y_:List Bool,y_=(fB.set (bV:Int).toNat true):=⟨_,rfl⟩
       replace H:(regletref13_join.l0 k1 y364 l1 (!(true)) (wrap64 (bV+1)))=some (r1,r2):=by first|(rw [Fh];with_reducible exact H)|(have H2_:=(Option.bind_some _ _).symm.trans H;rw [Fh];with_reducible exact H2_)|(have H2_:=(Option.bind_some _ _).symm.trans H;with_reducible exact H2_)|with_reducible exact H|(rw [Fh];exact H)|exact H
       have Zj:=aM Fh
       clear Fh
       have H':=aM H
       clear H
       obtain⟨QD,LG,LH⟩:=Kd.R_slice fR.out
       subst LH
       have p361:0≤(bV:Int):=of_decide_eq_true (by first|(with_reducible assumption)|assumption)
       have q361:bV<(l1.length:Int):=of_decide_eq_true (by first|(with_reducible assumption)|assumption)
       obtain⟨Fi,e361,lG⟩:=Kd.at_bool (Kd.C_kept_now HR1.out HK.out) bV p361 q361
       (try rw [←Nbq19.out] at lG)
       (try rw [←Nbq21.out] at lG)
       cases e361
       replace p361:=eq_true p361
       replace q361:=eq_true q361
       have p362:0≤(bV:Int):=of_decide_eq_true (by first|(with_reducible assumption)|assumption)
       have q362:bV<(fB.length:Int):=of_decide_eq_true (by first|(with_reducible assumption)|assumption)
       obtain⟨Ly,e362,qJ⟩:=Kd.at_bool (aF fR.out).2.2 bV p362 q362
       (try rw [←Nbq19.out] at qJ)
       (try rw [←Nbq21.out] at qJ)
       cases e362
       replace p362:=eq_true p362
       replace q362:=eq_true q362
       have p363:0≤(bV:Int):=of_decide_eq_true (by first|(with_reducible assumption)|assumption)
       have q363:bV<(fB.length:Int):=of_decide_eq_true (by first|(with_reducible assumption)|assumption)
       obtain⟨Lz,e363,qK⟩:=Kd.at_bool (aF fR.out).2.2 bV p363 q363
       (try rw [←Nbq19.out] at qK)
       (try rw [←Nbq21.out] at qK)
       obtain rfl:Ly=Lz:=(by injection e363)
       replace p363:=eq_true p363
       replace q363:=eq_true q363
       have p23:0≤(bV:Int):=of_decide_eq_true (by first|(with_reducible assumption)|assumption)
       have q23:(bV:Int)<((fB.length:Int):Int):=of_decide_eq_true (by first|(with_reducible assumption)|assumption)
       obtain⟨go23,QE,Zk,Zl,gl23,cl23,HG23⟩:=Kd.R_form fR.out (by omega)
       (first|cases Zk|(injection Zk with ea_ en_ ec_;(first|subst ea_|(injection ea_ with ea_;subst ea_));subst ec_;clear en_))
       have GB23:=aM Zl
       have GG23:=aM HG23
       clear Zl gl23 HG23
       have HMgo23:=aM (show(P0_ go23∨w.heap.size≤go23) from(fR.out.1 _ rfl))
       (first|simp only [add_plain] at qJ|skip)
       (first|simp only [add_plain] at qK|skip)
       obtain⟨LI,hf23_0⟩:=Kd.R_celln false fR.out (bV:Int) p23 q23
       replace p23:=eq_true p23
       replace q23:=eq_true q23
       have HP25:=Kd.R_putg fR.out (bV:Int) true
       go_wp2_with (first|((with_reducible refine gate_store (t:=4) (p:=39) rfl ?_);refine store_event (t:=4) (p:=39) (v:=?vo_w26) (w1:=(wr.setCell ⟨go23,(bV:Int).toNat,none⟩ (.bool true))) ?hg ?ho ?hn ?hr ?_;(case ho=>rfl);(case hg=>rfl);(case hn=>rfl);(case hr=>first|(go_simp;done)|(go_simp;rfl));intro w26 hw;have hg:wr.grownBy w26 (some go23):=(by rw [hw];exact HP25.2);have hp_:Kd.R Kd.bool 4 w26 w0.heap.size (fun k_=>(P0_ k_∨w.heap.size≤k_)) (.slice (some ⟨go23,0,none⟩) fB.length LG) y364:=(by rw [hw,Zj.out];exact HP25.1);clear HP25;have bY:=aM (hp_);have bZ:=aM ((by rw [hw];exact aL (HB.out) GB23.out:Below w0.heap.size w0 w26));have cA:=aM (Kept.of_grown (S:=(fun k_=>P0_ k_)) hg (by repeat(first|(with_reducible first|exact HK.out|apply Kept.alloc|apply Kept.drewN|apply Kept.drew)|exact HK.out)) (fun k_ e_=>(fR.out.1 k_ e_)));clear fR;clear HB;clear HK;have fR:=bY;have HB:=bZ;have HK:=cA;clear bY bZ cA;clear hg hw hp_))
       go_roundg k1
       case measure=>have:=HK1.out;omega
       case rel=>exact⟨(y364),(!(true)),(wrap64 (bV+1)),(by first|rfl|(simp;done)|(simp [*];done)),(by first|rfl|(simp;done)|(simp [*];done)),H',⟨by have:=HK1.out;omega⟩,⟨gR fR.out⟩,⟨by repeat(first|(with_reducible first|exact HK.out|apply Kept.alloc|apply Kept.drewN|apply Kept.drew)|exact HK.out)⟩,⟨gW HB.out⟩⟩
      ·replace c22:=Bool.eq_false_iff.mpr c22
       subst c22
       have H1:(regletref13_join.l0 k1 (fB.set (bV:Int).toNat (true)) l1 (!(false)) (wrap64 (bV+1)))=some (r1,r2):=by rw [if_neg (show ¬(false=true) by decide)] at H;exact H
       clear H
       have H:=H1
       clear H1
       obtain⟨y366,Fj⟩:∃y_:List Bool,y_=(fB.set (bV:Int).toNat (true)):=⟨_,rfl⟩
       replace H:(regletref13_join.l0 k1 y366 l1 (!(false)) (wrap64 (bV+1)))=some (r1,r2):=by first|(rw [Fj];with_reducible exact H)|(have H2_:=(Option.bind_some _ _).symm.trans H;rw [Fj];with_reducible exact H2_)|(have H2_:=(Option.bind_some _ _).symm.trans H;with_reducible exact H2_)|with_reducible exact H|(rw [Fj];exact H)|exact H
       have Zm:=aM Fj
       clear Fj
       have H':=aM H
       clear H
       obtain⟨QF,LJ,LK⟩:=Kd.R_slice fR.out
       subst LK
       have p361:0≤(bV:Int):=of_decide_eq_true (by first|(with_reducible assumption)|assumption)
       have q361:bV<(l1.length:Int):=of_decide_eq_true (by first|(with_reducible assumption)|assumption)
       obtain⟨Fi,e361,lG⟩:=Kd.at_bool (Kd.C_kept_now HR1.out HK.out) bV p361 q361
       (try rw [←Nbq19.out] at lG)
       (try rw [←Nbq21.out] at lG)
       cases e361
       replace p361:=eq_true p361
       replace q361:=eq_true q361
       have p362:0≤(bV:Int):=of_decide_eq_true (by first|(with_reducible assumption)|assumption)
       have q362:bV<(fB.length:Int):=of_decide_eq_true (by first|(with_reducible assumption)|assumption)
       obtain⟨Ly,e362,qJ⟩:=Kd.at_bool (aF fR.out).2.2 bV p362 q362
       (try rw [←Nbq19.out] at qJ)
       (try rw [←Nbq21.out] at qJ)
       cases e362
       replace p362:=eq_true p362
       replace q362:=eq_true q362
       have p363:0≤(bV:Int):=of_decide_eq_true (by first|(with_reducible assumption)|assumption)
       have q363:bV<(fB.length:Int):=of_decide_eq_true (by first|(with_reducible assumption)|assumption)
       obtain⟨Lz,e363,qK⟩:=Kd.at_bool (aF fR.out).2.2 bV p363 q363
       (try rw [←Nbq19.out] at qK)
       (try rw [←Nbq21.out] at qK)
       obtain rfl:Ly=Lz:=(by injection e363)
       replace p363:=eq_true p363
       replace q363:=eq_true q363
       have p365:0≤(bV:Int):=of_decide_eq_true (by first|(with_reducible assumption)|assumption)
       have q365:bV<(l1.length:Int):=of_decide_eq_true (by first|(with_reducible assumption)|assumption)
       obtain⟨Zn,e365,Iz⟩:=Kd.at_bool (Kd.C_kept_now HR1.out HK.out) bV p365 q365
       (try rw [←Nbq19.out] at Iz)
       (try rw [←Nbq21.out] at Iz)
       obtain rfl:Fi=Zn:=(by injection e365)
       replace p365:=eq_true p365
       replace q365:=eq_true q365
       have p27:0≤(bV:Int):=of_decide_eq_true (by first|(with_reducible assumption)|assumption)
       have q27:(bV:Int)<((fB.length:Int):Int):=of_decide_eq_true (by first|(with_reducible assumption)|assumption)
       obtain⟨go27,Aj,Fk,Zo,gl27,cl27,HG27⟩:=Kd.R_form fR.out (by omega)
       (first|cases Fk|(injection Fk with ea_ en_ ec_;(first|subst ea_|(injection ea_ with ea_;subst ea_));subst ec_;clear en_))
       have GB27:=aM Zo
       have GG27:=aM HG27
       clear Zo gl27 HG27
       have HMgo27:=aM (show(P0_ go27∨w.heap.size≤go27) from(fR.out.1 _ rfl))
       (first|simp only [add_plain] at qJ|skip)
       (first|simp only [add_plain] at qK|skip)
       obtain⟨LL,hf27_0⟩:=Kd.R_celln false fR.out (bV:Int) p27 q27
       replace p27:=eq_true p27
       replace q27:=eq_true q27
       have HP29:=Kd.R_putg fR.out (bV:Int) true
       go_wp2_with (first|((with_reducible refine gate_store (t:=4) (p:=39) rfl ?_);refine store_event (t:=4) (p:=39) (v:=?vo_w30) (w1:=(wr.setCell ⟨go27,(bV:Int).toNat,none⟩ (.bool true))) ?hg ?ho ?hn ?hr ?_;(case ho=>rfl);(case hg=>rfl);(case hn=>rfl);(case hr=>first|(go_simp;done)|(go_simp;rfl));intro w30 hw;have hg:wr.grownBy w30 (some go27):=(by rw [hw];exact HP29.2);have hp_:Kd.R Kd.bool 4 w30 w0.heap.size (fun k_=>(P0_ k_∨w.heap.size≤k_)) (.slice (some ⟨go27,0,none⟩) fB.length LJ) y366:=(by rw [hw,Zm.out];exact HP29.1);clear HP29;have bY:=aM (hp_);have bZ:=aM ((by rw [hw];exact aL (HB.out) GB27.out:Below w0.heap.size w0 w30));have cA:=aM (Kept.of_grown (S:=(fun k_=>P0_ k_)) hg (by repeat(first|(with_reducible first|exact HK.out|apply Kept.alloc|apply Kept.drewN|apply Kept.drew)|exact HK.out)) (fun k_ e_=>(fR.out.1 k_ e_)));clear fR;clear HB;clear HK;have fR:=bY;have HB:=bZ;have HK:=cA;clear bY bZ cA;clear hg hw hp_))
       go_roundg k1
       case measure=>have:=HK1.out;omega
       case rel=>exact⟨(y366),(!(false)),(wrap64 (bV+1)),(by first|rfl|(simp;done)|(simp [*];done)),(by first|rfl|(simp;done)|(simp [*];done)),H',⟨by have:=HK1.out;omega⟩,⟨gR fR.out⟩,⟨by repeat(first|(with_reducible first|exact HK.out|apply Kept.alloc|apply Kept.drewN|apply Kept.drew)|exact HK.out)⟩,⟨gW HB.out⟩⟩
     ·replace c20:=Bool.eq_false_iff.mpr c20
      subst c20
      have H1:(if rdOf false fB bV=true then(regletref13_join.l0 k1 (fB.set (bV:Int).toNat true) l1 false (wrap64 (bV+1))) else(regletref13_join.l0 k1 (fB.set (bV:Int).toNat (false)) l1 false (wrap64 (bV+1))))=some (r1,r2):=by rw [if_neg (show ¬(false=true) by decide)] at H;exact H
      clear H
      have H:=H1
      clear H1
      obtain⟨bq31,hbq31⟩:∃b_:Bool,b_=(rdOf false fB bV):=⟨_,rfl⟩
      replace H:(if bq31=true then(regletref13_join.l0 k1 (fB.set (bV:Int).toNat true) l1 false (wrap64 (bV+1))) else(regletref13_join.l0 k1 (fB.set (bV:Int).toNat (false)) l1 false (wrap64 (bV+1))))=some (r1,r2):=by rw [←hbq31] at H;exact H
      have Nbq31:=aM hbq31
      clear hbq31
      by_cases c32:bq31=true
      ·subst c32
       have H1:(regletref13_join.l0 k1 (fB.set (bV:Int).toNat true) l1 false (wrap64 (bV+1)))=some (r1,r2):=by rw [if_pos rfl] at H;exact H
       clear H
       have H:=H1
       clear H1
       obtain⟨y368,Fl⟩:∃y_:List Bool,y_=(fB.set (bV:Int).toNat true):=⟨_,rfl⟩
       replace H:(regletref13_join.l0 k1 y368 l1 false (wrap64 (bV+1)))=some (r1,r2):=by first|(rw [Fl];with_reducible exact H)|(have H2_:=(Option.bind_some _ _).symm.trans H;rw [Fl];with_reducible exact H2_)|(have H2_:=(Option.bind_some _ _).symm.trans H;with_reducible exact H2_)|with_reducible exact H|(rw [Fl];exact H)|exact H
       have Zp:=aM Fl
       clear Fl
       have H':=aM H
       clear H
       obtain⟨QG,LM,LO⟩:=Kd.R_slice fR.out
       subst LO
       have p361:0≤(bV:Int):=of_decide_eq_true (by first|(with_reducible assumption)|assumption)
       have q361:bV<(l1.length:Int):=of_decide_eq_true (by first|(with_reducible assumption)|assumption)
       obtain⟨Fi,e361,lG⟩:=Kd.at_bool (Kd.C_kept_now HR1.out HK.out) bV p361 q361
       (try rw [←Nbq19.out] at lG)
       (try rw [←Nbq31.out] at lG)
       cases e361
       replace p361:=eq_true p361
       replace q361:=eq_true q361
       have p367:0≤(bV:Int):=of_decide_eq_true (by first|(with_reducible assumption)|assumption)
       have q367:bV<(fB.length:Int):=of_decide_eq_true (by first|(with_reducible assumption)|assumption)
       obtain⟨Zq,e367,qL⟩:=Kd.at_bool (aF fR.out).2.2 bV p367 q367
       (try rw [←Nbq19.out] at qL)
       (try rw [←Nbq31.out] at qL)
       cases e367
       replace p367:=eq_true p367
       replace q367:=eq_true q367
       have p33:0≤(bV:Int):=of_decide_eq_true (by first|(with_reducible assumption)|assumption)
       have q33:(bV:Int)<((fB.length:Int):Int):=of_decide_eq_true (by first|(with_reducible assumption)|assumption)
       obtain⟨go33,QH,Zr,Zs,gl33,cl33,HG33⟩:=Kd.R_form fR.out (by omega)
       (first|cases Zr|(injection Zr with ea_ en_ ec_;(first|subst ea_|(injection ea_ with ea_;subst ea_));subst ec_;clear en_))
       have GB33:=aM Zs
       have GG33:=aM HG33
       clear Zs gl33 HG33
       have HMgo33:=aM (show(P0_ go33∨w.heap.size≤go33) from(fR.out.1 _ rfl))
       (first|simp only [add_plain] at qL|skip)
       obtain⟨LP,hf33_0⟩:=Kd.R_celln false fR.out (bV:Int) p33 q33
       replace p33:=eq_true p33
       replace q33:=eq_true q33
       have HP35:=Kd.R_putg fR.out (bV:Int) true
       go_wp2_with (first|((with_reducible refine gate_store (t:=4) (p:=39) rfl ?_);refine store_event (t:=4) (p:=39) (v:=?vo_w36) (w1:=(wr.setCell ⟨go33,(bV:Int).toNat,none⟩ (.bool true))) ?hg ?ho ?hn ?hr ?_;(case ho=>rfl);(case hg=>rfl);(case hn=>rfl);(case hr=>first|(go_simp;done)|(go_simp;rfl));intro w36 hw;have hg:wr.grownBy w36 (some go33):=(by rw [hw];exact HP35.2);have hp_:Kd.R Kd.bool 4 w36 w0.heap.size (fun k_=>(P0_ k_∨w.heap.size≤k_)) (.slice (some ⟨go33,0,none⟩) fB.length LM) y368:=(by rw [hw,Zp.out];exact HP35.1);clear HP35;have bY:=aM (hp_);have bZ:=aM ((by rw [hw];exact aL (HB.out) GB33.out:Below w0.heap.size w0 w36));have cA:=aM (Kept.of_grown (S:=(fun k_=>P0_ k_)) hg (by repeat(first|(with_reducible first|exact HK.out|apply Kept.alloc|apply Kept.drewN|apply Kept.drew)|exact HK.out)) (fun k_ e_=>(fR.out.1 k_ e_)));clear fR;clear HB;clear HK;have fR:=bY;have HB:=bZ;have HK:=cA;clear bY bZ cA;clear hg hw hp_))
       go_roundg k1
       case measure=>have:=HK1.out;omega
       case rel=>exact⟨(y368),(false),(wrap64 (bV+1)),(by first|rfl|(simp;done)|(simp [*];done)),(by first|rfl|(simp;done)|(simp [*];done)),H',⟨by have:=HK1.out;omega⟩,⟨gR fR.out⟩,⟨by repeat(first|(with_reducible first|exact HK.out|apply Kept.alloc|apply Kept.drewN|apply Kept.drew)|exact HK.out)⟩,⟨gW HB.out⟩⟩
      ·replace c32:=Bool.eq_false_iff.mpr c32
       subst c32
       have H1:(regletref13_join.l0 k1 (fB.set (bV:Int).toNat (false)) l1 false (wrap64 (bV+1)))=some (r1,r2):=by rw [if_neg (show ¬(false=true) by decide)] at H;exact H
       clear H
       have H:=H1
       clear H1
       obtain⟨y370,Fm⟩:∃y_:List Bool,y_=(fB.set (bV:Int).toNat (false)):=⟨_,rfl⟩
       replace H:(regletref13_join.l0 k1 y370 l1 false (wrap64 (bV+1)))=some (r1,r2):=by first|(rw [Fm];with_reducible exact H)|(have H2_:=(Option.bind_some _ _).symm.trans H;rw [Fm];with_reducible exact H2_)|(have H2_:=(Option.bind_some _ _).symm.trans H;with_reducible exact H2_)|with_reducible exact H|(rw [Fm];exact H)|exact H
       have Zt:=aM Fm
       clear Fm
       have H':=aM H
       clear H
       obtain⟨Zu,Wt,Qb⟩:=Kd.R_slice fR.out
       subst Qb
       have p361:0≤(bV:Int):=of_decide_eq_true (by first|(with_reducible assumption)|assumption)
       have q361:bV<(l1.length:Int):=of_decide_eq_true (by first|(with_reducible assumption)|assumption)
       obtain⟨Fi,e361,lG⟩:=Kd.at_bool (Kd.C_kept_now HR1.out HK.out) bV p361 q361
       (try rw [←Nbq19.out] at lG)
       (try rw [←Nbq31.out] at lG)
       cases e361
       replace p361:=eq_true p361
       replace q361:=eq_true q361
       have p367:0≤(bV:Int):=of_decide_eq_true (by first|(with_reducible assumption)|assumption)
       have q367:bV<(fB.length:Int):=of_decide_eq_true (by first|(with_reducible assumption)|assumption)
       obtain⟨Zq,e367,qL⟩:=Kd.at_bool (aF fR.out).2.2 bV p367 q367
       (try rw [←Nbq19.out] at qL)
       (try rw [←Nbq31.out] at qL)
       cases e367
       replace p367:=eq_true p367
       replace q367:=eq_true q367
       have p369:0≤(bV:Int):=of_decide_eq_true (by first|(with_reducible assumption)|assumption)
       have q369:bV<(l1.length:Int):=of_decide_eq_true (by first|(with_reducible assumption)|assumption)
       obtain⟨Zv,e369,Ja⟩:=Kd.at_bool (Kd.C_kept_now HR1.out HK.out) bV p369 q369
       (try rw [←Nbq19.out] at Ja)
       (try rw [←Nbq31.out] at Ja)
       obtain rfl:Fi=Zv:=(by injection e369)
       replace p369:=eq_true p369
       replace q369:=eq_true q369
       have p37:0≤(bV:Int):=of_decide_eq_true (by first|(with_reducible assumption)|assumption)
       have q37:(bV:Int)<((fB.length:Int):Int):=of_decide_eq_true (by first|(with_reducible assumption)|assumption)
       obtain⟨go37,Zw,Ma,Zx,gl37,cl37,HG37⟩:=Kd.R_form fR.out (by omega)
       (first|cases Ma|(injection Ma with ea_ en_ ec_;(first|subst ea_|(injection ea_ with ea_;subst ea_));subst ec_;clear en_))
       have GB37:=aM Zx
       have GG37:=aM HG37
       clear Zx gl37 HG37
       have HMgo37:=aM (show(P0_ go37∨w.heap.size≤go37) from(fR.out.1 _ rfl))
       (first|simp only [add_plain] at qL|skip)
       obtain⟨LQ,hf37_0⟩:=Kd.R_celln false fR.out (bV:Int) p37 q37
       replace p37:=eq_true p37
       replace q37:=eq_true q37
       have HP39:=Kd.R_putg fR.out (bV:Int) false
       go_wp2_with (first|((with_reducible refine gate_store (t:=4) (p:=39) rfl ?_);refine store_event (t:=4) (p:=39) (v:=?vo_w40) (w1:=(wr.setCell ⟨go37,(bV:Int).toNat,none⟩ (.bool false))) ?hg ?ho ?hn ?hr ?_;(case ho=>rfl);(case hg=>rfl);(case hn=>rfl);(case hr=>first|(go_simp;done)|(go_simp;rfl));intro w40 hw;have hg:wr.grownBy w40 (some go37):=(by rw [hw];exact HP39.2);have hp_:Kd.R Kd.bool 4 w40 w0.heap.size (fun k_=>(P0_ k_∨w.heap.size≤k_)) (.slice (some ⟨go37,0,none⟩) fB.length Wt) y370:=(by rw [hw,Zt.out];exact HP39.1);clear HP39;have bY:=aM (hp_);have bZ:=aM ((by rw [hw];exact aL (HB.out) GB37.out:Below w0.heap.size w0 w40));have cA:=aM (Kept.of_grown (S:=(fun k_=>P0_ k_)) hg (by repeat(first|(with_reducible first|exact HK.out|apply Kept.alloc|apply Kept.drewN|apply Kept.drew)|exact HK.out)) (fun k_ e_=>(fR.out.1 k_ e_)));clear fR;clear HB;clear HK;have fR:=bY;have HB:=bZ;have HK:=cA;clear bY bZ cA;clear hg hw hp_))
       go_roundg k1
       case measure=>have:=HK1.out;omega
       case rel=>exact⟨(y370),(false),(wrap64 (bV+1)),(by first|rfl|(simp;done)|(simp [*];done)),(by first|rfl|(simp;done)|(simp [*];done)),H',⟨by have:=HK1.out;omega⟩,⟨gR fR.out⟩,⟨by repeat(first|(with_reducible first|exact HK.out|apply Kept.alloc|apply Kept.drewN|apply Kept.drew)|exact HK.out)⟩,⟨gW HB.out⟩⟩
   ·rw [if_neg c3] at H
    have tE:decide (bV<(fB.length:Int))=false:=decide_eq_false c3
    clear c3
    simp only [Option.some.injEq,Prod.mk.injEq] at H
    obtain⟨rfl,rfl⟩:=H
    obtain⟨Wu,Wv,Qc⟩:=Kd.R_slice fR.out
    subst Qc
    go_wp2
    go_ret
    exact⟨by first|rfl|(simp [errW_none,errW_some]<;>rfl)|(simp [*,errW_none,errW_some]<;>rfl),gR fR.out,gW HB.out,by repeat(first|(with_reducible first|exact HK.out|apply Kept.alloc|apply Kept.drewN|apply Kept.drew)|exact HK.out)⟩
def regletref13_begins.l0:Nat→List (S43)→List (List Bool)→List Bool→List Bool→Int→Option (List Bool×Bool)
 |0,_,_,_,_,_=>none
 |k+1,x1,x2,x3,x10,x11=>if x11<(x1.length:Int) then(if 0≤x11 then(if(rd_T43 x1 x11).f0=true then(if 0≤((rd_T43 x1 x11).f1) then(if((rd_T43 x1 x11).f1)<(x10.length:Int) then(some ((x10.set (((rd_T43 x1 x11).f1):Int).toNat true),false)) else(none)) else(none)) else(if 0≤((rd_T43 x1 x11).f1) then(if((rd_T43 x1 x11).f1)<(x2.length:Int) then((regletref13_join.f k x10 (rd_L17 x2 ((rd_T43 x1 x11).f1))).bind fun yI=>(if((rd_T43 x1 x11).f1)<(x3.length:Int) then(if(rdOf false x3 ((rd_T43 x1 x11).f1)=true) then(regletref13_begins.l0 k x1 x2 x3 yI.2 (wrap64 (x11+1))) else(some (yI.2,false))) else(none))) else(none)) else(none))) else(none)) else(some (x10,true))
def regletref13_begins.f (k:Nat) (aU:List ByteArray) (aX:List (S72)) (bA:Int) (bB:Int) (aQ:List (S35)) (l1:List (S43)) (l2:List (List Bool)) (l3:List Bool):Option (List Bool×Bool):=if 0≤(wrap64 ((aX.length:Int)+1)) then(if(wrap64 ((aX.length:Int)+1):Int).toNat≤281474976710656 then(regletref13_begins.l0 k l1 l2 l3 (List.replicate (wrap64 ((aX.length:Int)+1):Int).toNat false) 0) else(none)) else(none)
set_option maxHeartbeats 8000000 in
set_option maxRecDepth 100000 in
theorem regletref13_begins.calls (k:Nat) (bC:Option Addr) (bK:Nat) (aU:List ByteArray) (bM:Option Addr) (bO:Nat) (aX:List (S72)) (bA:Int) (bB:Int) (bQ:Option Addr) (bP:Nat) (aQ:List (S35)) (A1:Option Addr) (c1:Nat) (l1:List (S43)) (A2:Option Addr) (c2:Nat) (l2:List (List Bool)) (A3:Option Addr) (c3:Nat) (l3:List Bool) (r1:List Bool) (r2:Bool) (w:World) (dM:Kd.C Kd.string w bC aU.length aU) (dT:aU.length≤bK) (dU:Kd.C k72 w bM aX.length aX) (dY:aX.length≤bO) (dR:Kd.C k35 w bQ aQ.length aQ) (eB:aQ.length≤bP) (hr1:Kd.C k43 w A1 l1.length l1) (hc1:l1.length≤c1) (hr2:Kd.C (Kd.slice 4 Kd.bool) w A2 l2.length l2) (hc2:l2.length≤c2) (hr3:Kd.C Kd.bool w A3 l3.length l3) (hc3:l3.length≤c3) (h:regletref13_begins.f k aU aX bA bB aQ l1 l2 l3=some (r1,r2)):
 Calls Try.prog 46 #[.agg #[.slice bC aU.length bK,.slice bM aX.length bO,.int .i64 bA,.int .i64 bB,.slice bQ aQ.length bP],.slice A1 l1.length c1,.slice A2 l2.length c2,.slice A3 l3.length c3] w fun e w'=>∃v0_:Value,e= .returned (.tuple #[v0_,.bool r2])∧Kd.R Kd.bool 4 w' w.heap.size (fun _=>True) v0_ r1∧Below w.heap.size w w':=by
 have hu26:=Try.underlying26
 have eS:=aM dM
 have eU:=aM dT
 clear dM dT
 have eX:=aM dU
 have eY:=aM dY
 clear dU dY
 have dW:=aM dR
 have eZ:=aM eB
 clear dR eB
 have HR1:=aM hr1
 have HC1:=aM hc1
 clear hr1 hc1
 have HR2:=aM hr2
 have HC2:=aM hc2
 clear hr2 hc2
 have HR3:=aM hr3
 have HC3:=aM hc3
 clear hr3 hc3
 have HB:=aM (Below.refl w.heap.size w)
 have H:(if 0≤(wrap64 ((aX.length:Int)+1)) then(if(wrap64 ((aX.length:Int)+1):Int).toNat≤281474976710656 then(regletref13_begins.l0 k l1 l2 l3 (List.replicate (wrap64 ((aX.length:Int)+1):Int).toNat false) 0) else(none)) else(none))=some (r1,r2):=h
 clear h
 obtain⟨Mb,Lj⟩:∃j_:Int,(wrap64 ((aX.length:Int)+1))=j_:=⟨_,rfl⟩
 replace H:(if 0≤(Mb) then(if(Mb:Int).toNat≤281474976710656 then(regletref13_begins.l0 k l1 l2 l3 (List.replicate (Mb:Int).toNat false) 0) else(none)) else(none))=some (r1,r2):=by first|(rw [Lj] at H;exact H)|(simp only [Lj] at H ⊢;exact H)
 have hji5w:(IntKind.i64.wrap ((aX.length:Int)+1))=Mb:=(i64_w _).trans Lj
 by_cases c6:0≤(Mb)
 rotate_left
 ·rw [if_neg c6] at H
  exact absurd H (by simp)
 rw [if_pos c6] at H
 have tK:=eq_true c6
 have Bo:decide (0≤(Mb))=true:=decide_eq_true c6
 clear c6
 by_cases c7:(Mb:Int).toNat≤281474976710656
 rotate_left
 ·rw [if_neg c7] at H
  exact absurd H (by simp)
 rw [if_pos c7] at H
 have xW:=eq_true c7
 have Cb:decide ((Mb:Int).toNat≤281474976710656)=true:=decide_eq_true c7
 clear c7
 obtain⟨y372,Fn⟩:∃y_:List Bool,y_=(List.replicate (Mb:Int).toNat false):=⟨_,rfl⟩
 replace H:(regletref13_begins.l0 k l1 l2 l3 y372 0)=some (r1,r2):=by first|(rw [Fn];with_reducible exact H)|(have H2_:=(Option.bind_some _ _).symm.trans H;rw [Fn];with_reducible exact H2_)|(have H2_:=(Option.bind_some _ _).symm.trans H;with_reducible exact H2_)|with_reducible exact H|(rw [Fn];exact H)|exact H
 have Ut:=aM Fn
 clear Fn
 have H':=aM H
 clear H
 go_enter Try.func46,Try.ntmps46
 go_wp2_with (first|((with_reducible refine bJ (N:=4) rfl ?_);refine box_event ?hg (N:=4) ?hd (cs:=#[.slice bC aU.length bK,.slice bM aX.length bO,.int .i64 bA,.int .i64 bB,.slice bQ aQ.length bP]) (t:=26) ?hr ?_;(case hd=>rfl);(case hg=>rfl);(case hr=>first|(go_simp;done)|(go_simp;rfl));intro yJ hg w8 hbox hb;have bY:=aM (bG (gW HB.out) hb);have bZ:=aM (hbox);have cA:=aM ((by rw [hg];exact(bH (gW HB.out)):w.heap.size≤yJ));have cC:=aM ((by rw [hg];exact(bH (gW HB.out)):w.heap.size≤yJ));clear HB;have HB:=bY;have iV:=bZ;have GW371:=cA;have Uu:=cC;clear bY bZ cA cC;clear hb hbox hg;have nB:w8.cell? ⟨yJ,0,none⟩=some (.slice bC aU.length bK):=(aG iV.out 0).trans rfl;have nC:w8.cell? ⟨yJ,1,none⟩=some (.slice bM aX.length bO):=(aG iV.out 1).trans rfl;have Ak:w8.cell? ⟨yJ,2,none⟩=some (.int .i64 bA):=(aG iV.out 2).trans rfl;have Al:w8.cell? ⟨yJ,3,none⟩=some (.int .i64 bB):=(aG iV.out 3).trans rfl;have Am:w8.cell? ⟨yJ,4,none⟩=some (.slice bQ aQ.length bP):=(aG iV.out 4).trans rfl;have nD:=aH iV.out 0;have nE:=aH iV.out 1;have Ar:=aH iV.out 2;have Aw:=aH iV.out 3;have Ax:=aH iV.out 4)|((with_reducible refine bJ (N:=16) rfl ?_);refine Kd.R_make Kd.bool _ 4 rfl (N:=16) rfl 90 _ _ rfl Mb rfl rfl Try.underlying90 (.bool false) 1 info4 rfl (by decide) (by omega) false (ok:=fun _=>True) (okp:=fun _=>True) rfl (fun _ hk=>hk) trivial (of_decide_eq_true (by first|(with_reducible assumption)|assumption)) (Nat.le_trans (Nat.mul_le_mul_right _ (of_decide_eq_true (by first|(with_reducible assumption)|assumption):Mb.toNat≤281474976710656)) (by omega)) (Below.refl _ _) (Nat.le_refl _) ?_;intro v373 w10 ho11 hb hg_ hnew_;clear hg_ hnew_;(first|rw [←Ut.out] at ho11|(simp only [Int.reduceToNat] at ho11;rw [←Ut.out] at ho11));have bY:=aM (bL ho11 (bH (gW HB.out)));have bZ:=aM (bF (gB iV.out) hb);have cA:=aM (bG (gW HB.out) hb);clear iV;clear HB;have Zy:=bY;have iV:=bZ;have HB:=cA;clear bY bZ cA;clear hb ho11))
 go_loopg [11] k (fun kq v11 w'=>∃(gE:List Bool) (cE:Int),v11= .int .i64 cE∧Aside0 (regletref13_begins.l0 kq l1 l2 l3 gE cE=some (r1,r2))∧Aside0 (kq≤k)∧Aside0 (Kd.R Kd.bool 4 w' w.heap.size (fun _=>True) v373 gE)∧Aside0 (w'.heap[yJ]?=some (.cells #[(.slice bC aU.length bK),(.slice bM aX.length bO),.int .i64 bA,.int .i64 bB,(.slice bQ aQ.length bP)] 26 (0,0)))∧Aside0 (Below w.heap.size w w'))
 case atStart=>exact⟨(y372),(0),(by first|rfl|(simp;done)|(simp [*];done)),H',⟨Nat.le_refl _⟩,⟨gR Zy.out⟩,⟨gB iV.out⟩,⟨gW HB.out⟩⟩
 case round=>
  clear H'
  (try clear c1);(try clear c2);(try clear p2);(try clear c3);(try clear c4);(try clear c6);(try clear tK);(try clear Bo);(try clear p6);(try clear c7);(try clear xW);(try clear Cb);(try clear nB);(try clear nC);(try clear Ak);(try clear Al);(try clear Am);(try clear nD);(try clear nE);(try clear Ar);(try clear Aw);(try clear Ax)
  obtain⟨gE,cE,rfl,HA,HK1,cR,iV,HB⟩:=hrel
  cases gk with
  |zero=>exact absurd HA.out (by simp [regletref13_begins.l0])
  |succ k1=>
   have H:=HA.out
   clear HA
   simp only [regletref13_begins.l0] at H
   by_cases c12:cE<(l1.length:Int)
   ·rw [if_pos c12] at H
    have Br:decide (cE<(l1.length:Int))=true:=decide_eq_true c12
    clear c12
    by_cases c13:0≤cE
    rotate_left
    ·rw [if_neg c13] at H
     exact absurd H (by simp)
    rw [if_pos c13] at H
    have nS:decide (0≤cE)=true:=decide_eq_true c13
    clear c13
    obtain⟨bq14,hbq14⟩:∃b_:Bool,b_=((rd_T43 l1 cE).f0):=⟨_,rfl⟩
    replace H:(if bq14=true then(if 0≤((rd_T43 l1 cE).f1) then(if((rd_T43 l1 cE).f1)<(gE.length:Int) then(some ((gE.set (((rd_T43 l1 cE).f1):Int).toNat true),false)) else(none)) else(none)) else(if 0≤((rd_T43 l1 cE).f1) then(if((rd_T43 l1 cE).f1)<(l2.length:Int) then((regletref13_join.f k1 gE (rd_L17 l2 ((rd_T43 l1 cE).f1))).bind fun yI=>(if((rd_T43 l1 cE).f1)<(l3.length:Int) then(if(rdOf false l3 ((rd_T43 l1 cE).f1)=true) then(regletref13_begins.l0 k1 l1 l2 l3 yI.2 (wrap64 (cE+1))) else(some (yI.2,false))) else(none))) else(none)) else(none)))=some (r1,r2):=by rw [←hbq14] at H;exact H
    have Nbq14:=aM hbq14
    clear hbq14
    by_cases c15:bq14=true
    ·subst c15
     have H1:(if 0≤((rd_T43 l1 cE).f1) then(if((rd_T43 l1 cE).f1)<(gE.length:Int) then(some ((gE.set (((rd_T43 l1 cE).f1):Int).toNat true),false)) else(none)) else(none))=some (r1,r2):=by rw [if_pos rfl] at H;exact H
     clear H
     have H:=H1
     clear H1
     by_cases c16:0≤((rd_T43 l1 cE).f1)
     rotate_left
     ·rw [if_neg c16] at H
      exact absurd H (by simp)
     rw [if_pos c16] at H
     have Ls:decide (0≤((rd_T43 l1 cE).f1))=true:=decide_eq_true c16
     clear c16
     by_cases c17:((rd_T43 l1 cE).f1)<(gE.length:Int)
     rotate_left
     ·rw [if_neg c17] at H
      exact absurd H (by simp)
     rw [if_pos c17] at H
     have mD:decide (((rd_T43 l1 cE).f1)<(gE.length:Int))=true:=decide_eq_true c17
     clear c17
     obtain⟨y377,Fo⟩:∃y_:List Bool,y_=(gE.set (((rd_T43 l1 cE).f1):Int).toNat true):=⟨_,rfl⟩
     replace H:(some (y377,false))=some (r1,r2):=by first|(rw [Fo];with_reducible exact H)|(have H2_:=(Option.bind_some _ _).symm.trans H;rw [Fo];with_reducible exact H2_)|(have H2_:=(Option.bind_some _ _).symm.trans H;with_reducible exact H2_)|with_reducible exact H|(rw [Fo];exact H)|exact H
     have Zz:=aM Fo
     clear Fo
     simp only [Option.some.injEq,Prod.mk.injEq] at H
     obtain⟨rfl,rfl⟩:=H
     have p375:0≤(cE:Int):=of_decide_eq_true (by first|(with_reducible assumption)|assumption)
     have q375:cE<(l1.length:Int):=of_decide_eq_true (by first|(with_reducible assumption)|assumption)
     obtain⟨Ay,e375,iZ,lH⟩:=at_T43 HR1.out cE p375 q375
     (try rw [←Nbq14.out] at iZ)
     cases e375
     replace iZ:=(HB.out.cell (World.block_lt_of_cell? w _ iZ)).trans iZ
     replace lH:=(HB.out.cell (World.block_lt_of_cell? w _ lH)).trans lH
     replace p375:=eq_true p375
     replace q375:=eq_true q375
     have p376:0≤(cE:Int):=of_decide_eq_true (by first|(with_reducible assumption)|assumption)
     have q376:cE<(l1.length:Int):=of_decide_eq_true (by first|(with_reducible assumption)|assumption)
     obtain⟨AA,e376,zM,Cq⟩:=at_T43 HR1.out cE p376 q376
     (try rw [←Nbq14.out] at zM)
     obtain rfl:Ay=AA:=(by injection e376)
     replace zM:=(HB.out.cell (World.block_lt_of_cell? w _ zM)).trans zM
     replace Cq:=(HB.out.cell (World.block_lt_of_cell? w _ Cq)).trans Cq
     replace p376:=eq_true p376
     replace q376:=eq_true q376
     have p18:0≤(((rd_T43 l1 cE).f1):Int):=of_decide_eq_true (by first|(with_reducible assumption)|assumption)
     have q18:(((rd_T43 l1 cE).f1):Int)<((gE.length:Int):Int):=of_decide_eq_true (by first|(with_reducible assumption)|assumption)
     obtain⟨go18,LR,AC,AD,gl18,cl18,HG18⟩:=Kd.R_form cR.out (by omega)
     (first|cases AC|(injection AC with ea_ en_ ec_;(first|subst ea_|(injection ea_ with ea_;subst ea_));subst ec_;clear en_))
     have GB18:=aM AD
     have GG18:=aM HG18
     clear AD gl18 HG18
     obtain⟨LS,hf18_0⟩:=Kd.R_celln false cR.out (((rd_T43 l1 cE).f1):Int) p18 q18
     replace p18:=eq_true p18
     replace q18:=eq_true q18
     have HP19:=Kd.R_putg cR.out (((rd_T43 l1 cE).f1):Int) true
     go_wp2_with (first|((with_reducible refine gate_store (t:=4) (p:=34) rfl ?_);refine store_event (t:=4) (p:=34) (v:=?vo_w20) (w1:=(wr.setCell ⟨go18,(((rd_T43 l1 cE).f1):Int).toNat,none⟩ (.bool true))) ?hg ?ho ?hn ?hr ?_;(case ho=>rfl);(case hg=>rfl);(case hn=>rfl);(case hr=>first|(go_simp;done)|(go_simp;rfl));intro w20 hw;have hg:wr.grownBy w20 (some go18):=(by rw [hw];exact HP19.2);have hp_:Kd.R Kd.bool 4 w20 w.heap.size (fun _=>True) (.slice (some ⟨go18,0,none⟩) gE.length LR) y377:=(by rw [hw,Zz.out];exact HP19.1);clear HP19;have bY:=aM (hp_);have bZ:=aM (blk_grown (gB iV.out) hg (Kd.R_ne cR.out iV.out (by decide)));have cA:=aM ((by rw [hw];exact aL (HB.out) GB18.out:Below w.heap.size w w20));clear cR;clear iV;clear HB;have cR:=bY;have iV:=bZ;have HB:=cA;clear bY bZ cA;clear hg hw hp_))
     go_ret2
     exact⟨_,by first|rfl|(simp [errW_none,errW_some]<;>rfl)|(simp only [←Lj];first|rfl|(simp [errW_none,errW_some]<;>rfl))|(simp [*,errW_none,errW_some]<;>rfl),gR cR.out,gW HB.out⟩
    ·replace c15:=Bool.eq_false_iff.mpr c15
     subst c15
     have H1:(if 0≤((rd_T43 l1 cE).f1) then(if((rd_T43 l1 cE).f1)<(l2.length:Int) then((regletref13_join.f k1 gE (rd_L17 l2 ((rd_T43 l1 cE).f1))).bind fun yI=>(if((rd_T43 l1 cE).f1)<(l3.length:Int) then(if(rdOf false l3 ((rd_T43 l1 cE).f1)=true) then(regletref13_begins.l0 k1 l1 l2 l3 yI.2 (wrap64 (cE+1))) else(some (yI.2,false))) else(none))) else(none)) else(none))=some (r1,r2):=by rw [if_neg (show ¬(false=true) by decide)] at H;exact H
     clear H
     have H:=H1
     clear H1
     by_cases c21:0≤((rd_T43 l1 cE).f1)
     rotate_left
     ·rw [if_neg c21] at H
      exact absurd H (by simp)
     rw [if_pos c21] at H
     have Fc:decide (0≤((rd_T43 l1 cE).f1))=true:=decide_eq_true c21
     clear c21
     by_cases c22:((rd_T43 l1 cE).f1)<(l2.length:Int)
     rotate_left
     ·rw [if_neg c22] at H
      exact absurd H (by simp)
     rw [if_pos c22] at H
     have Bt:decide (((rd_T43 l1 cE).f1)<(l2.length:Int))=true:=decide_eq_true c22
     clear c22
     replace H:=Option.bind_eq_some_iff.mp H
     obtain⟨⟨t380,t381⟩,A230,H⟩:=H
     replace H:(if((rd_T43 l1 cE).f1)<(l3.length:Int) then(if(rdOf false l3 ((rd_T43 l1 cE).f1)=true) then(regletref13_begins.l0 k1 l1 l2 l3 t381 (wrap64 (cE+1))) else(some (t381,false))) else(none))=some (r1,r2):=H
     have A23:=aM A230
     clear A230
     by_cases c24:((rd_T43 l1 cE).f1)<(l3.length:Int)
     rotate_left
     ·rw [if_neg c24] at H
      exact absurd H (by simp)
     rw [if_pos c24] at H
     have Mc:decide (((rd_T43 l1 cE).f1)<(l3.length:Int))=true:=decide_eq_true c24
     clear c24
     obtain⟨bq25,hbq25⟩:∃b_:Bool,b_=(rdOf false l3 ((rd_T43 l1 cE).f1)):=⟨_,rfl⟩
     replace H:(if(bq25=true) then(regletref13_begins.l0 k1 l1 l2 l3 t381 (wrap64 (cE+1))) else(some (t381,false)))=some (r1,r2):=by rw [←hbq25] at H;exact H
     have Nbq25:=aM hbq25
     clear hbq25
     by_cases c26:(bq25=true)
     ·subst c26
      have H1:(regletref13_begins.l0 k1 l1 l2 l3 t381 (wrap64 (cE+1)))=some (r1,r2):=by rw [if_pos rfl] at H;exact H
      clear H
      have H:=H1
      clear H1
      have H':=aM H
      clear H
      have p375:0≤(cE:Int):=of_decide_eq_true (by first|(with_reducible assumption)|assumption)
      have q375:cE<(l1.length:Int):=of_decide_eq_true (by first|(with_reducible assumption)|assumption)
      obtain⟨Ay,e375,iZ,lH⟩:=at_T43 HR1.out cE p375 q375
      (try rw [←Nbq14.out] at iZ)
      (try rw [←Nbq25.out] at iZ)
      cases e375
      replace iZ:=(HB.out.cell (World.block_lt_of_cell? w _ iZ)).trans iZ
      replace lH:=(HB.out.cell (World.block_lt_of_cell? w _ lH)).trans lH
      replace p375:=eq_true p375
      replace q375:=eq_true q375
      have p378:0≤(cE:Int):=of_decide_eq_true (by first|(with_reducible assumption)|assumption)
      have q378:cE<(l1.length:Int):=of_decide_eq_true (by first|(with_reducible assumption)|assumption)
      obtain⟨Md,e378,lI,qM⟩:=at_T43 HR1.out cE p378 q378
      (try rw [←Nbq14.out] at lI)
      (try rw [←Nbq25.out] at lI)
      obtain rfl:Ay=Md:=(by injection e378)
      replace lI:=(HB.out.cell (World.block_lt_of_cell? w _ lI)).trans lI
      replace qM:=(HB.out.cell (World.block_lt_of_cell? w _ qM)).trans qM
      replace p378:=eq_true p378
      replace q378:=eq_true q378
      have p379:0≤(((rd_T43 l1 cE).f1):Int):=of_decide_eq_true (by first|(with_reducible assumption)|assumption)
      have q379:((rd_T43 l1 cE).f1)<(l2.length:Int):=of_decide_eq_true (by first|(with_reducible assumption)|assumption)
      obtain⟨AE,Hc,Hd,e379,qN,uC,uD⟩:=at_L17 HR2.out ((rd_T43 l1 cE).f1) p379 q379
      cases e379
      replace qN:=(HB.out.cell (World.block_lt_of_cell? w _ qN)).trans qN
      have Cr:=aM uD
      have Cs:=aM uC
      clear uD uC
      replace p379:=eq_true p379
      replace q379:=eq_true q379
      obtain⟨Bp,Aj,Fk⟩:=Kd.R_slice cR.out
      subst Fk
      go_wp2_with (first|((with_reducible refine bI (f:=47) rfl ?_);refine goesL_ (some 45) rfl rfl Try.func47 (by kernel_rfl) rfl #[.slice Bp gE.length Aj,.slice Hc (rd_L17 l2 ((rd_T43 l1 cE).f1)).length Hd] rfl (by(try simp only [List.map_toArray,List.map_cons,List.map_nil]);first|done|rfl|(simp only [List.length_drop,List.length_take];rfl)) ?_;(with_reducible refine(regletref13_join.calls k1 (fun k_=>some k_=(.slice Bp gE.length Aj:Value).ownBlock) (.slice Bp gE.length Aj) gE _ _ (rd_L17 l2 ((rd_T43 l1 cE).f1)) t380 t381 w _ ?side1 ?side2 ?side3 ?side4 A23.out).mono ?_);(case side1=>repeat(first|(with_reducible first|exact HB.out|apply aN|apply aP|apply aO|refine aL ?_ Uu.out)|exact HB.out));(case side2=>exact Kd.R_tight rfl cR.out);(case side3=>exact Kd.C_kept_came Kd.heap_bool Cr.out (gW HB.out) (fun k_ hs_=>(fun e_=>Kd.R_base cR.out k_ e_.symm) hs_));(case side4=>exact Cs.out);rintro e w28 ⟨rfl,AF,hb,hkp⟩;refine⟨_,rfl,?_⟩;have bY:=aM (Kd.R_reok rfl AF (fun k_ e_=>cR.out.1 k_ e_));have bZ:=aM (blk_kept (gB iV.out) hkp (fun hs_=>(fun e_=>(Kd.R_ne cR.out iV.out (by decide)) e_) hs_));have cA:=aM (hb);clear cR;clear iV;clear HB;have cR:=bY;have iV:=bZ;have HB:=cA;clear bY bZ cA;(try clear hb);(try clear hkp);(try clear AF);have p382:0≤(cE:Int):=of_decide_eq_true (by first|(with_reducible assumption)|assumption);have q382:cE<(l1.length:Int):=of_decide_eq_true (by first|(with_reducible assumption)|assumption);obtain⟨Me,e382,lJ,qO⟩:=at_T43 HR1.out cE p382 q382;(try rw [←Nbq14.out] at lJ);(try rw [←Nbq25.out] at lJ);obtain rfl:Ay=Me:=(by injection e382);replace lJ:=(HB.out.cell (World.block_lt_of_cell? w _ lJ)).trans lJ;replace qO:=(HB.out.cell (World.block_lt_of_cell? w _ qO)).trans qO;replace p382:=eq_true p382;replace q382:=eq_true q382;have p383:0≤(((rd_T43 l1 cE).f1):Int):=of_decide_eq_true (by first|(with_reducible assumption)|assumption);have q383:((rd_T43 l1 cE).f1)<(l3.length:Int):=of_decide_eq_true (by first|(with_reducible assumption)|assumption);obtain⟨AG,e383,lK⟩:=Kd.at_bool HR3.out ((rd_T43 l1 cE).f1) p383 q383;(try rw [←Nbq14.out] at lK);(try rw [←Nbq25.out] at lK);cases e383;replace lK:=(HB.out.cell (World.block_lt_of_cell? w _ lK)).trans lK;replace p383:=eq_true p383;replace q383:=eq_true q383))
      go_roundg k1
      case measure=>have:=HK1.out;omega
      case rel=>exact⟨(t381),(wrap64 (cE+1)),(by first|rfl|(simp;done)|(simp [*];done)),H',⟨by have:=HK1.out;omega⟩,⟨gR cR.out⟩,⟨gB iV.out⟩,⟨gW HB.out⟩⟩
     ·replace c26:=Bool.eq_false_iff.mpr c26
      subst c26
      have H1:(some (t381,false))=some (r1,r2):=by rw [if_neg (show ¬(false=true) by decide)] at H;exact H
      clear H
      have H:=H1
      clear H1
      simp only [Option.some.injEq,Prod.mk.injEq] at H
      obtain⟨rfl,rfl⟩:=H
      have p375:0≤(cE:Int):=of_decide_eq_true (by first|(with_reducible assumption)|assumption)
      have q375:cE<(l1.length:Int):=of_decide_eq_true (by first|(with_reducible assumption)|assumption)
      obtain⟨Ay,e375,iZ,lH⟩:=at_T43 HR1.out cE p375 q375
      (try rw [←Nbq14.out] at iZ)
      (try rw [←Nbq25.out] at iZ)
      cases e375
      replace iZ:=(HB.out.cell (World.block_lt_of_cell? w _ iZ)).trans iZ
      replace lH:=(HB.out.cell (World.block_lt_of_cell? w _ lH)).trans lH
      replace p375:=eq_true p375
      replace q375:=eq_true q375
      have p378:0≤(cE:Int):=of_decide_eq_true (by first|(with_reducible assumption)|assumption)
      have q378:cE<(l1.length:Int):=of_decide_eq_true (by first|(with_reducible assumption)|assumption)
      obtain⟨Md,e378,lI,qM⟩:=at_T43 HR1.out cE p378 q378
      (try rw [←Nbq14.out] at lI)
      (try rw [←Nbq25.out] at lI)
      obtain rfl:Ay=Md:=(by injection e378)
      replace lI:=(HB.out.cell (World.block_lt_of_cell? w _ lI)).trans lI
      replace qM:=(HB.out.cell (World.block_lt_of_cell? w _ qM)).trans qM
      replace p378:=eq_true p378
      replace q378:=eq_true q378
      have p379:0≤(((rd_T43 l1 cE).f1):Int):=of_decide_eq_true (by first|(with_reducible assumption)|assumption)
      have q379:((rd_T43 l1 cE).f1)<(l2.length:Int):=of_decide_eq_true (by first|(with_reducible assumption)|assumption)
      obtain⟨AE,Hc,Hd,e379,qN,uC,uD⟩:=at_L17 HR2.out ((rd_T43 l1 cE).f1) p379 q379
      cases e379
      replace qN:=(HB.out.cell (World.block_lt_of_cell? w _ qN)).trans qN
      have Cr:=aM uD
      have Cs:=aM uC
      clear uD uC
      replace p379:=eq_true p379
      replace q379:=eq_true q379
      obtain⟨fT,fU,Mf⟩:=Kd.R_slice cR.out
      subst Mf
      go_wp2_with (first|((with_reducible refine bI (f:=47) rfl ?_);refine goesL_ (some 45) rfl rfl Try.func47 (by kernel_rfl) rfl #[.slice fT gE.length fU,.slice Hc (rd_L17 l2 ((rd_T43 l1 cE).f1)).length Hd] rfl (by(try simp only [List.map_toArray,List.map_cons,List.map_nil]);first|done|rfl|(simp only [List.length_drop,List.length_take];rfl)) ?_;(with_reducible refine(regletref13_join.calls k1 (fun k_=>some k_=(.slice fT gE.length fU:Value).ownBlock) (.slice fT gE.length fU) gE _ _ (rd_L17 l2 ((rd_T43 l1 cE).f1)) t380 t381 w _ ?side1 ?side2 ?side3 ?side4 A23.out).mono ?_);(case side1=>repeat(first|(with_reducible first|exact HB.out|apply aN|apply aP|apply aO|refine aL ?_ Uu.out)|exact HB.out));(case side2=>exact Kd.R_tight rfl cR.out);(case side3=>exact Kd.C_kept_came Kd.heap_bool Cr.out (gW HB.out) (fun k_ hs_=>(fun e_=>Kd.R_base cR.out k_ e_.symm) hs_));(case side4=>exact Cs.out);rintro e w30 ⟨rfl,AF,hb,hkp⟩;refine⟨_,rfl,?_⟩;have bY:=aM (Kd.R_reok rfl AF (fun k_ e_=>cR.out.1 k_ e_));have bZ:=aM (blk_kept (gB iV.out) hkp (fun hs_=>(fun e_=>(Kd.R_ne cR.out iV.out (by decide)) e_) hs_));have cA:=aM (hb);clear cR;clear iV;clear HB;have cR:=bY;have iV:=bZ;have HB:=cA;clear bY bZ cA;(try clear hb);(try clear hkp);(try clear AF);have p382:0≤(cE:Int):=of_decide_eq_true (by first|(with_reducible assumption)|assumption);have q382:cE<(l1.length:Int):=of_decide_eq_true (by first|(with_reducible assumption)|assumption);obtain⟨Me,e382,lJ,qO⟩:=at_T43 HR1.out cE p382 q382;(try rw [←Nbq14.out] at lJ);(try rw [←Nbq25.out] at lJ);obtain rfl:Ay=Me:=(by injection e382);replace lJ:=(HB.out.cell (World.block_lt_of_cell? w _ lJ)).trans lJ;replace qO:=(HB.out.cell (World.block_lt_of_cell? w _ qO)).trans qO;replace p382:=eq_true p382;replace q382:=eq_true q382;have p383:0≤(((rd_T43 l1 cE).f1):Int):=of_decide_eq_true (by first|(with_reducible assumption)|assumption);have q383:((rd_T43 l1 cE).f1)<(l3.length:Int):=of_decide_eq_true (by first|(with_reducible assumption)|assumption);obtain⟨AG,e383,lK⟩:=Kd.at_bool HR3.out ((rd_T43 l1 cE).f1) p383 q383;(try rw [←Nbq14.out] at lK);(try rw [←Nbq25.out] at lK);cases e383;replace lK:=(HB.out.cell (World.block_lt_of_cell? w _ lK)).trans lK;replace p383:=eq_true p383;replace q383:=eq_true q383))
      go_ret2
      exact⟨_,by first|rfl|(simp [errW_none,errW_some]<;>rfl)|(simp only [←Lj];first|rfl|(simp [errW_none,errW_some]<;>rfl))|(simp [*,errW_none,errW_some]<;>rfl),gR cR.out,gW HB.out⟩
   ·rw [if_neg c12] at H
    have Br:decide (cE<(l1.length:Int))=false:=decide_eq_false c12
    clear c12
    simp only [Option.some.injEq,Prod.mk.injEq] at H
    obtain⟨rfl,rfl⟩:=H
    go_wp2
    go_ret2
    exact⟨_,by first|rfl|(simp [errW_none,errW_some]<;>rfl)|(simp only [←Lj];first|rfl|(simp [errW_none,errW_some]<;>rfl))|(simp [*,errW_none,errW_some]<;>rfl),gR cR.out,gW HB.out⟩
attribute [local go_sem] max2_int min2_int max_two min_two max_three min_three max_four min_four   -- for this text's walks alone
set_option linter.unusedVariables false
set_option linter.unusedSimpArgs false
mutual
def regletref13_Empty.l0:Nat→List Bool→Bool→List ByteArray→List (S72)→Int→Int→List (S35)→Option (List Bool)
 |0,_,_,_,_,_,_,_=>none
 |k+1,x3,x4,x344000,x344001,x344002,x344003,x344004=>if x4=true then(regletref13_Empty.l1 k x3 false 0 x344000 x344001 x344002 x344003 x344004) else(some x3)
def regletref13_Empty.l1:Nat→List Bool→Bool→Int→List ByteArray→List (S72)→Int→Int→List (S35)→Option (List Bool)
 |0,_,_,_,_,_,_,_,_=>none
 |k+1,x3,x4,x5,x344000,x344001,x344002,x344003,x344004=>if x5<(x344004.length:Int) then(regletref13_Empty.l2 k x3 x4 x5 true 0 x344000 x344001 x344002 x344003 x344004) else(regletref13_Empty.l0 k x3 x4 x344000 x344001 x344002 x344003 x344004)
def regletref13_Empty.l2:Nat→List Bool→Bool→Int→Bool→Int→List ByteArray→List (S72)→Int→Int→List (S35)→Option (List Bool)
 |0,_,_,_,_,_,_,_,_,_,_=>none
 |k+1,x3,x4,x5,x6,x7,x344000,x344001,x344002,x344003,x344004=>if 0≤x5 then(if x5<(x344004.length:Int) then(if x7<(((rd_T35 x344004 x5).f1).length:Int) then(if 0≤x7 then(if x6=true then(if((rd_T43 ((rd_T35 x344004 x5).f1) x7).f0=true) then(regletref13_Empty.l2 k x3 x4 x5 false (wrap64 (x7+1)) x344000 x344001 x344002 x344003 x344004) else(if 0≤((rd_T43 ((rd_T35 x344004 x5).f1) x7).f1) then(if((rd_T43 ((rd_T35 x344004 x5).f1) x7).f1)<(x3.length:Int) then(regletref13_Empty.l2 k x3 x4 x5 (rdOf false x3 ((rd_T43 ((rd_T35 x344004 x5).f1) x7).f1)) (wrap64 (x7+1)) x344000 x344001 x344002 x344003 x344004) else(none)) else(none))) else(regletref13_Empty.l2 k x3 x4 x5 false (wrap64 (x7+1)) x344000 x344001 x344002 x344003 x344004)) else(none)) else(if x6=true then(if 0≤((rd_T35 x344004 x5).f0) then(if((rd_T35 x344004 x5).f0)<(x3.length:Int) then(if(rdOf false x3 ((rd_T35 x344004 x5).f0)=true) then(regletref13_Empty.l1 k x3 x4 (wrap64 (x5+1)) x344000 x344001 x344002 x344003 x344004) else(regletref13_Empty.l1 k (x3.set (((rd_T35 x344004 x5).f0):Int).toNat true) true (wrap64 (x5+1)) x344000 x344001 x344002 x344003 x344004)) else(none)) else(none)) else(regletref13_Empty.l1 k x3 x4 (wrap64 (x5+1)) x344000 x344001 x344002 x344003 x344004))) else(none)) else(none)
end
def regletref13_Empty.f (k:Nat) (aU:List ByteArray) (aX:List (S72)) (bA:Int) (bB:Int) (aQ:List (S35)):Option (List Bool):=(regletref13_Right.f k aU aX bA bB aQ).bind fun t344=>(if t344=true then(if 0≤(aU.length:Int) then(if((aU.length:Int):Int).toNat≤281474976710656 then(regletref13_Empty.l0 k (List.replicate ((aU.length:Int):Int).toNat false) true aU aX bA bB aQ) else(none)) else(none)) else(some ([]:List Bool)))
set_option maxHeartbeats 8000000 in
set_option maxRecDepth 100000 in
theorem regletref13_Empty.calls (k:Nat) (bC:Option Addr) (bK:Nat) (aU:List ByteArray) (bM:Option Addr) (bO:Nat) (aX:List (S72)) (bA:Int) (bB:Int) (bQ:Option Addr) (bP:Nat) (aQ:List (S35)) (r:List Bool) (w:World) (dM:Kd.C Kd.string w bC aU.length aU) (dT:aU.length≤bK) (dU:Kd.C k72 w bM aX.length aX) (dY:aX.length≤bO) (dR:Kd.C k35 w bQ aQ.length aQ) (eB:aQ.length≤bP) (h:regletref13_Empty.f k aU aX bA bB aQ=some r):
 Calls Try.prog 45 #[.agg #[.slice bC aU.length bK,.slice bM aX.length bO,.int .i64 bA,.int .i64 bB,.slice bQ aQ.length bP]] w fun e w'=>∃v0_:Value,e= .returned (v0_)∧Kd.R Kd.bool 4 w' w.heap.size (fun _=>True) v0_ r∧Below w.heap.size w w':=by
 have hu26:=Try.underlying26
 have hu43:=Try.underlying43
 have eS:=aM dM
 have eU:=aM dT
 clear dM dT
 have eX:=aM dU
 have eY:=aM dY
 clear dU dY
 have dW:=aM dR
 have eZ:=aM eB
 clear dR eB
 have HB:=aM (Below.refl w.heap.size w)
 have H:((regletref13_Right.f k aU aX bA bB aQ).bind fun t344=>(if t344=true then(if 0≤(aU.length:Int) then(if((aU.length:Int):Int).toNat≤281474976710656 then(regletref13_Empty.l0 k (List.replicate ((aU.length:Int):Int).toNat false) true aU aX bA bB aQ) else(none)) else(none)) else(some ([]:List Bool))))=some r:=h
 clear h
 replace H:=Option.bind_eq_some_iff.mp H
 obtain⟨t344,A20,H⟩:=H
 replace H:(if t344=true then(if 0≤(aU.length:Int) then(if((aU.length:Int):Int).toNat≤281474976710656 then(regletref13_Empty.l0 k (List.replicate ((aU.length:Int):Int).toNat false) true aU aX bA bB aQ) else(none)) else(none)) else(some ([]:List Bool)))=some r:=H
 have A2:=aM A20
 clear A20
 by_cases c3:t344=true
 ·subst c3
  have H1:(if 0≤(aU.length:Int) then(if((aU.length:Int):Int).toNat≤281474976710656 then(regletref13_Empty.l0 k (List.replicate ((aU.length:Int):Int).toNat false) true aU aX bA bB aQ) else(none)) else(none))=some r:=by rw [if_pos rfl] at H;exact H
  clear H
  have H:=H1
  clear H1
  by_cases c4:0≤(aU.length:Int)
  rotate_left
  ·rw [if_neg c4] at H
   exact absurd H (by simp)
  rw [if_pos c4] at H
  have Ag:=eq_true c4
  have Ww:decide (0≤(aU.length:Int))=true:=decide_eq_true c4
  clear c4
  by_cases c5:((aU.length:Int):Int).toNat≤281474976710656
  rotate_left
  ·rw [if_neg c5] at H
   exact absurd H (by simp)
  rw [if_pos c5] at H
  have Ah:=eq_true c5
  have Li:decide (((aU.length:Int):Int).toNat≤281474976710656)=true:=decide_eq_true c5
  clear c5
  obtain⟨y345,Fp⟩:∃y_:List Bool,y_=(List.replicate ((aU.length:Int):Int).toNat false):=⟨_,rfl⟩
  replace H:(regletref13_Empty.l0 k y345 true aU aX bA bB aQ)=some r:=by first|(rw [Fp];with_reducible exact H)|(have H2_:=(Option.bind_some _ _).symm.trans H;rw [Fp];with_reducible exact H2_)|(have H2_:=(Option.bind_some _ _).symm.trans H;with_reducible exact H2_)|with_reducible exact H|(rw [Fp];exact H)|exact H
  have Uv:=aM Fp
  clear Fp
  have H':=aM H
  clear H
  go_enter Try.func45,Try.ntmps45
  go_wp2_with (first|((with_reducible refine bJ (N:=1) rfl ?_);refine box_event ?hg (N:=1) ?hd (cs:=#[.slice bC aU.length bK,.slice bM aX.length bO,.int .i64 bA,.int .i64 bB,.slice bQ aQ.length bP]) (t:=26) ?hr ?_;(case hd=>rfl);(case hg=>rfl);(case hr=>first|(go_simp;done)|(go_simp;rfl));intro dP hg w6 hbox hb;have bY:=aM (bG (gW HB.out) hb);have bZ:=aM (hbox);have cA:=aM ((by rw [hg];exact(bH (gW HB.out)):w.heap.size≤dP));have cC:=aM ((by rw [hg];exact(bH (gW HB.out)):w.heap.size≤dP));clear HB;have HB:=bY;have cB:=bZ;have GW343:=cA;have Jb:=cC;clear bY bZ cA cC;clear hb hbox hg;have He:w6.cell? ⟨dP,0,none⟩=some (.slice bC aU.length bK):=(aG cB.out 0).trans rfl;have Hf:w6.cell? ⟨dP,1,none⟩=some (.slice bM aX.length bO):=(aG cB.out 1).trans rfl;have Hg:w6.cell? ⟨dP,2,none⟩=some (.int .i64 bA):=(aG cB.out 2).trans rfl;have Hh:w6.cell? ⟨dP,3,none⟩=some (.int .i64 bB):=(aG cB.out 3).trans rfl;have Hi:w6.cell? ⟨dP,4,none⟩=some (.slice bQ aQ.length bP):=(aG cB.out 4).trans rfl;have Hj:=aH cB.out 0;have Hk:=aH cB.out 1;have Hl:=aH cB.out 2;have Hm:=aH cB.out 3;have Hn:=aH cB.out 4)|((with_reducible refine bI (f:=30) rfl ?_);refine goesL_ (some 10) rfl rfl Try.func30 (by kernel_rfl) rfl #[.agg #[.slice bC aU.length bK,.slice bM aX.length bO,.int .i64 bA,.int .i64 bB,.slice bQ aQ.length bP]] rfl (by(try simp only [List.map_toArray,List.map_cons,List.map_nil]);first|done|rfl|(simp only [List.length_drop,List.length_take];rfl)) ?_;(with_reducible refine(regletref13_Right.calls k _ _ aU _ _ aX bA bB _ _ aQ true _ ?side1 ?side2 ?side3 ?side4 ?side5 ?side6 A2.out).mono ?_);(case side1=>exact gC (bD eS.out HB.out));(case side2=>exact eU.out);(case side3=>exact gC (bD eX.out HB.out));(case side4=>exact eY.out);(case side5=>exact gC (bD dW.out HB.out));(case side6=>exact eZ.out);rintro e w8 ⟨rfl,hb⟩;refine⟨_,rfl,?_⟩;have bY:=aM (bF (gB cB.out) hb);have bZ:=aM (bG (gW HB.out) hb);clear cB;clear HB;have cB:=bY;have HB:=bZ;clear bY bZ;(try clear hb);(try clear hb2);(try clear hk);(try clear hi);have nB:w8.cell? ⟨dP,0,none⟩=some (.slice bC aU.length bK):=(aG cB.out 0).trans rfl;have nC:w8.cell? ⟨dP,1,none⟩=some (.slice bM aX.length bO):=(aG cB.out 1).trans rfl;have Ak:w8.cell? ⟨dP,2,none⟩=some (.int .i64 bA):=(aG cB.out 2).trans rfl;have Al:w8.cell? ⟨dP,3,none⟩=some (.int .i64 bB):=(aG cB.out 3).trans rfl;have Am:w8.cell? ⟨dP,4,none⟩=some (.slice bQ aQ.length bP):=(aG cB.out 4).trans rfl;have nD:=aH cB.out 0;have nE:=aH cB.out 1;have Ar:=aH cB.out 2;have Aw:=aH cB.out 3;have Ax:=aH cB.out 4)|((with_reducible refine bJ (N:=15) rfl ?_);refine Kd.R_make Kd.bool _ 4 rfl (N:=15) rfl 90 _ _ rfl (aU.length:Int) rfl rfl Try.underlying90 (.bool false) 1 info4 rfl (by decide) (by omega) false (ok:=fun _=>True) (okp:=fun _=>True) rfl (fun _ hk=>hk) trivial (of_decide_eq_true (by first|(with_reducible assumption)|assumption)) (Nat.le_trans (Nat.mul_le_mul_right _ (of_decide_eq_true (by first|(with_reducible assumption)|assumption):(aU.length:Int).toNat≤281474976710656)) (by omega)) (Below.refl _ _) (Nat.le_refl _) ?_;intro v346 w10 ho11 hb hg_ hnew_;clear hg_ hnew_;(first|rw [←Uv.out] at ho11|(simp only [Int.reduceToNat] at ho11;rw [←Uv.out] at ho11));have bY:=aM (bL ho11 (bH (gW HB.out)));have bZ:=aM (bF (gB cB.out) hb);have cA:=aM (bG (gW HB.out) hb);clear cB;clear HB;have AH:=bY;have cB:=bZ;have HB:=cA;clear bY bZ cA;clear hb ho11))
  go_loopg [4] k (fun kq v4 w'=>∃(dB:List Bool) (eC:Bool),v4= .bool eC∧Aside0 (regletref13_Empty.l0 kq dB eC aU aX bA bB aQ=some r)∧Aside0 (kq≤k)∧Aside0 (Kd.R Kd.bool 4 w' w.heap.size (fun _=>True) v346 dB)∧Aside0 (w'.heap[dP]?=some (.cells #[(.slice bC aU.length bK),(.slice bM aX.length bO),.int .i64 bA,.int .i64 bB,(.slice bQ aQ.length bP)] 26 (0,0)))∧Aside0 (Below w.heap.size w w'))
  case atStart=>exact⟨(y345),(true),(by first|rfl|(simp;done)|(simp [*];done)),H',⟨Nat.le_refl _⟩,⟨gR AH.out⟩,⟨gB cB.out⟩,⟨gW HB.out⟩⟩
  case round=>
   clear H'
   (try clear p2);(try clear c3);(try clear c4);(try clear Ag);(try clear Ww);(try clear c5);(try clear Ah);(try clear Li);(try clear He);(try clear Hf);(try clear Hg);(try clear Hh);(try clear Hi);(try clear nB);(try clear nC);(try clear Ak);(try clear Al);(try clear Am);(try clear Hj);(try clear Hk);(try clear Hl);(try clear Hm);(try clear Hn)
   (try clear nD);(try clear nE);(try clear Ar);(try clear Aw);(try clear Ax)
   obtain⟨dB,eC,rfl,HA,HK1,gG,cB,HB⟩:=hrel
   cases gk with
   |zero=>exact absurd HA.out (by simp [regletref13_Empty.l0])
   |succ k1=>
    have H:=HA.out
    clear HA
    simp only [regletref13_Empty.l0] at H
    by_cases c12:eC=true
    ·subst c12
     have H1:(regletref13_Empty.l1 k1 dB false 0 aU aX bA bB aQ)=some r:=by rw [if_pos rfl] at H;exact H
     clear H
     have H:=H1
     clear H1
     have H':=aM H
     clear H
     go_wp2
     go_loopg [4,5] k1 (fun kq v4 v5 w'=>∃(iX:List Bool) (rB:Bool) (bU:Int),v4= .bool rB∧v5= .int .i64 bU∧Aside0 (regletref13_Empty.l1 kq iX rB bU aU aX bA bB aQ=some r)∧Aside0 (kq≤k1)∧Aside0 (Kd.R Kd.bool 4 w' w.heap.size (fun _=>True) v346 iX)∧Aside0 (w'.heap[dP]?=some (.cells #[(.slice bC aU.length bK),(.slice bM aX.length bO),.int .i64 bA,.int .i64 bB,(.slice bQ aQ.length bP)] 26 (0,0)))∧Aside0 (Below w.heap.size w w'))
     case atStart=>exact⟨(dB),(false),(0),(by first|rfl|(simp;done)|(simp [*];done)),(by first|rfl|(simp;done)|(simp [*];done)),H',⟨Nat.le_refl _⟩,⟨gR gG.out⟩,⟨gB cB.out⟩,⟨gW HB.out⟩⟩
     case round=>
      clear H'
      (try clear c1);(try clear p2);(try clear c3);(try clear c4);(try clear Ag);(try clear Ww);(try clear c5);(try clear Ah);(try clear Li);(try clear c12);(try clear He);(try clear Hf);(try clear Hg);(try clear Hh);(try clear Hi);(try clear nB);(try clear nC);(try clear Ak);(try clear Al);(try clear Am);(try clear Hj);(try clear Hk);(try clear Hl)
      (try clear Hm);(try clear Hn);(try clear nD);(try clear nE);(try clear Ar);(try clear Aw);(try clear Ax);(try clear p2)
      obtain⟨iX,rB,bU,rfl,rfl,HA,HK2,gG,cB,HB⟩:=hrel
      cases gk with
      |zero=>exact absurd HA.out (by simp [regletref13_Empty.l1])
      |succ k2=>
       have H:=HA.out
       clear HA
       simp only [regletref13_Empty.l1] at H
       by_cases c13:bU<(aQ.length:Int)
       ·rw [if_pos c13] at H
        have nS:decide (bU<(aQ.length:Int))=true:=decide_eq_true c13
        clear c13
        have H':=aM H
        clear H
        have nO:wr.cell? ⟨dP,0,none⟩=some (.slice bC aU.length bK):=(aG cB.out 0).trans rfl
        have nP:wr.cell? ⟨dP,1,none⟩=some (.slice bM aX.length bO):=(aG cB.out 1).trans rfl
        have uE:wr.cell? ⟨dP,2,none⟩=some (.int .i64 bA):=(aG cB.out 2).trans rfl
        have uF:wr.cell? ⟨dP,3,none⟩=some (.int .i64 bB):=(aG cB.out 3).trans rfl
        have uG:wr.cell? ⟨dP,4,none⟩=some (.slice bQ aQ.length bP):=(aG cB.out 4).trans rfl
        have nQ:=aH cB.out 0
        have nR:=aH cB.out 1
        have uH:=aH cB.out 2
        have uI:=aH cB.out 3
        have uJ:=aH cB.out 4
        go_wp2
        go_loopg [6,7] k2 (fun kq v6 v7 w'=>∃(eO:Bool) (gZ:Int),v6= .bool eO∧v7= .int .i64 gZ∧Aside0 (regletref13_Empty.l2 kq iX rB bU eO gZ aU aX bA bB aQ=some r)∧Aside0 (kq≤k2)∧Aside0 (Kd.R Kd.bool 4 w' w.heap.size (fun _=>True) v346 iX)∧Aside0 (w'.heap[dP]?=some (.cells #[(.slice bC aU.length bK),(.slice bM aX.length bO),.int .i64 bA,.int .i64 bB,(.slice bQ aQ.length bP)] 26 (0,0)))∧Aside0 (Below w.heap.size w w'))
        case atStart=>exact⟨(true),(0),(by first|rfl|(simp;done)|(simp [*];done)),(by first|rfl|(simp;done)|(simp [*];done)),H',⟨Nat.le_refl _⟩,⟨gR gG.out⟩,⟨gB cB.out⟩,⟨gW HB.out⟩⟩
        case round=>
         clear H'
         (try clear c1);(try clear p2);(try clear c3);(try clear c4);(try clear Ag);(try clear Ww);(try clear c5);(try clear Ah);(try clear Li);(try clear c12);(try clear c13);(try clear nS);(try clear nO);(try clear nP);(try clear uE);(try clear uF);(try clear uG);(try clear He);(try clear Hf);(try clear Hg);(try clear Hh);(try clear Hi);(try clear nB)
         (try clear nC);(try clear Ak);(try clear Al);(try clear Am);(try clear nQ);(try clear nR);(try clear uH);(try clear uI);(try clear uJ);(try clear Hj);(try clear Hk);(try clear Hl);(try clear Hm);(try clear Hn);(try clear nD);(try clear nE);(try clear Ar);(try clear Aw);(try clear Ax);(try clear p2)
         obtain⟨eO,gZ,rfl,rfl,HA,HK3,gG,cB,HB⟩:=hrel
         cases gk with
         |zero=>exact absurd HA.out (by simp [regletref13_Empty.l2])
         |succ k3=>
          have H:=HA.out
          clear HA
          simp only [regletref13_Empty.l2] at H
          by_cases c15:0≤bU
          rotate_left
          ·rw [if_neg c15] at H
           exact absurd H (by simp)
          rw [if_pos c15] at H
          have yH:decide (0≤bU)=true:=decide_eq_true c15
          clear c15
          by_cases c16:bU<(aQ.length:Int)
          rotate_left
          ·rw [if_neg c16] at H
           exact absurd H (by simp)
          rw [if_pos c16] at H
          have Ls:decide (bU<(aQ.length:Int))=true:=decide_eq_true c16
          clear c16
          by_cases c17:gZ<(((rd_T35 aQ bU).f1).length:Int)
          ·rw [if_pos c17] at H
           have mD:decide (gZ<(((rd_T35 aQ bU).f1).length:Int))=true:=decide_eq_true c17
           clear c17
           by_cases c18:0≤gZ
           rotate_left
           ·rw [if_neg c18] at H
            exact absurd H (by simp)
           rw [if_pos c18] at H
           have Iq:decide (0≤gZ)=true:=decide_eq_true c18
           clear c18
           by_cases c19:eO=true
           ·subst c19
            have H1:(if((rd_T43 ((rd_T35 aQ bU).f1) gZ).f0=true) then(regletref13_Empty.l2 k3 iX rB bU false (wrap64 (gZ+1)) aU aX bA bB aQ) else(if 0≤((rd_T43 ((rd_T35 aQ bU).f1) gZ).f1) then(if((rd_T43 ((rd_T35 aQ bU).f1) gZ).f1)<(iX.length:Int) then(regletref13_Empty.l2 k3 iX rB bU (rdOf false iX ((rd_T43 ((rd_T35 aQ bU).f1) gZ).f1)) (wrap64 (gZ+1)) aU aX bA bB aQ) else(none)) else(none)))=some r:=by rw [if_pos rfl] at H;exact H
            clear H
            have H:=H1
            clear H1
            obtain⟨bq20,hbq20⟩:∃b_:Bool,b_=((rd_T43 ((rd_T35 aQ bU).f1) gZ).f0):=⟨_,rfl⟩
            replace H:(if(bq20=true) then(regletref13_Empty.l2 k3 iX rB bU false (wrap64 (gZ+1)) aU aX bA bB aQ) else(if 0≤((rd_T43 ((rd_T35 aQ bU).f1) gZ).f1) then(if((rd_T43 ((rd_T35 aQ bU).f1) gZ).f1)<(iX.length:Int) then(regletref13_Empty.l2 k3 iX rB bU (rdOf false iX ((rd_T43 ((rd_T35 aQ bU).f1) gZ).f1)) (wrap64 (gZ+1)) aU aX bA bB aQ) else(none)) else(none)))=some r:=by rw [←hbq20] at H;exact H
            have Nbq20:=aM hbq20
            clear hbq20
            by_cases c21:(bq20=true)
            ·subst c21
             have H1:(regletref13_Empty.l2 k3 iX rB bU false (wrap64 (gZ+1)) aU aX bA bB aQ)=some r:=by rw [if_pos rfl] at H;exact H
             clear H
             have H:=H1
             clear H1
             have H':=aM H
             clear H
             have Ok:wr.cell? ⟨dP,0,none⟩=some (.slice bC aU.length bK):=(aG cB.out 0).trans rfl
             have Ol:wr.cell? ⟨dP,1,none⟩=some (.slice bM aX.length bO):=(aG cB.out 1).trans rfl
             have GM:wr.cell? ⟨dP,2,none⟩=some (.int .i64 bA):=(aG cB.out 2).trans rfl
             have GN:wr.cell? ⟨dP,3,none⟩=some (.int .i64 bB):=(aG cB.out 3).trans rfl
             have GO:wr.cell? ⟨dP,4,none⟩=some (.slice bQ aQ.length bP):=(aG cB.out 4).trans rfl
             have Om:=aH cB.out 0
             have On:=aH cB.out 1
             have GP:=aH cB.out 2
             have GQ:=aH cB.out 3
             have GR:=aH cB.out 4
             have p348:0≤(bU:Int):=of_decide_eq_true (by first|(with_reducible assumption)|assumption)
             have q348:bU<(aQ.length:Int):=of_decide_eq_true (by first|(with_reducible assumption)|assumption)
             obtain⟨mE,Az,Ba,e348,gI,fC,iM,iN⟩:=at_T35 dW.out bU p348 q348
             cases e348
             replace gI:=(HB.out.cell (World.block_lt_of_cell? w _ gI)).trans gI
             replace fC:=(HB.out.cell (World.block_lt_of_cell? w _ fC)).trans fC
             have uK:=aM iN
             have uL:=aM iM
             clear iN iM
             replace p348:=eq_true p348
             replace q348:=eq_true q348
             have p349:0≤(bU:Int):=of_decide_eq_true (by first|(with_reducible assumption)|assumption)
             have q349:bU<(aQ.length:Int):=of_decide_eq_true (by first|(with_reducible assumption)|assumption)
             obtain⟨Fq,Mg,Mh,e349,lL,jT,nT,nU⟩:=at_T35 dW.out bU p349 q349
             obtain rfl:mE=Fq:=(by injection e349)
             replace lL:=(HB.out.cell (World.block_lt_of_cell? w _ lL)).trans lL
             replace jT:=(HB.out.cell (World.block_lt_of_cell? w _ jT)).trans jT
             have uM:=aM nU
             have Jc:=aM nT
             clear nU nT
             replace p349:=eq_true p349
             replace q349:=eq_true q349
             have ea_:=Option.some.inj (fC.symm.trans jT)
             injection ea_ with ea_ en_ ec_
             subst ea_
             subst ec_
             clear en_
             have p350:0≤(gZ:Int):=of_decide_eq_true (by first|(with_reducible assumption)|assumption)
             have q350:gZ<(((rd_T35 aQ bU).f1).length:Int):=of_decide_eq_true (by first|(with_reducible assumption)|assumption)
             obtain⟨Uw,e350,kD,lM⟩:=at_T43 uM.out gZ p350 q350
             (try rw [←Nbq20.out] at kD)
             cases e350
             replace kD:=(HB.out.cell (World.block_lt_of_cell? w _ kD)).trans kD
             replace lM:=(HB.out.cell (World.block_lt_of_cell? w _ lM)).trans lM
             replace p350:=eq_true p350
             replace q350:=eq_true q350
             go_wp2_with (first|((with_reducible refine bJ (N:=8) rfl ?_);refine box_event ?hg (N:=8) ?hd (cs:=#[.bool false,.int .i64 0]) (t:=43) ?hr ?_;(case hd=>rfl);(case hg=>rfl);(case hr=>first|(go_simp;done)|(go_simp;rfl));intro iJ hg w23 hbox hb;have bY:=aM (aD (gR gG.out) hb);have bZ:=aM (bF (gB cB.out) hb);have cA:=aM (bG (gW HB.out) hb);have cC:=aM (hbox);have cQ:=aM ((by rw [hg];exact(bH (gW HB.out)):w.heap.size≤iJ));have dA:=aM ((by rw [hg];exact(bH (gW HB.out)):w.heap.size≤iJ));have dH:=aM ((by rw [hg];exact Nat.ne_of_lt (bN (g:=dP) (o:= .cells #[.slice bC aU.length bK,.slice bM aX.length bO,.int .i64 bA,.int .i64 bB,.slice (some mE) aQ.length bP] 26 (0,0)) (gB cB.out)):dP≠iJ));have eG:=aM ((by rw [hg];exact Nat.ne_of_gt (bN (g:=dP) (o:= .cells #[.slice bC aU.length bK,.slice bM aX.length bO,.int .i64 bA,.int .i64 bB,.slice (some mE) aQ.length bP] 26 (0,0)) (gB cB.out)):iJ≠dP));clear gG;clear cB;clear HB;have gG:=bY;have cB:=bZ;have HB:=cA;have lN:=cC;have GW351:=cQ;have Fr:=dA;have jA:=dH;have oV:=eG;clear bY bZ cA cC cQ dA dH eG;clear hb hbox hg;have hnb24:=oV.out;have hnc24:=jA.out;have yQ:w23.cell? ⟨iJ,0,none⟩=some (.bool false):=(aG lN.out 0).trans rfl;have yR:w23.cell? ⟨iJ,1,none⟩=some (.int .i64 0):=(aG lN.out 1).trans rfl;have yS:=aH lN.out 0;have yT:=aH lN.out 1))
             go_roundg k3
             case measure=>have:=HK1.out;have:=HK2.out;have:=HK3.out;omega
             case rel=>exact⟨(false),(wrap64 (gZ+1)),(by first|rfl|(simp;done)|(simp [*];done)),(by first|rfl|(simp;done)|(simp [*];done)),H',⟨by have:=HK1.out;have:=HK2.out;have:=HK3.out;omega⟩,⟨by(with_reducible repeat(first|apply aA|apply aB|apply aC));exact Kd.R_mono (aE (p:=⟨iJ,1,none⟩) (aE (p:=⟨iJ,0,none⟩) (Kd.R_types gG.out lN.out (by decide)) (fun _ hk=>hk.2) (.bool true)) (fun _ hk=>hk.2) (.int .i64 ((rd_T43 ((rd_T35 aQ bU).f1) gZ).f1))) (fun _ hk=>trivial)⟩,⟨by(with_reducible repeat(first|refine aJ ?_ _|refine aK ?_|refine aI ?_ _));refine blk_far ?_ jA.out _;(with_reducible repeat(first|refine aJ ?_ _|refine aK ?_|refine aI ?_ _));refine blk_far ?_ jA.out _;(with_reducible repeat(first|refine aJ ?_ _|refine aK ?_|refine aI ?_ _));exact cB.out⟩,⟨by repeat(first|(with_reducible first|exact HB.out|apply aN|apply aP|apply aO|refine aL ?_ Jb.out|refine aL ?_ Fr.out)|exact HB.out)⟩⟩
            ·replace c21:=Bool.eq_false_iff.mpr c21
             subst c21
             have H1:(if 0≤((rd_T43 ((rd_T35 aQ bU).f1) gZ).f1) then(if((rd_T43 ((rd_T35 aQ bU).f1) gZ).f1)<(iX.length:Int) then(regletref13_Empty.l2 k3 iX rB bU (rdOf false iX ((rd_T43 ((rd_T35 aQ bU).f1) gZ).f1)) (wrap64 (gZ+1)) aU aX bA bB aQ) else(none)) else(none))=some r:=by rw [if_neg (show ¬(false=true) by decide)] at H;exact H
             clear H
             have H:=H1
             clear H1
             by_cases c26:0≤((rd_T43 ((rd_T35 aQ bU).f1) gZ).f1)
             rotate_left
             ·rw [if_neg c26] at H
              exact absurd H (by simp)
             rw [if_pos c26] at H
             have uN:decide (0≤((rd_T43 ((rd_T35 aQ bU).f1) gZ).f1))=true:=decide_eq_true c26
             clear c26
             by_cases c27:((rd_T43 ((rd_T35 aQ bU).f1) gZ).f1)<(iX.length:Int)
             rotate_left
             ·rw [if_neg c27] at H
              exact absurd H (by simp)
             rw [if_pos c27] at H
             have OL:decide (((rd_T43 ((rd_T35 aQ bU).f1) gZ).f1)<(iX.length:Int))=true:=decide_eq_true c27
             clear c27
             have H':=aM H
             clear H
             have pZ:wr.cell? ⟨dP,0,none⟩=some (.slice bC aU.length bK):=(aG cB.out 0).trans rfl
             have qA:wr.cell? ⟨dP,1,none⟩=some (.slice bM aX.length bO):=(aG cB.out 1).trans rfl
             have Ce:wr.cell? ⟨dP,2,none⟩=some (.int .i64 bA):=(aG cB.out 2).trans rfl
             have Cf:wr.cell? ⟨dP,3,none⟩=some (.int .i64 bB):=(aG cB.out 3).trans rfl
             have Cg:wr.cell? ⟨dP,4,none⟩=some (.slice bQ aQ.length bP):=(aG cB.out 4).trans rfl
             have qB:=aH cB.out 0
             have qC:=aH cB.out 1
             have Ch:=aH cB.out 2
             have Ci:=aH cB.out 3
             have Cj:=aH cB.out 4
             have p348:0≤(bU:Int):=of_decide_eq_true (by first|(with_reducible assumption)|assumption)
             have q348:bU<(aQ.length:Int):=of_decide_eq_true (by first|(with_reducible assumption)|assumption)
             obtain⟨mE,Az,Ba,e348,gI,fC,iM,iN⟩:=at_T35 dW.out bU p348 q348
             cases e348
             replace gI:=(HB.out.cell (World.block_lt_of_cell? w _ gI)).trans gI
             replace fC:=(HB.out.cell (World.block_lt_of_cell? w _ fC)).trans fC
             have uK:=aM iN
             have uL:=aM iM
             clear iN iM
             replace p348:=eq_true p348
             replace q348:=eq_true q348
             have p349:0≤(bU:Int):=of_decide_eq_true (by first|(with_reducible assumption)|assumption)
             have q349:bU<(aQ.length:Int):=of_decide_eq_true (by first|(with_reducible assumption)|assumption)
             obtain⟨Fq,Mg,Mh,e349,lL,jT,nT,nU⟩:=at_T35 dW.out bU p349 q349
             obtain rfl:mE=Fq:=(by injection e349)
             replace lL:=(HB.out.cell (World.block_lt_of_cell? w _ lL)).trans lL
             replace jT:=(HB.out.cell (World.block_lt_of_cell? w _ jT)).trans jT
             have uM:=aM nU
             have Jc:=aM nT
             clear nU nT
             replace p349:=eq_true p349
             replace q349:=eq_true q349
             have ea_:=Option.some.inj (fC.symm.trans jT)
             injection ea_ with ea_ en_ ec_
             subst ea_
             subst ec_
             clear en_
             have p350:0≤(gZ:Int):=of_decide_eq_true (by first|(with_reducible assumption)|assumption)
             have q350:gZ<(((rd_T35 aQ bU).f1).length:Int):=of_decide_eq_true (by first|(with_reducible assumption)|assumption)
             obtain⟨Uw,e350,kD,lM⟩:=at_T43 uM.out gZ p350 q350
             (try rw [←Nbq20.out] at kD)
             cases e350
             replace kD:=(HB.out.cell (World.block_lt_of_cell? w _ kD)).trans kD
             replace lM:=(HB.out.cell (World.block_lt_of_cell? w _ lM)).trans lM
             replace p350:=eq_true p350
             replace q350:=eq_true q350
             go_wp2_with (first|((with_reducible refine bJ (N:=8) rfl ?_);refine box_event ?hg (N:=8) ?hd (cs:=#[.bool false,.int .i64 0]) (t:=43) ?hr ?_;(case hd=>rfl);(case hg=>rfl);(case hr=>first|(go_simp;done)|(go_simp;rfl));intro iJ hg w29 hbox hb;have bY:=aM (aD (gR gG.out) hb);have bZ:=aM (bF (gB cB.out) hb);have cA:=aM (bG (gW HB.out) hb);have cC:=aM (hbox);have cQ:=aM ((by rw [hg];exact(bH (gW HB.out)):w.heap.size≤iJ));have dA:=aM ((by rw [hg];exact(bH (gW HB.out)):w.heap.size≤iJ));have dH:=aM ((by rw [hg];exact Nat.ne_of_lt (bN (g:=dP) (o:= .cells #[.slice bC aU.length bK,.slice bM aX.length bO,.int .i64 bA,.int .i64 bB,.slice (some mE) aQ.length bP] 26 (0,0)) (gB cB.out)):dP≠iJ));have eG:=aM ((by rw [hg];exact Nat.ne_of_gt (bN (g:=dP) (o:= .cells #[.slice bC aU.length bK,.slice bM aX.length bO,.int .i64 bA,.int .i64 bB,.slice (some mE) aQ.length bP] 26 (0,0)) (gB cB.out)):iJ≠dP));clear gG;clear cB;clear HB;have gG:=bY;have cB:=bZ;have HB:=cA;have lN:=cC;have GW351:=cQ;have Fr:=dA;have jA:=dH;have oV:=eG;clear bY bZ cA cC cQ dA dH eG;clear hb hbox hg;have hnb30:=oV.out;have hnc30:=jA.out;have Pb:w29.cell? ⟨iJ,0,none⟩=some (.bool false):=(aG lN.out 0).trans rfl;have Pc:w29.cell? ⟨iJ,1,none⟩=some (.int .i64 0):=(aG lN.out 1).trans rfl;have Pd:=aH lN.out 0;have Pe:=aH lN.out 1;obtain⟨QI,QJ,LT⟩:=Kd.R_slice gG.out;subst LT;have p352:0≤(((rd_T43 ((rd_T35 aQ bU).f1) gZ).f1):Int):=of_decide_eq_true (by first|(with_reducible assumption)|assumption);have q352:((rd_T43 ((rd_T35 aQ bU).f1) gZ).f1)<(iX.length:Int):=of_decide_eq_true (by first|(with_reducible assumption)|assumption);obtain⟨Ux,e352,uO⟩:=Kd.at_bool (aF gG.out).2.2 ((rd_T43 ((rd_T35 aQ bU).f1) gZ).f1) p352 q352;(try rw [←Nbq20.out] at uO);cases e352;have hn352_0:Ux.block≠iJ:=Kd.own_blk (Kd.R_ne gG.out lN.out (by decide));have hn352_1:Ux.block≠iJ:=Kd.own_blk (Kd.R_ne gG.out lN.out (by decide));replace uO:=(cell_far (p:=⟨iJ,0,none⟩) (by first|(rw [add_block];exact hn352_0)|(show(Addr.add _ _).block≠_;rw [add_block];exact hn352_0)|exact hn352_0) (.bool false)).trans uO;replace uO:=(cell_far (p:=⟨iJ,1,none⟩) (by first|(rw [add_block];exact hn352_1)|(show(Addr.add _ _).block≠_;rw [add_block];exact hn352_1)|exact hn352_1) (.int .i64 ((rd_T43 ((rd_T35 aQ bU).f1) gZ).f1))).trans uO;clear hn352_0;clear hn352_1;replace p352:=eq_true p352;replace q352:=eq_true q352))
             go_roundg k3
             case measure=>have:=HK1.out;have:=HK2.out;have:=HK3.out;omega
             case rel=>exact⟨(rdOf false iX ((rd_T43 ((rd_T35 aQ bU).f1) gZ).f1)),(wrap64 (gZ+1)),(by first|rfl|(simp;done)|(simp [*];done)),(by first|rfl|(simp;done)|(simp [*];done)),H',⟨by have:=HK1.out;have:=HK2.out;have:=HK3.out;omega⟩,⟨by(with_reducible repeat(first|apply aA|apply aB|apply aC));exact Kd.R_mono (aE (p:=⟨iJ,1,none⟩) (aE (p:=⟨iJ,0,none⟩) (Kd.R_types gG.out lN.out (by decide)) (fun _ hk=>hk.2) (.bool false)) (fun _ hk=>hk.2) (.int .i64 ((rd_T43 ((rd_T35 aQ bU).f1) gZ).f1))) (fun _ hk=>trivial)⟩,⟨by(with_reducible repeat(first|refine aJ ?_ _|refine aK ?_|refine aI ?_ _));refine blk_far ?_ jA.out _;(with_reducible repeat(first|refine aJ ?_ _|refine aK ?_|refine aI ?_ _));refine blk_far ?_ jA.out _;(with_reducible repeat(first|refine aJ ?_ _|refine aK ?_|refine aI ?_ _));exact cB.out⟩,⟨by repeat(first|(with_reducible first|exact HB.out|apply aN|apply aP|apply aO|refine aL ?_ Jb.out|refine aL ?_ Fr.out)|exact HB.out)⟩⟩
           ·replace c19:=Bool.eq_false_iff.mpr c19
            subst c19
            have H1:(regletref13_Empty.l2 k3 iX rB bU false (wrap64 (gZ+1)) aU aX bA bB aQ)=some r:=by rw [if_neg (show ¬(false=true) by decide)] at H;exact H
            clear H
            have H:=H1
            clear H1
            have H':=aM H
            clear H
            have nV:wr.cell? ⟨dP,0,none⟩=some (.slice bC aU.length bK):=(aG cB.out 0).trans rfl
            have nW:wr.cell? ⟨dP,1,none⟩=some (.slice bM aX.length bO):=(aG cB.out 1).trans rfl
            have sQ:wr.cell? ⟨dP,2,none⟩=some (.int .i64 bA):=(aG cB.out 2).trans rfl
            have sR:wr.cell? ⟨dP,3,none⟩=some (.int .i64 bB):=(aG cB.out 3).trans rfl
            have sS:wr.cell? ⟨dP,4,none⟩=some (.slice bQ aQ.length bP):=(aG cB.out 4).trans rfl
            have nX:=aH cB.out 0
            have nY:=aH cB.out 1
            have sT:=aH cB.out 2
            have sU:=aH cB.out 3
            have sV:=aH cB.out 4
            have p348:0≤(bU:Int):=of_decide_eq_true (by first|(with_reducible assumption)|assumption)
            have q348:bU<(aQ.length:Int):=of_decide_eq_true (by first|(with_reducible assumption)|assumption)
            obtain⟨mE,Az,Ba,e348,gI,fC,iM,iN⟩:=at_T35 dW.out bU p348 q348
            cases e348
            replace gI:=(HB.out.cell (World.block_lt_of_cell? w _ gI)).trans gI
            replace fC:=(HB.out.cell (World.block_lt_of_cell? w _ fC)).trans fC
            have uK:=aM iN
            have uL:=aM iM
            clear iN iM
            replace p348:=eq_true p348
            replace q348:=eq_true q348
            have p349:0≤(bU:Int):=of_decide_eq_true (by first|(with_reducible assumption)|assumption)
            have q349:bU<(aQ.length:Int):=of_decide_eq_true (by first|(with_reducible assumption)|assumption)
            obtain⟨Fq,Mg,Mh,e349,lL,jT,nT,nU⟩:=at_T35 dW.out bU p349 q349
            obtain rfl:mE=Fq:=(by injection e349)
            replace lL:=(HB.out.cell (World.block_lt_of_cell? w _ lL)).trans lL
            replace jT:=(HB.out.cell (World.block_lt_of_cell? w _ jT)).trans jT
            have uM:=aM nU
            have Jc:=aM nT
            clear nU nT
            replace p349:=eq_true p349
            replace q349:=eq_true q349
            have ea_:=Option.some.inj (fC.symm.trans jT)
            injection ea_ with ea_ en_ ec_
            subst ea_
            subst ec_
            clear en_
            have p350:0≤(gZ:Int):=of_decide_eq_true (by first|(with_reducible assumption)|assumption)
            have q350:gZ<(((rd_T35 aQ bU).f1).length:Int):=of_decide_eq_true (by first|(with_reducible assumption)|assumption)
            obtain⟨Uw,e350,kD,lM⟩:=at_T43 uM.out gZ p350 q350
            cases e350
            replace kD:=(HB.out.cell (World.block_lt_of_cell? w _ kD)).trans kD
            replace lM:=(HB.out.cell (World.block_lt_of_cell? w _ lM)).trans lM
            replace p350:=eq_true p350
            replace q350:=eq_true q350
            go_wp2_with (first|((with_reducible refine bJ (N:=8) rfl ?_);refine box_event ?hg (N:=8) ?hd (cs:=#[.bool false,.int .i64 0]) (t:=43) ?hr ?_;(case hd=>rfl);(case hg=>rfl);(case hr=>first|(go_simp;done)|(go_simp;rfl));intro iJ hg w34 hbox hb;have bY:=aM (aD (gR gG.out) hb);have bZ:=aM (bF (gB cB.out) hb);have cA:=aM (bG (gW HB.out) hb);have cC:=aM (hbox);have cQ:=aM ((by rw [hg];exact(bH (gW HB.out)):w.heap.size≤iJ));have dA:=aM ((by rw [hg];exact(bH (gW HB.out)):w.heap.size≤iJ));have dH:=aM ((by rw [hg];exact Nat.ne_of_lt (bN (g:=dP) (o:= .cells #[.slice bC aU.length bK,.slice bM aX.length bO,.int .i64 bA,.int .i64 bB,.slice (some mE) aQ.length bP] 26 (0,0)) (gB cB.out)):dP≠iJ));have eG:=aM ((by rw [hg];exact Nat.ne_of_gt (bN (g:=dP) (o:= .cells #[.slice bC aU.length bK,.slice bM aX.length bO,.int .i64 bA,.int .i64 bB,.slice (some mE) aQ.length bP] 26 (0,0)) (gB cB.out)):iJ≠dP));clear gG;clear cB;clear HB;have gG:=bY;have cB:=bZ;have HB:=cA;have lN:=cC;have GW351:=cQ;have Fr:=dA;have jA:=dH;have oV:=eG;clear bY bZ cA cC cQ dA dH eG;clear hb hbox hg;have hnb35:=oV.out;have hnc35:=jA.out;have Ct:w34.cell? ⟨iJ,0,none⟩=some (.bool false):=(aG lN.out 0).trans rfl;have Cu:w34.cell? ⟨iJ,1,none⟩=some (.int .i64 0):=(aG lN.out 1).trans rfl;have Cv:=aH lN.out 0;have Cw:=aH lN.out 1))
            go_roundg k3
            case measure=>have:=HK1.out;have:=HK2.out;have:=HK3.out;omega
            case rel=>exact⟨(false),(wrap64 (gZ+1)),(by first|rfl|(simp;done)|(simp [*];done)),(by first|rfl|(simp;done)|(simp [*];done)),H',⟨by have:=HK1.out;have:=HK2.out;have:=HK3.out;omega⟩,⟨by(with_reducible repeat(first|apply aA|apply aB|apply aC));exact Kd.R_mono (aE (p:=⟨iJ,1,none⟩) (aE (p:=⟨iJ,0,none⟩) (Kd.R_types gG.out lN.out (by decide)) (fun _ hk=>hk.2) (.bool ((rd_T43 ((rd_T35 aQ bU).f1) gZ).f0))) (fun _ hk=>hk.2) (.int .i64 ((rd_T43 ((rd_T35 aQ bU).f1) gZ).f1))) (fun _ hk=>trivial)⟩,⟨by(with_reducible repeat(first|refine aJ ?_ _|refine aK ?_|refine aI ?_ _));refine blk_far ?_ jA.out _;(with_reducible repeat(first|refine aJ ?_ _|refine aK ?_|refine aI ?_ _));refine blk_far ?_ jA.out _;(with_reducible repeat(first|refine aJ ?_ _|refine aK ?_|refine aI ?_ _));exact cB.out⟩,⟨by repeat(first|(with_reducible first|exact HB.out|apply aN|apply aP|apply aO|refine aL ?_ Jb.out|refine aL ?_ Fr.out)|exact HB.out)⟩⟩
          ·rw [if_neg c17] at H
           have mD:decide (gZ<(((rd_T35 aQ bU).f1).length:Int))=false:=decide_eq_false c17
           clear c17
           by_cases c37:eO=true
           ·subst c37
            have H1:(if 0≤((rd_T35 aQ bU).f0) then(if((rd_T35 aQ bU).f0)<(iX.length:Int) then(if(rdOf false iX ((rd_T35 aQ bU).f0)=true) then(regletref13_Empty.l1 k3 iX rB (wrap64 (bU+1)) aU aX bA bB aQ) else(regletref13_Empty.l1 k3 (iX.set (((rd_T35 aQ bU).f0):Int).toNat true) true (wrap64 (bU+1)) aU aX bA bB aQ)) else(none)) else(none))=some r:=by rw [if_pos rfl] at H;exact H
            clear H
            have H:=H1
            clear H1
            by_cases c38:0≤((rd_T35 aQ bU).f0)
            rotate_left
            ·rw [if_neg c38] at H
             exact absurd H (by simp)
            rw [if_pos c38] at H
            have OM:decide (0≤((rd_T35 aQ bU).f0))=true:=decide_eq_true c38
            clear c38
            by_cases c39:((rd_T35 aQ bU).f0)<(iX.length:Int)
            rotate_left
            ·rw [if_neg c39] at H
             exact absurd H (by simp)
            rw [if_pos c39] at H
            have ON:decide (((rd_T35 aQ bU).f0)<(iX.length:Int))=true:=decide_eq_true c39
            clear c39
            obtain⟨bq40,hbq40⟩:∃b_:Bool,b_=(rdOf false iX ((rd_T35 aQ bU).f0)):=⟨_,rfl⟩
            replace H:(if(bq40=true) then(regletref13_Empty.l1 k3 iX rB (wrap64 (bU+1)) aU aX bA bB aQ) else(regletref13_Empty.l1 k3 (iX.set (((rd_T35 aQ bU).f0):Int).toNat true) true (wrap64 (bU+1)) aU aX bA bB aQ))=some r:=by rw [←hbq40] at H;exact H
            have Nbq40:=aM hbq40
            clear hbq40
            by_cases c41:(bq40=true)
            ·subst c41
             have H1:(regletref13_Empty.l1 k3 iX rB (wrap64 (bU+1)) aU aX bA bB aQ)=some r:=by rw [if_pos rfl] at H;exact H
             clear H
             have H:=H1
             clear H1
             have H':=aM H
             clear H
             have Ir:wr.cell? ⟨dP,0,none⟩=some (.slice bC aU.length bK):=(aG cB.out 0).trans rfl
             have Is:wr.cell? ⟨dP,1,none⟩=some (.slice bM aX.length bO):=(aG cB.out 1).trans rfl
             have Pj:wr.cell? ⟨dP,2,none⟩=some (.int .i64 bA):=(aG cB.out 2).trans rfl
             have Pk:wr.cell? ⟨dP,3,none⟩=some (.int .i64 bB):=(aG cB.out 3).trans rfl
             have Pl:wr.cell? ⟨dP,4,none⟩=some (.slice bQ aQ.length bP):=(aG cB.out 4).trans rfl
             have It:=aH cB.out 0
             have Iu:=aH cB.out 1
             have Pm:=aH cB.out 2
             have Pn:=aH cB.out 3
             have Po:=aH cB.out 4
             have p348:0≤(bU:Int):=of_decide_eq_true (by first|(with_reducible assumption)|assumption)
             have q348:bU<(aQ.length:Int):=of_decide_eq_true (by first|(with_reducible assumption)|assumption)
             obtain⟨mE,Az,Ba,e348,gI,fC,iM,iN⟩:=at_T35 dW.out bU p348 q348
             cases e348
             replace gI:=(HB.out.cell (World.block_lt_of_cell? w _ gI)).trans gI
             replace fC:=(HB.out.cell (World.block_lt_of_cell? w _ fC)).trans fC
             have uK:=aM iN
             have uL:=aM iM
             clear iN iM
             replace p348:=eq_true p348
             replace q348:=eq_true q348
             have p353:0≤(bU:Int):=of_decide_eq_true (by first|(with_reducible assumption)|assumption)
             have q353:bU<(aQ.length:Int):=of_decide_eq_true (by first|(with_reducible assumption)|assumption)
             obtain⟨Mi,Wy,Wz,e353,qP,mL,uP,uQ⟩:=at_T35 dW.out bU p353 q353
             obtain rfl:mE=Mi:=(by injection e353)
             replace qP:=(HB.out.cell (World.block_lt_of_cell? w _ qP)).trans qP
             replace mL:=(HB.out.cell (World.block_lt_of_cell? w _ mL)).trans mL
             have Qd:=aM uQ
             have Qe:=aM uP
             clear uQ uP
             replace p353:=eq_true p353
             replace q353:=eq_true q353
             have ea_:=Option.some.inj (fC.symm.trans mL)
             injection ea_ with ea_ en_ ec_
             subst ea_
             subst ec_
             clear en_
             obtain⟨tL,tM,Mj⟩:=Kd.R_slice gG.out
             subst Mj
             have p354:0≤(((rd_T35 aQ bU).f0):Int):=of_decide_eq_true (by first|(with_reducible assumption)|assumption)
             have q354:((rd_T35 aQ bU).f0)<(iX.length:Int):=of_decide_eq_true (by first|(with_reducible assumption)|assumption)
             obtain⟨AI,e354,zN⟩:=Kd.at_bool (aF gG.out).2.2 ((rd_T35 aQ bU).f0) p354 q354
             (try rw [←Nbq40.out] at zN)
             cases e354
             replace p354:=eq_true p354
             replace q354:=eq_true q354
             go_wp2
             go_roundg k3
             case measure=>have:=HK1.out;have:=HK2.out;have:=HK3.out;omega
             case rel=>exact⟨(iX),(rB),(wrap64 (bU+1)),(by first|rfl|(simp;done)|(simp [*];done)),(by first|rfl|(simp;done)|(simp [*];done)),H',⟨by have:=HK1.out;have:=HK2.out;have:=HK3.out;omega⟩,⟨gR gG.out⟩,⟨gB cB.out⟩,⟨gW HB.out⟩⟩
            ·replace c41:=Bool.eq_false_iff.mpr c41
             subst c41
             have H1:(regletref13_Empty.l1 k3 (iX.set (((rd_T35 aQ bU).f0):Int).toNat true) true (wrap64 (bU+1)) aU aX bA bB aQ)=some r:=by rw [if_neg (show ¬(false=true) by decide)] at H;exact H
             clear H
             have H:=H1
             clear H1
             obtain⟨y356,Fs⟩:∃y_:List Bool,y_=(iX.set (((rd_T35 aQ bU).f0):Int).toNat true):=⟨_,rfl⟩
             replace H:(regletref13_Empty.l1 k3 y356 true (wrap64 (bU+1)) aU aX bA bB aQ)=some r:=by first|(rw [Fs];with_reducible exact H)|(have H2_:=(Option.bind_some _ _).symm.trans H;rw [Fs];with_reducible exact H2_)|(have H2_:=(Option.bind_some _ _).symm.trans H;with_reducible exact H2_)|with_reducible exact H|(rw [Fs];exact H)|exact H
             have AJ:=aM Fs
             clear Fs
             have H':=aM H
             clear H
             have Pp:wr.cell? ⟨dP,0,none⟩=some (.slice bC aU.length bK):=(aG cB.out 0).trans rfl
             have Pq:wr.cell? ⟨dP,1,none⟩=some (.slice bM aX.length bO):=(aG cB.out 1).trans rfl
             have Pr:wr.cell? ⟨dP,2,none⟩=some (.int .i64 bA):=(aG cB.out 2).trans rfl
             have Ps:wr.cell? ⟨dP,3,none⟩=some (.int .i64 bB):=(aG cB.out 3).trans rfl
             have Pt:wr.cell? ⟨dP,4,none⟩=some (.slice bQ aQ.length bP):=(aG cB.out 4).trans rfl
             have Pu:=aH cB.out 0
             have Pv:=aH cB.out 1
             have Pw:=aH cB.out 2
             have Px:=aH cB.out 3
             have Py:=aH cB.out 4
             have p348:0≤(bU:Int):=of_decide_eq_true (by first|(with_reducible assumption)|assumption)
             have q348:bU<(aQ.length:Int):=of_decide_eq_true (by first|(with_reducible assumption)|assumption)
             obtain⟨mE,Az,Ba,e348,gI,fC,iM,iN⟩:=at_T35 dW.out bU p348 q348
             cases e348
             replace gI:=(HB.out.cell (World.block_lt_of_cell? w _ gI)).trans gI
             replace fC:=(HB.out.cell (World.block_lt_of_cell? w _ fC)).trans fC
             have uK:=aM iN
             have uL:=aM iM
             clear iN iM
             replace p348:=eq_true p348
             replace q348:=eq_true q348
             have p353:0≤(bU:Int):=of_decide_eq_true (by first|(with_reducible assumption)|assumption)
             have q353:bU<(aQ.length:Int):=of_decide_eq_true (by first|(with_reducible assumption)|assumption)
             obtain⟨Mi,Wy,Wz,e353,qP,mL,uP,uQ⟩:=at_T35 dW.out bU p353 q353
             obtain rfl:mE=Mi:=(by injection e353)
             replace qP:=(HB.out.cell (World.block_lt_of_cell? w _ qP)).trans qP
             replace mL:=(HB.out.cell (World.block_lt_of_cell? w _ mL)).trans mL
             have Qd:=aM uQ
             have Qe:=aM uP
             clear uQ uP
             replace p353:=eq_true p353
             replace q353:=eq_true q353
             have ea_:=Option.some.inj (fC.symm.trans mL)
             injection ea_ with ea_ en_ ec_
             subst ea_
             subst ec_
             clear en_
             obtain⟨Xa,Qf,Qg⟩:=Kd.R_slice gG.out
             subst Qg
             have p354:0≤(((rd_T35 aQ bU).f0):Int):=of_decide_eq_true (by first|(with_reducible assumption)|assumption)
             have q354:((rd_T35 aQ bU).f0)<(iX.length:Int):=of_decide_eq_true (by first|(with_reducible assumption)|assumption)
             obtain⟨AI,e354,zN⟩:=Kd.at_bool (aF gG.out).2.2 ((rd_T35 aQ bU).f0) p354 q354
             (try rw [←Nbq40.out] at zN)
             cases e354
             replace p354:=eq_true p354
             replace q354:=eq_true q354
             have p355:0≤(bU:Int):=of_decide_eq_true (by first|(with_reducible assumption)|assumption)
             have q355:bU<(aQ.length:Int):=of_decide_eq_true (by first|(with_reducible assumption)|assumption)
             obtain⟨AK,LU,LV,e355,Cx,zO,Jd,Je⟩:=at_T35 dW.out bU p355 q355
             obtain rfl:mE=AK:=(by injection e355)
             replace Cx:=(HB.out.cell (World.block_lt_of_cell? w _ Cx)).trans Cx
             replace zO:=(HB.out.cell (World.block_lt_of_cell? w _ zO)).trans zO
             have GS:=aM Je
             have GT:=aM Jd
             clear Je Jd
             replace p355:=eq_true p355
             replace q355:=eq_true q355
             have ea_:=Option.some.inj (fC.symm.trans zO)
             injection ea_ with ea_ en_ ec_
             subst ea_
             subst ec_
             clear en_
             have p44:0≤(((rd_T35 aQ bU).f0):Int):=of_decide_eq_true (by first|(with_reducible assumption)|assumption)
             have q44:(((rd_T35 aQ bU).f0):Int)<((iX.length:Int):Int):=of_decide_eq_true (by first|(with_reducible assumption)|assumption)
             obtain⟨go44,AL,Mk,AM,gl44,cl44,HG44⟩:=Kd.R_form gG.out (by omega)
             (first|cases Mk|(injection Mk with ea_ en_ ec_;(first|subst ea_|(injection ea_ with ea_;subst ea_));subst ec_;clear en_))
             have GB44:=aM AM
             have GG44:=aM HG44
             clear AM gl44 HG44
             (first|simp only [add_plain] at zN|skip)
             obtain⟨LW,hf44_0⟩:=Kd.R_celln false gG.out (((rd_T35 aQ bU).f0):Int) p44 q44
             replace p44:=eq_true p44
             replace q44:=eq_true q44
             have HP47:=Kd.R_putg gG.out (((rd_T35 aQ bU).f0):Int) true
             go_wp2_with (first|((with_reducible refine gate_store (t:=4) (p:=77) rfl ?_);refine store_event (t:=4) (p:=77) (v:=?vo_w48) (w1:=(wr.setCell ⟨go44,(((rd_T35 aQ bU).f0):Int).toNat,none⟩ (.bool true))) ?hg ?ho ?hn ?hr ?_;(case ho=>rfl);(case hg=>rfl);(case hn=>rfl);(case hr=>first|(go_simp;done)|(go_simp;rfl));intro w48 hw;have hg:wr.grownBy w48 (some go44):=(by rw [hw];exact HP47.2);have hp_:Kd.R Kd.bool 4 w48 w.heap.size (fun _=>True) (.slice (some ⟨go44,0,none⟩) iX.length Qf) y356:=(by rw [hw,AJ.out];exact HP47.1);clear HP47;have bY:=aM (hp_);have bZ:=aM (blk_grown (gB cB.out) hg (Kd.R_ne gG.out cB.out (by decide)));have cA:=aM ((by rw [hw];exact aL (HB.out) GB44.out:Below w.heap.size w w48));clear gG;clear cB;clear HB;have gG:=bY;have cB:=bZ;have HB:=cA;clear bY bZ cA;clear hg hw hp_))
             go_roundg k3
             case measure=>have:=HK1.out;have:=HK2.out;have:=HK3.out;omega
             case rel=>exact⟨(y356),(true),(wrap64 (bU+1)),(by first|rfl|(simp;done)|(simp [*];done)),(by first|rfl|(simp;done)|(simp [*];done)),H',⟨by have:=HK1.out;have:=HK2.out;have:=HK3.out;omega⟩,⟨gR gG.out⟩,⟨gB cB.out⟩,⟨gW HB.out⟩⟩
           ·replace c37:=Bool.eq_false_iff.mpr c37
            subst c37
            have H1:(regletref13_Empty.l1 k3 iX rB (wrap64 (bU+1)) aU aX bA bB aQ)=some r:=by rw [if_neg (show ¬(false=true) by decide)] at H;exact H
            clear H
            have H:=H1
            clear H1
            have H':=aM H
            clear H
            have GU:wr.cell? ⟨dP,0,none⟩=some (.slice bC aU.length bK):=(aG cB.out 0).trans rfl
            have GV:wr.cell? ⟨dP,1,none⟩=some (.slice bM aX.length bO):=(aG cB.out 1).trans rfl
            have GW:wr.cell? ⟨dP,2,none⟩=some (.int .i64 bA):=(aG cB.out 2).trans rfl
            have GX:wr.cell? ⟨dP,3,none⟩=some (.int .i64 bB):=(aG cB.out 3).trans rfl
            have GY:wr.cell? ⟨dP,4,none⟩=some (.slice bQ aQ.length bP):=(aG cB.out 4).trans rfl
            have GZ:=aH cB.out 0
            have HH:=aH cB.out 1
            have HV:=aH cB.out 2
            have HX:=aH cB.out 3
            have HY:=aH cB.out 4
            have p348:0≤(bU:Int):=of_decide_eq_true (by first|(with_reducible assumption)|assumption)
            have q348:bU<(aQ.length:Int):=of_decide_eq_true (by first|(with_reducible assumption)|assumption)
            obtain⟨mE,Az,Ba,e348,gI,fC,iM,iN⟩:=at_T35 dW.out bU p348 q348
            cases e348
            replace gI:=(HB.out.cell (World.block_lt_of_cell? w _ gI)).trans gI
            replace fC:=(HB.out.cell (World.block_lt_of_cell? w _ fC)).trans fC
            have uK:=aM iN
            have uL:=aM iM
            clear iN iM
            replace p348:=eq_true p348
            replace q348:=eq_true q348
            go_wp2
            go_roundg k3
            case measure=>have:=HK1.out;have:=HK2.out;have:=HK3.out;omega
            case rel=>exact⟨(iX),(rB),(wrap64 (bU+1)),(by first|rfl|(simp;done)|(simp [*];done)),(by first|rfl|(simp;done)|(simp [*];done)),H',⟨by have:=HK1.out;have:=HK2.out;have:=HK3.out;omega⟩,⟨gR gG.out⟩,⟨gB cB.out⟩,⟨gW HB.out⟩⟩
       ·rw [if_neg c13] at H
        have nS:decide (bU<(aQ.length:Int))=false:=decide_eq_false c13
        clear c13
        have H':=aM H
        clear H
        have zP:wr.cell? ⟨dP,0,none⟩=some (.slice bC aU.length bK):=(aG cB.out 0).trans rfl
        have zQ:wr.cell? ⟨dP,1,none⟩=some (.slice bM aX.length bO):=(aG cB.out 1).trans rfl
        have Qh:wr.cell? ⟨dP,2,none⟩=some (.int .i64 bA):=(aG cB.out 2).trans rfl
        have Qi:wr.cell? ⟨dP,3,none⟩=some (.int .i64 bB):=(aG cB.out 3).trans rfl
        have Qj:wr.cell? ⟨dP,4,none⟩=some (.slice bQ aQ.length bP):=(aG cB.out 4).trans rfl
        have zR:=aH cB.out 0
        have zS:=aH cB.out 1
        have Qk:=aH cB.out 2
        have Ql:=aH cB.out 3
        have Qm:=aH cB.out 4
        go_wp2
        go_roundg k2
        case measure=>have:=HK1.out;have:=HK2.out;omega
        case rel=>exact⟨(iX),(rB),(by first|rfl|(simp;done)|(simp [*];done)),H',⟨by have:=HK1.out;have:=HK2.out;omega⟩,⟨gR gG.out⟩,⟨gB cB.out⟩,⟨gW HB.out⟩⟩
    ·replace c12:=Bool.eq_false_iff.mpr c12
     subst c12
     have H1:(some dB)=some r:=by rw [if_neg (show ¬(false=true) by decide)] at H;exact H
     clear H
     have H:=H1
     clear H1
     obtain rfl:=Option.some.inj H
     go_wp2
     go_ret
     exact⟨_,by first|rfl|(simp [errW_none,errW_some]<;>rfl)|(simp [*,errW_none,errW_some]<;>rfl),gR gG.out,gW HB.out⟩
 ·replace c3:=Bool.eq_false_iff.mpr c3
  subst c3
  have H1:(some ([]:List Bool))=some r:=by rw [if_neg (show ¬(false=true) by decide)] at H;exact H
  clear H
  have H:=H1
  clear H1
  obtain rfl:=Option.some.inj H
  go_enter Try.func45,Try.ntmps45
  go_wp2_with (first|((with_reducible refine bJ (N:=1) rfl ?_);refine box_event ?hg (N:=1) ?hd (cs:=#[.slice bC aU.length bK,.slice bM aX.length bO,.int .i64 bA,.int .i64 bB,.slice bQ aQ.length bP]) (t:=26) ?hr ?_;(case hd=>rfl);(case hg=>rfl);(case hr=>first|(go_simp;done)|(go_simp;rfl));intro dP hg w51 hbox hb;have bY:=aM (bG (gW HB.out) hb);have bZ:=aM (hbox);have cA:=aM ((by rw [hg];exact(bH (gW HB.out)):w.heap.size≤dP));have cC:=aM ((by rw [hg];exact(bH (gW HB.out)):w.heap.size≤dP));clear HB;have HB:=bY;have cB:=bZ;have GW343:=cA;have Jb:=cC;clear bY bZ cA cC;clear hb hbox hg;have uR:w51.cell? ⟨dP,0,none⟩=some (.slice bC aU.length bK):=(aG cB.out 0).trans rfl;have uS:w51.cell? ⟨dP,1,none⟩=some (.slice bM aX.length bO):=(aG cB.out 1).trans rfl;have Qn:w51.cell? ⟨dP,2,none⟩=some (.int .i64 bA):=(aG cB.out 2).trans rfl;have Qo:w51.cell? ⟨dP,3,none⟩=some (.int .i64 bB):=(aG cB.out 3).trans rfl;have Qp:w51.cell? ⟨dP,4,none⟩=some (.slice bQ aQ.length bP):=(aG cB.out 4).trans rfl;have uT:=aH cB.out 0;have uU:=aH cB.out 1;have Qq:=aH cB.out 2;have Qr:=aH cB.out 3;have Qs:=aH cB.out 4)|((with_reducible refine bI (f:=30) rfl ?_);refine goesL_ (some 10) rfl rfl Try.func30 (by kernel_rfl) rfl #[.agg #[.slice bC aU.length bK,.slice bM aX.length bO,.int .i64 bA,.int .i64 bB,.slice bQ aQ.length bP]] rfl (by(try simp only [List.map_toArray,List.map_cons,List.map_nil]);first|done|rfl|(simp only [List.length_drop,List.length_take];rfl)) ?_;(with_reducible refine(regletref13_Right.calls k _ _ aU _ _ aX bA bB _ _ aQ false _ ?side1 ?side2 ?side3 ?side4 ?side5 ?side6 A2.out).mono ?_);(case side1=>exact gC (bD eS.out HB.out));(case side2=>exact eU.out);(case side3=>exact gC (bD eX.out HB.out));(case side4=>exact eY.out);(case side5=>exact gC (bD dW.out HB.out));(case side6=>exact eZ.out);rintro e w53 ⟨rfl,hb⟩;refine⟨_,rfl,?_⟩;have bY:=aM (bF (gB cB.out) hb);have bZ:=aM (bG (gW HB.out) hb);clear cB;clear HB;have cB:=bY;have HB:=bZ;clear bY bZ;(try clear hb);(try clear hb2);(try clear hk);(try clear hi)))
  go_ret
  exact⟨_,by first|rfl|(simp [errW_none,errW_some]<;>rfl)|(simp [*,errW_none,errW_some]<;>rfl),by first|exact Kd.R_nil _ _ _ _ _|exact Kd.N_nil _ _ _ _ _|exact Kd.V_nil _ _ _ _ _|exact Kd.Q_nil _ _ _ _ _|exact Kd.S_nil _ _ _ _ _,gW HB.out⟩
end Go.Proofs.Ytapjfnfengefpaa.P
end
