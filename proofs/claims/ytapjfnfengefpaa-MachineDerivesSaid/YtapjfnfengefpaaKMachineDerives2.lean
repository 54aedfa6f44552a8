/- Packed texts of this claim: the walks of the functions, and their plain laws; see the claim's last text. -/
import Derived.Test.YtapjfnfengefpaaProg
import Derived.Below
import Derived.Deep.Draws
import Derived.Deep.AppendLies
import Derived.Maps.AppendAt
import Derived.OwnWalk
import Derived.Laws.BytesArg
import Derived.Laws.MakeOwn
import Derived.Laws.OwnMore
import Derived.Deep.OwnRows
import Derived.Tactics
import Derived.Lib.ConvBytes
import Derived.Laws.Slices
import Derived.WalkKit
import Derived.KernelRfl
import Derived.RowKit3
import Derived.Deep.LoopGhost
import Derived.Deep.QuietTactic
import Derived.BigQuiet
import Derived.WideLaws
import Derived.Deep.DeepCutAuto
import Derived.Deep.CutBlock
import Derived.Deep.RegionHeld3
import Derived.Laws.Rows
import Derived.Lib.AppendStr
import Derived.ArgAppend
import Derived.Laws.IdiomCopy
import Derived.OrdersHeld
import Derived.Laws.BitsLemmas
import Derived.RowKit
import Derived.Laws.Runes
import Derived.Deep.Cut
import Derived.Shelf.Abstract
import Derived.Test.YtapjfnfengefpaaKMachineDerives1
section
namespace Go.Proofs.Ytapjfnfengefpaa.P
open Go.RowKit Go.Proofs.YtapjfnfengefpaaW.PrintWords Go.Proofs.YtapjfnfengefpaaW.PrintLast Go.Proofs.YtapjfnfengefpaaW.PrintMore
abbrev T:Bool:=true
abbrev F:Bool:=false
theorem pq:(∀(a:Act) (d:Option Tmp) (v:Value),a.put d v=match d with|none=>a|some i=>{a with tmps:=a.tmps.setIfInBounds i v})∧(∀(l:List Value) (i:Nat) (a:Value),l.toArray.setIfInBounds i a=(l.set i a).toArray)∧(∀(x:Value) (l:List Value) (a:Value),(x::l).set 0 a=a::l)∧(∀(x:Value) (l:List Value) (n:Nat) (a:Value),(x::l).set (n+1) a=x::l.set n a)∧(∀n,IntKind.i64.wrap n=wrap64 n)∧∀n,IntKind.i32.wrap n=wrap32 n:=⟨fun _ d _=>by cases d<;>rfl,fun _ _ _=>List.setIfInBounds_toArray ..,fun _ _ _=>rfl,fun _ _ _ _=>rfl,i64_w,i32_w⟩
abbrev aM:=@Aside0.mk
abbrev aA:=@Kd.R_alloc
abbrev aB:=@Kd.R_drewN
abbrev aC:=@Kd.R_drew
abbrev aD:=@Kd.R_below
abbrev aE:=@Kd.R_far
abbrev aF:=@Kd.R_reads'
abbrev aG:=@blk_cell
abbrev aH:=@blk_frozen
abbrev aI:=@blk_alloc
abbrev aJ:=@blk_drewN
abbrev aK:=@blk_drew
abbrev aL:=@below_set
abbrev aN:=@below_alloc
abbrev aO:=@below_drew1
abbrev aP:=@pw_below_drewN
abbrev aT:=@Kd.N_reads'
abbrev aV:=@Kd.S_drewN
abbrev aW:=@Kd.S_drew
abbrev aY:=@Kd.N_drewN
abbrev aZ:=@Kd.N_drew
abbrev bC:=@Kd.C_drew
abbrev bD:=@Kd.C_below
abbrev bE:=@Kd.R_elder'
abbrev bF:=@blk_below
abbrev bG:=@below_step
abbrev bH:=@below_size
abbrev bI:=@gate_callee
abbrev bJ:=@gate_dst
abbrev bL:=@Kd.R_lower
abbrev bN:=@blk_lt
abbrev Grew (w W:World):Prop:=Nonempty (Below w.heap.size w W)
theorem Grew.b {w W:World}(h:Grew w W):Below w.heap.size w W:=h.elim id
instance grew0 (w:World):Grew w w:=⟨Below.refl _ _⟩
instance grewA (w W:World) (o:Obj) [h:Grew w W]:Grew w (W.alloc o):=⟨aN h.b o⟩
instance grewN (w W:World) (n:Nat) [h:Grew w W]:Grew w (W.drewN n):=⟨aP h.b n⟩
instance grewD (w W:World) [h:Grew w W]:Grew w W.drew:=⟨aO h.b⟩
theorem gB {w W:World}{g:Nat}{o:Obj}(h:w.heap[g]?=some o) [k:Grew w W]:W.heap[g]?=some o:=bF h k.b
theorem gR {α:Type}{d:Kd α}{e base:Nat}{ok:Nat→Prop}{v:Value}{xs:List α}{w W:World}(h:d.R e w base ok v xs) [k:Grew w W]:d.R e W base ok v xs:=aD h k.b
theorem gS {α:Type}{d:Kd α}{e base:Nat}{ok:Nat→Prop}{v:Value}{xs:List α}{w W:World}(h:Kd.S d e w base ok v xs) [k:Grew w W]:Kd.S d e W base ok v xs:=Kd.S_below h k.b
theorem gN {α:Type}{d:Kd α}{e base:Nat}{ok:Nat→Prop}{v:Value}{xs:List α}{w W:World}(h:Kd.N d e w base ok v xs) [k:Grew w W]:Kd.N d e W base ok v xs:=Kd.N_below h k.b
theorem gC {α:Type}{d:Kd α}{A:Option Addr}{n:Nat}{xs:List α}{w W:World}(h:d.C w A n xs) [k:Grew w W]:d.C W A n xs:=bD h k.b
theorem gW {b w W:World}(h:Below b.heap.size b w) [k:Grew w W]:Below b.heap.size b W:=bG h k.b
attribute [local go_sem] max2_int min2_int max_two min_two max_three min_three max_four min_four   -- for this text's walks alone
set_option linter.unusedVariables false
set_option linter.unusedSimpArgs false
def errW:Option Int→Value
 |none=> .nilIface
 |some c=> .iface 0 (.int .i64 c)
theorem errW_none:errW none= .nilIface:=rfl
theorem errW_some (c:Int):errW (some c)= .iface 0 (.int .i64 c):=rfl
theorem info3:(Try.prog.info? 3).map (fun i=>(i.zero,i.size,i.bytes))=some (some (.int .i64 0),1,8):=by kernel_rfl
theorem info4:(Try.prog.info? 4).map (fun i=>(i.zero,i.size,i.bytes))=some (some (.bool false),1,1):=by kernel_rfl
theorem info32:(Try.prog.info? 32).map (fun i=>(i.zero,i.size,i.bytes))=some (some (.slice none 0 0),1,24):=by kernel_rfl
theorem info43:(Try.prog.info? 43).map (fun i=>(i.zero,i.size,i.bytes))=some (some (.agg #[(.bool false),(.int .i64 0)]),2,16):=by kernel_rfl
theorem info72:(Try.prog.info? 72).map (fun i=>(i.zero,i.size,i.bytes))=some (some (.agg #[(.string ⟨#[]⟩),(.int .i64 0),(.string ⟨#[]⟩),(.slice none 0 0),(.int .i64 0),(.int .i64 0),(.slice none 0 0)]),7,104):=by kernel_rfl
theorem info78:(Try.prog.info? 78).map (fun i=>(i.zero,i.size,i.bytes))=some (some (.agg #[(.int .i64 0),(.int .i64 0),(.int .i64 0),(.int .i64 0)]),4,32):=by kernel_rfl
theorem info90:(Try.prog.info? 90).map (fun i=>(i.zero,i.size,i.bytes))=some (some (.slice none 0 0),1,24):=by kernel_rfl
structure S43 where
 f0:Bool
 f1:Int
def z43:S43:=⟨false,(0:Int)⟩
def k43:Kd S43:=Kd.iso (Kd.pair Kd.bool (Kd.int .i64)) (fun x:S43=>(x.f0,x.f1))
theorem k43_open {w:World}{x:S43}{cs:List Value}(h:k43.K w x cs):cs= [.bool x.f0,.int .i64 x.f1]:=by
 obtain⟨_,_,rfl,rfl,rfl⟩:=h;exact rfl
theorem k43_openM {w:World}{base:Nat}{ok:Nat→Prop}{x:S43}{cs:List Value}(h:k43.M w base ok x cs):cs= [.bool x.f0,.int .i64 x.f1]:=by
 obtain⟨_,_,rfl,rfl,rfl⟩:=h;exact rfl
theorem k43_mkM (w:World) (base:Nat) (ok:Nat→Prop) (x:S43)  :k43.M w base ok x [.bool x.f0,.int .i64 x.f1]:=⟨[.bool x.f0],[.int .i64 x.f1],rfl,rfl,rfl⟩
def rd_T43 (xs:List S43) (i:Int):S43:=xs.getD i.toNat z43
theorem at_T43 {w:World}{A:Option Addr}{n:Nat}{xs:List S43}(h:Kd.C k43 w A n xs) (i:Int) (h0:0≤i) (h1:i<n):∃ad,A=some ad∧w.cell? (ad.add (i.toNat * 2))=some (.bool (rd_T43 xs i).f0)∧w.cell? ⟨(ad.add (i.toNat * 2)).block,(ad.add (i.toNat * 2)).off+1,none⟩=some (.int .i64 (rd_T43 xs i).f1):=by
 obtain⟨ad,c,e,_,hK,hc0⟩:=Kd.C_get h z43 i h0 h1;have hc:∀j u,c[j]?=some u→w.cell? (ad.add (i.toNat * 2+j))=some u:=hc0;obtain rfl:=k43_open hK;exact⟨ad,e,hc 0 _ rfl,by rw [←add_field _ _ 1 (by omega)];exact hc 1 _ rfl⟩
def rd_L5 (xs:List (List Int)) (i:Int):(List Int):=xs.getD i.toNat ([]:List Int)
theorem at_L5 {w:World}{A:Option Addr}{n:Nat}{xs:List (List Int)}(h:Kd.C (Kd.slice 3 (Kd.int .i64)) w A n xs) (i:Int) (h0:0≤i) (h1:i<n):∃ad A0 c0,A=some ad∧w.cell? (ad.add i.toNat)=some (.slice A0 (rd_L5 xs i).length c0)∧(rd_L5 xs i).length≤c0∧(Kd.int .i64).C w A0 (rd_L5 xs i).length (rd_L5 xs i):=by
 obtain⟨ad,c,e,_,hK,hc0⟩:=Kd.C_get h ([]:List Int) i h0 h1;have hc:∀j u,c[j]?=some u→w.cell? (ad.add (i.toNat * 1+j))=some u:=hc0;obtain⟨A0,c0,rfl,l0,g0⟩:=hK;exact⟨ad,A0,c0,e,by have hq:=hc 0 _ rfl;rwa [Nat.mul_one,Nat.add_zero] at hq,l0,g0⟩
structure S70 where
 f0:Int
 f1:ByteArray
 f2:(List Int)
 f3:Int
 f4:Int
 f5:(List S70)
def z70:S70:=⟨(0:Int),(⟨#[]⟩:ByteArray),([]:List Int),(0:Int),(0:Int),([]:List S70)⟩
def F70 (d:Kd S70):Kd S70:=Kd.iso (Kd.pair (Kd.int .i64) (Kd.pair Kd.string (Kd.pair (Kd.slice 3 (Kd.int .i64)) (Kd.pair (Kd.int .i64) (Kd.pair (Kd.int .i64) (Kd.slice 70 d)))))) (fun x:S70=>(x.f0,x.f1,x.f2,x.f3,x.f4,x.f5))
theorem mono70:Kd.Mono F70:=Kd.mono_iso _ (Kd.mono_pair (Kd.mono_const _) (Kd.mono_pair (Kd.mono_const _) (Kd.mono_pair (Kd.mono_const _) (Kd.mono_pair (Kd.mono_const _) (Kd.mono_pair (Kd.mono_const _) (Kd.mono_slice 70 Kd.mono_id))))))
theorem sub70:Kd.Sub F70 [3,70]:=Kd.sub_iso _ (Kd.sub_pair (Kd.sub_const _ (by decide)) (Kd.sub_pair (Kd.sub_const _ (by decide)) (Kd.sub_pair (Kd.sub_const _ (by decide)) (Kd.sub_pair (Kd.sub_const _ (by decide)) (Kd.sub_pair (Kd.sub_const _ (by decide)) (Kd.sub_slice 70 (by decide) Kd.sub_id))))))
theorem sz70:∀n,(Kd.upto F70 6 [3,70] n).sz=6:=Kd.upto_sz (fun _=>rfl)
def k70:Kd S70:=Kd.fix F70 6 [3,70] sz70 (Kd.upto_E sub70)
theorem k70_mk (w:World) (x:S70) {A2:Option Addr}{c2:Nat}(l2:x.f2.length≤c2) (g2:(Kd.int .i64).C w A2 x.f2.length x.f2) {A5:Option Addr}{c5:Nat}(l5:x.f5.length≤c5) (g5:k70.C w A5 x.f5.length x.f5):k70.K w x [.int .i64 x.f0,.string x.f1,.slice A2 x.f2.length c2,.int .i64 x.f3,.int .i64 x.f4,.slice A5 x.f5.length c5]:=by
 obtain⟨n5,q5⟩:=Kd.fix_C_back mono70 g5;have r5:=Kd.upto_C_le mono70 sz70 (show n5≤n5 by omega) q5;exact⟨n5+1,⟨[.int .i64 x.f0],[.string x.f1,.slice A2 x.f2.length c2,.int .i64 x.f3,.int .i64 x.f4,.slice A5 x.f5.length c5],rfl,rfl,⟨[.string x.f1],[.slice A2 x.f2.length c2,.int .i64 x.f3,.int .i64 x.f4,.slice A5 x.f5.length c5],rfl,rfl,⟨[.slice A2 x.f2.length c2],[.int .i64 x.f3,.int .i64 x.f4,.slice A5 x.f5.length c5],rfl,⟨A2,c2,rfl,l2,g2⟩,⟨[.int .i64 x.f3],[.int .i64 x.f4,.slice A5 x.f5.length c5],rfl,rfl,⟨[.int .i64 x.f4],[.slice A5 x.f5.length c5],rfl,rfl,⟨A5,c5,rfl,l5,r5⟩⟩⟩⟩⟩⟩⟩
theorem k70_mkM (w:World) (base:Nat) (ok:Nat→Prop) (x:S70) {v2:Value}(g2:(Kd.int .i64).R 3 w base ok v2 x.f2) {v5:Value}(g5:k70.R 70 w base ok v5 x.f5):k70.M w base ok x [.int .i64 x.f0,.string x.f1,v2,.int .i64 x.f3,.int .i64 x.f4,v5]:=by
 obtain⟨n5,q5⟩:=Kd.fix_R_back mono70 g5;have r5:=Kd.upto_R_le mono70 sz70 (show n5≤n5 by omega) q5;exact⟨n5+1,⟨[.int .i64 x.f0],[.string x.f1,v2,.int .i64 x.f3,.int .i64 x.f4,v5],rfl,rfl,⟨[.string x.f1],[v2,.int .i64 x.f3,.int .i64 x.f4,v5],rfl,rfl,⟨[v2],[.int .i64 x.f3,.int .i64 x.f4,v5],rfl,⟨v2,rfl,g2⟩,⟨[.int .i64 x.f3],[.int .i64 x.f4,v5],rfl,rfl,⟨[.int .i64 x.f4],[v5],rfl,rfl,⟨v5,rfl,r5⟩⟩⟩⟩⟩⟩⟩
structure S72 where
 f0:ByteArray
 f1:S70
def z72:S72:=⟨(⟨#[]⟩:ByteArray),z70⟩
def k72:Kd S72:=Kd.iso (Kd.pair Kd.string k70) (fun x:S72=>(x.f0,x.f1))
theorem k72_mk (w:World) (x:S72) {A3:Option Addr}{c3:Nat}(l3:x.f1.f2.length≤c3) (g3:(Kd.int .i64).C w A3 x.f1.f2.length x.f1.f2) {A6:Option Addr}{c6:Nat}(l6:x.f1.f5.length≤c6) (g6:k70.C w A6 x.f1.f5.length x.f1.f5):k72.K w x [.string x.f0,.int .i64 x.f1.f0,.string x.f1.f1,.slice A3 x.f1.f2.length c3,.int .i64 x.f1.f3,.int .i64 x.f1.f4,.slice A6 x.f1.f5.length c6]:=⟨[.string x.f0],[.int .i64 x.f1.f0,.string x.f1.f1,.slice A3 x.f1.f2.length c3,.int .i64 x.f1.f3,.int .i64 x.f1.f4,.slice A6 x.f1.f5.length c6],rfl,rfl,(k70_mk w x.f1 l3 g3 l6 g6)⟩
theorem k72_mkM (w:World) (base:Nat) (ok:Nat→Prop) (x:S72) {v3:Value}(g3:(Kd.int .i64).R 3 w base ok v3 x.f1.f2) {v6:Value}(g6:k70.R 70 w base ok v6 x.f1.f5):k72.M w base ok x [.string x.f0,.int .i64 x.f1.f0,.string x.f1.f1,v3,.int .i64 x.f1.f3,.int .i64 x.f1.f4,v6]:=⟨[.string x.f0],[.int .i64 x.f1.f0,.string x.f1.f1,v3,.int .i64 x.f1.f3,.int .i64 x.f1.f4,v6],rfl,rfl,(k70_mkM w base ok x.f1 g3 g6)⟩
theorem k72_mkF (W:World) (ok:Nat→Prop) (x:S72) {A3:Option Addr}{c3:Nat}(l3:x.f1.f2.length≤c3) (g3:Kd.F (Kd.int .i64) W ok A3 x.f1.f2.length x.f1.f2) {A6:Option Addr}{c6:Nat}(l6:x.f1.f5.length≤c6) (g6:Kd.F k70 W ok A6 x.f1.f5.length x.f1.f5):Kd.FK k72 W ok x [.string x.f0,.int .i64 x.f1.f0,.string x.f1.f1,.slice A3 x.f1.f2.length c3,.int .i64 x.f1.f3,.int .i64 x.f1.f4,.slice A6 x.f1.f5.length c6]:=fun W2 hW=>k72_mk W2 x l3 (g3 W2 hW) l6 (g6 W2 hW)
structure S35 where
 f0:Int
 f1:(List S43)
def z35:S35:=⟨(0:Int),([]:List S43)⟩
def k35:Kd S35:=Kd.iso (Kd.pair (Kd.int .i64) (Kd.slice 43 k43)) (fun x:S35=>(x.f0,x.f1))
theorem k35_open {w:World}{x:S35}{cs:List Value}(h:k35.K w x cs):∃A1 c1,cs= [.int .i64 x.f0,.slice A1 x.f1.length c1]∧x.f1.length≤c1∧k43.C w A1 x.f1.length x.f1:=by
 obtain⟨_,_,rfl,rfl,⟨A1,c1,rfl,l1,g1⟩⟩:=h;exact⟨A1,c1,rfl,l1,g1⟩
theorem k35_openM {w:World}{base:Nat}{ok:Nat→Prop}{x:S35}{cs:List Value}(h:k35.M w base ok x cs):∃v1,cs= [.int .i64 x.f0,v1]∧k43.R 43 w base ok v1 x.f1:=by
 obtain⟨_,_,rfl,rfl,⟨v1,rfl,g1⟩⟩:=h;exact⟨v1,rfl,g1⟩
theorem k35_mk (w:World) (x:S35) {A1:Option Addr}{c1:Nat}(l1:x.f1.length≤c1) (g1:k43.C w A1 x.f1.length x.f1):k35.K w x [.int .i64 x.f0,.slice A1 x.f1.length c1]:=⟨[.int .i64 x.f0],[.slice A1 x.f1.length c1],rfl,rfl,⟨A1,c1,rfl,l1,g1⟩⟩
theorem k35_mkM (w:World) (base:Nat) (ok:Nat→Prop) (x:S35) {v1:Value}(g1:k43.R 43 w base ok v1 x.f1):k35.M w base ok x [.int .i64 x.f0,v1]:=⟨[.int .i64 x.f0],[v1],rfl,rfl,⟨v1,rfl,g1⟩⟩
theorem k35_mkF (W:World) (ok:Nat→Prop) (x:S35) {A1:Option Addr}{c1:Nat}(l1:x.f1.length≤c1) (g1:Kd.F k43 W ok A1 x.f1.length x.f1):Kd.FK k35 W ok x [.int .i64 x.f0,.slice A1 x.f1.length c1]:=fun W2 hW=>k35_mk W2 x l1 (g1 W2 hW)
def rd_T35 (xs:List S35) (i:Int):S35:=xs.getD i.toNat z35
theorem at_T35 {w:World}{A:Option Addr}{n:Nat}{xs:List S35}(h:Kd.C k35 w A n xs) (i:Int) (h0:0≤i) (h1:i<n):∃ad A1 c1,A=some ad∧w.cell? (ad.add (i.toNat * 2))=some (.int .i64 (rd_T35 xs i).f0)∧w.cell? ⟨(ad.add (i.toNat * 2)).block,(ad.add (i.toNat * 2)).off+1,none⟩=some (.slice A1 (rd_T35 xs i).f1.length c1)∧(rd_T35 xs i).f1.length≤c1∧k43.C w A1 (rd_T35 xs i).f1.length (rd_T35 xs i).f1:=by
 obtain⟨ad,c,e,_,hK,hc0⟩:=Kd.C_get h z35 i h0 h1;have hc:∀j u,c[j]?=some u→w.cell? (ad.add (i.toNat * 2+j))=some u:=hc0;obtain⟨A1,c1,rfl,l1,g1⟩:=k35_open hK;exact⟨ad,A1,c1,e,hc 0 _ rfl,by rw [←add_field _ _ 1 (by omega)];exact hc 1 _ rfl,l1,g1⟩
def rd_L17 (xs:List (List Bool)) (i:Int):(List Bool):=xs.getD i.toNat ([]:List Bool)
theorem at_L17 {w:World}{A:Option Addr}{n:Nat}{xs:List (List Bool)}(h:Kd.C (Kd.slice 4 Kd.bool) w A n xs) (i:Int) (h0:0≤i) (h1:i<n):∃ad A0 c0,A=some ad∧w.cell? (ad.add i.toNat)=some (.slice A0 (rd_L17 xs i).length c0)∧(rd_L17 xs i).length≤c0∧Kd.bool.C w A0 (rd_L17 xs i).length (rd_L17 xs i):=by
 obtain⟨ad,c,e,_,hK,hc0⟩:=Kd.C_get h ([]:List Bool) i h0 h1;have hc:∀j u,c[j]?=some u→w.cell? (ad.add (i.toNat * 1+j))=some u:=hc0;obtain⟨A0,c0,rfl,l0,g0⟩:=hK;exact⟨ad,A0,c0,e,by have hq:=hc 0 _ rfl;rwa [Nat.mul_one,Nat.add_zero] at hq,l0,g0⟩
structure S78 where
 f0:Int
 f1:Int
 f2:Int
 f3:Int
def k78:Kd S78:=Kd.iso (Kd.pair (Kd.int .i64) (Kd.pair (Kd.int .i64) (Kd.pair (Kd.int .i64) (Kd.int .i64)))) (fun x:S78=>(x.f0,x.f1,x.f2,x.f3))
theorem k78_mkM (w:World) (base:Nat) (ok:Nat→Prop) (x:S78)  :k78.M w base ok x [.int .i64 x.f0,.int .i64 x.f1,.int .i64 x.f2,.int .i64 x.f3]:=⟨[.int .i64 x.f0],[.int .i64 x.f1,.int .i64 x.f2,.int .i64 x.f3],rfl,rfl,⟨[.int .i64 x.f1],[.int .i64 x.f2,.int .i64 x.f3],rfl,rfl,⟨[.int .i64 x.f2],[.int .i64 x.f3],rfl,rfl,rfl⟩⟩⟩
attribute [local go_sem] max2_int min2_int max_two min_two max_three min_three max_four min_four   -- for this text's walks alone
set_option linter.unusedVariables false
set_option linter.unusedSimpArgs false
def regletref13_list.l0:Nat→List Bool→List Int→Int→Option (List Int)
 |0,_,_,_=>none
 |k+1,x0,x3,x4=>if x4<(x0.length:Int) then(if 0≤x4 then(if rdOf false x0 x4=true then(if x3.length<17592186044416 then(regletref13_list.l0 k x0 (x3++ [x4]) (wrap64 (x4+1))) else(none)) else(regletref13_list.l0 k x0 x3 (wrap64 (x4+1)))) else(none)) else(some x3)
def regletref13_list.f (k:Nat) (l0:List Bool):Option (List Int):=regletref13_list.l0 k l0 ([]:List Int) 0
set_option maxHeartbeats 8000000 in
set_option maxRecDepth 100000 in
theorem regletref13_list.calls (k:Nat) (A0:Option Addr) (c0:Nat) (l0:List Bool) (r:List Int) (w:World) (hr0:Kd.C Kd.bool w A0 l0.length l0) (hc0:l0.length≤c0) (h:regletref13_list.f k l0=some r):
 Calls Try.prog 49 #[.slice A0 l0.length c0] w fun e w'=>∃v0_:Value,e= .returned (v0_)∧Kd.R (Kd.int .i64) 3 w' w.heap.size (fun _=>True) v0_ r∧Below w.heap.size w w':=by
 have HR0:=aM hr0;have HC0:=aM hc0;clear hr0 hc0;have HB:=aM (Below.refl w.heap.size w);have H:(regletref13_list.l0 k l0 ([]:List Int) 0)=some r:=h;clear h;have H':=aM H;clear H;go_enter Try.func49,Try.ntmps49
 go_wp2
 go_loopg [3,4] k (fun kq v3 v4 w'=>∃(dD:List Int) (bY:Int),v4= .int .i64 bY∧Aside0 (regletref13_list.l0 kq l0 dD bY=some r)∧Aside0 (kq≤k)∧Aside0 (Kd.R (Kd.int .i64) 3 w' w.heap.size (fun _=>True) v3 dD)∧Aside0 (Below w.heap.size w w'))
 case atStart=>exact⟨(([]:List Int)),(0),(by first|rfl|(simp;done)|(simp [*];done)),H',⟨Nat.le_refl _⟩,⟨by first|exact Kd.R_nil _ _ _ _ _|exact Kd.N_nil _ _ _ _ _|exact Kd.V_nil _ _ _ _ _|exact Kd.Q_nil _ _ _ _ _|exact Kd.S_nil _ _ _ _ _⟩,⟨gW HB.out⟩⟩
 case round=>
  clear H';obtain⟨dD,bY,rfl,HA,HK1,fI,HB⟩:=hrel
  cases gk with
  |zero=>exact absurd HA.out (by simp [regletref13_list.l0])
  |succ k1=>
   have H:=HA.out;clear HA;simp only [regletref13_list.l0] at H
   by_cases c2:bY<(l0.length:Int)
   ·rw [if_pos c2] at H
    have Rh:decide (bY<(l0.length:Int))=true:=decide_eq_true c2;clear c2
    by_cases c3:0≤bY
    rotate_left
    ·rw [if_neg c3] at H
     exact absurd H (by simp)
    rw [if_pos c3] at H;have pM:decide (0≤bY)=true:=decide_eq_true c3;clear c3;obtain⟨bq4,hbq4⟩:∃b_:Bool,b_=(rdOf false l0 bY):=⟨_,rfl⟩;replace H:(if bq4=true then(if dD.length<17592186044416 then(regletref13_list.l0 k1 l0 (dD++ [bY]) (wrap64 (bY+1))) else(none)) else(regletref13_list.l0 k1 l0 dD (wrap64 (bY+1))))=some r:=by rw [←hbq4] at H;exact H
    have Nbq4:=aM hbq4;clear hbq4
    by_cases c5:bq4=true
    ·subst c5
     have H1:(if dD.length<17592186044416 then(regletref13_list.l0 k1 l0 (dD++ [bY]) (wrap64 (bY+1))) else(none))=some r:=by rw [if_pos rfl] at H;exact H
     clear H;have H:=H1;clear H1
     by_cases c6:dD.length<17592186044416
     rotate_left
     ·rw [if_neg c6] at H
      exact absurd H (by simp)
     rw [if_pos c6] at H;have Ri:=aM c6;clear c6;obtain⟨y385,zJ⟩:∃y_:List Int,y_=(dD++ [bY]):=⟨_,rfl⟩;replace H:(regletref13_list.l0 k1 l0 y385 (wrap64 (bY+1)))=some r:=by first|(rw [zJ];with_reducible exact H)|(have H2_:=(Option.bind_some _ _).symm.trans H;rw [zJ];with_reducible exact H2_)|(have H2_:=(Option.bind_some _ _).symm.trans H;with_reducible exact H2_)|with_reducible exact H|(rw [zJ];exact H)|exact H
     have Sz:=aM zJ;clear zJ;have H':=aM H;clear H;have p384:0≤(bY:Int):=of_decide_eq_true (by first|(with_reducible assumption)|assumption);have q384:bY<(l0.length:Int):=of_decide_eq_true (by first|(with_reducible assumption)|assumption);obtain⟨Ta,e384,kZ⟩:=Kd.at_bool HR0.out bY p384 q384
     (try rw [←Nbq4.out] at kZ)
     cases e384;replace kZ:=(HB.out.cell (World.block_lt_of_cell? w _ kZ)).trans kZ;replace p384:=eq_true p384;replace q384:=eq_true q384
     go_wp2_with (first|((with_reducible refine gate_builtin (b:= .append) (xs:=#[.tmp 15,.tmp 17]) rfl ?_);at_builtin;refine Kd.R_append (Kd.int .i64) (w0:=w) w.heap.size rfl (.tmp 15) (.tmp 17) 32 3 (.int .i64 0) 8 rfl Try.underlying32 info3 rfl (by decide) (by omega) u3 dD bY [.int .i64 bY] (fun _=>True) (fun _=>False) rfl rfl ?aP (fun _ hk=>hk.elim) ?aF ?aO ?aB ?aS ?aL ?_;(case aP=>exact rfl);(case aB=>exact(gW HB.out));(case aF=>exact(fun _ _=>trivial));(case aO=>exact(gR fI.out));(case aS=>exact(bH (gW HB.out)));(case aL=>have:=Ri.out;omega);intro v386 w7 ho hb hg hat;rw [←Sz.out] at ho;have cH:=aM (hb);have cI:=aM (ho);clear HB;clear fI;have HB:=cH;have Tb:=cI;clear cH cI;clear ho hb hg hat))
     go_roundg k1
     case measure=>have:=HK1.out;omega
     case rel=>exact⟨(y385),(wrap64 (bY+1)),(by first|rfl|(simp;done)|(simp [*];done)),H',⟨by have:=HK1.out;omega⟩,⟨gR Tb.out⟩,⟨gW HB.out⟩⟩
    ·replace c5:=Bool.eq_false_iff.mpr c5
     subst c5;have H1:(regletref13_list.l0 k1 l0 dD (wrap64 (bY+1)))=some r:=by rw [if_neg (show ¬(false=true) by decide)] at H;exact H
     clear H;have H:=H1;clear H1;have H':=aM H;clear H;have p384:0≤(bY:Int):=of_decide_eq_true (by first|(with_reducible assumption)|assumption);have q384:bY<(l0.length:Int):=of_decide_eq_true (by first|(with_reducible assumption)|assumption);obtain⟨Ta,e384,kZ⟩:=Kd.at_bool HR0.out bY p384 q384
     (try rw [←Nbq4.out] at kZ)
     cases e384;replace kZ:=(HB.out.cell (World.block_lt_of_cell? w _ kZ)).trans kZ;replace p384:=eq_true p384;replace q384:=eq_true q384;go_wp2
     go_roundg k1
     case measure=>have:=HK1.out;omega
     case rel=>exact⟨(dD),(wrap64 (bY+1)),(by first|rfl|(simp;done)|(simp [*];done)),H',⟨by have:=HK1.out;omega⟩,⟨gR fI.out⟩,⟨gW HB.out⟩⟩
   ·rw [if_neg c2] at H
    have Rh:decide (bY<(l0.length:Int))=false:=decide_eq_false c2;clear c2;obtain rfl:=Option.some.inj H;go_wp2
    go_ret
    exact⟨_,by first|rfl|(simp [errW_none,errW_some]<;>rfl)|(simp [*,errW_none,errW_some]<;>rfl),gR fI.out,gW HB.out⟩
def regletref13_lists.l0:Nat→List (List Bool)→List (List Int)→Int→Option ((List (List Int)))
 |0,_,_,_=>none
 |k+1,x0,x3,x4=>if x4<(x0.length:Int) then(if 0≤x4 then((regletref13_list.f k (rd_L17 x0 x4)).bind fun t389=>(if x3.length<5864062014805 then(regletref13_lists.l0 k x0 (x3++ [t389]) (wrap64 (x4+1))) else(none))) else(none)) else(some x3)
def regletref13_lists.f (k:Nat) (l0:List (List Bool)):Option ((List (List Int))):=regletref13_lists.l0 k l0 ([]:List (List Int)) 0
set_option maxHeartbeats 8000000 in
set_option maxRecDepth 100000 in
theorem regletref13_lists.calls (k:Nat) (A0:Option Addr) (c0:Nat) (l0:List (List Bool)) (r:List (List Int)) (w:World) (hr0:Kd.C (Kd.slice 4 Kd.bool) w A0 l0.length l0) (hc0:l0.length≤c0) (h:regletref13_lists.f k l0=some r):
 Calls Try.prog 48 #[.slice A0 l0.length c0] w fun e w'=>∃v0_:Value,e= .returned (v0_)∧Kd.S (Kd.slice 3 (Kd.int .i64)) 32 w' w.heap.size (fun _=>True) v0_ r∧Below w.heap.size w w':=by
 have HR0:=aM hr0;have HC0:=aM hc0;clear hr0 hc0;have HB:=aM (Below.refl w.heap.size w);have H:(regletref13_lists.l0 k l0 ([]:List (List Int)) 0)=some r:=h;clear h;have H':=aM H;clear H;go_enter Try.func48,Try.ntmps48
 go_wp2
 go_loopg [3,4] k (fun kq v3 v4 w'=>∃(dD:List (List Int)) (bY:Int),v4= .int .i64 bY∧Aside0 (regletref13_lists.l0 kq l0 dD bY=some r)∧Aside0 (kq≤k)∧Aside0 (Kd.S (Kd.slice 3 (Kd.int .i64)) 32 w' w.heap.size (fun _=>True) v3 dD)∧Aside0 (Below w.heap.size w w'))
 case atStart=>exact⟨(([]:List (List Int))),(0),(by first|rfl|(simp;done)|(simp [*];done)),H',⟨Nat.le_refl _⟩,⟨by first|exact Kd.S_nil _ _ _ _ _|exact Kd.N_nil _ _ _ _ _|exact Kd.V_nil _ _ _ _ _|exact Kd.Q_nil _ _ _ _ _|exact Kd.R_nil _ _ _ _ _⟩,⟨gW HB.out⟩⟩
 case round=>
  clear H';obtain⟨dD,bY,rfl,HA,HK1,fI,HB⟩:=hrel
  cases gk with
  |zero=>exact absurd HA.out (by simp [regletref13_lists.l0])
  |succ k1=>
   have H:=HA.out;clear HA;simp only [regletref13_lists.l0] at H
   by_cases c2:bY<(l0.length:Int)
   ·rw [if_pos c2] at H
    have Rh:decide (bY<(l0.length:Int))=true:=decide_eq_true c2;clear c2
    by_cases c3:0≤bY
    rotate_left
    ·rw [if_neg c3] at H
     exact absurd H (by simp)
    rw [if_pos c3] at H;have pM:decide (0≤bY)=true:=decide_eq_true c3;clear c3;replace H:=Option.bind_eq_some_iff.mp H;obtain⟨t389,A40,H⟩:=H;replace H:(if dD.length<5864062014805 then(regletref13_lists.l0 k1 l0 (dD++ [t389]) (wrap64 (bY+1))) else(none))=some r:=H;have A4:=aM A40;clear A40
    by_cases c5:dD.length<5864062014805
    rotate_left
    ·rw [if_neg c5] at H
     exact absurd H (by simp)
    rw [if_pos c5] at H;have EH:=aM c5;clear c5;obtain⟨y392,zK⟩:∃y_:List (List Int),y_=(dD++ [t389]):=⟨_,rfl⟩;replace H:(regletref13_lists.l0 k1 l0 y392 (wrap64 (bY+1)))=some r:=by first|(rw [zK];with_reducible exact H)|(have H2_:=(Option.bind_some _ _).symm.trans H;rw [zK];with_reducible exact H2_)|(have H2_:=(Option.bind_some _ _).symm.trans H;with_reducible exact H2_)|with_reducible exact H|(rw [zK];exact H)|exact H
    have Tc:=aM zK;clear zK;have H':=aM H;clear H;have p388:0≤(bY:Int):=of_decide_eq_true (by first|(with_reducible assumption)|assumption);have q388:bY<(l0.length:Int):=of_decide_eq_true (by first|(with_reducible assumption)|assumption);obtain⟨IQ,Rj,Rk,e388,wM,Dj,Dk⟩:=at_L17 HR0.out bY p388 q388
    cases e388;replace wM:=(HB.out.cell (World.block_lt_of_cell? w _ wM)).trans wM;have Ju:=aM Dk;have Jv:=aM Dj;clear Dk Dj;replace p388:=eq_true p388;replace q388:=eq_true q388
    go_wp2_with (first|((with_reducible refine bI (f:=49) rfl ?_);refine goesL_ (some 16) rfl rfl Try.func49 (by kernel_rfl) rfl #[.slice Rj (rd_L17 l0 bY).length Rk] rfl (by(try simp only [List.map_toArray,List.map_cons,List.map_nil]);first|done|rfl|(simp only [List.length_drop,List.length_take];rfl)) ?_;(with_reducible refine(regletref13_list.calls k1 _ _ (rd_L17 l0 bY) t389 _ ?side1 ?side2 A4.out).mono ?_);(case side1=>exact gC (bD Ju.out HB.out));(case side2=>exact Jv.out);rintro e w6 ⟨v390,rfl,ho0,hb⟩;refine⟨_,rfl,?_⟩;have cH:=aM (Kd.S_elder' (gS fI.out) (Kd.R_base ho0) hb);have cI:=aM (bL ho0 (bH (gW HB.out)));have cK:=aM (bG (gW HB.out) hb);clear fI;clear HB;have fI:=cH;have Dl:=cI;have HB:=cK;clear cH cI cK;(try clear hb);(try clear hb2);(try clear hk);(try clear hi);(try clear ho0);obtain⟨IR,EI,Yt⟩:=Kd.R_slice Dl.out;subst Yt)|((with_reducible refine gate_builtin (b:= .append) (xs:=#[.tmp 11,.tmp 17]) rfl ?_);at_builtin;refine Kd.S_append (Kd.slice 3 (Kd.int .i64)) (w0:=w) w.heap.size rfl (.tmp 11) (.tmp 17) 27 32 (.slice none 0 0) 24 rfl Try.underlying27 info32 rfl (by decide) (by omega) u3 dD t389 [.slice IR t389.length EI] (fun _=>True) (fun k_=>some k_=(.slice IR t389.length EI:Value).ownBlock) rfl rfl ?aP (fun k_ hk_=>((Kd.R_mono (ok':=fun k_=>((fun _=>True)) k_∧some k_≠(u3:Value).ownBlock) (Kd.R_apart' (Dl.out) (Kd.S_typed fI.out) (by decide)) (fun k_ hk=>⟨trivial,hk.2⟩))).1 k_ hk_.symm) ?aF ?aO ?aB ?aS ?aL ?_;(case aP=>exact Kd.M_row (Kd.R_mono (Kd.R_tight rfl (Kd.R_mono (ok':=fun k_=>((fun _=>True)) k_∧some k_≠(u3:Value).ownBlock) (Kd.R_apart' (Dl.out) (Kd.S_typed fI.out) (by decide)) (fun k_ hk=>⟨trivial,hk.2⟩))) (fun _ h_=>h_)));(case aB=>exact(gW HB.out));(case aF=>exact(fun _ _=>trivial));(case aO=>exact(by(with_reducible repeat(first|apply Kd.S_alloc|apply aV|apply aW));exact Kd.S_mono fI.out (fun k_ hk=>⟨trivial,fun e_=>hk.2 e_⟩)));(case aS=>exact(bH (gW HB.out)));(case aL=>have:=EH.out;omega);intro v393 w7 ho hb hg hat;rw [←Tc.out] at ho;have cH:=aM (hb);have cI:=aM (ho);clear HB;clear fI;clear Dl;have HB:=cH;have Td:=cI;clear cH cI;clear ho hb hg hat))
    go_roundg k1
    case measure=>have:=HK1.out;omega
    case rel=>exact⟨(y392),(wrap64 (bY+1)),(by first|rfl|(simp;done)|(simp [*];done)),H',⟨by have:=HK1.out;omega⟩,⟨gS Td.out⟩,⟨gW HB.out⟩⟩
   ·rw [if_neg c2] at H
    have Rh:decide (bY<(l0.length:Int))=false:=decide_eq_false c2;clear c2;obtain rfl:=Option.some.inj H;go_wp2
    go_ret
    exact⟨_,by first|rfl|(simp [errW_none,errW_some]<;>rfl)|(simp [*,errW_none,errW_some]<;>rfl),gS fI.out,gW HB.out⟩
def regletref14_has.l0:Nat→List Int→Int→Int→Option (Bool)
 |0,_,_,_=>none
 |k+1,x0,x1,x5=>if x5<(x0.length:Int) then(if 0≤x5 then(if(rd x0 x5)=x1 then(some true) else(regletref14_has.l0 k x0 x1 (wrap64 (x5+1)))) else(none)) else(some false)
def regletref14_has.f (k:Nat) (l0:List Int) (a1:Int):Option (Bool):=regletref14_has.l0 k l0 a1 0
set_option maxHeartbeats 8000000 in
set_option maxRecDepth 100000 in
theorem regletref14_has.calls (k:Nat) (A0:Option Addr) (c0:Nat) (l0:List Int) (a1:Int) (r:Bool) (w:World) (hr0:Kd.C (Kd.int .i64) w A0 l0.length l0) (hc0:l0.length≤c0) (h:regletref14_has.f k l0 a1=some r):
 Calls Try.prog 33 #[.slice A0 l0.length c0,.int .i64 a1] w fun e w'=>e= .returned (.bool r)∧Drawn0 w w':=by
 have HR0:=aM hr0;have HC0:=aM hc0;clear hr0 hc0;have H:(regletref14_has.l0 k l0 a1 0)=some r:=h;clear h;have H':=aM H;clear H;go_enter Try.func33,Try.ntmps33
 go_wp2
 go_loopg [5] k (fun kq v5 w'=>∃(eY:Int),v5= .int .i64 eY∧Aside0 (regletref14_has.l0 kq l0 a1 eY=some r)∧Aside0 (kq≤k)∧Drawn0 w w')
 case atStart=>exact⟨(0),(by first|rfl|(simp;done)|(simp [*];done)),H',⟨Nat.le_refl _⟩,by repeat(first|exact Drawn0.refl _|apply Drawn0.step)⟩
 case round=>
  clear H'
  (try clear p2)
  obtain⟨eY,rfl,HA,HK1,⟨m1,rfl⟩⟩:=hrel
  cases gk with
  |zero=>exact absurd HA.out (by simp [regletref14_has.l0])
  |succ k1=>
   have H:=HA.out;clear HA;simp only [regletref14_has.l0] at H
   by_cases c3:eY<(l0.length:Int)
   ·rw [if_pos c3] at H
    have pM:decide (eY<(l0.length:Int))=true:=decide_eq_true c3;clear c3
    by_cases c4:0≤eY
    rotate_left
    ·rw [if_neg c4] at H
     exact absurd H (by simp)
    rw [if_pos c4] at H;have vC:decide (0≤eY)=true:=decide_eq_true c4;clear c4
    by_cases c5:(rd l0 eY)=a1
    ·rw [if_pos c5] at H
     have vD:((rd l0 eY)==a1)=true:=beq_iff_eq.mpr c5;have Ib:((rd l0 eY) !=a1)=false:=bne_eq_false_iff_eq.mpr c5;clear c5;obtain rfl:=Option.some.inj H;have p395:0≤(eY:Int):=of_decide_eq_true (by first|(with_reducible assumption)|assumption);have q395:eY<(l0.length:Int):=of_decide_eq_true (by first|(with_reducible assumption)|assumption);obtain⟨Te,e395,Jw⟩:=Kd.at_int HR0.out eY p395 q395
     cases e395;replace p395:=eq_true p395;replace q395:=eq_true q395;go_wp2
     go_ret
     exact⟨by first|rfl|(simp;done)|(simp [*];done),by repeat(first|exact Drawn0.refl _|apply Drawn0.step)⟩
    ·rw [if_neg c5] at H
     have vD:((rd l0 eY)==a1)=false:=beq_eq_false_iff_ne.mpr c5;have Ib:((rd l0 eY) !=a1)=true:=bne_iff_ne.mpr c5;have H':=aM H;clear H;have p395:0≤(eY:Int):=of_decide_eq_true (by first|(with_reducible assumption)|assumption);have q395:eY<(l0.length:Int):=of_decide_eq_true (by first|(with_reducible assumption)|assumption);obtain⟨Te,e395,Jw⟩:=Kd.at_int HR0.out eY p395 q395
     cases e395;replace p395:=eq_true p395;replace q395:=eq_true q395;go_wp2
     go_roundg k1
     case measure=>have:=HK1.out;omega
     case rel=>exact⟨(wrap64 (eY+1)),(by first|rfl|(simp;done)|(simp [*];done)),H',⟨by have:=HK1.out;omega⟩,by repeat(first|exact Drawn0.refl _|apply Drawn0.step)⟩
   ·rw [if_neg c3] at H
    have pM:decide (eY<(l0.length:Int))=false:=decide_eq_false c3;clear c3;obtain rfl:=Option.some.inj H;go_wp2
    go_ret
    exact⟨by first|rfl|(simp;done)|(simp [*];done),by repeat(first|exact Drawn0.refl _|apply Drawn0.step)⟩
def regletlaw16_tokens.l0:Nat→List Int→Int→List Int→Int→Option (List Int)
 |0,_,_,_,_=>none
 |k+1,x0,x1,x5,x6=>if x6<(x0.length:Int) then(if x6<10 then(if 0≤x6 then(if x1=0 then(none) else(if x5.length<17592186044416 then(regletlaw16_tokens.l0 k x0 x1 (x5++ [Int.tmod (wrap64 (rd x0 x6)) x1]) (wrap64 (x6+1))) else(none))) else(none)) else(some x5)) else(some x5)
def regletlaw16_tokens.f (k:Nat) (l0:List Int) (a1:Int):Option (List Int):=regletlaw16_tokens.l0 k l0 a1 ([]:List Int) 0
set_option maxHeartbeats 8000000 in
set_option maxRecDepth 100000 in
theorem regletlaw16_tokens.calls (k:Nat) (A0:Option Addr) (c0:Nat) (l0:List Int) (a1:Int) (r:List Int) (w:World) (hr0:Kd.C (Kd.int .u8) w A0 l0.length l0) (hc0:l0.length≤c0) (h:regletlaw16_tokens.f k l0 a1=some r):
 Calls Try.prog 15 #[.slice A0 l0.length c0,.int .i64 a1] w fun e w'=>∃v0_:Value,e= .returned (v0_)∧Kd.R (Kd.int .i64) 3 w' w.heap.size (fun _=>True) v0_ r∧Below w.heap.size w w':=by
 have HR0:=aM hr0;have HC0:=aM hc0;clear hr0 hc0;have HB:=aM (Below.refl w.heap.size w);have H:(regletlaw16_tokens.l0 k l0 a1 ([]:List Int) 0)=some r:=h;clear h;have H':=aM H;clear H;go_enter Try.func15,Try.ntmps15
 go_wp2
 go_loopg [5,6] k (fun kq v5 v6 w'=>∃(eY:List Int) (bW:Int),v6= .int .i64 bW∧Aside0 (regletlaw16_tokens.l0 kq l0 a1 eY bW=some r)∧Aside0 (kq≤k)∧Aside0 (Kd.R (Kd.int .i64) 3 w' w.heap.size (fun _=>True) v5 eY)∧Aside0 (Below w.heap.size w w'))
 case atStart=>exact⟨(([]:List Int)),(0),(by first|rfl|(simp;done)|(simp [*];done)),H',⟨Nat.le_refl _⟩,⟨by first|exact Kd.R_nil _ _ _ _ _|exact Kd.N_nil _ _ _ _ _|exact Kd.V_nil _ _ _ _ _|exact Kd.Q_nil _ _ _ _ _|exact Kd.S_nil _ _ _ _ _⟩,⟨gW HB.out⟩⟩
 case round=>
  clear H'
  (try clear c1);(try clear p2)
  obtain⟨eY,bW,rfl,HA,HK1,eE,HB⟩:=hrel
  cases gk with
  |zero=>exact absurd HA.out (by simp [regletlaw16_tokens.l0])
  |succ k1=>
   have H:=HA.out;clear HA;simp only [regletlaw16_tokens.l0] at H
   by_cases c3:bW<(l0.length:Int)
   ·rw [if_pos c3] at H
    have pM:decide (bW<(l0.length:Int))=true:=decide_eq_true c3;clear c3
    by_cases c4:bW<10
    ·rw [if_pos c4] at H
     have vC:decide (bW<10)=true:=decide_eq_true c4;clear c4
     by_cases c5:0≤bW
     rotate_left
     ·rw [if_neg c5] at H
      exact absurd H (by simp)
     rw [if_pos c5] at H;have vD:decide (0≤bW)=true:=decide_eq_true c5;clear c5
     by_cases c6:a1=0
     ·rw [if_pos c6] at H
      exact absurd H (by simp)
     rw [if_neg c6] at H;have pR:(a1==0)=false:=beq_eq_false_iff_ne.mpr c6;have wG:(a1 !=0)=true:=bne_iff_ne.mpr c6
     by_cases c7:eY.length<17592186044416
     rotate_left
     ·rw [if_neg c7] at H
      exact absurd H (by simp)
     rw [if_pos c7] at H;have Rl:=aM c7;clear c7;obtain⟨y442,zL⟩:∃y_:List Int,y_=(eY++ [Int.tmod (wrap64 (rd l0 bW)) a1]):=⟨_,rfl⟩;replace H:(regletlaw16_tokens.l0 k1 l0 a1 y442 (wrap64 (bW+1)))=some r:=by first|(rw [zL];with_reducible exact H)|(have H2_:=(Option.bind_some _ _).symm.trans H;rw [zL];with_reducible exact H2_)|(have H2_:=(Option.bind_some _ _).symm.trans H;with_reducible exact H2_)|with_reducible exact H|(rw [zL];exact H)|exact H
     have Tf:=aM zL;clear zL;have H':=aM H;clear H;have p441:0≤(bW:Int):=of_decide_eq_true (by first|(with_reducible assumption)|assumption);have q441:bW<(l0.length:Int):=of_decide_eq_true (by first|(with_reducible assumption)|assumption);obtain⟨IS,e441,wN⟩:=Kd.at_int HR0.out bW p441 q441
     cases e441;replace wN:=(HB.out.cell (World.block_lt_of_cell? w _ wN)).trans wN;replace p441:=eq_true p441;replace q441:=eq_true q441
     go_wp2_with (first|((with_reducible refine gate_builtin (b:= .append) (xs:=#[.tmp 17,.tmp 25]) rfl ?_);at_builtin;refine Kd.R_append (Kd.int .i64) (w0:=w) w.heap.size rfl (.tmp 17) (.tmp 25) 32 3 (.int .i64 0) 8 rfl Try.underlying32 info3 rfl (by decide) (by omega) u5 eY (Int.tmod (wrap64 (rd l0 bW)) a1) [.int .i64 (Int.tmod (wrap64 (rd l0 bW)) a1)] (fun _=>True) (fun _=>False) rfl rfl ?aP (fun _ hk=>hk.elim) ?aF ?aO ?aB ?aS ?aL ?_;(case aP=>exact rfl);(case aB=>exact(gW HB.out));(case aF=>exact(fun _ _=>trivial));(case aO=>exact(gR eE.out));(case aS=>exact(bH (gW HB.out)));(case aL=>have:=Rl.out;omega);intro v443 w8 ho hb hg hat;rw [←Tf.out] at ho;have cH:=aM (hb);have cI:=aM (ho);clear HB;clear eE;have HB:=cH;have Tg:=cI;clear cH cI;clear ho hb hg hat))
     go_roundg k1
     case measure=>have:=HK1.out;omega
     case rel=>exact⟨(y442),(wrap64 (bW+1)),(by first|rfl|(simp;done)|(simp [*];done)),H',⟨by have:=HK1.out;omega⟩,⟨gR Tg.out⟩,⟨gW HB.out⟩⟩
    ·rw [if_neg c4] at H
     have vC:decide (bW<10)=false:=decide_eq_false c4;clear c4;obtain rfl:=Option.some.inj H;go_wp2
     go_ret
     exact⟨_,by first|rfl|(simp [errW_none,errW_some]<;>rfl)|(simp [*,errW_none,errW_some]<;>rfl),gR eE.out,gW HB.out⟩
   ·rw [if_neg c3] at H
    have pM:decide (bW<(l0.length:Int))=false:=decide_eq_false c3;clear c3;obtain rfl:=Option.some.inj H;go_wp2
    go_ret
    exact⟨_,by first|rfl|(simp [errW_none,errW_some]<;>rfl)|(simp [*,errW_none,errW_some]<;>rfl),gR eE.out,gW HB.out⟩
end Go.Proofs.Ytapjfnfengefpaa.P
end

section
namespace Go.Proofs.Ytapjfnfengefpaa.H
open Go.RowKit Go.Proofs.YtapjfnfengefpaaW.PrintWords Go.Proofs.YtapjfnfengefpaaW.PrintLast Go.Proofs.YtapjfnfengefpaaW.PrintMore
theorem Ev.pos {α:Type}{c:Prop} [Decidable c] {f g:Nat→Option α}{r:α}(h:c) (k:Ev f r):Ev (fun n=>if c then f n else g n) r:=
 Ev.congr (fun _=>if_pos h) k
theorem Ev.neg {α:Type}{c:Prop} [Decidable c] {f g:Nat→Option α}{r:α}(h:¬c) (k:Ev g r):Ev (fun n=>if c then f n else g n) r:=
 Ev.congr (fun _=>if_neg h) k
theorem Ev.some {α:Type}{r s:α}(h:r=s):Ev (fun _=>Option.some r) s:=h ▸ Ev.now r
theorem Ev.some' {α:Type}{g:Option α}{r:α}(h:g=Option.some r):Ev (fun _=>g) r:=⟨0,fun _ _=>h⟩
theorem Ev.bind0 {α β:Type}{g:Option α}{f:Nat→α→Option β}{a:α}{r:β}(h:g=Option.some a) (k:Ev (fun n=>f n a) r):Ev (fun n=>g.bind (f n)) r:=
 Ev.congr (fun _=>by rw [h];rfl) k
theorem Ev.val {α:Type}{g:Nat→Option α}{r s:α}(h:Ev g r) (e:r=s):Ev g s:=e ▸ h
theorem wrap64_id {x:Int}(h0: -9223372036854775808≤x) (h1:x≤9223372036854775807):wrap64 x=x:=by
 unfold wrap64;omega
theorem wf_u8 {x:Int}(h:(Lit.int .u8 x).wf=true):0≤x∧x≤255:=by
 simp [Lit.wf,IntKind.min,IntKind.max,IntKind.bits,IntKind.signed] at h;omega
end Go.Proofs.Ytapjfnfengefpaa.H
end

section
namespace Go.Proofs.Ytapjfnfengefpaa.P
open Go.RowKit Go.Proofs.YtapjfnfengefpaaW.PrintWords Go.Proofs.YtapjfnfengefpaaW.PrintLast Go.Proofs.YtapjfnfengefpaaW.PrintMore
set_option linter.unusedVariables false
set_option linter.unusedSimpArgs false
def mPick (l:List Int) (at_:Nat) (n:Int):Int:=if l.length<at_+1 then 0 else Int.tmod (l.getD at_ 0) n
theorem wrap_u8 {x:Int}(h0:0≤x) (h1:x≤255):IntKind.i64.wrap x=x:=by rw [IntKind.wrap_i64];omega
theorem wrap_tmod {x n:Int}(h0:0≤x) (h1:x≤255):IntKind.i64.wrap (x.tmod n)=x.tmod n:=by
 have h2:0≤x.tmod n:=Int.tmod_nonneg n h0
 have h3:x.tmod n≤x:=by
  obtain⟨a,rfl⟩:=Int.eq_ofNat_of_zero_le h0;rcases Int.lt_or_le n 0 with hn|hn
  ·obtain⟨b,hb⟩:=Int.eq_ofNat_of_zero_le (show 0≤ -n by omega)
   have:(a:Int).tmod n=(a:Int).tmod b:=by rw [show n= -(b:Int) by omega,Int.tmod_neg]
   rw [this,←Int.ofNat_tmod]
   exact_mod_cast Nat.mod_le a b
  ·obtain⟨b,rfl⟩:=Int.eq_ofNat_of_zero_le hn
   rw [←Int.ofNat_tmod]
   exact_mod_cast Nat.mod_le a b
 rw [IntKind.wrap_i64];omega
set_option maxHeartbeats 1000000 in
theorem pick_any (l:List Int) (A0:Option Addr) (c0 at_:Nat) (n:Int) (LB AB:Nat) (W:World) (hne:LB≠AB) (hl:W.cell? ⟨LB,0,none⟩=some (.slice A0 l.length c0)) (hab:W.heap[AB]?=some (.cells #[.int .i64 (at_:Int)] 3 (0,0)))
 (hr:∀W',Kept W W' (fun k=>k=AB)→Kd.C (Kd.int .u8) W' A0 l.length l) (hn:n≠0) (hat:at_<1000000) (hu:∀x∈l,0≤x∧x≤255):
 Calls Try.prog 29 #[.int .i64 n,.pointer (some ⟨AB,0,none⟩),.pointer (some ⟨LB,0,none⟩)] W fun e w'=>e= .returned (.int .i64 (mPick l at_ n))∧Aside0 (Kept W w' (fun k=>k=AB))∧Aside0 (w'.heap[AB]?=some (.cells #[.int .i64 ((at_+1:Nat):Int)] 3 (0,0)))∧Aside0 (Below AB W w'):=by
 have ha:W.cell? ⟨AB,0,none⟩=some (.int .i64 (at_:Int)):=(aG hab 0).trans rfl;have hf:=aH hab 0;have HA3:=aM (blk_put hab 0 (.int .i64 ((at_:Int)+1)) (cs':=#[.int .i64 ((at_+1:Nat):Int)]) rfl);have hK:=Kept.setCell (Kept.refl W (fun k=>k=AB)) (p:=⟨AB,0,none⟩) (.inl rfl) (.int .i64 ((at_:Int)+1));have hw1:IntKind.i64.wrap ((at_:Int)+1)=(at_:Int)+1:=by rw [IntKind.wrap_i64];omega
 have hw2:IntKind.i64.wrap ((at_:Int)+1 - 1)=(at_:Int):=by rw [IntKind.wrap_i64];omega
 have hl2:(W.setCell ⟨AB,0,none⟩ (.int .i64 ((at_:Int)+1))).cell? ⟨LB,0,none⟩=some (.slice A0 l.length c0):=Go.Proofs.YtapjfnfengefpaaW.PrintWords.cell_kept hl hK hne;have ha2:(W.setCell ⟨AB,0,none⟩ (.int .i64 ((at_:Int)+1))).cell? ⟨AB,0,none⟩=some (.int .i64 ((at_:Int)+1)):=World.cell?_setCell_same' _ _ _ (by rw [ha];rfl);have HB:Aside0 (Below AB W (W.setCell ⟨AB,0,none⟩ (.int .i64 ((at_:Int)+1)))):=⟨(Below.refl AB W).setCell (Nat.le_refl _) _⟩;have HK:=aM hK;have HU:=aM hu;have HR:=aM hr;clear hK hu hr hab
 by_cases hlt:l.length<at_+1
 ·have e:mPick l at_ n=0:=if_pos hlt
  rw [e];have d0:decide ((at_:Int)+1>(l.length:Int))=true:=decide_eq_true (by omega);clear hlt e;go_enter Try.func29,Try.ntmps29
  go_wp2
  go_ret
  exact⟨rfl,HK,HA3,HB⟩
 ·have e:mPick l at_ n=Int.tmod (l.getD at_ 0) n:=if_neg hlt
  rw [e];have d0:decide ((at_:Int)+1>(l.length:Int))=false:=decide_eq_false (by omega);obtain⟨ad,ead,hc⟩:=Kd.at_int (HR.out _ HK.out) (at_:Int) (by omega) (by omega)
  cases ead;have p0:(0≤(at_:Int))=True:=eq_true (by omega);have p1:((at_:Int)<(l.length:Int))=True:=eq_true (by omega);have hx:=HU.out (l.getD at_ 0) (by rw [List.getD_eq_getElem?_getD,List.getElem?_eq_getElem (by omega)];exact List.getElem_mem _);have hx0:rd l (at_:Int)=l.getD at_ 0:=rfl;rw [hx0] at hc;generalize l.getD at_ 0=x at hc hx;have hw3:=wrap_u8 hx.1 hx.2;have hw4:=wrap_tmod (n:=n) hx.1 hx.2;rw [Int.toNat_natCast] at hc;clear hx hx0 hlt e;go_enter Try.func29,Try.ntmps29
  go_wp2
  go_ret
  exact⟨rfl,HK,HA3,HB⟩
theorem mPick_lt {l:List Int}(hu:∀x∈l,0≤x∧x≤255) (at_:Nat) {n:Int}(hn:0<n):0≤mPick l at_ n∧mPick l at_ n<n:=by
 unfold mPick
 split
 ·omega
 ·have hx:=hu (l.getD at_ 0) (by rw [List.getD_eq_getElem?_getD,List.getElem?_eq_getElem (by omega)];exact List.getElem_mem _)
  exact⟨Int.tmod_nonneg n hx.1,Int.tmod_lt_of_pos _ hn⟩
def mRight (l:List Int) (n t:Int):Nat→Nat→List S43→List S43×Nat
 |0,at_,acc=>(acc,at_)
 |c+1,at_,acc=>mRight l n t c (at_+2) (acc++ [if mPick l at_ 2=0 then⟨true,mPick l (at_+1) t⟩ else⟨false,mPick l (at_+1) n⟩])
def mProds (l:List Int) (n t:Int):Nat→Nat→List S35→List S35
 |0,_,acc=>acc
 |i+1,at_,acc=>mProds l n t i (mRight l n t (mPick l (at_+1) 4).toNat (at_+2) []).2 (acc++ [⟨mPick l at_ n,(mRight l n t (mPick l (at_+1) 4).toNat (at_+2) []).1⟩])
def mNames:List ByteArray:= [⟨#[97]⟩,⟨#[98]⟩,⟨#[99]⟩,⟨#[100]⟩,⟨#[101]⟩]
def mTexts:List ByteArray:= [⟨#[120]⟩,⟨#[121]⟩,⟨#[122]⟩,⟨#[119]⟩]
def mTok (s:ByteArray):S72:=⟨⟨#[]⟩,⟨5,s,[],0,0,[]⟩⟩
def regletlaw13_Made.f (k:Nat) (l:List Int):Option (List ByteArray×List S72×Int×Int×List S35):=
 if l.all (fun x=>decide (0≤x∧x≤255))=true then some (mNames.take (1+mPick l 0 5).toNat,(mTexts.map mTok).take (1+mPick l 1 4).toNat,0,0,mProds l (1+mPick l 0 5) (1+mPick l 1 4) (1+mPick l 2 10).toNat 3 []) else none
structure MadeI (w:World) (A0:Option Addr) (n0 c0:Nat) (at_:Nat) (vn vt vp:Value) (W:World):Prop where
 bel:Below w.heap.size w W
 l:W.heap[w.heap.size]?=some (.cells #[.slice A0 n0 c0] 39 (0,0))
 r:W.heap[w.heap.size+1]?=some (.cells #[.slice none 0 0,.slice none 0 0,.int .i64 0,.int .i64 0,.slice none 0 0] 26 (0,0))
 s:W.heap[w.heap.size+2]?=some (.cells #[vn,vt,.int .i64 0,.int .i64 0,vp] 26 (0,0))
 a:W.heap[w.heap.size+3]?=some (.cells #[.int .i64 (at_:Int)] 3 (0,0))
theorem MadeI.pick {w W W':World}{A0:Option Addr}{n0 c0 at_:Nat}{vn vt vp:Value}(h:MadeI w A0 n0 c0 at_ vn vt vp W) (hk:Kept W W' (fun k=>k=w.heap.size+3)) (ha:W'.heap[w.heap.size+3]?=some (.cells #[.int .i64 ((at_+1:Nat):Int)] 3 (0,0))) (hb:Below (w.heap.size+3) W W'):MadeI w A0 n0 c0 (at_+1) vn vt vp W':=
 ⟨h.bel.trans (hb.mono (by omega)),blk_kept h.l hk (by simp),blk_kept h.r hk (by simp),blk_kept h.s hk (by simp),ha⟩
theorem MadeI.calls {w W:World}{A0:Option Addr}{l:List Int}{c0 at_:Nat}{vn vt vp:Value}(h:MadeI w A0 l.length c0 at_ vn vt vp W) (hr:Kd.C (Kd.int .u8) w A0 l.length l) (n:Int) (hn:n≠0) (hat:at_<1000000) (hu:∀x∈l,0≤x∧x≤255):
 Calls Try.prog 29 #[.int .i64 n,.pointer (some ⟨w.heap.size+3,0,none⟩),.pointer (some ⟨w.heap.size,0,none⟩)] W fun e w'=>e= .returned (.int .i64 (mPick l at_ n))∧Aside0 (MadeI w A0 l.length c0 (at_+1) vn vt vp w')∧Aside0 (Kept W w' (fun k=>k=w.heap.size+3)):=by
 refine(pick_any l A0 c0 at_ n w.heap.size (w.heap.size+3) W (by omega) ((aG h.l 0).trans rfl) h.a (fun W' hk=>?_) hn hat hu).mono ?_
 ·refine Kd.C_kept_came (Kd.heap_int _) hr h.bel (S:=fun k=>k=w.heap.size+3) (fun k hk=>by omega) W' hk
 ·rintro e w' ⟨rfl,hk,ha,hb⟩
  exact⟨rfl,⟨h.pick hk.out ha.out hb.out⟩,hk⟩
theorem miStr:(Try.prog.info? 9).map (fun i=>(i.zero,i.size,i.bytes))=some (some (.string ⟨#[]⟩),1,16):=by kernel_rfl
theorem miSym:(Try.prog.info? 43).map (fun i=>(i.zero,i.size,i.bytes))=some (some (.agg #[.bool false,.int .i64 0]),2,16):=by kernel_rfl
theorem miTok:(Try.prog.info? 72).map (fun i=>(i.zero,i.size,i.bytes))=some (some (.agg #[.string ⟨#[]⟩,.int .i64 0,.string ⟨#[]⟩,.slice none 0 0,.int .i64 0,.int .i64 0,.slice none 0 0]),7,104):=by kernel_rfl
theorem miProd:(Try.prog.info? 35).map (fun i=>(i.zero,i.size,i.bytes))=some (some (.agg #[.int .i64 0,.slice none 0 0]),2,32):=by kernel_rfl
section
variable {w W W':World}{A0:Option Addr}{n0 c0 at_:Nat}{vn vt vp:Value}
theorem MadeI.below (h:MadeI w A0 n0 c0 at_ vn vt vp W) (hb:Below W.heap.size W W'):MadeI w A0 n0 c0 at_ vn vt vp W':=
 ⟨h.bel.trans (hb.mono h.bel.size),(hb.block _ (bN h.l)).trans h.l,(hb.block _ (bN h.r)).trans h.r,(hb.block _ (bN h.s)).trans h.s,(hb.block _ (bN h.a)).trans h.a⟩
theorem MadeI.below4 (h:MadeI w A0 n0 c0 at_ vn vt vp W) (hb:Below (w.heap.size+4) W W'):MadeI w A0 n0 c0 at_ vn vt vp W':=
 ⟨h.bel.trans (hb.mono (by omega)),(hb.block _ (by omega)).trans h.l,(hb.block _ (by omega)).trans h.r,(hb.block _ (by omega)).trans h.s,(hb.block _ (by omega)).trans h.a⟩
theorem MadeI.size (h:MadeI w A0 n0 c0 at_ vn vt vp W):w.heap.size+4≤W.heap.size:=bN h.a
theorem MadeI.put0 (h:MadeI w A0 n0 c0 at_ vn vt vp W) (v:Value):MadeI w A0 n0 c0 at_ v vt vp (W.setCell ⟨w.heap.size+2,0,none⟩ v):=
 ⟨aL h.bel (by simp),blk_far h.l (by simp) _,blk_far h.r (by simp) _,blk_put h.s 0 v rfl,blk_far h.a (by simp) _⟩
theorem MadeI.put1 (h:MadeI w A0 n0 c0 at_ vn vt vp W) (v:Value):MadeI w A0 n0 c0 at_ vn v vp (W.setCell ⟨w.heap.size+2,1,none⟩ v):=
 ⟨aL h.bel (by simp),blk_far h.l (by simp) _,blk_far h.r (by simp) _,blk_put h.s 1 v rfl,blk_far h.a (by simp) _⟩
theorem MadeI.put4 (h:MadeI w A0 n0 c0 at_ vn vt vp W) (v:Value):MadeI w A0 n0 c0 at_ vn vt v (W.setCell ⟨w.heap.size+2,4,none⟩ v):=
 ⟨aL h.bel (by simp),blk_far h.l (by simp) _,blk_far h.r (by simp) _,blk_put h.s 4 v rfl,blk_far h.a (by simp) _⟩
end
theorem set5_kept (W:World) (g:Nat) (v0 v1 v2 v3 v4:Value):Kept W (((((W.setCell ⟨g,0,none⟩ v0).setCell ⟨g,1,none⟩ v1).setCell ⟨g,2,none⟩ v2).setCell ⟨g,3,none⟩ v3).setCell ⟨g,4,none⟩ v4) (fun k=>k=g):=by
 have h0:=Kept.setCell (Kept.refl W (fun k=>k=g)) (p:=⟨g,0,none⟩) (.inl rfl) v0;have h1:=Kept.setCell h0 (p:=⟨g,1,none⟩) (.inl rfl) v1;have h2:=Kept.setCell h1 (p:=⟨g,2,none⟩) (.inl rfl) v2;have h3:=Kept.setCell h2 (p:=⟨g,3,none⟩) (.inl rfl) v3;exact Kept.setCell h3 (p:=⟨g,4,none⟩) (.inl rfl) v4
theorem set5_below {w W:World}{g:Nat}(h:Below w.heap.size w W) (hg:w.heap.size≤g) (v0 v1 v2 v3 v4:Value):Below w.heap.size w (((((W.setCell ⟨g,0,none⟩ v0).setCell ⟨g,1,none⟩ v1).setCell ⟨g,2,none⟩ v2).setCell ⟨g,3,none⟩ v3).setCell ⟨g,4,none⟩ v4):=by
 have h0:=aL (j:=0) (v:=v0) h hg;have h1:=aL (j:=1) (v:=v1) h0 hg;have h2:=aL (j:=2) (v:=v2) h1 hg;have h3:=aL (j:=3) (v:=v3) h2 hg;exact aL (j:=4) (v:=v4) h3 hg
theorem name_at (i:Nat) (h:i<5):([Value.string ⟨#[97]⟩,Value.string ⟨#[98]⟩,Value.string ⟨#[99]⟩,Value.string ⟨#[100]⟩,Value.string ⟨#[101]⟩]:List Value)[i]?=some (.string (mNames.getD i ⟨#[]⟩)):=by
 match i,h with
 |0,_=>rfl
 |1,_=>rfl
 |2,_=>rfl
 |3,_=>rfl
 |4,_=>rfl
theorem text_at (i:Nat) (h:i<4):([Value.string ⟨#[120]⟩,Value.string ⟨#[121]⟩,Value.string ⟨#[122]⟩,Value.string ⟨#[119]⟩]:List Value)[i]?=some (.string (mTexts.getD i ⟨#[]⟩)):=by
 match i,h with
 |0,_=>rfl
 |1,_=>rfl
 |2,_=>rfl
 |3,_=>rfl
theorem take_next {α:Type}(xs:List α) (d:α) (i:Nat) (h:i<xs.length):xs.take i++ [xs.getD i d]=xs.take (i+1):=by
 rw [List.take_add_one,List.getD_eq_getElem?_getD,List.getElem?_eq_getElem h];rfl
set_option maxHeartbeats 4000000 in
set_option maxRecDepth 100000 in
theorem regletlaw13_Made.calls (k:Nat) (A0:Option Addr) (c0:Nat) (l0:List Int) (r1:List ByteArray) (r2:List S72) (r3 r4:Int) (r5:List S35) (w:World) (hr0:Kd.C (Kd.int .u8) w A0 l0.length l0) (hc0:l0.length≤c0) (h:regletlaw13_Made.f k l0=some (r1,r2,r3,r4,r5)):
 Calls Try.prog 13 #[.slice A0 l0.length c0] w fun e w'=>∃v0_ v1_ v2_:Value,e= .returned (.agg #[v0_,v1_,.int .i64 r3,.int .i64 r4,v2_])∧Kd.R Kd.string 9 w' w.heap.size (fun _=>True) v0_ r1∧Kd.R k72 72 w' w.heap.size (fun _=>True) v1_ r2∧Kd.S k35 35 w' w.heap.size (fun _=>True) v2_ r5∧Below w.heap.size w w':=by
 unfold regletlaw13_Made.f at h
 split at h
 case isFalse=>simp at h
 rename_i hall
 have hu:∀x∈l0,0≤x∧x≤255:=fun x hx=>of_decide_eq_true (List.all_eq_true.1 hall x hx)
 obtain⟨h1,h2⟩:=Prod.mk.inj (Option.some.inj h);obtain⟨h2,h3⟩:=Prod.mk.inj h2;obtain⟨h3,h4⟩:=Prod.mk.inj h3;obtain⟨h4,h5⟩:=Prod.mk.inj h4;subst h1 h2 h3 h4 h5;have HU:=aM hu;have HR0:=aM hr0;clear h hall hu hr0 hc0 h2 h3 h4
 have hI0:MadeI w A0 l0.length c0 0 (.slice none 0 0) (.slice none 0 0) (.slice none 0 0) ((((w.alloc (.cells #[.slice A0 l0.length c0] 39)).alloc (.cells #[.slice none 0 0,.slice none 0 0,.int .i64 0,.int .i64 0,.slice none 0 0] 26)).alloc (.cells #[.slice none 0 0,.slice none 0 0,.int .i64 0,.int .i64 0,.slice none 0 0] 26)).alloc (.cells #[.int .i64 0] 3)):=by
  refine⟨aN (aN (aN (aN (Below.refl _ w) _) _) _) _,?_,?_,?_,?_⟩
  ·exact aI (aI (aI (heap_alloc_new w _) _) _) _
  ·have h:=heap_alloc_new (w.alloc (.cells #[.slice A0 l0.length c0] 39)) (.cells #[.slice none 0 0,.slice none 0 0,.int .i64 0,.int .i64 0,.slice none 0 0] 26)
   rw [World.size_alloc] at h;exact aI (aI h _) _
  ·have h:=heap_alloc_new ((w.alloc (.cells #[.slice A0 l0.length c0] 39)).alloc (.cells #[.slice none 0 0,.slice none 0 0,.int .i64 0,.int .i64 0,.slice none 0 0] 26)) (.cells #[.slice none 0 0,.slice none 0 0,.int .i64 0,.int .i64 0,.slice none 0 0] 26)
   rw [World.size_alloc,World.size_alloc] at h;exact aI h _
  ·have h:=heap_alloc_new (((w.alloc (.cells #[.slice A0 l0.length c0] 39)).alloc (.cells #[.slice none 0 0,.slice none 0 0,.int .i64 0,.int .i64 0,.slice none 0 0] 26)).alloc (.cells #[.slice none 0 0,.slice none 0 0,.int .i64 0,.int .i64 0,.slice none 0 0] 26)) (.cells #[.int .i64 0] 3)
   rw [World.size_alloc,World.size_alloc,World.size_alloc] at h;exact h
 have HI0:=aM hI0;clear hI0;have eg:∀args w,(callFunc 29 args).run Try.prog w= .ok (.enter 29 args) w:=enters_of Try.func29 (by kernel_rfl) rfl;have hp0:=mPick_lt HU.out 0 (n:=5) (by decide);have hp1:=mPick_lt HU.out 1 (n:=4) (by decide);have hp2:=mPick_lt HU.out 2 (n:=10) (by decide);obtain⟨m,em,hm1,hm5⟩:∃m:Nat,1+mPick l0 0 5=(m:Int)∧1≤m∧m≤5:=⟨(1+mPick l0 0 5).toNat,by omega,by omega,by omega⟩;obtain⟨q,eq_,hq1,hq4⟩:∃q:Nat,1+mPick l0 1 4=(q:Int)∧1≤q∧q≤4:=⟨(1+mPick l0 1 4).toNat,by omega,by omega,by omega⟩;obtain⟨c,ec,hc1,hc10⟩:∃c:Nat,1+mPick l0 2 10=(c:Int)∧1≤c∧c≤10:=⟨(1+mPick l0 2 10).toNat,by omega,by omega,by omega⟩;simp only [em,eq_,ec,Int.toNat_natCast];have EM:=aM em;have EQ:=aM eq_;have EC:=aM ec;clear em eq_ ec hp0 hp1 hp2;go_enter Try.func13,Try.ntmps13
 go_upto_region 4 with fail
 simp only [Nat.add_assoc,Nat.reduceAdd];generalize ((((w.alloc (.cells #[.slice A0 l0.length c0] 39)).alloc (.cells #[.slice none 0 0,.slice none 0 0,.int .i64 0,.int .i64 0,.slice none 0 0] 26)).alloc (.cells #[.slice none 0 0,.slice none 0 0,.int .i64 0,.int .i64 0,.slice none 0 0] 26)).alloc (.cells #[.int .i64 0] 3))=W0 at HI0 ⊢
 go_cut [6,7] from 14 (fun s6 s7 wc=>s6= .int .i64 (m:Int)∧s7= .int .i64 (q:Int)∧Aside0 (MadeI w A0 l0.length c0 2 (.slice none 0 0) (.slice none 0 0) (.slice none 0 0) wc))
 case first=>
  have P1:=aM (HI0.out.calls HR0.out 5 (by decide) (by decide) HU.out);have hw1:IntKind.i64.wrap (1+mPick l0 0 5)=1+mPick l0 0 5:=by have:=mPick_lt HU.out 0 (n:=5) (by decide);rw [IntKind.wrap_i64];omega
  have hw2:IntKind.i64.wrap (1+mPick l0 1 4)=1+mPick l0 1 4:=by have:=mPick_lt HU.out 1 (n:=4) (by decide);rw [IntKind.wrap_i64];omega
  go_wp2_with (first
   |(go_at_fn 29;(with_reducible refine P1.out.mono ?_);rintro e w1 ⟨rfl,HI1,hk1⟩;have P2:=aM (HI1.out.calls HR0.out 4 (by decide) (by decide) HU.out);clear P1)
   |(go_at_fn 29;(with_reducible refine P2.out.mono ?_);rintro e w2 ⟨rfl,HI2,hk2⟩;clear P2))
  go_meet
  case rel=>exact⟨congrArg _ EM.out,congrArg _ EQ.out,HI2⟩
 case rest=>
  obtain⟨rfl,rfl,HI2⟩:=hcut;obtain⟨w2,ew2⟩:∃w2:World,w2=wc:=⟨_,rfl⟩;subst ew2;clear HI0;have M5:=aM hm5;have Q4:=aM hq4;have C10:=aM hc10;have M1:=aM hm1;have Q1:=aM hq1;have C1:=aM hc1;clear hm5 hq4 hc10 hm1 hq1 hc1
  go_upto_region 5 with fail
  iterate 7 (first|go_values|go_skip|go_guarded|go_step|go_upon|go_back|(simp only [Int.not_lt,Int.not_le] at *;go_simp))
  go_cut [8] from 14 (fun s8 wc=>∃vn:Value,Aside0 (MadeI w A0 l0.length c0 2 vn (.slice none 0 0) (.slice none 0 0) wc)∧Aside0 (Kd.R Kd.string 9 wc (w.heap.size+4) (fun k=>w.heap.size+4≤k) vn (mNames.take m)))
  case first=>
   go_wp2
   go_loopg [8] m (fun kq v8 wr=>∃(i:Nat) (vn:Value),v8= .int .i64 i∧i≤m∧m - i≤kq∧Aside0 (MadeI w A0 l0.length c0 2 vn (.slice none 0 0) (.slice none 0 0) wr)∧Aside0 (Kd.R Kd.string 9 wr (w.heap.size+4) (fun k=>w.heap.size+4≤k) vn (mNames.take i)))
   case atStart=>exact⟨0,.slice none 0 0,rfl,by omega,by omega,HI2,⟨Kd.R_nil _ _ _ _ _⟩⟩
   case round=>
    clear HI2;obtain⟨i,vn,rfl,hi,hm,HI,HN⟩:=hrel
    by_cases hlt:i<m
    ·have d0:decide (i<m)=true:=decide_eq_true hlt
     have d1:(i<m)=True:=eq_true hlt;have HLT:=aM hlt;have HM:=aM hm;have p0:(0≤(i:Int))=True:=eq_true (by omega);have p1:((i:Int)<5)=True:=eq_true (by have:=M5.out;omega);have hwr:IntKind.i64.wrap ((i:Int)+1)=(i:Int)+1:=by rw [IntKind.wrap_i64];have:=M5.out;omega
     have H1:=aM (HI.out.below (aO (Below.refl _ wr)));have H2:=aM (H1.out.below (aN (Below.refl _ wr.drew) (.cells #[.string ⟨#[97]⟩,.string ⟨#[98]⟩,.string ⟨#[99]⟩,.string ⟨#[100]⟩,.string ⟨#[101]⟩] 9)));obtain⟨nm,enm⟩:∃nm:ByteArray,nm=mNames.getD i ⟨#[]⟩:=⟨_,rfl⟩;have c8:([Value.string ⟨#[97]⟩,Value.string ⟨#[98]⟩,Value.string ⟨#[99]⟩,Value.string ⟨#[100]⟩,Value.string ⟨#[101]⟩]:List Value)[i]?=some (.string nm):=by rw [enm];exact name_at i (by have:=M5.out;omega)
     have ENM:=aM enm;clear enm;have HS2:=aM H2.out.size;clear hlt hm hi;go_wp2
     refine start_ (n:=10) (S:=fun w'=>w'.cell? ⟨w.heap.size+2,0,none⟩=some vn) (ds:= [9]) #[F,F,F,F,F,F,F,F,F,F] (by kernel_rfl) rfl rfl ((aG HI.out.s 0).trans rfl) (fun hHeld=>?_)
     refine pure_ (i:=0) (N:=some 25) (v:=?_) (a':=?_) #[T,F,F,F,F,F,F,F,F,F] rfl rfl (by kernel_rfl) (fun _ _ _ h=>h) (Or.inl ⟨by rfl,?_⟩) ?_ ?_
     rotate_left;(intro w';go_simp;with_reducible rfl);rotate_left;(simp only [pq];rfl)
     refine pure_ (i:=3) (N:=some 28) (v:=?_) (a':=?_) #[T,F,F,T,F,F,F,F,F,F] rfl rfl (by kernel_rfl) (fun _ _ _ h=>h) (Or.inl ⟨by rfl,?_⟩) ?_ ?_
     rotate_left;(intro w';go_simp;with_reducible rfl);rotate_left;(simp only [pq];rfl)
     refine take_ (i:=1) (N:=some 26) (v:=?_) (a':=?_) #[T,T,F,T,F,F,F,F,F,F] rfl rfl (by kernel_rfl) (fun _ _ _ h=>h) (Or.inl ⟨by rfl,?_⟩) hHeld ?_ ?_
     rotate_left
     ·intro w' s0
      go_simp
      with_reducible rfl
     rotate_left
     ·simp only [pq]
      rfl
     refine one_ (i:=2) (N:=some 27) #[T,T,T,T,F,F,F,F,F,F] rfl rfl (by kernel_rfl) (by decide) (fun K hK=>?_)
     refine value_ (w1:=?_) (v:=?_) (by rfl) rfl ?_ ?_
     rotate_left 2
     ·go_simp
      constructor
      ·rfl
      ·rfl
     refine hK.out _ _ ((aG H2.out.s 0).trans rfl) (fun hHeld=>?_)
     clear hK K;refine norm_ (a':=?_) ?_ ?_
     rotate_left
     ·show Act.put _ (some 27) _=_
      simp only [pq];rfl
     refine pure_ (i:=4) (N:=some 29) (v:=?_) (a':=?_) #[T,T,T,T,T,F,F,F,F,F] rfl rfl (by kernel_rfl) (fun _ _ _ h=>h) (Or.inl ⟨by rfl,?_⟩) ?_ ?_
     rotate_left;(intro w';go_simp;with_reducible rfl);rotate_left;(simp only [pq];rfl)
     refine one_ (i:=5) (N:=some 30) #[T,T,T,T,T,T,F,F,F,F] rfl rfl (by kernel_rfl) (by decide) (fun K hK=>?_)
     refine value_ (w1:=?_) (v:=?_) (by rfl) rfl ?_ ?_
     rotate_left 2
     ·go_simp
      constructor
      ·rfl
      ·rfl
     refine hK.out _ _ (hHeld) (fun hHeld=>?_)
     clear hK K;refine norm_ (a':=?_) ?_ ?_
     rotate_left
     ·show Act.put _ (some 30) _=_
      simp only [pq];rfl
     refine one_ (i:=6) (N:=some 31) #[T,T,T,T,T,T,T,F,F,F] rfl rfl (by kernel_rfl) (by decide) (fun K hK=>?_)
     refine value_ (w1:=?_) (v:=?_) (by rfl) rfl ?_ ?_
     rotate_left 2
     ·go_simp
      constructor
      ·rfl
      ·rfl
     refine hK.out _ _ ((aG (H2.out.below (aN (Below.refl _ _) _)).s 0).trans rfl) (fun hHeld=>?_)
     clear hK K;refine norm_ (a':=?_) ?_ ?_
     rotate_left
     ·show Act.put _ (some 31) _=_
      simp only [pq];rfl
     refine one_ (i:=7) (N:=some 32) #[T,T,T,T,T,T,T,T,F,F] rfl rfl (by kernel_rfl) (by decide) (fun K hK=>?_)
     refine Kd.R_append_step Kd.string (w0:=wr.drew.alloc (.cells #[.string ⟨#[97]⟩,.string ⟨#[98]⟩,.string ⟨#[99]⟩,.string ⟨#[100]⟩,.string ⟨#[101]⟩] 9)) (w.heap.size+4) (by rfl) (.tmp 26) (.tmp 31) 22 9 (.string ⟨#[]⟩) 16 rfl Try.underlying22 miStr rfl (by decide) (by omega) vn (mNames.take i) nm [.string nm] (fun k=>w.heap.size+4≤k) (fun _=>False) rfl (by rw [World.size_alloc];rfl) rfl (fun _ hk=>hk.elim) (fun k hk=>Nat.le_trans HS2.out hk) (aA (aC HN.out) _) (Below.refl _ _) HS2.out (by have:=M5.out;have:=HLT.out;have:=List.length_take_le i mNames;omega) ?_
     intro v1 w1 ho hb hg hat;obtain⟨An,ln,cn,rfl⟩:∃An ln cn,v1= .slice An ln cn:=by obtain⟨An,cn,e⟩:=Kd.R_slice ho;exact⟨An,_,cn,e⟩
     rw [ENM.out,take_next mNames ⟨#[]⟩ i (by have:=M5.out;have:=HLT.out;show i<5;omega)] at ho;have H3:=aM (H2.out.below4 hb);have HN3:=aM ho;have f3:=aH H3.out.s 0;clear ho hb hg hat;refine hK.out _ _ ((aG H3.out.s 0).trans rfl) (fun hHeld=>?_)
     clear hK K;refine norm_ (a':=?_) ?_ ?_
     rotate_left
     ·show Act.put _ (some 32) _=_
      simp only [pq];rfl
     refine pure_ (i:=8) (N:=some 33) (v:=?_) (a':=?_) #[T,T,T,T,T,T,T,T,T,F] rfl rfl (by kernel_rfl) (fun _ _ _ h=>h) (Or.inl ⟨by rfl,?_⟩) ?_ ?_
     rotate_left;(intro w';go_simp;with_reducible rfl);rotate_left;(simp only [pq];rfl)
     refine last_ (i:=9) (N:=none) #[T,T,T,T,T,T,T,T,T,T] rfl rfl (by kernel_rfl) (by decide) (fun K hK=>?_)
     refine skip_ (w1:=?_) (by rfl) rfl ?_ ?_
     rotate_left
     ·go_simp
      rfl
     refine hK.out _ _ ?_
     clear hK K;refine done_ (by kernel_rfl) ?_
     go_wp2
     go_roundg (m - (i+1))
     case measure=>have:=HM.out;have:=HLT.out;omega
     case rel=>exact⟨i+1,_,rfl,by have:=HLT.out;omega,Nat.le_refl _,⟨H3.out.put0 _⟩,⟨Kd.R_kept HN3.out (Kept.setCell (Kept.refl _ (fun k=>k=w.heap.size+2)) (.inl rfl) _) (fun k hk=>by omega)⟩⟩
    ·obtain rfl:i=m:=by omega
     have d0:decide ((i:Int)<(i:Int))=false:=decide_eq_false (by omega);clear hlt;go_wp2
     go_meet
     case rel=>exact⟨vn,HI,HN⟩
  case rest=>
   obtain⟨vn,HI3,HN3⟩:=hcut;obtain⟨w3,ew3⟩:∃w3:World,w3=wc:=⟨_,rfl⟩;subst ew3;clear HI2;have HB3:=aM HI3.out.size;have HN3b:Aside0 (Kd.R Kd.string 9 w3 (w.heap.size+4) (fun k=>w.heap.size+4≤k∧k<w3.heap.size) vn (mNames.take m)):=⟨Kd.R_mono (Kd.R_bound HN3.out) (fun k hk=>⟨hk.2.1,hk.2.2.1⟩)⟩;clear HN3
   go_upto_region 9 with fail
   iterate 7 (first|go_values|go_skip|go_guarded|go_step|go_upon|go_back|(simp only [Int.not_lt,Int.not_le] at *;go_simp))
   go_cut [9] from 14 (fun s9 wc=>∃vt:Value,Aside0 (MadeI w A0 l0.length c0 2 vn vt (.slice none 0 0) wc)∧Aside0 (Kept w3 wc (fun k=>k<w.heap.size+4∨w3.heap.size≤k))∧Aside0 (Kd.R k72 72 wc (w.heap.size+4) (fun k=>w3.heap.size≤k) vt ((mTexts.map mTok).take q)))
   case first=>
    go_wp2
    go_loopg [9] q (fun kq v9 wr=>∃(i:Nat) (vt:Value),v9= .int .i64 i∧i≤q∧q - i≤kq∧Aside0 (MadeI w A0 l0.length c0 2 vn vt (.slice none 0 0) wr)∧Aside0 (Kept w3 wr (fun k=>k<w.heap.size+4∨w3.heap.size≤k))∧Aside0 (Kd.R k72 72 wr (w.heap.size+4) (fun k=>w3.heap.size≤k) vt ((mTexts.map mTok).take i)))
    case atStart=>exact⟨0,.slice none 0 0,rfl,by omega,by omega,HI3,⟨Kept.refl _ _⟩,⟨Kd.R_nil _ _ _ _ _⟩⟩
    case round=>
     clear HI3;obtain⟨i,vt,rfl,hi,hm,HI,HK,HT⟩:=hrel
     by_cases hlt:i<q
     ·have d0:decide (i<q)=true:=decide_eq_true hlt
      have d1:(i<q)=True:=eq_true hlt;have HLT:=aM hlt;have HM:=aM hm;have p0:(0≤(i:Int))=True:=eq_true (by omega);have p1:((i:Int)<4)=True:=eq_true (by have:=Q4.out;omega);have hwr:IntKind.i64.wrap ((i:Int)+1)=(i:Int)+1:=by rw [IntKind.wrap_i64];have:=Q4.out;omega
      have H1:=aM (HI.out.below (aO (Below.refl _ wr)));have H2:=aM (H1.out.below (aN (Below.refl _ wr.drew) (.cells #[.string ⟨#[120]⟩,.string ⟨#[121]⟩,.string ⟨#[122]⟩,.string ⟨#[119]⟩] 9)));have HK2:Aside0 (Kept w3 (wr.drew.alloc (.cells #[.string ⟨#[120]⟩,.string ⟨#[121]⟩,.string ⟨#[122]⟩,.string ⟨#[119]⟩] 9)) (fun k=>k<w.heap.size+4∨w3.heap.size≤k)):=⟨Kept.alloc (Kept.drew HK.out) _⟩;obtain⟨tx,etx⟩:∃tx:ByteArray,tx=mTexts.getD i ⟨#[]⟩:=⟨_,rfl⟩;have c8:([Value.string ⟨#[120]⟩,Value.string ⟨#[121]⟩,Value.string ⟨#[122]⟩,Value.string ⟨#[119]⟩]:List Value)[i]?=some (.string tx):=by rw [etx];exact text_at i (by have:=Q4.out;omega)
      have ETX:Aside0 (mTok tx=(mTexts.map mTok).getD i (mTok ⟨#[]⟩)):=⟨by rw [etx,List.getD_eq_getElem?_getD,List.getD_eq_getElem?_getD,List.getElem?_map,List.getElem?_eq_getElem (show i<mTexts.length by have:=Q4.out;show i<4;omega)];rfl⟩;have HS2:=aM H2.out.size;have HZ2:Aside0 (w3.heap.size≤(wr.drew.alloc (.cells #[.string ⟨#[120]⟩,.string ⟨#[121]⟩,.string ⟨#[122]⟩,.string ⟨#[119]⟩] 9)).heap.size):=⟨HK2.out.1⟩;clear hlt hm hi etx;go_wp2
      refine start_ (n:=12) (S:=fun w'=>w'.cell? ⟨w.heap.size+2,1,none⟩=some vt) (ds:= [11]) #[F,F,F,F,F,F,F,F,F,F,F,F] (by kernel_rfl) rfl rfl ((aG HI.out.s 1).trans rfl) (fun hHeld=>?_)
      refine pure_ (i:=0) (N:=some 39) (v:=?_) (a':=?_) #[T,F,F,F,F,F,F,F,F,F,F,F] rfl rfl (by kernel_rfl) (fun _ _ _ h=>h) (Or.inl ⟨by rfl,?_⟩) ?_ ?_
      rotate_left;(intro w';go_simp;with_reducible rfl);rotate_left;(simp only [pq];rfl)
      refine pure_ (i:=3) (N:=some 42) (v:=?_) (a':=?_) #[T,F,F,T,F,F,F,F,F,F,F,F] rfl rfl (by kernel_rfl) (fun _ _ _ h=>h) (Or.inl ⟨by rfl,?_⟩) ?_ ?_
      rotate_left;(intro w';go_simp;with_reducible rfl);rotate_left;(simp only [pq];rfl)
      refine take_ (i:=1) (N:=some 40) (v:=?_) (a':=?_) #[T,T,F,T,F,F,F,F,F,F,F,F] rfl rfl (by kernel_rfl) (fun _ _ _ h=>h) (Or.inl ⟨by rfl,?_⟩) hHeld ?_ ?_
      rotate_left
      ·intro w' s0
       go_simp
       with_reducible rfl
      rotate_left
      ·simp only [pq]
       rfl
      refine one_ (i:=2) (N:=some 41) #[T,T,T,T,F,F,F,F,F,F,F,F] rfl rfl (by kernel_rfl) (by decide) (fun K hK=>?_)
      refine value_ (w1:=?_) (v:=?_) (by rfl) rfl ?_ ?_
      rotate_left 2
      ·go_simp
       constructor
       ·rfl
       ·rfl
      refine hK.out _ _ ((aG H2.out.s 1).trans rfl) (fun hHeld=>?_)
      clear hK K;refine norm_ (a':=?_) ?_ ?_
      rotate_left
      ·show Act.put _ (some 41) _=_
       simp only [pq];rfl
      refine pure_ (i:=4) (N:=some 43) (v:=?_) (a':=?_) #[T,T,T,T,T,F,F,F,F,F,F,F] rfl rfl (by kernel_rfl) (fun _ _ _ h=>h) (Or.inl ⟨by rfl,?_⟩) ?_ ?_
      rotate_left;(intro w';go_simp;with_reducible rfl);rotate_left;(simp only [pq];rfl)
      refine one_ (i:=5) (N:=some 44) #[T,T,T,T,T,T,F,F,F,F,F,F] rfl rfl (by kernel_rfl) (by decide) (fun K hK=>?_)
      refine value_ (w1:=?_) (v:=?_) (by rfl) rfl ?_ ?_
      rotate_left 2
      ·go_simp
       constructor
       ·rfl
       ·rfl
      refine hK.out _ _ (hHeld) (fun hHeld=>?_)
      clear hK K;refine norm_ (a':=?_) ?_ ?_
      rotate_left
      ·show Act.put _ (some 44) _=_
       simp only [pq];rfl
      refine pure_ (i:=6) (N:=some 45) (v:=?_) (a':=?_) #[T,T,T,T,T,T,T,F,F,F,F,F] rfl rfl (by kernel_rfl) (fun _ _ _ h=>h) (Or.inl ⟨by rfl,?_⟩) ?_ ?_
      rotate_left;(intro w';go_simp;with_reducible rfl);rotate_left;(simp only [pq];rfl)
      refine pure_ (i:=7) (N:=some 46) (v:=?_) (a':=?_) #[T,T,T,T,T,T,T,T,F,F,F,F] rfl rfl (by kernel_rfl) (fun _ _ _ h=>h) (Or.inl ⟨by rfl,?_⟩) ?_ ?_
      rotate_left;(intro w';go_simp;with_reducible rfl);rotate_left;(simp only [pq];rfl)
      refine one_ (i:=8) (N:=some 47) #[T,T,T,T,T,T,T,T,T,F,F,F] rfl rfl (by kernel_rfl) (by decide) (fun K hK=>?_)
      refine value_ (w1:=?_) (v:=?_) (by rfl) rfl ?_ ?_
      rotate_left 2
      ·go_simp
       constructor
       ·rfl
       ·rfl
      refine hK.out _ _ ((aG (H2.out.below (aN (Below.refl _ _) _)).s 1).trans rfl) (fun hHeld=>?_)
      clear hK K;refine norm_ (a':=?_) ?_ ?_
      rotate_left
      ·show Act.put _ (some 47) _=_
       simp only [pq];rfl
      refine one_ (i:=9) (N:=some 48) #[T,T,T,T,T,T,T,T,T,T,F,F] rfl rfl (by kernel_rfl) (by decide) (fun K hK=>?_)
      refine Kd.R_append_step k72 (w0:=wr.drew.alloc (.cells #[.string ⟨#[120]⟩,.string ⟨#[121]⟩,.string ⟨#[122]⟩,.string ⟨#[119]⟩] 9)) (w.heap.size+4) (by rfl) (.tmp 40) (.tmp 47) 23 72 (.agg #[.string ⟨#[]⟩,.int .i64 0,.string ⟨#[]⟩,.slice none 0 0,.int .i64 0,.int .i64 0,.slice none 0 0]) 104 rfl Try.underlying23 miTok rfl (by decide) (by omega) vt ((mTexts.map mTok).take i) (mTok tx) [.string ⟨#[]⟩,.int .i64 5,.string tx,.slice none 0 0,.int .i64 0,.int .i64 0,.slice none 0 0] (fun k=>w3.heap.size≤k) (fun _=>False) rfl (by rw [World.size_alloc];rfl) (k72_mkM _ _ _ (mTok tx) (Kd.R_nil _ _ _ _ _) (Kd.R_nil _ _ _ _ _)) (fun _ hk=>hk.elim) (fun k hk=>Nat.le_trans HZ2.out hk) (aA (aC HT.out) _) (Below.refl _ _) HS2.out (by have:=Q4.out;have:=HLT.out;have:=List.length_take_le i (mTexts.map mTok);omega) ?_
      intro v1 w1 ho hb hg hat;obtain⟨An,ln,cn,rfl⟩:∃An ln cn,v1= .slice An ln cn:=by obtain⟨An,cn,e⟩:=Kd.R_slice ho;exact⟨An,_,cn,e⟩
      rw [ETX.out,take_next (mTexts.map mTok) (mTok ⟨#[]⟩) i (by have:=Q4.out;have:=HLT.out;show i<4;omega)] at ho;have H3:=aM (H2.out.below4 hb);have HK3:=aM (Kept.of_grown hg HK2.out (fun k hk=> .inl (.inr (HT.out.1 k hk))));have HT3:=aM ho;have f3:=aH H3.out.s 1;clear ho hb hg hat;refine hK.out _ _ ((aG H3.out.s 1).trans rfl) (fun hHeld=>?_)
      clear hK K;refine norm_ (a':=?_) ?_ ?_
      rotate_left
      ·show Act.put _ (some 48) _=_
       simp only [pq];rfl
      refine pure_ (i:=10) (N:=some 49) (v:=?_) (a':=?_) #[T,T,T,T,T,T,T,T,T,T,T,F] rfl rfl (by kernel_rfl) (fun _ _ _ h=>h) (Or.inl ⟨by rfl,?_⟩) ?_ ?_
      rotate_left;(intro w';go_simp;with_reducible rfl);rotate_left;(simp only [pq];rfl)
      refine last_ (i:=11) (N:=none) #[T,T,T,T,T,T,T,T,T,T,T,T] rfl rfl (by kernel_rfl) (by decide) (fun K hK=>?_)
      refine skip_ (w1:=?_) (by rfl) rfl ?_ ?_
      rotate_left
      ·go_simp
       rfl
      refine hK.out _ _ ?_
      clear hK K;refine done_ (by kernel_rfl) ?_
      go_wp2
      go_roundg (q - (i+1))
      case measure=>have:=HM.out;have:=HLT.out;omega
      case rel=>exact⟨i+1,_,rfl,by have:=HLT.out;omega,Nat.le_refl _,⟨H3.out.put1 _⟩,⟨Kept.setCell HK3.out (.inl (.inl (by simp))) _⟩,⟨Kd.R_kept HT3.out (Kept.setCell (Kept.refl _ (fun k=>k=w.heap.size+2)) (.inl rfl) _) (fun k hk=>by have:=HB3.out;omega)⟩⟩
     ·obtain rfl:i=q:=by omega
      clear hlt;go_wp2
      go_meet
      case rel=>exact⟨vt,HI,HK,HT⟩
   case rest=>
    obtain⟨vt,HI4,HK4,HT4⟩:=hcut;obtain⟨w4,ew4⟩:∃w4:World,w4=wc:=⟨_,rfl⟩;subst ew4;clear HI3;have HN4:=aM (Kd.R_kept HN3b.out HK4.out (fun k hk h=>by omega));clear HN3b
    go_upto_region 13 with fail
    have P3:=aM (HI4.out.calls HR0.out 10 (by decide) (by decide) HU.out);have hw3:IntKind.i64.wrap (1+mPick l0 2 10)=1+mPick l0 2 10:=by have:=EC.out;have:=C10.out;rw [IntKind.wrap_i64];omega
    go_cut [10] from 14 (fun s10 wc=>s10= .int .i64 (c:Int)∧Aside0 (MadeI w A0 l0.length c0 3 vn vt (.slice none 0 0) wc)∧Aside0 (Kept w4 wc (fun k=>k<w.heap.size+4∨w4.heap.size≤k)))
    case first=>
     go_wp2_with (first
      |(go_at_fn 29;(with_reducible refine P3.out.mono ?_);rintro e w5 ⟨rfl,HI5,HK5⟩;clear P3))
     go_meet
     case rel=>exact⟨congrArg _ EC.out,HI5,⟨Kept.mono HK5.out (fun k hk=> .inl (by omega))⟩⟩
    case rest=>
     obtain⟨rfl,HI5,HK5⟩:=hcut;obtain⟨w5,ew5⟩:∃w5:World,w5=wc:=⟨_,rfl⟩;subst ew5;clear P3 hw3 HI4;have HS4:Aside0 (w.heap.size+4≤w4.heap.size):=⟨by have:=HK4.out.1;have:=HB3.out;omega⟩;go_wp2
     go_loopg [10,11,12] c (fun kq v10 v11 v12 wr=>∃(i at_:Nat) (vp:Value) (acc:List S35),v10= .int .i64 (i:Int)∧i≤kq∧Aside0 (acc.length+i=c)∧Aside0 (at_+8 * i≤3+8 * c)∧Aside0 (mProds l0 m q i at_ acc=mProds l0 m q c 3 [])∧Aside0 (MadeI w A0 l0.length c0 at_ vn vt vp wr)∧Aside0 (Kept w4 wr (fun k=>k<w.heap.size+4∨w4.heap.size≤k))∧Aside0 (Kd.S k35 35 wr (w.heap.size+4) (fun k=>w4.heap.size≤k) vp acc))
     case atStart=>exact⟨c,3,.slice none 0 0,[],rfl,by omega,⟨by simp⟩,⟨by omega⟩,⟨rfl⟩,HI5,HK5,⟨Kd.S_nil _ _ _ _ _⟩⟩
     case round=>
      clear HI5 HK5;obtain⟨i,at_,vp,acc,rfl,hi,HL,HAT,HM,HI,HK,HP⟩:=hrel
      cases i with
      |zero=>
       obtain⟨An,ln,kn,rfl⟩:∃An ln kn,vn= .slice An ln kn:=by obtain⟨An,cn,e⟩:=Kd.R_slice HN4.out;exact⟨An,_,cn,e⟩
       obtain⟨At,lt,kt,rfl⟩:∃At lt kt,vt= .slice At lt kt:=by obtain⟨An,cn,e⟩:=Kd.R_slice HT4.out;exact⟨An,_,cn,e⟩
       obtain⟨Ap,lp,kp,rfl⟩:∃Ap lp kp,vp= .slice Ap lp kp:=by obtain⟨An,cn,e⟩:=Kd.S_slice HP.out;exact⟨An,_,cn,e⟩
       obtain⟨q0,q1,q2,q3,q4⟩:wr.cell? ⟨w.heap.size+2,0,none⟩=some (.slice An ln kn)∧wr.cell? ⟨w.heap.size+2,1,none⟩=some (.slice At lt kt)∧wr.cell? ⟨w.heap.size+2,2,none⟩=some (.int .i64 0)∧wr.cell? ⟨w.heap.size+2,3,none⟩=some (.int .i64 0)∧wr.cell? ⟨w.heap.size+2,4,none⟩=some (.slice Ap lp kp):=⟨(aG HI.out.s 0).trans rfl,(aG HI.out.s 1).trans rfl,(aG HI.out.s 2).trans rfl,(aG HI.out.s 3).trans rfl,(aG HI.out.s 4).trans rfl⟩;obtain⟨q5,q6,q7,q8,q9⟩:wr.cell? ⟨w.heap.size+1,0,none⟩=some (.slice none 0 0)∧wr.cell? ⟨w.heap.size+1,1,none⟩=some (.slice none 0 0)∧wr.cell? ⟨w.heap.size+1,2,none⟩=some (.int .i64 0)∧wr.cell? ⟨w.heap.size+1,3,none⟩=some (.int .i64 0)∧wr.cell? ⟨w.heap.size+1,4,none⟩=some (.slice none 0 0):=⟨(aG HI.out.r 0).trans rfl,(aG HI.out.r 1).trans rfl,(aG HI.out.r 2).trans rfl,(aG HI.out.r 3).trans rfl,(aG HI.out.r 4).trans rfl⟩;have f5:=aH HI.out.r 0;have f6:=aH HI.out.r 1;have f7:=aH HI.out.r 2;have f8:=aH HI.out.r 3;have f9:=aH HI.out.r 4;go_wp2
       refine bodyPost_ret (results_cell_row rfl _ _ (w.heap.size+1) 26 #[.slice An ln kn,.slice At lt kt,.int .i64 0,.int .i64 0,.slice Ap lp kp] (0,0) _ rfl (by refine blk_put (cs:=#[.slice An ln kn,.slice At lt kt,.int .i64 0,.int .i64 0,.slice none 0 0]) ?_ 4 _ rfl;refine blk_put (cs:=#[.slice An ln kn,.slice At lt kt,.int .i64 0,.int .i64 0,.slice none 0 0]) ?_ 3 _ rfl;refine blk_put (cs:=#[.slice An ln kn,.slice At lt kt,.int .i64 0,.int .i64 0,.slice none 0 0]) ?_ 2 _ rfl;refine blk_put (cs:=#[.slice An ln kn,.slice none 0 0,.int .i64 0,.int .i64 0,.slice none 0 0]) ?_ 1 _ rfl;refine blk_put (cs:=#[.slice none 0 0,.slice none 0 0,.int .i64 0,.int .i64 0,.slice none 0 0]) ?_ 0 _ rfl;exact HI.out.r) Try.underlying26 rfl (by kernel_rfl)) rfl ?_
       have hS34:w3.heap.size≤w4.heap.size:=HK4.out.1;refine⟨_,_,_,rfl,?_,?_,?_,?_⟩
       ·exact bL (Kd.R_mono (Kd.R_kept (Kd.R_kept HN4.out HK.out (fun k hk h=>by have:=HS4.out;omega)) (set5_kept wr _ _ _ _ _ _) (fun k hk h=>by omega)) (fun _ _=>trivial)) (by omega)
       ·exact bL (Kd.R_mono (Kd.R_kept (Kd.R_kept (Kd.R_mono (ok':=fun k=>w3.heap.size≤k∧k<w4.heap.size) (Kd.R_bound HT4.out) (fun k hk=>⟨hk.1,hk.2.2.1⟩)) HK.out (fun k hk h=>by have:=HB3.out;omega)) (set5_kept wr _ _ _ _ _ _) (fun k hk h=>by have:=HB3.out;omega)) (fun _ _=>trivial)) (by omega)
       ·have hp:=HM.out
        rw [mProds] at hp;rw [←hp];exact Kd.S_lower (Kd.S_mono (Kd.S_kept HP.out (set5_kept wr _ _ _ _ _ _) (fun k hk h=>by have:=HS4.out;omega)) (fun _ _=>trivial)) (by omega)
       ·exact set5_below HI.out.bel (by omega) _ _ _ _ _
      |succ i=>
       have d0:decide (((i+1:Nat):Int)>0)=true:=decide_eq_true (by omega);have d0b:(0<((i:Int)+1))=True:=eq_true (by omega);have P6:=aM (HI.out.calls HR0.out (m:Int) (by have:=M1.out;omega) (by have:=HAT.out;have:=C10.out;omega) HU.out);have hpn:=mPick_lt HU.out (at_+1) (n:=4) (by decide);obtain⟨cn,ecn,hcn⟩:∃cn:Nat,mPick l0 (at_+1) 4=(cn:Int)∧cn≤3:=⟨(mPick l0 (at_+1) 4).toNat,by omega,by omega⟩;have HATB:Aside0 (at_+8 * (i+1)≤83):=⟨by have:=HAT.out;have:=C10.out;omega⟩;have HCN:=aM hcn;have ECN:=aM ecn;clear hpn hcn ecn
       go_wp2_with (first
        |(go_at_fn 29;(with_reducible refine P6.out.mono ?_);rintro e w6 ⟨rfl,HI6,HK6⟩;clear P6;have HI7:=aM (HI6.out.below (aN (Below.refl _ w6) (.cells #[.int .i64 (mPick l0 at_ (m:Int)),.slice none 0 0] 35)));have P7:=aM (HI7.out.calls HR0.out 4 (by decide) (by have:=HATB.out;omega) HU.out);rw [ECN.out] at P7)
        |(go_at_fn 29;(with_reducible refine P7.out.mono ?_);rintro e w7 ⟨rfl,HI8,HK8⟩;clear P7))
       have HB8:=aM (blk_kept (heap_alloc_new w6 (.cells #[.int .i64 (mPick l0 at_ (m:Int)),.slice none 0 0] 35)) HK8.out (fun h=>by have:=HI6.out.size;omega));have HSZ6:Aside0 (wr.heap.size≤w6.heap.size∧w.heap.size+4≤wr.heap.size∧w4.heap.size≤wr.heap.size):=⟨HK6.out.1,HI.out.size,HK.out.1⟩;have HK9:Aside0 (Kept wr w7 (fun k=>k<w.heap.size+4∨wr.heap.size≤k)):=⟨Kept.then_ (Kept.alloc (Kept.mono HK6.out (fun k hk=> .inl (by omega))) (.cells #[.int .i64 (mPick l0 at_ (m:Int)),.slice none 0 0] 35)) HK8.out (fun k hk=> .inl (.inl (by omega)))⟩;clear HI7 HI6 HK6 HK8;have HQI:=aM hi;have hwi:IntKind.i64.wrap (((i+1:Nat):Int) - 1)=(i:Int):=by rw [IntKind.wrap_i64];have:=HL.out;have:=C10.out;omega
       clear hi;obtain⟨wo,ewo⟩:∃wo:World,wo=wr:=⟨_,rfl⟩;subst ewo
       go_loopg [12] cn (fun kq v12 wr=>∃(j a2:Nat) (vr:Value) (ar:List S43),v12= .int .i64 (j:Int)∧j≤kq∧Aside0 (ar.length+j=cn)∧Aside0 (a2+2 * j≤at_+2+2 * cn)∧Aside0 (mRight l0 m q j a2 ar=mRight l0 m q cn (at_+2) [])∧Aside0 (MadeI w A0 l0.length c0 a2 vn vt vp wr)∧Aside0 (wr.heap[w6.heap.size]?=some (.cells #[.int .i64 (mPick l0 at_ (m:Int)),vr] 35 (0,0)))∧Aside0 (Kept wo wr (fun k=>k<w.heap.size+4∨wo.heap.size≤k))∧Aside0 (Kd.R k43 43 wr (w.heap.size+4) (fun k=>w6.heap.size<k) vr ar))
       case atStart=>exact⟨cn,at_+2,.slice none 0 0,[],rfl,by omega,⟨by simp⟩,⟨by omega⟩,⟨rfl⟩,HI8,HB8,HK9,⟨Kd.R_nil _ _ _ _ _⟩⟩
       case round=>
        clear HI8 HB8 HK9;obtain⟨j,a2,vr,ar,rfl,hj,HJL,HA2,HMR,HI8,HB8,HK9,HR8⟩:=hrel
        cases j with
        |zero=>
         have b0:wr.cell? ⟨w6.heap.size,0,none⟩=some (.int .i64 (mPick l0 at_ (m:Int))):=(aG HB8.out 0).trans rfl;have b1:wr.cell? ⟨w6.heap.size,1,none⟩=some vr:=(aG HB8.out 1).trans rfl;have q4:wr.cell? ⟨w.heap.size+2,4,none⟩=some vp:=(aG HI8.out.s 4).trans rfl;have HPB:=aM (Kd.S_kept (Kd.S_mono (ok':=fun k=>w4.heap.size≤k∧k<wo.heap.size) (Kd.S_bound HP.out) (fun k hk=>⟨hk.1,hk.2.2.1⟩)) HK9.out (fun k hk h=>by have:=HS4.out;omega));have HKw:=aM (Kept.then_ HK.out HK9.out (fun k hk=>hk.elim (fun h=> .inl (.inl h)) (fun h=> .inl (.inr (by have:=HSZ6.out;omega)))));have HSi:=aM HI8.out.size;have HSw:Aside0 (w4.heap.size≤wr.heap.size):=⟨HKw.out.1⟩;have HACC:Aside0 (acc.length≤10):=⟨by have:=HL.out;have:=C10.out;omega⟩
         go_wp2_with (first
          |((with_reducible refine gate_builtin (b:= .append) (xs:=#[.tmp 89,.tmp 91]) rfl ?_);at_builtin;refine Kd.S_append k35 (w0:=wr) (w.heap.size+4) rfl (.tmp 89) (.tmp 91) 24 35 (.agg #[.int .i64 0,.slice none 0 0]) 32 rfl Try.underlying24 miProd rfl (by decide) (by omega) vp acc (⟨mPick l0 at_ (m:Int),ar⟩:S35) [.int .i64 (mPick l0 at_ (m:Int)),vr] (fun k=>w4.heap.size≤k) (fun k=>w6.heap.size<k) rfl rfl (k35_mkM _ _ _ (⟨mPick l0 at_ (m:Int),ar⟩:S35) HR8.out) (fun k hk=>⟨by have:=HSZ6.out;omega,fun e=>by have:=(Kd.S_R HPB.out).1 k e.symm;have:=HSZ6.out;omega⟩) (fun k hk=>Nat.le_trans HSw.out hk) (Kd.S_mono HPB.out (fun k hk=>⟨hk.1,by have:=HSZ6.out;omega⟩)) (Below.refl _ _) HSi.out (by have:=HACC.out;omega) ?_;intro v1 w10 ho hb hg hat;obtain⟨Ap,lp,kp,rfl⟩:∃An ln cn,v1= .slice An ln cn:=(by obtain⟨An,cn,e⟩:=Kd.S_slice ho;exact⟨An,_,cn,e⟩);have HI12:=aM (HI8.out.below4 hb);have HK12:=aM (Kept.of_grown hg HKw.out (fun k hk=> .inl (.inr ((Kd.S_R HPB.out).1 k hk).1)));have HS12:=aM ho;have f4:=aH HI12.out.s 4;have q4':w10.cell? ⟨w.heap.size+2,4,none⟩=some vp:=(aG HI12.out.s 4).trans rfl;clear ho hb hg hat q4 b0 b1))
         go_roundg i
         case measure=>have:=HQI.out;omega
         case rel=>exact⟨i,a2,_,acc++ [⟨mPick l0 at_ (m:Int),ar⟩],congrArg (Value.int .i64) (by unfold wrap64;have:=HACC.out;have:=HL.out;have:=C10.out;omega),Nat.le_refl _,⟨by have:=HL.out;simp;omega⟩,⟨by have:=HAT.out;have:=HA2.out;have:=HCN.out;omega⟩,⟨by have h:=HM.out;rw [mProds,ECN.out,Int.toNat_natCast,←HMR.out,mRight] at h;exact h⟩,⟨HI12.out.put4 _⟩,⟨Kept.setCell HK12.out (.inl (.inl (by simp))) _⟩,⟨Kd.S_kept HS12.out (Kept.setCell (Kept.refl _ (fun k=>k=w.heap.size+2)) (.inl rfl) _) (fun k hk h=>by have:=HS4.out;omega)⟩⟩
        |succ j=>
         have d2:(0<((j:Int)+1))=True:=eq_true (by omega);have P8:=aM (HI8.out.calls HR0.out 2 (by decide) (by have:=HATB.out;have:=HA2.out;have:=HCN.out;omega) HU.out);have HJ:=aM hj;clear hj
         by_cases hz:mPick l0 a2 2=0
         ·rw [hz] at P8
          go_wp2_with (first
           |(go_at_fn 29;(with_reducible refine P8.out.mono ?_);rintro e w8 ⟨rfl,HI10,HK10⟩;clear P8))
          have HZ:=aM hz;clear hz;have HI10d:=aM (HI10.out.below (aO (Below.refl _ w8)));have P9:=aM (HI10d.out.calls HR0.out (q:Int) (by have:=Q1.out;omega) (by have:=HATB.out;have:=HA2.out;have:=HCN.out;omega) HU.out);obtain⟨x,ex⟩:∃x:Int,x=mPick l0 (a2+1) (q:Int):=⟨_,rfl⟩;rw [←ex] at P9;have EX:=aM ex;have HB10:=aM (blk_kept HB8.out HK10.out (fun h=>by have:=HSZ6.out;omega));have HR10:=aM (Kd.R_kept HR8.out HK10.out (fun k hk h=>by have:=HSZ6.out;omega));have HK12:=aM (Kept.then_ HK9.out HK10.out (fun k hk=> .inl (.inl (by omega))));have HARL:Aside0 (ar.length≤3):=⟨by have:=HJL.out;have:=HCN.out;omega⟩;clear ex;refine start_ (n:=10) (S:=fun w'=>w'.cell? ⟨w6.heap.size,1,none⟩=some vr) (ds:= [9]) #[F,F,F,F,F,F,F,F,F,F] (by kernel_rfl) rfl rfl ((aG HB10.out 1).trans rfl) (fun hHeld=>?_)
          refine pure_ (i:=0) (N:=some 70) (v:=?_) (a':=?_) #[T,F,F,F,F,F,F,F,F,F] rfl rfl (by kernel_rfl) (fun _ _ _ h=>h) (Or.inl ⟨by rfl,?_⟩) ?_ ?_
          rotate_left;(intro w';go_simp;with_reducible rfl);rotate_left;(simp only [pq];rfl)
          refine pure_ (i:=2) (N:=some 72) (v:=?_) (a':=?_) #[T,F,T,F,F,F,F,F,F,F] rfl rfl (by kernel_rfl) (fun _ _ _ h=>h) (Or.inl ⟨by rfl,?_⟩) ?_ ?_
          rotate_left;(intro w';go_simp;with_reducible rfl);rotate_left;(simp only [pq];rfl)
          refine pure_ (i:=3) (N:=some 73) (v:=?_) (a':=?_) #[T,F,T,T,F,F,F,F,F,F] rfl rfl (by kernel_rfl) (fun _ _ _ h=>h) (Or.inl ⟨by rfl,?_⟩) ?_ ?_
          rotate_left;(intro w';go_simp;with_reducible rfl);rotate_left;(simp only [pq];rfl)
          refine take_ (i:=1) (N:=some 71) (v:=?_) (a':=?_) #[T,T,T,T,F,F,F,F,F,F] rfl rfl (by kernel_rfl) (fun _ _ _ h=>h) (Or.inl ⟨by rfl,?_⟩) hHeld ?_ ?_
          rotate_left
          ·intro w' s0
           go_simp
           with_reducible rfl
          rotate_left
          ·simp only [pq]
           rfl
          refine one_ (i:=4) (N:=some 74) #[T,T,T,T,T,F,F,F,F,F] rfl rfl (by kernel_rfl) (by decide) (fun K hK=>?_)
          refine call_ 29 #[.int .i64 (q:Int),.pointer (some ⟨w.heap.size+3,0,none⟩),.pointer (some ⟨w.heap.size,0,none⟩)] (by rfl) rfl (by unfold execOp;simp [resolve,Deferred.ofValue,invoke,Act.eval,eg]) ?_
          with_reducible refine P9.out.mono ?_
          rintro e w9 ⟨rfl,HI11,HK11⟩
          refine⟨_,rfl,?_⟩
          have HB11:=aM (blk_kept (W:=w8.drew) HB10.out HK11.out (fun h=>by have:=HSZ6.out;omega));have HR11:=aM (Kd.R_kept (aC HR10.out) HK11.out (fun k hk h=>by have:=HSZ6.out;omega));have HK13:=aM (Kept.then_ (Kept.drew HK12.out) HK11.out (fun k hk=> .inl (.inl (by omega))));have HS11:=aM HI11.out.size;have HL11:Aside0 (w6.heap.size<w9.heap.size):=⟨bN HB11.out⟩;refine hK.out _ _ ((aG HB11.out 1).trans rfl) (fun hHeld=>?_)
          clear hK K;refine norm_ (a':=?_) ?_ ?_
          rotate_left
          ·show Act.put _ (some 74) _=_
           simp only [pq];rfl
          refine pure_ (i:=5) (N:=some 75) (v:=?_) (a':=?_) #[T,T,T,T,T,T,F,F,F,F] rfl rfl (by kernel_rfl) (fun _ _ _ h=>h) (Or.inl ⟨by rfl,?_⟩) ?_ ?_
          rotate_left;(intro w';go_simp;with_reducible rfl);rotate_left;(simp only [pq];rfl)
          refine one_ (i:=6) (N:=some 76) #[T,T,T,T,T,T,T,F,F,F] rfl rfl (by kernel_rfl) (by decide) (fun K hK=>?_)
          refine value_ (w1:=?_) (v:=?_) (by rfl) rfl ?_ ?_
          rotate_left 2
          ·go_simp
           constructor
           ·rfl
           ·rfl
          refine hK.out _ _ ((aG (aI HB11.out _) 1).trans rfl) (fun hHeld=>?_)
          clear hK K;refine norm_ (a':=?_) ?_ ?_
          rotate_left
          ·show Act.put _ (some 76) _=_
           simp only [pq];rfl
          refine one_ (i:=7) (N:=some 77) #[T,T,T,T,T,T,T,T,F,F] rfl rfl (by kernel_rfl) (by decide) (fun K hK=>?_)
          refine Kd.R_append_step k43 (w0:=w9) (w.heap.size+4) (by rfl) (.tmp 71) (.tmp 76) 29 43 (.agg #[.bool false,.int .i64 0]) 16 rfl Try.underlying29 miSym rfl (by decide) (by omega) vr ar (⟨true,x⟩:S43) [.bool true,.int .i64 x] (fun k=>w6.heap.size<k) (fun _=>False) rfl rfl (k43_mkM _ _ _ (⟨true,x⟩:S43)) (fun _ hk=>hk.elim) (fun k hk=>Nat.lt_of_lt_of_le HL11.out hk) HR11.out (Below.refl _ _) HS11.out (by have:=HARL.out;omega) ?_
          intro v1 w1 ho hb hg hat;obtain⟨An,ln,kn,rfl⟩:∃An ln cn,v1= .slice An ln cn:=by obtain⟨An,cn,e⟩:=Kd.R_slice ho;exact⟨An,_,cn,e⟩
          have HI12:=aM (HI11.out.below4 hb);have HB12:=aM (blk_grown HB11.out hg (fun e=>Nat.lt_irrefl _ (HR11.out.1 _ e.symm)));have HK14:=aM (Kept.of_grown hg HK13.out (fun k hk=> .inl (.inr (by have:=HR11.out.1 k hk;have:=HSZ6.out;omega))));have HR12:=aM ho;have f3:=aH HB12.out 1;clear ho hb hg hat;refine hK.out _ _ ((aG HB12.out 1).trans rfl) (fun hHeld=>?_)
          clear hK K;refine norm_ (a':=?_) ?_ ?_
          rotate_left
          ·show Act.put _ (some 77) _=_
           simp only [pq];rfl
          refine pure_ (i:=8) (N:=some 78) (v:=?_) (a':=?_) #[T,T,T,T,T,T,T,T,T,F] rfl rfl (by kernel_rfl) (fun _ _ _ h=>h) (Or.inl ⟨by rfl,?_⟩) ?_ ?_
          rotate_left;(intro w';go_simp;with_reducible rfl);rotate_left;(simp only [pq];rfl)
          refine last_ (i:=9) (N:=none) #[T,T,T,T,T,T,T,T,T,T] rfl rfl (by kernel_rfl) (by decide) (fun K hK=>?_)
          refine skip_ (w1:=?_) (by rfl) rfl ?_ ?_
          rotate_left
          ·go_simp
           rfl
          refine hK.out _ _ ?_
          clear hK K;refine done_ (by kernel_rfl) ?_
          go_wp2
          go_roundg j
          case measure=>have:=HJ.out;omega
          case rel=>exact⟨j,a2+2,_,ar++ [⟨true,x⟩],congrArg (Value.int .i64) (by unfold wrap64;have:=HJL.out;have:=HCN.out;omega),Nat.le_refl _,⟨by have:=HJL.out;simp;omega⟩,⟨by have:=HA2.out;omega⟩,⟨by have h:=HMR.out;rw [mRight,if_pos HZ.out,←EX.out] at h;exact h⟩,⟨HI12.out.below4 ((Below.refl _ _).setCell (show w.heap.size+4≤w6.heap.size by have:=HSZ6.out;omega) _)⟩,⟨blk_put HB12.out 1 _ rfl⟩,⟨Kept.setCell HK14.out (.inl (.inr (show wo.heap.size≤w6.heap.size from HSZ6.out.1))) _⟩,⟨Kd.R_kept HR12.out (Kept.setCell (Kept.refl _ (fun k=>k=w6.heap.size)) (.inl rfl) _) (fun k hk h=>by omega)⟩⟩
         ·have hzd:(mPick l0 a2 2=0)=False:=eq_false hz
          go_wp2_with (first
           |(go_at_fn 29;(with_reducible refine P8.out.mono ?_);rintro e w8 ⟨rfl,HI10,HK10⟩;clear P8))
          have HZ:=aM hz;clear hz;have HI10d:=aM (HI10.out.below (aO (Below.refl _ w8)));have P9:=aM (HI10d.out.calls HR0.out (m:Int) (by have:=M1.out;omega) (by have:=HATB.out;have:=HA2.out;have:=HCN.out;omega) HU.out);obtain⟨x,ex⟩:∃x:Int,x=mPick l0 (a2+1) (m:Int):=⟨_,rfl⟩;rw [←ex] at P9;have EX:=aM ex;have HB10:=aM (blk_kept HB8.out HK10.out (fun h=>by have:=HSZ6.out;omega));have HR10:=aM (Kd.R_kept HR8.out HK10.out (fun k hk h=>by have:=HSZ6.out;omega));have HK12:=aM (Kept.then_ HK9.out HK10.out (fun k hk=> .inl (.inl (by omega))));have HARL:Aside0 (ar.length≤3):=⟨by have:=HJL.out;have:=HCN.out;omega⟩;clear ex;refine start_ (n:=10) (S:=fun w'=>w'.cell? ⟨w6.heap.size,1,none⟩=some vr) (ds:= [9]) #[F,F,F,F,F,F,F,F,F,F] (by kernel_rfl) rfl rfl ((aG HB10.out 1).trans rfl) (fun hHeld=>?_)
          refine pure_ (i:=0) (N:=some 79) (v:=?_) (a':=?_) #[T,F,F,F,F,F,F,F,F,F] rfl rfl (by kernel_rfl) (fun _ _ _ h=>h) (Or.inl ⟨by rfl,?_⟩) ?_ ?_
          rotate_left;(intro w';go_simp;with_reducible rfl);rotate_left;(simp only [pq];rfl)
          refine pure_ (i:=2) (N:=some 81) (v:=?_) (a':=?_) #[T,F,T,F,F,F,F,F,F,F] rfl rfl (by kernel_rfl) (fun _ _ _ h=>h) (Or.inl ⟨by rfl,?_⟩) ?_ ?_
          rotate_left;(intro w';go_simp;with_reducible rfl);rotate_left;(simp only [pq];rfl)
          refine pure_ (i:=3) (N:=some 82) (v:=?_) (a':=?_) #[T,F,T,T,F,F,F,F,F,F] rfl rfl (by kernel_rfl) (fun _ _ _ h=>h) (Or.inl ⟨by rfl,?_⟩) ?_ ?_
          rotate_left;(intro w';go_simp;with_reducible rfl);rotate_left;(simp only [pq];rfl)
          refine take_ (i:=1) (N:=some 80) (v:=?_) (a':=?_) #[T,T,T,T,F,F,F,F,F,F] rfl rfl (by kernel_rfl) (fun _ _ _ h=>h) (Or.inl ⟨by rfl,?_⟩) hHeld ?_ ?_
          rotate_left
          ·intro w' s0
           go_simp
           with_reducible rfl
          rotate_left
          ·simp only [pq]
           rfl
          refine one_ (i:=4) (N:=some 83) #[T,T,T,T,T,F,F,F,F,F] rfl rfl (by kernel_rfl) (by decide) (fun K hK=>?_)
          refine call_ 29 #[.int .i64 (m:Int),.pointer (some ⟨w.heap.size+3,0,none⟩),.pointer (some ⟨w.heap.size,0,none⟩)] (by rfl) rfl (by unfold execOp;simp [resolve,Deferred.ofValue,invoke,Act.eval,eg]) ?_
          with_reducible refine P9.out.mono ?_
          rintro e w9 ⟨rfl,HI11,HK11⟩
          refine⟨_,rfl,?_⟩
          have HB11:=aM (blk_kept (W:=w8.drew) HB10.out HK11.out (fun h=>by have:=HSZ6.out;omega));have HR11:=aM (Kd.R_kept (aC HR10.out) HK11.out (fun k hk h=>by have:=HSZ6.out;omega));have HK13:=aM (Kept.then_ (Kept.drew HK12.out) HK11.out (fun k hk=> .inl (.inl (by omega))));have HS11:=aM HI11.out.size;have HL11:Aside0 (w6.heap.size<w9.heap.size):=⟨bN HB11.out⟩;refine hK.out _ _ ((aG HB11.out 1).trans rfl) (fun hHeld=>?_)
          clear hK K;refine norm_ (a':=?_) ?_ ?_
          rotate_left
          ·show Act.put _ (some 83) _=_
           simp only [pq];rfl
          refine pure_ (i:=5) (N:=some 84) (v:=?_) (a':=?_) #[T,T,T,T,T,T,F,F,F,F] rfl rfl (by kernel_rfl) (fun _ _ _ h=>h) (Or.inl ⟨by rfl,?_⟩) ?_ ?_
          rotate_left;(intro w';go_simp;with_reducible rfl);rotate_left;(simp only [pq];rfl)
          refine one_ (i:=6) (N:=some 85) #[T,T,T,T,T,T,T,F,F,F] rfl rfl (by kernel_rfl) (by decide) (fun K hK=>?_)
          refine value_ (w1:=?_) (v:=?_) (by rfl) rfl ?_ ?_
          rotate_left 2
          ·go_simp
           constructor
           ·rfl
           ·rfl
          refine hK.out _ _ ((aG (aI HB11.out _) 1).trans rfl) (fun hHeld=>?_)
          clear hK K;refine norm_ (a':=?_) ?_ ?_
          rotate_left
          ·show Act.put _ (some 85) _=_
           simp only [pq];rfl
          refine one_ (i:=7) (N:=some 86) #[T,T,T,T,T,T,T,T,F,F] rfl rfl (by kernel_rfl) (by decide) (fun K hK=>?_)
          refine Kd.R_append_step k43 (w0:=w9) (w.heap.size+4) (by rfl) (.tmp 80) (.tmp 85) 29 43 (.agg #[.bool false,.int .i64 0]) 16 rfl Try.underlying29 miSym rfl (by decide) (by omega) vr ar (⟨false,x⟩:S43) [.bool false,.int .i64 x] (fun k=>w6.heap.size<k) (fun _=>False) rfl rfl (k43_mkM _ _ _ (⟨false,x⟩:S43)) (fun _ hk=>hk.elim) (fun k hk=>Nat.lt_of_lt_of_le HL11.out hk) HR11.out (Below.refl _ _) HS11.out (by have:=HARL.out;omega) ?_
          intro v1 w1 ho hb hg hat;obtain⟨An,ln,kn,rfl⟩:∃An ln cn,v1= .slice An ln cn:=by obtain⟨An,cn,e⟩:=Kd.R_slice ho;exact⟨An,_,cn,e⟩
          have HI12:=aM (HI11.out.below4 hb);have HB12:=aM (blk_grown HB11.out hg (fun e=>Nat.lt_irrefl _ (HR11.out.1 _ e.symm)));have HK14:=aM (Kept.of_grown hg HK13.out (fun k hk=> .inl (.inr (by have:=HR11.out.1 k hk;have:=HSZ6.out;omega))));have HR12:=aM ho;have f3:=aH HB12.out 1;clear ho hb hg hat;refine hK.out _ _ ((aG HB12.out 1).trans rfl) (fun hHeld=>?_)
          clear hK K;refine norm_ (a':=?_) ?_ ?_
          rotate_left
          ·show Act.put _ (some 86) _=_
           simp only [pq];rfl
          refine pure_ (i:=8) (N:=some 87) (v:=?_) (a':=?_) #[T,T,T,T,T,T,T,T,T,F] rfl rfl (by kernel_rfl) (fun _ _ _ h=>h) (Or.inl ⟨by rfl,?_⟩) ?_ ?_
          rotate_left;(intro w';go_simp;with_reducible rfl);rotate_left;(simp only [pq];rfl)
          refine last_ (i:=9) (N:=none) #[T,T,T,T,T,T,T,T,T,T] rfl rfl (by kernel_rfl) (by decide) (fun K hK=>?_)
          refine skip_ (w1:=?_) (by rfl) rfl ?_ ?_
          rotate_left
          ·go_simp
           rfl
          refine hK.out _ _ ?_
          clear hK K;refine done_ (by kernel_rfl) ?_
          go_wp2
          go_roundg j
          case measure=>have:=HJ.out;omega
          case rel=>exact⟨j,a2+2,_,ar++ [⟨false,x⟩],congrArg (Value.int .i64) (by unfold wrap64;have:=HJL.out;have:=HCN.out;omega),Nat.le_refl _,⟨by have:=HJL.out;simp;omega⟩,⟨by have:=HA2.out;omega⟩,⟨by have h:=HMR.out;rw [mRight,if_neg HZ.out,←EX.out] at h;exact h⟩,⟨HI12.out.below4 ((Below.refl _ _).setCell (show w.heap.size+4≤w6.heap.size by have:=HSZ6.out;omega) _)⟩,⟨blk_put HB12.out 1 _ rfl⟩,⟨Kept.setCell HK14.out (.inl (.inr (show wo.heap.size≤w6.heap.size from HSZ6.out.1))) _⟩,⟨Kd.R_kept HR12.out (Kept.setCell (Kept.refl _ (fun k=>k=w6.heap.size)) (.inl rfl) _) (fun k hk h=>by omega)⟩⟩
end Go.Proofs.Ytapjfnfengefpaa.P
end

section
namespace Go.Proofs.Ytapjfnfengefpaa.P
open Go.RowKit Go.Proofs.YtapjfnfengefpaaW.PrintWords Go.Proofs.YtapjfnfengefpaaW.PrintLast Go.Proofs.YtapjfnfengefpaaW.PrintMore
attribute [local go_sem] max2_int min2_int max_two min_two max_three min_three max_four min_four   -- for this text's walks alone
set_option linter.unusedVariables false
set_option linter.unusedSimpArgs false
mutual
def regletlaw14_Clear.l0:Nat→Int→List ByteArray→List (S72)→Int→Int→List (S35)→Option (List ByteArray×(List (S72))×Int×Int×(List (S35)))
 |0,_,_,_,_,_,_=>none
 |k+1,x4,x494000,x494001,x494002,x494003,x494004=>if x4<(x494004.length:Int) then(if x494001.length<1353245080339 then(regletlaw14_Clear.l1 k x4 ([]:List (S43)) 0 x494000 (x494001++ [(⟨(⟨#[]⟩:ByteArray),(⟨6,(⟨#[]⟩:ByteArray),(([wrap64 (97+x4)]:List Int)),0,0,([]:List (S70))⟩:S70)⟩:S72)]) x494002 x494003 x494004) else(none)) else(regletlaw14_Clear.l2 k 0 x494000 x494001 x494002 x494003 x494004)
def regletlaw14_Clear.l1:Nat→Int→List (S43)→Int→List ByteArray→List (S72)→Int→Int→List (S35)→Option (List ByteArray×(List (S72))×Int×Int×(List (S35)))
 |0,_,_,_,_,_,_,_,_=>none
 |k+1,x4,x5,x6,x494000,x494001,x494002,x494003,x494004=>if 0≤x4 then(if x4<(x494004.length:Int) then(if x6<(((rd_T35 x494004 x4).f1).length:Int) then(if 0≤x6 then(if(rd_T43 ((rd_T35 x494004 x4).f1) x6).f0=true then(if(x494004.length:Int)=0 then(none) else(if x5.length<8796093022208 then(regletlaw14_Clear.l1 k x4 (x5++ [(⟨(rd_T43 ((rd_T35 x494004 x4).f1) x6).f0,Int.tmod ((rd_T43 ((rd_T35 x494004 x4).f1) x6).f1) (x494004.length:Int)⟩:S43)]) (wrap64 (x6+1)) x494000 x494001 x494002 x494003 x494004) else(none))) else(if x5.length<8796093022208 then(regletlaw14_Clear.l1 k x4 (x5++ [(⟨(rd_T43 ((rd_T35 x494004 x4).f1) x6).f0,(rd_T43 ((rd_T35 x494004 x4).f1) x6).f1⟩:S43)]) (wrap64 (x6+1)) x494000 x494001 x494002 x494003 x494004) else(none))) else(none)) else(if(x5.length:Int)>0 then(if 0<(x5.length:Int) then(regletlaw14_Clear.l0 k (wrap64 (x4+1)) x494000 x494001 x494002 x494003 (x494004.set (x4:Int).toNat (⟨(rd_T35 x494004 x4).f0,(x5.set (0:Int).toNat (⟨true,x4⟩:S43))⟩:S35))) else(none)) else(regletlaw14_Clear.l0 k (wrap64 (x4+1)) x494000 x494001 x494002 x494003 (x494004.set (x4:Int).toNat (⟨(rd_T35 x494004 x4).f0,x5⟩:S35))))) else(none)) else(none)
def regletlaw14_Clear.l2:Nat→Int→List ByteArray→List (S72)→Int→Int→List (S35)→Option (List ByteArray×(List (S72))×Int×Int×(List (S35)))
 |0,_,_,_,_,_,_=>none
 |k+1,x8,x494000,x494001,x494002,x494003,x494004=>if x8<(x494004.length:Int) then(regletlaw14_Clear.l3 k x8 0 x494000 x494001 x494002 x494003 x494004) else(some (x494000,x494001,x494002,x494003,x494004))
def regletlaw14_Clear.l3:Nat→Int→Int→List ByteArray→List (S72)→Int→Int→List (S35)→Option (List ByteArray×(List (S72))×Int×Int×(List (S35)))
 |0,_,_,_,_,_,_,_=>none
 |k+1,x8,x9,x494000,x494001,x494002,x494003,x494004=>if 0≤x8 then(if x8<(x494004.length:Int) then(if x9<(((rd_T35 x494004 x8).f1).length:Int) then(if 0≤x9 then(if(rd_T43 ((rd_T35 x494004 x8).f1) x9).f0=true then(if(x494001.length:Int)=0 then(none) else(regletlaw14_Clear.l3 k x8 (wrap64 (x9+1)) x494000 x494001 x494002 x494003 (x494004.set (x8:Int).toNat (⟨(rd_T35 x494004 x8).f0,(((rd_T35 x494004 x8).f1).set (x9:Int).toNat (⟨(rd_T43 ((rd_T35 x494004 x8).f1) x9).f0,Int.tmod ((rd_T43 ((rd_T35 x494004 x8).f1) x9).f1) (x494001.length:Int)⟩:S43))⟩:S35)))) else(regletlaw14_Clear.l3 k x8 (wrap64 (x9+1)) x494000 x494001 x494002 x494003 x494004)) else(none)) else(regletlaw14_Clear.l2 k (wrap64 (x8+1)) x494000 x494001 x494002 x494003 x494004)) else(none)) else(none)
end
def regletlaw14_Clear.f (k:Nat) (l0:List Int):Option (List ByteArray×(List (S72))×Int×Int×(List (S35))):=(regletlaw13_Made.f k l0).bind fun pS=>(regletlaw14_Clear.l0 k 0 pS.1 ([]:List (S72)) pS.2.2.1 pS.2.2.2.1 pS.2.2.2.2)
def regletlaw14_Clear.T25:Bool×List (List Nat×List Nat):=(true,[([],[]),([0],[0]),([],[]),([1,2],[1,2]),([3],[3]),([4],[4]),([],[]),([],[]),([7],[7]),([],[]),([8,9],[8,9]),([10],[10]),([11],[11]),([],[]),([12,13],[12,13]),([14],[14]),([15],[15]),([],[]),([17],[17]),([18],[18]),([16,19],[16,19]),([5,6,0,1,2,3,4,5,6,7,8,9,10,11,12,13,14,15,16,17,18,19,20],[5,6]),([21,0,1,2,3,4,5,6,7,8,9,10,11,12,13,14,15,16,17,18,19,20],[21]),([22,20,0,1,2,3,4,5,6,7,8,9,10,11,12,13,14,15,16,17,18,19,20],[20,22])])
def regletlaw14_Clear.B25:List Nat:= [0,1,0,7,15,31,0,0,128,0,896,1920,3968,0,16256,32640,65408,0,131072,393216,1048448,2097151,4194303,8388607]
theorem regletlaw14_Clear.tab25:rtab .any (opsOf Try.f19 25)=regletlaw14_Clear.T25:=by kernel_rfl
theorem regletlaw14_Clear.bits25:waitsOk regletlaw14_Clear.T25.2 regletlaw14_Clear.B25=true:=by kernel_rfl
set_option maxHeartbeats 8000000 in
set_option maxRecDepth 100000 in
theorem regletlaw14_Clear.calls (k:Nat) (A0:Option Addr) (c0:Nat) (l0:List Int) (r1:List ByteArray) (r2:List (S72)) (r3:Int) (r4:Int) (r5:List (S35)) (w:World) (hr0:Kd.C (Kd.int .u8) w A0 l0.length l0) (hc0:l0.length≤c0) (h:regletlaw14_Clear.f k l0=some (r1,r2,r3,r4,r5)):
 Calls Try.prog 19 #[.slice A0 l0.length c0] w fun e w'=>∃v0_ v1_ v4_:Value,e= .returned (.agg #[v0_,v1_,.int .i64 r3,.int .i64 r4,v4_])∧Kd.R Kd.string 9 w' w.heap.size (fun _=>True) v0_ r1∧Kd.R k72 72 w' w.heap.size (fun _=>True) v1_ r2∧Kd.S k35 35 w' w.heap.size (fun _=>True) v4_ r5∧Below w.heap.size w w':=by
 have hu26:=Try.underlying26;have hu70:=Try.underlying70;have hu72:=Try.underlying72;have hu43:=Try.underlying43;have HR0:=aM hr0;have HC0:=aM hc0;clear hr0 hc0;have HB:=aM (Below.refl w.heap.size w);have H:((regletlaw13_Made.f k l0).bind fun pS=>(regletlaw14_Clear.l0 k 0 pS.1 ([]:List (S72)) pS.2.2.1 pS.2.2.2.1 pS.2.2.2.2))=some (r1,r2,r3,r4,r5):=h;clear h;replace H:=Option.bind_eq_some_iff.mp H;obtain⟨⟨t482,t485,t488,t489,t490⟩,A20,H⟩:=H;replace H:(regletlaw14_Clear.l0 k 0 t482 ([]:List (S72)) t488 t489 t490)=some (r1,r2,r3,r4,r5):=H;have A2:=aM A20;clear A20;have H':=aM H;clear H;go_enter Try.func19,Try.ntmps19
 go_wp2_with (first|((with_reducible refine bJ (N:=2) rfl ?_);refine box_event ?hg (N:=2) ?hd (cs:=#[.slice none 0 0,.slice none 0 0,.int .i64 0,.int .i64 0,.slice none 0 0]) (t:=26) ?hr ?_;(case hd=>rfl);(case hg=>rfl);(case hr=>first|(go_simp;done)|(go_simp;rfl));intro fF hg w3 hbox hb;have cH:=aM (bG (gW HB.out) hb);have cI:=aM (hbox);have cK:=aM ((by rw [hg];exact(bH (gW HB.out)):w.heap.size≤fF));have cQ:=aM ((by rw [hg];exact(bH (gW HB.out)):w.heap.size≤fF));clear HB;have HB:=cH;have dJ:=cI;have GW481:=cK;have sN:=cQ;clear cH cI cK cQ;clear hb hbox hg)|((with_reducible refine bI (f:=13) rfl ?_);refine goesL_ (some 11) rfl rfl Try.func13 (by kernel_rfl) rfl #[.slice A0 l0.length c0] rfl (by(try simp only [List.map_toArray,List.map_cons,List.map_nil]);first|done|rfl|(simp only [List.length_drop,List.length_take];rfl)) ?_;(with_reducible refine(regletlaw13_Made.calls k _ _ l0 t482 t485 t488 t489 t490 _ ?side1 ?side2 A2.out).mono ?_);(case side1=>exact gC (bD HR0.out HB.out));(case side2=>exact HC0.out);rintro e w4 ⟨v483,v486,v491,rfl,ho0,ho1,ho2,hb⟩;refine⟨_,rfl,?_⟩;have cH:=aM (bL ho0 (bH (gW HB.out)));have cI:=aM (bL ho1 (bH (gW HB.out)));have cK:=aM (Kd.S_lower ho2 (bH (gW HB.out)));have cQ:=aM (bF (gB dJ.out) hb);have dI:=aM (bG (gW HB.out) hb);clear dJ;clear HB;have zM:=cH;have Dm:=cI;have zN:=cK;have dJ:=cQ;have HB:=dI;clear cH cI cK cQ dI;(try clear hb);(try clear hb2);(try clear hk);(try clear hi);(try clear ho0);(try clear ho1);(try clear ho2))|((with_reducible refine bJ (N:=3) rfl ?_);refine box_event ?hg (N:=3) ?hd (cs:=#[.slice none 0 0,.slice none 0 0,.int .i64 0,.int .i64 0,.slice none 0 0]) (t:=26) ?hr ?_;(case hd=>rfl);(case hg=>rfl);(case hr=>first|(go_simp;done)|(go_simp;rfl));intro cP hg w5 hbox hb;have cH:=aM (aD (gR zM.out) hb);have cI:=aM (aD (gR Dm.out) hb);have cK:=aM (Kd.S_below (gS zN.out) hb);have cQ:=aM (bF (gB dJ.out) hb);have dI:=aM (bG (gW HB.out) hb);have dR:=aM (hbox);have dV:=aM ((by rw [hg];exact(bH (gW HB.out)):w.heap.size≤cP));have eV:=aM ((by rw [hg];exact(bH (gW HB.out)):w.heap.size≤cP));have fV:=aM ((by rw [hg];exact Nat.ne_of_lt (bN (g:=fF) (o:= .cells #[.slice none 0 0,.slice none 0 0,.int .i64 0,.int .i64 0,.slice none 0 0] 26 (0,0)) (gB dJ.out)):fF≠cP));have gQ:=aM ((by rw [hg];exact Nat.ne_of_gt (bN (g:=fF) (o:= .cells #[.slice none 0 0,.slice none 0 0,.int .i64 0,.int .i64 0,.slice none 0 0] 26 (0,0)) (gB dJ.out)):cP≠fF));clear zM;clear Dm;clear zN;clear dJ;clear HB;have zM:=cH;have Dm:=cI;have zN:=cK;have dJ:=cQ;have HB:=dI;have bP:=dR;have GW493:=dV;have sO:=eV;have eW:=fV;have gH:=gQ;clear cH cI cK cQ dI dR dV eV fV gQ;clear hb hbox hg;obtain⟨mD,mE,KC⟩:=Kd.R_slice zM.out;subst KC;have hnb7:=gH.out;have hnc7:=eW.out;have jO:w5.cell? ⟨cP,0,none⟩=some (.slice none 0 0):=(aG bP.out 0).trans rfl;have jP:w5.cell? ⟨cP,1,none⟩=some (.slice none 0 0):=(aG bP.out 1).trans rfl;have lR:w5.cell? ⟨cP,2,none⟩=some (.int .i64 0):=(aG bP.out 2).trans rfl;have lS:w5.cell? ⟨cP,3,none⟩=some (.int .i64 0):=(aG bP.out 3).trans rfl;have lT:w5.cell? ⟨cP,4,none⟩=some (.slice none 0 0):=(aG bP.out 4).trans rfl;have jQ:=aH bP.out 0;have jR:=aH bP.out 1;have lU:=aH bP.out 2;have lV:=aH bP.out 3;have lW:=aH bP.out 4;obtain⟨Rm,Ph,EJ⟩:=Kd.R_slice Dm.out;subst EJ;obtain⟨nE,nF,Rn⟩:=Kd.S_slice zN.out;subst Rn))
 go_loopg [4] k (fun kq v4 w'=>∃(bY:Int) (cZ:List (S72)) (bA:List (S35)) (u494001:Value) (u494004:Value),v4= .int .i64 bY∧Aside0 (regletlaw14_Clear.l0 kq bY t482 cZ t488 t489 bA=some (r1,r2,r3,r4,r5))∧Aside0 (kq≤k)∧Aside0 (Kd.R Kd.string 9 w' w.heap.size (fun _=>True) (.slice mD t482.length mE) t482)∧Aside0 (Kd.R k72 72 w' w.heap.size (fun _=>True) u494001 cZ)∧Aside0 (Kd.S k35 35 w' w.heap.size (fun _=>True) u494004 bA)∧Aside0 (w'.heap[fF]?=some (.cells #[(.slice none 0 0),(.slice none 0 0),.int .i64 0,.int .i64 0,(.slice none 0 0)] 26 (0,0)))∧Aside0 (w'.heap[cP]?=some (.cells #[(.slice mD t482.length mE),u494001,.int .i64 t488,.int .i64 t489,u494004] 26 (0,0)))∧Aside0 (Below w.heap.size w w'))
 case atStart=>exact⟨(0),(([]:List (S72))),(t490),(.slice none 0 0),(.slice nE t490.length nF),(by first|rfl|(simp;done)|(simp [*];done)),H',⟨Nat.le_refl _⟩,⟨by(with_reducible repeat(first|apply aA|apply aB|apply aC));exact Kd.R_mono (aE (p:=⟨cP,1,none⟩) (aE (p:=⟨cP,4,none⟩) (aE (p:=⟨cP,3,none⟩) (aE (p:=⟨cP,2,none⟩) (aE (p:=⟨cP,1,none⟩) (aE (p:=⟨cP,0,none⟩) (Kd.R_types zM.out bP.out (by decide)) (fun _ hk=>hk.2) (.slice mD t482.length mE)) (fun _ hk=>hk.2) (.slice Rm t485.length Ph)) (fun _ hk=>hk.2) (.int .i64 t488)) (fun _ hk=>hk.2) (.int .i64 t489)) (fun _ hk=>hk.2) (.slice nE t490.length nF)) (fun _ hk=>hk.2) (.slice none 0 0)) (fun _ hk=>trivial)⟩,⟨by first|exact Kd.R_nil _ _ _ _ _|exact Kd.N_nil _ _ _ _ _|exact Kd.V_nil _ _ _ _ _|exact Kd.Q_nil _ _ _ _ _|exact Kd.S_nil _ _ _ _ _⟩,⟨by(with_reducible repeat(first|apply Kd.S_alloc|apply aV|apply aW));exact Kd.S_mono (Kd.S_far (p:=⟨cP,1,none⟩) (Kd.S_far (p:=⟨cP,4,none⟩) (Kd.S_far (p:=⟨cP,3,none⟩) (Kd.S_far (p:=⟨cP,2,none⟩) (Kd.S_far (p:=⟨cP,1,none⟩) (Kd.S_far (p:=⟨cP,0,none⟩) (Kd.S_types zN.out bP.out (by decide)) (fun _ hk=>hk.2) (.slice mD t482.length mE)) (fun _ hk=>hk.2) (.slice Rm t485.length Ph)) (fun _ hk=>hk.2) (.int .i64 t488)) (fun _ hk=>hk.2) (.int .i64 t489)) (fun _ hk=>hk.2) (.slice nE t490.length nF)) (fun _ hk=>hk.2) (.slice none 0 0)) (fun _ hk=>trivial)⟩,⟨by(with_reducible repeat(first|refine aJ ?_ _|refine aK ?_|refine aI ?_ _));refine blk_far ?_ eW.out _;(with_reducible repeat(first|refine aJ ?_ _|refine aK ?_|refine aI ?_ _));refine blk_far ?_ eW.out _;(with_reducible repeat(first|refine aJ ?_ _|refine aK ?_|refine aI ?_ _));refine blk_far ?_ eW.out _;(with_reducible repeat(first|refine aJ ?_ _|refine aK ?_|refine aI ?_ _));refine blk_far ?_ eW.out _;(with_reducible repeat(first|refine aJ ?_ _|refine aK ?_|refine aI ?_ _));refine blk_far ?_ eW.out _;(with_reducible repeat(first|refine aJ ?_ _|refine aK ?_|refine aI ?_ _));refine blk_far ?_ eW.out _;(with_reducible repeat(first|refine aJ ?_ _|refine aK ?_|refine aI ?_ _));exact dJ.out⟩,⟨by(with_reducible repeat(first|refine aJ ?_ _|refine aK ?_|refine aI ?_ _));refine blk_put (cs:=#[.slice mD t482.length mE,.slice Rm t485.length Ph,.int .i64 t488,.int .i64 t489,.slice nE t490.length nF]) ?_ 1 _ rfl;(with_reducible repeat(first|refine aJ ?_ _|refine aK ?_|refine aI ?_ _));refine blk_put (cs:=#[.slice mD t482.length mE,.slice Rm t485.length Ph,.int .i64 t488,.int .i64 t489,.slice none 0 0]) ?_ 4 _ rfl;(with_reducible repeat(first|refine aJ ?_ _|refine aK ?_|refine aI ?_ _));refine blk_put (cs:=#[.slice mD t482.length mE,.slice Rm t485.length Ph,.int .i64 t488,.int .i64 0,.slice none 0 0]) ?_ 3 _ rfl;(with_reducible repeat(first|refine aJ ?_ _|refine aK ?_|refine aI ?_ _));refine blk_put (cs:=#[.slice mD t482.length mE,.slice Rm t485.length Ph,.int .i64 0,.int .i64 0,.slice none 0 0]) ?_ 2 _ rfl;(with_reducible repeat(first|refine aJ ?_ _|refine aK ?_|refine aI ?_ _));refine blk_put (cs:=#[.slice mD t482.length mE,.slice none 0 0,.int .i64 0,.int .i64 0,.slice none 0 0]) ?_ 1 _ rfl;(with_reducible repeat(first|refine aJ ?_ _|refine aK ?_|refine aI ?_ _));refine blk_put (cs:=#[.slice none 0 0,.slice none 0 0,.int .i64 0,.int .i64 0,.slice none 0 0]) ?_ 0 _ rfl;(with_reducible repeat(first|refine aJ ?_ _|refine aK ?_|refine aI ?_ _));exact bP.out⟩,⟨by repeat(first|(with_reducible first|exact HB.out|apply aN|apply aP|apply aO|refine aL ?_ sN.out|refine aL ?_ sO.out)|exact HB.out)⟩⟩
 case round=>
  clear H'
  (try clear c1);(try clear p2);(try clear c7);(try clear jO);(try clear jP);(try clear lR);(try clear lS);(try clear lT);(try clear jQ);(try clear jR);(try clear lU);(try clear lV);(try clear lW)
  obtain⟨bY,cZ,bA,u494001,u494004,rfl,HA,HK1,cS,cL,bM,dJ,bP,HB⟩:=hrel
  cases gk with
  |zero=>exact absurd HA.out (by simp [regletlaw14_Clear.l0])
  |succ k1=>
   have H:=HA.out;clear HA;simp only [regletlaw14_Clear.l0] at H
   by_cases c11:bY<(bA.length:Int)
   ·rw [if_pos c11] at H
    have pQ:decide (bY<(bA.length:Int))=true:=decide_eq_true c11;clear c11;obtain⟨y494,zO⟩:∃y_:List Int,y_=(([wrap64 (97+bY)]:List Int)):=⟨_,rfl⟩;replace H:(if cZ.length<1353245080339 then(regletlaw14_Clear.l1 k1 bY ([]:List (S43)) 0 t482 (cZ++ [(⟨(⟨#[]⟩:ByteArray),(⟨6,(⟨#[]⟩:ByteArray),y494,0,0,([]:List (S70))⟩:S70)⟩:S72)]) t488 t489 bA) else(none))=some (r1,r2,r3,r4,r5):=by first|(rw [zO];with_reducible exact H)|(have H2_:=(Option.bind_some _ _).symm.trans H;rw [zO];with_reducible exact H2_)|(have H2_:=(Option.bind_some _ _).symm.trans H;with_reducible exact H2_)|with_reducible exact H|(rw [zO];exact H)|exact H
    have Pi:=aM zO;clear zO
    by_cases c12:cZ.length<1353245080339
    rotate_left
    ·rw [if_neg c12] at H
     exact absurd H (by simp)
    rw [if_pos c12] at H;have Th:=aM c12;clear c12;obtain⟨y497,zP⟩:∃y_:List (S72),y_=(cZ++ [(⟨(⟨#[]⟩:ByteArray),(⟨6,(⟨#[]⟩:ByteArray),y494,0,0,([]:List (S70))⟩:S70)⟩:S72)]):=⟨_,rfl⟩;replace H:(regletlaw14_Clear.l1 k1 bY ([]:List (S43)) 0 t482 y497 t488 t489 bA)=some (r1,r2,r3,r4,r5):=by first|(rw [zP];with_reducible exact H)|(have H2_:=(Option.bind_some _ _).symm.trans H;rw [zP];with_reducible exact H2_)|(have H2_:=(Option.bind_some _ _).symm.trans H;with_reducible exact H2_)|with_reducible exact H|(rw [zP];exact H)|exact H
    have Ti:=aM zP;clear zP;have H':=aM H;clear H;have hnb13:=gH.out;have hnc13:=eW.out;have mF:wr.cell? ⟨cP,0,none⟩=some (.slice mD t482.length mE):=(aG bP.out 0).trans rfl;have mG:wr.cell? ⟨cP,1,none⟩=some (u494001):=(aG bP.out 1).trans rfl;have pT:wr.cell? ⟨cP,2,none⟩=some (.int .i64 t488):=(aG bP.out 2).trans rfl;have pU:wr.cell? ⟨cP,3,none⟩=some (.int .i64 t489):=(aG bP.out 3).trans rfl;have pV:wr.cell? ⟨cP,4,none⟩=some (u494004):=(aG bP.out 4).trans rfl;have mH:=aH bP.out 0;have mI:=aH bP.out 1;have pW:=aH bP.out 2;have pX:=aH bP.out 3;have pY:=aH bP.out 4;obtain⟨zQ,iN,EK⟩:=Kd.S_slice bM.out;subst EK
    go_wp2_with (first|((with_reducible refine bJ (N:=24) rfl ?_);refine Kd.R_lit (Kd.int .i64) _ 3 ?hg (N:=24) ?hd (xs:=([wrap64 (97+bY)]:List Int)) (inner:= [.int .i64 (wrap64 (97+bY))]) (ok:=fun _=>True) (okp:=fun _=>True) ?hr ?hp (fun _ hk=>hk) trivial (Below.refl _ _) (Nat.le_refl _) (by simp) ?_;(case hd=>rfl);(case hg=>rfl);(case hr=>first|(go_simp;done)|(go_simp;rfl));(case hp=>exact(Reps.one (show Kd.M (Kd.int .i64) _ _ _ (wrap64 (97+bY)) [.int .i64 (wrap64 (97+bY))] from rfl) (Reps.none _ _)));intro v495 w16 ho17 hb hg_ hnew_;clear hg_ hnew_;(first|rw [←Pi.out] at ho17|(simp only [Int.reduceToNat] at ho17;rw [←Pi.out] at ho17));have cH:=aM (aD (gR cS.out) hb);have cI:=aM (bE (gR cL.out) (Kd.R_base ho17) hb);have cK:=aM (Kd.S_below (gS bM.out) hb);have cQ:=aM (bL ho17 (bH (gW HB.out)));have dI:=aM (bF (gB dJ.out) hb);have dR:=aM (bF (gB bP.out) hb);have dV:=aM (bG (gW HB.out) hb);clear cS;clear cL;clear bM;clear dJ;clear bP;clear HB;have cS:=cH;have cL:=cI;have bM:=cK;have Ih:=cQ;have dJ:=dI;have bP:=dR;have HB:=dV;clear cH cI cK cQ dI dR dV;clear hb ho17;obtain⟨wH,sW,Ic⟩:=Kd.R_slice Ih.out;subst Ic)|((with_reducible refine gate_builtin (b:= .append) (xs:=#[.tmp 21,.tmp 27]) rfl ?_);at_builtin;refine Kd.R_append k72 (w0:=w) w.heap.size rfl (.tmp 21) (.tmp 27) 23 72 (.agg #[(.string ⟨#[]⟩),(.int .i64 0),(.string ⟨#[]⟩),(.slice none 0 0),(.int .i64 0),(.int .i64 0),(.slice none 0 0)]) 104 rfl Try.underlying23 info72 rfl (by decide) (by omega) u494001 cZ (⟨(⟨#[]⟩:ByteArray),(⟨6,(⟨#[]⟩:ByteArray),y494,0,0,([]:List (S70))⟩:S70)⟩:S72) [.string (⟨#[]⟩:ByteArray),.int .i64 6,.string (⟨#[]⟩:ByteArray),.slice wH y494.length sW,.int .i64 0,.int .i64 0,.slice none 0 0] (fun _=>True) (fun k_=>((fun _=>True)) k_∧some k_≠(u494001:Value).ownBlock) rfl rfl ?aP (fun _ hk=>hk) ?aF ?aO ?aB ?aS ?aL ?_;(case aP=>exact k72_mkM _ _ _ (⟨(⟨#[]⟩:ByteArray),(⟨6,(⟨#[]⟩:ByteArray),y494,0,0,([]:List (S70))⟩:S70)⟩:S72) (Kd.R_mono (Kd.R_apart' (Ih.out) (Kd.R_typed cL.out) (by decide)) (fun k_ hk=>⟨trivial,hk.2⟩)) (Kd.R_nil _ _ _ _ _));(case aB=>exact(gW HB.out));(case aF=>exact(fun _ _=>trivial));(case aO=>exact(by(with_reducible repeat(first|apply aA|apply aB|apply aC));exact Kd.R_mono cL.out (fun _ hk=>trivial)));(case aS=>exact(bH (gW HB.out)));(case aL=>have:=Th.out;omega);intro v498 w19 ho hb hg hat;rw [←Ti.out] at ho;have cH:=aM (Kd.R_over' (gR cS.out) (Kd.R_typed (gR cL.out)) (by decide) hg);have cI:=aM (Kd.S_over' (gS bM.out) (Kd.R_typed (gR cL.out)) (by decide) hg);have cK:=aM (blk_grown (gB dJ.out) hg (Kd.R_ne cL.out dJ.out (by decide)));have cQ:=aM (blk_grown (gB bP.out) hg (Kd.R_ne cL.out bP.out (by decide)));have dI:=aM (hb);have dR:=aM (ho);clear cS;clear bM;clear dJ;clear bP;clear HB;clear cL;clear Ih;have cS:=cH;have bM:=cI;have dJ:=cK;have bP:=cQ;have HB:=dI;have Pj:=dR;clear cH cI cK cQ dI dR;clear ho hb hg hat;obtain⟨jN,jH,zR⟩:=Kd.R_slice Pj.out;subst zR;have lA:w19.cell? ⟨cP,0,none⟩=some (.slice mD t482.length mE):=(aG bP.out 0).trans rfl;have lB:w19.cell? ⟨cP,1,none⟩=some (u494001):=(aG bP.out 1).trans rfl;have lC:w19.cell? ⟨cP,2,none⟩=some (.int .i64 t488):=(aG bP.out 2).trans rfl;have lD:w19.cell? ⟨cP,3,none⟩=some (.int .i64 t489):=(aG bP.out 3).trans rfl;have lE:w19.cell? ⟨cP,4,none⟩=some (.slice zQ bA.length iN):=(aG bP.out 4).trans rfl;have lF:=aH bP.out 0;have lG:=aH bP.out 1;have lH:=aH bP.out 2;have lI:=aH bP.out 3;have lJ:=aH bP.out 4))
    go_loopg [5,6] k1 (fun kq v5 v6 w'=>∃(cG:List (S43)) (eZ:Int),v6= .int .i64 eZ∧Aside0 (regletlaw14_Clear.l1 kq bY cG eZ t482 y497 t488 t489 bA=some (r1,r2,r3,r4,r5))∧Aside0 (kq≤k1)∧Aside0 (Kd.R k43 43 w' w.heap.size (fun _=>True) v5 cG)∧Aside0 (Kd.R Kd.string 9 w' w.heap.size (fun _=>True) (.slice mD t482.length mE) t482)∧Aside0 (Kd.R k72 72 w' w.heap.size (fun _=>True) (.slice jN y497.length jH) y497)∧Aside0 (Kd.S k35 35 w' w.heap.size (fun k_=>some k_≠(v5:Value).ownBlock) (.slice zQ bA.length iN) bA)∧Aside0 (w'.heap[fF]?=some (.cells #[(.slice none 0 0),(.slice none 0 0),.int .i64 0,.int .i64 0,(.slice none 0 0)] 26 (0,0)))∧Aside0 (w'.heap[cP]?=some (.cells #[(.slice mD t482.length mE),(.slice jN y497.length jH),.int .i64 t488,.int .i64 t489,(.slice zQ bA.length iN)] 26 (0,0)))∧Aside0 (Below w.heap.size w w'))
    case atStart=>exact⟨(([]:List (S43))),(0),(by first|rfl|(simp;done)|(simp [*];done)),H',⟨Nat.le_refl _⟩,⟨by first|exact Kd.R_nil _ _ _ _ _|exact Kd.N_nil _ _ _ _ _|exact Kd.V_nil _ _ _ _ _|exact Kd.Q_nil _ _ _ _ _|exact Kd.S_nil _ _ _ _ _⟩,⟨by(with_reducible repeat(first|apply aA|apply aB|apply aC));exact Kd.R_mono (aE (p:=⟨cP,1,none⟩) (Kd.R_types cS.out bP.out (by decide)) (fun _ hk=>hk.2) (.slice jN y497.length jH)) (fun _ hk=>trivial)⟩,⟨by(with_reducible repeat(first|apply aA|apply aB|apply aC));exact Kd.R_mono (aE (p:=⟨cP,1,none⟩) (Kd.R_types Pj.out bP.out (by decide)) (fun _ hk=>hk.2) (.slice jN y497.length jH)) (fun _ hk=>trivial)⟩,⟨by(with_reducible repeat(first|apply Kd.S_alloc|apply aV|apply aW));exact Kd.S_mono (Kd.S_far (p:=⟨cP,1,none⟩) (Kd.S_types bM.out bP.out (by decide)) (fun _ hk=>hk.2) (.slice jN y497.length jH)) (fun _ hk=>(by simp [Value.ownBlock]))⟩,⟨by(with_reducible repeat(first|refine aJ ?_ _|refine aK ?_|refine aI ?_ _));refine blk_far ?_ eW.out _;(with_reducible repeat(first|refine aJ ?_ _|refine aK ?_|refine aI ?_ _));exact dJ.out⟩,⟨by(with_reducible repeat(first|refine aJ ?_ _|refine aK ?_|refine aI ?_ _));refine blk_put (cs:=#[.slice mD t482.length mE,u494001,.int .i64 t488,.int .i64 t489,.slice zQ bA.length iN]) ?_ 1 _ rfl;(with_reducible repeat(first|refine aJ ?_ _|refine aK ?_|refine aI ?_ _));exact bP.out⟩,⟨by repeat(first|(with_reducible first|exact HB.out|apply aN|apply aP|apply aO|refine aL ?_ sN.out|refine aL ?_ sO.out)|exact HB.out)⟩⟩
    case round=>
     clear H'
     (try clear c1);(try clear p2);(try clear p6);(try clear c7);(try clear c11);(try clear pQ);(try clear c12);(try clear c13);(try clear c19);(try clear mF);(try clear mG);(try clear pT);(try clear pU);(try clear pV);(try clear lA);(try clear lB);(try clear lC);(try clear lD);(try clear lE);(try clear jO);(try clear jP);(try clear lR);(try clear lS)
     (try clear lT);(try clear mH);(try clear mI);(try clear pW);(try clear pX);(try clear pY);(try clear lF);(try clear lG);(try clear lH);(try clear lI);(try clear lJ);(try clear jQ);(try clear jR);(try clear lU);(try clear lV);(try clear lW);(try clear p2)
     obtain⟨cG,eZ,rfl,HA,HK2,eE,cS,cL,bM,dJ,bP,HB⟩:=hrel
     cases gk with
     |zero=>exact absurd HA.out (by simp [regletlaw14_Clear.l1])
     |succ k2=>
      have H:=HA.out;clear HA;simp only [regletlaw14_Clear.l1] at H
      by_cases c22:0≤bY
      rotate_left
      ·rw [if_neg c22] at H
       exact absurd H (by simp)
      rw [if_pos c22] at H;have wI:decide (0≤bY)=true:=decide_eq_true c22;clear c22
      by_cases c23:bY<(bA.length:Int)
      rotate_left
      ·rw [if_neg c23] at H
       exact absurd H (by simp)
      rw [if_pos c23] at H;have Dn:decide (bY<(bA.length:Int))=true:=decide_eq_true c23;clear c23
      by_cases c24:eZ<(((rd_T35 bA bY).f1).length:Int)
      ·rw [if_pos c24] at H
       have wJ:decide (eZ<(((rd_T35 bA bY).f1).length:Int))=true:=decide_eq_true c24;clear c24
       by_cases c25:0≤eZ
       rotate_left
       ·rw [if_neg c25] at H
        exact absurd H (by simp)
       rw [if_pos c25] at H;have sP:decide (0≤eZ)=true:=decide_eq_true c25;clear c25;obtain⟨bq26,hbq26⟩:∃b_:Bool,b_=((rd_T43 ((rd_T35 bA bY).f1) eZ).f0):=⟨_,rfl⟩;replace H:(if bq26=true then(if(bA.length:Int)=0 then(none) else(if cG.length<8796093022208 then(regletlaw14_Clear.l1 k2 bY (cG++ [(⟨bq26,Int.tmod ((rd_T43 ((rd_T35 bA bY).f1) eZ).f1) (bA.length:Int)⟩:S43)]) (wrap64 (eZ+1)) t482 y497 t488 t489 bA) else(none))) else(if cG.length<8796093022208 then(regletlaw14_Clear.l1 k2 bY (cG++ [(⟨bq26,(rd_T43 ((rd_T35 bA bY).f1) eZ).f1⟩:S43)]) (wrap64 (eZ+1)) t482 y497 t488 t489 bA) else(none)))=some (r1,r2,r3,r4,r5):=by rw [←hbq26] at H;exact H
       have Nbq26:=aM hbq26;clear hbq26
       by_cases c27:bq26=true
       ·subst c27
        have H1:(if(bA.length:Int)=0 then(none) else(if cG.length<8796093022208 then(regletlaw14_Clear.l1 k2 bY (cG++ [(⟨true,Int.tmod ((rd_T43 ((rd_T35 bA bY).f1) eZ).f1) (bA.length:Int)⟩:S43)]) (wrap64 (eZ+1)) t482 y497 t488 t489 bA) else(none)))=some (r1,r2,r3,r4,r5):=by rw [if_pos rfl] at H;exact H
        clear H;have H:=H1;clear H1
        by_cases c28:(bA.length:Int)=0
        ·rw [if_pos c28] at H
         exact absurd H (by simp)
        rw [if_neg c28] at H;have Pk:((bA.length:Int)==0)=false:=beq_eq_false_iff_ne.mpr c28;have Pl:((bA.length:Int) !=0)=true:=bne_iff_ne.mpr c28;have Pm:¬(bA= []):=fun h_=>c28 (by rw [h_];rfl)
        by_cases c29:cG.length<8796093022208
        rotate_left
        ·rw [if_neg c29] at H
         exact absurd H (by simp)
        rw [if_pos c29] at H;have Tj:=aM c29;clear c29;obtain⟨y504,zS⟩:∃y_:List (S43),y_=(cG++ [(⟨true,Int.tmod ((rd_T43 ((rd_T35 bA bY).f1) eZ).f1) (bA.length:Int)⟩:S43)]):=⟨_,rfl⟩;replace H:(regletlaw14_Clear.l1 k2 bY y504 (wrap64 (eZ+1)) t482 y497 t488 t489 bA)=some (r1,r2,r3,r4,r5):=by first|(rw [zS];with_reducible exact H)|(have H2_:=(Option.bind_some _ _).symm.trans H;rw [zS];with_reducible exact H2_)|(have H2_:=(Option.bind_some _ _).symm.trans H;with_reducible exact H2_)|with_reducible exact H|(rw [zS];exact H)|exact H
        have Tk:=aM zS;clear zS;have H':=aM H;clear H;have hnb30:=gH.out;have hnc30:=eW.out;have nG:wr.cell? ⟨cP,0,none⟩=some (.slice mD t482.length mE):=(aG bP.out 0).trans rfl;have nH:wr.cell? ⟨cP,1,none⟩=some (.slice jN y497.length jH):=(aG bP.out 1).trans rfl;have pA:wr.cell? ⟨cP,2,none⟩=some (.int .i64 t488):=(aG bP.out 2).trans rfl;have pB:wr.cell? ⟨cP,3,none⟩=some (.int .i64 t489):=(aG bP.out 3).trans rfl;have pC:wr.cell? ⟨cP,4,none⟩=some (.slice zQ bA.length iN):=(aG bP.out 4).trans rfl;have nI:=aH bP.out 0;have nJ:=aH bP.out 1;have pD:=aH bP.out 2;have pE:=aH bP.out 3;have pF:=aH bP.out 4;have p500:0≤(bY:Int):=of_decide_eq_true (by first|(with_reducible assumption)|assumption);have q500:bY<(bA.length:Int):=of_decide_eq_true (by first|(with_reducible assumption)|assumption);obtain⟨kK,Cq,Cr,e500,nK,gJ,jS,jT⟩:=at_T35 (Kd.S_reads' bM.out).2.2 bY p500 q500
        cases e500;obtain⟨ce500,hce500,hMe500,hcc500⟩:=Kd.S_get bM.out z35 bY p500 (by first|exact q500|exact of_decide_eq_true (by first|(with_reducible assumption)|assumption)|(have e_:=(Kd.S_reads' bM.out).1;omega));obtain⟨ve500_1,rfl,ge500_1⟩:=k35_openM hMe500;have hv500_1:=hcc500 1 _ rfl;rw [add_field _ _ 1 (by omega)] at hv500_1;replace hv500_1:=Option.some.inj (hv500_1.symm.trans gJ);rw [hv500_1] at ge500_1;have HL500_1:=aM (show Kd.R k43 43 _ _ _ _ ((rd_T35 bA bY).f1) from ge500_1);clear hv500_1 ge500_1;have HX500_1:=aM gJ;clear hcc500 hce500;have jU:=aM jT;have wO:=aM jS;clear jT jS;replace p500:=eq_true p500;replace q500:=eq_true q500;have p501:0≤(bY:Int):=of_decide_eq_true (by first|(with_reducible assumption)|assumption);have q501:bY<(bA.length:Int):=of_decide_eq_true (by first|(with_reducible assumption)|assumption);obtain⟨Ii,Ro,Rp,e501,sZ,kR,pZ,qA⟩:=at_T35 (Kd.S_reads' bM.out).2.2 bY p501 q501;obtain rfl:kK=Ii:=(by injection e501);obtain⟨ce501,hce501,hMe501,hcc501⟩:=Kd.S_get bM.out z35 bY p501 (by first|exact q501|exact of_decide_eq_true (by first|(with_reducible assumption)|assumption)|(have e_:=(Kd.S_reads' bM.out).1;omega));obtain⟨ve501_1,rfl,ge501_1⟩:=k35_openM hMe501;have hv501_1:=hcc501 1 _ rfl;rw [add_field _ _ 1 (by omega)] at hv501_1;replace hv501_1:=Option.some.inj (hv501_1.symm.trans kR);rw [hv501_1] at ge501_1;have HL501_1:=aM (show Kd.R k43 43 _ _ _ _ ((rd_T35 bA bY).f1) from ge501_1);clear hv501_1 ge501_1;have HX501_1:=aM kR;clear hcc501 hce501;have iS:=aM qA;have Jy:=aM pZ;clear qA pZ;replace p501:=eq_true p501;replace q501:=eq_true q501;have ea_:=Option.some.inj (gJ.symm.trans kR);injection ea_ with ea_ en_ ec_
        subst ea_;subst ec_;clear en_;have p502:0≤(eZ:Int):=of_decide_eq_true (by first|(with_reducible assumption)|assumption);have q502:eZ<(((rd_T35 bA bY).f1).length:Int):=of_decide_eq_true (by first|(with_reducible assumption)|assumption);obtain⟨Tl,e502,qB,wP⟩:=at_T43 (by repeat(first|(with_reducible exact iS.out)|(with_reducible refine Kd.C_alloc ?_ _)|(with_reducible refine Kd.C_drewN ?_ _)|(with_reducible refine bC ?_)|exact iS.out)) eZ p502 q502
        (try rw [←Nbq26.out] at qB)
        cases e502;replace p502:=eq_true p502;replace q502:=eq_true q502
        go_wp2_with (first|((with_reducible refine bJ (N:=7) rfl ?_);refine box_event ?hg (N:=7) ?hd (cs:=#[.bool false,.int .i64 0]) (t:=43) ?hr ?_;(case hd=>rfl);(case hg=>rfl);(case hr=>first|(go_simp;done)|(go_simp;rfl));intro cX hg w32 hbox hb;have cH:=aM (aD (Kd.R_elderB (gR eE.out) cX (Nat.le_of_eq hg.symm)) hb);have cI:=aM (aD (gR cS.out) hb);have cK:=aM (aD (gR cL.out) hb);have cQ:=aM (Kd.S_below (Kd.S_elderB (gS bM.out) cX (Nat.le_of_eq hg.symm)) hb);have dI:=aM (aD (Kd.R_elderB (gR HL500_1.out) cX (Nat.le_of_eq hg.symm)) hb);have dR:=aM (aD (Kd.R_elderB (gR HL501_1.out) cX (Nat.le_of_eq hg.symm)) hb);have dV:=aM (bF (gB dJ.out) hb);have eV:=aM (bF (gB bP.out) hb);have fV:=aM (bD (by repeat(first|(with_reducible exact jU.out)|(with_reducible refine Kd.C_alloc ?_ _)|(with_reducible refine Kd.C_drewN ?_ _)|(with_reducible refine bC ?_)|exact jU.out)) hb);have gQ:=aM (pw_cell_below hb HX500_1.out);have eS:=aM (bD (by repeat(first|(with_reducible exact iS.out)|(with_reducible refine Kd.C_alloc ?_ _)|(with_reducible refine Kd.C_drewN ?_ _)|(with_reducible refine bC ?_)|exact iS.out)) hb);have fG:=aM (pw_cell_below hb HX501_1.out);have fQ:=aM (bG (gW HB.out) hb);have gK:=aM (hbox);have iO:=aM ((by rw [hg];exact(bH (gW HB.out)):w.heap.size≤cX));have kT:=aM ((by rw [hg];exact(bH (gW HB.out)):w.heap.size≤cX));have oL:=aM ((by rw [hg];exact Nat.ne_of_lt (bN (g:=fF) (o:= .cells #[.slice none 0 0,.slice none 0 0,.int .i64 0,.int .i64 0,.slice none 0 0] 26 (0,0)) (gB dJ.out)):fF≠cX));have Ij:=aM ((by rw [hg];exact Nat.ne_of_gt (bN (g:=fF) (o:= .cells #[.slice none 0 0,.slice none 0 0,.int .i64 0,.int .i64 0,.slice none 0 0] 26 (0,0)) (gB dJ.out)):cX≠fF));have Ik:=aM ((by rw [hg];exact Nat.ne_of_lt (bN (g:=cP) (o:= .cells #[.slice mD t482.length mE,.slice jN y497.length jH,.int .i64 t488,.int .i64 t489,.slice (some kK) bA.length iN] 26 (0,0)) (gB bP.out)):cP≠cX));have Il:=aM ((by rw [hg];exact Nat.ne_of_gt (bN (g:=cP) (o:= .cells #[.slice mD t482.length mE,.slice jN y497.length jH,.int .i64 t488,.int .i64 t489,.slice (some kK) bA.length iN] 26 (0,0)) (gB bP.out)):cX≠cP));clear eE;clear cS;clear cL;clear bM;clear HL500_1;clear HL501_1;clear dJ;clear bP;clear jU;clear HX500_1;clear iS;clear HX501_1;clear HB;have eE:=cH;have cS:=cI;have cL:=cK;have bM:=cQ;have HL500_1:=dI;have HL501_1:=dR;have dJ:=dV;have bP:=eV;have jU:=fV;have HX500_1:=gQ;have iS:=eS;have HX501_1:=fG;have HB:=fQ;have iZ:=gK;have GW503:=iO;have zT:=kT;have jI:=oL;have sI:=Ij;have jJ:=Ik;have sJ:=Il;clear cH cI cK cQ dI dR dV eV fV gQ eS fG fQ gK iO kT oL Ij Ik Il;clear hb hbox hg;have hnb33:=sI.out;have hnc33:=jI.out;have hnb34:=sJ.out;have hnc34:=jJ.out;have tA:w32.cell? ⟨cX,0,none⟩=some (.bool false):=(aG iZ.out 0).trans rfl;have qC:w32.cell? ⟨cX,1,none⟩=some (.int .i64 0):=(aG iZ.out 1).trans rfl;have hdz35:∀(v0 v1 y:Value),(((w32.setCell ⟨cX,0,none⟩ v0).setCell ⟨cX,1,none⟩ v1).setCell ⟨cX,1,none⟩ y).cell? ⟨cX,1,none⟩=some y:=fun v0 v1 y=>World.cell?_setCell_same _ _ _ (World.cell?_setCell_same _ _ _ ((World.cell?_setCell_other _ _ _ _ (by simp)).trans qC));have tB:=aH iZ.out 0;have tC:=aH iZ.out 1;have pG:w32.cell? ⟨cP,0,none⟩=some (.slice mD t482.length mE):=(aG bP.out 0).trans rfl;have pH:w32.cell? ⟨cP,1,none⟩=some (.slice jN y497.length jH):=(aG bP.out 1).trans rfl;have qD:w32.cell? ⟨cP,2,none⟩=some (.int .i64 t488):=(aG bP.out 2).trans rfl;have qE:w32.cell? ⟨cP,3,none⟩=some (.int .i64 t489):=(aG bP.out 3).trans rfl;have qF:w32.cell? ⟨cP,4,none⟩=some (.slice (some kK) bA.length iN):=(aG bP.out 4).trans rfl;have pI:=aH bP.out 0;have pJ:=aH bP.out 1;have qG:=aH bP.out 2;have qH:=aH bP.out 3;have qI:=aH bP.out 4)|((with_reducible refine gate_builtin (b:= .append) (xs:=#[.tmp 59,.tmp 61]) rfl ?_);at_builtin;refine Kd.R_append k43 (w0:=w) w.heap.size rfl (.tmp 59) (.tmp 61) 29 43 (.agg #[(.bool false),(.int .i64 0)]) 16 rfl Try.underlying29 info43 rfl (by decide) (by omega) u5 cG (⟨true,Int.tmod ((rd_T43 ((rd_T35 bA bY).f1) eZ).f1) (bA.length:Int)⟩:S43) [.bool true,.int .i64 (Int.tmod ((rd_T43 ((rd_T35 bA bY).f1) eZ).f1) (bA.length:Int))] (fun k_=>k_≠cX) (fun _=>False) rfl (by first|(go_simp;done)|(go_simp;rfl)) ?aP (fun _ hk=>hk.elim) ?aF ?aO ?aB ?aS ?aL ?_;(case aP=>exact k43_mkM _ _ _ (⟨true,Int.tmod ((rd_T43 ((rd_T35 bA bY).f1) eZ).f1) (bA.length:Int)⟩:S43));(case aB=>exact(by repeat(first|(with_reducible first|exact HB.out|apply aN|apply aP|apply aO|refine aL ?_ sN.out|refine aL ?_ sO.out|refine aL ?_ zT.out)|exact HB.out)));(case aF=>exact(fun k_ hk=>Kd.freshB (g:=cX) (o:= .cells #[.bool true,.int .i64 (Int.tmod ((rd_T43 ((rd_T35 bA bY).f1) eZ).f1) (bA.length:Int))] 43 (0,0)) (by(with_reducible repeat(first|refine aJ ?_ _|refine aK ?_|refine aI ?_ _));refine blk_put (cs:=#[.bool true,.int .i64 ((rd_T43 ((rd_T35 bA bY).f1) eZ).f1)]) ?_ 1 _ rfl;(with_reducible repeat(first|refine aJ ?_ _|refine aK ?_|refine aI ?_ _));refine blk_put (cs:=#[.bool true,.int .i64 0]) ?_ 1 _ rfl;(with_reducible repeat(first|refine aJ ?_ _|refine aK ?_|refine aI ?_ _));refine blk_put (cs:=#[.bool false,.int .i64 0]) ?_ 0 _ rfl;(with_reducible repeat(first|refine aJ ?_ _|refine aK ?_|refine aI ?_ _));exact iZ.out) k_ hk));(case aO=>exact(by(with_reducible repeat(first|apply aA|apply aB|apply aC));exact Kd.R_mono (aE (p:=⟨cX,1,none⟩) (aE (p:=⟨cX,1,none⟩) (aE (p:=⟨cX,0,none⟩) (Kd.R_mono eE.out (fun k_ hk=>(⟨hk,hk.2⟩:_∧k_≠cX))) (fun _ hk=>hk.2) (.bool true)) (fun _ hk=>hk.2) (.int .i64 ((rd_T43 ((rd_T35 bA bY).f1) eZ).f1))) (fun _ hk=>hk.2) (.int .i64 (Int.tmod ((rd_T43 ((rd_T35 bA bY).f1) eZ).f1) (bA.length:Int)))) (fun _ hk=>hk.1.2)));(case aS=>exact(bH (by repeat(first|(with_reducible first|exact HB.out|apply aN|apply aP|apply aO|refine aL ?_ sN.out|refine aL ?_ sO.out|refine aL ?_ zT.out)|exact HB.out))));(case aL=>have:=Tj.out;omega);intro v505 w37 ho hb hg hat;rw [←Tk.out] at ho;have cH:=aM (Kd.R_over' (by(with_reducible repeat(first|apply aA|apply aB|apply aC));exact(Kd.R_mono (aE (p:=⟨cX,1,none⟩) (aE (p:=⟨cX,1,none⟩) (aE (p:=⟨cX,0,none⟩) (Kd.R_types cS.out iZ.out (by decide)) (fun _ hk=>hk.2) (.bool true)) (fun _ hk=>hk.2) (.int .i64 ((rd_T43 ((rd_T35 bA bY).f1) eZ).f1))) (fun _ hk=>hk.2) (.int .i64 (Int.tmod ((rd_T43 ((rd_T35 bA bY).f1) eZ).f1) (bA.length:Int)))) (fun _ h_=>h_.1))) (Kd.R_typed (by(with_reducible repeat(first|apply aA|apply aB|apply aC));exact(Kd.R_mono (aE (p:=⟨cX,1,none⟩) (aE (p:=⟨cX,1,none⟩) (aE (p:=⟨cX,0,none⟩) (Kd.R_mono eE.out (fun k_ hk=>(⟨hk,hk.2⟩:_∧k_≠cX))) (fun _ hk=>hk.2) (.bool true)) (fun _ hk=>hk.2) (.int .i64 ((rd_T43 ((rd_T35 bA bY).f1) eZ).f1))) (fun _ hk=>hk.2) (.int .i64 (Int.tmod ((rd_T43 ((rd_T35 bA bY).f1) eZ).f1) (bA.length:Int)))) (fun _ h_=>h_.1)))) (by decide) hg);have cI:=aM (Kd.R_over' (by(with_reducible repeat(first|apply aA|apply aB|apply aC));exact(Kd.R_mono (aE (p:=⟨cX,1,none⟩) (aE (p:=⟨cX,1,none⟩) (aE (p:=⟨cX,0,none⟩) (Kd.R_types cL.out iZ.out (by decide)) (fun _ hk=>hk.2) (.bool true)) (fun _ hk=>hk.2) (.int .i64 ((rd_T43 ((rd_T35 bA bY).f1) eZ).f1))) (fun _ hk=>hk.2) (.int .i64 (Int.tmod ((rd_T43 ((rd_T35 bA bY).f1) eZ).f1) (bA.length:Int)))) (fun _ h_=>h_.1))) (Kd.R_typed (by(with_reducible repeat(first|apply aA|apply aB|apply aC));exact(Kd.R_mono (aE (p:=⟨cX,1,none⟩) (aE (p:=⟨cX,1,none⟩) (aE (p:=⟨cX,0,none⟩) (Kd.R_mono eE.out (fun k_ hk=>(⟨hk,hk.2⟩:_∧k_≠cX))) (fun _ hk=>hk.2) (.bool true)) (fun _ hk=>hk.2) (.int .i64 ((rd_T43 ((rd_T35 bA bY).f1) eZ).f1))) (fun _ hk=>hk.2) (.int .i64 (Int.tmod ((rd_T43 ((rd_T35 bA bY).f1) eZ).f1) (bA.length:Int)))) (fun _ h_=>h_.1)))) (by decide) hg);have cK:=aM (Kd.S_after (ok:=(fun k_=>k_≠cX)) (by(with_reducible repeat(first|apply Kd.S_alloc|apply aV|apply aW));exact Kd.S_mono (Kd.S_far (p:=⟨cX,1,none⟩) (Kd.S_far (p:=⟨cX,1,none⟩) (Kd.S_far (p:=⟨cX,0,none⟩) (Kd.S_mono bM.out (fun k_ hk=>(⟨hk,hk.2⟩:_∧k_≠cX))) (fun _ hk=>hk.2) (.bool true)) (fun _ hk=>hk.2) (.int .i64 ((rd_T43 ((rd_T35 bA bY).f1) eZ).f1))) (fun _ hk=>hk.2) (.int .i64 (Int.tmod ((rd_T43 ((rd_T35 bA bY).f1) eZ).f1) (bA.length:Int)))) (fun _ hk=>⟨hk.1.2,hk.1.1⟩)) hg hat);have cQ:=aM (blk_grown (g:=fF) (o:= .cells #[.slice none 0 0,.slice none 0 0,.int .i64 0,.int .i64 0,.slice none 0 0] 26 (0,0)) (by(with_reducible repeat(first|refine aJ ?_ _|refine aK ?_|refine aI ?_ _));refine blk_far ?_ jI.out _;(with_reducible repeat(first|refine aJ ?_ _|refine aK ?_|refine aI ?_ _));refine blk_far ?_ jI.out _;(with_reducible repeat(first|refine aJ ?_ _|refine aK ?_|refine aI ?_ _));refine blk_far ?_ jI.out _;(with_reducible repeat(first|refine aJ ?_ _|refine aK ?_|refine aI ?_ _));exact dJ.out) hg (Kd.R_ne eE.out dJ.out (by decide)));have dI:=aM (blk_grown (g:=cP) (o:= .cells #[.slice mD t482.length mE,.slice jN y497.length jH,.int .i64 t488,.int .i64 t489,.slice (some kK) bA.length iN] 26 (0,0)) (by(with_reducible repeat(first|refine aJ ?_ _|refine aK ?_|refine aI ?_ _));refine blk_far ?_ jJ.out _;(with_reducible repeat(first|refine aJ ?_ _|refine aK ?_|refine aI ?_ _));refine blk_far ?_ jJ.out _;(with_reducible repeat(first|refine aJ ?_ _|refine aK ?_|refine aI ?_ _));refine blk_far ?_ jJ.out _;(with_reducible repeat(first|refine aJ ?_ _|refine aK ?_|refine aI ?_ _));exact bP.out) hg (Kd.R_ne eE.out bP.out (by decide)));have dR:=aM (Kd.R_after (ok:=(fun k_=>some k_≠(.slice (some kK) bA.length iN:Value).ownBlock∧k_≠cX)) (by(with_reducible repeat(first|apply aA|apply aB|apply aC));exact Kd.R_mono (aE (p:=⟨cX,1,none⟩) (aE (p:=⟨cX,1,none⟩) (aE (p:=⟨cX,0,none⟩) (Kd.R_mono HL500_1.out (fun k_ hk=>(⟨hk,hk.2⟩:_∧k_≠cX))) (fun _ hk=>hk.2) (.bool true)) (fun _ hk=>hk.2) (.int .i64 ((rd_T43 ((rd_T35 bA bY).f1) eZ).f1))) (fun _ hk=>hk.2) (.int .i64 (Int.tmod ((rd_T43 ((rd_T35 bA bY).f1) eZ).f1) (bA.length:Int)))) (fun _ hk=>⟨⟨hk.1.1.2,hk.1.2⟩,hk.1.1.1⟩)) hg hat);have dV:=aM (Kd.R_after (ok:=(fun k_=>some k_≠(.slice (some kK) bA.length iN:Value).ownBlock∧k_≠cX)) (by(with_reducible repeat(first|apply aA|apply aB|apply aC));exact Kd.R_mono (aE (p:=⟨cX,1,none⟩) (aE (p:=⟨cX,1,none⟩) (aE (p:=⟨cX,0,none⟩) (Kd.R_mono HL501_1.out (fun k_ hk=>(⟨hk,hk.2⟩:_∧k_≠cX))) (fun _ hk=>hk.2) (.bool true)) (fun _ hk=>hk.2) (.int .i64 ((rd_T43 ((rd_T35 bA bY).f1) eZ).f1))) (fun _ hk=>hk.2) (.int .i64 (Int.tmod ((rd_T43 ((rd_T35 bA bY).f1) eZ).f1) (bA.length:Int)))) (fun _ hk=>⟨⟨hk.1.1.2,hk.1.2⟩,hk.1.1.1⟩)) hg hat);have eV:=aM (blk_grown (g:=cX) (o:= .cells #[.bool true,.int .i64 (Int.tmod ((rd_T43 ((rd_T35 bA bY).f1) eZ).f1) (bA.length:Int))] 43 (0,0)) (by(with_reducible repeat(first|refine aJ ?_ _|refine aK ?_|refine aI ?_ _));refine blk_put (cs:=#[.bool true,.int .i64 ((rd_T43 ((rd_T35 bA bY).f1) eZ).f1)]) ?_ 1 _ rfl;(with_reducible repeat(first|refine aJ ?_ _|refine aK ?_|refine aI ?_ _));refine blk_put (cs:=#[.bool true,.int .i64 0]) ?_ 1 _ rfl;(with_reducible repeat(first|refine aJ ?_ _|refine aK ?_|refine aI ?_ _));refine blk_put (cs:=#[.bool false,.int .i64 0]) ?_ 0 _ rfl;(with_reducible repeat(first|refine aJ ?_ _|refine aK ?_|refine aI ?_ _));exact iZ.out) hg (Kd.R_away eE.out (fun _ hk=>hk.2)));have fV:=aM (hb);have gQ:=aM (ho);clear cS;clear cL;clear bM;clear dJ;clear bP;clear HL500_1;clear HL501_1;clear iZ;clear HB;clear eE;have cS:=cH;have cL:=cI;have bM:=cK;have dJ:=cQ;have bP:=dI;have HL500_1:=dR;have HL501_1:=dV;have iZ:=eV;have HB:=fV;have Tm:=gQ;clear cH cI cK cQ dI dR dV eV fV gQ;clear ho hb hg hat))
        go_roundg k2
        case measure=>have:=HK1.out;have:=HK2.out;omega
        case rel=>exact⟨(y504),(wrap64 (eZ+1)),(by first|rfl|(simp;done)|(simp [*];done)),H',⟨by have:=HK1.out;have:=HK2.out;omega⟩,⟨by(with_reducible repeat(first|apply aA|apply aB|apply aC));exact Kd.R_mono Tm.out (fun _ hk=>trivial)⟩,⟨gR cS.out⟩,⟨gR cL.out⟩,⟨by(with_reducible repeat(first|apply Kd.S_alloc|apply aV|apply aW));exact Kd.S_mono bM.out (fun _ hk=>hk.2)⟩,⟨gB dJ.out⟩,⟨gB bP.out⟩,⟨gW HB.out⟩⟩
       ·replace c27:=Bool.eq_false_iff.mpr c27
        subst c27;have H1:(if cG.length<8796093022208 then(regletlaw14_Clear.l1 k2 bY (cG++ [(⟨false,(rd_T43 ((rd_T35 bA bY).f1) eZ).f1⟩:S43)]) (wrap64 (eZ+1)) t482 y497 t488 t489 bA) else(none))=some (r1,r2,r3,r4,r5):=by rw [if_neg (show ¬(false=true) by decide)] at H;exact H
        clear H;have H:=H1;clear H1
        by_cases c38:cG.length<8796093022208
        rotate_left
        ·rw [if_neg c38] at H
         exact absurd H (by simp)
        rw [if_pos c38] at H;have Tn:=aM c38;clear c38;obtain⟨y507,zU⟩:∃y_:List (S43),y_=(cG++ [(⟨false,(rd_T43 ((rd_T35 bA bY).f1) eZ).f1⟩:S43)]):=⟨_,rfl⟩;replace H:(regletlaw14_Clear.l1 k2 bY y507 (wrap64 (eZ+1)) t482 y497 t488 t489 bA)=some (r1,r2,r3,r4,r5):=by first|(rw [zU];with_reducible exact H)|(have H2_:=(Option.bind_some _ _).symm.trans H;rw [zU];with_reducible exact H2_)|(have H2_:=(Option.bind_some _ _).symm.trans H;with_reducible exact H2_)|with_reducible exact H|(rw [zU];exact H)|exact H
        have To:=aM zU;clear zU;have H':=aM H;clear H;have hnb39:=gH.out;have hnc39:=eW.out;have Do:wr.cell? ⟨cP,0,none⟩=some (.slice mD t482.length mE):=(aG bP.out 0).trans rfl;have Dp:wr.cell? ⟨cP,1,none⟩=some (.slice jN y497.length jH):=(aG bP.out 1).trans rfl;have Dq:wr.cell? ⟨cP,2,none⟩=some (.int .i64 t488):=(aG bP.out 2).trans rfl;have Dr:wr.cell? ⟨cP,3,none⟩=some (.int .i64 t489):=(aG bP.out 3).trans rfl;have Ds:wr.cell? ⟨cP,4,none⟩=some (.slice zQ bA.length iN):=(aG bP.out 4).trans rfl;have Dt:=aH bP.out 0;have Du:=aH bP.out 1;have Dv:=aH bP.out 2;have Dw:=aH bP.out 3;have Dx:=aH bP.out 4;have p500:0≤(bY:Int):=of_decide_eq_true (by first|(with_reducible assumption)|assumption);have q500:bY<(bA.length:Int):=of_decide_eq_true (by first|(with_reducible assumption)|assumption);obtain⟨kK,Cq,Cr,e500,nK,gJ,jS,jT⟩:=at_T35 (Kd.S_reads' bM.out).2.2 bY p500 q500
        cases e500;obtain⟨ce500,hce500,hMe500,hcc500⟩:=Kd.S_get bM.out z35 bY p500 (by first|exact q500|exact of_decide_eq_true (by first|(with_reducible assumption)|assumption)|(have e_:=(Kd.S_reads' bM.out).1;omega));obtain⟨ve500_1,rfl,ge500_1⟩:=k35_openM hMe500;have hv500_1:=hcc500 1 _ rfl;rw [add_field _ _ 1 (by omega)] at hv500_1;replace hv500_1:=Option.some.inj (hv500_1.symm.trans gJ);rw [hv500_1] at ge500_1;have HL500_1:=aM (show Kd.R k43 43 _ _ _ _ ((rd_T35 bA bY).f1) from ge500_1);clear hv500_1 ge500_1;have HX500_1:=aM gJ;clear hcc500 hce500;have jU:=aM jT;have wO:=aM jS;clear jT jS;replace p500:=eq_true p500;replace q500:=eq_true q500;have p501:0≤(bY:Int):=of_decide_eq_true (by first|(with_reducible assumption)|assumption);have q501:bY<(bA.length:Int):=of_decide_eq_true (by first|(with_reducible assumption)|assumption);obtain⟨Ii,Ro,Rp,e501,sZ,kR,pZ,qA⟩:=at_T35 (Kd.S_reads' bM.out).2.2 bY p501 q501;obtain rfl:kK=Ii:=(by injection e501);obtain⟨ce501,hce501,hMe501,hcc501⟩:=Kd.S_get bM.out z35 bY p501 (by first|exact q501|exact of_decide_eq_true (by first|(with_reducible assumption)|assumption)|(have e_:=(Kd.S_reads' bM.out).1;omega));obtain⟨ve501_1,rfl,ge501_1⟩:=k35_openM hMe501;have hv501_1:=hcc501 1 _ rfl;rw [add_field _ _ 1 (by omega)] at hv501_1;replace hv501_1:=Option.some.inj (hv501_1.symm.trans kR);rw [hv501_1] at ge501_1;have HL501_1:=aM (show Kd.R k43 43 _ _ _ _ ((rd_T35 bA bY).f1) from ge501_1);clear hv501_1 ge501_1;have HX501_1:=aM kR;clear hcc501 hce501;have iS:=aM qA;have Jy:=aM pZ;clear qA pZ;replace p501:=eq_true p501;replace q501:=eq_true q501;have ea_:=Option.some.inj (gJ.symm.trans kR);injection ea_ with ea_ en_ ec_
        subst ea_;subst ec_;clear en_;have p502:0≤(eZ:Int):=of_decide_eq_true (by first|(with_reducible assumption)|assumption);have q502:eZ<(((rd_T35 bA bY).f1).length:Int):=of_decide_eq_true (by first|(with_reducible assumption)|assumption);obtain⟨Tl,e502,qB,wP⟩:=at_T43 (by repeat(first|(with_reducible exact iS.out)|(with_reducible refine Kd.C_alloc ?_ _)|(with_reducible refine Kd.C_drewN ?_ _)|(with_reducible refine bC ?_)|exact iS.out)) eZ p502 q502
        (try rw [←Nbq26.out] at qB)
        cases e502;replace p502:=eq_true p502;replace q502:=eq_true q502
        go_wp2_with (first|((with_reducible refine bJ (N:=7) rfl ?_);refine box_event ?hg (N:=7) ?hd (cs:=#[.bool false,.int .i64 0]) (t:=43) ?hr ?_;(case hd=>rfl);(case hg=>rfl);(case hr=>first|(go_simp;done)|(go_simp;rfl));intro cX hg w41 hbox hb;have cH:=aM (aD (Kd.R_elderB (gR eE.out) cX (Nat.le_of_eq hg.symm)) hb);have cI:=aM (aD (gR cS.out) hb);have cK:=aM (aD (gR cL.out) hb);have cQ:=aM (Kd.S_below (Kd.S_elderB (gS bM.out) cX (Nat.le_of_eq hg.symm)) hb);have dI:=aM (aD (Kd.R_elderB (gR HL500_1.out) cX (Nat.le_of_eq hg.symm)) hb);have dR:=aM (aD (Kd.R_elderB (gR HL501_1.out) cX (Nat.le_of_eq hg.symm)) hb);have dV:=aM (bF (gB dJ.out) hb);have eV:=aM (bF (gB bP.out) hb);have fV:=aM (bD (by repeat(first|(with_reducible exact jU.out)|(with_reducible refine Kd.C_alloc ?_ _)|(with_reducible refine Kd.C_drewN ?_ _)|(with_reducible refine bC ?_)|exact jU.out)) hb);have gQ:=aM (pw_cell_below hb HX500_1.out);have eS:=aM (bD (by repeat(first|(with_reducible exact iS.out)|(with_reducible refine Kd.C_alloc ?_ _)|(with_reducible refine Kd.C_drewN ?_ _)|(with_reducible refine bC ?_)|exact iS.out)) hb);have fG:=aM (pw_cell_below hb HX501_1.out);have fQ:=aM (bG (gW HB.out) hb);have gK:=aM (hbox);have iO:=aM ((by rw [hg];exact(bH (gW HB.out)):w.heap.size≤cX));have kT:=aM ((by rw [hg];exact(bH (gW HB.out)):w.heap.size≤cX));have oL:=aM ((by rw [hg];exact Nat.ne_of_lt (bN (g:=fF) (o:= .cells #[.slice none 0 0,.slice none 0 0,.int .i64 0,.int .i64 0,.slice none 0 0] 26 (0,0)) (gB dJ.out)):fF≠cX));have Ij:=aM ((by rw [hg];exact Nat.ne_of_gt (bN (g:=fF) (o:= .cells #[.slice none 0 0,.slice none 0 0,.int .i64 0,.int .i64 0,.slice none 0 0] 26 (0,0)) (gB dJ.out)):cX≠fF));have Ik:=aM ((by rw [hg];exact Nat.ne_of_lt (bN (g:=cP) (o:= .cells #[.slice mD t482.length mE,.slice jN y497.length jH,.int .i64 t488,.int .i64 t489,.slice (some kK) bA.length iN] 26 (0,0)) (gB bP.out)):cP≠cX));have Il:=aM ((by rw [hg];exact Nat.ne_of_gt (bN (g:=cP) (o:= .cells #[.slice mD t482.length mE,.slice jN y497.length jH,.int .i64 t488,.int .i64 t489,.slice (some kK) bA.length iN] 26 (0,0)) (gB bP.out)):cX≠cP));clear eE;clear cS;clear cL;clear bM;clear HL500_1;clear HL501_1;clear dJ;clear bP;clear jU;clear HX500_1;clear iS;clear HX501_1;clear HB;have eE:=cH;have cS:=cI;have cL:=cK;have bM:=cQ;have HL500_1:=dI;have HL501_1:=dR;have dJ:=dV;have bP:=eV;have jU:=fV;have HX500_1:=gQ;have iS:=eS;have HX501_1:=fG;have HB:=fQ;have iZ:=gK;have GW503:=iO;have zT:=kT;have jI:=oL;have sI:=Ij;have jJ:=Ik;have sJ:=Il;clear cH cI cK cQ dI dR dV eV fV gQ eS fG fQ gK iO kT oL Ij Ik Il;clear hb hbox hg;have hnb42:=sI.out;have hnc42:=jI.out;have hnb43:=sJ.out;have hnc43:=jJ.out;have qJ:w41.cell? ⟨cX,0,none⟩=some (.bool false):=(aG iZ.out 0).trans rfl;have pK:w41.cell? ⟨cX,1,none⟩=some (.int .i64 0):=(aG iZ.out 1).trans rfl;have hdz44:∀(v0 v1 y:Value),(((w41.setCell ⟨cX,0,none⟩ v0).setCell ⟨cX,1,none⟩ v1).setCell ⟨cX,1,none⟩ y).cell? ⟨cX,1,none⟩=some y:=fun v0 v1 y=>World.cell?_setCell_same _ _ _ (World.cell?_setCell_same _ _ _ ((World.cell?_setCell_other _ _ _ _ (by simp)).trans pK));have qK:=aH iZ.out 0;have qL:=aH iZ.out 1)|((with_reducible refine gate_builtin (b:= .append) (xs:=#[.tmp 59,.tmp 61]) rfl ?_);at_builtin;refine Kd.R_append k43 (w0:=w) w.heap.size rfl (.tmp 59) (.tmp 61) 29 43 (.agg #[(.bool false),(.int .i64 0)]) 16 rfl Try.underlying29 info43 rfl (by decide) (by omega) u5 cG (⟨false,(rd_T43 ((rd_T35 bA bY).f1) eZ).f1⟩:S43) [.bool false,.int .i64 ((rd_T43 ((rd_T35 bA bY).f1) eZ).f1)] (fun k_=>k_≠cX) (fun _=>False) rfl (by first|(go_simp;done)|(go_simp;rfl)) ?aP (fun _ hk=>hk.elim) ?aF ?aO ?aB ?aS ?aL ?_;(case aP=>exact k43_mkM _ _ _ (⟨false,(rd_T43 ((rd_T35 bA bY).f1) eZ).f1⟩:S43));(case aB=>exact(by repeat(first|(with_reducible first|exact HB.out|apply aN|apply aP|apply aO|refine aL ?_ sN.out|refine aL ?_ sO.out|refine aL ?_ zT.out)|exact HB.out)));(case aF=>exact(fun k_ hk=>Kd.freshB (g:=cX) (o:= .cells #[.bool false,.int .i64 ((rd_T43 ((rd_T35 bA bY).f1) eZ).f1)] 43 (0,0)) (by(with_reducible repeat(first|refine aJ ?_ _|refine aK ?_|refine aI ?_ _));refine blk_put (cs:=#[.bool false,.int .i64 0]) ?_ 1 _ rfl;(with_reducible repeat(first|refine aJ ?_ _|refine aK ?_|refine aI ?_ _));refine blk_put (cs:=#[.bool false,.int .i64 0]) ?_ 0 _ rfl;(with_reducible repeat(first|refine aJ ?_ _|refine aK ?_|refine aI ?_ _));exact iZ.out) k_ hk));(case aO=>exact(by(with_reducible repeat(first|apply aA|apply aB|apply aC));exact Kd.R_mono (aE (p:=⟨cX,1,none⟩) (aE (p:=⟨cX,0,none⟩) (Kd.R_mono eE.out (fun k_ hk=>(⟨hk,hk.2⟩:_∧k_≠cX))) (fun _ hk=>hk.2) (.bool false)) (fun _ hk=>hk.2) (.int .i64 ((rd_T43 ((rd_T35 bA bY).f1) eZ).f1))) (fun _ hk=>hk.1.2)));(case aS=>exact(bH (by repeat(first|(with_reducible first|exact HB.out|apply aN|apply aP|apply aO|refine aL ?_ sN.out|refine aL ?_ sO.out|refine aL ?_ zT.out)|exact HB.out))));(case aL=>have:=Tn.out;omega);intro v508 w45 ho hb hg hat;rw [←To.out] at ho;have cH:=aM (Kd.R_over' (by(with_reducible repeat(first|apply aA|apply aB|apply aC));exact(Kd.R_mono (aE (p:=⟨cX,1,none⟩) (aE (p:=⟨cX,0,none⟩) (Kd.R_types cS.out iZ.out (by decide)) (fun _ hk=>hk.2) (.bool false)) (fun _ hk=>hk.2) (.int .i64 ((rd_T43 ((rd_T35 bA bY).f1) eZ).f1))) (fun _ h_=>h_.1))) (Kd.R_typed (by(with_reducible repeat(first|apply aA|apply aB|apply aC));exact(Kd.R_mono (aE (p:=⟨cX,1,none⟩) (aE (p:=⟨cX,0,none⟩) (Kd.R_mono eE.out (fun k_ hk=>(⟨hk,hk.2⟩:_∧k_≠cX))) (fun _ hk=>hk.2) (.bool false)) (fun _ hk=>hk.2) (.int .i64 ((rd_T43 ((rd_T35 bA bY).f1) eZ).f1))) (fun _ h_=>h_.1)))) (by decide) hg);have cI:=aM (Kd.R_over' (by(with_reducible repeat(first|apply aA|apply aB|apply aC));exact(Kd.R_mono (aE (p:=⟨cX,1,none⟩) (aE (p:=⟨cX,0,none⟩) (Kd.R_types cL.out iZ.out (by decide)) (fun _ hk=>hk.2) (.bool false)) (fun _ hk=>hk.2) (.int .i64 ((rd_T43 ((rd_T35 bA bY).f1) eZ).f1))) (fun _ h_=>h_.1))) (Kd.R_typed (by(with_reducible repeat(first|apply aA|apply aB|apply aC));exact(Kd.R_mono (aE (p:=⟨cX,1,none⟩) (aE (p:=⟨cX,0,none⟩) (Kd.R_mono eE.out (fun k_ hk=>(⟨hk,hk.2⟩:_∧k_≠cX))) (fun _ hk=>hk.2) (.bool false)) (fun _ hk=>hk.2) (.int .i64 ((rd_T43 ((rd_T35 bA bY).f1) eZ).f1))) (fun _ h_=>h_.1)))) (by decide) hg);have cK:=aM (Kd.S_after (ok:=(fun k_=>k_≠cX)) (by(with_reducible repeat(first|apply Kd.S_alloc|apply aV|apply aW));exact Kd.S_mono (Kd.S_far (p:=⟨cX,1,none⟩) (Kd.S_far (p:=⟨cX,0,none⟩) (Kd.S_mono bM.out (fun k_ hk=>(⟨hk,hk.2⟩:_∧k_≠cX))) (fun _ hk=>hk.2) (.bool false)) (fun _ hk=>hk.2) (.int .i64 ((rd_T43 ((rd_T35 bA bY).f1) eZ).f1))) (fun _ hk=>⟨hk.1.2,hk.1.1⟩)) hg hat);have cQ:=aM (blk_grown (g:=fF) (o:= .cells #[.slice none 0 0,.slice none 0 0,.int .i64 0,.int .i64 0,.slice none 0 0] 26 (0,0)) (by(with_reducible repeat(first|refine aJ ?_ _|refine aK ?_|refine aI ?_ _));refine blk_far ?_ jI.out _;(with_reducible repeat(first|refine aJ ?_ _|refine aK ?_|refine aI ?_ _));refine blk_far ?_ jI.out _;(with_reducible repeat(first|refine aJ ?_ _|refine aK ?_|refine aI ?_ _));exact dJ.out) hg (Kd.R_ne eE.out dJ.out (by decide)));have dI:=aM (blk_grown (g:=cP) (o:= .cells #[.slice mD t482.length mE,.slice jN y497.length jH,.int .i64 t488,.int .i64 t489,.slice (some kK) bA.length iN] 26 (0,0)) (by(with_reducible repeat(first|refine aJ ?_ _|refine aK ?_|refine aI ?_ _));refine blk_far ?_ jJ.out _;(with_reducible repeat(first|refine aJ ?_ _|refine aK ?_|refine aI ?_ _));refine blk_far ?_ jJ.out _;(with_reducible repeat(first|refine aJ ?_ _|refine aK ?_|refine aI ?_ _));exact bP.out) hg (Kd.R_ne eE.out bP.out (by decide)));have dR:=aM (Kd.R_after (ok:=(fun k_=>some k_≠(.slice (some kK) bA.length iN:Value).ownBlock∧k_≠cX)) (by(with_reducible repeat(first|apply aA|apply aB|apply aC));exact Kd.R_mono (aE (p:=⟨cX,1,none⟩) (aE (p:=⟨cX,0,none⟩) (Kd.R_mono HL500_1.out (fun k_ hk=>(⟨hk,hk.2⟩:_∧k_≠cX))) (fun _ hk=>hk.2) (.bool false)) (fun _ hk=>hk.2) (.int .i64 ((rd_T43 ((rd_T35 bA bY).f1) eZ).f1))) (fun _ hk=>⟨⟨hk.1.1.2,hk.1.2⟩,hk.1.1.1⟩)) hg hat);have dV:=aM (Kd.R_after (ok:=(fun k_=>some k_≠(.slice (some kK) bA.length iN:Value).ownBlock∧k_≠cX)) (by(with_reducible repeat(first|apply aA|apply aB|apply aC));exact Kd.R_mono (aE (p:=⟨cX,1,none⟩) (aE (p:=⟨cX,0,none⟩) (Kd.R_mono HL501_1.out (fun k_ hk=>(⟨hk,hk.2⟩:_∧k_≠cX))) (fun _ hk=>hk.2) (.bool false)) (fun _ hk=>hk.2) (.int .i64 ((rd_T43 ((rd_T35 bA bY).f1) eZ).f1))) (fun _ hk=>⟨⟨hk.1.1.2,hk.1.2⟩,hk.1.1.1⟩)) hg hat);have eV:=aM (blk_grown (g:=cX) (o:= .cells #[.bool false,.int .i64 ((rd_T43 ((rd_T35 bA bY).f1) eZ).f1)] 43 (0,0)) (by(with_reducible repeat(first|refine aJ ?_ _|refine aK ?_|refine aI ?_ _));refine blk_put (cs:=#[.bool false,.int .i64 0]) ?_ 1 _ rfl;(with_reducible repeat(first|refine aJ ?_ _|refine aK ?_|refine aI ?_ _));refine blk_put (cs:=#[.bool false,.int .i64 0]) ?_ 0 _ rfl;(with_reducible repeat(first|refine aJ ?_ _|refine aK ?_|refine aI ?_ _));exact iZ.out) hg (Kd.R_away eE.out (fun _ hk=>hk.2)));have fV:=aM (hb);have gQ:=aM (ho);clear cS;clear cL;clear bM;clear dJ;clear bP;clear HL500_1;clear HL501_1;clear iZ;clear HB;clear eE;have cS:=cH;have cL:=cI;have bM:=cK;have dJ:=cQ;have bP:=dI;have HL500_1:=dR;have HL501_1:=dV;have iZ:=eV;have HB:=fV;have Tp:=gQ;clear cH cI cK cQ dI dR dV eV fV gQ;clear ho hb hg hat))
        go_roundg k2
        case measure=>have:=HK1.out;have:=HK2.out;omega
        case rel=>exact⟨(y507),(wrap64 (eZ+1)),(by first|rfl|(simp;done)|(simp [*];done)),H',⟨by have:=HK1.out;have:=HK2.out;omega⟩,⟨by(with_reducible repeat(first|apply aA|apply aB|apply aC));exact Kd.R_mono Tp.out (fun _ hk=>trivial)⟩,⟨gR cS.out⟩,⟨gR cL.out⟩,⟨by(with_reducible repeat(first|apply Kd.S_alloc|apply aV|apply aW));exact Kd.S_mono bM.out (fun _ hk=>hk.2)⟩,⟨gB dJ.out⟩,⟨gB bP.out⟩,⟨gW HB.out⟩⟩
      ·rw [if_neg c24] at H
       have wJ:decide (eZ<(((rd_T35 bA bY).f1).length:Int))=false:=decide_eq_false c24;clear c24
       by_cases c46:(cG.length:Int)>0
       ·rw [if_pos c46] at H
        have zV:decide (0<(cG.length:Int))=true:=decide_eq_true c46;have zW:decide (0<cG.length)=true:=decide_eq_true (by omega);clear c46
        by_cases c47:0<(cG.length:Int)
        rotate_left
        ·rw [if_neg c47] at H
         exact absurd H (by simp)
        rw [if_pos c47] at H;have Im:decide (0<(cG.length:Int))=true:=decide_eq_true c47;have Pn:decide (0<cG.length)=true:=decide_eq_true (by omega);clear c47;obtain⟨y510,zX⟩:∃y_:List (S43),y_=(cG.set (0:Int).toNat (⟨true,bY⟩:S43)):=⟨_,rfl⟩;replace H:(regletlaw14_Clear.l0 k2 (wrap64 (bY+1)) t482 y497 t488 t489 (bA.set (bY:Int).toNat (⟨(rd_T35 bA bY).f0,y510⟩:S35)))=some (r1,r2,r3,r4,r5):=by first|(rw [zX];with_reducible exact H)|(have H2_:=(Option.bind_some _ _).symm.trans H;rw [zX];with_reducible exact H2_)|(have H2_:=(Option.bind_some _ _).symm.trans H;with_reducible exact H2_)|with_reducible exact H|(rw [zX];exact H)|exact H
        have Tq:=aM zX;clear zX;obtain⟨y511,zY⟩:∃y_:List (S35),y_=(bA.set (bY:Int).toNat (⟨(rd_T35 bA bY).f0,y510⟩:S35)):=⟨_,rfl⟩;replace H:(regletlaw14_Clear.l0 k2 (wrap64 (bY+1)) t482 y497 t488 t489 y511)=some (r1,r2,r3,r4,r5):=by first|(rw [zY];with_reducible exact H)|(have H2_:=(Option.bind_some _ _).symm.trans H;rw [zY];with_reducible exact H2_)|(have H2_:=(Option.bind_some _ _).symm.trans H;with_reducible exact H2_)|with_reducible exact H|(rw [zY];exact H)|exact H
        have Tr:=aM zY;clear zY;have H':=aM H;clear H;have hnb50:=gH.out;have hnc50:=eW.out;have wQ:wr.cell? ⟨cP,0,none⟩=some (.slice mD t482.length mE):=(aG bP.out 0).trans rfl;have wR:wr.cell? ⟨cP,1,none⟩=some (.slice jN y497.length jH):=(aG bP.out 1).trans rfl;have Dy:wr.cell? ⟨cP,2,none⟩=some (.int .i64 t488):=(aG bP.out 2).trans rfl;have Dz:wr.cell? ⟨cP,3,none⟩=some (.int .i64 t489):=(aG bP.out 3).trans rfl;have Ea:wr.cell? ⟨cP,4,none⟩=some (.slice zQ bA.length iN):=(aG bP.out 4).trans rfl;have wS:=aH bP.out 0;have wT:=aH bP.out 1;have Eb:=aH bP.out 2;have Ec:=aH bP.out 3;have Ed:=aH bP.out 4;have p500:0≤(bY:Int):=of_decide_eq_true (by first|(with_reducible assumption)|assumption);have q500:bY<(bA.length:Int):=of_decide_eq_true (by first|(with_reducible assumption)|assumption);obtain⟨kK,Cq,Cr,e500,nK,gJ,jS,jT⟩:=at_T35 (Kd.S_reads' bM.out).2.2 bY p500 q500
        cases e500;obtain⟨ce500,hce500,hMe500,hcc500⟩:=Kd.S_get bM.out z35 bY p500 (by first|exact q500|exact of_decide_eq_true (by first|(with_reducible assumption)|assumption)|(have e_:=(Kd.S_reads' bM.out).1;omega));obtain⟨ve500_1,rfl,ge500_1⟩:=k35_openM hMe500;have hv500_1:=hcc500 1 _ rfl;rw [add_field _ _ 1 (by omega)] at hv500_1;replace hv500_1:=Option.some.inj (hv500_1.symm.trans gJ);rw [hv500_1] at ge500_1;have HL500_1:=aM (show Kd.R k43 43 _ _ _ _ ((rd_T35 bA bY).f1) from ge500_1);clear hv500_1 ge500_1;have HX500_1:=aM gJ;clear hcc500 hce500;have jU:=aM jT;have wO:=aM jS;clear jT jS;replace p500:=eq_true p500;replace q500:=eq_true q500;obtain⟨Jz,oM,Rq⟩:=Kd.R_slice eE.out;subst Rq;have p48:0≤(0:Int):=(by omega);have q48:(0:Int)<((cG.length:Int):Int):=of_decide_eq_true (by first|(with_reducible assumption)|assumption);have qi48:(0<cG.length)=True:=eq_true (by omega);obtain⟨go48,Id,zZ,Ts,gl48,cl48,HG48⟩:=Kd.R_form eE.out (by omega)
        (first|cases zZ|(injection zZ with ea_ en_ ec_;(first|subst ea_|(injection ea_ with ea_;subst ea_));subst ec_;clear en_))
        have GB48:=aM Ts;have GG48:=aM HG48;clear Ts gl48 HG48;obtain⟨ce48,hcl48,hM48,hcc48,hfr48⟩:=Kd.R_elem eE.out z43 (0:Int) p48 q48;obtain rfl:=k43_openM hM48;have wU:wr.cell? ⟨go48,(0:Int).toNat * 2,none⟩=some (.bool ((rd_T43 cG 0).f0)):=hcc48 0 _ rfl;have wV:wr.cell? ⟨go48,(0:Int).toNat * 2+1,none⟩=some (.int .i64 ((rd_T43 cG 0).f1)):=hcc48 1 _ rfl;have hf48_0:wr.frozen? ⟨go48,(0:Int).toNat * 2,none⟩=false:=hfr48 0;have hf48_1:wr.frozen? ⟨go48,(0:Int).toNat * 2+1,none⟩=false:=hfr48 1;clear hcl48 hcc48 hfr48;(try clear hM48)
        (try rw [show((0:Int)).toNat=0 from rfl] at wU)
        (try simp only [Nat.reduceMul,Nat.zero_mul,Nat.zero_add,Nat.reduceAdd] at wU)
        (try rw [show((0:Int)).toNat=0 from rfl] at hf48_0)
        (try simp only [Nat.reduceMul,Nat.zero_mul,Nat.zero_add,Nat.reduceAdd] at hf48_0)
        (try rw [show((0:Int)).toNat=0 from rfl] at wV)
        (try simp only [Nat.reduceMul,Nat.zero_mul,Nat.zero_add,Nat.reduceAdd] at wV)
        (try rw [show((0:Int)).toNat=0 from rfl] at hf48_1)
        (try simp only [Nat.reduceMul,Nat.zero_mul,Nat.zero_add,Nat.reduceAdd] at hf48_1)
        replace p48:=eq_true p48;replace q48:=eq_true q48;have HX53:=aM (show Kd.R k43 43 wr w.heap.size (fun _=>True) (.slice (some ⟨go48,0,none⟩) cG.length oM) cG from(gR eE.out));obtain⟨ce53,hcl53,hM53,hcc53,hfr53⟩:=Kd.R_elem HX53.out z43 (0:Int) (by omega) (by have h_:(0:Int)<((cG.length:Int):Int):=of_decide_eq_true (by first|(with_reducible assumption)|assumption);first|exact h_|(have e_:=(aF eE.out).1;omega)|simpa using h_);obtain rfl:=k43_openM hM53;have HP53:=Kd.R_seg HX53.out (0:Int) (by omega) (by have h_:(0:Int)<((cG.length:Int):Int):=of_decide_eq_true (by first|(with_reducible assumption)|assumption);first|exact h_|(have e_:=(aF eE.out).1;omega)|simpa using h_) (seg:= [.bool true,.int .i64 bY]) (j:=0) hcl53 hcc53 (show 2≤2 from by decide) (x':=(⟨true,bY⟩:S43)) (k43_mkM _ _ _ (⟨true,bY⟩:S43)) (fun _ hk=>hk);have vE:=hcc53 0 _ rfl
        (try simp only [show(k43).sz=2 from rfl,Nat.mul_one,Nat.add_zero] at vE)
        (try rw [show((0:Int)).toNat=0 from rfl] at vE)
        (try simp only [Nat.reduceMul,Nat.zero_mul,Nat.zero_add,Nat.reduceAdd] at vE)
        have hf53_0:=hfr53 0
        (try simp only [show(k43).sz=2 from rfl,Nat.mul_one,Nat.add_zero] at hf53_0)
        (try rw [show((0:Int)).toNat=0 from rfl] at hf53_0)
        (try simp only [Nat.reduceMul,Nat.zero_mul,Nat.zero_add,Nat.reduceAdd] at hf53_0)
        have vF:=hcc53 1 _ rfl
        (try simp only [show(k43).sz=2 from rfl,Nat.mul_one,Nat.add_zero] at vF)
        (try rw [show((0:Int)).toNat=0 from rfl] at vF)
        (try simp only [Nat.reduceMul,Nat.zero_mul,Nat.zero_add,Nat.reduceAdd] at vF)
        have hf53_1:=hfr53 1
        (try simp only [show(k43).sz=2 from rfl,Nat.mul_one,Nat.add_zero] at hf53_1)
        (try rw [show((0:Int)).toNat=0 from rfl] at hf53_1)
        (try simp only [Nat.reduceMul,Nat.zero_mul,Nat.zero_add,Nat.reduceAdd] at hf53_1)
        clear hcl53 hcc53 hfr53;(try clear hM53)
        go_wp2_with (first|((with_reducible refine gate_store (t:=43) (p:=69) rfl ?_);refine store_event (t:=43) (p:=69) (v:=?vo_w54) (w1:=((wr.setCell ⟨go48,0,none⟩ (.bool true)).setCell ⟨go48,1,none⟩ (.int .i64 bY))) ?hg ?ho ?hn ?hr ?_;(case ho=>rfl);(case hg=>rfl);(case hn=>rfl);(case hr=>first|(go_simp;done)|(go_simp;rfl));intro w54 hw;have hg:wr.grownBy w54 (some go48):=(by rw [hw];exact HP53.2);have hp_:Kd.R k43 43 w54 w.heap.size (fun _=>True) (.slice (some ⟨go48,0,none⟩) cG.length oM) y510:=(by rw [hw,Tq.out];exact HP53.1);clear HP53;have cH:=aM (hp_);have cI:=aM (Kd.R_over' (v:=(.slice (some ⟨go48,0,none⟩) cG.length oM)) (gR cS.out) (Kd.R_typed eE.out) (by decide) hg);have cK:=aM (Kd.R_over' (v:=(.slice (some ⟨go48,0,none⟩) cG.length oM)) (gR cL.out) (Kd.R_typed eE.out) (by decide) hg);have cQ:=aM (Kd.S_after (v:=(.slice (some ⟨go48,0,none⟩) cG.length oM)) (v1:=(.slice (some ⟨go48,0,none⟩) cG.length oM)) (ok:=(fun _=>True)) (by(with_reducible repeat(first|apply Kd.S_alloc|apply aV|apply aW));exact Kd.S_mono bM.out (fun _ hk=>⟨trivial,hk⟩)) hg (.inl rfl));have dI:=aM (blk_grown (gB dJ.out) hg (Kd.R_ne eE.out dJ.out (by decide)));have dR:=aM (blk_grown (gB bP.out) hg (Kd.R_ne eE.out bP.out (by decide)));have dV:=aM (Kd.R_after (v:=(.slice (some ⟨go48,0,none⟩) cG.length oM)) (v1:=(.slice (some ⟨go48,0,none⟩) cG.length oM)) (ok:=(fun k_=>some k_≠(.slice (some kK) bA.length iN:Value).ownBlock)) (by(with_reducible repeat(first|apply aA|apply aB|apply aC));exact Kd.R_mono HL500_1.out (fun _ hk=>⟨hk.2,hk.1⟩)) hg (.inl rfl));have eV:=aM ((by rw [hw];exact aL (aL (HB.out) GB48.out) GB48.out:Below w.heap.size w w54));clear eE;clear cS;clear cL;clear bM;clear dJ;clear bP;clear HL500_1;clear HB;have eE:=cH;have cS:=cI;have cL:=cK;have bM:=cQ;have dJ:=dI;have bP:=dR;have HL500_1:=dV;have HB:=eV;clear cH cI cK cQ dI dR dV eV;clear hg hw hp_;have tD:w54.cell? ⟨cP,0,none⟩=some (.slice mD t482.length mE):=(aG bP.out 0).trans rfl;have tE:w54.cell? ⟨cP,1,none⟩=some (.slice jN y497.length jH):=(aG bP.out 1).trans rfl;have tF:w54.cell? ⟨cP,2,none⟩=some (.int .i64 t488):=(aG bP.out 2).trans rfl;have tG:w54.cell? ⟨cP,3,none⟩=some (.int .i64 t489):=(aG bP.out 3).trans rfl;have tH:w54.cell? ⟨cP,4,none⟩=some (.slice (some kK) bA.length iN):=(aG bP.out 4).trans rfl;have tI:=aH bP.out 0;have tJ:=aH bP.out 1;have tK:=aH bP.out 2;have tL:=aH bP.out 3;have tM:=aH bP.out 4;have p49:0≤(bY:Int):=of_decide_eq_true (by first|(with_reducible assumption)|assumption);have q49:(bY:Int)<((bA.length:Int):Int):=of_decide_eq_true (by first|(with_reducible assumption)|assumption);obtain⟨go49,KD,Tt,Tu,gl49,cl49,HG49⟩:=Kd.S_form bM.out (by omega);(first|cases Tt|(injection Tt with ea_ en_ ec_;(first|subst ea_|(injection ea_ with ea_;subst ea_));subst ec_;clear en_));have GB49:=aM Tu;have GG49:=aM HG49;clear Tu gl49 HG49;(first|simp only [add_plain] at nK|skip);(first|simp only [add_plain] at gJ|skip);(first|simp only [add_plain] at sZ|skip);(first|simp only [add_plain] at kR|skip);obtain⟨_,ce49,hcl49,hM49,hcc49,hfr49,_,_⟩:=Kd.S_elem bM.out z35 (bY:Int) p49 q49;obtain⟨ve49_1,rfl,ge49_1⟩:=k35_openM hM49;have In:w54.cell? ⟨go49,(bY:Int).toNat * 2,none⟩=some (.int .i64 ((rd_T35 bA bY).f0)):=hcc49 0 _ rfl;have Io:w54.cell? ⟨go49,(bY:Int).toNat * 2+1,none⟩=some (ve49_1):=hcc49 1 _ rfl;have hf49_0:w54.frozen? ⟨go49,(bY:Int).toNat * 2,none⟩=false:=hfr49 0;have hf49_1:w54.frozen? ⟨go49,(bY:Int).toNat * 2+1,none⟩=false:=hfr49 1;clear hcl49 hcc49 hfr49;(try clear hM49);replace p49:=eq_true p49;replace q49:=eq_true q49;have n_:=aM (Kd.S_mono (ok':=(fun k_=>some k_≠(.slice (some ⟨go48,0,none⟩) cG.length oM:Value).ownBlock)) bM.out (fun k_ hk=>hk.2));clear bM;have bM:=n_;clear n_;have HX56:=aM (show Kd.S k35 35 w54 w.heap.size (fun k_=>((fun _=>True)) k_∧¬((fun k_=>some k_=(.slice (some ⟨go48,0,none⟩) cG.length oM:Value).ownBlock)) k_) (.slice (some ⟨go49,0,none⟩) bA.length iN) bA from(by(with_reducible repeat(first|apply Kd.S_alloc|apply aV|apply aW));exact Kd.S_mono bM.out (fun k_ hk=>⟨trivial,fun e_=>hk e_⟩)));obtain⟨oki56,ce56,hcl56,hM56,hcc56,hfr56,hoki56,hH56⟩:=Kd.S_elem HX56.out z35 (bY:Int) (of_decide_eq_true (by first|(with_reducible assumption)|assumption)) (by have h_:(bY:Int)<((bA.length:Int):Int):=of_decide_eq_true (by first|(with_reducible assumption)|assumption);first|exact h_|(have e_:=(Kd.S_reads' bM.out).1;omega)|simpa using h_);obtain⟨ve56_1,rfl,ge56_1⟩:=k35_openM hM56;have HP56:=Kd.S_seg hH56 (of_decide_eq_true (by first|(with_reducible assumption)|assumption)) (by have h_:(bY:Int)<((bA.length:Int):Int):=of_decide_eq_true (by first|(with_reducible assumption)|assumption);first|exact h_|(have e_:=(Kd.S_reads' bM.out).1;omega)|simpa using h_) (seg:= [.slice (some ⟨go48,0,none⟩) cG.length oM]) (j:=1) (show 2≤2 from by decide) (x':=(⟨(rd_T35 bA bY).f0,y510⟩:S35)) (k35_mkM _ _ _ (⟨(rd_T35 bA bY).f0,y510⟩:S35) (Kd.R_mono (Kd.R_tight rfl (Kd.R_mono (ok':=fun k_=>((fun _=>True)) k_∧k_≠go49) (Kd.R_apart' (eE.out) (Kd.S_typed bM.out) (by decide)) (fun k_ hk=>⟨trivial,fun e_=>(hk.2) (by rw [e_];rfl)⟩))) (fun _ h_=>Or.inr (h_)))) (fun _ hk=>hk) (fun k_ hk_=>((Kd.R_mono (ok':=fun k_=>((fun _=>True)) k_∧k_≠go49) (Kd.R_apart' (eE.out) (Kd.S_typed bM.out) (by decide)) (fun k_ hk=>⟨trivial,fun e_=>(hk.2) (by rw [e_];rfl)⟩))).1 k_ hk_.symm);have Cs:=hcc56 1 _ rfl;(try simp only [show(k35).sz=2 from rfl,Nat.mul_one,Nat.add_zero] at Cs);have hf56_1:=hfr56 1;(try simp only [show(k35).sz=2 from rfl,Nat.mul_one,Nat.add_zero] at hf56_1);clear hcl56 hcc56 hfr56;(try clear hM56);clear hoki56 hH56)|((with_reducible refine gate_store (t:=29) (p:=75) rfl ?_);refine store_event (t:=29) (p:=75) (v:=?vo_w57) (w1:=(w54.setCell ⟨go49,(bY:Int).toNat * 2+1,none⟩ (.slice (some ⟨go48,0,none⟩) cG.length oM))) ?hg ?ho ?hn ?hr ?_;(case ho=>rfl);(case hg=>rfl);(case hn=>rfl);(case hr=>first|(go_simp;done)|(go_simp;rfl)|(obtain⟨A_,c_,e_⟩:=Kd.R_slice eE.out;rw [e_];first|(go_simp;done)|(go_simp;rfl)));intro w57 hw;have hg:w54.grownBy w57 (some go49):=(by rw [hw];exact HP56.2);have hp_:Kd.S k35 35 w57 w.heap.size (fun _=>True) (.slice (some ⟨go49,0,none⟩) bA.length iN) y511:=(by rw [hw,Tr.out];exact HP56.1);clear HP56;have cH:=aM (Kd.R_over' (v:=(.slice (some ⟨go49,0,none⟩) bA.length iN)) (gR cS.out) (Kd.S_typed bM.out) (by decide) hg);have cI:=aM (Kd.R_over' (v:=(.slice (some ⟨go49,0,none⟩) bA.length iN)) (gR cL.out) (Kd.S_typed bM.out) (by decide) hg);have cK:=aM (hp_);have cQ:=aM (blk_grown (gB dJ.out) hg (Kd.S_ne bM.out dJ.out (by decide)));have dI:=aM (blk_grown (gB bP.out) hg (Kd.S_ne bM.out bP.out (by decide)));have dR:=aM (Kd.R_after (v:=(.slice (some ⟨go49,0,none⟩) bA.length iN)) (v1:=(.slice (some ⟨go49,0,none⟩) bA.length iN)) (ok:=(fun k_=>some k_≠(.slice (some ⟨go48,0,none⟩) cG.length oM:Value).ownBlock)) (by(with_reducible repeat(first|apply aA|apply aB|apply aC));exact Kd.R_mono HL500_1.out (fun _ hk=>⟨hk.2,hk.1⟩)) hg (.inl rfl));have dV:=aM ((by rw [hw];exact aL (HB.out) GB49.out:Below w.heap.size w w57));clear cS;clear cL;clear bM;clear dJ;clear bP;clear HL500_1;clear HB;clear eE;have cS:=cH;have cL:=cI;have bM:=cK;have dJ:=cQ;have bP:=dI;have HL500_1:=dR;have HB:=dV;clear cH cI cK cQ dI dR dV;clear hg hw hp_))
        go_roundg k2
        case measure=>have:=HK1.out;have:=HK2.out;omega
        case rel=>exact⟨(wrap64 (bY+1)),(y497),(y511),(.slice jN y497.length jH),(.slice (some ⟨go49,0,none⟩) bA.length iN),(by first|rfl|(simp;done)|(simp [*];done)),H',⟨by have:=HK1.out;have:=HK2.out;omega⟩,⟨gR cS.out⟩,⟨gR cL.out⟩,⟨gS bM.out⟩,⟨gB dJ.out⟩,⟨gB bP.out⟩,⟨gW HB.out⟩⟩
       ·rw [if_neg c46] at H
        have zV:decide (0<(cG.length:Int))=false:=decide_eq_false c46;have zW:decide (0<cG.length)=false:=decide_eq_false (by omega);clear c46;obtain⟨y512,Aa⟩:∃y_:List (S35),y_=(bA.set (bY:Int).toNat (⟨(rd_T35 bA bY).f0,cG⟩:S35)):=⟨_,rfl⟩;replace H:(regletlaw14_Clear.l0 k2 (wrap64 (bY+1)) t482 y497 t488 t489 y512)=some (r1,r2,r3,r4,r5):=by first|(rw [Aa];with_reducible exact H)|(have H2_:=(Option.bind_some _ _).symm.trans H;rw [Aa];with_reducible exact H2_)|(have H2_:=(Option.bind_some _ _).symm.trans H;with_reducible exact H2_)|with_reducible exact H|(rw [Aa];exact H)|exact H
        have Tv:=aM Aa;clear Aa;have H':=aM H;clear H;have hnb59:=gH.out;have hnc59:=eW.out;have wW:wr.cell? ⟨cP,0,none⟩=some (.slice mD t482.length mE):=(aG bP.out 0).trans rfl;have wX:wr.cell? ⟨cP,1,none⟩=some (.slice jN y497.length jH):=(aG bP.out 1).trans rfl;have wY:wr.cell? ⟨cP,2,none⟩=some (.int .i64 t488):=(aG bP.out 2).trans rfl;have wZ:wr.cell? ⟨cP,3,none⟩=some (.int .i64 t489):=(aG bP.out 3).trans rfl;have xA:wr.cell? ⟨cP,4,none⟩=some (.slice zQ bA.length iN):=(aG bP.out 4).trans rfl;have xB:=aH bP.out 0;have xC:=aH bP.out 1;have xD:=aH bP.out 2;have xE:=aH bP.out 3;have xF:=aH bP.out 4;have p500:0≤(bY:Int):=of_decide_eq_true (by first|(with_reducible assumption)|assumption);have q500:bY<(bA.length:Int):=of_decide_eq_true (by first|(with_reducible assumption)|assumption);obtain⟨kK,Cq,Cr,e500,nK,gJ,jS,jT⟩:=at_T35 (Kd.S_reads' bM.out).2.2 bY p500 q500
        cases e500;obtain⟨ce500,hce500,hMe500,hcc500⟩:=Kd.S_get bM.out z35 bY p500 (by first|exact q500|exact of_decide_eq_true (by first|(with_reducible assumption)|assumption)|(have e_:=(Kd.S_reads' bM.out).1;omega));obtain⟨ve500_1,rfl,ge500_1⟩:=k35_openM hMe500;have hv500_1:=hcc500 1 _ rfl;rw [add_field _ _ 1 (by omega)] at hv500_1;replace hv500_1:=Option.some.inj (hv500_1.symm.trans gJ);rw [hv500_1] at ge500_1;have HL500_1:=aM (show Kd.R k43 43 _ _ _ _ ((rd_T35 bA bY).f1) from ge500_1);clear hv500_1 ge500_1;have HX500_1:=aM gJ;clear hcc500 hce500;have jU:=aM jT;have wO:=aM jS;clear jT jS;replace p500:=eq_true p500;replace q500:=eq_true q500;obtain⟨Ka,Kb,EL⟩:=Kd.R_slice eE.out;subst EL;have p58:0≤(bY:Int):=of_decide_eq_true (by first|(with_reducible assumption)|assumption);have q58:(bY:Int)<((bA.length:Int):Int):=of_decide_eq_true (by first|(with_reducible assumption)|assumption);obtain⟨go58,Tw,Ke,Tx,gl58,cl58,HG58⟩:=Kd.S_form bM.out (by omega)
        (first|cases Ke|(injection Ke with ea_ en_ ec_;(first|subst ea_|(injection ea_ with ea_;subst ea_));subst ec_;clear en_))
        have GB58:=aM Tx;have GG58:=aM HG58;clear Tx gl58 HG58
        (first|simp only [add_plain] at nK|skip)
        (first|simp only [add_plain] at gJ|skip)
        obtain⟨_,ce58,hcl58,hM58,hcc58,hfr58,_,_⟩:=Kd.S_elem bM.out z35 (bY:Int) p58 q58;obtain⟨ve58_1,rfl,ge58_1⟩:=k35_openM hM58;have Ip:wr.cell? ⟨go58,(bY:Int).toNat * 2,none⟩=some (.int .i64 ((rd_T35 bA bY).f0)):=hcc58 0 _ rfl;have Iq:wr.cell? ⟨go58,(bY:Int).toNat * 2+1,none⟩=some (ve58_1):=hcc58 1 _ rfl;have hf58_0:wr.frozen? ⟨go58,(bY:Int).toNat * 2,none⟩=false:=hfr58 0;have hf58_1:wr.frozen? ⟨go58,(bY:Int).toNat * 2+1,none⟩=false:=hfr58 1;clear hcl58 hcc58 hfr58;(try clear hM58);replace p58:=eq_true p58;replace q58:=eq_true q58;have HX62:=aM (show Kd.S k35 35 wr w.heap.size (fun k_=>((fun _=>True)) k_∧¬((fun k_=>some k_=(.slice Ka cG.length Kb:Value).ownBlock)) k_) (.slice (some ⟨go58,0,none⟩) bA.length iN) bA from(by(with_reducible repeat(first|apply Kd.S_alloc|apply aV|apply aW));exact Kd.S_mono bM.out (fun k_ hk=>⟨trivial,fun e_=>hk e_⟩)));obtain⟨oki62,ce62,hcl62,hM62,hcc62,hfr62,hoki62,hH62⟩:=Kd.S_elem HX62.out z35 (bY:Int) (of_decide_eq_true (by first|(with_reducible assumption)|assumption)) (by have h_:(bY:Int)<((bA.length:Int):Int):=of_decide_eq_true (by first|(with_reducible assumption)|assumption);first|exact h_|(have e_:=(Kd.S_reads' bM.out).1;omega)|simpa using h_);obtain⟨ve62_1,rfl,ge62_1⟩:=k35_openM hM62;have HP62:=Kd.S_seg hH62 (of_decide_eq_true (by first|(with_reducible assumption)|assumption)) (by have h_:(bY:Int)<((bA.length:Int):Int):=of_decide_eq_true (by first|(with_reducible assumption)|assumption);first|exact h_|(have e_:=(Kd.S_reads' bM.out).1;omega)|simpa using h_) (seg:= [.slice Ka cG.length Kb]) (j:=1) (show 2≤2 from by decide) (x':=(⟨(rd_T35 bA bY).f0,cG⟩:S35)) (k35_mkM _ _ _ (⟨(rd_T35 bA bY).f0,cG⟩:S35) (Kd.R_mono (Kd.R_tight rfl (Kd.R_mono (ok':=fun k_=>((fun _=>True)) k_∧k_≠go58) (Kd.R_apart' (eE.out) (Kd.S_typed bM.out) (by decide)) (fun k_ hk=>⟨trivial,fun e_=>(hk.2) (by rw [e_];rfl)⟩))) (fun _ h_=>Or.inr (h_)))) (fun _ hk=>hk) (fun k_ hk_=>((Kd.R_mono (ok':=fun k_=>((fun _=>True)) k_∧k_≠go58) (Kd.R_apart' (eE.out) (Kd.S_typed bM.out) (by decide)) (fun k_ hk=>⟨trivial,fun e_=>(hk.2) (by rw [e_];rfl)⟩))).1 k_ hk_.symm);have Ct:=hcc62 1 _ rfl
        (try simp only [show(k35).sz=2 from rfl,Nat.mul_one,Nat.add_zero] at Ct)
        have hf62_1:=hfr62 1
        (try simp only [show(k35).sz=2 from rfl,Nat.mul_one,Nat.add_zero] at hf62_1)
        clear hcl62 hcc62 hfr62;(try clear hM62);clear hoki62 hH62
        go_wp2_with (first|((with_reducible refine gate_store (t:=29) (p:=75) rfl ?_);refine store_event (t:=29) (p:=75) (v:=?vo_w63) (w1:=(wr.setCell ⟨go58,(bY:Int).toNat * 2+1,none⟩ (.slice Ka cG.length Kb))) ?hg ?ho ?hn ?hr ?_;(case ho=>rfl);(case hg=>rfl);(case hn=>rfl);(case hr=>first|(go_simp;done)|(go_simp;rfl)|(obtain⟨A_,c_,e_⟩:=Kd.R_slice eE.out;rw [e_];first|(go_simp;done)|(go_simp;rfl)));intro w63 hw;have hg:wr.grownBy w63 (some go58):=(by rw [hw];exact HP62.2);have hp_:Kd.S k35 35 w63 w.heap.size (fun _=>True) (.slice (some ⟨go58,0,none⟩) bA.length iN) y512:=(by rw [hw,Tv.out];exact HP62.1);clear HP62;have cH:=aM (Kd.R_over' (v:=(.slice (some ⟨go58,0,none⟩) bA.length iN)) (gR cS.out) (Kd.S_typed bM.out) (by decide) hg);have cI:=aM (Kd.R_over' (v:=(.slice (some ⟨go58,0,none⟩) bA.length iN)) (gR cL.out) (Kd.S_typed bM.out) (by decide) hg);have cK:=aM (hp_);have cQ:=aM (blk_grown (gB dJ.out) hg (Kd.S_ne bM.out dJ.out (by decide)));have dI:=aM (blk_grown (gB bP.out) hg (Kd.S_ne bM.out bP.out (by decide)));have dR:=aM (Kd.R_after (v:=(.slice (some ⟨go58,0,none⟩) bA.length iN)) (v1:=(.slice (some ⟨go58,0,none⟩) bA.length iN)) (ok:=(fun k_=>some k_≠(.slice Ka cG.length Kb:Value).ownBlock)) (gR HL500_1.out) hg (.inl rfl));have dV:=aM ((by rw [hw];exact aL (HB.out) GB58.out:Below w.heap.size w w63));clear cS;clear cL;clear bM;clear dJ;clear bP;clear HL500_1;clear HB;clear eE;have cS:=cH;have cL:=cI;have bM:=cK;have dJ:=cQ;have bP:=dI;have HL500_1:=dR;have HB:=dV;clear cH cI cK cQ dI dR dV;clear hg hw hp_))
        go_roundg k2
        case measure=>have:=HK1.out;have:=HK2.out;omega
        case rel=>exact⟨(wrap64 (bY+1)),(y497),(y512),(.slice jN y497.length jH),(.slice (some ⟨go58,0,none⟩) bA.length iN),(by first|rfl|(simp;done)|(simp [*];done)),H',⟨by have:=HK1.out;have:=HK2.out;omega⟩,⟨gR cS.out⟩,⟨gR cL.out⟩,⟨gS bM.out⟩,⟨gB dJ.out⟩,⟨gB bP.out⟩,⟨gW HB.out⟩⟩
   ·rw [if_neg c11] at H
    have pQ:decide (bY<(bA.length:Int))=false:=decide_eq_false c11;clear c11;have H':=aM H;clear H;have hnb64:=gH.out;have hnc64:=eW.out;have Ee:wr.cell? ⟨cP,0,none⟩=some (.slice mD t482.length mE):=(aG bP.out 0).trans rfl;have Ef:wr.cell? ⟨cP,1,none⟩=some (u494001):=(aG bP.out 1).trans rfl;have Eg:wr.cell? ⟨cP,2,none⟩=some (.int .i64 t488):=(aG bP.out 2).trans rfl;have Eh:wr.cell? ⟨cP,3,none⟩=some (.int .i64 t489):=(aG bP.out 3).trans rfl;have Ei:wr.cell? ⟨cP,4,none⟩=some (u494004):=(aG bP.out 4).trans rfl;have Ej:=aH bP.out 0;have Ek:=aH bP.out 1;have El:=aH bP.out 2;have Em:=aH bP.out 3;have En:=aH bP.out 4;obtain⟨EN,EO,EP⟩:=Kd.S_slice bM.out;subst EP;go_wp2
    go_loopg [8] k1 (fun kq v8 w'=>∃(dT:Int) (gI:List (S35)) (u494004:Value),v8= .int .i64 dT∧Aside0 (regletlaw14_Clear.l2 kq dT t482 cZ t488 t489 gI=some (r1,r2,r3,r4,r5))∧Aside0 (kq≤k1)∧Aside0 (Kd.R Kd.string 9 w' w.heap.size (fun _=>True) (.slice mD t482.length mE) t482)∧Aside0 (Kd.R k72 72 w' w.heap.size (fun _=>True) u494001 cZ)∧Aside0 (Kd.S k35 35 w' w.heap.size (fun _=>True) u494004 gI)∧Aside0 (w'.heap[fF]?=some (.cells #[(.slice none 0 0),(.slice none 0 0),.int .i64 0,.int .i64 0,(.slice none 0 0)] 26 (0,0)))∧Aside0 (w'.heap[cP]?=some (.cells #[(.slice mD t482.length mE),u494001,.int .i64 t488,.int .i64 t489,u494004] 26 (0,0)))∧Aside0 (Below w.heap.size w w'))
    case atStart=>exact⟨(0),(bA),(.slice EN bA.length EO),(by first|rfl|(simp;done)|(simp [*];done)),H',⟨Nat.le_refl _⟩,⟨gR cS.out⟩,⟨gR cL.out⟩,⟨gS bM.out⟩,⟨gB dJ.out⟩,⟨gB bP.out⟩,⟨gW HB.out⟩⟩
    case round=>
     clear H'
     (try clear c1);(try clear c2);(try clear p2);(try clear q2);(try clear c3);(try clear c4);(try clear p4);(try clear q4);(try clear hx4);(try clear qi4);(try clear hf4);(try clear c5);(try clear p5);(try clear q5);(try clear hx5);(try clear hf5);(try clear c6);(try clear p6);(try clear hx6);(try clear hf6);(try clear c7);(try clear c11);(try clear pQ);(try clear c12);(try clear c13);(try clear c19)
     (try clear c22);(try clear wI);(try clear c23);(try clear Dn);(try clear c24);(try clear wJ);(try clear c25);(try clear sP);(try clear q26);(try clear c27);(try clear c28);(try clear Pk);(try clear Pl);(try clear Pm);(try clear c29);(try clear c30);(try clear c33);(try clear c34);(try clear c38);(try clear c39);(try clear c42);(try clear c43);(try clear c46);(try clear zV);(try clear zW)
     (try clear c47);(try clear Im);(try clear Pn);(try clear c48);(try clear p48);(try clear q48);(try clear hx48);(try clear qi48);(try clear hf48);(try clear c49);(try clear p49);(try clear q49);(try clear hx49);(try clear hf49);(try clear c50);(try clear p50);(try clear q50);(try clear hx50);(try clear c53);(try clear hx53);(try clear hf53);(try clear c56);(try clear hx56);(try clear hf56);(try clear c58)
     (try clear p58);(try clear q58);(try clear hx58);(try clear hf58);(try clear c59);(try clear c62);(try clear hx62);(try clear hf62);(try clear c64);(try clear p64);(try clear mF);(try clear mG);(try clear pT);(try clear pU);(try clear pV);(try clear lA);(try clear lB);(try clear lC);(try clear lD);(try clear lE);(try clear nG);(try clear nH)
     (try clear pA);(try clear pB);(try clear pC);(try clear tA);(try clear qC);(try clear pG);(try clear pH);(try clear qD);(try clear qE);(try clear qF);(try clear Do);(try clear Dp);(try clear Dq);(try clear Dr);(try clear Ds);(try clear qJ);(try clear pK);(try clear wQ);(try clear wR);(try clear Dy);(try clear Dz)
     (try clear Ea);(try clear tD);(try clear tE);(try clear tF);(try clear tG);(try clear tH);(try clear wW);(try clear wX);(try clear wY);(try clear wZ);(try clear xA);(try clear Ee);(try clear Ef);(try clear Eg);(try clear Eh);(try clear Ei);(try clear jO);(try clear jP);(try clear lR);(try clear lS);(try clear lT)
     (try clear mH);(try clear mI);(try clear pW);(try clear pX);(try clear pY);(try clear lF);(try clear lG);(try clear lH);(try clear lI);(try clear lJ);(try clear nI);(try clear nJ);(try clear pD);(try clear pE);(try clear pF);(try clear tB);(try clear tC);(try clear pI);(try clear pJ);(try clear qG);(try clear qH)
     (try clear qI);(try clear Dt);(try clear Du);(try clear Dv);(try clear Dw);(try clear Dx);(try clear qK);(try clear qL);(try clear wS);(try clear wT);(try clear Eb);(try clear Ec);(try clear Ed);(try clear tI);(try clear tJ);(try clear tK);(try clear tL);(try clear tM);(try clear xB);(try clear xC);(try clear xD)
     (try clear xE);(try clear xF);(try clear Ej);(try clear Ek);(try clear El);(try clear Em);(try clear En);(try clear jQ);(try clear jR);(try clear lU);(try clear lV);(try clear lW);(try clear wU);(try clear wV);(try clear In);(try clear Io);(try clear nK);(try clear gJ);(try clear sZ);(try clear kR);(try clear qB)
     (try clear wP);(try clear vE);(try clear vF);(try clear Cs);(try clear Ip);(try clear Iq);(try clear Ct);(try clear p2);(try clear p48);(try clear p49);(try clear p500);(try clear p501);(try clear p502);(try clear p58);(try clear p6);(try clear q48);(try clear q49);(try clear q500);(try clear q501);(try clear q502);(try clear q58)
     obtain⟨dT,gI,u494004,rfl,HA,HK2,cS,cL,bM,dJ,bP,HB⟩:=hrel
     cases gk with
     |zero=>exact absurd HA.out (by simp [regletlaw14_Clear.l2])
     |succ k2=>
      have H:=HA.out;clear HA;simp only [regletlaw14_Clear.l2] at H
      by_cases c67:dT<(gI.length:Int)
      ·rw [if_pos c67] at H
       have Po:decide (dT<(gI.length:Int))=true:=decide_eq_true c67;clear c67;have H':=aM H;clear H;have hnb68:=gH.out;have hnc68:=eW.out;have Kf:wr.cell? ⟨cP,0,none⟩=some (.slice mD t482.length mE):=(aG bP.out 0).trans rfl;have Kg:wr.cell? ⟨cP,1,none⟩=some (u494001):=(aG bP.out 1).trans rfl;have Kh:wr.cell? ⟨cP,2,none⟩=some (.int .i64 t488):=(aG bP.out 2).trans rfl;have Ki:wr.cell? ⟨cP,3,none⟩=some (.int .i64 t489):=(aG bP.out 3).trans rfl;have Kj:wr.cell? ⟨cP,4,none⟩=some (u494004):=(aG bP.out 4).trans rfl;have Kk:=aH bP.out 0;have Kl:=aH bP.out 1;have Km:=aH bP.out 2;have Kn:=aH bP.out 3;have Ko:=aH bP.out 4;obtain⟨Rs,Rt,Kp⟩:=Kd.S_slice bM.out;subst Kp;go_wp2
       go_loopg [9] k2 (fun kq v9 w'=>∃(fO:Int) (bZ:List (S35)) (u494004:Value),v9= .int .i64 fO∧Aside0 (regletlaw14_Clear.l3 kq dT fO t482 cZ t488 t489 bZ=some (r1,r2,r3,r4,r5))∧Aside0 (kq≤k2)∧Aside0 (Kd.R Kd.string 9 w' w.heap.size (fun _=>True) (.slice mD t482.length mE) t482)∧Aside0 (Kd.R k72 72 w' w.heap.size (fun _=>True) u494001 cZ)∧Aside0 (Kd.S k35 35 w' w.heap.size (fun _=>True) u494004 bZ)∧Aside0 (w'.heap[fF]?=some (.cells #[(.slice none 0 0),(.slice none 0 0),.int .i64 0,.int .i64 0,(.slice none 0 0)] 26 (0,0)))∧Aside0 (w'.heap[cP]?=some (.cells #[(.slice mD t482.length mE),u494001,.int .i64 t488,.int .i64 t489,u494004] 26 (0,0)))∧Aside0 (Below w.heap.size w w'))
       case atStart=>exact⟨(0),(gI),(.slice Rs gI.length Rt),(by first|rfl|(simp;done)|(simp [*];done)),H',⟨Nat.le_refl _⟩,⟨gR cS.out⟩,⟨gR cL.out⟩,⟨gS bM.out⟩,⟨gB dJ.out⟩,⟨gB bP.out⟩,⟨gW HB.out⟩⟩
       case round=>
        clear H'
        (try clear c1);(try clear c2);(try clear p2);(try clear q2);(try clear c3);(try clear c4);(try clear p4);(try clear q4);(try clear hx4);(try clear qi4);(try clear hf4);(try clear c5);(try clear p5);(try clear q5);(try clear hx5);(try clear hf5);(try clear c6);(try clear p6);(try clear hx6);(try clear hf6);(try clear c7);(try clear c11);(try clear pQ);(try clear c12);(try clear c13);(try clear c19)
        (try clear c22);(try clear wI);(try clear c23);(try clear Dn);(try clear c24);(try clear wJ);(try clear c25);(try clear sP);(try clear q26);(try clear c27);(try clear c28);(try clear Pk);(try clear Pl);(try clear Pm);(try clear c29);(try clear c30);(try clear c33);(try clear c34);(try clear c38);(try clear c39);(try clear c42);(try clear c43);(try clear c46);(try clear zV);(try clear zW)
        (try clear c47);(try clear Im);(try clear Pn);(try clear c48);(try clear p48);(try clear q48);(try clear hx48);(try clear qi48);(try clear hf48);(try clear c49);(try clear p49);(try clear q49);(try clear hx49);(try clear hf49);(try clear c50);(try clear p50);(try clear q50);(try clear hx50);(try clear c53);(try clear hx53);(try clear hf53);(try clear c56);(try clear hx56);(try clear hf56);(try clear c58)
        (try clear p58);(try clear q58);(try clear hx58);(try clear hf58);(try clear c59);(try clear c62);(try clear hx62);(try clear hf62);(try clear c64);(try clear p64);(try clear c67);(try clear Po);(try clear c68);(try clear mF);(try clear mG);(try clear pT);(try clear pU);(try clear pV);(try clear lA);(try clear lB);(try clear lC);(try clear lD);(try clear lE)
        (try clear nG);(try clear nH);(try clear pA);(try clear pB);(try clear pC);(try clear tA);(try clear qC);(try clear pG);(try clear pH);(try clear qD);(try clear qE);(try clear qF);(try clear Do);(try clear Dp);(try clear Dq);(try clear Dr);(try clear Ds);(try clear qJ);(try clear pK);(try clear wQ);(try clear wR)
        (try clear Dy);(try clear Dz);(try clear Ea);(try clear tD);(try clear tE);(try clear tF);(try clear tG);(try clear tH);(try clear wW);(try clear wX);(try clear wY);(try clear wZ);(try clear xA);(try clear Ee);(try clear Ef);(try clear Eg);(try clear Eh);(try clear Ei);(try clear Kf);(try clear Kg);(try clear Kh)
        (try clear Ki);(try clear Kj);(try clear jO);(try clear jP);(try clear lR);(try clear lS);(try clear lT);(try clear mH);(try clear mI);(try clear pW);(try clear pX);(try clear pY);(try clear lF);(try clear lG);(try clear lH);(try clear lI);(try clear lJ);(try clear nI);(try clear nJ);(try clear pD);(try clear pE)
        (try clear pF);(try clear tB);(try clear tC);(try clear pI);(try clear pJ);(try clear qG);(try clear qH);(try clear qI);(try clear Dt);(try clear Du);(try clear Dv);(try clear Dw);(try clear Dx);(try clear qK);(try clear qL);(try clear wS);(try clear wT);(try clear Eb);(try clear Ec);(try clear Ed);(try clear tI)
        (try clear tJ);(try clear tK);(try clear tL);(try clear tM);(try clear xB);(try clear xC);(try clear xD);(try clear xE);(try clear xF);(try clear Ej);(try clear Ek);(try clear El);(try clear Em);(try clear En);(try clear Kk);(try clear Kl);(try clear Km);(try clear Kn);(try clear Ko);(try clear jQ);(try clear jR)
        (try clear lU);(try clear lV);(try clear lW);(try clear wU);(try clear wV);(try clear In);(try clear Io);(try clear nK);(try clear gJ);(try clear sZ);(try clear kR);(try clear qB);(try clear wP);(try clear vE);(try clear vF);(try clear Cs);(try clear Ip);(try clear Iq);(try clear Ct);(try clear p2);(try clear p4);(try clear p48)
        (try clear p49);(try clear p5);(try clear p50);(try clear p500);(try clear p501);(try clear p502);(try clear p58);(try clear p6);(try clear p64);(try clear q2);(try clear q26);(try clear q4);(try clear q48);(try clear q49);(try clear q5);(try clear q50);(try clear q500);(try clear q501);(try clear q502);(try clear q58)
        obtain⟨fO,bZ,u494004,rfl,HA,HK3,cS,cL,bM,dJ,bP,HB⟩:=hrel
        cases gk with
        |zero=>exact absurd HA.out (by simp [regletlaw14_Clear.l3])
        |succ k3=>
         have H:=HA.out;clear HA;simp only [regletlaw14_Clear.l3] at H
         by_cases c71:0≤dT
         rotate_left
         ·rw [if_neg c71] at H
          exact absurd H (by simp)
         rw [if_pos c71] at H;have Pp:decide (0≤dT)=true:=decide_eq_true c71;clear c71
         by_cases c72:dT<(bZ.length:Int)
         rotate_left
         ·rw [if_neg c72] at H
          exact absurd H (by simp)
         rw [if_pos c72] at H;have Pq:decide (dT<(bZ.length:Int))=true:=decide_eq_true c72;clear c72
         by_cases c73:fO<(((rd_T35 bZ dT).f1).length:Int)
         ·rw [if_pos c73] at H
          have Eo:decide (fO<(((rd_T35 bZ dT).f1).length:Int))=true:=decide_eq_true c73;clear c73
          by_cases c74:0≤fO
          rotate_left
          ·rw [if_neg c74] at H
           exact absurd H (by simp)
          rw [if_pos c74] at H;have Ir:decide (0≤fO)=true:=decide_eq_true c74;clear c74;obtain⟨bq75,hbq75⟩:∃b_:Bool,b_=((rd_T43 ((rd_T35 bZ dT).f1) fO).f0):=⟨_,rfl⟩;replace H:(if bq75=true then(if(cZ.length:Int)=0 then(none) else(regletlaw14_Clear.l3 k3 dT (wrap64 (fO+1)) t482 cZ t488 t489 (bZ.set (dT:Int).toNat (⟨(rd_T35 bZ dT).f0,(((rd_T35 bZ dT).f1).set (fO:Int).toNat (⟨bq75,Int.tmod ((rd_T43 ((rd_T35 bZ dT).f1) fO).f1) (cZ.length:Int)⟩:S43))⟩:S35)))) else(regletlaw14_Clear.l3 k3 dT (wrap64 (fO+1)) t482 cZ t488 t489 bZ))=some (r1,r2,r3,r4,r5):=by rw [←hbq75] at H;exact H
          have Nbq75:=aM hbq75;clear hbq75
          by_cases c76:bq75=true
          ·subst c76
           have H1:(if(cZ.length:Int)=0 then(none) else(regletlaw14_Clear.l3 k3 dT (wrap64 (fO+1)) t482 cZ t488 t489 (bZ.set (dT:Int).toNat (⟨(rd_T35 bZ dT).f0,(((rd_T35 bZ dT).f1).set (fO:Int).toNat (⟨true,Int.tmod ((rd_T43 ((rd_T35 bZ dT).f1) fO).f1) (cZ.length:Int)⟩:S43))⟩:S35))))=some (r1,r2,r3,r4,r5):=by rw [if_pos rfl] at H;exact H
           clear H;have H:=H1;clear H1
           by_cases c77:(cZ.length:Int)=0
           ·rw [if_pos c77] at H
            exact absurd H (by simp)
           rw [if_neg c77] at H;have IT:((cZ.length:Int)==0)=false:=beq_eq_false_iff_ne.mpr c77;have IU:((cZ.length:Int) !=0)=true:=bne_iff_ne.mpr c77;have IV:¬(cZ= []):=fun h_=>c77 (by rw [h_];rfl)
           obtain⟨y519,Ab⟩:∃y_:List (S43),y_=(((rd_T35 bZ dT).f1).set (fO:Int).toNat (⟨true,Int.tmod ((rd_T43 ((rd_T35 bZ dT).f1) fO).f1) (cZ.length:Int)⟩:S43)):=⟨_,rfl⟩;replace H:(regletlaw14_Clear.l3 k3 dT (wrap64 (fO+1)) t482 cZ t488 t489 (bZ.set (dT:Int).toNat (⟨(rd_T35 bZ dT).f0,y519⟩:S35)))=some (r1,r2,r3,r4,r5):=by first|(rw [Ab];with_reducible exact H)|(have H2_:=(Option.bind_some _ _).symm.trans H;rw [Ab];with_reducible exact H2_)|(have H2_:=(Option.bind_some _ _).symm.trans H;with_reducible exact H2_)|with_reducible exact H|(rw [Ab];exact H)|exact H
           have Ty:=aM Ab;clear Ab;obtain⟨y521,Ac⟩:∃y_:List (S35),y_=(bZ.set (dT:Int).toNat (⟨(rd_T35 bZ dT).f0,y519⟩:S35)):=⟨_,rfl⟩;replace H:(regletlaw14_Clear.l3 k3 dT (wrap64 (fO+1)) t482 cZ t488 t489 y521)=some (r1,r2,r3,r4,r5):=by first|(rw [Ac];with_reducible exact H)|(have H2_:=(Option.bind_some _ _).symm.trans H;rw [Ac];with_reducible exact H2_)|(have H2_:=(Option.bind_some _ _).symm.trans H;with_reducible exact H2_)|with_reducible exact H|(rw [Ac];exact H)|exact H
           have Tz:=aM Ac;clear Ac;have H':=aM H;clear H;have hnb79:=gH.out;have hnc79:=eW.out;have Yu:wr.cell? ⟨cP,0,none⟩=some (.slice mD t482.length mE):=(aG bP.out 0).trans rfl;have Yv:wr.cell? ⟨cP,1,none⟩=some (u494001):=(aG bP.out 1).trans rfl;have Yw:wr.cell? ⟨cP,2,none⟩=some (.int .i64 t488):=(aG bP.out 2).trans rfl;have Yx:wr.cell? ⟨cP,3,none⟩=some (.int .i64 t489):=(aG bP.out 3).trans rfl;have Yy:wr.cell? ⟨cP,4,none⟩=some (u494004):=(aG bP.out 4).trans rfl;have Yz:=aH bP.out 0;have Za:=aH bP.out 1;have Zb:=aH bP.out 2;have Zc:=aH bP.out 3;have Zd:=aH bP.out 4;obtain⟨KE,Ua,ER⟩:=Kd.S_slice bM.out;subst ER;have p513:0≤(dT:Int):=of_decide_eq_true (by first|(with_reducible assumption)|assumption);have q513:dT<(bZ.length:Int):=of_decide_eq_true (by first|(with_reducible assumption)|assumption);obtain⟨kY,Is,It,e513,Ep,kS,mJ,mK⟩:=at_T35 (Kd.S_reads' bM.out).2.2 dT p513 q513
           cases e513;obtain⟨ce513,hce513,hMe513,hcc513⟩:=Kd.S_get bM.out z35 dT p513 (by first|exact q513|exact of_decide_eq_true (by first|(with_reducible assumption)|assumption)|(have e_:=(Kd.S_reads' bM.out).1;omega));obtain⟨ve513_1,rfl,ge513_1⟩:=k35_openM hMe513;have hv513_1:=hcc513 1 _ rfl;rw [add_field _ _ 1 (by omega)] at hv513_1;replace hv513_1:=Option.some.inj (hv513_1.symm.trans kS);rw [hv513_1] at ge513_1;have HL513_1:=aM (show Kd.R k43 43 _ _ _ _ ((rd_T35 bZ dT).f1) from ge513_1);clear hv513_1 ge513_1;have HX513_1:=aM kS;clear hcc513 hce513;have pL:=aM mK;have Eq:=aM mJ;clear mK mJ;replace p513:=eq_true p513;replace q513:=eq_true q513;have p514:0≤(dT:Int):=of_decide_eq_true (by first|(with_reducible assumption)|assumption);have q514:dT<(bZ.length:Int):=of_decide_eq_true (by first|(with_reducible assumption)|assumption);obtain⟨Iu,Ru,Rv,e514,Kq,nL,qM,qN⟩:=at_T35 (Kd.S_reads' bM.out).2.2 dT p514 q514;obtain rfl:kY=Iu:=(by injection e514);obtain⟨ce514,hce514,hMe514,hcc514⟩:=Kd.S_get bM.out z35 dT p514 (by first|exact q514|exact of_decide_eq_true (by first|(with_reducible assumption)|assumption)|(have e_:=(Kd.S_reads' bM.out).1;omega));obtain⟨ve514_1,rfl,ge514_1⟩:=k35_openM hMe514;have hv514_1:=hcc514 1 _ rfl;rw [add_field _ _ 1 (by omega)] at hv514_1;replace hv514_1:=Option.some.inj (hv514_1.symm.trans nL);rw [hv514_1] at ge514_1;have HL514_1:=aM (show Kd.R k43 43 _ _ _ _ ((rd_T35 bZ dT).f1) from ge514_1);clear hv514_1 ge514_1;have HX514_1:=aM nL;clear hcc514 hce514;have lK:=aM qN;have Kr:=aM qM;clear qN qM;replace p514:=eq_true p514;replace q514:=eq_true q514;have ea_:=Option.some.inj (kS.symm.trans nL);injection ea_ with ea_ en_ ec_
           subst ea_;subst ec_;clear en_;have p515:0≤(fO:Int):=of_decide_eq_true (by first|(with_reducible assumption)|assumption);have q515:fO<(((rd_T35 bZ dT).f1).length:Int):=of_decide_eq_true (by first|(with_reducible assumption)|assumption);obtain⟨Ub,e515,xG,Ks⟩:=at_T43 (by repeat(first|(with_reducible exact lK.out)|(with_reducible refine Kd.C_alloc ?_ _)|(with_reducible refine Kd.C_drewN ?_ _)|(with_reducible refine bC ?_)|exact lK.out)) fO p515 q515
           (try rw [←Nbq75.out] at xG)
           cases e515;replace p515:=eq_true p515;replace q515:=eq_true q515
           try go_wp2
           have cH:=aM (aC cS.out);have cI:=aM (aC cL.out);have cK:=aM (aW bM.out);have cQ:=aM (aC HL513_1.out);have dI:=aM (aC HL514_1.out);have dR:=aM (aK dJ.out);have dV:=aM (aK bP.out);have eV:=aM (bC pL.out);have fV:=aM (bC lK.out);have gQ:=aM (aO HB.out);clear cS cL bM HL513_1 HL514_1 dJ bP pL lK HB;have cS:=cH;have cL:=cI;have bM:=cK;have HL513_1:=cQ;have HL514_1:=dI;have dJ:=dR;have bP:=dV;have pL:=eV;have lK:=fV;have HB:=gQ;clear cH cI cK cQ dI dR dV eV fV gQ;have p516:0≤(dT:Int):=of_decide_eq_true (by first|(with_reducible assumption)|assumption);have q516:dT<(bZ.length:Int):=of_decide_eq_true (by first|(with_reducible assumption)|assumption);obtain⟨Uc,ES,Iv,e516,Er,qO,Es,Et⟩:=at_T35 (Kd.S_reads' bM.out).2.2 dT p516 q516;obtain rfl:kY=Uc:=(by injection e516);obtain⟨ce516,hce516,hMe516,hcc516⟩:=Kd.S_get bM.out z35 dT p516 (by first|exact q516|exact of_decide_eq_true (by first|(with_reducible assumption)|assumption)|(have e_:=(Kd.S_reads' bM.out).1;omega));obtain⟨ve516_1,rfl,ge516_1⟩:=k35_openM hMe516;have hv516_1:=hcc516 1 _ rfl;rw [add_field _ _ 1 (by omega)] at hv516_1;replace hv516_1:=Option.some.inj (hv516_1.symm.trans qO);rw [hv516_1] at ge516_1;have HL516_1:=aM (show Kd.R k43 43 _ _ _ _ ((rd_T35 bZ dT).f1) from ge516_1);clear hv516_1 ge516_1;have HX516_1:=aM qO;clear hcc516 hce516;have xH:=aM Et;have Ze:=aM Es;clear Et Es;replace p516:=eq_true p516;replace q516:=eq_true q516;have p517:0≤(dT:Int):=of_decide_eq_true (by first|(with_reducible assumption)|assumption);have q517:dT<(bZ.length:Int):=of_decide_eq_true (by first|(with_reducible assumption)|assumption);obtain⟨Ud,ET,EU,e517,Eu,qP,Ew,Ex⟩:=at_T35 (Kd.S_reads' bM.out).2.2 dT p517 q517;obtain rfl:kY=Ud:=(by injection e517);obtain⟨ce517,hce517,hMe517,hcc517⟩:=Kd.S_get bM.out z35 dT p517 (by first|exact q517|exact of_decide_eq_true (by first|(with_reducible assumption)|assumption)|(have e_:=(Kd.S_reads' bM.out).1;omega));obtain⟨ve517_1,rfl,ge517_1⟩:=k35_openM hMe517;have hv517_1:=hcc517 1 _ rfl;rw [add_field _ _ 1 (by omega)] at hv517_1;replace hv517_1:=Option.some.inj (hv517_1.symm.trans qP);rw [hv517_1] at ge517_1;have HL517_1:=aM (show Kd.R k43 43 _ _ _ _ ((rd_T35 bZ dT).f1) from ge517_1);clear hv517_1 ge517_1;have HX517_1:=aM qP;clear hcc517 hce517;have xI:=aM Ex;have Zf:=aM Ew;clear Ex Ew;replace p517:=eq_true p517;replace q517:=eq_true q517;have ea_:=Option.some.inj (qO.symm.trans qP);injection ea_ with ea_ en_ ec_
           subst ea_;subst ec_;clear en_;have p518:0≤(fO:Int):=of_decide_eq_true (by first|(with_reducible assumption)|assumption);have q518:fO<(((rd_T35 bZ dT).f1).length:Int):=of_decide_eq_true (by first|(with_reducible assumption)|assumption);obtain⟨IW,e518,tN,xJ⟩:=at_T43 (by repeat(first|(with_reducible exact xI.out)|(with_reducible refine Kd.C_alloc ?_ _)|(with_reducible refine Kd.C_drewN ?_ _)|(with_reducible refine bC ?_)|exact xI.out)) fO p518 q518
           (try rw [←Nbq75.out] at tN)
           cases e518;replace p518:=eq_true p518;replace q518:=eq_true q518;obtain⟨EV,EW,Ue⟩:=Kd.R_slice cL.out
           (first|subst Ue|(injection Ue with f1_ f2_ f3_;have f4_:=f1_.symm;have f5_:=f3_.symm;clear f1_ f2_ f3_;subst f4_;subst f5_))
           have p78:0≤(fO:Int):=of_decide_eq_true (by first|(with_reducible assumption)|assumption);have q78:(fO:Int)<((((rd_T35 bZ dT).f1).length:Int):Int):=of_decide_eq_true (by first|(with_reducible assumption)|assumption);obtain⟨go78,KF,Uf,Ug,gl78,cl78,HG78⟩:=Kd.R_form HL516_1.out (by omega)
           (first|cases Uf|(injection Uf with ea_ en_ ec_;(first|subst ea_|(injection ea_ with ea_;subst ea_));subst ec_;clear en_))
           have GB78:=aM Ug;have GG78:=aM HG78;clear Ug gl78 HG78
           (first|simp only [add_plain] at tN|skip)
           (first|simp only [add_plain] at xJ|skip)
           obtain⟨ce78,hcl78,hM78,hcc78,hfr78⟩:=Kd.R_elem HL516_1.out z43 (fO:Int) p78 q78;obtain rfl:=k43_openM hM78;have Rw:World.cell? _ ⟨go78,(fO:Int).toNat * 2,none⟩=some (.bool ((rd_T43 ((rd_T35 bZ dT).f1) fO).f0)):=hcc78 0 _ rfl;have Rx:World.cell? _ ⟨go78,(fO:Int).toNat * 2+1,none⟩=some (.int .i64 ((rd_T43 ((rd_T35 bZ dT).f1) fO).f1)):=hcc78 1 _ rfl;have hf78_0:World.frozen? _ ⟨go78,(fO:Int).toNat * 2,none⟩=false:=hfr78 0;have hf78_1:World.frozen? _ ⟨go78,(fO:Int).toNat * 2+1,none⟩=false:=hfr78 1;clear hcl78 hcc78 hfr78;(try clear hM78);replace p78:=eq_true p78;replace q78:=eq_true q78;have hq84:(dT:Int)<(bZ.length:Int):=(by have h_:(dT:Int)<((bZ.length:Int):Int):=of_decide_eq_true (by first|(with_reducible assumption)|assumption);first|exact h_|(have e_:=(Kd.S_reads' bM.out).1;omega)|simpa only [List.length_set,List.length_set] using h_);obtain⟨oki84,ce84,hcl84,hM84,hcc84,hok84,hbk84⟩:=Kd.S_borrow bM.out z35 (dT:Int) (of_decide_eq_true (by first|(with_reducible assumption)|assumption)) hq84;obtain⟨ve84_1,rfl,ge84_1⟩:=k35_openM hM84;have hv84:=hcc84 1 _ rfl;rw [add_field _ _ 1 (by omega)] at hv84;replace hv84:=Option.some.inj (hv84.symm.trans HX516_1.out);subst hv84;clear hcc84 hcl84;replace ge84_1:=(show Kd.R k43 43 _ _ _ _ ((rd_T35 bZ dT).f1) from ge84_1);obtain⟨cf84,hcl84,hN84,hcc84,hfr84⟩:=Kd.R_elem ge84_1 z43 (fO:Int) (of_decide_eq_true (by first|(with_reducible assumption)|assumption)) (by have h_:(fO:Int)<((((rd_T35 bZ dT).f1).length:Int):Int):=of_decide_eq_true (by first|(with_reducible assumption)|assumption);first|exact h_|(have e_:=(aF xH.out).1;omega)|simpa using h_);obtain rfl:=k43_openM hN84;have HP84:=Kd.R_seg ge84_1 (fO:Int) (of_decide_eq_true (by first|(with_reducible assumption)|assumption)) (by have h_:(fO:Int)<((((rd_T35 bZ dT).f1).length:Int):Int):=of_decide_eq_true (by first|(with_reducible assumption)|assumption);first|exact h_|(have e_:=(aF xH.out).1;omega)|simpa using h_) (seg:= [.int .i64 (Int.tmod ((rd_T43 ((rd_T35 bZ dT).f1) fO).f1) (cZ.length:Int))]) (j:=1) hcl84 hcc84 (show 2≤2 from by decide) (x':=(⟨true,Int.tmod ((rd_T43 ((rd_T35 bZ dT).f1) fO).f1) (cZ.length:Int)⟩:S43)) (by have e_:(((rd_T35 bZ dT).f1).getD (fO:Int).toNat z43).f0=true:=Nbq75.out.symm;rw [e_];exact(k43_mkM _ _ _ (⟨true,Int.tmod ((rd_T43 ((rd_T35 bZ dT).f1) fO).f1) (cZ.length:Int)⟩:S43))) (fun _ hk=>hk);clear hcl84 hcc84 hfr84 hN84;rw [←Ty.out] at HP84;have HS84:=hbk84 HP84.2 (fun k_ e_=>by injection e_ with e_;subst e_;exact ge84_1.1 _ rfl) (x':=(⟨(rd_T35 bZ dT).f0,y519⟩:S35)) (k35_mkM _ _ _ (⟨(rd_T35 bZ dT).f0,y519⟩:S35) HP84.1)
           rw [←Tz.out] at HS84;have HQ84:=aM HS84;clear HP84 HS84 hbk84 hok84;refine start_ (n:=24) (S:=fun w'=>w'.cell? ⟨cP,0,none⟩=some (.slice mD t482.length mE)∧w'.cell? ⟨cP,1,none⟩=some (.slice EV cZ.length EW)∧w'.cell? ⟨cP,2,none⟩=some (.int .i64 t488)∧w'.cell? ⟨cP,3,none⟩=some (.int .i64 t489)∧w'.cell? ⟨cP,4,none⟩=some (.slice (some kY) bZ.length Ua)∧w'.cell? (kY.add ((dT).toNat * 2))=some (.int .i64 ((rd_T35 bZ dT).f0))∧w'.cell? ⟨(kY.add ((dT).toNat * 2)).block,(kY.add ((dT).toNat * 2)).off+1,none⟩=some (.slice (some (⟨go78,0,none⟩:Addr)) ((rd_T35 bZ dT).f1).length Iv)∧w'.cell? (kY.add ((dT).toNat * 2))=some (.int .i64 ((rd_T35 bZ dT).f0))∧w'.cell? ⟨(kY.add ((dT).toNat * 2)).block,(kY.add ((dT).toNat * 2)).off+1,none⟩=some (.slice (some (⟨go78,0,none⟩:Addr)) ((rd_T35 bZ dT).f1).length Iv)∧w'.cell? ⟨go78,((fO).toNat * 2),none⟩=some (.bool (true))∧w'.cell? ⟨go78,((fO).toNat * 2)+1,none⟩=some (.int .i64 ((rd_T43 ((rd_T35 bZ dT).f1) fO).f1))) (ds:= [23]) #[F,F,F,F,F,F,F,F,F,F,F,F,F,F,F,F,F,F,F,F,F,F,F,F] (by kernel_rfl) rfl rfl ⟨(aG bP.out 0).trans rfl,(aG bP.out 1).trans rfl,(aG bP.out 2).trans rfl,(aG bP.out 3).trans rfl,(aG bP.out 4).trans rfl,Er,qO,Eu,qP,tN,xJ⟩ (fun hHeld=>?_);refine with_tabW regletlaw14_Clear.tab25 regletlaw14_Clear.bits25 (fun HT_ HW_=>?_)
           generalize wr.drew=w82 at cS cL bM HL513_1 HL514_1 dJ bP pL lK HB GG78 HL516_1 HL517_1 HQ84 xH xI HX516_1 HX517_1 hf78_0 hf78_1 Er qO Eu qP tN xJ Rw Rx hHeld ⊢;refine pure_ (i:=0) (N:=some 104) (v:=?_) (a':=?_) #[T,F,F,F,F,F,F,F,F,F,F,F,F,F,F,F,F,F,F,F,F,F,F,F] rfl rfl (any_of HT_.out (by kernel_rfl)) (fun _ _ _ h=>h) (Or.inl ⟨by rfl,?_⟩) ?_ ?_
           rotate_left;(intro w';go_simp;with_reducible rfl);rotate_left;(simp only [pq];rfl)
           refine pure_ (i:=2) (N:=some 106) (v:=?_) (a':=?_) #[T,F,T,F,F,F,F,F,F,F,F,F,F,F,F,F,F,F,F,F,F,F,F,F] rfl rfl (any_of HT_.out (by kernel_rfl)) (fun _ _ _ h=>h) (Or.inl ⟨by rfl,?_⟩) ?_ ?_
           rotate_left;(intro w';go_simp;with_reducible rfl);rotate_left;(simp only [pq];rfl)
           refine pure_ (i:=6) (N:=some 110) (v:=?_) (a':=?_) #[T,F,T,F,F,F,T,F,F,F,F,F,F,F,F,F,F,F,F,F,F,F,F,F] rfl rfl (any_of HT_.out (by kernel_rfl)) (fun _ _ _ h=>h) (Or.inl ⟨by rfl,?_⟩) ?_ ?_
           rotate_left;(intro w';go_simp;with_reducible rfl);rotate_left;(simp only [pq];rfl)
           refine pure_ (i:=7) (N:=some 111) (v:=?_) (a':=?_) #[T,F,T,F,F,F,T,T,F,F,F,F,F,F,F,F,F,F,F,F,F,F,F,F] rfl rfl (any_of HT_.out (by kernel_rfl)) (fun _ _ _ h=>h) (Or.inl ⟨by rfl,?_⟩) ?_ ?_
           rotate_left;(intro w';go_simp;with_reducible rfl);rotate_left;(simp only [pq];rfl)
           refine pure_ (i:=9) (N:=some 113) (v:=?_) (a':=?_) #[T,F,T,F,F,F,T,T,F,T,F,F,F,F,F,F,F,F,F,F,F,F,F,F] rfl rfl (any_of HT_.out (by kernel_rfl)) (fun _ _ _ h=>h) (Or.inl ⟨by rfl,?_⟩) ?_ ?_
           rotate_left;(intro w';go_simp;with_reducible rfl);rotate_left;(simp only [pq];rfl)
           refine pure_ (i:=13) (N:=some 117) (v:=?_) (a':=?_) #[T,F,T,F,F,F,T,T,F,T,F,F,F,T,F,F,F,F,F,F,F,F,F,F] rfl rfl (any_of HT_.out (by kernel_rfl)) (fun _ _ _ h=>h) (Or.inl ⟨by rfl,?_⟩) ?_ ?_
           rotate_left;(intro w';go_simp;with_reducible rfl);rotate_left;(simp only [pq];rfl)
           refine pure_ (i:=17) (N:=some 121) (v:=?_) (a':=?_) #[T,F,T,F,F,F,T,T,F,T,F,F,F,T,F,F,F,T,F,F,F,F,F,F] rfl rfl (any_of HT_.out (by kernel_rfl)) (fun _ _ _ h=>h) (Or.inl ⟨by rfl,?_⟩) ?_ ?_
           rotate_left;(intro w';go_simp;with_reducible rfl);rotate_left;(simp only [pq];rfl)
           refine take_ (i:=1) (N:=some 105) (v:=?_) (a':=?_) #[T,T,T,F,F,F,T,T,F,T,F,F,F,T,F,F,F,T,F,F,F,F,F,F] rfl rfl (take_ofW HT_.out HW_.out (by kernel_rfl)) (fun _ _ _ h=>h) (Or.inl ⟨by rfl,?_⟩) hHeld ?_ ?_
           rotate_left
           ·rintro w' ⟨s0,s1,s2,s3,s4,s5,s6,s7,s8,s9,s10⟩
            go_simp
            with_reducible rfl
           rotate_left
           ·simp only [pq]
            rfl
           refine pure_ (i:=3) (N:=some 107) (v:=?_) (a':=?_) #[T,T,T,T,F,F,T,T,F,T,F,F,F,T,F,F,F,T,F,F,F,F,F,F] rfl rfl (any_of HT_.out (by kernel_rfl)) (fun _ _ _ h=>h) (Or.inl ⟨by rfl,?_⟩) ?_ ?_
           rotate_left;(intro w';go_simp;with_reducible rfl);rotate_left;(simp only [pq];rfl)
           refine pure_ (i:=4) (N:=some 108) (v:=?_) (a':=?_) #[T,T,T,T,T,F,T,T,F,T,F,F,F,T,F,F,F,T,F,F,F,F,F,F] rfl rfl (any_of HT_.out (by kernel_rfl)) (fun _ _ _ h=>h) (Or.inl ⟨by rfl,?_⟩) ?_ ?_
           rotate_left;(intro w';go_simp;with_reducible rfl);rotate_left;(simp only [pq];rfl)
           refine take_ (i:=5) (N:=some 109) (v:=?_) (a':=?_) #[T,T,T,T,T,T,T,T,F,T,F,F,F,T,F,F,F,T,F,F,F,F,F,F] rfl rfl (take_ofW HT_.out HW_.out (by kernel_rfl)) (fun _ _ _ h=>h) (Or.inl ⟨by rfl,?_⟩) hHeld ?_ ?_
           rotate_left
           ·rintro w' ⟨s0,s1,s2,s3,s4,s5,s6,s7,s8,s9,s10⟩
            go_simp
            with_reducible rfl
           rotate_left
           ·simp only [pq]
            rfl
           refine take_ (i:=8) (N:=some 112) (v:=?_) (a':=?_) #[T,T,T,T,T,T,T,T,T,T,F,F,F,T,F,F,F,T,F,F,F,F,F,F] rfl rfl (take_ofW HT_.out HW_.out (by kernel_rfl)) (fun _ _ _ h=>h) (Or.inl ⟨by rfl,?_⟩) hHeld ?_ ?_
           rotate_left
           ·rintro w' ⟨s0,s1,s2,s3,s4,s5,s6,s7,s8,s9,s10⟩
            go_simp
            with_reducible rfl
           rotate_left
           ·simp only [pq]
            rfl
           refine pure_ (i:=10) (N:=some 114) (v:=?_) (a':=?_) #[T,T,T,T,T,T,T,T,T,T,T,F,F,T,F,F,F,T,F,F,F,F,F,F] rfl rfl (any_of HT_.out (by kernel_rfl)) (fun _ _ _ h=>h) (Or.inl ⟨by rfl,?_⟩) ?_ ?_
           rotate_left;(intro w';go_simp;with_reducible rfl);rotate_left;(simp only [pq];rfl)
           refine pure_ (i:=11) (N:=some 115) (v:=?_) (a':=?_) #[T,T,T,T,T,T,T,T,T,T,T,T,F,T,F,F,F,T,F,F,F,F,F,F] rfl rfl (any_of HT_.out (by kernel_rfl)) (fun _ _ _ h=>h) (Or.inl ⟨by rfl,?_⟩) ?_ ?_
           rotate_left;(intro w';go_simp;with_reducible rfl);rotate_left;(simp only [pq];rfl)
           refine take_ (i:=12) (N:=some 116) (v:=?_) (a':=?_) #[T,T,T,T,T,T,T,T,T,T,T,T,T,T,F,F,F,T,F,F,F,F,F,F] rfl rfl (take_ofW HT_.out HW_.out (by kernel_rfl)) (fun _ _ _ h=>h) (Or.inl ⟨by rfl,?_⟩) hHeld ?_ ?_
           rotate_left
           ·rintro w' ⟨s0,s1,s2,s3,s4,s5,s6,s7,s8,s9,s10⟩
            go_simp
            with_reducible rfl
           rotate_left
           ·simp only [pq]
            rfl
           refine pure_ (i:=14) (N:=some 118) (v:=?_) (a':=?_) #[T,T,T,T,T,T,T,T,T,T,T,T,T,T,T,F,F,T,F,F,F,F,F,F] rfl rfl (any_of HT_.out (by kernel_rfl)) (fun _ _ _ h=>h) (Or.inl ⟨by rfl,?_⟩) ?_ ?_
           rotate_left;(intro w';go_simp;with_reducible rfl);rotate_left;(simp only [pq];rfl)
           refine pure_ (i:=15) (N:=some 119) (v:=?_) (a':=?_) #[T,T,T,T,T,T,T,T,T,T,T,T,T,T,T,T,F,T,F,F,F,F,F,F] rfl rfl (any_of HT_.out (by kernel_rfl)) (fun _ _ _ h=>h) (Or.inl ⟨by rfl,?_⟩) ?_ ?_
           rotate_left;(intro w';go_simp;with_reducible rfl);rotate_left;(simp only [pq];rfl)
           refine take_ (i:=16) (N:=some 120) (v:=?_) (a':=?_) #[T,T,T,T,T,T,T,T,T,T,T,T,T,T,T,T,T,T,F,F,F,F,F,F] rfl rfl (take_ofW HT_.out HW_.out (by kernel_rfl)) (fun _ _ _ h=>h) (Or.inl ⟨by rfl,?_⟩) hHeld ?_ ?_
           rotate_left
           ·rintro w' ⟨s0,s1,s2,s3,s4,s5,s6,s7,s8,s9,s10⟩
            go_simp
            with_reducible rfl
           rotate_left
           ·simp only [pq]
            rfl
           refine take_ (i:=18) (N:=some 122) (v:=?_) (a':=?_) #[T,T,T,T,T,T,T,T,T,T,T,T,T,T,T,T,T,T,T,F,F,F,F,F] rfl rfl (take_ofW HT_.out HW_.out (by kernel_rfl)) (fun _ _ _ h=>h) (Or.inl ⟨by rfl,?_⟩) hHeld ?_ ?_
           rotate_left
           ·rintro w' ⟨s0,s1,s2,s3,s4,s5,s6,s7,s8,s9,s10⟩
            go_simp
            with_reducible rfl
           rotate_left
           ·simp only [pq]
            rfl
           refine pure_ (i:=19) (N:=some 123) (v:=?_) (a':=?_) #[T,T,T,T,T,T,T,T,T,T,T,T,T,T,T,T,T,T,T,T,F,F,F,F] rfl rfl (any_of HT_.out (by kernel_rfl)) (fun _ _ _ h=>h) (Or.inl ⟨by rfl,?_⟩) ?_ ?_
           rotate_left;(intro w';go_simp;with_reducible rfl);rotate_left;(simp only [pq];rfl)
           refine pure_ (i:=20) (N:=some 124) (v:=?_) (a':=?_) #[T,T,T,T,T,T,T,T,T,T,T,T,T,T,T,T,T,T,T,T,T,F,F,F] rfl rfl (any_of HT_.out (by kernel_rfl)) (fun _ _ _ h=>h) (Or.inl ⟨by rfl,?_⟩) ?_ ?_
           rotate_left;(intro w';go_simp;with_reducible rfl);rotate_left;(simp only [pq];rfl)
           refine pure_ (i:=21) (N:=some 125) (v:=?_) (a':=?_) #[T,T,T,T,T,T,T,T,T,T,T,T,T,T,T,T,T,T,T,T,T,T,F,F] rfl rfl (any_of HT_.out (by kernel_rfl)) (fun _ _ _ h=>h) (Or.inl ⟨by rfl,?_⟩) ?_ ?_
           rotate_left;(intro w';go_simp;with_reducible rfl);rotate_left;(simp only [pq];rfl)
           refine pure_ (i:=22) (N:=some 126) (v:=?_) (a':=?_) #[T,T,T,T,T,T,T,T,T,T,T,T,T,T,T,T,T,T,T,T,T,T,T,F] rfl rfl (any_of HT_.out (by kernel_rfl)) (fun _ _ _ h=>h) (Or.inl ⟨by rfl,?_⟩) ?_ ?_
           rotate_left;(intro w';go_simp;with_reducible rfl);rotate_left;(simp only [pq];rfl)
           refine last_ (i:=23) (N:=none) #[T,T,T,T,T,T,T,T,T,T,T,T,T,T,T,T,T,T,T,T,T,T,T,T] rfl rfl (one_of HT_.out (by kernel_rfl)) (by decide) (fun K hK=>?_)
           refine skip_ (w1:=?_) (by rfl) rfl ?_ ?_
           rotate_left
           ·go_simp
            rfl
           refine hK.out _ _ ?_
           clear hK K;refine done_ (done_of HT_.out (by kernel_rfl)) ?_
           try go_wp2
           go_roundg k3
           case measure=>have:=HK1.out;have:=HK2.out;have:=HK3.out;omega
           case rel=>exact⟨(wrap64 (fO+1)),(y521),(.slice (some kY) bZ.length Ua),(by first|rfl|(simp;done)|(simp [*];done)),H',⟨by have:=HK1.out;have:=HK2.out;have:=HK3.out;omega⟩,⟨by(with_reducible repeat(first|apply aA|apply aB|apply aC));exact Kd.R_mono (aE (p:=⟨go78,(fO:Int).toNat * 2+1,none⟩) (Kd.R_types cS.out GG78.out (by decide)) (fun _ hk=>hk.2) (.int .i64 (Int.tmod ((rd_T43 ((rd_T35 bZ dT).f1) fO).f1) (cZ.length:Int)))) (fun _ hk=>trivial)⟩,⟨by(with_reducible repeat(first|apply aA|apply aB|apply aC));exact Kd.R_mono (aE (p:=⟨go78,(fO:Int).toNat * 2+1,none⟩) (Kd.R_types cL.out GG78.out (by decide)) (fun _ hk=>hk.2) (.int .i64 (Int.tmod ((rd_T43 ((rd_T35 bZ dT).f1) fO).f1) (cZ.length:Int)))) (fun _ hk=>trivial)⟩,⟨by(with_reducible repeat(first|apply Kd.S_alloc|apply aV|apply aW));exact HQ84.out⟩,⟨by(with_reducible repeat(first|refine aJ ?_ _|refine aK ?_|refine aI ?_ _));refine blk_far ?_ (by have h_:=Kd.R_ne HL516_1.out dJ.out (by decide);intro e_;exact h_ (by rw [e_];rfl)) _;(with_reducible repeat(first|refine aJ ?_ _|refine aK ?_|refine aI ?_ _));exact dJ.out⟩,⟨by(with_reducible repeat(first|refine aJ ?_ _|refine aK ?_|refine aI ?_ _));refine blk_far ?_ (by have h_:=Kd.R_ne HL516_1.out bP.out (by decide);intro e_;exact h_ (by rw [e_];rfl)) _;(with_reducible repeat(first|refine aJ ?_ _|refine aK ?_|refine aI ?_ _));exact bP.out⟩,⟨by repeat(first|(with_reducible first|exact HB.out|apply aN|apply aP|apply aO|refine aL ?_ GB78.out|refine aL ?_ sN.out|refine aL ?_ sO.out)|exact HB.out)⟩⟩
          ·replace c76:=Bool.eq_false_iff.mpr c76
           subst c76;have H1:(regletlaw14_Clear.l3 k3 dT (wrap64 (fO+1)) t482 cZ t488 t489 bZ)=some (r1,r2,r3,r4,r5):=by rw [if_neg (show ¬(false=true) by decide)] at H;exact H
           clear H;have H:=H1;clear H1;have H':=aM H;clear H;have hnb86:=gH.out;have hnc86:=eW.out;have Zg:wr.cell? ⟨cP,0,none⟩=some (.slice mD t482.length mE):=(aG bP.out 0).trans rfl;have Zh:wr.cell? ⟨cP,1,none⟩=some (u494001):=(aG bP.out 1).trans rfl;have Zi:wr.cell? ⟨cP,2,none⟩=some (.int .i64 t488):=(aG bP.out 2).trans rfl;have Zj:wr.cell? ⟨cP,3,none⟩=some (.int .i64 t489):=(aG bP.out 3).trans rfl;have Zk:wr.cell? ⟨cP,4,none⟩=some (u494004):=(aG bP.out 4).trans rfl;have Zl:=aH bP.out 0;have Zm:=aH bP.out 1;have Zn:=aH bP.out 2;have Zo:=aH bP.out 3;have Zp:=aH bP.out 4;obtain⟨KG,EY,EZ⟩:=Kd.S_slice bM.out;subst EZ;have p513:0≤(dT:Int):=of_decide_eq_true (by first|(with_reducible assumption)|assumption);have q513:dT<(bZ.length:Int):=of_decide_eq_true (by first|(with_reducible assumption)|assumption);obtain⟨kY,Is,It,e513,Ep,kS,mJ,mK⟩:=at_T35 (Kd.S_reads' bM.out).2.2 dT p513 q513
           cases e513;obtain⟨ce513,hce513,hMe513,hcc513⟩:=Kd.S_get bM.out z35 dT p513 (by first|exact q513|exact of_decide_eq_true (by first|(with_reducible assumption)|assumption)|(have e_:=(Kd.S_reads' bM.out).1;omega));obtain⟨ve513_1,rfl,ge513_1⟩:=k35_openM hMe513;have hv513_1:=hcc513 1 _ rfl;rw [add_field _ _ 1 (by omega)] at hv513_1;replace hv513_1:=Option.some.inj (hv513_1.symm.trans kS);rw [hv513_1] at ge513_1;have HL513_1:=aM (show Kd.R k43 43 _ _ _ _ ((rd_T35 bZ dT).f1) from ge513_1);clear hv513_1 ge513_1;have HX513_1:=aM kS;clear hcc513 hce513;have pL:=aM mK;have Eq:=aM mJ;clear mK mJ;replace p513:=eq_true p513;replace q513:=eq_true q513;have p514:0≤(dT:Int):=of_decide_eq_true (by first|(with_reducible assumption)|assumption);have q514:dT<(bZ.length:Int):=of_decide_eq_true (by first|(with_reducible assumption)|assumption);obtain⟨Iu,Ru,Rv,e514,Kq,nL,qM,qN⟩:=at_T35 (Kd.S_reads' bM.out).2.2 dT p514 q514;obtain rfl:kY=Iu:=(by injection e514);obtain⟨ce514,hce514,hMe514,hcc514⟩:=Kd.S_get bM.out z35 dT p514 (by first|exact q514|exact of_decide_eq_true (by first|(with_reducible assumption)|assumption)|(have e_:=(Kd.S_reads' bM.out).1;omega));obtain⟨ve514_1,rfl,ge514_1⟩:=k35_openM hMe514;have hv514_1:=hcc514 1 _ rfl;rw [add_field _ _ 1 (by omega)] at hv514_1;replace hv514_1:=Option.some.inj (hv514_1.symm.trans nL);rw [hv514_1] at ge514_1;have HL514_1:=aM (show Kd.R k43 43 _ _ _ _ ((rd_T35 bZ dT).f1) from ge514_1);clear hv514_1 ge514_1;have HX514_1:=aM nL;clear hcc514 hce514;have lK:=aM qN;have Kr:=aM qM;clear qN qM;replace p514:=eq_true p514;replace q514:=eq_true q514;have ea_:=Option.some.inj (kS.symm.trans nL);injection ea_ with ea_ en_ ec_
           subst ea_;subst ec_;clear en_;have p515:0≤(fO:Int):=of_decide_eq_true (by first|(with_reducible assumption)|assumption);have q515:fO<(((rd_T35 bZ dT).f1).length:Int):=of_decide_eq_true (by first|(with_reducible assumption)|assumption);obtain⟨Ub,e515,xG,Ks⟩:=at_T43 (by repeat(first|(with_reducible exact lK.out)|(with_reducible refine Kd.C_alloc ?_ _)|(with_reducible refine Kd.C_drewN ?_ _)|(with_reducible refine bC ?_)|exact lK.out)) fO p515 q515
           (try rw [←Nbq75.out] at xG)
           cases e515;replace p515:=eq_true p515;replace q515:=eq_true q515;go_wp2
           go_roundg k3
           case measure=>have:=HK1.out;have:=HK2.out;have:=HK3.out;omega
           case rel=>exact⟨(wrap64 (fO+1)),(bZ),(.slice (some kY) bZ.length EY),(by first|rfl|(simp;done)|(simp [*];done)),H',⟨by have:=HK1.out;have:=HK2.out;have:=HK3.out;omega⟩,⟨gR cS.out⟩,⟨gR cL.out⟩,⟨gS bM.out⟩,⟨gB dJ.out⟩,⟨gB bP.out⟩,⟨gW HB.out⟩⟩
         ·rw [if_neg c73] at H
          have Eo:decide (fO<(((rd_T35 bZ dT).f1).length:Int))=false:=decide_eq_false c73;clear c73;have H':=aM H;clear H;have hnb89:=gH.out;have hnc89:=eW.out;have Zq:wr.cell? ⟨cP,0,none⟩=some (.slice mD t482.length mE):=(aG bP.out 0).trans rfl;have Zr:wr.cell? ⟨cP,1,none⟩=some (u494001):=(aG bP.out 1).trans rfl;have Zs:wr.cell? ⟨cP,2,none⟩=some (.int .i64 t488):=(aG bP.out 2).trans rfl;have Zt:wr.cell? ⟨cP,3,none⟩=some (.int .i64 t489):=(aG bP.out 3).trans rfl;have Zu:wr.cell? ⟨cP,4,none⟩=some (u494004):=(aG bP.out 4).trans rfl;have Zv:=aH bP.out 0;have Zw:=aH bP.out 1;have Zx:=aH bP.out 2;have Zy:=aH bP.out 3;have Zz:=aH bP.out 4;obtain⟨Iw,Ie,Ry⟩:=Kd.S_slice bM.out;subst Ry;have p513:0≤(dT:Int):=of_decide_eq_true (by first|(with_reducible assumption)|assumption);have q513:dT<(bZ.length:Int):=of_decide_eq_true (by first|(with_reducible assumption)|assumption);obtain⟨kY,Is,It,e513,Ep,kS,mJ,mK⟩:=at_T35 (Kd.S_reads' bM.out).2.2 dT p513 q513
          cases e513;obtain⟨ce513,hce513,hMe513,hcc513⟩:=Kd.S_get bM.out z35 dT p513 (by first|exact q513|exact of_decide_eq_true (by first|(with_reducible assumption)|assumption)|(have e_:=(Kd.S_reads' bM.out).1;omega));obtain⟨ve513_1,rfl,ge513_1⟩:=k35_openM hMe513;have hv513_1:=hcc513 1 _ rfl;rw [add_field _ _ 1 (by omega)] at hv513_1;replace hv513_1:=Option.some.inj (hv513_1.symm.trans kS);rw [hv513_1] at ge513_1;have HL513_1:=aM (show Kd.R k43 43 _ _ _ _ ((rd_T35 bZ dT).f1) from ge513_1);clear hv513_1 ge513_1;have HX513_1:=aM kS;clear hcc513 hce513;have pL:=aM mK;have Eq:=aM mJ;clear mK mJ;replace p513:=eq_true p513;replace q513:=eq_true q513;go_wp2
          go_roundg k3
          case measure=>have:=HK1.out;have:=HK2.out;have:=HK3.out;omega
          case rel=>exact⟨(wrap64 (dT+1)),(bZ),(.slice (some kY) bZ.length Ie),(by first|rfl|(simp;done)|(simp [*];done)),H',⟨by have:=HK1.out;have:=HK2.out;have:=HK3.out;omega⟩,⟨gR cS.out⟩,⟨gR cL.out⟩,⟨gS bM.out⟩,⟨gB dJ.out⟩,⟨gB bP.out⟩,⟨gW HB.out⟩⟩
      ·rw [if_neg c67] at H
       have Po:decide (dT<(gI.length:Int))=false:=decide_eq_false c67;clear c67;simp only [Option.some.injEq,Prod.mk.injEq] at H;obtain⟨rfl,rfl,rfl,rfl,rfl⟩:=H;have hnb92:=gH.out;have hnc92:=eW.out;have Kt:wr.cell? ⟨cP,0,none⟩=some (.slice mD t482.length mE):=(aG bP.out 0).trans rfl;have Ku:wr.cell? ⟨cP,1,none⟩=some (u494001):=(aG bP.out 1).trans rfl;have Kv:wr.cell? ⟨cP,2,none⟩=some (.int .i64 t488):=(aG bP.out 2).trans rfl;have Kw:wr.cell? ⟨cP,3,none⟩=some (.int .i64 t489):=(aG bP.out 3).trans rfl;have Kx:wr.cell? ⟨cP,4,none⟩=some (u494004):=(aG bP.out 4).trans rfl;have Ky:=aH bP.out 0;have Kz:=aH bP.out 1;have La:=aH bP.out 2;have Lb:=aH bP.out 3;have Lc:=aH bP.out 4;obtain⟨Ld,Le,FA⟩:=Kd.S_slice bM.out;subst FA;have Lf:wr.cell? ⟨fF,0,none⟩=some (.slice none 0 0):=(aG dJ.out 0).trans rfl;have Lg:wr.cell? ⟨fF,1,none⟩=some (.slice none 0 0):=(aG dJ.out 1).trans rfl;have Lh:wr.cell? ⟨fF,2,none⟩=some (.int .i64 0):=(aG dJ.out 2).trans rfl;have Li:wr.cell? ⟨fF,3,none⟩=some (.int .i64 0):=(aG dJ.out 3).trans rfl;have Lj:wr.cell? ⟨fF,4,none⟩=some (.slice none 0 0):=(aG dJ.out 4).trans rfl;have Lk:=aH dJ.out 0;have Ll:=aH dJ.out 1;have Lm:=aH dJ.out 2;have Ln:=aH dJ.out 3;have Lo:=aH dJ.out 4;obtain⟨xK,xL,Rz⟩:=Kd.R_slice cL.out;subst Rz;go_wp2
       refine bodyPost_ret (results_cell_row rfl _ _ fF 26 #[.slice mD t482.length mE,.slice xK cZ.length xL,.int .i64 t488,.int .i64 t489,.slice Ld gI.length Le] (0,0) _ rfl (by(with_reducible repeat(first|refine aJ ?_ _|refine aK ?_|refine aI ?_ _));refine blk_put (cs:=#[.slice mD t482.length mE,.slice xK cZ.length xL,.int .i64 t488,.int .i64 t489,.slice none 0 0]) ?_ 4 _ rfl;(with_reducible repeat(first|refine aJ ?_ _|refine aK ?_|refine aI ?_ _));refine blk_put (cs:=#[.slice mD t482.length mE,.slice xK cZ.length xL,.int .i64 t488,.int .i64 0,.slice none 0 0]) ?_ 3 _ rfl;(with_reducible repeat(first|refine aJ ?_ _|refine aK ?_|refine aI ?_ _));refine blk_put (cs:=#[.slice mD t482.length mE,.slice xK cZ.length xL,.int .i64 0,.int .i64 0,.slice none 0 0]) ?_ 2 _ rfl;(with_reducible repeat(first|refine aJ ?_ _|refine aK ?_|refine aI ?_ _));refine blk_put (cs:=#[.slice mD t482.length mE,.slice none 0 0,.int .i64 0,.int .i64 0,.slice none 0 0]) ?_ 1 _ rfl;(with_reducible repeat(first|refine aJ ?_ _|refine aK ?_|refine aI ?_ _));refine blk_put (cs:=#[.slice none 0 0,.slice none 0 0,.int .i64 0,.int .i64 0,.slice none 0 0]) ?_ 0 _ rfl;(with_reducible repeat(first|refine aJ ?_ _|refine aK ?_|refine aI ?_ _));exact dJ.out) Try.underlying26 rfl (by kernel_rfl)) rfl ?_
       exact⟨_,_,_,by first|rfl|(simp [errW_none,errW_some]<;>rfl)|(simp [*,errW_none,errW_some]<;>rfl),by(with_reducible repeat(first|apply aA|apply aB|apply aC));exact Kd.R_mono (aE (p:=⟨fF,4,none⟩) (aE (p:=⟨fF,3,none⟩) (aE (p:=⟨fF,2,none⟩) (aE (p:=⟨fF,1,none⟩) (aE (p:=⟨fF,0,none⟩) (Kd.R_types cS.out dJ.out (by decide)) (fun _ hk=>hk.2) (.slice mD t482.length mE)) (fun _ hk=>hk.2) (.slice xK cZ.length xL)) (fun _ hk=>hk.2) (.int .i64 t488)) (fun _ hk=>hk.2) (.int .i64 t489)) (fun _ hk=>hk.2) (.slice Ld gI.length Le)) (fun _ hk=>trivial),by(with_reducible repeat(first|apply aA|apply aB|apply aC));exact Kd.R_mono (aE (p:=⟨fF,4,none⟩) (aE (p:=⟨fF,3,none⟩) (aE (p:=⟨fF,2,none⟩) (aE (p:=⟨fF,1,none⟩) (aE (p:=⟨fF,0,none⟩) (Kd.R_types cL.out dJ.out (by decide)) (fun _ hk=>hk.2) (.slice mD t482.length mE)) (fun _ hk=>hk.2) (.slice xK cZ.length xL)) (fun _ hk=>hk.2) (.int .i64 t488)) (fun _ hk=>hk.2) (.int .i64 t489)) (fun _ hk=>hk.2) (.slice Ld gI.length Le)) (fun _ hk=>trivial),by(with_reducible repeat(first|apply Kd.S_alloc|apply aV|apply aW));exact Kd.S_mono (Kd.S_far (p:=⟨fF,4,none⟩) (Kd.S_far (p:=⟨fF,3,none⟩) (Kd.S_far (p:=⟨fF,2,none⟩) (Kd.S_far (p:=⟨fF,1,none⟩) (Kd.S_far (p:=⟨fF,0,none⟩) (Kd.S_types bM.out dJ.out (by decide)) (fun _ hk=>hk.2) (.slice mD t482.length mE)) (fun _ hk=>hk.2) (.slice xK cZ.length xL)) (fun _ hk=>hk.2) (.int .i64 t488)) (fun _ hk=>hk.2) (.int .i64 t489)) (fun _ hk=>hk.2) (.slice Ld gI.length Le)) (fun _ hk=>trivial),by repeat(first|(with_reducible first|exact HB.out|apply aN|apply aP|apply aO|refine aL ?_ sN.out|refine aL ?_ sO.out)|exact HB.out)⟩
end Go.Proofs.Ytapjfnfengefpaa.P
end
