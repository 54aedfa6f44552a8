/- Packed texts of this claim: the walks of the functions, and their plain laws; see the claim's last text. -/
import Derived.Test.YtapjfnfengefpaaProg
import Derived.Below
import Derived.Deep.Draws
import Derived.Deep.AppendLies
import Derived.Maps.AppendAt
import Derived.OwnWalk
import Derived.Laws.BytesArg
import Derived.Laws.MakeOwn
import Derived.Laws.OwnMore
import Derived.Deep.OwnRows
import Derived.Tactics
import Derived.Lib.ConvBytes
import Derived.Laws.Slices
import Derived.WalkKit
import Derived.KernelRfl
import Derived.RowKit3
import Derived.Deep.LoopGhost
import Derived.Deep.QuietTactic
import Derived.BigQuiet
import Derived.WideLaws
import Derived.Deep.DeepCutAuto
import Derived.Deep.CutBlock
import Derived.Deep.RegionHeld3
import Derived.Laws.Rows
import Derived.Lib.AppendStr
import Derived.ArgAppend
import Derived.Laws.IdiomCopy
import Derived.OrdersHeld
import Derived.Laws.BitsLemmas
import Derived.RowKit
import Derived.Laws.Runes
import Derived.Shelf.Abstract
import Derived.WalkMore
import Derived.Lib.SliceRun
import Derived.Test.YtapjfnfengefpaaKMachineLong1
section
namespace Go.Proofs.Ytapjfnfengefpaa.P
open Go.RowKit Go.Proofs.YtapjfnfengefpaaW.PrintWords Go.Proofs.YtapjfnfengefpaaW.PrintLast Go.Proofs.YtapjfnfengefpaaW.PrintMore
abbrev T:Bool:=true
abbrev F:Bool:=false
theorem pq:(∀(a:Act) (d:Option Tmp) (v:Value),a.put d v=match d with|none=>a|some i=>{a with tmps:=a.tmps.setIfInBounds i v})∧(∀(l:List Value) (i:Nat) (a:Value),l.toArray.setIfInBounds i a=(l.set i a).toArray)∧(∀(x:Value) (l:List Value) (a:Value),(x::l).set 0 a=a::l)∧(∀(x:Value) (l:List Value) (n:Nat) (a:Value),(x::l).set (n+1) a=x::l.set n a)∧(∀n,IntKind.i64.wrap n=wrap64 n)∧∀n,IntKind.i32.wrap n=wrap32 n:=⟨fun _ d _=>by cases d<;>rfl,fun _ _ _=>List.setIfInBounds_toArray ..,fun _ _ _=>rfl,fun _ _ _ _=>rfl,i64_w,i32_w⟩
abbrev aM:=@Aside0.mk
abbrev aA:=@Kd.R_alloc
abbrev aB:=@Kd.R_drewN
abbrev aC:=@Kd.R_drew
abbrev aD:=@Kd.R_below
abbrev aE:=@Kd.R_far
abbrev aF:=@Kd.R_reads'
abbrev aG:=@blk_cell
abbrev aH:=@blk_frozen
abbrev aI:=@blk_alloc
abbrev aJ:=@blk_drewN
abbrev aK:=@blk_drew
abbrev aL:=@below_set
abbrev aN:=@below_alloc
abbrev aO:=@below_drew1
abbrev aP:=@pw_below_drewN
abbrev aT:=@Kd.N_reads'
abbrev aY:=@Kd.N_drewN
abbrev aZ:=@Kd.N_drew
abbrev bD:=@Kd.C_below
abbrev bE:=@Kd.R_elder'
abbrev bF:=@blk_below
abbrev bG:=@below_step
abbrev bH:=@below_size
abbrev bI:=@gate_callee
abbrev bJ:=@gate_dst
abbrev bL:=@Kd.R_lower
abbrev bN:=@blk_lt
abbrev Grew (w W:World):Prop:=Nonempty (Below w.heap.size w W)
theorem Grew.b {w W:World}(h:Grew w W):Below w.heap.size w W:=h.elim id
instance grew0 (w:World):Grew w w:=⟨Below.refl _ _⟩
instance grewA (w W:World) (o:Obj) [h:Grew w W]:Grew w (W.alloc o):=⟨aN h.b o⟩
instance grewN (w W:World) (n:Nat) [h:Grew w W]:Grew w (W.drewN n):=⟨aP h.b n⟩
instance grewD (w W:World) [h:Grew w W]:Grew w W.drew:=⟨aO h.b⟩
theorem gB {w W:World}{g:Nat}{o:Obj}(h:w.heap[g]?=some o) [k:Grew w W]:W.heap[g]?=some o:=bF h k.b
theorem gR {α:Type}{d:Kd α}{e base:Nat}{ok:Nat→Prop}{v:Value}{xs:List α}{w W:World}(h:d.R e w base ok v xs) [k:Grew w W]:d.R e W base ok v xs:=aD h k.b
theorem gS {α:Type}{d:Kd α}{e base:Nat}{ok:Nat→Prop}{v:Value}{xs:List α}{w W:World}(h:Kd.S d e w base ok v xs) [k:Grew w W]:Kd.S d e W base ok v xs:=Kd.S_below h k.b
theorem gN {α:Type}{d:Kd α}{e base:Nat}{ok:Nat→Prop}{v:Value}{xs:List α}{w W:World}(h:Kd.N d e w base ok v xs) [k:Grew w W]:Kd.N d e W base ok v xs:=Kd.N_below h k.b
theorem gC {α:Type}{d:Kd α}{A:Option Addr}{n:Nat}{xs:List α}{w W:World}(h:d.C w A n xs) [k:Grew w W]:d.C W A n xs:=bD h k.b
theorem gW {b w W:World}(h:Below b.heap.size b w) [k:Grew w W]:Below b.heap.size b W:=bG h k.b
attribute [local go_sem] max2_int min2_int max_two min_two max_three min_three max_four min_four   -- for this text's walks alone
set_option linter.unusedVariables false
set_option linter.unusedSimpArgs false
def errW:Option Int→Value
 |none=> .nilIface
 |some c=> .iface 0 (.int .i64 c)
theorem errW_none:errW none= .nilIface:=rfl
theorem errW_some (c:Int):errW (some c)= .iface 0 (.int .i64 c):=rfl
theorem info3:(Try.prog.info? 3).map (fun i=>(i.zero,i.size,i.bytes))=some (some (.int .i64 0),1,8):=by kernel_rfl
theorem info43:(Try.prog.info? 43).map (fun i=>(i.zero,i.size,i.bytes))=some (some (.agg #[(.bool false),(.int .i64 0)]),2,16):=by kernel_rfl
theorem info72:(Try.prog.info? 72).map (fun i=>(i.zero,i.size,i.bytes))=some (some (.agg #[(.string ⟨#[]⟩),(.int .i64 0),(.string ⟨#[]⟩),(.slice none 0 0),(.int .i64 0),(.int .i64 0),(.slice none 0 0)]),7,104):=by kernel_rfl
structure S43 where
 f0:Bool
 f1:Int
def z43:S43:=⟨false,(0:Int)⟩
def k43:Kd S43:=Kd.iso (Kd.pair Kd.bool (Kd.int .i64)) (fun x:S43=>(x.f0,x.f1))
theorem k43_open {w:World}{x:S43}{cs:List Value}(h:k43.K w x cs):cs= [.bool x.f0,.int .i64 x.f1]:=by
 obtain⟨_,_,rfl,rfl,rfl⟩:=h;exact rfl
theorem k43_mkM (w:World) (base:Nat) (ok:Nat→Prop) (x:S43)  :k43.M w base ok x [.bool x.f0,.int .i64 x.f1]:=⟨[.bool x.f0],[.int .i64 x.f1],rfl,rfl,rfl⟩
def rd_T43 (xs:List S43) (i:Int):S43:=xs.getD i.toNat z43
theorem at_T43 {w:World}{A:Option Addr}{n:Nat}{xs:List S43}(h:Kd.C k43 w A n xs) (i:Int) (h0:0≤i) (h1:i<n):∃ad,A=some ad∧w.cell? (ad.add (i.toNat * 2))=some (.bool (rd_T43 xs i).f0)∧w.cell? ⟨(ad.add (i.toNat * 2)).block,(ad.add (i.toNat * 2)).off+1,none⟩=some (.int .i64 (rd_T43 xs i).f1):=by
 obtain⟨ad,c,e,_,hK,hc0⟩:=Kd.C_get h z43 i h0 h1;have hc:∀j u,c[j]?=some u→w.cell? (ad.add (i.toNat * 2+j))=some u:=hc0;obtain rfl:=k43_open hK;exact⟨ad,e,hc 0 _ rfl,by rw [←add_field _ _ 1 (by omega)];exact hc 1 _ rfl⟩
def rd_L5 (xs:List (List Int)) (i:Int):(List Int):=xs.getD i.toNat ([]:List Int)
theorem at_L5 {w:World}{A:Option Addr}{n:Nat}{xs:List (List Int)}(h:Kd.C (Kd.slice 3 (Kd.int .i64)) w A n xs) (i:Int) (h0:0≤i) (h1:i<n):∃ad A0 c0,A=some ad∧w.cell? (ad.add i.toNat)=some (.slice A0 (rd_L5 xs i).length c0)∧(rd_L5 xs i).length≤c0∧(Kd.int .i64).C w A0 (rd_L5 xs i).length (rd_L5 xs i):=by
 obtain⟨ad,c,e,_,hK,hc0⟩:=Kd.C_get h ([]:List Int) i h0 h1;have hc:∀j u,c[j]?=some u→w.cell? (ad.add (i.toNat * 1+j))=some u:=hc0;obtain⟨A0,c0,rfl,l0,g0⟩:=hK;exact⟨ad,A0,c0,e,by have hq:=hc 0 _ rfl;rwa [Nat.mul_one,Nat.add_zero] at hq,l0,g0⟩
structure S70 where
 f0:Int
 f1:ByteArray
 f2:(List Int)
 f3:Int
 f4:Int
 f5:(List S70)
def z70:S70:=⟨(0:Int),(⟨#[]⟩:ByteArray),([]:List Int),(0:Int),(0:Int),([]:List S70)⟩
def F70 (d:Kd S70):Kd S70:=Kd.iso (Kd.pair (Kd.int .i64) (Kd.pair Kd.string (Kd.pair (Kd.slice 3 (Kd.int .i64)) (Kd.pair (Kd.int .i64) (Kd.pair (Kd.int .i64) (Kd.slice 70 d)))))) (fun x:S70=>(x.f0,x.f1,x.f2,x.f3,x.f4,x.f5))
theorem mono70:Kd.Mono F70:=Kd.mono_iso _ (Kd.mono_pair (Kd.mono_const _) (Kd.mono_pair (Kd.mono_const _) (Kd.mono_pair (Kd.mono_const _) (Kd.mono_pair (Kd.mono_const _) (Kd.mono_pair (Kd.mono_const _) (Kd.mono_slice 70 Kd.mono_id))))))
theorem sub70:Kd.Sub F70 [3,70]:=Kd.sub_iso _ (Kd.sub_pair (Kd.sub_const _ (by decide)) (Kd.sub_pair (Kd.sub_const _ (by decide)) (Kd.sub_pair (Kd.sub_const _ (by decide)) (Kd.sub_pair (Kd.sub_const _ (by decide)) (Kd.sub_pair (Kd.sub_const _ (by decide)) (Kd.sub_slice 70 (by decide) Kd.sub_id))))))
theorem sz70:∀n,(Kd.upto F70 6 [3,70] n).sz=6:=Kd.upto_sz (fun _=>rfl)
def k70:Kd S70:=Kd.fix F70 6 [3,70] sz70 (Kd.upto_E sub70)
theorem k70_mk (w:World) (x:S70) {A2:Option Addr}{c2:Nat}(l2:x.f2.length≤c2) (g2:(Kd.int .i64).C w A2 x.f2.length x.f2) {A5:Option Addr}{c5:Nat}(l5:x.f5.length≤c5) (g5:k70.C w A5 x.f5.length x.f5):k70.K w x [.int .i64 x.f0,.string x.f1,.slice A2 x.f2.length c2,.int .i64 x.f3,.int .i64 x.f4,.slice A5 x.f5.length c5]:=by
 obtain⟨n5,q5⟩:=Kd.fix_C_back mono70 g5;have r5:=Kd.upto_C_le mono70 sz70 (show n5≤n5 by omega) q5;exact⟨n5+1,⟨[.int .i64 x.f0],[.string x.f1,.slice A2 x.f2.length c2,.int .i64 x.f3,.int .i64 x.f4,.slice A5 x.f5.length c5],rfl,rfl,⟨[.string x.f1],[.slice A2 x.f2.length c2,.int .i64 x.f3,.int .i64 x.f4,.slice A5 x.f5.length c5],rfl,rfl,⟨[.slice A2 x.f2.length c2],[.int .i64 x.f3,.int .i64 x.f4,.slice A5 x.f5.length c5],rfl,⟨A2,c2,rfl,l2,g2⟩,⟨[.int .i64 x.f3],[.int .i64 x.f4,.slice A5 x.f5.length c5],rfl,rfl,⟨[.int .i64 x.f4],[.slice A5 x.f5.length c5],rfl,rfl,⟨A5,c5,rfl,l5,r5⟩⟩⟩⟩⟩⟩⟩
structure S72 where
 f0:ByteArray
 f1:S70
def z72:S72:=⟨(⟨#[]⟩:ByteArray),z70⟩
def k72:Kd S72:=Kd.iso (Kd.pair Kd.string k70) (fun x:S72=>(x.f0,x.f1))
theorem k72_mk (w:World) (x:S72) {A3:Option Addr}{c3:Nat}(l3:x.f1.f2.length≤c3) (g3:(Kd.int .i64).C w A3 x.f1.f2.length x.f1.f2) {A6:Option Addr}{c6:Nat}(l6:x.f1.f5.length≤c6) (g6:k70.C w A6 x.f1.f5.length x.f1.f5):k72.K w x [.string x.f0,.int .i64 x.f1.f0,.string x.f1.f1,.slice A3 x.f1.f2.length c3,.int .i64 x.f1.f3,.int .i64 x.f1.f4,.slice A6 x.f1.f5.length c6]:=⟨[.string x.f0],[.int .i64 x.f1.f0,.string x.f1.f1,.slice A3 x.f1.f2.length c3,.int .i64 x.f1.f3,.int .i64 x.f1.f4,.slice A6 x.f1.f5.length c6],rfl,rfl,(k70_mk w x.f1 l3 g3 l6 g6)⟩
theorem k72_mkF (W:World) (ok:Nat→Prop) (x:S72) {A3:Option Addr}{c3:Nat}(l3:x.f1.f2.length≤c3) (g3:Kd.F (Kd.int .i64) W ok A3 x.f1.f2.length x.f1.f2) {A6:Option Addr}{c6:Nat}(l6:x.f1.f5.length≤c6) (g6:Kd.F k70 W ok A6 x.f1.f5.length x.f1.f5):Kd.FK k72 W ok x [.string x.f0,.int .i64 x.f1.f0,.string x.f1.f1,.slice A3 x.f1.f2.length c3,.int .i64 x.f1.f3,.int .i64 x.f1.f4,.slice A6 x.f1.f5.length c6]:=fun W2 hW=>k72_mk W2 x l3 (g3 W2 hW) l6 (g6 W2 hW)
structure S35 where
 f0:Int
 f1:(List S43)
def z35:S35:=⟨(0:Int),([]:List S43)⟩
def k35:Kd S35:=Kd.iso (Kd.pair (Kd.int .i64) (Kd.slice 43 k43)) (fun x:S35=>(x.f0,x.f1))
theorem k35_open {w:World}{x:S35}{cs:List Value}(h:k35.K w x cs):∃A1 c1,cs= [.int .i64 x.f0,.slice A1 x.f1.length c1]∧x.f1.length≤c1∧k43.C w A1 x.f1.length x.f1:=by
 obtain⟨_,_,rfl,rfl,⟨A1,c1,rfl,l1,g1⟩⟩:=h;exact⟨A1,c1,rfl,l1,g1⟩
theorem k35_mk (w:World) (x:S35) {A1:Option Addr}{c1:Nat}(l1:x.f1.length≤c1) (g1:k43.C w A1 x.f1.length x.f1):k35.K w x [.int .i64 x.f0,.slice A1 x.f1.length c1]:=⟨[.int .i64 x.f0],[.slice A1 x.f1.length c1],rfl,rfl,⟨A1,c1,rfl,l1,g1⟩⟩
theorem k35_mkF (W:World) (ok:Nat→Prop) (x:S35) {A1:Option Addr}{c1:Nat}(l1:x.f1.length≤c1) (g1:Kd.F k43 W ok A1 x.f1.length x.f1):Kd.FK k35 W ok x [.int .i64 x.f0,.slice A1 x.f1.length c1]:=fun W2 hW=>k35_mk W2 x l1 (g1 W2 hW)
def rd_T35 (xs:List S35) (i:Int):S35:=xs.getD i.toNat z35
theorem at_T35 {w:World}{A:Option Addr}{n:Nat}{xs:List S35}(h:Kd.C k35 w A n xs) (i:Int) (h0:0≤i) (h1:i<n):∃ad A1 c1,A=some ad∧w.cell? (ad.add (i.toNat * 2))=some (.int .i64 (rd_T35 xs i).f0)∧w.cell? ⟨(ad.add (i.toNat * 2)).block,(ad.add (i.toNat * 2)).off+1,none⟩=some (.slice A1 (rd_T35 xs i).f1.length c1)∧(rd_T35 xs i).f1.length≤c1∧k43.C w A1 (rd_T35 xs i).f1.length (rd_T35 xs i).f1:=by
 obtain⟨ad,c,e,_,hK,hc0⟩:=Kd.C_get h z35 i h0 h1;have hc:∀j u,c[j]?=some u→w.cell? (ad.add (i.toNat * 2+j))=some u:=hc0;obtain⟨A1,c1,rfl,l1,g1⟩:=k35_open hK;exact⟨ad,A1,c1,e,hc 0 _ rfl,by rw [←add_field _ _ 1 (by omega)];exact hc 1 _ rfl,l1,g1⟩
attribute [local go_sem] max2_int min2_int max_two min_two max_three min_three max_four min_four   -- for this text's walks alone
set_option linter.unusedVariables false
set_option linter.unusedSimpArgs false
theorem eqA43 (d:Nat) (w:World) (x0 y0:Bool) (x1 y1:Int):
 (Op.equalIn (d+2) 43 (.agg #[.bool x0,.int .i64 x1]) (.agg #[.bool y0,.int .i64 y1])).run Try.prog w= .ok (x0==y0 && (x1==y1)) w:=by
 refine eqA_of Try.underlying43 (by kernel_rfl) ?_
 refine eqf_cons (by rfl) (by go_simp;rfl) (by go_simp;rfl) (by go_simp) ?_
 exact eqf_last (by rfl) (by go_simp;rfl) (by go_simp;rfl) (by go_simp)
attribute [local go_sem] max2_int min2_int max_two min_two max_three min_three max_four min_four   -- for this text's walks alone
set_option linter.unusedVariables false
set_option linter.unusedSimpArgs false
attribute [local go_sem high] eqA43
mutual
def regletref16_Same.j0:Nat→Bool→List (S43)→Bool→List (S43)→Bool→Option (Bool)
 |0,_,_,_,_,_=>none
 |k+1,x19,x102000,x102001,x103000,x103001=>if x19=true then(some false) else(regletref16_Same.l0 k 0 x102000 x102001 x103000 x103001)
def regletref16_Same.l0:Nat→Int→List (S43)→Bool→List (S43)→Bool→Option (Bool)
 |0,_,_,_,_,_=>none
 |k+1,x5,x102000,x102001,x103000,x103001=>if x5<(x102000.length:Int) then(if 0≤x5 then(if x5<(x103000.length:Int) then(if(!(((rd_T43 x102000 x5).f0)==((rd_T43 x103000 x5).f0))||(!(((rd_T43 x102000 x5).f1)==((rd_T43 x103000 x5).f1))))=true then(some false) else(regletref16_Same.l0 k (wrap64 (x5+1)) x102000 x102001 x103000 x103001)) else(none)) else(none)) else(some true)
end
def regletref16_Same.f (k:Nat) (aW:List (S43)) (iX:Bool) (iY:List (S43)) (jL:Bool):Option (Bool):=if(iX !=jL)=true then(regletref16_Same.j0 k true aW iX iY jL) else(regletref16_Same.j0 k ((aW.length:Int) !=(iY.length:Int)) aW iX iY jL)
theorem regletref16_Same.mono_l:∀k,(∀y0 y1 y2 y3 y4,LeO (regletref16_Same.j0 k y0 y1 y2 y3 y4) (regletref16_Same.j0 (k+1) y0 y1 y2 y3 y4))∧(∀y0 y1 y2 y3 y4,LeO (regletref16_Same.l0 k y0 y1 y2 y3 y4) (regletref16_Same.l0 (k+1) y0 y1 y2 y3 y4))
 |0=>⟨fun _ _ _ _ _ r h=>by simp [regletref16_Same.j0] at h,fun _ _ _ _ _ r h=>by simp [regletref16_Same.l0] at h⟩
 |k+1=>by
  obtain⟨ih0,ih1⟩:=regletref16_Same.mono_l k;refine⟨?_,?_⟩
  ·intro y0 y1 y2 y3 y4
   unfold regletref16_Same.j0
   repeat' first
   |(with_reducible exact ih0 _ _ _ _ _)
   |(with_reducible exact ih1 _ _ _ _ _)
   |(with_reducible exact LeO.refl _)
   |(with_reducible exact LeO.none _)
   |(with_reducible refine LeO.ite ?_ ?_)
   |(with_reducible refine LeO.bind ?_ (fun _=>?_))
   |exact ih0 _ _ _ _ _
   |exact ih1 _ _ _ _ _
   |exact LeO.none _
   |refine LeO.ite ?_ ?_
   |refine LeO.bind ?_ (fun _=>?_)
  ·intro y0 y1 y2 y3 y4
   unfold regletref16_Same.l0
   repeat' first
   |(with_reducible exact ih0 _ _ _ _ _)
   |(with_reducible exact ih1 _ _ _ _ _)
   |(with_reducible exact LeO.refl _)
   |(with_reducible exact LeO.none _)
   |(with_reducible refine LeO.ite ?_ ?_)
   |(with_reducible refine LeO.bind ?_ (fun _=>?_))
   |exact ih0 _ _ _ _ _
   |exact ih1 _ _ _ _ _
   |exact LeO.none _
   |refine LeO.ite ?_ ?_
   |refine LeO.bind ?_ (fun _=>?_)
theorem regletref16_Same.mono:∀a0 a1 a2 a3 k,LeO (regletref16_Same.f k a0 a1 a2 a3) (regletref16_Same.f (k+1) a0 a1 a2 a3):=by
 intro a0 a1 a2 a3 k;obtain⟨ih0,ih1⟩:=regletref16_Same.mono_l k
 unfold regletref16_Same.f
 repeat' first
  |(with_reducible exact ih0 _ _ _ _ _)
  |(with_reducible exact ih1 _ _ _ _ _)
  |(with_reducible exact LeO.refl _)
  |(with_reducible exact LeO.none _)
  |(with_reducible refine LeO.ite ?_ ?_)
  |(with_reducible refine LeO.bind ?_ (fun _=>?_))
  |exact ih0 _ _ _ _ _
  |exact ih1 _ _ _ _ _
  |exact LeO.none _
  |refine LeO.ite ?_ ?_
  |refine LeO.bind ?_ (fun _=>?_)
set_option maxHeartbeats 8000000 in
set_option maxRecDepth 100000 in
theorem regletref16_Same.calls (k:Nat) (cA:Option Addr) (cB:Nat) (aW:List (S43)) (iX:Bool) (rI:Option Addr) (rJ:Nat) (iY:List (S43)) (jL:Bool) (r:Bool) (w:World) (fU:Kd.C k43 w cA aW.length aW) (gG:aW.length≤cB) (Eo:Kd.C k43 w rI iY.length iY) (Ep:iY.length≤rJ) (h:regletref16_Same.f k aW iX iY jL=some r):
 Calls Try.prog 16 #[.agg #[.slice cA aW.length cB,.bool iX],.agg #[.slice rI iY.length rJ,.bool jL]] w fun e w'=>e= .returned (.bool r)∧Below w.heap.size w w':=by
 have hu31:=Try.underlying31;have hu43:=Try.underlying43;have gP:=aM fU;have iA:=aM gG;clear fU gG;have Eq:=aM Eo;have Tc:=aM Ep;clear Eo Ep;have HB:=aM (Below.refl w.heap.size w);have H:(if(iX !=jL)=true then(regletref16_Same.j0 k true aW iX iY jL) else(regletref16_Same.j0 k ((aW.length:Int) !=(iY.length:Int)) aW iX iY jL))=some r:=h;clear h;have HC3:=aM H;clear H;go_enter Try.func16,Try.ntmps16
 go_upto_region 1 with(first|((with_reducible refine bJ (N:=2) rfl ?_);(try(refine gate_guard (by rfl) ?_;dsimp only));refine box_event ?hg (N:=2) ?hd (cs:=#[.slice cA aW.length cB,.bool iX]) (t:=31) ?hr ?_;(case hd=>rfl);(case hg=>rfl);(case hr=>first|(go_simp;done)|(go_simp;rfl));intro fZ hg w4 hbox hb;have bX:=aM (bG (gW HB.out) hb);have bY:=aM (hbox);have cC:=aM ((by rw [hg];exact(bH (gW HB.out)):w.heap.size≤fZ));have cD:=aM ((by rw [hg];exact(bH (gW HB.out)):w.heap.size≤fZ));clear HB;have HB:=bX;have eR:=bY;have GW101:=cC;have Er:=cD;clear bX bY cC cD;clear hb hbox hg)|((with_reducible refine bJ (N:=3) rfl ?_);(try(refine gate_guard (by rfl) ?_;dsimp only));refine box_event ?hg (N:=3) ?hd (cs:=#[.slice rI iY.length rJ,.bool jL]) (t:=31) ?hr ?_;(case hd=>rfl);(case hg=>rfl);(case hr=>first|(go_simp;done)|(go_simp;rfl));intro iO hg w5 hbox hb;have bX:=aM (bF (gB eR.out) hb);have bY:=aM (bG (gW HB.out) hb);have cC:=aM (hbox);have cD:=aM ((by rw [hg];exact(bH (gW HB.out)):w.heap.size≤iO));have cL:=aM ((by rw [hg];exact(bH (gW HB.out)):w.heap.size≤iO));have cS:=aM ((by rw [hg];exact Nat.ne_of_lt (bN (g:=fZ) (o:= .cells #[.slice cA aW.length cB,.bool iX] 31 (0,0)) (gB eR.out)):fZ≠iO));have dB:=aM ((by rw [hg];exact Nat.ne_of_gt (bN (g:=fZ) (o:= .cells #[.slice cA aW.length cB,.bool iX] 31 (0,0)) (gB eR.out)):iO≠fZ));clear eR;clear HB;have eR:=bX;have HB:=bY;have iP:=cC;have GW102:=cD;have Es:=cL;have jT:=cS;have jU:=dB;clear bX bY cC cD cL cS dB;clear hb hbox hg))
 repeat(go_quiet (first|((with_reducible refine bJ (N:=2) rfl ?_);(try(refine gate_guard (by rfl) ?_;dsimp only));refine box_event ?hg (N:=2) ?hd (cs:=#[.slice cA aW.length cB,.bool iX]) (t:=31) ?hr ?_;(case hd=>rfl);(case hg=>rfl);(case hr=>first|(go_simp;done)|(go_simp;rfl));intro fZ hg w4 hbox hb;have bX:=aM (bG (gW HB.out) hb);have bY:=aM (hbox);have cC:=aM ((by rw [hg];exact(bH (gW HB.out)):w.heap.size≤fZ));have cD:=aM ((by rw [hg];exact(bH (gW HB.out)):w.heap.size≤fZ));clear HB;have HB:=bX;have eR:=bY;have GW101:=cC;have Er:=cD;clear bX bY cC cD;clear hb hbox hg)|((with_reducible refine bJ (N:=3) rfl ?_);(try(refine gate_guard (by rfl) ?_;dsimp only));refine box_event ?hg (N:=3) ?hd (cs:=#[.slice rI iY.length rJ,.bool jL]) (t:=31) ?hr ?_;(case hd=>rfl);(case hg=>rfl);(case hr=>first|(go_simp;done)|(go_simp;rfl));intro iO hg w5 hbox hb;have bX:=aM (bF (gB eR.out) hb);have bY:=aM (bG (gW HB.out) hb);have cC:=aM (hbox);have cD:=aM ((by rw [hg];exact(bH (gW HB.out)):w.heap.size≤iO));have cL:=aM ((by rw [hg];exact(bH (gW HB.out)):w.heap.size≤iO));have cS:=aM ((by rw [hg];exact Nat.ne_of_lt (bN (g:=fZ) (o:= .cells #[.slice cA aW.length cB,.bool iX] 31 (0,0)) (gB eR.out)):fZ≠iO));have dB:=aM ((by rw [hg];exact Nat.ne_of_gt (bN (g:=fZ) (o:= .cells #[.slice cA aW.length cB,.bool iX] 31 (0,0)) (gB eR.out)):iO≠fZ));clear eR;clear HB;have eR:=bX;have HB:=bY;have iP:=cC;have GW102:=cD;have Es:=cL;have jT:=cS;have jU:=dB;clear bX bY cC cD cL cS dB;clear hb hbox hg));go_upto_region 1 with(first|((with_reducible refine bJ (N:=2) rfl ?_);(try(refine gate_guard (by rfl) ?_;dsimp only));refine box_event ?hg (N:=2) ?hd (cs:=#[.slice cA aW.length cB,.bool iX]) (t:=31) ?hr ?_;(case hd=>rfl);(case hg=>rfl);(case hr=>first|(go_simp;done)|(go_simp;rfl));intro fZ hg w4 hbox hb;have bX:=aM (bG (gW HB.out) hb);have bY:=aM (hbox);have cC:=aM ((by rw [hg];exact(bH (gW HB.out)):w.heap.size≤fZ));have cD:=aM ((by rw [hg];exact(bH (gW HB.out)):w.heap.size≤fZ));clear HB;have HB:=bX;have eR:=bY;have GW101:=cC;have Er:=cD;clear bX bY cC cD;clear hb hbox hg)|((with_reducible refine bJ (N:=3) rfl ?_);(try(refine gate_guard (by rfl) ?_;dsimp only));refine box_event ?hg (N:=3) ?hd (cs:=#[.slice rI iY.length rJ,.bool jL]) (t:=31) ?hr ?_;(case hd=>rfl);(case hg=>rfl);(case hr=>first|(go_simp;done)|(go_simp;rfl));intro iO hg w5 hbox hb;have bX:=aM (bF (gB eR.out) hb);have bY:=aM (bG (gW HB.out) hb);have cC:=aM (hbox);have cD:=aM ((by rw [hg];exact(bH (gW HB.out)):w.heap.size≤iO));have cL:=aM ((by rw [hg];exact(bH (gW HB.out)):w.heap.size≤iO));have cS:=aM ((by rw [hg];exact Nat.ne_of_lt (bN (g:=fZ) (o:= .cells #[.slice cA aW.length cB,.bool iX] 31 (0,0)) (gB eR.out)):fZ≠iO));have dB:=aM ((by rw [hg];exact Nat.ne_of_gt (bN (g:=fZ) (o:= .cells #[.slice cA aW.length cB,.bool iX] 31 (0,0)) (gB eR.out)):iO≠fZ));clear eR;clear HB;have eR:=bX;have HB:=bY;have iP:=cC;have GW102:=cD;have Es:=cL;have jT:=cS;have jU:=dB;clear bX bY cC cD cL cS dB;clear hb hbox hg)))
 (try simp only [Act.put,List.setIfInBounds_toArray,List.set_cons_zero,List.set_cons_succ])
 go_cut [19] (fun v19 wc=>∃(kq:Nat) (wM:Bool),v19= .bool wM∧Aside0 (regletref16_Same.j0 kq wM aW iX iY jL=some r)∧Aside0 (kq≤k)∧Aside0 (wc.heap[fZ]?=some (.cells #[(.slice cA aW.length cB),.bool iX] 31 (0,0)))∧Aside0 (wc.heap[iO]?=some (.cells #[(.slice rI iY.length rJ),.bool jL] 31 (0,0)))∧Aside0 (Below w.heap.size w wc))
 case first=>
  have H:=HC3.out;clear HC3
  by_cases c6:(iX !=jL)=true
  ·rw [if_pos c6] at H
   have sC:(iX !=jL)=true:=c6
   (try(have Bl:decide (iX=jL)=false:=by simpa using c6))
   (try(have Gj:(iX==jL)=false:=by simpa using c6))
   (try(have Ub:¬(iX=jL):=by simpa using c6))
   clear c6
   (first|rw [sC]|(simp only [i64_w,i32_w];rw [sC])|skip)
   have H':=aM H;clear H;have hnb7:=jT.out;have hnc7:=jU.out;have pI:w5.cell? ⟨fZ,0,none⟩=some (.slice cA aW.length cB):=(aG eR.out 0).trans rfl;have pJ:w5.cell? ⟨fZ,1,none⟩=some (.bool iX):=(aG eR.out 1).trans rfl;have pK:=aH eR.out 0;have pL:=aH eR.out 1;have rK:w5.cell? ⟨iO,0,none⟩=some (.slice rI iY.length rJ):=(aG iP.out 0).trans rfl;have rL:w5.cell? ⟨iO,1,none⟩=some (.bool jL):=(aG iP.out 1).trans rfl;have rM:=aH iP.out 0;have rN:=aH iP.out 1;go_wp2
   repeat(go_quiet (fail);try go_wp2)
   go_meet
   case rel=>exact⟨_,(true),(by first|rfl|(simp;done)|(simp [*];done)),H',⟨by first|omega|exact Nat.le_refl _⟩,⟨gB eR.out⟩,⟨gB iP.out⟩,⟨gW HB.out⟩⟩
  ·rw [if_neg c6] at H
   have sC:(iX !=jL)=false:=by simpa using c6
   (try(have Bl:decide (iX=jL)=true:=by simpa using c6))
   (try(have Gj:(iX==jL)=true:=by simpa using c6))
   clear c6
   (first|rw [sC]|(simp only [i64_w,i32_w];rw [sC])|skip)
   have H':=aM H;clear H;have hnb10:=jT.out;have hnc10:=jU.out;have lZ:w5.cell? ⟨fZ,0,none⟩=some (.slice cA aW.length cB):=(aG eR.out 0).trans rfl;have mA:w5.cell? ⟨fZ,1,none⟩=some (.bool iX):=(aG eR.out 1).trans rfl;have mB:=aH eR.out 0;have mC:=aH eR.out 1;have kO:w5.cell? ⟨iO,0,none⟩=some (.slice rI iY.length rJ):=(aG iP.out 0).trans rfl;have kP:w5.cell? ⟨iO,1,none⟩=some (.bool jL):=(aG iP.out 1).trans rfl;have kQ:=aH iP.out 0;have kR:=aH iP.out 1;go_wp2
   repeat(go_quiet (fail);try go_wp2)
   go_meet
   case rel=>exact⟨_,(((aW.length:Int) !=(iY.length:Int))),(by first|rfl|(simp;done)|(simp [*];done)),H',⟨by first|omega|exact Nat.le_refl _⟩,⟨gB eR.out⟩,⟨gB iP.out⟩,⟨gW HB.out⟩⟩
 case rest=>
  clear HC3
  (try clear c1);(try clear p2);(try clear c6);(try clear sC);(try clear Bl);(try clear Gj);(try clear c7);(try clear c10);(try clear lZ);(try clear mA);(try clear kO);(try clear kP);(try clear pI);(try clear pJ);(try clear rK);(try clear rL);(try clear mB);(try clear mC);(try clear kQ);(try clear kR);(try clear pK);(try clear pL)
  (try clear rM);(try clear rN)
  obtain⟨kq,wM,rfl,HA,HJ2,eR,iP,HB⟩:=hcut
  cases kq with
  |zero=>exact absurd HA.out (by simp [regletref16_Same.j0])
  |succ Gk=>
   have H:=HA.out;clear HA;simp only [regletref16_Same.j0] at H
   by_cases c13:wM=true
   ·subst c13
    have H1:(some false)=some r:=by rw [if_pos rfl] at H;exact H
    clear H;have H:=H1;clear H1;obtain rfl:=Option.some.inj H;go_wp2
    repeat(go_quiet (fail);try go_wp2)
    go_ret
    exact⟨by first|rfl|(simp [errW_none,errW_some]<;>rfl)|(simp [*,errW_none,errW_some]<;>rfl),gW HB.out⟩
   ·replace c13:=Bool.eq_false_iff.mpr c13
    subst c13;have H1:(regletref16_Same.l0 Gk 0 aW iX iY jL)=some r:=by rw [if_neg (show ¬(false=true) by decide)] at H;exact H
    clear H;have H:=H1;clear H1;have H':=aM H;clear H;go_wp2
    repeat(go_quiet (fail);try go_wp2)
    go_loopg [5] Gk (fun kq v5 w'=>∃(cM:Int),v5= .int .i64 cM∧Aside0 (regletref16_Same.l0 kq cM aW iX iY jL=some r)∧Aside0 (kq≤Gk)∧Aside0 (w'.heap[fZ]?=some (.cells #[(.slice cA aW.length cB),.bool iX] 31 (0,0)))∧Aside0 (w'.heap[iO]?=some (.cells #[(.slice rI iY.length rJ),.bool jL] 31 (0,0)))∧Aside0 (Below w.heap.size w w'))
    case atStart=>exact⟨(0),(by first|rfl|(simp;done)|(simp [*];done)),H',⟨Nat.le_refl _⟩,⟨gB eR.out⟩,⟨gB iP.out⟩,⟨gW HB.out⟩⟩
    case round=>
     clear H'
     (try clear c1);(try clear p2);(try clear c6);(try clear sC);(try clear Bl);(try clear Gj);(try clear c7);(try clear c10);(try clear c13);(try clear lZ);(try clear mA);(try clear kO);(try clear kP);(try clear pI);(try clear pJ);(try clear rK);(try clear rL);(try clear mB);(try clear mC);(try clear kQ);(try clear kR);(try clear pK);(try clear pL)
     (try clear rM);(try clear rN);(try clear p2)
     obtain⟨cM,rfl,HA,HK2,eR,iP,HB⟩:=hrel
     cases gk with
     |zero=>exact absurd HA.out (by simp [regletref16_Same.l0])
     |succ k2=>
      have H:=HA.out;clear HA;simp only [regletref16_Same.l0] at H
      by_cases c14:cM<(aW.length:Int)
      ·rw [if_pos c14] at H
       have Et:decide (cM<(aW.length:Int))=true:=decide_eq_true c14;clear c14
       by_cases c15:0≤cM
       rotate_left
       ·rw [if_neg c15] at H
        exact absurd H (by simp)
       rw [if_pos c15] at H;have Hs:decide (0≤cM)=true:=decide_eq_true c15;clear c15
       by_cases c16:cM<(iY.length:Int)
       rotate_left
       ·rw [if_neg c16] at H
        exact absurd H (by simp)
       rw [if_pos c16] at H;have Eu:decide (cM<(iY.length:Int))=true:=decide_eq_true c16;clear c16
       by_cases c17:(!(((rd_T43 aW cM).f0)==((rd_T43 iY cM).f0))||(!(((rd_T43 aW cM).f1)==((rd_T43 iY cM).f1))))=true
       ·rw [if_pos c17] at H
        have rO:(!(((rd_T43 aW cM).f0)==((rd_T43 iY cM).f0))||(!(((rd_T43 aW cM).f1)==((rd_T43 iY cM).f1))))=true:=c17;clear c17;obtain rfl:=Option.some.inj H;have hnb18:=jT.out;have hnc18:=jU.out;have Mu:wr.cell? ⟨fZ,0,none⟩=some (.slice cA aW.length cB):=(aG eR.out 0).trans rfl;have Mv:wr.cell? ⟨fZ,1,none⟩=some (.bool iX):=(aG eR.out 1).trans rfl;have Mw:=aH eR.out 0;have Mx:=aH eR.out 1;have p103:0≤(cM:Int):=of_decide_eq_true (by first|(with_reducible assumption)|assumption);have q103:cM<(aW.length:Int):=of_decide_eq_true (by first|(with_reducible assumption)|assumption);obtain⟨Ht,e103,lI,lJ⟩:=at_T43 gP.out cM p103 q103
        cases e103;replace lI:=(HB.out.cell (World.block_lt_of_cell? w _ lI)).trans lI;replace lJ:=(HB.out.cell (World.block_lt_of_cell? w _ lJ)).trans lJ;replace p103:=eq_true p103;replace q103:=eq_true q103;have mD:wr.cell? ⟨iO,0,none⟩=some (.slice rI iY.length rJ):=(aG iP.out 0).trans rfl;have mE:wr.cell? ⟨iO,1,none⟩=some (.bool jL):=(aG iP.out 1).trans rfl;have mF:=aH iP.out 0;have mG:=aH iP.out 1;have p104:0≤(cM:Int):=of_decide_eq_true (by first|(with_reducible assumption)|assumption);have q104:cM<(iY.length:Int):=of_decide_eq_true (by first|(with_reducible assumption)|assumption);obtain⟨Hu,e104,lK,lL⟩:=at_T43 Eq.out cM p104 q104
        cases e104;replace lK:=(HB.out.cell (World.block_lt_of_cell? w _ lK)).trans lK;replace lL:=(HB.out.cell (World.block_lt_of_cell? w _ lL)).trans lL;replace p104:=eq_true p104;replace q104:=eq_true q104;go_wp2
        repeat(go_quiet (fail);try go_wp2)
        go_ret
        exact⟨by first|rfl|(simp [errW_none,errW_some]<;>rfl)|(simp [*,errW_none,errW_some]<;>rfl),gW HB.out⟩
       ·rw [if_neg c17] at H
        have rO:(!(((rd_T43 aW cM).f0)==((rd_T43 iY cM).f0))||(!(((rd_T43 aW cM).f1)==((rd_T43 iY cM).f1))))=false:=by simpa using c17
        clear c17;have H':=aM H;clear H;have hnb21:=jT.out;have hnc21:=jU.out;have My:wr.cell? ⟨fZ,0,none⟩=some (.slice cA aW.length cB):=(aG eR.out 0).trans rfl;have Mz:wr.cell? ⟨fZ,1,none⟩=some (.bool iX):=(aG eR.out 1).trans rfl;have Na:=aH eR.out 0;have Nb:=aH eR.out 1;have p103:0≤(cM:Int):=of_decide_eq_true (by first|(with_reducible assumption)|assumption);have q103:cM<(aW.length:Int):=of_decide_eq_true (by first|(with_reducible assumption)|assumption);obtain⟨Ht,e103,lI,lJ⟩:=at_T43 gP.out cM p103 q103
        cases e103;replace lI:=(HB.out.cell (World.block_lt_of_cell? w _ lI)).trans lI;replace lJ:=(HB.out.cell (World.block_lt_of_cell? w _ lJ)).trans lJ;replace p103:=eq_true p103;replace q103:=eq_true q103;have Bm:wr.cell? ⟨iO,0,none⟩=some (.slice rI iY.length rJ):=(aG iP.out 0).trans rfl;have Bn:wr.cell? ⟨iO,1,none⟩=some (.bool jL):=(aG iP.out 1).trans rfl;have Bo:=aH iP.out 0;have Bp:=aH iP.out 1;have p104:0≤(cM:Int):=of_decide_eq_true (by first|(with_reducible assumption)|assumption);have q104:cM<(iY.length:Int):=of_decide_eq_true (by first|(with_reducible assumption)|assumption);obtain⟨Hu,e104,lK,lL⟩:=at_T43 Eq.out cM p104 q104
        cases e104;replace lK:=(HB.out.cell (World.block_lt_of_cell? w _ lK)).trans lK;replace lL:=(HB.out.cell (World.block_lt_of_cell? w _ lL)).trans lL;replace p104:=eq_true p104;replace q104:=eq_true q104;go_wp2
        repeat(go_quiet (fail);try go_wp2)
        go_roundg k2
        case measure=>have:=HJ2.out;have:=HK2.out;omega
        case rel=>exact⟨(wrap64 (cM+1)),(by first|rfl|(simp;done)|(simp [*];done)),H',⟨by have:=HJ2.out;have:=HK2.out;omega⟩,⟨gB eR.out⟩,⟨gB iP.out⟩,⟨gW HB.out⟩⟩
      ·rw [if_neg c14] at H
       have Et:decide (cM<(aW.length:Int))=false:=decide_eq_false c14;clear c14;obtain rfl:=Option.some.inj H;have hnb24:=jT.out;have hnc24:=jU.out;have Bq:wr.cell? ⟨fZ,0,none⟩=some (.slice cA aW.length cB):=(aG eR.out 0).trans rfl;have Br:wr.cell? ⟨fZ,1,none⟩=some (.bool iX):=(aG eR.out 1).trans rfl;have Bt:=aH eR.out 0;have Bu:=aH eR.out 1;go_wp2
       repeat(go_quiet (fail);try go_wp2)
       go_ret
       exact⟨by first|rfl|(simp [errW_none,errW_some]<;>rfl)|(simp [*,errW_none,errW_some]<;>rfl),gW HB.out⟩
def machine_Start.f  :Option ((List (S43))×Bool):=some ((([(⟨false,0⟩:S43)]:List (S43))),false)
set_option maxHeartbeats 8000000 in
set_option maxRecDepth 100000 in
theorem machine_Start.calls  (r1:List (S43)) (r2:Bool) (w:World) (h:machine_Start.f  =some (r1,r2)):
 Calls Try.prog 17 #[] w fun e w'=>∃v0_:Value,e= .returned (.agg #[v0_,.bool r2])∧Kd.R k43 43 w' w.heap.size (fun _=>True) v0_ r1∧Below w.heap.size w w':=by
 have hu31:=Try.underlying31;have hu43:=Try.underlying43;have HB:=aM (Below.refl w.heap.size w);have H:(some ((([(⟨false,0⟩:S43)]:List (S43))),false))=some (r1,r2):=h;clear h;obtain⟨y106,uQ⟩:∃y_:List (S43),y_=(([(⟨false,0⟩:S43)]:List (S43))):=⟨_,rfl⟩;replace H:(some (y106,false))=some (r1,r2):=by first|(rw [uQ];with_reducible exact H)|(have H2_:=(Option.bind_some _ _).symm.trans H;rw [uQ];with_reducible exact H2_)|(have H2_:=(Option.bind_some _ _).symm.trans H;with_reducible exact H2_)|with_reducible exact H|(rw [uQ];exact H)|exact H
 have Ew:=aM uQ;clear uQ;simp only [Option.some.injEq,Prod.mk.injEq] at H;obtain⟨rfl,rfl⟩:=H;go_enter Try.func17,Try.ntmps17
 go_wp2_with (first|((with_reducible refine bJ (N:=0) rfl ?_);refine box_event ?hg (N:=0) ?hd (cs:=#[.slice none 0 0,.bool false]) (t:=31) ?hr ?_;(case hd=>rfl);(case hg=>rfl);(case hr=>first|(go_simp;done)|(go_simp;rfl));intro rP hg w1 hbox hb;have bX:=aM (bG (gW HB.out) hb);have bY:=aM (hbox);have cC:=aM ((by rw [hg];exact(bH (gW HB.out)):w.heap.size≤rP));have cD:=aM ((by rw [hg];exact(bH (gW HB.out)):w.heap.size≤rP));clear HB;have HB:=bX;have nI:=bY;have GW105:=cC;have Hv:=cD;clear bX bY cC cD;clear hb hbox hg)|((with_reducible refine bJ (N:=2) rfl ?_);refine Kd.R_lit k43 _ 43 ?hg (N:=2) ?hd (xs:=([(⟨false,0⟩:S43)]:List (S43))) (inner:= [.bool false,.int .i64 0]) (ok:=fun _=>True) (okp:=fun _=>True) ?hr ?hp (fun _ hk=>hk) trivial (Below.refl _ _) (Nat.le_refl _) (by simp) ?_;(case hd=>rfl);(case hg=>rfl);(case hr=>first|(go_simp;done)|(go_simp;rfl));(case hp=>exact(Reps.c2 (show Kd.M k43 _ _ _ (⟨false,0⟩:S43) [.bool false,.int .i64 0] from(k43_mkM _ _ _ (⟨false,0⟩:S43))) (Reps.none _ _)));intro v107 w2 ho3 hb hg_ hnew_;clear hg_ hnew_;(first|rw [←Ew.out] at ho3|(simp only [Int.reduceToNat] at ho3;rw [←Ew.out] at ho3));have bX:=aM (bL ho3 (bH (gW HB.out)));have bY:=aM (bF (gB nI.out) hb);have cC:=aM (bG (gW HB.out) hb);clear nI;clear HB;have Ex:=bX;have nI:=bY;have HB:=cC;clear bX bY cC;clear hb ho3;obtain⟨Re,Rf,Uc⟩:=Kd.R_slice Ex.out;subst Uc;have Rg:w2.cell? ⟨rP,0,none⟩=some (.slice none 0 0):=(aG nI.out 0).trans rfl;have Rh:w2.cell? ⟨rP,1,none⟩=some (.bool false):=(aG nI.out 1).trans rfl;have Ri:=aH nI.out 0;have Rj:=aH nI.out 1))
 refine bodyPost_ret (results_cell_row rfl _ _ rP 31 #[.slice Re y106.length Rf,.bool false] (0,0) _ rfl (by(with_reducible repeat(first|refine aJ ?_ _|refine aK ?_|refine aI ?_ _));refine blk_put (cs:=#[.slice Re y106.length Rf,.bool false]) ?_ 1 _ rfl;(with_reducible repeat(first|refine aJ ?_ _|refine aK ?_|refine aI ?_ _));refine blk_put (cs:=#[.slice none 0 0,.bool false]) ?_ 0 _ rfl;(with_reducible repeat(first|refine aJ ?_ _|refine aK ?_|refine aI ?_ _));exact nI.out) Try.underlying31 rfl (by kernel_rfl)) rfl ?_
 exact⟨_,by first|rfl|(simp [errW_none,errW_some]<;>rfl)|(simp [*,errW_none,errW_some]<;>rfl),by(with_reducible repeat(first|apply aA|apply aB|apply aC));exact Kd.R_mono (aE (p:=⟨rP,1,none⟩) (aE (p:=⟨rP,0,none⟩) (Kd.R_types Ex.out nI.out (by decide)) (fun _ hk=>hk.2) (.slice Re y106.length Rf)) (fun _ hk=>hk.2) (.bool false)) (fun _ hk=>trivial),by repeat(first|(with_reducible first|exact HB.out|apply aN|apply aP|apply aO|refine aL ?_ Hv.out)|exact HB.out)⟩
def machine_dead.f  :Option ((List (S43))×Bool):=some (([]:List (S43)),true)
set_option maxHeartbeats 8000000 in
set_option maxRecDepth 100000 in
theorem machine_dead.calls  (r1:List (S43)) (r2:Bool) (w:World) (h:machine_dead.f  =some (r1,r2)):
 Calls Try.prog 36 #[] w fun e w'=>∃v0_:Value,e= .returned (.agg #[v0_,.bool r2])∧Kd.R k43 43 w' w.heap.size (fun _=>True) v0_ r1∧Below w.heap.size w w':=by
 have hu31:=Try.underlying31;have HB:=aM (Below.refl w.heap.size w);have H:(some (([]:List (S43)),true))=some (r1,r2):=h;clear h;simp only [Option.some.injEq,Prod.mk.injEq] at H;obtain⟨rfl,rfl⟩:=H;go_enter Try.func36,Try.ntmps36
 go_wp2_with (first|((with_reducible refine bJ (N:=0) rfl ?_);refine box_event ?hg (N:=0) ?hd (cs:=#[.slice none 0 0,.bool false]) (t:=31) ?hr ?_;(case hd=>rfl);(case hg=>rfl);(case hr=>first|(go_simp;done)|(go_simp;rfl));intro uR hg w1 hbox hb;have bX:=aM (bG (gW HB.out) hb);have bY:=aM (hbox);have cC:=aM ((by rw [hg];exact(bH (gW HB.out)):w.heap.size≤uR));have cD:=aM ((by rw [hg];exact(bH (gW HB.out)):w.heap.size≤uR));clear HB;have HB:=bX;have uS:=bY;have GW110:=cC;have Hw:=cD;clear bX bY cC cD;clear hb hbox hg;have Rk:w1.cell? ⟨uR,0,none⟩=some (.slice none 0 0):=(aG uS.out 0).trans rfl;have Rl:w1.cell? ⟨uR,1,none⟩=some (.bool false):=(aG uS.out 1).trans rfl;have Rm:=aH uS.out 0;have Rn:=aH uS.out 1))
 refine bodyPost_ret (results_cell_row rfl _ _ uR 31 #[.slice none 0 0,.bool true] (0,0) _ rfl (by(with_reducible repeat(first|refine aJ ?_ _|refine aK ?_|refine aI ?_ _));refine blk_put (cs:=#[.slice none 0 0,.bool false]) ?_ 1 _ rfl;(with_reducible repeat(first|refine aJ ?_ _|refine aK ?_|refine aI ?_ _));refine blk_put (cs:=#[.slice none 0 0,.bool false]) ?_ 0 _ rfl;(with_reducible repeat(first|refine aJ ?_ _|refine aK ?_|refine aI ?_ _));exact uS.out) Try.underlying31 rfl (by kernel_rfl)) rfl ?_
 exact⟨_,by first|rfl|(simp [errW_none,errW_some]<;>rfl)|(simp [*,errW_none,errW_some]<;>rfl),by first|exact Kd.R_nil _ _ _ _ _|exact Kd.N_nil _ _ _ _ _|exact Kd.V_nil _ _ _ _ _|exact Kd.Q_nil _ _ _ _ _|exact Kd.S_nil _ _ _ _ _,by repeat(first|(with_reducible first|exact HB.out|apply aN|apply aP|apply aO|refine aL ?_ Hw.out)|exact HB.out)⟩
def regletref13_SameInts.l0:Nat→List Int→List Int→Int→Option (Bool)
 |0,_,_,_=>none
 |k+1,x0,x1,x5=>if x5<(x0.length:Int) then(if 0≤x5 then(if x5<(x1.length:Int) then(if(rd x0 x5)=(rd x1 x5) then(regletref13_SameInts.l0 k x0 x1 (wrap64 (x5+1))) else(some false)) else(none)) else(none)) else(some true)
def regletref13_SameInts.f (k:Nat) (l0:List Int) (l1:List Int):Option (Bool):=if(l0.length:Int)=(l1.length:Int) then(regletref13_SameInts.l0 k l0 l1 0) else(some false)
theorem regletref13_SameInts.mono_l:∀k,(∀y0 y1 y2,LeO (regletref13_SameInts.l0 k y0 y1 y2) (regletref13_SameInts.l0 (k+1) y0 y1 y2))
 |0=>fun _ _ _ r h=>by simp [regletref13_SameInts.l0] at h
 |k+1=>by
  have ih0:=regletref13_SameInts.mono_l k
  ·intro y0 y1 y2
   unfold regletref13_SameInts.l0
   repeat' first
   |(with_reducible exact ih0 _ _ _)
   |(with_reducible exact LeO.refl _)
   |(with_reducible exact LeO.none _)
   |(with_reducible refine LeO.ite ?_ ?_)
   |(with_reducible refine LeO.bind ?_ (fun _=>?_))
   |exact ih0 _ _ _
   |exact LeO.none _
   |refine LeO.ite ?_ ?_
   |refine LeO.bind ?_ (fun _=>?_)
theorem regletref13_SameInts.mono:∀a0 a1 k,LeO (regletref13_SameInts.f k a0 a1) (regletref13_SameInts.f (k+1) a0 a1):=by
 intro a0 a1 k;have ih0:=regletref13_SameInts.mono_l k
 unfold regletref13_SameInts.f
 repeat' first
  |(with_reducible exact ih0 _ _ _)
  |(with_reducible exact LeO.refl _)
  |(with_reducible exact LeO.none _)
  |(with_reducible refine LeO.ite ?_ ?_)
  |(with_reducible refine LeO.bind ?_ (fun _=>?_))
  |exact ih0 _ _ _
  |exact LeO.none _
  |refine LeO.ite ?_ ?_
  |refine LeO.bind ?_ (fun _=>?_)
set_option maxHeartbeats 8000000 in
set_option maxRecDepth 100000 in
theorem regletref13_SameInts.calls (k:Nat) (A0:Option Addr) (c0:Nat) (l0:List Int) (A1:Option Addr) (c1:Nat) (l1:List Int) (r:Bool) (w:World) (hr0:Kd.C (Kd.int .i64) w A0 l0.length l0) (hc0:l0.length≤c0) (hr1:Kd.C (Kd.int .i64) w A1 l1.length l1) (hc1:l1.length≤c1) (h:regletref13_SameInts.f k l0 l1=some r):
 Calls Try.prog 24 #[.slice A0 l0.length c0,.slice A1 l1.length c1] w fun e w'=>e= .returned (.bool r)∧Drawn0 w w':=by
 have HR0:=aM hr0;have HC0:=aM hc0;clear hr0 hc0;have HR1:=aM hr1;have HC1:=aM hc1;clear hr1 hc1;have H:(if(l0.length:Int)=(l1.length:Int) then(regletref13_SameInts.l0 k l0 l1 0) else(some false))=some r:=h;clear h
 by_cases c3:(l0.length:Int)=(l1.length:Int)
 ·rw [if_pos c3] at H
  have yM:((l0.length:Int)==(l1.length:Int))=true:=beq_iff_eq.mpr c3;have Hx:((l0.length:Int) !=(l1.length:Int))=false:=bne_eq_false_iff_eq.mpr c3;have Hy:(l0.length==l1.length)=true:=by first|simpa using c3|(simp at c3 ⊢;omega)
  clear c3;have H':=aM H;clear H;go_enter Try.func24,Try.ntmps24
  go_wp2
  repeat(go_quiet (fail);try go_wp2)
  go_loopg [5] k (fun kq v5 w'=>∃(jF:Int),v5= .int .i64 jF∧Aside0 (regletref13_SameInts.l0 kq l0 l1 jF=some r)∧Aside0 (kq≤k)∧Drawn0 w w')
  case atStart=>exact⟨(0),(by first|rfl|(simp;done)|(simp [*];done)),H',⟨Nat.le_refl _⟩,by repeat(first|exact Drawn0.refl _|apply Drawn0.step)⟩
  case round=>
   clear H'
   (try clear c1);(try clear c2);(try clear p2);(try clear c3);(try clear yM);(try clear Hx);(try clear Hy)
   obtain⟨jF,rfl,HA,HK1,⟨m1,rfl⟩⟩:=hrel
   cases gk with
   |zero=>exact absurd HA.out (by simp [regletref13_SameInts.l0])
   |succ k1=>
    have H:=HA.out;clear HA;simp only [regletref13_SameInts.l0] at H
    by_cases c4:jF<(l0.length:Int)
    ·rw [if_pos c4] at H
     have Bv:decide (jF<(l0.length:Int))=true:=decide_eq_true c4;clear c4
     by_cases c5:0≤jF
     rotate_left
     ·rw [if_neg c5] at H
      exact absurd H (by simp)
     rw [if_pos c5] at H;have Ud:decide (0≤jF)=true:=decide_eq_true c5;clear c5
     by_cases c6:jF<(l1.length:Int)
     rotate_left
     ·rw [if_neg c6] at H
      exact absurd H (by simp)
     rw [if_pos c6] at H;have sC:decide (jF<(l1.length:Int))=true:=decide_eq_true c6;clear c6
     by_cases c7:(rd l0 jF)=(rd l1 jF)
     ·rw [if_pos c7] at H
      have rX:((rd l0 jF)==(rd l1 jF))=true:=beq_iff_eq.mpr c7;have yN:((rd l0 jF) !=(rd l1 jF))=false:=bne_eq_false_iff_eq.mpr c7;clear c7;have H':=aM H;clear H;have p143:0≤(jF:Int):=of_decide_eq_true (by first|(with_reducible assumption)|assumption);have q143:jF<(l0.length:Int):=of_decide_eq_true (by first|(with_reducible assumption)|assumption);obtain⟨Hz,e143,Bw⟩:=Kd.at_int HR0.out jF p143 q143
      cases e143;replace p143:=eq_true p143;replace q143:=eq_true q143;have p144:0≤(jF:Int):=of_decide_eq_true (by first|(with_reducible assumption)|assumption);have q144:jF<(l1.length:Int):=of_decide_eq_true (by first|(with_reducible assumption)|assumption);obtain⟨Ia,e144,By⟩:=Kd.at_int HR1.out jF p144 q144
      cases e144;replace p144:=eq_true p144;replace q144:=eq_true q144;go_wp2
      repeat(go_quiet (fail);try go_wp2)
      go_roundg k1
      case measure=>have:=HK1.out;omega
      case rel=>exact⟨(wrap64 (jF+1)),(by first|rfl|(simp;done)|(simp [*];done)),H',⟨by have:=HK1.out;omega⟩,by repeat(first|exact Drawn0.refl _|apply Drawn0.step)⟩
     ·rw [if_neg c7] at H
      have rX:((rd l0 jF)==(rd l1 jF))=false:=beq_eq_false_iff_ne.mpr c7;have yN:((rd l0 jF) !=(rd l1 jF))=true:=bne_iff_ne.mpr c7;obtain rfl:=Option.some.inj H;have p143:0≤(jF:Int):=of_decide_eq_true (by first|(with_reducible assumption)|assumption);have q143:jF<(l0.length:Int):=of_decide_eq_true (by first|(with_reducible assumption)|assumption);obtain⟨Hz,e143,Bw⟩:=Kd.at_int HR0.out jF p143 q143
      cases e143;replace p143:=eq_true p143;replace q143:=eq_true q143;have p144:0≤(jF:Int):=of_decide_eq_true (by first|(with_reducible assumption)|assumption);have q144:jF<(l1.length:Int):=of_decide_eq_true (by first|(with_reducible assumption)|assumption);obtain⟨Ia,e144,By⟩:=Kd.at_int HR1.out jF p144 q144
      cases e144;replace p144:=eq_true p144;replace q144:=eq_true q144;go_wp2
      repeat(go_quiet (fail);try go_wp2)
      go_ret
      exact⟨by first|rfl|(simp;done)|(simp [*];done),by repeat(first|exact Drawn0.refl _|apply Drawn0.step)⟩
    ·rw [if_neg c4] at H
     have Bv:decide (jF<(l0.length:Int))=false:=decide_eq_false c4;clear c4;obtain rfl:=Option.some.inj H;go_wp2
     repeat(go_quiet (fail);try go_wp2)
     go_ret
     exact⟨by first|rfl|(simp;done)|(simp [*];done),by repeat(first|exact Drawn0.refl _|apply Drawn0.step)⟩
 ·rw [if_neg c3] at H
  have yM:((l0.length:Int)==(l1.length:Int))=false:=beq_eq_false_iff_ne.mpr c3;have Hx:((l0.length:Int) !=(l1.length:Int))=true:=bne_iff_ne.mpr c3;have Hy:(l0.length==l1.length)=false:=by first|simpa using c3|(simp at c3 ⊢;omega)
  obtain rfl:=Option.some.inj H;go_enter Try.func24,Try.ntmps24
  go_wp2
  repeat(go_quiet (fail);try go_wp2)
  go_ret
  exact⟨by first|rfl|(simp;done)|(simp [*];done),by repeat(first|exact Drawn0.refl _|apply Drawn0.step)⟩
attribute [local go_sem] max2_int min2_int max_two min_two max_three min_three max_four min_four   -- for this text's walks alone
set_option linter.unusedVariables false
set_option linter.unusedSimpArgs false
mutual
def regletref13_Right.l0:Nat→Int→List ByteArray→List (S72)→Int→Int→List (S35)→Option (Bool)
 |0,_,_,_,_,_,_=>none
 |k+1,x3,x209000,x209001,x209002,x209003,x209004=>if x3<(x209004.length:Int) then(if 0≤x3 then(if((rd_T35 x209004 x3).f0)<0 then(regletref13_Right.j1 k x3 true x209000 x209001 x209002 x209003 x209004 ((rd_T35 x209004 x3).f0) ((rd_T35 x209004 x3).f1)) else(regletref13_Right.j1 k x3 (decide (((rd_T35 x209004 x3).f0)≥(x209000.length:Int))) x209000 x209001 x209002 x209003 x209004 ((rd_T35 x209004 x3).f0) ((rd_T35 x209004 x3).f1))) else(none)) else(some true)
def regletref13_Right.j1:Nat→Int→Bool→List ByteArray→List (S72)→Int→Int→List (S35)→Int→List (S43)→Option (Bool)
 |0,_,_,_,_,_,_,_,_,_=>none
 |k+1,x3,x29,x209000,x209001,x209002,x209003,x209004,x211000,x211001=>if x29=true then(some false) else(regletref13_Right.l1 k x3 0 x209000 x209001 x209002 x209003 x209004 x211000 x211001)
def regletref13_Right.l1:Nat→Int→Int→List ByteArray→List (S72)→Int→Int→List (S35)→Int→List (S43)→Option (Bool)
 |0,_,_,_,_,_,_,_,_,_=>none
 |k+1,x3,x5,x209000,x209001,x209002,x209003,x209004,x211000,x211001=>if x5<(x211001.length:Int) then(if 0≤x5 then(if(rd_T43 x211001 x5).f0=true then(if((rd_T43 x211001 x5).f1)<0 then(some false) else(if((rd_T43 x211001 x5).f1)≥(x209001.length:Int) then(some false) else(regletref13_Right.l1 k x3 (wrap64 (x5+1)) x209000 x209001 x209002 x209003 x209004 x211000 x211001))) else(if((rd_T43 x211001 x5).f1)<0 then(some false) else(if((rd_T43 x211001 x5).f1)≥(x209000.length:Int) then(some false) else(regletref13_Right.l1 k x3 (wrap64 (x5+1)) x209000 x209001 x209002 x209003 x209004 x211000 x211001)))) else(none)) else(regletref13_Right.l0 k (wrap64 (x3+1)) x209000 x209001 x209002 x209003 x209004)
end
def regletref13_Right.f (k:Nat) (aW:List ByteArray) (aX:List (S72)) (bM:Int) (bO:Int) (aV:List (S35)):Option (Bool):=regletref13_Right.l0 k 0 aW aX bM bO aV
set_option maxHeartbeats 8000000 in
set_option maxRecDepth 100000 in
theorem regletref13_Right.calls (k:Nat) (cA:Option Addr) (cB:Nat) (aW:List ByteArray) (cE:Option Addr) (cF:Nat) (aX:List (S72)) (bM:Int) (bO:Int) (cK:Option Addr) (cG:Nat) (aV:List (S35)) (r:Bool) (w:World) (fU:Kd.C Kd.string w cA aW.length aW) (gG:aW.length≤cB) (gH:Kd.C k72 w cE aX.length aX) (hU:aX.length≤cF) (gA:Kd.C k35 w cK aV.length aV) (iB:aV.length≤cG) (h:regletref13_Right.f k aW aX bM bO aV=some r):
 Calls Try.prog 30 #[.agg #[.slice cA aW.length cB,.slice cE aX.length cF,.int .i64 bM,.int .i64 bO,.slice cK aV.length cG]] w fun e w'=>e= .returned (.bool r)∧Below w.heap.size w w':=by
 have hu26:=Try.underlying26;have hu35:=Try.underlying35;have gP:=aM fU;have iA:=aM gG;clear fU gG;have iE:=aM gH;have iF:=aM hU;clear gH hU;have gI:=aM gA;have iG:=aM iB;clear gA iB;have HB:=aM (Below.refl w.heap.size w);have H:(regletref13_Right.l0 k 0 aW aX bM bO aV)=some r:=h;clear h;have H':=aM H;clear H;go_enter Try.func30,Try.ntmps30
 go_wp2_with (first|((with_reducible refine bJ (N:=1) rfl ?_);(try(refine gate_guard (by rfl) ?_;dsimp only));refine box_event ?hg (N:=1) ?hd (cs:=#[.slice cA aW.length cB,.slice cE aX.length cF,.int .i64 bM,.int .i64 bO,.slice cK aV.length cG]) (t:=26) ?hr ?_;(case hd=>rfl);(case hg=>rfl);(case hr=>first|(go_simp;done)|(go_simp;rfl));intro eA hg w2 hbox hb;have bX:=aM (bG (gW HB.out) hb);have bY:=aM (hbox);have cC:=aM ((by rw [hg];exact(bH (gW HB.out)):w.heap.size≤eA));have cD:=aM ((by rw [hg];exact(bH (gW HB.out)):w.heap.size≤eA));clear HB;have HB:=bX;have cP:=bY;have GW208:=cC;have Ey:=cD;clear bX bY cC cD;clear hb hbox hg))
 go_loopg [3] k (fun kq v3 w'=>∃(dQ:Int),v3= .int .i64 dQ∧Aside0 (regletref13_Right.l0 kq dQ aW aX bM bO aV=some r)∧Aside0 (kq≤k)∧Aside0 (w'.heap[eA]?=some (.cells #[(.slice cA aW.length cB),(.slice cE aX.length cF),.int .i64 bM,.int .i64 bO,(.slice cK aV.length cG)] 26 (0,0)))∧Aside0 (Below w.heap.size w w'))
 case atStart=>exact⟨(0),(by first|rfl|(simp;done)|(simp [*];done)),H',⟨Nat.le_refl _⟩,⟨gB cP.out⟩,⟨gW HB.out⟩⟩
 case round=>
  clear H'
  (try clear p2)
  obtain⟨dQ,rfl,HA,HK1,cP,HB⟩:=hrel
  cases gk with
  |zero=>exact absurd HA.out (by simp [regletref13_Right.l0])
  |succ k1=>
   have H:=HA.out;clear HA;simp only [regletref13_Right.l0] at H
   by_cases c3:dQ<(aV.length:Int)
   ·rw [if_pos c3] at H
    have yM:decide (dQ<(aV.length:Int))=true:=decide_eq_true c3;clear c3
    by_cases c4:0≤dQ
    rotate_left
    ·rw [if_neg c4] at H
     exact absurd H (by simp)
    rw [if_pos c4] at H;have Bv:decide (0≤dQ)=true:=decide_eq_true c4;clear c4;have HC5:=aM H;clear H;have yY:wr.cell? ⟨eA,0,none⟩=some (.slice cA aW.length cB):=(aG cP.out 0).trans rfl;have yZ:wr.cell? ⟨eA,1,none⟩=some (.slice cE aX.length cF):=(aG cP.out 1).trans rfl;have zA:wr.cell? ⟨eA,2,none⟩=some (.int .i64 bM):=(aG cP.out 2).trans rfl;have zB:wr.cell? ⟨eA,3,none⟩=some (.int .i64 bO):=(aG cP.out 3).trans rfl;have zC:wr.cell? ⟨eA,4,none⟩=some (.slice cK aV.length cG):=(aG cP.out 4).trans rfl;have zD:=aH cP.out 0;have zE:=aH cP.out 1;have zF:=aH cP.out 2;have zG:=aH cP.out 3;have zH:=aH cP.out 4;have p209:0≤(dQ:Int):=of_decide_eq_true (by first|(with_reducible assumption)|assumption);have q209:dQ<(aV.length:Int):=of_decide_eq_true (by first|(with_reducible assumption)|assumption);obtain⟨lX,lM,lN,e209,nJ,nK,wN,wO⟩:=at_T35 gI.out dQ p209 q209
    cases e209;replace nJ:=(HB.out.cell (World.block_lt_of_cell? w _ nJ)).trans nJ;replace nK:=(HB.out.cell (World.block_lt_of_cell? w _ nK)).trans nK;have hZ:=aM wO;have Nc:=aM wN;clear wO wN;replace p209:=eq_true p209;replace q209:=eq_true q209
    go_upto_region 5 with(first|((with_reducible refine bJ (N:=4) rfl ?_);(try(refine gate_guard (by rfl) ?_;dsimp only));refine box_event ?hg (N:=4) ?hd (cs:=#[.int .i64 0,.slice none 0 0]) (t:=35) ?hr ?_;(case hd=>rfl);(case hg=>rfl);(case hr=>first|(go_simp;done)|(go_simp;rfl));intro iH hg w7 hbox hb;have bX:=aM (bF (gB cP.out) hb);have bY:=aM (bG (gW HB.out) hb);have cC:=aM (hbox);have cD:=aM ((by rw [hg];exact(bH (gW HB.out)):w.heap.size≤iH));have cL:=aM ((by rw [hg];exact(bH (gW HB.out)):w.heap.size≤iH));have cS:=aM ((by rw [hg];exact Nat.ne_of_lt (bN (g:=eA) (o:= .cells #[.slice cA aW.length cB,.slice cE aX.length cF,.int .i64 bM,.int .i64 bO,.slice (some lX) aV.length cG] 26 (0,0)) (gB cP.out)):eA≠iH));have dB:=aM ((by rw [hg];exact Nat.ne_of_gt (bN (g:=eA) (o:= .cells #[.slice cA aW.length cB,.slice cE aX.length cF,.int .i64 bM,.int .i64 bO,.slice (some lX) aV.length cG] 26 (0,0)) (gB cP.out)):iH≠eA));clear cP;clear HB;have cP:=bX;have HB:=bY;have eO:=cC;have GW210:=cD;have Ez:=cL;have fV:=cS;have iK:=dB;clear bX bY cC cD cL cS dB;clear hb hbox hg;have hnb8:=iK.out;have hnc8:=fV.out;have rK:w7.cell? ⟨iH,0,none⟩=some (.int .i64 0):=(aG eO.out 0).trans rfl;have rL:w7.cell? ⟨iH,1,none⟩=some (.slice none 0 0):=(aG eO.out 1).trans rfl;have rM:=aH eO.out 0;have rN:=aH eO.out 1))
    (try simp only [Act.put,List.setIfInBounds_toArray,List.set_cons_zero,List.set_cons_succ])
    go_cut [29] (fun v29 wc=>∃(kq:Nat) (wP:Bool),v29= .bool wP∧Aside0 (regletref13_Right.j1 kq dQ wP aW aX bM bO aV ((rd_T35 aV dQ).f0) ((rd_T35 aV dQ).f1)=some r)∧Aside0 (kq≤k1)∧Aside0 (wc.heap[eA]?=some (.cells #[(.slice cA aW.length cB),(.slice cE aX.length cF),.int .i64 bM,.int .i64 bO,(.slice (some lX) aV.length cG)] 26 (0,0)))∧Aside0 (wc.heap[iH]?=some (.cells #[.int .i64 ((rd_T35 aV dQ).f0),(.slice lM ((rd_T35 aV dQ).f1).length lN)] 35 (0,0)))∧Aside0 (Below w.heap.size w wc))
    case first=>
     have H:=HC5.out;clear HC5
     by_cases c10:((rd_T35 aV dQ).f0)<0
     ·rw [if_pos c10] at H
      have rQ:decide (((rd_T35 aV dQ).f0)<0)=true:=decide_eq_true c10;clear c10
      (first|rw [rQ]|(simp only [i64_w,i32_w];rw [rQ])|skip)
      have H':=aM H;clear H;have hnb11:=iK.out;have hnc11:=fV.out;have kO:w7.cell? ⟨iH,0,none⟩=some (.int .i64 0):=(aG eO.out 0).trans rfl;have kP:w7.cell? ⟨iH,1,none⟩=some (.slice none 0 0):=(aG eO.out 1).trans rfl;have kQ:=aH eO.out 0;have kR:=aH eO.out 1;go_wp2
      go_meet
      case rel=>exact⟨_,(true),(by first|rfl|(simp;done)|(simp [*];done)),H',⟨by have:=HK1.out;first|omega|exact Nat.le_refl _⟩,⟨by(with_reducible repeat(first|refine aJ ?_ _|refine aK ?_|refine aI ?_ _));refine blk_far ?_ fV.out _;(with_reducible repeat(first|refine aJ ?_ _|refine aK ?_|refine aI ?_ _));refine blk_far ?_ fV.out _;(with_reducible repeat(first|refine aJ ?_ _|refine aK ?_|refine aI ?_ _));exact cP.out⟩,⟨by(with_reducible repeat(first|refine aJ ?_ _|refine aK ?_|refine aI ?_ _));refine blk_put (cs:=#[.int .i64 ((rd_T35 aV dQ).f0),.slice none 0 0]) ?_ 1 _ rfl;(with_reducible repeat(first|refine aJ ?_ _|refine aK ?_|refine aI ?_ _));refine blk_put (cs:=#[.int .i64 0,.slice none 0 0]) ?_ 0 _ rfl;(with_reducible repeat(first|refine aJ ?_ _|refine aK ?_|refine aI ?_ _));exact eO.out⟩,⟨by repeat(first|(with_reducible first|exact HB.out|apply aN|apply aP|apply aO|refine aL ?_ Ey.out|refine aL ?_ Ez.out)|exact HB.out)⟩⟩
     ·rw [if_neg c10] at H
      have rQ:decide (((rd_T35 aV dQ).f0)<0)=false:=decide_eq_false c10;clear c10
      (first|rw [rQ]|(simp only [i64_w,i32_w];rw [rQ])|skip)
      have H':=aM H;clear H;have hnb13:=iK.out;have hnc13:=fV.out;have mH:w7.cell? ⟨iH,0,none⟩=some (.int .i64 0):=(aG eO.out 0).trans rfl;have mI:w7.cell? ⟨iH,1,none⟩=some (.slice none 0 0):=(aG eO.out 1).trans rfl;have mJ:=aH eO.out 0;have mK:=aH eO.out 1;have wQ:w7.cell? ⟨eA,0,none⟩=some (.slice cA aW.length cB):=(aG cP.out 0).trans rfl;have wR:w7.cell? ⟨eA,1,none⟩=some (.slice cE aX.length cF):=(aG cP.out 1).trans rfl;have wS:w7.cell? ⟨eA,2,none⟩=some (.int .i64 bM):=(aG cP.out 2).trans rfl;have wT:w7.cell? ⟨eA,3,none⟩=some (.int .i64 bO):=(aG cP.out 3).trans rfl;have wU:w7.cell? ⟨eA,4,none⟩=some (.slice (some lX) aV.length cG):=(aG cP.out 4).trans rfl;have wV:=aH cP.out 0;have wW:=aH cP.out 1;have wX:=aH cP.out 2;have wY:=aH cP.out 3;have wZ:=aH cP.out 4;go_wp2
      go_meet
      case rel=>exact⟨_,(decide (((rd_T35 aV dQ).f0)≥(aW.length:Int))),(by first|rfl|(simp;done)|(simp [*];done)),H',⟨by have:=HK1.out;first|omega|exact Nat.le_refl _⟩,⟨by(with_reducible repeat(first|refine aJ ?_ _|refine aK ?_|refine aI ?_ _));refine blk_far ?_ fV.out _;(with_reducible repeat(first|refine aJ ?_ _|refine aK ?_|refine aI ?_ _));refine blk_far ?_ fV.out _;(with_reducible repeat(first|refine aJ ?_ _|refine aK ?_|refine aI ?_ _));exact cP.out⟩,⟨by(with_reducible repeat(first|refine aJ ?_ _|refine aK ?_|refine aI ?_ _));refine blk_put (cs:=#[.int .i64 ((rd_T35 aV dQ).f0),.slice none 0 0]) ?_ 1 _ rfl;(with_reducible repeat(first|refine aJ ?_ _|refine aK ?_|refine aI ?_ _));refine blk_put (cs:=#[.int .i64 0,.slice none 0 0]) ?_ 0 _ rfl;(with_reducible repeat(first|refine aJ ?_ _|refine aK ?_|refine aI ?_ _));exact eO.out⟩,⟨by repeat(first|(with_reducible first|exact HB.out|apply aN|apply aP|apply aO|refine aL ?_ Ey.out|refine aL ?_ Ez.out)|exact HB.out)⟩⟩
    case rest=>
     clear HC5
     (try clear c1);(try clear c2);(try clear p2);(try clear q2);(try clear hx2);(try clear c3);(try clear yM);(try clear c4);(try clear Bv);(try clear c8);(try clear c10);(try clear rQ);(try clear c11);(try clear c13);(try clear kO);(try clear kP);(try clear mH);(try clear mI);(try clear wQ);(try clear wR);(try clear wS);(try clear wT);(try clear wU)
     (try clear yY);(try clear yZ);(try clear zA);(try clear zB);(try clear zC);(try clear rK);(try clear rL);(try clear kQ);(try clear kR);(try clear mJ);(try clear mK);(try clear wV);(try clear wW);(try clear wX);(try clear wY);(try clear wZ);(try clear zD);(try clear zE);(try clear zF);(try clear zG);(try clear zH)
     (try clear rM);(try clear rN);(try clear nJ);(try clear nK);(try clear p2);(try clear p209);(try clear q209)
     obtain⟨kq,wP,rfl,HA,HJ4,cP,eO,HB⟩:=hcut
     cases kq with
     |zero=>exact absurd HA.out (by simp [regletref13_Right.j1])
     |succ Bz=>
      have H:=HA.out;clear HA;simp only [regletref13_Right.j1] at H
      by_cases c16:wP=true
      ·subst c16
       have H1:(some false)=some r:=by rw [if_pos rfl] at H;exact H
       clear H;have H:=H1;clear H1;obtain rfl:=Option.some.inj H;go_wp2
       go_ret
       exact⟨by first|rfl|(simp [errW_none,errW_some]<;>rfl)|(simp [*,errW_none,errW_some]<;>rfl),gW HB.out⟩
      ·replace c16:=Bool.eq_false_iff.mpr c16
       subst c16;have H1:(regletref13_Right.l1 Bz dQ 0 aW aX bM bO aV ((rd_T35 aV dQ).f0) ((rd_T35 aV dQ).f1))=some r:=by rw [if_neg (show ¬(false=true) by decide)] at H;exact H
       clear H;have H:=H1;clear H1;have H':=aM H;clear H;go_wp2
       go_loopg [5] Bz (fun kq v5 w'=>∃(dZ:Int),v5= .int .i64 dZ∧Aside0 (regletref13_Right.l1 kq dQ dZ aW aX bM bO aV ((rd_T35 aV dQ).f0) ((rd_T35 aV dQ).f1)=some r)∧Aside0 (kq≤Bz)∧Aside0 (w'.heap[eA]?=some (.cells #[(.slice cA aW.length cB),(.slice cE aX.length cF),.int .i64 bM,.int .i64 bO,(.slice (some lX) aV.length cG)] 26 (0,0)))∧Aside0 (w'.heap[iH]?=some (.cells #[.int .i64 ((rd_T35 aV dQ).f0),(.slice lM ((rd_T35 aV dQ).f1).length lN)] 35 (0,0)))∧Aside0 (Below w.heap.size w w'))
       case atStart=>exact⟨(0),(by first|rfl|(simp;done)|(simp [*];done)),H',⟨Nat.le_refl _⟩,⟨gB cP.out⟩,⟨gB eO.out⟩,⟨gW HB.out⟩⟩
       case round=>
        clear H'
        (try clear c1);(try clear c2);(try clear p2);(try clear q2);(try clear hx2);(try clear c3);(try clear yM);(try clear c4);(try clear Bv);(try clear c8);(try clear c10);(try clear rQ);(try clear c11);(try clear c13);(try clear c16);(try clear kO);(try clear kP);(try clear mH);(try clear mI);(try clear wQ);(try clear wR);(try clear wS);(try clear wT);(try clear wU)
        (try clear yY);(try clear yZ);(try clear zA);(try clear zB);(try clear zC);(try clear rK);(try clear rL);(try clear kQ);(try clear kR);(try clear mJ);(try clear mK);(try clear wV);(try clear wW);(try clear wX);(try clear wY);(try clear wZ);(try clear zD);(try clear zE);(try clear zF);(try clear zG);(try clear zH)
        (try clear rM);(try clear rN);(try clear nJ);(try clear nK);(try clear p2);(try clear p209);(try clear q2);(try clear q209)
        obtain⟨dZ,rfl,HA,HK3,cP,eO,HB⟩:=hrel
        cases gk with
        |zero=>exact absurd HA.out (by simp [regletref13_Right.l1])
        |succ k3=>
         have H:=HA.out;clear HA;simp only [regletref13_Right.l1] at H
         by_cases c17:dZ<(((rd_T35 aV dQ).f1).length:Int)
         ·rw [if_pos c17] at H
          have rO:decide (dZ<(((rd_T35 aV dQ).f1).length:Int))=true:=decide_eq_true c17;clear c17
          by_cases c18:0≤dZ
          rotate_left
          ·rw [if_neg c18] at H
           exact absurd H (by simp)
          rw [if_pos c18] at H;have Fa:decide (0≤dZ)=true:=decide_eq_true c18;clear c18;obtain⟨bq19,hbq19⟩:∃b_:Bool,b_=((rd_T43 ((rd_T35 aV dQ).f1) dZ).f0):=⟨_,rfl⟩;replace H:(if bq19=true then(if((rd_T43 ((rd_T35 aV dQ).f1) dZ).f1)<0 then(some false) else(if((rd_T43 ((rd_T35 aV dQ).f1) dZ).f1)≥(aX.length:Int) then(some false) else(regletref13_Right.l1 k3 dQ (wrap64 (dZ+1)) aW aX bM bO aV ((rd_T35 aV dQ).f0) ((rd_T35 aV dQ).f1)))) else(if((rd_T43 ((rd_T35 aV dQ).f1) dZ).f1)<0 then(some false) else(if((rd_T43 ((rd_T35 aV dQ).f1) dZ).f1)≥(aW.length:Int) then(some false) else(regletref13_Right.l1 k3 dQ (wrap64 (dZ+1)) aW aX bM bO aV ((rd_T35 aV dQ).f0) ((rd_T35 aV dQ).f1)))))=some r:=by rw [←hbq19] at H;exact H
          have Nbq19:=aM hbq19;clear hbq19
          by_cases c20:bq19=true
          ·subst c20
           have H1:(if((rd_T43 ((rd_T35 aV dQ).f1) dZ).f1)<0 then(some false) else(if((rd_T43 ((rd_T35 aV dQ).f1) dZ).f1)≥(aX.length:Int) then(some false) else(regletref13_Right.l1 k3 dQ (wrap64 (dZ+1)) aW aX bM bO aV ((rd_T35 aV dQ).f0) ((rd_T35 aV dQ).f1))))=some r:=by rw [if_pos rfl] at H;exact H
           clear H;have H:=H1;clear H1
           by_cases c21:((rd_T43 ((rd_T35 aV dQ).f1) dZ).f1)<0
           ·rw [if_pos c21] at H
            have Fb:decide (((rd_T43 ((rd_T35 aV dQ).f1) dZ).f1)<0)=true:=decide_eq_true c21;clear c21;obtain rfl:=Option.some.inj H;have hnb22:=iK.out;have hnc22:=fV.out;have Bm:wr.cell? ⟨iH,0,none⟩=some (.int .i64 ((rd_T35 aV dQ).f0)):=(aG eO.out 0).trans rfl;have Bn:wr.cell? ⟨iH,1,none⟩=some (.slice lM ((rd_T35 aV dQ).f1).length lN):=(aG eO.out 1).trans rfl;have Bo:=aH eO.out 0;have Bp:=aH eO.out 1;have nL:wr.cell? ⟨eA,0,none⟩=some (.slice cA aW.length cB):=(aG cP.out 0).trans rfl;have nM:wr.cell? ⟨eA,1,none⟩=some (.slice cE aX.length cF):=(aG cP.out 1).trans rfl;have qH:wr.cell? ⟨eA,2,none⟩=some (.int .i64 bM):=(aG cP.out 2).trans rfl;have qI:wr.cell? ⟨eA,3,none⟩=some (.int .i64 bO):=(aG cP.out 3).trans rfl;have qJ:wr.cell? ⟨eA,4,none⟩=some (.slice (some lX) aV.length cG):=(aG cP.out 4).trans rfl;have nN:=aH cP.out 0;have nO:=aH cP.out 1;have qK:=aH cP.out 2;have qL:=aH cP.out 3;have qM:=aH cP.out 4;have p211:0≤(dZ:Int):=of_decide_eq_true (by first|(with_reducible assumption)|assumption);have q211:dZ<(((rd_T35 aV dQ).f1).length:Int):=of_decide_eq_true (by first|(with_reducible assumption)|assumption);obtain⟨kF,e211,eJ,fB⟩:=at_T43 hZ.out dZ p211 q211
            (try rw [←Nbq19.out] at eJ)
            cases e211;replace eJ:=(HB.out.cell (World.block_lt_of_cell? w _ eJ)).trans eJ;replace fB:=(HB.out.cell (World.block_lt_of_cell? w _ fB)).trans fB;replace p211:=eq_true p211;replace q211:=eq_true q211;have p212:0≤(dZ:Int):=of_decide_eq_true (by first|(with_reducible assumption)|assumption);have q212:dZ<(((rd_T35 aV dQ).f1).length:Int):=of_decide_eq_true (by first|(with_reducible assumption)|assumption);obtain⟨uT,e212,iQ,jM⟩:=at_T43 hZ.out dZ p212 q212
            (try rw [←Nbq19.out] at iQ)
            obtain rfl:kF=uT:=(by injection e212);replace iQ:=(HB.out.cell (World.block_lt_of_cell? w _ iQ)).trans iQ;replace jM:=(HB.out.cell (World.block_lt_of_cell? w _ jM)).trans jM;replace p212:=eq_true p212;replace q212:=eq_true q212;go_wp2
            go_ret
            exact⟨by first|rfl|(simp [errW_none,errW_some]<;>rfl)|(simp [*,errW_none,errW_some]<;>rfl),gW HB.out⟩
           ·rw [if_neg c21] at H
            have Fb:decide (((rd_T43 ((rd_T35 aV dQ).f1) dZ).f1)<0)=false:=decide_eq_false c21;clear c21
            by_cases c25:((rd_T43 ((rd_T35 aV dQ).f1) dZ).f1)≥(aX.length:Int)
            ·rw [if_pos c25] at H
             have zI:decide ((aX.length:Int)≤((rd_T43 ((rd_T35 aV dQ).f1) dZ).f1))=true:=decide_eq_true c25;clear c25;obtain rfl:=Option.some.inj H;have hnb26:=iK.out;have hnc26:=fV.out;have Ca:wr.cell? ⟨iH,0,none⟩=some (.int .i64 ((rd_T35 aV dQ).f0)):=(aG eO.out 0).trans rfl;have Cb:wr.cell? ⟨iH,1,none⟩=some (.slice lM ((rd_T35 aV dQ).f1).length lN):=(aG eO.out 1).trans rfl;have Cc:=aH eO.out 0;have Cd:=aH eO.out 1;have mL:wr.cell? ⟨eA,0,none⟩=some (.slice cA aW.length cB):=(aG cP.out 0).trans rfl;have mM:wr.cell? ⟨eA,1,none⟩=some (.slice cE aX.length cF):=(aG cP.out 1).trans rfl;have xA:wr.cell? ⟨eA,2,none⟩=some (.int .i64 bM):=(aG cP.out 2).trans rfl;have xB:wr.cell? ⟨eA,3,none⟩=some (.int .i64 bO):=(aG cP.out 3).trans rfl;have xC:wr.cell? ⟨eA,4,none⟩=some (.slice (some lX) aV.length cG):=(aG cP.out 4).trans rfl;have mN:=aH cP.out 0;have mO:=aH cP.out 1;have xD:=aH cP.out 2;have xE:=aH cP.out 3;have xF:=aH cP.out 4;have p211:0≤(dZ:Int):=of_decide_eq_true (by first|(with_reducible assumption)|assumption);have q211:dZ<(((rd_T35 aV dQ).f1).length:Int):=of_decide_eq_true (by first|(with_reducible assumption)|assumption);obtain⟨kF,e211,eJ,fB⟩:=at_T43 hZ.out dZ p211 q211
             (try rw [←Nbq19.out] at eJ)
             cases e211;replace eJ:=(HB.out.cell (World.block_lt_of_cell? w _ eJ)).trans eJ;replace fB:=(HB.out.cell (World.block_lt_of_cell? w _ fB)).trans fB;replace p211:=eq_true p211;replace q211:=eq_true q211;have p212:0≤(dZ:Int):=of_decide_eq_true (by first|(with_reducible assumption)|assumption);have q212:dZ<(((rd_T35 aV dQ).f1).length:Int):=of_decide_eq_true (by first|(with_reducible assumption)|assumption);obtain⟨uT,e212,iQ,jM⟩:=at_T43 hZ.out dZ p212 q212
             (try rw [←Nbq19.out] at iQ)
             obtain rfl:kF=uT:=(by injection e212);replace iQ:=(HB.out.cell (World.block_lt_of_cell? w _ iQ)).trans iQ;replace jM:=(HB.out.cell (World.block_lt_of_cell? w _ jM)).trans jM;replace p212:=eq_true p212;replace q212:=eq_true q212;have p213:0≤(dZ:Int):=of_decide_eq_true (by first|(with_reducible assumption)|assumption);have q213:dZ<(((rd_T35 aV dQ).f1).length:Int):=of_decide_eq_true (by first|(with_reducible assumption)|assumption);obtain⟨zJ,e213,kA,lO⟩:=at_T43 hZ.out dZ p213 q213
             (try rw [←Nbq19.out] at kA)
             obtain rfl:kF=zJ:=(by injection e213);replace kA:=(HB.out.cell (World.block_lt_of_cell? w _ kA)).trans kA;replace lO:=(HB.out.cell (World.block_lt_of_cell? w _ lO)).trans lO;replace p213:=eq_true p213;replace q213:=eq_true q213;go_wp2
             go_ret
             exact⟨by first|rfl|(simp [errW_none,errW_some]<;>rfl)|(simp [*,errW_none,errW_some]<;>rfl),gW HB.out⟩
            ·rw [if_neg c25] at H
             have zI:decide ((aX.length:Int)≤((rd_T43 ((rd_T35 aV dQ).f1) dZ).f1))=false:=decide_eq_false c25;clear c25;have H':=aM H;clear H;have hnb29:=iK.out;have hnc29:=fV.out;have qN:wr.cell? ⟨iH,0,none⟩=some (.int .i64 ((rd_T35 aV dQ).f0)):=(aG eO.out 0).trans rfl;have qO:wr.cell? ⟨iH,1,none⟩=some (.slice lM ((rd_T35 aV dQ).f1).length lN):=(aG eO.out 1).trans rfl;have qP:=aH eO.out 0;have qQ:=aH eO.out 1;have Nd:wr.cell? ⟨eA,0,none⟩=some (.slice cA aW.length cB):=(aG cP.out 0).trans rfl;have Nf:wr.cell? ⟨eA,1,none⟩=some (.slice cE aX.length cF):=(aG cP.out 1).trans rfl;have Ng:wr.cell? ⟨eA,2,none⟩=some (.int .i64 bM):=(aG cP.out 2).trans rfl;have Nh:wr.cell? ⟨eA,3,none⟩=some (.int .i64 bO):=(aG cP.out 3).trans rfl;have Nl:wr.cell? ⟨eA,4,none⟩=some (.slice (some lX) aV.length cG):=(aG cP.out 4).trans rfl;have Nn:=aH cP.out 0;have No:=aH cP.out 1;have Np:=aH cP.out 2;have Nq:=aH cP.out 3;have Nr:=aH cP.out 4;have p211:0≤(dZ:Int):=of_decide_eq_true (by first|(with_reducible assumption)|assumption);have q211:dZ<(((rd_T35 aV dQ).f1).length:Int):=of_decide_eq_true (by first|(with_reducible assumption)|assumption);obtain⟨kF,e211,eJ,fB⟩:=at_T43 hZ.out dZ p211 q211
             (try rw [←Nbq19.out] at eJ)
             cases e211;replace eJ:=(HB.out.cell (World.block_lt_of_cell? w _ eJ)).trans eJ;replace fB:=(HB.out.cell (World.block_lt_of_cell? w _ fB)).trans fB;replace p211:=eq_true p211;replace q211:=eq_true q211;have p212:0≤(dZ:Int):=of_decide_eq_true (by first|(with_reducible assumption)|assumption);have q212:dZ<(((rd_T35 aV dQ).f1).length:Int):=of_decide_eq_true (by first|(with_reducible assumption)|assumption);obtain⟨uT,e212,iQ,jM⟩:=at_T43 hZ.out dZ p212 q212
             (try rw [←Nbq19.out] at iQ)
             obtain rfl:kF=uT:=(by injection e212);replace iQ:=(HB.out.cell (World.block_lt_of_cell? w _ iQ)).trans iQ;replace jM:=(HB.out.cell (World.block_lt_of_cell? w _ jM)).trans jM;replace p212:=eq_true p212;replace q212:=eq_true q212;have p213:0≤(dZ:Int):=of_decide_eq_true (by first|(with_reducible assumption)|assumption);have q213:dZ<(((rd_T35 aV dQ).f1).length:Int):=of_decide_eq_true (by first|(with_reducible assumption)|assumption);obtain⟨zJ,e213,kA,lO⟩:=at_T43 hZ.out dZ p213 q213
             (try rw [←Nbq19.out] at kA)
             obtain rfl:kF=zJ:=(by injection e213);replace kA:=(HB.out.cell (World.block_lt_of_cell? w _ kA)).trans kA;replace lO:=(HB.out.cell (World.block_lt_of_cell? w _ lO)).trans lO;replace p213:=eq_true p213;replace q213:=eq_true q213;go_wp2
             go_roundg k3
             case measure=>have:=HK1.out;have:=HJ4.out;have:=HK3.out;omega
             case rel=>exact⟨(wrap64 (dZ+1)),(by first|rfl|(simp;done)|(simp [*];done)),H',⟨by have:=HK1.out;have:=HJ4.out;have:=HK3.out;omega⟩,⟨gB cP.out⟩,⟨gB eO.out⟩,⟨gW HB.out⟩⟩
          ·replace c20:=Bool.eq_false_iff.mpr c20
           subst c20;have H1:(if((rd_T43 ((rd_T35 aV dQ).f1) dZ).f1)<0 then(some false) else(if((rd_T43 ((rd_T35 aV dQ).f1) dZ).f1)≥(aW.length:Int) then(some false) else(regletref13_Right.l1 k3 dQ (wrap64 (dZ+1)) aW aX bM bO aV ((rd_T35 aV dQ).f0) ((rd_T35 aV dQ).f1))))=some r:=by rw [if_neg (show ¬(false=true) by decide)] at H;exact H
           clear H;have H:=H1;clear H1
           by_cases c32:((rd_T43 ((rd_T35 aV dQ).f1) dZ).f1)<0
           ·rw [if_pos c32] at H
            have Ib:decide (((rd_T43 ((rd_T35 aV dQ).f1) dZ).f1)<0)=true:=decide_eq_true c32;clear c32;obtain rfl:=Option.some.inj H;have hnb33:=iK.out;have hnc33:=fV.out;have xG:wr.cell? ⟨iH,0,none⟩=some (.int .i64 ((rd_T35 aV dQ).f0)):=(aG eO.out 0).trans rfl;have xH:wr.cell? ⟨iH,1,none⟩=some (.slice lM ((rd_T35 aV dQ).f1).length lN):=(aG eO.out 1).trans rfl;have xI:=aH eO.out 0;have xJ:=aH eO.out 1;have mP:wr.cell? ⟨eA,0,none⟩=some (.slice cA aW.length cB):=(aG cP.out 0).trans rfl;have mQ:wr.cell? ⟨eA,1,none⟩=some (.slice cE aX.length cF):=(aG cP.out 1).trans rfl;have nP:wr.cell? ⟨eA,2,none⟩=some (.int .i64 bM):=(aG cP.out 2).trans rfl;have nQ:wr.cell? ⟨eA,3,none⟩=some (.int .i64 bO):=(aG cP.out 3).trans rfl;have nR:wr.cell? ⟨eA,4,none⟩=some (.slice (some lX) aV.length cG):=(aG cP.out 4).trans rfl;have mR:=aH cP.out 0;have mS:=aH cP.out 1;have nS:=aH cP.out 2;have nT:=aH cP.out 3;have nU:=aH cP.out 4;have p211:0≤(dZ:Int):=of_decide_eq_true (by first|(with_reducible assumption)|assumption);have q211:dZ<(((rd_T35 aV dQ).f1).length:Int):=of_decide_eq_true (by first|(with_reducible assumption)|assumption);obtain⟨kF,e211,eJ,fB⟩:=at_T43 hZ.out dZ p211 q211
            (try rw [←Nbq19.out] at eJ)
            cases e211;replace eJ:=(HB.out.cell (World.block_lt_of_cell? w _ eJ)).trans eJ;replace fB:=(HB.out.cell (World.block_lt_of_cell? w _ fB)).trans fB;replace p211:=eq_true p211;replace q211:=eq_true q211;have p214:0≤(dZ:Int):=of_decide_eq_true (by first|(with_reducible assumption)|assumption);have q214:dZ<(((rd_T35 aV dQ).f1).length:Int):=of_decide_eq_true (by first|(with_reducible assumption)|assumption);obtain⟨uU,e214,iR,jN⟩:=at_T43 hZ.out dZ p214 q214
            (try rw [←Nbq19.out] at iR)
            obtain rfl:kF=uU:=(by injection e214);replace iR:=(HB.out.cell (World.block_lt_of_cell? w _ iR)).trans iR;replace jN:=(HB.out.cell (World.block_lt_of_cell? w _ jN)).trans jN;replace p214:=eq_true p214;replace q214:=eq_true q214;go_wp2
            go_ret
            exact⟨by first|rfl|(simp [errW_none,errW_some]<;>rfl)|(simp [*,errW_none,errW_some]<;>rfl),gW HB.out⟩
           ·rw [if_neg c32] at H
            have Ib:decide (((rd_T43 ((rd_T35 aV dQ).f1) dZ).f1)<0)=false:=decide_eq_false c32;clear c32
            by_cases c36:((rd_T43 ((rd_T35 aV dQ).f1) dZ).f1)≥(aW.length:Int)
            ·rw [if_pos c36] at H
             have Ic:decide ((aW.length:Int)≤((rd_T43 ((rd_T35 aV dQ).f1) dZ).f1))=true:=decide_eq_true c36;clear c36;obtain rfl:=Option.some.inj H;have hnb37:=iK.out;have hnc37:=fV.out;have Ns:wr.cell? ⟨iH,0,none⟩=some (.int .i64 ((rd_T35 aV dQ).f0)):=(aG eO.out 0).trans rfl;have Nt:wr.cell? ⟨iH,1,none⟩=some (.slice lM ((rd_T35 aV dQ).f1).length lN):=(aG eO.out 1).trans rfl;have Nu:=aH eO.out 0;have Nv:=aH eO.out 1;have Ce:wr.cell? ⟨eA,0,none⟩=some (.slice cA aW.length cB):=(aG cP.out 0).trans rfl;have Cf:wr.cell? ⟨eA,1,none⟩=some (.slice cE aX.length cF):=(aG cP.out 1).trans rfl;have Cg:wr.cell? ⟨eA,2,none⟩=some (.int .i64 bM):=(aG cP.out 2).trans rfl;have Ch:wr.cell? ⟨eA,3,none⟩=some (.int .i64 bO):=(aG cP.out 3).trans rfl;have Ci:wr.cell? ⟨eA,4,none⟩=some (.slice (some lX) aV.length cG):=(aG cP.out 4).trans rfl;have Cj:=aH cP.out 0;have Ck:=aH cP.out 1;have Cl:=aH cP.out 2;have Cm:=aH cP.out 3;have Cn:=aH cP.out 4;have p211:0≤(dZ:Int):=of_decide_eq_true (by first|(with_reducible assumption)|assumption);have q211:dZ<(((rd_T35 aV dQ).f1).length:Int):=of_decide_eq_true (by first|(with_reducible assumption)|assumption);obtain⟨kF,e211,eJ,fB⟩:=at_T43 hZ.out dZ p211 q211
             (try rw [←Nbq19.out] at eJ)
             cases e211;replace eJ:=(HB.out.cell (World.block_lt_of_cell? w _ eJ)).trans eJ;replace fB:=(HB.out.cell (World.block_lt_of_cell? w _ fB)).trans fB;replace p211:=eq_true p211;replace q211:=eq_true q211;have p214:0≤(dZ:Int):=of_decide_eq_true (by first|(with_reducible assumption)|assumption);have q214:dZ<(((rd_T35 aV dQ).f1).length:Int):=of_decide_eq_true (by first|(with_reducible assumption)|assumption);obtain⟨uU,e214,iR,jN⟩:=at_T43 hZ.out dZ p214 q214
             (try rw [←Nbq19.out] at iR)
             obtain rfl:kF=uU:=(by injection e214);replace iR:=(HB.out.cell (World.block_lt_of_cell? w _ iR)).trans iR;replace jN:=(HB.out.cell (World.block_lt_of_cell? w _ jN)).trans jN;replace p214:=eq_true p214;replace q214:=eq_true q214;have p215:0≤(dZ:Int):=of_decide_eq_true (by first|(with_reducible assumption)|assumption);have q215:dZ<(((rd_T35 aV dQ).f1).length:Int):=of_decide_eq_true (by first|(with_reducible assumption)|assumption);obtain⟨zK,e215,kB,lP⟩:=at_T43 hZ.out dZ p215 q215
             (try rw [←Nbq19.out] at kB)
             obtain rfl:kF=zK:=(by injection e215);replace kB:=(HB.out.cell (World.block_lt_of_cell? w _ kB)).trans kB;replace lP:=(HB.out.cell (World.block_lt_of_cell? w _ lP)).trans lP;replace p215:=eq_true p215;replace q215:=eq_true q215;go_wp2
             go_ret
             exact⟨by first|rfl|(simp [errW_none,errW_some]<;>rfl)|(simp [*,errW_none,errW_some]<;>rfl),gW HB.out⟩
            ·rw [if_neg c36] at H
             have Ic:decide ((aW.length:Int)≤((rd_T43 ((rd_T35 aV dQ).f1) dZ).f1))=false:=decide_eq_false c36;clear c36;have H':=aM H;clear H;have hnb40:=iK.out;have hnc40:=fV.out;have qR:wr.cell? ⟨iH,0,none⟩=some (.int .i64 ((rd_T35 aV dQ).f0)):=(aG eO.out 0).trans rfl;have qS:wr.cell? ⟨iH,1,none⟩=some (.slice lM ((rd_T35 aV dQ).f1).length lN):=(aG eO.out 1).trans rfl;have qT:=aH eO.out 0;have qU:=aH eO.out 1;have Co:wr.cell? ⟨eA,0,none⟩=some (.slice cA aW.length cB):=(aG cP.out 0).trans rfl;have Cp:wr.cell? ⟨eA,1,none⟩=some (.slice cE aX.length cF):=(aG cP.out 1).trans rfl;have Nw:wr.cell? ⟨eA,2,none⟩=some (.int .i64 bM):=(aG cP.out 2).trans rfl;have Nx:wr.cell? ⟨eA,3,none⟩=some (.int .i64 bO):=(aG cP.out 3).trans rfl;have Ny:wr.cell? ⟨eA,4,none⟩=some (.slice (some lX) aV.length cG):=(aG cP.out 4).trans rfl;have Cq:=aH cP.out 0;have Cr:=aH cP.out 1;have Nz:=aH cP.out 2;have Oa:=aH cP.out 3;have Ob:=aH cP.out 4;have p211:0≤(dZ:Int):=of_decide_eq_true (by first|(with_reducible assumption)|assumption);have q211:dZ<(((rd_T35 aV dQ).f1).length:Int):=of_decide_eq_true (by first|(with_reducible assumption)|assumption);obtain⟨kF,e211,eJ,fB⟩:=at_T43 hZ.out dZ p211 q211
             (try rw [←Nbq19.out] at eJ)
             cases e211;replace eJ:=(HB.out.cell (World.block_lt_of_cell? w _ eJ)).trans eJ;replace fB:=(HB.out.cell (World.block_lt_of_cell? w _ fB)).trans fB;replace p211:=eq_true p211;replace q211:=eq_true q211;have p214:0≤(dZ:Int):=of_decide_eq_true (by first|(with_reducible assumption)|assumption);have q214:dZ<(((rd_T35 aV dQ).f1).length:Int):=of_decide_eq_true (by first|(with_reducible assumption)|assumption);obtain⟨uU,e214,iR,jN⟩:=at_T43 hZ.out dZ p214 q214
             (try rw [←Nbq19.out] at iR)
             obtain rfl:kF=uU:=(by injection e214);replace iR:=(HB.out.cell (World.block_lt_of_cell? w _ iR)).trans iR;replace jN:=(HB.out.cell (World.block_lt_of_cell? w _ jN)).trans jN;replace p214:=eq_true p214;replace q214:=eq_true q214;have p215:0≤(dZ:Int):=of_decide_eq_true (by first|(with_reducible assumption)|assumption);have q215:dZ<(((rd_T35 aV dQ).f1).length:Int):=of_decide_eq_true (by first|(with_reducible assumption)|assumption);obtain⟨zK,e215,kB,lP⟩:=at_T43 hZ.out dZ p215 q215
             (try rw [←Nbq19.out] at kB)
             obtain rfl:kF=zK:=(by injection e215);replace kB:=(HB.out.cell (World.block_lt_of_cell? w _ kB)).trans kB;replace lP:=(HB.out.cell (World.block_lt_of_cell? w _ lP)).trans lP;replace p215:=eq_true p215;replace q215:=eq_true q215;go_wp2
             go_roundg k3
             case measure=>have:=HK1.out;have:=HJ4.out;have:=HK3.out;omega
             case rel=>exact⟨(wrap64 (dZ+1)),(by first|rfl|(simp;done)|(simp [*];done)),H',⟨by have:=HK1.out;have:=HJ4.out;have:=HK3.out;omega⟩,⟨gB cP.out⟩,⟨gB eO.out⟩,⟨gW HB.out⟩⟩
         ·rw [if_neg c17] at H
          have rO:decide (dZ<(((rd_T35 aV dQ).f1).length:Int))=false:=decide_eq_false c17;clear c17;have H':=aM H;clear H;have hnb43:=iK.out;have hnc43:=fV.out;have Oc:wr.cell? ⟨iH,0,none⟩=some (.int .i64 ((rd_T35 aV dQ).f0)):=(aG eO.out 0).trans rfl;have Od:wr.cell? ⟨iH,1,none⟩=some (.slice lM ((rd_T35 aV dQ).f1).length lN):=(aG eO.out 1).trans rfl;have Oe:=aH eO.out 0;have Of:=aH eO.out 1;go_wp2
          go_roundg k3
          case measure=>have:=HK1.out;have:=HJ4.out;have:=HK3.out;omega
          case rel=>exact⟨(wrap64 (dQ+1)),(by first|rfl|(simp;done)|(simp [*];done)),H',⟨by have:=HK1.out;have:=HJ4.out;have:=HK3.out;omega⟩,⟨gB cP.out⟩,⟨gW HB.out⟩⟩
   ·rw [if_neg c3] at H
    have yM:decide (dQ<(aV.length:Int))=false:=decide_eq_false c3;clear c3;obtain rfl:=Option.some.inj H;have Og:wr.cell? ⟨eA,0,none⟩=some (.slice cA aW.length cB):=(aG cP.out 0).trans rfl;have Oh:wr.cell? ⟨eA,1,none⟩=some (.slice cE aX.length cF):=(aG cP.out 1).trans rfl;have Oi:wr.cell? ⟨eA,2,none⟩=some (.int .i64 bM):=(aG cP.out 2).trans rfl;have Oj:wr.cell? ⟨eA,3,none⟩=some (.int .i64 bO):=(aG cP.out 3).trans rfl;have Ok:wr.cell? ⟨eA,4,none⟩=some (.slice cK aV.length cG):=(aG cP.out 4).trans rfl;have Ol:=aH cP.out 0;have Om:=aH cP.out 1;have On:=aH cP.out 2;have Oo:=aH cP.out 3;have Oq:=aH cP.out 4;go_wp2
    go_ret
    exact⟨by first|rfl|(simp [errW_none,errW_some]<;>rfl)|(simp [*,errW_none,errW_some]<;>rfl),gW HB.out⟩
attribute [local go_sem] max2_int min2_int max_two min_two max_three min_three max_four min_four   -- for this text's walks alone
set_option linter.unusedVariables false
set_option linter.unusedSimpArgs false
mutual
def regletref16_Right.j0:Nat→List (List Int)→Bool→List ByteArray→List (S72)→Int→Int→List (S35)→Option (Bool)
 |0,_,_,_,_,_,_,_=>none
 |k+1,x1,x23,x217000,x217001,x217002,x217003,x217004=>if x23=true then(some false) else(regletref16_Right.l0 k x1 0 x217000 x217001 x217002 x217003 x217004)
def regletref16_Right.l0:Nat→List (List Int)→Int→List ByteArray→List (S72)→Int→Int→List (S35)→Option (Bool)
 |0,_,_,_,_,_,_,_=>none
 |k+1,x1,x5,x217000,x217001,x217002,x217003,x217004=>if x5<(x1.length:Int) then(if 0≤x5 then(if((rd_L5 x1 x5).length:Int)=(wrap64 ((x217001.length:Int)+1)) then(regletref16_Right.l1 k x1 x5 0 x217000 x217001 x217002 x217003 x217004) else(some false)) else(none)) else(some true)
def regletref16_Right.l1:Nat→List (List Int)→Int→Int→List ByteArray→List (S72)→Int→Int→List (S35)→Option (Bool)
 |0,_,_,_,_,_,_,_,_=>none
 |k+1,x1,x5,x6,x217000,x217001,x217002,x217003,x217004=>if 0≤x5 then(if x5<(x1.length:Int) then(if x6<((rd_L5 x1 x5).length:Int) then(if 0≤x6 then(if(rd (rd_L5 x1 x5) x6)<(-1) then(some false) else(if(rd (rd_L5 x1 x5) x6)≥(x217004.length:Int) then(some false) else(if(rd (rd_L5 x1 x5) x6)≥0 then(if 0≤(rd (rd_L5 x1 x5) x6) then(if(rd (rd_L5 x1 x5) x6)<(x217004.length:Int) then(if((rd_T35 x217004 (rd (rd_L5 x1 x5) x6)).f0)=x5 then(regletref16_Right.l1 k x1 x5 (wrap64 (x6+1)) x217000 x217001 x217002 x217003 x217004) else(some false)) else(none)) else(none)) else(regletref16_Right.l1 k x1 x5 (wrap64 (x6+1)) x217000 x217001 x217002 x217003 x217004)))) else(none)) else(regletref16_Right.l0 k x1 (wrap64 (x5+1)) x217000 x217001 x217002 x217003 x217004)) else(none)) else(none)
end
def regletref16_Right.f (k:Nat) (aW:List ByteArray) (aX:List (S72)) (bM:Int) (bO:Int) (aV:List (S35)) (l1:List (List Int)):Option (Bool):=(regletref13_Right.f k aW aX bM bO aV).bind fun t217=>(if t217=true then(if(aW.length:Int)=0 then(regletref16_Right.j0 k l1 true aW aX bM bO aV) else(regletref16_Right.j0 k l1 ((l1.length:Int) !=(aW.length:Int)) aW aX bM bO aV)) else(regletref16_Right.j0 k l1 true aW aX bM bO aV))
set_option maxHeartbeats 8000000 in
set_option maxRecDepth 100000 in
theorem regletref16_Right.calls (k:Nat) (cA:Option Addr) (cB:Nat) (aW:List ByteArray) (cE:Option Addr) (cF:Nat) (aX:List (S72)) (bM:Int) (bO:Int) (cK:Option Addr) (cG:Nat) (aV:List (S35)) (A1:Option Addr) (c1:Nat) (l1:List (List Int)) (r:Bool) (w:World) (fU:Kd.C Kd.string w cA aW.length aW) (gG:aW.length≤cB) (gH:Kd.C k72 w cE aX.length aX) (hU:aX.length≤cF) (gA:Kd.C k35 w cK aV.length aV) (iB:aV.length≤cG) (hr1:Kd.C (Kd.slice 3 (Kd.int .i64)) w A1 l1.length l1) (hc1:l1.length≤c1) (h:regletref16_Right.f k aW aX bM bO aV l1=some r):
 Calls Try.prog 27 #[.agg #[.slice cA aW.length cB,.slice cE aX.length cF,.int .i64 bM,.int .i64 bO,.slice cK aV.length cG],.slice A1 l1.length c1] w fun e w'=>e= .returned (.bool r)∧Below w.heap.size w w':=by
 have hu26:=Try.underlying26;have gP:=aM fU;have iA:=aM gG;clear fU gG;have iE:=aM gH;have iF:=aM hU;clear gH hU;have gI:=aM gA;have iG:=aM iB;clear gA iB;have HR1:=aM hr1;have HC1:=aM hc1;clear hr1 hc1;have HB:=aM (Below.refl w.heap.size w);have H:((regletref13_Right.f k aW aX bM bO aV).bind fun t217=>(if t217=true then(if(aW.length:Int)=0 then(regletref16_Right.j0 k l1 true aW aX bM bO aV) else(regletref16_Right.j0 k l1 ((l1.length:Int) !=(aW.length:Int)) aW aX bM bO aV)) else(regletref16_Right.j0 k l1 true aW aX bM bO aV)))=some r:=h;clear h;have HC3:=aM H;clear H;go_enter Try.func27,Try.ntmps27
 go_upto_region 1 with(first|((with_reducible refine bJ (N:=2) rfl ?_);(try(refine gate_guard (by rfl) ?_;dsimp only));refine box_event ?hg (N:=2) ?hd (cs:=#[.slice cA aW.length cB,.slice cE aX.length cF,.int .i64 bM,.int .i64 bO,.slice cK aV.length cG]) (t:=26) ?hr ?_;(case hd=>rfl);(case hg=>rfl);(case hr=>first|(go_simp;done)|(go_simp;rfl));intro dC hg w4 hbox hb;have bX:=aM (bG (gW HB.out) hb);have bY:=aM (hbox);have cC:=aM ((by rw [hg];exact(bH (gW HB.out)):w.heap.size≤dC));have cD:=aM ((by rw [hg];exact(bH (gW HB.out)):w.heap.size≤dC));clear HB;have HB:=bX;have bW:=bY;have GW216:=cC;have Fc:=cD;clear bX bY cC cD;clear hb hbox hg))
 repeat(go_quiet (first|((with_reducible refine bJ (N:=2) rfl ?_);(try(refine gate_guard (by rfl) ?_;dsimp only));refine box_event ?hg (N:=2) ?hd (cs:=#[.slice cA aW.length cB,.slice cE aX.length cF,.int .i64 bM,.int .i64 bO,.slice cK aV.length cG]) (t:=26) ?hr ?_;(case hd=>rfl);(case hg=>rfl);(case hr=>first|(go_simp;done)|(go_simp;rfl));intro dC hg w4 hbox hb;have bX:=aM (bG (gW HB.out) hb);have bY:=aM (hbox);have cC:=aM ((by rw [hg];exact(bH (gW HB.out)):w.heap.size≤dC));have cD:=aM ((by rw [hg];exact(bH (gW HB.out)):w.heap.size≤dC));clear HB;have HB:=bX;have bW:=bY;have GW216:=cC;have Fc:=cD;clear bX bY cC cD;clear hb hbox hg));go_upto_region 1 with(first|((with_reducible refine bJ (N:=2) rfl ?_);(try(refine gate_guard (by rfl) ?_;dsimp only));refine box_event ?hg (N:=2) ?hd (cs:=#[.slice cA aW.length cB,.slice cE aX.length cF,.int .i64 bM,.int .i64 bO,.slice cK aV.length cG]) (t:=26) ?hr ?_;(case hd=>rfl);(case hg=>rfl);(case hr=>first|(go_simp;done)|(go_simp;rfl));intro dC hg w4 hbox hb;have bX:=aM (bG (gW HB.out) hb);have bY:=aM (hbox);have cC:=aM ((by rw [hg];exact(bH (gW HB.out)):w.heap.size≤dC));have cD:=aM ((by rw [hg];exact(bH (gW HB.out)):w.heap.size≤dC));clear HB;have HB:=bX;have bW:=bY;have GW216:=cC;have Fc:=cD;clear bX bY cC cD;clear hb hbox hg)))
 (try simp only [Act.put,List.setIfInBounds_toArray,List.set_cons_zero,List.set_cons_succ])
 go_cut [23] (fun v23 wc=>∃(kq:Nat) (xK:Bool),v23= .bool xK∧Aside0 (regletref16_Right.j0 kq l1 xK aW aX bM bO aV=some r)∧Aside0 (kq≤k)∧Aside0 (wc.heap[dC]?=some (.cells #[(.slice cA aW.length cB),(.slice cE aX.length cF),.int .i64 bM,.int .i64 bO,(.slice cK aV.length cG)] 26 (0,0)))∧Aside0 (Below w.heap.size w wc))
 case first=>
  have H:=HC3.out;clear HC3;replace H:=Option.bind_eq_some_iff.mp H;obtain⟨t217,A50,H⟩:=H;replace H:(if t217=true then(if(aW.length:Int)=0 then(regletref16_Right.j0 k l1 true aW aX bM bO aV) else(regletref16_Right.j0 k l1 ((l1.length:Int) !=(aW.length:Int)) aW aX bM bO aV)) else(regletref16_Right.j0 k l1 true aW aX bM bO aV))=some r:=H;have A5:=aM A50;clear A50
  by_cases c6:t217=true
  ·subst c6
   have H1:(if(aW.length:Int)=0 then(regletref16_Right.j0 k l1 true aW aX bM bO aV) else(regletref16_Right.j0 k l1 ((l1.length:Int) !=(aW.length:Int)) aW aX bM bO aV))=some r:=by rw [if_pos rfl] at H;exact H
   clear H;have H:=H1;clear H1
   by_cases c7:(aW.length:Int)=0
   ·rw [if_pos c7] at H
    have rX:((aW.length:Int)==0)=true:=beq_iff_eq.mpr c7;have yN:((aW.length:Int) !=0)=false:=bne_eq_false_iff_eq.mpr c7;clear c7
    (first|rw [rX]|(simp only [i64_w,i32_w];rw [rX])|skip)
    have H':=aM H;clear H;have pI:w4.cell? ⟨dC,0,none⟩=some (.slice cA aW.length cB):=(aG bW.out 0).trans rfl;have pJ:w4.cell? ⟨dC,1,none⟩=some (.slice cE aX.length cF):=(aG bW.out 1).trans rfl;have wD:w4.cell? ⟨dC,2,none⟩=some (.int .i64 bM):=(aG bW.out 2).trans rfl;have wE:w4.cell? ⟨dC,3,none⟩=some (.int .i64 bO):=(aG bW.out 3).trans rfl;have wF:w4.cell? ⟨dC,4,none⟩=some (.slice cK aV.length cG):=(aG bW.out 4).trans rfl;have pK:=aH bW.out 0;have pL:=aH bW.out 1;have wG:=aH bW.out 2;have wH:=aH bW.out 3;have wI:=aH bW.out 4
    go_wp2_with (first|(go_at_call 30;(with_reducible refine(regletref13_Right.calls k _ _ aW _ _ aX bM bO _ _ aV true _ ?side1 ?side2 ?side3 ?side4 ?side5 ?side6 A5.out).mono ?_);(case side1=>exact gC (bD gP.out HB.out));(case side2=>exact iA.out);(case side3=>exact gC (bD iE.out HB.out));(case side4=>exact iF.out);(case side5=>exact gC (bD gI.out HB.out));(case side6=>exact iG.out);rintro e w9 ⟨rfl,hb⟩;have bX:=aM (bF (gB bW.out) hb);have bY:=aM (bG (gW HB.out) hb);clear bW;clear HB;have bW:=bX;have HB:=bY;clear bX bY;(try clear hb);(try clear hb2);(try clear hk);(try clear hi);have mT:w9.cell? ⟨dC,0,none⟩=some (.slice cA aW.length cB):=(aG bW.out 0).trans rfl;have mU:w9.cell? ⟨dC,1,none⟩=some (.slice cE aX.length cF):=(aG bW.out 1).trans rfl;have nV:w9.cell? ⟨dC,2,none⟩=some (.int .i64 bM):=(aG bW.out 2).trans rfl;have nW:w9.cell? ⟨dC,3,none⟩=some (.int .i64 bO):=(aG bW.out 3).trans rfl;have nX:w9.cell? ⟨dC,4,none⟩=some (.slice cK aV.length cG):=(aG bW.out 4).trans rfl;have mV:=aH bW.out 0;have mW:=aH bW.out 1;have nY:=aH bW.out 2;have nZ:=aH bW.out 3;have oA:=aH bW.out 4))
    repeat(go_quiet (first|(go_at_call 30;(with_reducible refine(regletref13_Right.calls k _ _ aW _ _ aX bM bO _ _ aV true _ ?side1 ?side2 ?side3 ?side4 ?side5 ?side6 A5.out).mono ?_);(case side1=>exact gC (bD gP.out HB.out));(case side2=>exact iA.out);(case side3=>exact gC (bD iE.out HB.out));(case side4=>exact iF.out);(case side5=>exact gC (bD gI.out HB.out));(case side6=>exact iG.out);rintro e w9 ⟨rfl,hb⟩;have bX:=aM (bF (gB bW.out) hb);have bY:=aM (bG (gW HB.out) hb);clear bW;clear HB;have bW:=bX;have HB:=bY;clear bX bY;(try clear hb);(try clear hb2);(try clear hk);(try clear hi);have mT:w9.cell? ⟨dC,0,none⟩=some (.slice cA aW.length cB):=(aG bW.out 0).trans rfl;have mU:w9.cell? ⟨dC,1,none⟩=some (.slice cE aX.length cF):=(aG bW.out 1).trans rfl;have nV:w9.cell? ⟨dC,2,none⟩=some (.int .i64 bM):=(aG bW.out 2).trans rfl;have nW:w9.cell? ⟨dC,3,none⟩=some (.int .i64 bO):=(aG bW.out 3).trans rfl;have nX:w9.cell? ⟨dC,4,none⟩=some (.slice cK aV.length cG):=(aG bW.out 4).trans rfl;have mV:=aH bW.out 0;have mW:=aH bW.out 1;have nY:=aH bW.out 2;have nZ:=aH bW.out 3;have oA:=aH bW.out 4));try go_wp2_with (first|(go_at_call 30;(with_reducible refine(regletref13_Right.calls k _ _ aW _ _ aX bM bO _ _ aV true _ ?side1 ?side2 ?side3 ?side4 ?side5 ?side6 A5.out).mono ?_);(case side1=>exact gC (bD gP.out HB.out));(case side2=>exact iA.out);(case side3=>exact gC (bD iE.out HB.out));(case side4=>exact iF.out);(case side5=>exact gC (bD gI.out HB.out));(case side6=>exact iG.out);rintro e w9 ⟨rfl,hb⟩;have bX:=aM (bF (gB bW.out) hb);have bY:=aM (bG (gW HB.out) hb);clear bW;clear HB;have bW:=bX;have HB:=bY;clear bX bY;(try clear hb);(try clear hb2);(try clear hk);(try clear hi);have mT:w9.cell? ⟨dC,0,none⟩=some (.slice cA aW.length cB):=(aG bW.out 0).trans rfl;have mU:w9.cell? ⟨dC,1,none⟩=some (.slice cE aX.length cF):=(aG bW.out 1).trans rfl;have nV:w9.cell? ⟨dC,2,none⟩=some (.int .i64 bM):=(aG bW.out 2).trans rfl;have nW:w9.cell? ⟨dC,3,none⟩=some (.int .i64 bO):=(aG bW.out 3).trans rfl;have nX:w9.cell? ⟨dC,4,none⟩=some (.slice cK aV.length cG):=(aG bW.out 4).trans rfl;have mV:=aH bW.out 0;have mW:=aH bW.out 1;have nY:=aH bW.out 2;have nZ:=aH bW.out 3;have oA:=aH bW.out 4)))
    go_meet
    case rel=>exact⟨_,(true),(by first|rfl|(simp;done)|(simp [*];done)),H',⟨by first|omega|exact Nat.le_refl _⟩,⟨gB bW.out⟩,⟨gW HB.out⟩⟩
   ·rw [if_neg c7] at H
    have rX:((aW.length:Int)==0)=false:=beq_eq_false_iff_ne.mpr c7;have yN:((aW.length:Int) !=0)=true:=bne_iff_ne.mpr c7;have Gl:¬(aW= []):=fun h_=>c7 (by rw [h_];rfl)
    (first|rw [rX]|(simp only [i64_w,i32_w];rw [rX])|skip)
    have H':=aM H;clear H;have lZ:w4.cell? ⟨dC,0,none⟩=some (.slice cA aW.length cB):=(aG bW.out 0).trans rfl;have mA:w4.cell? ⟨dC,1,none⟩=some (.slice cE aX.length cF):=(aG bW.out 1).trans rfl;have sD:w4.cell? ⟨dC,2,none⟩=some (.int .i64 bM):=(aG bW.out 2).trans rfl;have sE:w4.cell? ⟨dC,3,none⟩=some (.int .i64 bO):=(aG bW.out 3).trans rfl;have sF:w4.cell? ⟨dC,4,none⟩=some (.slice cK aV.length cG):=(aG bW.out 4).trans rfl;have mB:=aH bW.out 0;have mC:=aH bW.out 1;have sG:=aH bW.out 2;have sH:=aH bW.out 3;have sI:=aH bW.out 4
    go_wp2_with (first|(go_at_call 30;(with_reducible refine(regletref13_Right.calls k _ _ aW _ _ aX bM bO _ _ aV true _ ?side1 ?side2 ?side3 ?side4 ?side5 ?side6 A5.out).mono ?_);(case side1=>exact gC (bD gP.out HB.out));(case side2=>exact iA.out);(case side3=>exact gC (bD iE.out HB.out));(case side4=>exact iF.out);(case side5=>exact gC (bD gI.out HB.out));(case side6=>exact iG.out);rintro e w12 ⟨rfl,hb⟩;have bX:=aM (bF (gB bW.out) hb);have bY:=aM (bG (gW HB.out) hb);clear bW;clear HB;have bW:=bX;have HB:=bY;clear bX bY;(try clear hb);(try clear hb2);(try clear hk);(try clear hi);have mX:w12.cell? ⟨dC,0,none⟩=some (.slice cA aW.length cB):=(aG bW.out 0).trans rfl;have mY:w12.cell? ⟨dC,1,none⟩=some (.slice cE aX.length cF):=(aG bW.out 1).trans rfl;have oB:w12.cell? ⟨dC,2,none⟩=some (.int .i64 bM):=(aG bW.out 2).trans rfl;have oC:w12.cell? ⟨dC,3,none⟩=some (.int .i64 bO):=(aG bW.out 3).trans rfl;have oD:w12.cell? ⟨dC,4,none⟩=some (.slice cK aV.length cG):=(aG bW.out 4).trans rfl;have mZ:=aH bW.out 0;have nA:=aH bW.out 1;have oE:=aH bW.out 2;have oF:=aH bW.out 3;have oG:=aH bW.out 4))
    repeat(go_quiet (first|(go_at_call 30;(with_reducible refine(regletref13_Right.calls k _ _ aW _ _ aX bM bO _ _ aV true _ ?side1 ?side2 ?side3 ?side4 ?side5 ?side6 A5.out).mono ?_);(case side1=>exact gC (bD gP.out HB.out));(case side2=>exact iA.out);(case side3=>exact gC (bD iE.out HB.out));(case side4=>exact iF.out);(case side5=>exact gC (bD gI.out HB.out));(case side6=>exact iG.out);rintro e w12 ⟨rfl,hb⟩;have bX:=aM (bF (gB bW.out) hb);have bY:=aM (bG (gW HB.out) hb);clear bW;clear HB;have bW:=bX;have HB:=bY;clear bX bY;(try clear hb);(try clear hb2);(try clear hk);(try clear hi);have mX:w12.cell? ⟨dC,0,none⟩=some (.slice cA aW.length cB):=(aG bW.out 0).trans rfl;have mY:w12.cell? ⟨dC,1,none⟩=some (.slice cE aX.length cF):=(aG bW.out 1).trans rfl;have oB:w12.cell? ⟨dC,2,none⟩=some (.int .i64 bM):=(aG bW.out 2).trans rfl;have oC:w12.cell? ⟨dC,3,none⟩=some (.int .i64 bO):=(aG bW.out 3).trans rfl;have oD:w12.cell? ⟨dC,4,none⟩=some (.slice cK aV.length cG):=(aG bW.out 4).trans rfl;have mZ:=aH bW.out 0;have nA:=aH bW.out 1;have oE:=aH bW.out 2;have oF:=aH bW.out 3;have oG:=aH bW.out 4));try go_wp2_with (first|(go_at_call 30;(with_reducible refine(regletref13_Right.calls k _ _ aW _ _ aX bM bO _ _ aV true _ ?side1 ?side2 ?side3 ?side4 ?side5 ?side6 A5.out).mono ?_);(case side1=>exact gC (bD gP.out HB.out));(case side2=>exact iA.out);(case side3=>exact gC (bD iE.out HB.out));(case side4=>exact iF.out);(case side5=>exact gC (bD gI.out HB.out));(case side6=>exact iG.out);rintro e w12 ⟨rfl,hb⟩;have bX:=aM (bF (gB bW.out) hb);have bY:=aM (bG (gW HB.out) hb);clear bW;clear HB;have bW:=bX;have HB:=bY;clear bX bY;(try clear hb);(try clear hb2);(try clear hk);(try clear hi);have mX:w12.cell? ⟨dC,0,none⟩=some (.slice cA aW.length cB):=(aG bW.out 0).trans rfl;have mY:w12.cell? ⟨dC,1,none⟩=some (.slice cE aX.length cF):=(aG bW.out 1).trans rfl;have oB:w12.cell? ⟨dC,2,none⟩=some (.int .i64 bM):=(aG bW.out 2).trans rfl;have oC:w12.cell? ⟨dC,3,none⟩=some (.int .i64 bO):=(aG bW.out 3).trans rfl;have oD:w12.cell? ⟨dC,4,none⟩=some (.slice cK aV.length cG):=(aG bW.out 4).trans rfl;have mZ:=aH bW.out 0;have nA:=aH bW.out 1;have oE:=aH bW.out 2;have oF:=aH bW.out 3;have oG:=aH bW.out 4)))
    go_meet
    case rel=>exact⟨_,(((l1.length:Int) !=(aW.length:Int))),(by first|rfl|(simp;done)|(simp [*];done)),H',⟨by first|omega|exact Nat.le_refl _⟩,⟨gB bW.out⟩,⟨gW HB.out⟩⟩
  ·replace c6:=Bool.eq_false_iff.mpr c6
   subst c6;have H1:(regletref16_Right.j0 k l1 true aW aX bM bO aV)=some r:=by rw [if_neg (show ¬(false=true) by decide)] at H;exact H
   clear H;have H:=H1;clear H1;have H':=aM H;clear H;have mH:w4.cell? ⟨dC,0,none⟩=some (.slice cA aW.length cB):=(aG bW.out 0).trans rfl;have mI:w4.cell? ⟨dC,1,none⟩=some (.slice cE aX.length cF):=(aG bW.out 1).trans rfl;have sJ:w4.cell? ⟨dC,2,none⟩=some (.int .i64 bM):=(aG bW.out 2).trans rfl;have sK:w4.cell? ⟨dC,3,none⟩=some (.int .i64 bO):=(aG bW.out 3).trans rfl;have sL:w4.cell? ⟨dC,4,none⟩=some (.slice cK aV.length cG):=(aG bW.out 4).trans rfl;have mJ:=aH bW.out 0;have mK:=aH bW.out 1;have sM:=aH bW.out 2;have sN:=aH bW.out 3;have sO:=aH bW.out 4
   go_wp2_with (first|(go_at_call 30;(with_reducible refine(regletref13_Right.calls k _ _ aW _ _ aX bM bO _ _ aV false _ ?side1 ?side2 ?side3 ?side4 ?side5 ?side6 A5.out).mono ?_);(case side1=>exact gC (bD gP.out HB.out));(case side2=>exact iA.out);(case side3=>exact gC (bD iE.out HB.out));(case side4=>exact iF.out);(case side5=>exact gC (bD gI.out HB.out));(case side6=>exact iG.out);rintro e w15 ⟨rfl,hb⟩;have bX:=aM (bF (gB bW.out) hb);have bY:=aM (bG (gW HB.out) hb);clear bW;clear HB;have bW:=bX;have HB:=bY;clear bX bY;(try clear hb);(try clear hb2);(try clear hk);(try clear hi)))
   repeat(go_quiet (first|(go_at_call 30;(with_reducible refine(regletref13_Right.calls k _ _ aW _ _ aX bM bO _ _ aV false _ ?side1 ?side2 ?side3 ?side4 ?side5 ?side6 A5.out).mono ?_);(case side1=>exact gC (bD gP.out HB.out));(case side2=>exact iA.out);(case side3=>exact gC (bD iE.out HB.out));(case side4=>exact iF.out);(case side5=>exact gC (bD gI.out HB.out));(case side6=>exact iG.out);rintro e w15 ⟨rfl,hb⟩;have bX:=aM (bF (gB bW.out) hb);have bY:=aM (bG (gW HB.out) hb);clear bW;clear HB;have bW:=bX;have HB:=bY;clear bX bY;(try clear hb);(try clear hb2);(try clear hk);(try clear hi)));try go_wp2_with (first|(go_at_call 30;(with_reducible refine(regletref13_Right.calls k _ _ aW _ _ aX bM bO _ _ aV false _ ?side1 ?side2 ?side3 ?side4 ?side5 ?side6 A5.out).mono ?_);(case side1=>exact gC (bD gP.out HB.out));(case side2=>exact iA.out);(case side3=>exact gC (bD iE.out HB.out));(case side4=>exact iF.out);(case side5=>exact gC (bD gI.out HB.out));(case side6=>exact iG.out);rintro e w15 ⟨rfl,hb⟩;have bX:=aM (bF (gB bW.out) hb);have bY:=aM (bG (gW HB.out) hb);clear bW;clear HB;have bW:=bX;have HB:=bY;clear bX bY;(try clear hb);(try clear hb2);(try clear hk);(try clear hi))))
   go_meet
   case rel=>exact⟨_,(true),(by first|rfl|(simp;done)|(simp [*];done)),H',⟨by first|omega|exact Nat.le_refl _⟩,⟨gB bW.out⟩,⟨gW HB.out⟩⟩
 case rest=>
  clear HC3
  (try clear c1);(try clear c2);(try clear p2);(try clear c6);(try clear c7);(try clear rX);(try clear yN);(try clear Gl);(try clear mT);(try clear mU);(try clear nV);(try clear nW);(try clear nX);(try clear lZ);(try clear mA);(try clear sD);(try clear sE);(try clear sF);(try clear mX);(try clear mY);(try clear oB);(try clear oC)
  (try clear oD);(try clear mH);(try clear mI);(try clear sJ);(try clear sK);(try clear sL);(try clear pI);(try clear pJ);(try clear wD);(try clear wE);(try clear wF);(try clear mV);(try clear mW);(try clear nY);(try clear nZ);(try clear oA);(try clear mB);(try clear mC);(try clear sG);(try clear sH);(try clear sI)
  (try clear mZ);(try clear nA);(try clear oE);(try clear oF);(try clear oG);(try clear mJ);(try clear mK);(try clear sM);(try clear sN);(try clear sO);(try clear pK);(try clear pL);(try clear wG);(try clear wH);(try clear wI)
  obtain⟨kq,xK,rfl,HA,HJ2,bW,HB⟩:=hcut
  cases kq with
  |zero=>exact absurd HA.out (by simp [regletref16_Right.j0])
  |succ Gk=>
   have H:=HA.out;clear HA;simp only [regletref16_Right.j0] at H
   by_cases c16:xK=true
   ·subst c16
    have H1:(some false)=some r:=by rw [if_pos rfl] at H;exact H
    clear H;have H:=H1;clear H1;obtain rfl:=Option.some.inj H;go_wp2
    repeat(go_quiet (fail);try go_wp2)
    go_ret
    exact⟨by first|rfl|(simp [errW_none,errW_some]<;>rfl)|(simp [*,errW_none,errW_some]<;>rfl),gW HB.out⟩
   ·replace c16:=Bool.eq_false_iff.mpr c16
    subst c16;have H1:(regletref16_Right.l0 Gk l1 0 aW aX bM bO aV)=some r:=by rw [if_neg (show ¬(false=true) by decide)] at H;exact H
    clear H;have H:=H1;clear H1;have H':=aM H;clear H;go_wp2
    repeat(go_quiet (fail);try go_wp2)
    go_loopg [5] Gk (fun kq v5 w'=>∃(cM:Int),v5= .int .i64 cM∧Aside0 (regletref16_Right.l0 kq l1 cM aW aX bM bO aV=some r)∧Aside0 (kq≤Gk)∧Aside0 (w'.heap[dC]?=some (.cells #[(.slice cA aW.length cB),(.slice cE aX.length cF),.int .i64 bM,.int .i64 bO,(.slice cK aV.length cG)] 26 (0,0)))∧Aside0 (Below w.heap.size w w'))
    case atStart=>exact⟨(0),(by first|rfl|(simp;done)|(simp [*];done)),H',⟨Nat.le_refl _⟩,⟨gB bW.out⟩,⟨gW HB.out⟩⟩
    case round=>
     clear H'
     (try clear c1);(try clear c2);(try clear p2);(try clear c6);(try clear c7);(try clear rX);(try clear yN);(try clear Gl);(try clear c16);(try clear mT);(try clear mU);(try clear nV);(try clear nW);(try clear nX);(try clear lZ);(try clear mA);(try clear sD);(try clear sE);(try clear sF);(try clear mX);(try clear mY);(try clear oB)
     (try clear oC);(try clear oD);(try clear mH);(try clear mI);(try clear sJ);(try clear sK);(try clear sL);(try clear pI);(try clear pJ);(try clear wD);(try clear wE);(try clear wF);(try clear mV);(try clear mW);(try clear nY);(try clear nZ);(try clear oA);(try clear mB);(try clear mC);(try clear sG);(try clear sH)
     (try clear sI);(try clear mZ);(try clear nA);(try clear oE);(try clear oF);(try clear oG);(try clear mJ);(try clear mK);(try clear sM);(try clear sN);(try clear sO);(try clear pK);(try clear pL);(try clear wG);(try clear wH);(try clear wI);(try clear p2)
     obtain⟨cM,rfl,HA,HK2,bW,HB⟩:=hrel
     cases gk with
     |zero=>exact absurd HA.out (by simp [regletref16_Right.l0])
     |succ k2=>
      have H:=HA.out;clear HA;simp only [regletref16_Right.l0] at H
      by_cases c17:cM<(l1.length:Int)
      ·rw [if_pos c17] at H
       have rO:decide (cM<(l1.length:Int))=true:=decide_eq_true c17;clear c17
       by_cases c18:0≤cM
       rotate_left
       ·rw [if_neg c18] at H
        exact absurd H (by simp)
       rw [if_pos c18] at H;have Fa:decide (0≤cM)=true:=decide_eq_true c18;clear c18
       by_cases c19:((rd_L5 l1 cM).length:Int)=(wrap64 ((aX.length:Int)+1))
       ·rw [if_pos c19] at H
        have Fd:(((rd_L5 l1 cM).length:Int)==(wrap64 ((aX.length:Int)+1)))=true:=beq_iff_eq.mpr c19;have Fe:(((rd_L5 l1 cM).length:Int) !=(wrap64 ((aX.length:Int)+1)))=false:=bne_eq_false_iff_eq.mpr c19;clear c19;have H':=aM H;clear H;have p218:0≤(cM:Int):=of_decide_eq_true (by first|(with_reducible assumption)|assumption);have q218:cM<(l1.length:Int):=of_decide_eq_true (by first|(with_reducible assumption)|assumption);obtain⟨jG,Gm,Gn,e218,kS,oH,oI⟩:=at_L5 HR1.out cM p218 q218
        cases e218;replace kS:=(HB.out.cell (World.block_lt_of_cell? w _ kS)).trans kS;have Cs:=aM oI;have Ct:=aM oH;clear oI oH;replace p218:=eq_true p218;replace q218:=eq_true q218;have mD:wr.cell? ⟨dC,0,none⟩=some (.slice cA aW.length cB):=(aG bW.out 0).trans rfl;have mE:wr.cell? ⟨dC,1,none⟩=some (.slice cE aX.length cF):=(aG bW.out 1).trans rfl;have Cu:wr.cell? ⟨dC,2,none⟩=some (.int .i64 bM):=(aG bW.out 2).trans rfl;have Cv:wr.cell? ⟨dC,3,none⟩=some (.int .i64 bO):=(aG bW.out 3).trans rfl;have Cw:wr.cell? ⟨dC,4,none⟩=some (.slice cK aV.length cG):=(aG bW.out 4).trans rfl;have mF:=aH bW.out 0;have mG:=aH bW.out 1;have Cx:=aH bW.out 2;have Cy:=aH bW.out 3;have Cz:=aH bW.out 4;go_wp2
        repeat(go_quiet (fail);try go_wp2)
        go_loopg [6] k2 (fun kq v6 w'=>∃(eF:Int),v6= .int .i64 eF∧Aside0 (regletref16_Right.l1 kq l1 cM eF aW aX bM bO aV=some r)∧Aside0 (kq≤k2)∧Aside0 (w'.heap[dC]?=some (.cells #[(.slice cA aW.length cB),(.slice cE aX.length cF),.int .i64 bM,.int .i64 bO,(.slice cK aV.length cG)] 26 (0,0)))∧Aside0 (Below w.heap.size w w'))
        case atStart=>exact⟨(0),(by first|rfl|(simp;done)|(simp [*];done)),H',⟨Nat.le_refl _⟩,⟨gB bW.out⟩,⟨gW HB.out⟩⟩
        case round=>
         clear H'
         (try clear c1);(try clear c2);(try clear p2);(try clear q2);(try clear hx2);(try clear c6);(try clear p6);(try clear c7);(try clear rX);(try clear yN);(try clear Gl);(try clear c16);(try clear c17);(try clear rO);(try clear c18);(try clear Fa);(try clear c19);(try clear Fd);(try clear Fe);(try clear mT);(try clear mU);(try clear nV);(try clear nW);(try clear nX)
         (try clear lZ);(try clear mA);(try clear sD);(try clear sE);(try clear sF);(try clear mX);(try clear mY);(try clear oB);(try clear oC);(try clear oD);(try clear mH);(try clear mI);(try clear sJ);(try clear sK);(try clear sL);(try clear mD);(try clear mE);(try clear Cu);(try clear Cv);(try clear Cw);(try clear pI)
         (try clear pJ);(try clear wD);(try clear wE);(try clear wF);(try clear mV);(try clear mW);(try clear nY);(try clear nZ);(try clear oA);(try clear mB);(try clear mC);(try clear sG);(try clear sH);(try clear sI);(try clear mZ);(try clear nA);(try clear oE);(try clear oF);(try clear oG);(try clear mJ);(try clear mK)
         (try clear sM);(try clear sN);(try clear sO);(try clear mF);(try clear mG);(try clear Cx);(try clear Cy);(try clear Cz);(try clear pK);(try clear pL);(try clear wG);(try clear wH);(try clear wI);(try clear kS);(try clear p2);(try clear p218);(try clear q218)
         obtain⟨eF,rfl,HA,HK3,bW,HB⟩:=hrel
         cases gk with
         |zero=>exact absurd HA.out (by simp [regletref16_Right.l1])
         |succ k3=>
          have H:=HA.out;clear HA;simp only [regletref16_Right.l1] at H
          by_cases c21:0≤cM
          rotate_left
          ·rw [if_neg c21] at H
           exact absurd H (by simp)
          rw [if_pos c21] at H;have Fb:decide (0≤cM)=true:=decide_eq_true c21;clear c21
          by_cases c22:cM<(l1.length:Int)
          rotate_left
          ·rw [if_neg c22] at H
           exact absurd H (by simp)
          rw [if_pos c22] at H;have zL:decide (cM<(l1.length:Int))=true:=decide_eq_true c22;clear c22
          by_cases c23:eF<((rd_L5 l1 cM).length:Int)
          ·rw [if_pos c23] at H
           have zM:decide (eF<((rd_L5 l1 cM).length:Int))=true:=decide_eq_true c23;clear c23
           by_cases c24:0≤eF
           rotate_left
           ·rw [if_neg c24] at H
            exact absurd H (by simp)
           rw [if_pos c24] at H;have Ff:decide (0≤eF)=true:=decide_eq_true c24;clear c24
           by_cases c25:(rd (rd_L5 l1 cM) eF)<(-1)
           ·rw [if_pos c25] at H
            have zI:decide ((rd (rd_L5 l1 cM) eF)<(-1))=true:=decide_eq_true c25;clear c25;obtain rfl:=Option.some.inj H;have p219:0≤(cM:Int):=of_decide_eq_true (by first|(with_reducible assumption)|assumption);have q219:cM<(l1.length:Int):=of_decide_eq_true (by first|(with_reducible assumption)|assumption);obtain⟨lY,rR,rS,e219,dR,gQ,gT⟩:=at_L5 HR1.out cM p219 q219;obtain rfl:jG=lY:=(by injection e219);replace dR:=(HB.out.cell (World.block_lt_of_cell? w _ dR)).trans dR;have oJ:=aM gT;have oK:=aM gQ;clear gT gQ;replace p219:=eq_true p219;replace q219:=eq_true q219;have p220:0≤(cM:Int):=of_decide_eq_true (by first|(with_reducible assumption)|assumption);have q220:cM<(l1.length:Int):=of_decide_eq_true (by first|(with_reducible assumption)|assumption);obtain⟨oL,sP,sQ,e220,eZ,iS,iT⟩:=at_L5 HR1.out cM p220 q220;obtain rfl:jG=oL:=(by injection e220);replace eZ:=(HB.out.cell (World.block_lt_of_cell? w _ eZ)).trans eZ;have kC:=aM iT;have qV:=aM iS;clear iT iS;replace p220:=eq_true p220;replace q220:=eq_true q220;have ea_:=Option.some.inj (dR.symm.trans eZ);injection ea_ with ea_ en_ ec_
            subst ea_;subst ec_;clear en_;have p221:0≤(eF:Int):=of_decide_eq_true (by first|(with_reducible assumption)|assumption);have q221:eF<((rd_L5 l1 cM).length:Int):=of_decide_eq_true (by first|(with_reducible assumption)|assumption);obtain⟨xL,e221,fX⟩:=Kd.at_int kC.out eF p221 q221
            cases e221;replace fX:=(HB.out.cell (World.block_lt_of_cell? w _ fX)).trans fX;replace p221:=eq_true p221;replace q221:=eq_true q221;go_wp2
            repeat(go_quiet (fail);try go_wp2)
            go_ret
            exact⟨by first|rfl|(simp [errW_none,errW_some]<;>rfl)|(simp [*,errW_none,errW_some]<;>rfl),gW HB.out⟩
           ·rw [if_neg c25] at H
            have zI:decide ((rd (rd_L5 l1 cM) eF)<(-1))=false:=decide_eq_false c25;clear c25
            by_cases c26:(rd (rd_L5 l1 cM) eF)≥(aV.length:Int)
            ·rw [if_pos c26] at H
             have pY:decide ((aV.length:Int)≤(rd (rd_L5 l1 cM) eF))=true:=decide_eq_true c26;clear c26;obtain rfl:=Option.some.inj H;have p219:0≤(cM:Int):=of_decide_eq_true (by first|(with_reducible assumption)|assumption);have q219:cM<(l1.length:Int):=of_decide_eq_true (by first|(with_reducible assumption)|assumption);obtain⟨lY,rR,rS,e219,dR,gQ,gT⟩:=at_L5 HR1.out cM p219 q219;obtain rfl:jG=lY:=(by injection e219);replace dR:=(HB.out.cell (World.block_lt_of_cell? w _ dR)).trans dR;have oJ:=aM gT;have oK:=aM gQ;clear gT gQ;replace p219:=eq_true p219;replace q219:=eq_true q219;have p220:0≤(cM:Int):=of_decide_eq_true (by first|(with_reducible assumption)|assumption);have q220:cM<(l1.length:Int):=of_decide_eq_true (by first|(with_reducible assumption)|assumption);obtain⟨oL,sP,sQ,e220,eZ,iS,iT⟩:=at_L5 HR1.out cM p220 q220;obtain rfl:jG=oL:=(by injection e220);replace eZ:=(HB.out.cell (World.block_lt_of_cell? w _ eZ)).trans eZ;have kC:=aM iT;have qV:=aM iS;clear iT iS;replace p220:=eq_true p220;replace q220:=eq_true q220;have ea_:=Option.some.inj (dR.symm.trans eZ);injection ea_ with ea_ en_ ec_
             subst ea_;subst ec_;clear en_;have p221:0≤(eF:Int):=of_decide_eq_true (by first|(with_reducible assumption)|assumption);have q221:eF<((rd_L5 l1 cM).length:Int):=of_decide_eq_true (by first|(with_reducible assumption)|assumption);obtain⟨xL,e221,fX⟩:=Kd.at_int kC.out eF p221 q221
             cases e221;replace fX:=(HB.out.cell (World.block_lt_of_cell? w _ fX)).trans fX;replace p221:=eq_true p221;replace q221:=eq_true q221;have p222:0≤(cM:Int):=of_decide_eq_true (by first|(with_reducible assumption)|assumption);have q222:cM<(l1.length:Int):=of_decide_eq_true (by first|(with_reducible assumption)|assumption);obtain⟨rT,wJ,wK,e222,fY,jO,jP⟩:=at_L5 HR1.out cM p222 q222;obtain rfl:jG=rT:=(by injection e222);replace fY:=(HB.out.cell (World.block_lt_of_cell? w _ fY)).trans fY;have lQ:=aM jP;have sR:=aM jO;clear jP jO;replace p222:=eq_true p222;replace q222:=eq_true q222;have ea_:=Option.some.inj (dR.symm.trans fY);injection ea_ with ea_ en_ ec_
             subst ea_;subst ec_;clear en_;have p223:0≤(eF:Int):=of_decide_eq_true (by first|(with_reducible assumption)|assumption);have q223:eF<((rd_L5 l1 cM).length:Int):=of_decide_eq_true (by first|(with_reducible assumption)|assumption);obtain⟨zN,e223,iJ⟩:=Kd.at_int lQ.out eF p223 q223
             cases e223;replace iJ:=(HB.out.cell (World.block_lt_of_cell? w _ iJ)).trans iJ;replace p223:=eq_true p223;replace q223:=eq_true q223;have Ca:wr.cell? ⟨dC,0,none⟩=some (.slice cA aW.length cB):=(aG bW.out 0).trans rfl;have Cb:wr.cell? ⟨dC,1,none⟩=some (.slice cE aX.length cF):=(aG bW.out 1).trans rfl;have Ot:wr.cell? ⟨dC,2,none⟩=some (.int .i64 bM):=(aG bW.out 2).trans rfl;have Ou:wr.cell? ⟨dC,3,none⟩=some (.int .i64 bO):=(aG bW.out 3).trans rfl;have Ov:wr.cell? ⟨dC,4,none⟩=some (.slice cK aV.length cG):=(aG bW.out 4).trans rfl;have Cc:=aH bW.out 0;have Cd:=aH bW.out 1;have Ow:=aH bW.out 2;have Ox:=aH bW.out 3;have Oy:=aH bW.out 4;go_wp2
             repeat(go_quiet (fail);try go_wp2)
             go_ret
             exact⟨by first|rfl|(simp [errW_none,errW_some]<;>rfl)|(simp [*,errW_none,errW_some]<;>rfl),gW HB.out⟩
            ·rw [if_neg c26] at H
             have pY:decide ((aV.length:Int)≤(rd (rd_L5 l1 cM) eF))=false:=decide_eq_false c26;clear c26
             by_cases c28:(rd (rd_L5 l1 cM) eF)≥0
             ·rw [if_pos c28] at H
              have Id:decide (0≤(rd (rd_L5 l1 cM) eF))=true:=decide_eq_true c28;clear c28
              by_cases c29:0≤(rd (rd_L5 l1 cM) eF)
              rotate_left
              ·rw [if_neg c29] at H
               exact absurd H (by simp)
              rw [if_pos c29] at H;have Td:decide (0≤(rd (rd_L5 l1 cM) eF))=true:=decide_eq_true c29;clear c29
              by_cases c30:(rd (rd_L5 l1 cM) eF)<(aV.length:Int)
              rotate_left
              ·rw [if_neg c30] at H
               exact absurd H (by simp)
              rw [if_pos c30] at H;have Te:decide ((rd (rd_L5 l1 cM) eF)<(aV.length:Int))=true:=decide_eq_true c30;clear c30
              by_cases c31:((rd_T35 aV (rd (rd_L5 l1 cM) eF)).f0)=cM
              ·rw [if_pos c31] at H
               have zO:(((rd_T35 aV (rd (rd_L5 l1 cM) eF)).f0)==cM)=true:=beq_iff_eq.mpr c31;have zP:(((rd_T35 aV (rd (rd_L5 l1 cM) eF)).f0) !=cM)=false:=bne_eq_false_iff_eq.mpr c31;clear c31;have H':=aM H;clear H;have p219:0≤(cM:Int):=of_decide_eq_true (by first|(with_reducible assumption)|assumption);have q219:cM<(l1.length:Int):=of_decide_eq_true (by first|(with_reducible assumption)|assumption);obtain⟨lY,rR,rS,e219,dR,gQ,gT⟩:=at_L5 HR1.out cM p219 q219;obtain rfl:jG=lY:=(by injection e219);replace dR:=(HB.out.cell (World.block_lt_of_cell? w _ dR)).trans dR;have oJ:=aM gT;have oK:=aM gQ;clear gT gQ;replace p219:=eq_true p219;replace q219:=eq_true q219;have p220:0≤(cM:Int):=of_decide_eq_true (by first|(with_reducible assumption)|assumption);have q220:cM<(l1.length:Int):=of_decide_eq_true (by first|(with_reducible assumption)|assumption);obtain⟨oL,sP,sQ,e220,eZ,iS,iT⟩:=at_L5 HR1.out cM p220 q220;obtain rfl:jG=oL:=(by injection e220);replace eZ:=(HB.out.cell (World.block_lt_of_cell? w _ eZ)).trans eZ;have kC:=aM iT;have qV:=aM iS;clear iT iS;replace p220:=eq_true p220;replace q220:=eq_true q220;have ea_:=Option.some.inj (dR.symm.trans eZ);injection ea_ with ea_ en_ ec_
               subst ea_;subst ec_;clear en_;have p221:0≤(eF:Int):=of_decide_eq_true (by first|(with_reducible assumption)|assumption);have q221:eF<((rd_L5 l1 cM).length:Int):=of_decide_eq_true (by first|(with_reducible assumption)|assumption);obtain⟨xL,e221,fX⟩:=Kd.at_int kC.out eF p221 q221
               cases e221;replace fX:=(HB.out.cell (World.block_lt_of_cell? w _ fX)).trans fX;replace p221:=eq_true p221;replace q221:=eq_true q221;have p222:0≤(cM:Int):=of_decide_eq_true (by first|(with_reducible assumption)|assumption);have q222:cM<(l1.length:Int):=of_decide_eq_true (by first|(with_reducible assumption)|assumption);obtain⟨rT,wJ,wK,e222,fY,jO,jP⟩:=at_L5 HR1.out cM p222 q222;obtain rfl:jG=rT:=(by injection e222);replace fY:=(HB.out.cell (World.block_lt_of_cell? w _ fY)).trans fY;have lQ:=aM jP;have sR:=aM jO;clear jP jO;replace p222:=eq_true p222;replace q222:=eq_true q222;have ea_:=Option.some.inj (dR.symm.trans fY);injection ea_ with ea_ en_ ec_
               subst ea_;subst ec_;clear en_;have p223:0≤(eF:Int):=of_decide_eq_true (by first|(with_reducible assumption)|assumption);have q223:eF<((rd_L5 l1 cM).length:Int):=of_decide_eq_true (by first|(with_reducible assumption)|assumption);obtain⟨zN,e223,iJ⟩:=Kd.at_int lQ.out eF p223 q223
               cases e223;replace iJ:=(HB.out.cell (World.block_lt_of_cell? w _ iJ)).trans iJ;replace p223:=eq_true p223;replace q223:=eq_true q223;have Oz:wr.cell? ⟨dC,0,none⟩=some (.slice cA aW.length cB):=(aG bW.out 0).trans rfl;have Pa:wr.cell? ⟨dC,1,none⟩=some (.slice cE aX.length cF):=(aG bW.out 1).trans rfl;have Pb:wr.cell? ⟨dC,2,none⟩=some (.int .i64 bM):=(aG bW.out 2).trans rfl;have Pc:wr.cell? ⟨dC,3,none⟩=some (.int .i64 bO):=(aG bW.out 3).trans rfl;have Pd:wr.cell? ⟨dC,4,none⟩=some (.slice cK aV.length cG):=(aG bW.out 4).trans rfl;have Pe:=aH bW.out 0;have Pf:=aH bW.out 1;have Pg:=aH bW.out 2;have Ph:=aH bW.out 3;have Pi:=aH bW.out 4;have p224:0≤(cM:Int):=of_decide_eq_true (by first|(with_reducible assumption)|assumption);have q224:cM<(l1.length:Int):=of_decide_eq_true (by first|(with_reducible assumption)|assumption);obtain⟨uV,zQ,zR,e224,iU,kT,kU⟩:=at_L5 HR1.out cM p224 q224;obtain rfl:jG=uV:=(by injection e224);replace iU:=(HB.out.cell (World.block_lt_of_cell? w _ iU)).trans iU;have oM:=aM kU;have xM:=aM kT;clear kU kT;replace p224:=eq_true p224;replace q224:=eq_true q224;have ea_:=Option.some.inj (dR.symm.trans iU);injection ea_ with ea_ en_ ec_
               subst ea_;subst ec_;clear en_;have p225:0≤(eF:Int):=of_decide_eq_true (by first|(with_reducible assumption)|assumption);have q225:eF<((rd_L5 l1 cM).length:Int):=of_decide_eq_true (by first|(with_reducible assumption)|assumption);obtain⟨Fg,e225,jQ⟩:=Kd.at_int oM.out eF p225 q225
               cases e225;replace jQ:=(HB.out.cell (World.block_lt_of_cell? w _ jQ)).trans jQ;replace p225:=eq_true p225;replace q225:=eq_true q225;have p226:0≤(cM:Int):=of_decide_eq_true (by first|(with_reducible assumption)|assumption);have q226:cM<(l1.length:Int):=of_decide_eq_true (by first|(with_reducible assumption)|assumption);obtain⟨zS,Gp,Gq,e226,kD,oN,oO⟩:=at_L5 HR1.out cM p226 q226;obtain rfl:jG=zS:=(by injection e226);replace kD:=(HB.out.cell (World.block_lt_of_cell? w _ kD)).trans kD;have sS:=aM oO;have Da:=aM oN;clear oO oN;replace p226:=eq_true p226;replace q226:=eq_true q226;have ea_:=Option.some.inj (dR.symm.trans kD);injection ea_ with ea_ en_ ec_
               subst ea_;subst ec_;clear en_;have p227:0≤(eF:Int):=of_decide_eq_true (by first|(with_reducible assumption)|assumption);have q227:eF<((rd_L5 l1 cM).length:Int):=of_decide_eq_true (by first|(with_reducible assumption)|assumption);obtain⟨Ie,e227,lR⟩:=Kd.at_int sS.out eF p227 q227
               cases e227;replace lR:=(HB.out.cell (World.block_lt_of_cell? w _ lR)).trans lR;replace p227:=eq_true p227;replace q227:=eq_true q227;have p228:0≤((rd (rd_L5 l1 cM) eF):Int):=of_decide_eq_true (by first|(with_reducible assumption)|assumption);have q228:(rd (rd_L5 l1 cM) eF)<(aV.length:Int):=of_decide_eq_true (by first|(with_reducible assumption)|assumption);obtain⟨If,Gr,Gs,e228,lS,lT,oP,oQ⟩:=at_T35 gI.out (rd (rd_L5 l1 cM) eF) p228 q228
               cases e228;replace lS:=(HB.out.cell (World.block_lt_of_cell? w _ lS)).trans lS;replace lT:=(HB.out.cell (World.block_lt_of_cell? w _ lT)).trans lT;have Db:=aM oQ;have Dc:=aM oP;clear oQ oP;replace p228:=eq_true p228;replace q228:=eq_true q228;go_wp2
               repeat(go_quiet (fail);try go_wp2)
               go_roundg k3
               case measure=>have:=HJ2.out;have:=HK2.out;have:=HK3.out;omega
               case rel=>exact⟨(wrap64 (eF+1)),(by first|rfl|(simp;done)|(simp [*];done)),H',⟨by have:=HJ2.out;have:=HK2.out;have:=HK3.out;omega⟩,⟨gB bW.out⟩,⟨gW HB.out⟩⟩
              ·rw [if_neg c31] at H
               have zO:(((rd_T35 aV (rd (rd_L5 l1 cM) eF)).f0)==cM)=false:=beq_eq_false_iff_ne.mpr c31;have zP:(((rd_T35 aV (rd (rd_L5 l1 cM) eF)).f0) !=cM)=true:=bne_iff_ne.mpr c31;obtain rfl:=Option.some.inj H;have p219:0≤(cM:Int):=of_decide_eq_true (by first|(with_reducible assumption)|assumption);have q219:cM<(l1.length:Int):=of_decide_eq_true (by first|(with_reducible assumption)|assumption);obtain⟨lY,rR,rS,e219,dR,gQ,gT⟩:=at_L5 HR1.out cM p219 q219;obtain rfl:jG=lY:=(by injection e219);replace dR:=(HB.out.cell (World.block_lt_of_cell? w _ dR)).trans dR;have oJ:=aM gT;have oK:=aM gQ;clear gT gQ;replace p219:=eq_true p219;replace q219:=eq_true q219;have p220:0≤(cM:Int):=of_decide_eq_true (by first|(with_reducible assumption)|assumption);have q220:cM<(l1.length:Int):=of_decide_eq_true (by first|(with_reducible assumption)|assumption);obtain⟨oL,sP,sQ,e220,eZ,iS,iT⟩:=at_L5 HR1.out cM p220 q220;obtain rfl:jG=oL:=(by injection e220);replace eZ:=(HB.out.cell (World.block_lt_of_cell? w _ eZ)).trans eZ;have kC:=aM iT;have qV:=aM iS;clear iT iS;replace p220:=eq_true p220;replace q220:=eq_true q220;have ea_:=Option.some.inj (dR.symm.trans eZ);injection ea_ with ea_ en_ ec_
               subst ea_;subst ec_;clear en_;have p221:0≤(eF:Int):=of_decide_eq_true (by first|(with_reducible assumption)|assumption);have q221:eF<((rd_L5 l1 cM).length:Int):=of_decide_eq_true (by first|(with_reducible assumption)|assumption);obtain⟨xL,e221,fX⟩:=Kd.at_int kC.out eF p221 q221
               cases e221;replace fX:=(HB.out.cell (World.block_lt_of_cell? w _ fX)).trans fX;replace p221:=eq_true p221;replace q221:=eq_true q221;have p222:0≤(cM:Int):=of_decide_eq_true (by first|(with_reducible assumption)|assumption);have q222:cM<(l1.length:Int):=of_decide_eq_true (by first|(with_reducible assumption)|assumption);obtain⟨rT,wJ,wK,e222,fY,jO,jP⟩:=at_L5 HR1.out cM p222 q222;obtain rfl:jG=rT:=(by injection e222);replace fY:=(HB.out.cell (World.block_lt_of_cell? w _ fY)).trans fY;have lQ:=aM jP;have sR:=aM jO;clear jP jO;replace p222:=eq_true p222;replace q222:=eq_true q222;have ea_:=Option.some.inj (dR.symm.trans fY);injection ea_ with ea_ en_ ec_
               subst ea_;subst ec_;clear en_;have p223:0≤(eF:Int):=of_decide_eq_true (by first|(with_reducible assumption)|assumption);have q223:eF<((rd_L5 l1 cM).length:Int):=of_decide_eq_true (by first|(with_reducible assumption)|assumption);obtain⟨zN,e223,iJ⟩:=Kd.at_int lQ.out eF p223 q223
               cases e223;replace iJ:=(HB.out.cell (World.block_lt_of_cell? w _ iJ)).trans iJ;replace p223:=eq_true p223;replace q223:=eq_true q223;have nB:wr.cell? ⟨dC,0,none⟩=some (.slice cA aW.length cB):=(aG bW.out 0).trans rfl;have nC:wr.cell? ⟨dC,1,none⟩=some (.slice cE aX.length cF):=(aG bW.out 1).trans rfl;have oR:wr.cell? ⟨dC,2,none⟩=some (.int .i64 bM):=(aG bW.out 2).trans rfl;have oS:wr.cell? ⟨dC,3,none⟩=some (.int .i64 bO):=(aG bW.out 3).trans rfl;have oT:wr.cell? ⟨dC,4,none⟩=some (.slice cK aV.length cG):=(aG bW.out 4).trans rfl;have nD:=aH bW.out 0;have nE:=aH bW.out 1;have oU:=aH bW.out 2;have oV:=aH bW.out 3;have oW:=aH bW.out 4;have p224:0≤(cM:Int):=of_decide_eq_true (by first|(with_reducible assumption)|assumption);have q224:cM<(l1.length:Int):=of_decide_eq_true (by first|(with_reducible assumption)|assumption);obtain⟨uV,zQ,zR,e224,iU,kT,kU⟩:=at_L5 HR1.out cM p224 q224;obtain rfl:jG=uV:=(by injection e224);replace iU:=(HB.out.cell (World.block_lt_of_cell? w _ iU)).trans iU;have oM:=aM kU;have xM:=aM kT;clear kU kT;replace p224:=eq_true p224;replace q224:=eq_true q224;have ea_:=Option.some.inj (dR.symm.trans iU);injection ea_ with ea_ en_ ec_
               subst ea_;subst ec_;clear en_;have p225:0≤(eF:Int):=of_decide_eq_true (by first|(with_reducible assumption)|assumption);have q225:eF<((rd_L5 l1 cM).length:Int):=of_decide_eq_true (by first|(with_reducible assumption)|assumption);obtain⟨Fg,e225,jQ⟩:=Kd.at_int oM.out eF p225 q225
               cases e225;replace jQ:=(HB.out.cell (World.block_lt_of_cell? w _ jQ)).trans jQ;replace p225:=eq_true p225;replace q225:=eq_true q225;have p226:0≤(cM:Int):=of_decide_eq_true (by first|(with_reducible assumption)|assumption);have q226:cM<(l1.length:Int):=of_decide_eq_true (by first|(with_reducible assumption)|assumption);obtain⟨zS,Gp,Gq,e226,kD,oN,oO⟩:=at_L5 HR1.out cM p226 q226;obtain rfl:jG=zS:=(by injection e226);replace kD:=(HB.out.cell (World.block_lt_of_cell? w _ kD)).trans kD;have sS:=aM oO;have Da:=aM oN;clear oO oN;replace p226:=eq_true p226;replace q226:=eq_true q226;have ea_:=Option.some.inj (dR.symm.trans kD);injection ea_ with ea_ en_ ec_
               subst ea_;subst ec_;clear en_;have p227:0≤(eF:Int):=of_decide_eq_true (by first|(with_reducible assumption)|assumption);have q227:eF<((rd_L5 l1 cM).length:Int):=of_decide_eq_true (by first|(with_reducible assumption)|assumption);obtain⟨Ie,e227,lR⟩:=Kd.at_int sS.out eF p227 q227
               cases e227;replace lR:=(HB.out.cell (World.block_lt_of_cell? w _ lR)).trans lR;replace p227:=eq_true p227;replace q227:=eq_true q227;have p228:0≤((rd (rd_L5 l1 cM) eF):Int):=of_decide_eq_true (by first|(with_reducible assumption)|assumption);have q228:(rd (rd_L5 l1 cM) eF)<(aV.length:Int):=of_decide_eq_true (by first|(with_reducible assumption)|assumption);obtain⟨If,Gr,Gs,e228,lS,lT,oP,oQ⟩:=at_T35 gI.out (rd (rd_L5 l1 cM) eF) p228 q228
               cases e228;replace lS:=(HB.out.cell (World.block_lt_of_cell? w _ lS)).trans lS;replace lT:=(HB.out.cell (World.block_lt_of_cell? w _ lT)).trans lT;have Db:=aM oQ;have Dc:=aM oP;clear oQ oP;replace p228:=eq_true p228;replace q228:=eq_true q228;go_wp2
               repeat(go_quiet (fail);try go_wp2)
               go_ret
               exact⟨by first|rfl|(simp [errW_none,errW_some]<;>rfl)|(simp [*,errW_none,errW_some]<;>rfl),gW HB.out⟩
             ·rw [if_neg c28] at H
              have Id:decide (0≤(rd (rd_L5 l1 cM) eF))=false:=decide_eq_false c28;clear c28;have H':=aM H;clear H;have p219:0≤(cM:Int):=of_decide_eq_true (by first|(with_reducible assumption)|assumption);have q219:cM<(l1.length:Int):=of_decide_eq_true (by first|(with_reducible assumption)|assumption);obtain⟨lY,rR,rS,e219,dR,gQ,gT⟩:=at_L5 HR1.out cM p219 q219;obtain rfl:jG=lY:=(by injection e219);replace dR:=(HB.out.cell (World.block_lt_of_cell? w _ dR)).trans dR;have oJ:=aM gT;have oK:=aM gQ;clear gT gQ;replace p219:=eq_true p219;replace q219:=eq_true q219;have p220:0≤(cM:Int):=of_decide_eq_true (by first|(with_reducible assumption)|assumption);have q220:cM<(l1.length:Int):=of_decide_eq_true (by first|(with_reducible assumption)|assumption);obtain⟨oL,sP,sQ,e220,eZ,iS,iT⟩:=at_L5 HR1.out cM p220 q220;obtain rfl:jG=oL:=(by injection e220);replace eZ:=(HB.out.cell (World.block_lt_of_cell? w _ eZ)).trans eZ;have kC:=aM iT;have qV:=aM iS;clear iT iS;replace p220:=eq_true p220;replace q220:=eq_true q220;have ea_:=Option.some.inj (dR.symm.trans eZ);injection ea_ with ea_ en_ ec_
              subst ea_;subst ec_;clear en_;have p221:0≤(eF:Int):=of_decide_eq_true (by first|(with_reducible assumption)|assumption);have q221:eF<((rd_L5 l1 cM).length:Int):=of_decide_eq_true (by first|(with_reducible assumption)|assumption);obtain⟨xL,e221,fX⟩:=Kd.at_int kC.out eF p221 q221
              cases e221;replace fX:=(HB.out.cell (World.block_lt_of_cell? w _ fX)).trans fX;replace p221:=eq_true p221;replace q221:=eq_true q221;have p222:0≤(cM:Int):=of_decide_eq_true (by first|(with_reducible assumption)|assumption);have q222:cM<(l1.length:Int):=of_decide_eq_true (by first|(with_reducible assumption)|assumption);obtain⟨rT,wJ,wK,e222,fY,jO,jP⟩:=at_L5 HR1.out cM p222 q222;obtain rfl:jG=rT:=(by injection e222);replace fY:=(HB.out.cell (World.block_lt_of_cell? w _ fY)).trans fY;have lQ:=aM jP;have sR:=aM jO;clear jP jO;replace p222:=eq_true p222;replace q222:=eq_true q222;have ea_:=Option.some.inj (dR.symm.trans fY);injection ea_ with ea_ en_ ec_
              subst ea_;subst ec_;clear en_;have p223:0≤(eF:Int):=of_decide_eq_true (by first|(with_reducible assumption)|assumption);have q223:eF<((rd_L5 l1 cM).length:Int):=of_decide_eq_true (by first|(with_reducible assumption)|assumption);obtain⟨zN,e223,iJ⟩:=Kd.at_int lQ.out eF p223 q223
              cases e223;replace iJ:=(HB.out.cell (World.block_lt_of_cell? w _ iJ)).trans iJ;replace p223:=eq_true p223;replace q223:=eq_true q223;have xG:wr.cell? ⟨dC,0,none⟩=some (.slice cA aW.length cB):=(aG bW.out 0).trans rfl;have xH:wr.cell? ⟨dC,1,none⟩=some (.slice cE aX.length cF):=(aG bW.out 1).trans rfl;have Dd:wr.cell? ⟨dC,2,none⟩=some (.int .i64 bM):=(aG bW.out 2).trans rfl;have De:wr.cell? ⟨dC,3,none⟩=some (.int .i64 bO):=(aG bW.out 3).trans rfl;have Df:wr.cell? ⟨dC,4,none⟩=some (.slice cK aV.length cG):=(aG bW.out 4).trans rfl;have xI:=aH bW.out 0;have xJ:=aH bW.out 1;have Dg:=aH bW.out 2;have Dh:=aH bW.out 3;have Di:=aH bW.out 4;have p224:0≤(cM:Int):=of_decide_eq_true (by first|(with_reducible assumption)|assumption);have q224:cM<(l1.length:Int):=of_decide_eq_true (by first|(with_reducible assumption)|assumption);obtain⟨uV,zQ,zR,e224,iU,kT,kU⟩:=at_L5 HR1.out cM p224 q224;obtain rfl:jG=uV:=(by injection e224);replace iU:=(HB.out.cell (World.block_lt_of_cell? w _ iU)).trans iU;have oM:=aM kU;have xM:=aM kT;clear kU kT;replace p224:=eq_true p224;replace q224:=eq_true q224;have ea_:=Option.some.inj (dR.symm.trans iU);injection ea_ with ea_ en_ ec_
              subst ea_;subst ec_;clear en_;have p225:0≤(eF:Int):=of_decide_eq_true (by first|(with_reducible assumption)|assumption);have q225:eF<((rd_L5 l1 cM).length:Int):=of_decide_eq_true (by first|(with_reducible assumption)|assumption);obtain⟨Fg,e225,jQ⟩:=Kd.at_int oM.out eF p225 q225
              cases e225;replace jQ:=(HB.out.cell (World.block_lt_of_cell? w _ jQ)).trans jQ;replace p225:=eq_true p225;replace q225:=eq_true q225;go_wp2
              repeat(go_quiet (fail);try go_wp2)
              go_roundg k3
              case measure=>have:=HJ2.out;have:=HK2.out;have:=HK3.out;omega
              case rel=>exact⟨(wrap64 (eF+1)),(by first|rfl|(simp;done)|(simp [*];done)),H',⟨by have:=HJ2.out;have:=HK2.out;have:=HK3.out;omega⟩,⟨gB bW.out⟩,⟨gW HB.out⟩⟩
          ·rw [if_neg c23] at H
           have zM:decide (eF<((rd_L5 l1 cM).length:Int))=false:=decide_eq_false c23;clear c23;have H':=aM H;clear H;have p219:0≤(cM:Int):=of_decide_eq_true (by first|(with_reducible assumption)|assumption);have q219:cM<(l1.length:Int):=of_decide_eq_true (by first|(with_reducible assumption)|assumption);obtain⟨lY,rR,rS,e219,dR,gQ,gT⟩:=at_L5 HR1.out cM p219 q219;obtain rfl:jG=lY:=(by injection e219);replace dR:=(HB.out.cell (World.block_lt_of_cell? w _ dR)).trans dR;have oJ:=aM gT;have oK:=aM gQ;clear gT gQ;replace p219:=eq_true p219;replace q219:=eq_true q219;go_wp2
           repeat(go_quiet (fail);try go_wp2)
           go_roundg k3
           case measure=>have:=HJ2.out;have:=HK2.out;have:=HK3.out;omega
           case rel=>exact⟨(wrap64 (cM+1)),(by first|rfl|(simp;done)|(simp [*];done)),H',⟨by have:=HJ2.out;have:=HK2.out;have:=HK3.out;omega⟩,⟨gB bW.out⟩,⟨gW HB.out⟩⟩
       ·rw [if_neg c19] at H
        have Fd:(((rd_L5 l1 cM).length:Int)==(wrap64 ((aX.length:Int)+1)))=false:=beq_eq_false_iff_ne.mpr c19;have Fe:(((rd_L5 l1 cM).length:Int) !=(wrap64 ((aX.length:Int)+1)))=true:=bne_iff_ne.mpr c19;obtain rfl:=Option.some.inj H;have p218:0≤(cM:Int):=of_decide_eq_true (by first|(with_reducible assumption)|assumption);have q218:cM<(l1.length:Int):=of_decide_eq_true (by first|(with_reducible assumption)|assumption);obtain⟨jG,Gm,Gn,e218,kS,oH,oI⟩:=at_L5 HR1.out cM p218 q218
        cases e218;replace kS:=(HB.out.cell (World.block_lt_of_cell? w _ kS)).trans kS;have Cs:=aM oI;have Ct:=aM oH;clear oI oH;replace p218:=eq_true p218;replace q218:=eq_true q218;have mP:wr.cell? ⟨dC,0,none⟩=some (.slice cA aW.length cB):=(aG bW.out 0).trans rfl;have mQ:wr.cell? ⟨dC,1,none⟩=some (.slice cE aX.length cF):=(aG bW.out 1).trans rfl;have nP:wr.cell? ⟨dC,2,none⟩=some (.int .i64 bM):=(aG bW.out 2).trans rfl;have nQ:wr.cell? ⟨dC,3,none⟩=some (.int .i64 bO):=(aG bW.out 3).trans rfl;have nR:wr.cell? ⟨dC,4,none⟩=some (.slice cK aV.length cG):=(aG bW.out 4).trans rfl;have mR:=aH bW.out 0;have mS:=aH bW.out 1;have nS:=aH bW.out 2;have nT:=aH bW.out 3;have nU:=aH bW.out 4;go_wp2
        repeat(go_quiet (fail);try go_wp2)
        go_ret
        exact⟨by first|rfl|(simp [errW_none,errW_some]<;>rfl)|(simp [*,errW_none,errW_some]<;>rfl),gW HB.out⟩
      ·rw [if_neg c17] at H
       have rO:decide (cM<(l1.length:Int))=false:=decide_eq_false c17;clear c17;obtain rfl:=Option.some.inj H;go_wp2
       repeat(go_quiet (fail);try go_wp2)
       go_ret
       exact⟨by first|rfl|(simp [errW_none,errW_some]<;>rfl)|(simp [*,errW_none,errW_some]<;>rfl),gW HB.out⟩
end Go.Proofs.Ytapjfnfengefpaa.P
end

section
namespace Go.Proofs.Ytapjfnfengefpaa.P
open Go.RowKit Go.Proofs.YtapjfnfengefpaaW.PrintWords Go.Proofs.YtapjfnfengefpaaW.PrintLast Go.Proofs.YtapjfnfengefpaaW.PrintMore
set_option linter.unusedVariables false
set_option linter.unusedSimpArgs false
def okSym (nn nt:Nat) (x:S43):Bool:=decide (0≤x.f1) && (if x.f0=true then decide (x.f1<(nt:Int)) else decide (x.f1<(nn:Int)))
def okProd (nn nt:Nat) (x:S35):Bool:=decide (0≤x.f0) && decide (x.f0<(nn:Int)) && x.f1.all (okSym nn nt)
theorem symbols1_any (x:S43) (B:Nat) (W:World) (A0 A1:Option Addr) (n0 n1 c0 c1:Nat)
 (h0:W.cell? ⟨B,0,none⟩=some (.slice A0 n0 c0)) (h1:W.cell? ⟨B,1,none⟩=some (.slice A1 n1 c1)) (hB:B<W.heap.size):
 Calls Try.prog 61 #[.agg #[.bool x.f0,.int .i64 x.f1],.pointer (some ⟨B,0,none⟩)] W fun e w'=>e= .returned (.bool (!okSym n0 n1 x))∧Below W.heap.size W w':=by
 have hne:B≠W.heap.size:=by omega
 obtain⟨b,n⟩:=x
 unfold okSym
 by_cases c0:n<0
 ·have d0:decide (n<0)=true:=decide_eq_true c0
  have d1:decide (0≤n)=false:=decide_eq_false (by omega)
  cases b<;>(go_enter Try.func61,Try.ntmps61;go_wp2;go_ret;exact⟨rfl,(Below.refl _ W).alloc (Nat.le_refl _) _⟩)
 have d0:decide (n<0)=false:=decide_eq_false c0;have d1:decide (0≤n)=true:=decide_eq_true (by omega)
 cases b with
 |true=>
  by_cases c2:(n1:Int)≤n
  ·have d2:decide ((n1:Int)≤n)=true:=decide_eq_true c2
   have d3:decide (n<(n1:Int))=false:=decide_eq_false (by omega);go_enter Try.func61,Try.ntmps61
   go_wp2
   go_ret
   exact⟨rfl,(Below.refl _ W).alloc (Nat.le_refl _) _⟩
  ·have d2:decide ((n1:Int)≤n)=false:=decide_eq_false c2
   have d3:decide (n<(n1:Int))=true:=decide_eq_true (by omega);go_enter Try.func61,Try.ntmps61
   go_wp2
   go_ret
   exact⟨rfl,(Below.refl _ W).alloc (Nat.le_refl _) _⟩
 |false=>
  by_cases c2:(n0:Int)≤n
  ·have d2:decide ((n0:Int)≤n)=true:=decide_eq_true c2
   have d3:decide (n<(n0:Int))=false:=decide_eq_false (by omega);go_enter Try.func61,Try.ntmps61
   go_wp2
   go_ret
   exact⟨rfl,(Below.refl _ W).alloc (Nat.le_refl _) _⟩
  ·have d2:decide ((n0:Int)≤n)=false:=decide_eq_false c2
   have d3:decide (n<(n0:Int))=true:=decide_eq_true (by omega);go_enter Try.func61,Try.ntmps61
   go_wp2
   go_ret
   exact⟨rfl,(Below.refl _ W).alloc (Nat.le_refl _) _⟩
theorem indexSym_any (p:S43→Bool) (g:Nat) (lb:Array Value) (eg:∀args w,(callFunc g args).run Try.prog w= .ok (.enter g args) w) (A:Option Addr) (c:Nat) (zs:List S43) (w:World)
 (hr:Kd.C k43 w A zs.length zs) (hbig:zs.length≤9223372036854775807) (hp:∀(W:World) (x:S43),x∈zs→Below w.heap.size w W→Calls Try.prog g (#[.agg #[.bool x.f0,.int .i64 x.f1]]++lb) W fun e w'=>e= .returned (.bool (p x))∧Below w.heap.size w w'):
 Calls Try.prog 58 #[.slice A zs.length c,.func (.func g) #[] lb] w fun e w'=>(∃n:Int,e= .returned (.int .i64 n)∧Aside0 (decide (0≤n)=zs.any p))∧Below w.heap.size w w':=by
 go_enter Try.func58,Try.ntmps58
 go_wp2
 go_loopg [5,8] zs.length (fun gg _ s8 wr=>∃kk:Nat,kk≤zs.length∧zs.length - kk≤gg∧s8= .int .i64 kk∧Aside0 (Below w.heap.size w wr)∧Aside0 ((zs.take kk).any p=false))
 case atStart=>exact⟨0,Nat.zero_le _,by omega,rfl,⟨Below.refl _ w⟩,⟨by simp⟩⟩
 case round=>
  obtain⟨kk,hkk,hg,rfl,BW,PA⟩:=hrel
  by_cases hlt:kk<zs.length
  ·have hltz:(kk:Int)<(zs.length:Int):=by omega
   have hrd:rd_T43 zs (kk:Int)=zs[kk]:=by simp [rd_T43,hlt]
   obtain⟨ad,e,l0,l1⟩:=at_T43 (bD hr BW.out) (kk:Int) (by omega) (by omega);have hcall:=hp wr zs[kk] (List.getElem_mem hlt) BW.out;rw [hrd,Int.toNat_natCast] at l0 l1;subst e;have PB:Aside0 ((zs.take (kk+1)).any p=p zs[kk]):=⟨by rw [List.take_succ_eq_append_getElem hlt,List.any_append,PA.out];simp⟩
   have PC:Aside0 (zs.any p=(p zs[kk]||(zs.drop (kk+1)).any p)):=⟨by
    conv=>lhs;rw [←List.take_append_drop (kk+1) zs]
    rw [List.any_append,PB.out]⟩
   clear hp hr hrd;generalize zs[kk]=y at l0 l1 hcall PB PC
   cases hq:p y with
   |true=>
    rw [hq] at hcall;have PD:Aside0 (zs.any p=true):=⟨by rw [PC.out,hq];simp⟩;clear PA PB PC hq
    go_wp2_with (go_at_fn g;refine hcall.mono ?_;rintro e w' ⟨rfl,hb'⟩)
    go_ret
    exact⟨⟨_,rfl,⟨by rw [PD.out];simp⟩⟩,hb'⟩
   |false=>
    rw [hq] at hcall;have PD:Aside0 ((zs.take (kk+1)).any p=false):=⟨by rw [PB.out,hq]⟩;clear PA PB PC hq
    go_wp2_with (go_at_fn g;refine hcall.mono ?_;rintro e w' ⟨rfl,hb'⟩)
    go_roundg (zs.length - (kk+1))
    case measure=>omega
    case rel=>exact⟨kk+1,by omega,by omega,by go_num,⟨hb'⟩,PD⟩
  ·have hltz:¬(kk:Int)<(zs.length:Int):=by omega
   have:kk=zs.length:=by omega
   subst this;have PD:Aside0 (zs.any p=false):=⟨by have:=PA.out;rwa [List.take_length] at this⟩;clear PA hp hr;go_wp2
   go_ret
   exact⟨⟨-1,rfl,⟨by rw [PD.out];simp⟩⟩,BW.out⟩
theorem containsSym_any (p:S43→Bool) (g:Nat) (lb:Array Value) (eg:∀args w,(callFunc g args).run Try.prog w= .ok (.enter g args) w) (A:Option Addr) (c:Nat) (zs:List S43) (w:World)
 (hr:Kd.C k43 w A zs.length zs) (hbig:zs.length≤9223372036854775807) (hp:∀(W:World) (x:S43),x∈zs→Below w.heap.size w W→Calls Try.prog g (#[.agg #[.bool x.f0,.int .i64 x.f1]]++lb) W fun e w'=>e= .returned (.bool (p x))∧Below w.heap.size w w'):
 Calls Try.prog 51 #[.slice A zs.length c,.func (.func g) #[] lb] w fun e w'=>e= .returned (.bool (zs.any p))∧Below w.heap.size w w':=by
 have hcon:=indexSym_any p g lb eg A c zs w hr hbig hp;have e6:∀args w,(callFunc 58 args).run Try.prog w= .ok (.enter 58 args) w:=enters_of Try.func58 (by kernel_rfl) rfl;clear hp hr;go_enter Try.func51,Try.ntmps51
 go_wp2_with (go_at_fn 58;refine hcon.mono ?_;rintro e w' ⟨⟨nn_,rfl,hn_⟩,hb'⟩)
 go_ret
 exact⟨by rw [←hn_.out];rfl,hb'⟩
theorem any_not {α:Type}(p:α→Bool) (l:List α):(!l.any fun x=>!p x)=l.all p:=by
 induction l with
 |nil=>rfl
 |cons a l ih=>simp only [List.any_cons,List.all_cons,←ih];cases p a<;>simp
def firsts_symbols.f (aW:List ByteArray) (aX:List (S72)) (bM:Int) (bO:Int) (aV:List (S35)) (l1:List (S43)):Option Bool:=if l1.length≤9223372036854775807 then some (l1.all (okSym aW.length aX.length)) else none
theorem firsts_symbols.calls (cA:Option Addr) (cB:Nat) (aW:List ByteArray) (cE:Option Addr) (cF:Nat) (aX:List (S72)) (bM:Int) (bO:Int) (cK:Option Addr) (cG:Nat) (aV:List (S35)) (A1:Option Addr) (c1:Nat) (l1:List (S43)) (r:Bool) (w:World)
 (fU:Kd.C Kd.string w cA aW.length aW) (gG:aW.length≤cB) (gH:Kd.C k72 w cE aX.length aX) (hU:aX.length≤cF) (gA:Kd.C k35 w cK aV.length aV) (iB:aV.length≤cG) (hr1:Kd.C k43 w A1 l1.length l1) (hc1:l1.length≤c1)
 (h:firsts_symbols.f aW aX bM bO aV l1=some r):
 Calls Try.prog 56 #[.agg #[.slice cA aW.length cB,.slice cE aX.length cF,.int .i64 bM,.int .i64 bO,.slice cK aV.length cG],.slice A1 l1.length c1] w fun e w'=>e= .returned (.bool r)∧Below w.heap.size w w':=by
 unfold firsts_symbols.f at h
 split at h
 case isFalse=>simp at h
 rename_i hbig
 obtain rfl:=Option.some.inj h;clear h;have eg:∀args w,(callFunc 61 args).run Try.prog w= .ok (.enter 61 args) w:=enters_of Try.func61 (by kernel_rfl) rfl;have e6:∀args w,(callFunc 51 args).run Try.prog w= .ok (.enter 51 args) w:=enters_of Try.func51 (by kernel_rfl) rfl;have HW:Aside0 (Below w.heap.size w (w.alloc (.cells #[.slice cA aW.length cB,.slice cE aX.length cF,.int .i64 bM,.int .i64 bO,.slice cK aV.length cG] 26))):=⟨(Below.refl _ w).alloc (Nat.le_refl _) _⟩
 have hcon:=containsSym_any (fun x=>!okSym aW.length aX.length x) 61 #[.pointer (some ⟨w.heap.size,0,none⟩)] eg A1 c1 l1 (w.alloc (.cells #[.slice cA aW.length cB,.slice cE aX.length cF,.int .i64 bM,.int .i64 bO,.slice cK aV.length cG] 26)) (bD hr1 HW.out) hbig (fun W x _ hb=>by
  have hlt:w.heap.size<(w.alloc (.cells #[.slice cA aW.length cB,.slice cE aX.length cF,.int .i64 bM,.int .i64 bO,.slice cK aV.length cG] 26)).heap.size:=by simp
  refine(symbols1_any x w.heap.size W cA cE aW.length aX.length cB cF ?_ ?_ (Nat.lt_of_lt_of_le hlt hb.size)).mono ?_
  ·exact(hb.cell (p:=⟨w.heap.size,0,none⟩) hlt).trans (by simp)
  ·exact(hb.cell (p:=⟨w.heap.size,1,none⟩) hlt).trans (by simp)
  ·rintro e w' ⟨he,hb'⟩
   exact⟨he,hb.trans (hb'.mono hb.size)⟩)
 clear fU gH gA hr1;rw [←any_not];generalize (l1.any fun x=>!okSym aW.length aX.length x)=rr at hcon ⊢;go_enter Try.func56,Try.ntmps56
 go_wp2_with (go_at_fn 51;refine hcon.mono ?_;rintro e w' ⟨rfl,hb'⟩)
 go_ret
 exact⟨rfl,HW.out.trans (hb'.mono (by simp))⟩
theorem indexProd_any (p:S35→Bool) (g:Nat) (lb:Array Value) (eg:∀args w,(callFunc g args).run Try.prog w= .ok (.enter g args) w) (A:Option Addr) (c:Nat) (zs:List S35) (w:World)
 (hr:Kd.C k35 w A zs.length zs) (hbig:zs.length≤9223372036854775807) (hp:∀(W:World) (x:S35) (A1:Option Addr) (c1:Nat),x∈zs→Below w.heap.size w W→x.f1.length≤c1→Kd.C k43 W A1 x.f1.length x.f1→Calls Try.prog g (#[.agg #[.int .i64 x.f0,.slice A1 x.f1.length c1]]++lb) W fun e w'=>e= .returned (.bool (p x))∧Below w.heap.size w w'):
 Calls Try.prog 60 #[.slice A zs.length c,.func (.func g) #[] lb] w fun e w'=>(∃n:Int,e= .returned (.int .i64 n)∧Aside0 (decide (0≤n)=zs.any p))∧Below w.heap.size w w':=by
 go_enter Try.func60,Try.ntmps60
 go_wp2
 go_loopg [5,8] zs.length (fun gg _ s8 wr=>∃kk:Nat,kk≤zs.length∧zs.length - kk≤gg∧s8= .int .i64 kk∧Aside0 (Below w.heap.size w wr)∧Aside0 ((zs.take kk).any p=false))
 case atStart=>exact⟨0,Nat.zero_le _,by omega,rfl,⟨Below.refl _ w⟩,⟨by simp⟩⟩
 case round=>
  obtain⟨kk,hkk,hg,rfl,BW,PA⟩:=hrel
  by_cases hlt:kk<zs.length
  ·have hltz:(kk:Int)<(zs.length:Int):=by omega
   have hrd:rd_T35 zs (kk:Int)=zs[kk]:=by simp [rd_T35,hlt]
   obtain⟨ad,A1,c1,e,l0,l1,hle1,hC1⟩:=at_T35 (bD hr BW.out) (kk:Int) (by omega) (by omega);have hcall:=hp wr zs[kk] A1 c1 (List.getElem_mem hlt) BW.out (by rw [←hrd];exact hle1) (by rw [←hrd];exact hC1);rw [hrd,Int.toNat_natCast] at l0 l1;subst e;have PB:Aside0 ((zs.take (kk+1)).any p=p zs[kk]):=⟨by rw [List.take_succ_eq_append_getElem hlt,List.any_append,PA.out];simp⟩
   have PC:Aside0 (zs.any p=(p zs[kk]||(zs.drop (kk+1)).any p)):=⟨by
    conv=>lhs;rw [←List.take_append_drop (kk+1) zs]
    rw [List.any_append,PB.out]⟩
   clear hp hr hrd hle1 hC1;generalize zs[kk]=y at l0 l1 hcall PB PC
   cases hq:p y with
   |true=>
    rw [hq] at hcall;have PD:Aside0 (zs.any p=true):=⟨by rw [PC.out,hq];simp⟩;clear PA PB PC hq
    go_wp2_with (go_at_fn g;refine hcall.mono ?_;rintro e w' ⟨rfl,hb'⟩)
    go_ret
    exact⟨⟨_,rfl,⟨by rw [PD.out];simp⟩⟩,hb'⟩
   |false=>
    rw [hq] at hcall;have PD:Aside0 ((zs.take (kk+1)).any p=false):=⟨by rw [PB.out,hq]⟩;clear PA PB PC hq
    go_wp2_with (go_at_fn g;refine hcall.mono ?_;rintro e w' ⟨rfl,hb'⟩)
    go_roundg (zs.length - (kk+1))
    case measure=>omega
    case rel=>exact⟨kk+1,by omega,by omega,by go_num,⟨hb'⟩,PD⟩
  ·have hltz:¬(kk:Int)<(zs.length:Int):=by omega
   have:kk=zs.length:=by omega
   subst this;have PD:Aside0 (zs.any p=false):=⟨by have:=PA.out;rwa [List.take_length] at this⟩;clear PA hp hr;go_wp2
   go_ret
   exact⟨⟨-1,rfl,⟨by rw [PD.out];simp⟩⟩,BW.out⟩
theorem containsProd_any (p:S35→Bool) (g:Nat) (lb:Array Value) (eg:∀args w,(callFunc g args).run Try.prog w= .ok (.enter g args) w) (A:Option Addr) (c:Nat) (zs:List S35) (w:World)
 (hr:Kd.C k35 w A zs.length zs) (hbig:zs.length≤9223372036854775807) (hp:∀(W:World) (x:S35) (A1:Option Addr) (c1:Nat),x∈zs→Below w.heap.size w W→x.f1.length≤c1→Kd.C k43 W A1 x.f1.length x.f1→Calls Try.prog g (#[.agg #[.int .i64 x.f0,.slice A1 x.f1.length c1]]++lb) W fun e w'=>e= .returned (.bool (p x))∧Below w.heap.size w w'):
 Calls Try.prog 54 #[.slice A zs.length c,.func (.func g) #[] lb] w fun e w'=>e= .returned (.bool (zs.any p))∧Below w.heap.size w w':=by
 have hcon:=indexProd_any p g lb eg A c zs w hr hbig hp;have e6:∀args w,(callFunc 60 args).run Try.prog w= .ok (.enter 60 args) w:=enters_of Try.func60 (by kernel_rfl) rfl;clear hp hr;go_enter Try.func54,Try.ntmps54
 go_wp2_with (go_at_fn 60;refine hcon.mono ?_;rintro e w' ⟨⟨nn_,rfl,hn_⟩,hb'⟩)
 go_ret
 exact⟨by rw [←hn_.out];rfl,hb'⟩
theorem Right1_any (x:S35) (A1:Option Addr) (c1:Nat) (B:Nat) (W:World) (cA:Option Addr) (cB:Nat) (aW:List ByteArray) (cE:Option Addr) (cF:Nat) (aX:List (S72)) (bM:Int) (bO:Int) (cK:Option Addr) (cG:Nat) (aV:List (S35))
 (fU:Kd.C Kd.string W cA aW.length aW) (gG:aW.length≤cB) (gH:Kd.C k72 W cE aX.length aX) (hU:aX.length≤cF) (gA:Kd.C k35 W cK aV.length aV) (iB:aV.length≤cG)
 (hb:W.heap[B]?=some (.cells #[.slice cA aW.length cB,.slice cE aX.length cF,.int .i64 bM,.int .i64 bO,.slice cK aV.length cG] 26 (0,0)))
 (hle:x.f1.length≤c1) (hbig:x.f1.length≤9223372036854775807) (hC:Kd.C k43 W A1 x.f1.length x.f1):
 Calls Try.prog 55 #[.agg #[.int .i64 x.f0,.slice A1 x.f1.length c1],.pointer (some ⟨B,0,none⟩)] W fun e w'=>e= .returned (.bool (!okProd aW.length aX.length x))∧Below W.heap.size W w':=by
 have hB:=bN hb;have hne:B≠W.heap.size:=by omega
 have q0:W.cell? ⟨B,0,none⟩=some (.slice cA aW.length cB):=(aG hb 0).trans rfl;have q1:W.cell? ⟨B,1,none⟩=some (.slice cE aX.length cF):=(aG hb 1).trans rfl;have q2:W.cell? ⟨B,2,none⟩=some (.int .i64 bM):=(aG hb 2).trans rfl;have q3:W.cell? ⟨B,3,none⟩=some (.int .i64 bO):=(aG hb 3).trans rfl;have q4:W.cell? ⟨B,4,none⟩=some (.slice cK aV.length cG):=(aG hb 4).trans rfl;clear hb;obtain⟨n,l⟩:=x;simp only at hle hbig hC ⊢
 have hcon:=firsts_symbols.calls cA cB aW cE cF aX bM bO cK cG aV A1 c1 l (l.all (okSym aW.length aX.length)) (W.alloc (.cells #[.int .i64 n,.slice A1 l.length c1] 35))
  (bD fU ((Below.refl _ W).alloc (Nat.le_refl _) _)) gG (bD gH ((Below.refl _ W).alloc (Nat.le_refl _) _)) hU (bD gA ((Below.refl _ W).alloc (Nat.le_refl _) _)) iB (bD hC ((Below.refl _ W).alloc (Nat.le_refl _) _)) hle (by unfold firsts_symbols.f;rw [if_pos hbig])
 unfold okProd
 generalize l.all (okSym aW.length aX.length)=rr at hcon ⊢;clear fU gH gA hC
 by_cases d0:n<0
 ·have e0:decide (n<0)=true:=decide_eq_true d0
  have e1:decide (0≤n)=false:=decide_eq_false (by omega);go_enter Try.func55,Try.ntmps55
  go_wp2
  go_ret
  exact⟨by first|rfl|(rw [e1];rfl),(Below.refl _ W).alloc (Nat.le_refl _) _⟩
 ·have e0:decide (n<0)=false:=decide_eq_false d0
  have e1:decide (0≤n)=true:=decide_eq_true (by omega)
  by_cases d2:(aW.length:Int)≤n
  ·have e2:decide ((aW.length:Int)≤n)=true:=decide_eq_true d2
   have e3:decide (n<(aW.length:Int))=false:=decide_eq_false (by omega);go_enter Try.func55,Try.ntmps55
   go_wp2
   go_ret
   exact⟨by first|rfl|(rw [e1,e3];rfl),(Below.refl _ W).alloc (Nat.le_refl _) _⟩
  ·have e2:decide ((aW.length:Int)≤n)=false:=decide_eq_false d2
   have e3:decide (n<(aW.length:Int))=true:=decide_eq_true (by omega);go_enter Try.func55,Try.ntmps55
   go_wp2_with (go_at_call 56;refine hcon.mono ?_;rintro e w' ⟨rfl,hb'⟩)
   go_ret
   exact⟨by first|(rw [e1,e3];simp;done)|simp,((Below.refl _ W).alloc (Nat.le_refl _) _).trans (hb'.mono (by simp))⟩
def firsts_Right.f (aW:List ByteArray) (aX:List (S72)) (bM:Int) (bO:Int) (aV:List (S35)):Option Bool:=if aV.length≤9223372036854775807∧aV.all (fun p=>decide (p.f1.length≤9223372036854775807))=true then some (aV.all (okProd aW.length aX.length)) else none
theorem firsts_Right.calls (cA:Option Addr) (cB:Nat) (aW:List ByteArray) (cE:Option Addr) (cF:Nat) (aX:List (S72)) (bM:Int) (bO:Int) (cK:Option Addr) (cG:Nat) (aV:List (S35)) (r:Bool) (w:World)
 (fU:Kd.C Kd.string w cA aW.length aW) (gG:aW.length≤cB) (gH:Kd.C k72 w cE aX.length aX) (hU:aX.length≤cF) (gA:Kd.C k35 w cK aV.length aV) (iB:aV.length≤cG)
 (h:firsts_Right.f aW aX bM bO aV=some r):
 Calls Try.prog 39 #[.agg #[.slice cA aW.length cB,.slice cE aX.length cF,.int .i64 bM,.int .i64 bO,.slice cK aV.length cG]] w fun e w'=>e= .returned (.bool r)∧Below w.heap.size w w':=by
 unfold firsts_Right.f at h
 split at h
 case isFalse=>simp at h
 rename_i hbig
 obtain⟨hbig,hrow⟩:=hbig;obtain rfl:=Option.some.inj h;clear h;have eg:∀args w,(callFunc 55 args).run Try.prog w= .ok (.enter 55 args) w:=enters_of Try.func55 (by kernel_rfl) rfl;have e6:∀args w,(callFunc 54 args).run Try.prog w= .ok (.enter 54 args) w:=enters_of Try.func54 (by kernel_rfl) rfl;have HW:Aside0 (Below w.heap.size w (w.alloc (.cells #[.slice cA aW.length cB,.slice cE aX.length cF,.int .i64 bM,.int .i64 bO,.slice cK aV.length cG] 26))):=⟨(Below.refl _ w).alloc (Nat.le_refl _) _⟩
 have hcon:=containsProd_any (fun x=>!okProd aW.length aX.length x) 55 #[.pointer (some ⟨w.heap.size,0,none⟩)] eg cK cG aV (w.alloc (.cells #[.slice cA aW.length cB,.slice cE aX.length cF,.int .i64 bM,.int .i64 bO,.slice cK aV.length cG] 26)) (bD gA HW.out) hbig (fun W x A1 c1 hx hb hle hC=>by
  have hlt:w.heap.size<(w.alloc (.cells #[.slice cA aW.length cB,.slice cE aX.length cF,.int .i64 bM,.int .i64 bO,.slice cK aV.length cG] 26)).heap.size:=by simp
  have hall:=HW.out.trans (hb.mono (by simp));refine(Right1_any x A1 c1 w.heap.size W cA cB aW cE cF aX bM bO cK cG aV (bD fU hall) gG (bD gH hall) hU (bD gA hall) iB ((hb.block _ hlt).trans (by simpa using heap_alloc_new w _)) hle (of_decide_eq_true (List.all_eq_true.1 hrow x hx)) hC).mono ?_
  rintro e w' ⟨he,hb'⟩
  exact⟨he,hb.trans (hb'.mono hb.size)⟩)
 clear fU gH gA;rw [←any_not];generalize (aV.any fun x=>!okProd aW.length aX.length x)=rr at hcon ⊢;go_enter Try.func39,Try.ntmps39
 go_wp2_with (go_at_fn 54;refine hcon.mono ?_;rintro e w' ⟨rfl,hb'⟩)
 go_ret
 exact⟨rfl,HW.out.trans (hb'.mono (by simp))⟩
end Go.Proofs.Ytapjfnfengefpaa.P
end

section
namespace Go.Proofs.Ytapjfnfengefpaa.H
open Go.RowKit Go.Proofs.YtapjfnfengefpaaW.PrintWords Go.Proofs.YtapjfnfengefpaaW.PrintLast Go.Proofs.YtapjfnfengefpaaW.PrintMore
theorem Ev.pos {α:Type}{c:Prop} [Decidable c] {f g:Nat→Option α}{r:α}(h:c) (k:Ev f r):Ev (fun n=>if c then f n else g n) r:=
 Ev.congr (fun _=>if_pos h) k
theorem Ev.neg {α:Type}{c:Prop} [Decidable c] {f g:Nat→Option α}{r:α}(h:¬c) (k:Ev g r):Ev (fun n=>if c then f n else g n) r:=
 Ev.congr (fun _=>if_neg h) k
theorem Ev.some {α:Type}{r s:α}(h:r=s):Ev (fun _=>Option.some r) s:=h ▸ Ev.now r
theorem Ev.bind0 {α β:Type}{g:Option α}{f:Nat→α→Option β}{a:α}{r:β}(h:g=Option.some a) (k:Ev (fun n=>f n a) r):Ev (fun n=>g.bind (f n)) r:=
 Ev.congr (fun _=>by rw [h];rfl) k
theorem Ev.val {α:Type}{g:Nat→Option α}{r s:α}(h:Ev g r) (e:r=s):Ev g s:=e ▸ h
theorem wrap64_id {x:Int}(h0: -9223372036854775808≤x) (h1:x≤9223372036854775807):wrap64 x=x:=by
 unfold wrap64;omega
theorem wf_u8 {x:Int}(h:(Lit.int .u8 x).wf=true):0≤x∧x≤255:=by
 simp [Lit.wf,IntKind.min,IntKind.max,IntKind.bits,IntKind.signed] at h;omega
end Go.Proofs.Ytapjfnfengefpaa.H
end

section
namespace Go.Proofs.Ytapjfnfengefpaa.P
open Go.RowKit Go.Proofs.YtapjfnfengefpaaW.PrintWords Go.Proofs.YtapjfnfengefpaaW.PrintLast Go.Proofs.YtapjfnfengefpaaW.PrintMore
set_option linter.unusedVariables false
set_option linter.unusedSimpArgs false
theorem indexInt_any (p:Int→Bool) (g:Nat) (lb:Array Value) (eg:∀args w,(callFunc g args).run Try.prog w= .ok (.enter g args) w) (A:Option Addr) (c:Nat) (zs:List Int) (w:World)
 (hr:Kd.C (Kd.int .i64) w A zs.length zs) (hbig:zs.length≤9223372036854775807) (hp:∀(W:World) (x:Int),x∈zs→Below w.heap.size w W→Calls Try.prog g (#[.int .i64 x]++lb) W fun e w'=>e= .returned (.bool (p x))∧Below w.heap.size w w'):
 Calls Try.prog 57 #[.slice A zs.length c,.func (.func g) #[] lb] w fun e w'=>(∃n:Int,e= .returned (.int .i64 n)∧Aside0 (decide (0≤n)=zs.any p))∧Below w.heap.size w w':=by
 go_enter Try.func57,Try.ntmps57
 go_wp2
 go_loopg [5,8] zs.length (fun gg _ s8 wr=>∃kk:Nat,kk≤zs.length∧zs.length - kk≤gg∧s8= .int .i64 kk∧Aside0 (Below w.heap.size w wr)∧Aside0 ((zs.take kk).any p=false))
 case atStart=>exact⟨0,Nat.zero_le _,by omega,rfl,⟨Below.refl _ w⟩,⟨by simp⟩⟩
 case round=>
  obtain⟨kk,hkk,hg,rfl,BW,PA⟩:=hrel
  by_cases hlt:kk<zs.length
  ·have hltz:(kk:Int)<(zs.length:Int):=by omega
   have hrd:rd zs (kk:Int)=zs[kk]:=by simp [rd,hlt]
   obtain⟨ad,e,l0⟩:=Kd.at_int (bD hr BW.out) (kk:Int) (by omega) (by omega);have hcall:=hp wr zs[kk] (List.getElem_mem hlt) BW.out;rw [hrd,Int.toNat_natCast] at l0;subst e;have PB:Aside0 ((zs.take (kk+1)).any p=p zs[kk]):=⟨by rw [List.take_succ_eq_append_getElem hlt,List.any_append,PA.out];simp⟩
   have PC:Aside0 (zs.any p=(p zs[kk]||(zs.drop (kk+1)).any p)):=⟨by
    conv=>lhs;rw [←List.take_append_drop (kk+1) zs]
    rw [List.any_append,PB.out]⟩
   clear hp hr hrd;generalize zs[kk]=y at l0 hcall PB PC
   cases hq:p y with
   |true=>
    rw [hq] at hcall;have PD:Aside0 (zs.any p=true):=⟨by rw [PC.out,hq];simp⟩;clear PA PB PC hq
    go_wp2_with (go_at_fn g;refine hcall.mono ?_;rintro e w' ⟨rfl,hb'⟩)
    go_ret
    exact⟨⟨_,rfl,⟨by rw [PD.out];simp⟩⟩,hb'⟩
   |false=>
    rw [hq] at hcall;have PD:Aside0 ((zs.take (kk+1)).any p=false):=⟨by rw [PB.out,hq]⟩;clear PA PB PC hq
    go_wp2_with (go_at_fn g;refine hcall.mono ?_;rintro e w' ⟨rfl,hb'⟩)
    go_roundg (zs.length - (kk+1))
    case measure=>omega
    case rel=>exact⟨kk+1,by omega,by omega,by go_num,⟨hb'⟩,PD⟩
  ·have hltz:¬(kk:Int)<(zs.length:Int):=by omega
   have:kk=zs.length:=by omega
   subst this;have PD:Aside0 (zs.any p=false):=⟨by have:=PA.out;rwa [List.take_length] at this⟩;clear PA hp hr;go_wp2
   go_ret
   exact⟨⟨-1,rfl,⟨by rw [PD.out];simp⟩⟩,BW.out⟩
theorem containsInt_any (p:Int→Bool) (g:Nat) (lb:Array Value) (eg:∀args w,(callFunc g args).run Try.prog w= .ok (.enter g args) w) (A:Option Addr) (c:Nat) (zs:List Int) (w:World)
 (hr:Kd.C (Kd.int .i64) w A zs.length zs) (hbig:zs.length≤9223372036854775807) (hp:∀(W:World) (x:Int),x∈zs→Below w.heap.size w W→Calls Try.prog g (#[.int .i64 x]++lb) W fun e w'=>e= .returned (.bool (p x))∧Below w.heap.size w w'):
 Calls Try.prog 41 #[.slice A zs.length c,.func (.func g) #[] lb] w fun e w'=>e= .returned (.bool (zs.any p))∧Below w.heap.size w w':=by
 have hcon:=indexInt_any p g lb eg A c zs w hr hbig hp;have e6:∀args w,(callFunc 57 args).run Try.prog w= .ok (.enter 57 args) w:=enters_of Try.func57 (by kernel_rfl) rfl;clear hp hr;go_enter Try.func41,Try.ntmps41
 go_wp2_with (go_at_fn 57;refine hcon.mono ?_;rintro e w' ⟨⟨nn_,rfl,hn_⟩,hb'⟩)
 go_ret
 exact⟨by rw [←hn_.out];rfl,hb'⟩
def okEnt (ps:List S35) (r p:Int):Bool:=decide (-1≤p) && decide (p<(ps.length:Int)) && (decide (p<0)||decide ((rd_T35 ps p).f0=r))
theorem mright1_any (p r:Int) (ps:List S35) (SB RB:Nat) (W:World) (A4:Option Addr) (c4:Nat) (hp:Kd.C k35 W A4 ps.length ps)
 (hS:W.cell? ⟨SB,4,none⟩=some (.slice A4 ps.length c4)) (hr:W.cell? ⟨RB,0,none⟩=some (.int .i64 r)):
 Calls Try.prog 40 #[.int .i64 p,.pointer (some ⟨SB,0,none⟩),.pointer (some ⟨RB,0,none⟩)] W fun e w'=>e= .returned (.bool (!okEnt ps r p))∧Below W.heap.size W w':=by
 have h4:=aM hS;have hR:=aM hr
 unfold okEnt
 by_cases c0:p< -1
 ·have d0:decide (p< -1)=true:=decide_eq_true c0
  have d1:decide (-1≤p)=false:=decide_eq_false (by omega);rw [d1];generalize ps.length=n4 at h4;clear hp hS hr;go_enter Try.func40,Try.ntmps40
  go_upto_region 1 with fail
  refine start_ (n:=24) (S:=fun w'=>w'.cell? ⟨SB,4,none⟩=some (.slice A4 n4 c4)) (ds:= []) #[F,F,F,F,F,F,F,F,F,F,F,F,F,F,F,F,F,F,F,F,F,F,F,F] (by kernel_rfl) rfl rfl (h4.out) (fun hHeld=>?_)
  refine pure_ (i:=0) (N:=some 5) (v:=?_) (a':=?_) #[T,F,F,F,F,F,F,F,F,F,F,F,F,F,F,F,F,F,F,F,F,F,F,F] rfl rfl (by kernel_rfl) (fun _ _ _ h=>h) (Or.inl ⟨by rfl,?_⟩) ?_ ?_
  rotate_left;(intro w';go_simp;with_reducible rfl);rotate_left;(simp only [pq];rfl)
  refine pure_ (i:=1) (N:=some 6) (v:=?_) (a':=?_) #[T,T,F,F,F,F,F,F,F,F,F,F,F,F,F,F,F,F,F,F,F,F,F,F] rfl rfl (by kernel_rfl) (fun _ _ _ h=>h) (Or.inl ⟨by rfl,?_⟩) ?_ ?_
  rotate_left;(intro w';go_simp;with_reducible rfl);rotate_left;(simp only [pq];rfl)
  refine pure_ (i:=2) (N:=some 7) (v:=?_) (a':=?_) #[T,T,T,F,F,F,F,F,F,F,F,F,F,F,F,F,F,F,F,F,F,F,F,F] rfl rfl (by kernel_rfl) (fun _ _ _ h=>h) (Or.inl ⟨by rfl,?_⟩) ?_ ?_
  rotate_left;(intro w';go_simp;with_reducible rfl);rotate_left;(simp only [pq];rfl)
  refine pure_ (i:=3) (N:=some 8) (v:=undef) (a':=?_) #[T,T,T,T,F,F,F,F,F,F,F,F,F,F,F,F,F,F,F,F,F,F,F,F] rfl rfl (by kernel_rfl) (fun _ _ _ h=>h) (Or.inr ⟨by rfl,rfl⟩) ?_ ?_
  rotate_left
  ·simp only [pq]
   rfl
  refine pure_ (i:=4) (N:=some 9) (v:=undef) (a':=?_) #[T,T,T,T,T,F,F,F,F,F,F,F,F,F,F,F,F,F,F,F,F,F,F,F] rfl rfl (by kernel_rfl) (fun _ _ _ h=>h) (Or.inr ⟨by rfl,rfl⟩) ?_ ?_
  rotate_left
  ·simp only [pq]
   rfl
  refine pure_ (i:=5) (N:=some 10) (v:=undef) (a':=?_) #[T,T,T,T,T,T,F,F,F,F,F,F,F,F,F,F,F,F,F,F,F,F,F,F] rfl rfl (by kernel_rfl) (fun _ _ _ h=>h) (Or.inr ⟨by rfl,rfl⟩) ?_ ?_
  rotate_left
  ·simp only [pq]
   rfl
  refine pure_ (i:=6) (N:=some 11) (v:=undef) (a':=?_) #[T,T,T,T,T,T,T,F,F,F,F,F,F,F,F,F,F,F,F,F,F,F,F,F] rfl rfl (by kernel_rfl) (fun _ _ _ h=>h) (Or.inr ⟨by rfl,rfl⟩) ?_ ?_
  rotate_left
  ·simp only [pq]
   rfl
  refine pure_ (i:=7) (N:=some 12) (v:=undef) (a':=?_) #[T,T,T,T,T,T,T,T,F,F,F,F,F,F,F,F,F,F,F,F,F,F,F,F] rfl rfl (by kernel_rfl) (fun _ _ _ h=>h) (Or.inr ⟨by rfl,rfl⟩) ?_ ?_
  rotate_left
  ·simp only [pq]
   rfl
  refine pure_ (i:=8) (N:=some 13) (v:=?_) (a':=?_) #[T,T,T,T,T,T,T,T,T,F,F,F,F,F,F,F,F,F,F,F,F,F,F,F] rfl rfl (by kernel_rfl) (fun _ _ _ h=>h) (Or.inl ⟨by rfl,?_⟩) ?_ ?_
  rotate_left;(intro w';go_simp;with_reducible rfl);rotate_left;(simp only [pq];rfl)
  refine pure_ (i:=9) (N:=some 14) (v:=?_) (a':=?_) #[T,T,T,T,T,T,T,T,T,T,F,F,F,F,F,F,F,F,F,F,F,F,F,F] rfl rfl (by kernel_rfl) (fun _ _ _ h=>h) (Or.inl ⟨by rfl,?_⟩) ?_ ?_
  rotate_left;(intro w';go_simp;with_reducible rfl);rotate_left;(simp only [pq];rfl)
  refine pure_ (i:=10) (N:=some 15) (v:=undef) (a':=?_) #[T,T,T,T,T,T,T,T,T,T,T,F,F,F,F,F,F,F,F,F,F,F,F,F] rfl rfl (by kernel_rfl) (fun _ _ _ h=>h) (Or.inr ⟨by rfl,rfl⟩) ?_ ?_
  rotate_left
  ·simp only [pq]
   rfl
  refine pure_ (i:=11) (N:=some 16) (v:=undef) (a':=?_) #[T,T,T,T,T,T,T,T,T,T,T,T,F,F,F,F,F,F,F,F,F,F,F,F] rfl rfl (by kernel_rfl) (fun _ _ _ h=>h) (Or.inr ⟨by rfl,rfl⟩) ?_ ?_
  rotate_left
  ·simp only [pq]
   rfl
  refine pure_ (i:=12) (N:=some 17) (v:=undef) (a':=?_) #[T,T,T,T,T,T,T,T,T,T,T,T,T,F,F,F,F,F,F,F,F,F,F,F] rfl rfl (by kernel_rfl) (fun _ _ _ h=>h) (Or.inr ⟨by rfl,rfl⟩) ?_ ?_
  rotate_left
  ·simp only [pq]
   rfl
  refine pure_ (i:=13) (N:=some 18) (v:=undef) (a':=?_) #[T,T,T,T,T,T,T,T,T,T,T,T,T,T,F,F,F,F,F,F,F,F,F,F] rfl rfl (by kernel_rfl) (fun _ _ _ h=>h) (Or.inr ⟨by rfl,rfl⟩) ?_ ?_
  rotate_left
  ·simp only [pq]
   rfl
  refine pure_ (i:=14) (N:=some 19) (v:=undef) (a':=?_) #[T,T,T,T,T,T,T,T,T,T,T,T,T,T,T,F,F,F,F,F,F,F,F,F] rfl rfl (by kernel_rfl) (fun _ _ _ h=>h) (Or.inr ⟨by rfl,rfl⟩) ?_ ?_
  rotate_left
  ·simp only [pq]
   rfl
  refine pure_ (i:=15) (N:=some 20) (v:=undef) (a':=?_) #[T,T,T,T,T,T,T,T,T,T,T,T,T,T,T,T,F,F,F,F,F,F,F,F] rfl rfl (by kernel_rfl) (fun _ _ _ h=>h) (Or.inr ⟨by rfl,rfl⟩) ?_ ?_
  rotate_left
  ·simp only [pq]
   rfl
  refine pure_ (i:=16) (N:=some 21) (v:=undef) (a':=?_) #[T,T,T,T,T,T,T,T,T,T,T,T,T,T,T,T,T,F,F,F,F,F,F,F] rfl rfl (by kernel_rfl) (fun _ _ _ h=>h) (Or.inr ⟨by rfl,rfl⟩) ?_ ?_
  rotate_left
  ·simp only [pq]
   rfl
  refine pure_ (i:=17) (N:=some 22) (v:=undef) (a':=?_) #[T,T,T,T,T,T,T,T,T,T,T,T,T,T,T,T,T,T,F,F,F,F,F,F] rfl rfl (by kernel_rfl) (fun _ _ _ h=>h) (Or.inr ⟨by rfl,rfl⟩) ?_ ?_
  rotate_left
  ·simp only [pq]
   rfl
  refine pure_ (i:=18) (N:=some 23) (v:=undef) (a':=?_) #[T,T,T,T,T,T,T,T,T,T,T,T,T,T,T,T,T,T,T,F,F,F,F,F] rfl rfl (by kernel_rfl) (fun _ _ _ h=>h) (Or.inr ⟨by rfl,rfl⟩) ?_ ?_
  rotate_left
  ·simp only [pq]
   rfl
  refine pure_ (i:=19) (N:=some 24) (v:=undef) (a':=?_) #[T,T,T,T,T,T,T,T,T,T,T,T,T,T,T,T,T,T,T,T,F,F,F,F] rfl rfl (by kernel_rfl) (fun _ _ _ h=>h) (Or.inr ⟨by rfl,rfl⟩) ?_ ?_
  rotate_left
  ·simp only [pq]
   rfl
  refine pure_ (i:=20) (N:=some 25) (v:=undef) (a':=?_) #[T,T,T,T,T,T,T,T,T,T,T,T,T,T,T,T,T,T,T,T,T,F,F,F] rfl rfl (by kernel_rfl) (fun _ _ _ h=>h) (Or.inr ⟨by rfl,rfl⟩) ?_ ?_
  rotate_left
  ·simp only [pq]
   rfl
  refine pure_ (i:=21) (N:=some 26) (v:=undef) (a':=?_) #[T,T,T,T,T,T,T,T,T,T,T,T,T,T,T,T,T,T,T,T,T,T,F,F] rfl rfl (by kernel_rfl) (fun _ _ _ h=>h) (Or.inr ⟨by rfl,rfl⟩) ?_ ?_
  rotate_left
  ·simp only [pq]
   rfl
  refine pure_ (i:=22) (N:=some 27) (v:=?_) (a':=?_) #[T,T,T,T,T,T,T,T,T,T,T,T,T,T,T,T,T,T,T,T,T,T,T,F] rfl rfl (by kernel_rfl) (fun _ _ _ h=>h) (Or.inl ⟨by rfl,?_⟩) ?_ ?_
  rotate_left;(intro w';go_simp;with_reducible rfl);rotate_left;(simp only [pq];rfl)
  refine pure_ (i:=23) (N:=some 4) (v:=?_) (a':=?_) #[T,T,T,T,T,T,T,T,T,T,T,T,T,T,T,T,T,T,T,T,T,T,T,T] rfl rfl (by kernel_rfl) (fun _ _ _ h=>h) (Or.inl ⟨by rfl,?_⟩) ?_ ?_
  rotate_left;(intro w';go_simp;with_reducible rfl);rotate_left;(simp only [pq];rfl)
  refine done_ (by kernel_rfl) ?_
  go_wp2
  go_ret
  exact⟨rfl,aO (Below.refl _ W)⟩
 ·have d0:decide (p< -1)=false:=decide_eq_false c0
  have d1:decide (-1≤p)=true:=decide_eq_true (by omega);rw [d1]
  by_cases c1:(ps.length:Int)≤p
  ·have d2:decide ((ps.length:Int)≤p)=true:=decide_eq_true c1
   have d3:decide (p<(ps.length:Int))=false:=decide_eq_false (by omega);rw [d3];generalize ps.length=n4 at h4 d2;clear hp hS hr c0 c1 d3;go_enter Try.func40,Try.ntmps40
   go_upto_region 1 with fail
   refine start_ (n:=24) (S:=fun w'=>w'.cell? ⟨SB,4,none⟩=some (.slice A4 n4 c4)) (ds:= []) #[F,F,F,F,F,F,F,F,F,F,F,F,F,F,F,F,F,F,F,F,F,F,F,F] (by kernel_rfl) rfl rfl (h4.out) (fun hHeld=>?_)
   refine pure_ (i:=0) (N:=some 5) (v:=?_) (a':=?_) #[T,F,F,F,F,F,F,F,F,F,F,F,F,F,F,F,F,F,F,F,F,F,F,F] rfl rfl (by kernel_rfl) (fun _ _ _ h=>h) (Or.inl ⟨by rfl,?_⟩) ?_ ?_
   rotate_left;(intro w';go_simp;with_reducible rfl);rotate_left;(simp only [pq];rfl)
   refine pure_ (i:=1) (N:=some 6) (v:=?_) (a':=?_) #[T,T,F,F,F,F,F,F,F,F,F,F,F,F,F,F,F,F,F,F,F,F,F,F] rfl rfl (by kernel_rfl) (fun _ _ _ h=>h) (Or.inl ⟨by rfl,?_⟩) ?_ ?_
   rotate_left;(intro w';go_simp;with_reducible rfl);rotate_left;(simp only [pq];rfl)
   refine pure_ (i:=2) (N:=some 7) (v:=?_) (a':=?_) #[T,T,T,F,F,F,F,F,F,F,F,F,F,F,F,F,F,F,F,F,F,F,F,F] rfl rfl (by kernel_rfl) (fun _ _ _ h=>h) (Or.inl ⟨by rfl,?_⟩) ?_ ?_
   rotate_left;(intro w';go_simp;with_reducible rfl);rotate_left;(simp only [pq];rfl)
   refine pure_ (i:=3) (N:=some 8) (v:=?_) (a':=?_) #[T,T,T,T,F,F,F,F,F,F,F,F,F,F,F,F,F,F,F,F,F,F,F,F] rfl rfl (by kernel_rfl) (fun _ _ _ h=>h) (Or.inl ⟨by rfl,?_⟩) ?_ ?_
   rotate_left;(intro w';go_simp;with_reducible rfl);rotate_left;(simp only [pq];rfl)
   refine pure_ (i:=4) (N:=some 9) (v:=?_) (a':=?_) #[T,T,T,T,T,F,F,F,F,F,F,F,F,F,F,F,F,F,F,F,F,F,F,F] rfl rfl (by kernel_rfl) (fun _ _ _ h=>h) (Or.inl ⟨by rfl,?_⟩) ?_ ?_
   rotate_left;(intro w';go_simp;with_reducible rfl);rotate_left;(simp only [pq];rfl)
   refine take_ (i:=5) (N:=some 10) (v:=?_) (a':=?_) #[T,T,T,T,T,T,F,F,F,F,F,F,F,F,F,F,F,F,F,F,F,F,F,F] rfl rfl (by kernel_rfl) (fun _ _ _ h=>h) (Or.inl ⟨by rfl,?_⟩) hHeld ?_ ?_
   rotate_left
   ·intro w' s0
    go_simp
    with_reducible rfl
   rotate_left
   ·simp only [pq]
    rfl
   refine pure_ (i:=6) (N:=some 11) (v:=?_) (a':=?_) #[T,T,T,T,T,T,T,F,F,F,F,F,F,F,F,F,F,F,F,F,F,F,F,F] rfl rfl (by kernel_rfl) (fun _ _ _ h=>h) (Or.inl ⟨by rfl,?_⟩) ?_ ?_
   rotate_left;(intro w';go_simp;with_reducible rfl);rotate_left;(simp only [pq];rfl)
   refine pure_ (i:=7) (N:=some 12) (v:=?_) (a':=?_) #[T,T,T,T,T,T,T,T,F,F,F,F,F,F,F,F,F,F,F,F,F,F,F,F] rfl rfl (by kernel_rfl) (fun _ _ _ h=>h) (Or.inl ⟨by rfl,?_⟩) ?_ ?_
   rotate_left;(intro w';go_simp;with_reducible rfl);rotate_left;(simp only [pq];rfl)
   refine pure_ (i:=8) (N:=some 13) (v:=?_) (a':=?_) #[T,T,T,T,T,T,T,T,T,F,F,F,F,F,F,F,F,F,F,F,F,F,F,F] rfl rfl (by kernel_rfl) (fun _ _ _ h=>h) (Or.inl ⟨by rfl,?_⟩) ?_ ?_
   rotate_left;(intro w';go_simp;with_reducible rfl);rotate_left;(simp only [pq];rfl)
   refine pure_ (i:=9) (N:=some 14) (v:=?_) (a':=?_) #[T,T,T,T,T,T,T,T,T,T,F,F,F,F,F,F,F,F,F,F,F,F,F,F] rfl rfl (by kernel_rfl) (fun _ _ _ h=>h) (Or.inl ⟨by rfl,?_⟩) ?_ ?_
   rotate_left;(intro w';go_simp;with_reducible rfl);rotate_left;(simp only [pq];rfl)
   refine pure_ (i:=10) (N:=some 15) (v:=undef) (a':=?_) #[T,T,T,T,T,T,T,T,T,T,T,F,F,F,F,F,F,F,F,F,F,F,F,F] rfl rfl (by kernel_rfl) (fun _ _ _ h=>h) (Or.inr ⟨by rfl,rfl⟩) ?_ ?_
   rotate_left
   ·simp only [pq]
    rfl
   refine pure_ (i:=11) (N:=some 16) (v:=undef) (a':=?_) #[T,T,T,T,T,T,T,T,T,T,T,T,F,F,F,F,F,F,F,F,F,F,F,F] rfl rfl (by kernel_rfl) (fun _ _ _ h=>h) (Or.inr ⟨by rfl,rfl⟩) ?_ ?_
   rotate_left
   ·simp only [pq]
    rfl
   refine pure_ (i:=12) (N:=some 17) (v:=undef) (a':=?_) #[T,T,T,T,T,T,T,T,T,T,T,T,T,F,F,F,F,F,F,F,F,F,F,F] rfl rfl (by kernel_rfl) (fun _ _ _ h=>h) (Or.inr ⟨by rfl,rfl⟩) ?_ ?_
   rotate_left
   ·simp only [pq]
    rfl
   refine pure_ (i:=13) (N:=some 18) (v:=undef) (a':=?_) #[T,T,T,T,T,T,T,T,T,T,T,T,T,T,F,F,F,F,F,F,F,F,F,F] rfl rfl (by kernel_rfl) (fun _ _ _ h=>h) (Or.inr ⟨by rfl,rfl⟩) ?_ ?_
   rotate_left
   ·simp only [pq]
    rfl
   refine pure_ (i:=14) (N:=some 19) (v:=undef) (a':=?_) #[T,T,T,T,T,T,T,T,T,T,T,T,T,T,T,F,F,F,F,F,F,F,F,F] rfl rfl (by kernel_rfl) (fun _ _ _ h=>h) (Or.inr ⟨by rfl,rfl⟩) ?_ ?_
   rotate_left
   ·simp only [pq]
    rfl
   refine pure_ (i:=15) (N:=some 20) (v:=undef) (a':=?_) #[T,T,T,T,T,T,T,T,T,T,T,T,T,T,T,T,F,F,F,F,F,F,F,F] rfl rfl (by kernel_rfl) (fun _ _ _ h=>h) (Or.inr ⟨by rfl,rfl⟩) ?_ ?_
   rotate_left
   ·simp only [pq]
    rfl
   refine pure_ (i:=16) (N:=some 21) (v:=undef) (a':=?_) #[T,T,T,T,T,T,T,T,T,T,T,T,T,T,T,T,T,F,F,F,F,F,F,F] rfl rfl (by kernel_rfl) (fun _ _ _ h=>h) (Or.inr ⟨by rfl,rfl⟩) ?_ ?_
   rotate_left
   ·simp only [pq]
    rfl
   refine pure_ (i:=17) (N:=some 22) (v:=undef) (a':=?_) #[T,T,T,T,T,T,T,T,T,T,T,T,T,T,T,T,T,T,F,F,F,F,F,F] rfl rfl (by kernel_rfl) (fun _ _ _ h=>h) (Or.inr ⟨by rfl,rfl⟩) ?_ ?_
   rotate_left
   ·simp only [pq]
    rfl
   refine pure_ (i:=18) (N:=some 23) (v:=undef) (a':=?_) #[T,T,T,T,T,T,T,T,T,T,T,T,T,T,T,T,T,T,T,F,F,F,F,F] rfl rfl (by kernel_rfl) (fun _ _ _ h=>h) (Or.inr ⟨by rfl,rfl⟩) ?_ ?_
   rotate_left
   ·simp only [pq]
    rfl
   refine pure_ (i:=19) (N:=some 24) (v:=undef) (a':=?_) #[T,T,T,T,T,T,T,T,T,T,T,T,T,T,T,T,T,T,T,T,F,F,F,F] rfl rfl (by kernel_rfl) (fun _ _ _ h=>h) (Or.inr ⟨by rfl,rfl⟩) ?_ ?_
   rotate_left
   ·simp only [pq]
    rfl
   refine pure_ (i:=20) (N:=some 25) (v:=undef) (a':=?_) #[T,T,T,T,T,T,T,T,T,T,T,T,T,T,T,T,T,T,T,T,T,F,F,F] rfl rfl (by kernel_rfl) (fun _ _ _ h=>h) (Or.inr ⟨by rfl,rfl⟩) ?_ ?_
   rotate_left
   ·simp only [pq]
    rfl
   refine pure_ (i:=21) (N:=some 26) (v:=undef) (a':=?_) #[T,T,T,T,T,T,T,T,T,T,T,T,T,T,T,T,T,T,T,T,T,T,F,F] rfl rfl (by kernel_rfl) (fun _ _ _ h=>h) (Or.inr ⟨by rfl,rfl⟩) ?_ ?_
   rotate_left
   ·simp only [pq]
    rfl
   refine pure_ (i:=22) (N:=some 27) (v:=?_) (a':=?_) #[T,T,T,T,T,T,T,T,T,T,T,T,T,T,T,T,T,T,T,T,T,T,T,F] rfl rfl (by kernel_rfl) (fun _ _ _ h=>h) (Or.inl ⟨by rfl,?_⟩) ?_ ?_
   rotate_left;(intro w';go_simp;with_reducible rfl);rotate_left;(simp only [pq];rfl)
   refine pure_ (i:=23) (N:=some 4) (v:=?_) (a':=?_) #[T,T,T,T,T,T,T,T,T,T,T,T,T,T,T,T,T,T,T,T,T,T,T,T] rfl rfl (by kernel_rfl) (fun _ _ _ h=>h) (Or.inl ⟨by rfl,?_⟩) ?_ ?_
   rotate_left;(intro w';go_simp;with_reducible rfl);rotate_left;(simp only [pq];rfl)
   refine done_ (by kernel_rfl) ?_
   go_wp2
   go_ret
   exact⟨rfl,aO (Below.refl _ W)⟩
  ·have d2:decide ((ps.length:Int)≤p)=false:=decide_eq_false c1
   have d3:decide (p<(ps.length:Int))=true:=decide_eq_true (by omega);rw [d3]
   by_cases c2:p<0
   ·have d4:decide (p<0)=true:=decide_eq_true c2
    have d5:decide (0≤p)=false:=decide_eq_false (by omega);rw [d4];generalize ps.length=n4 at h4 d2;clear hp hS hr c0 c1 d3 c2 d4;go_enter Try.func40,Try.ntmps40
    go_upto_region 1 with fail
    refine start_ (n:=24) (S:=fun w'=>w'.cell? ⟨SB,4,none⟩=some (.slice A4 n4 c4)) (ds:= []) #[F,F,F,F,F,F,F,F,F,F,F,F,F,F,F,F,F,F,F,F,F,F,F,F] (by kernel_rfl) rfl rfl (h4.out) (fun hHeld=>?_)
    refine pure_ (i:=0) (N:=some 5) (v:=?_) (a':=?_) #[T,F,F,F,F,F,F,F,F,F,F,F,F,F,F,F,F,F,F,F,F,F,F,F] rfl rfl (by kernel_rfl) (fun _ _ _ h=>h) (Or.inl ⟨by rfl,?_⟩) ?_ ?_
    rotate_left;(intro w';go_simp;with_reducible rfl);rotate_left;(simp only [pq];rfl)
    refine pure_ (i:=1) (N:=some 6) (v:=?_) (a':=?_) #[T,T,F,F,F,F,F,F,F,F,F,F,F,F,F,F,F,F,F,F,F,F,F,F] rfl rfl (by kernel_rfl) (fun _ _ _ h=>h) (Or.inl ⟨by rfl,?_⟩) ?_ ?_
    rotate_left;(intro w';go_simp;with_reducible rfl);rotate_left;(simp only [pq];rfl)
    refine pure_ (i:=2) (N:=some 7) (v:=?_) (a':=?_) #[T,T,T,F,F,F,F,F,F,F,F,F,F,F,F,F,F,F,F,F,F,F,F,F] rfl rfl (by kernel_rfl) (fun _ _ _ h=>h) (Or.inl ⟨by rfl,?_⟩) ?_ ?_
    rotate_left;(intro w';go_simp;with_reducible rfl);rotate_left;(simp only [pq];rfl)
    refine pure_ (i:=3) (N:=some 8) (v:=?_) (a':=?_) #[T,T,T,T,F,F,F,F,F,F,F,F,F,F,F,F,F,F,F,F,F,F,F,F] rfl rfl (by kernel_rfl) (fun _ _ _ h=>h) (Or.inl ⟨by rfl,?_⟩) ?_ ?_
    rotate_left;(intro w';go_simp;with_reducible rfl);rotate_left;(simp only [pq];rfl)
    refine pure_ (i:=4) (N:=some 9) (v:=?_) (a':=?_) #[T,T,T,T,T,F,F,F,F,F,F,F,F,F,F,F,F,F,F,F,F,F,F,F] rfl rfl (by kernel_rfl) (fun _ _ _ h=>h) (Or.inl ⟨by rfl,?_⟩) ?_ ?_
    rotate_left;(intro w';go_simp;with_reducible rfl);rotate_left;(simp only [pq];rfl)
    refine take_ (i:=5) (N:=some 10) (v:=?_) (a':=?_) #[T,T,T,T,T,T,F,F,F,F,F,F,F,F,F,F,F,F,F,F,F,F,F,F] rfl rfl (by kernel_rfl) (fun _ _ _ h=>h) (Or.inl ⟨by rfl,?_⟩) hHeld ?_ ?_
    rotate_left
    ·intro w' s0
     go_simp
     with_reducible rfl
    rotate_left
    ·simp only [pq]
     rfl
    refine pure_ (i:=6) (N:=some 11) (v:=?_) (a':=?_) #[T,T,T,T,T,T,T,F,F,F,F,F,F,F,F,F,F,F,F,F,F,F,F,F] rfl rfl (by kernel_rfl) (fun _ _ _ h=>h) (Or.inl ⟨by rfl,?_⟩) ?_ ?_
    rotate_left;(intro w';go_simp;with_reducible rfl);rotate_left;(simp only [pq];rfl)
    refine pure_ (i:=7) (N:=some 12) (v:=?_) (a':=?_) #[T,T,T,T,T,T,T,T,F,F,F,F,F,F,F,F,F,F,F,F,F,F,F,F] rfl rfl (by kernel_rfl) (fun _ _ _ h=>h) (Or.inl ⟨by rfl,?_⟩) ?_ ?_
    rotate_left;(intro w';go_simp;with_reducible rfl);rotate_left;(simp only [pq];rfl)
    refine pure_ (i:=8) (N:=some 13) (v:=?_) (a':=?_) #[T,T,T,T,T,T,T,T,T,F,F,F,F,F,F,F,F,F,F,F,F,F,F,F] rfl rfl (by kernel_rfl) (fun _ _ _ h=>h) (Or.inl ⟨by rfl,?_⟩) ?_ ?_
    rotate_left;(intro w';go_simp;with_reducible rfl);rotate_left;(simp only [pq];rfl)
    refine pure_ (i:=9) (N:=some 14) (v:=?_) (a':=?_) #[T,T,T,T,T,T,T,T,T,T,F,F,F,F,F,F,F,F,F,F,F,F,F,F] rfl rfl (by kernel_rfl) (fun _ _ _ h=>h) (Or.inl ⟨by rfl,?_⟩) ?_ ?_
    rotate_left;(intro w';go_simp;with_reducible rfl);rotate_left;(simp only [pq];rfl)
    refine pure_ (i:=10) (N:=some 15) (v:=?_) (a':=?_) #[T,T,T,T,T,T,T,T,T,T,T,F,F,F,F,F,F,F,F,F,F,F,F,F] rfl rfl (by kernel_rfl) (fun _ _ _ h=>h) (Or.inl ⟨by rfl,?_⟩) ?_ ?_
    rotate_left;(intro w';go_simp;with_reducible rfl);rotate_left;(simp only [pq];rfl)
    refine pure_ (i:=11) (N:=some 16) (v:=?_) (a':=?_) #[T,T,T,T,T,T,T,T,T,T,T,T,F,F,F,F,F,F,F,F,F,F,F,F] rfl rfl (by kernel_rfl) (fun _ _ _ h=>h) (Or.inl ⟨by rfl,?_⟩) ?_ ?_
    rotate_left;(intro w';go_simp;with_reducible rfl);rotate_left;(simp only [pq];rfl)
    refine pure_ (i:=12) (N:=some 17) (v:=?_) (a':=?_) #[T,T,T,T,T,T,T,T,T,T,T,T,T,F,F,F,F,F,F,F,F,F,F,F] rfl rfl (by kernel_rfl) (fun _ _ _ h=>h) (Or.inl ⟨by rfl,?_⟩) ?_ ?_
    rotate_left;(intro w';go_simp;with_reducible rfl);rotate_left;(simp only [pq];rfl)
    refine pure_ (i:=13) (N:=some 18) (v:=undef) (a':=?_) #[T,T,T,T,T,T,T,T,T,T,T,T,T,T,F,F,F,F,F,F,F,F,F,F] rfl rfl (by kernel_rfl) (fun _ _ _ h=>h) (Or.inr ⟨by rfl,rfl⟩) ?_ ?_
    rotate_left
    ·simp only [pq]
     rfl
    refine pure_ (i:=14) (N:=some 19) (v:=undef) (a':=?_) #[T,T,T,T,T,T,T,T,T,T,T,T,T,T,T,F,F,F,F,F,F,F,F,F] rfl rfl (by kernel_rfl) (fun _ _ _ h=>h) (Or.inr ⟨by rfl,rfl⟩) ?_ ?_
    rotate_left
    ·simp only [pq]
     rfl
    refine pure_ (i:=15) (N:=some 20) (v:=undef) (a':=?_) #[T,T,T,T,T,T,T,T,T,T,T,T,T,T,T,T,F,F,F,F,F,F,F,F] rfl rfl (by kernel_rfl) (fun _ _ _ h=>h) (Or.inr ⟨by rfl,rfl⟩) ?_ ?_
    rotate_left
    ·simp only [pq]
     rfl
    refine pure_ (i:=16) (N:=some 21) (v:=undef) (a':=?_) #[T,T,T,T,T,T,T,T,T,T,T,T,T,T,T,T,T,F,F,F,F,F,F,F] rfl rfl (by kernel_rfl) (fun _ _ _ h=>h) (Or.inr ⟨by rfl,rfl⟩) ?_ ?_
    rotate_left
    ·simp only [pq]
     rfl
    refine pure_ (i:=17) (N:=some 22) (v:=undef) (a':=?_) #[T,T,T,T,T,T,T,T,T,T,T,T,T,T,T,T,T,T,F,F,F,F,F,F] rfl rfl (by kernel_rfl) (fun _ _ _ h=>h) (Or.inr ⟨by rfl,rfl⟩) ?_ ?_
    rotate_left
    ·simp only [pq]
     rfl
    refine pure_ (i:=18) (N:=some 23) (v:=undef) (a':=?_) #[T,T,T,T,T,T,T,T,T,T,T,T,T,T,T,T,T,T,T,F,F,F,F,F] rfl rfl (by kernel_rfl) (fun _ _ _ h=>h) (Or.inr ⟨by rfl,rfl⟩) ?_ ?_
    rotate_left
    ·simp only [pq]
     rfl
    refine pure_ (i:=19) (N:=some 24) (v:=undef) (a':=?_) #[T,T,T,T,T,T,T,T,T,T,T,T,T,T,T,T,T,T,T,T,F,F,F,F] rfl rfl (by kernel_rfl) (fun _ _ _ h=>h) (Or.inr ⟨by rfl,rfl⟩) ?_ ?_
    rotate_left
    ·simp only [pq]
     rfl
    refine pure_ (i:=20) (N:=some 25) (v:=undef) (a':=?_) #[T,T,T,T,T,T,T,T,T,T,T,T,T,T,T,T,T,T,T,T,T,F,F,F] rfl rfl (by kernel_rfl) (fun _ _ _ h=>h) (Or.inr ⟨by rfl,rfl⟩) ?_ ?_
    rotate_left
    ·simp only [pq]
     rfl
    refine pure_ (i:=21) (N:=some 26) (v:=?_) (a':=?_) #[T,T,T,T,T,T,T,T,T,T,T,T,T,T,T,T,T,T,T,T,T,T,F,F] rfl rfl (by kernel_rfl) (fun _ _ _ h=>h) (Or.inl ⟨by rfl,?_⟩) ?_ ?_
    rotate_left;(intro w';go_simp;with_reducible rfl);rotate_left;(simp only [pq];rfl)
    refine pure_ (i:=22) (N:=some 27) (v:=?_) (a':=?_) #[T,T,T,T,T,T,T,T,T,T,T,T,T,T,T,T,T,T,T,T,T,T,T,F] rfl rfl (by kernel_rfl) (fun _ _ _ h=>h) (Or.inl ⟨by rfl,?_⟩) ?_ ?_
    rotate_left;(intro w';go_simp;with_reducible rfl);rotate_left;(simp only [pq];rfl)
    refine pure_ (i:=23) (N:=some 4) (v:=?_) (a':=?_) #[T,T,T,T,T,T,T,T,T,T,T,T,T,T,T,T,T,T,T,T,T,T,T,T] rfl rfl (by kernel_rfl) (fun _ _ _ h=>h) (Or.inl ⟨by rfl,?_⟩) ?_ ?_
    rotate_left;(intro w';go_simp;with_reducible rfl);rotate_left;(simp only [pq];rfl)
    refine done_ (by kernel_rfl) ?_
    go_wp2
    go_ret
    exact⟨rfl,aO (Below.refl _ W)⟩
   ·have d4:decide (p<0)=false:=decide_eq_false c2
    have d5:decide (0≤p)=true:=decide_eq_true (by omega);rw [d4];have b0:(0≤p)=True:=eq_true (by omega);have b1:(p<(ps.length:Int))=True:=eq_true (by omega);obtain⟨ad,A1,c1_,e,e0,_,_,_⟩:=at_T35 hp p (by omega) (by omega);generalize (rd_T35 ps p).f0=pl at e0 ⊢;have E0:=aM e0;subst e;generalize ps.length=n4 at h4 d2 b1;clear hp hS hr c0 c1 d3 c2 d4 e0;go_enter Try.func40,Try.ntmps40
    go_upto_region 1 with fail
    refine start_ (n:=24) (S:=fun w'=>w'.cell? ⟨SB,4,none⟩=some (.slice (some ad) n4 c4)∧w'.cell? ⟨RB,0,none⟩=some (.int .i64 r)∧w'.cell? (ad.add (p.toNat * 2))=some (.int .i64 pl)) (ds:= []) #[F,F,F,F,F,F,F,F,F,F,F,F,F,F,F,F,F,F,F,F,F,F,F,F] (by kernel_rfl) rfl rfl ⟨h4.out,hR.out,E0.out⟩ (fun hHeld=>?_)
    refine pure_ (i:=0) (N:=some 5) (v:=?_) (a':=?_) #[T,F,F,F,F,F,F,F,F,F,F,F,F,F,F,F,F,F,F,F,F,F,F,F] rfl rfl (by kernel_rfl) (fun _ _ _ h=>h) (Or.inl ⟨by rfl,?_⟩) ?_ ?_
    rotate_left;(intro w';go_simp;with_reducible rfl);rotate_left;(simp only [pq];rfl)
    refine pure_ (i:=1) (N:=some 6) (v:=?_) (a':=?_) #[T,T,F,F,F,F,F,F,F,F,F,F,F,F,F,F,F,F,F,F,F,F,F,F] rfl rfl (by kernel_rfl) (fun _ _ _ h=>h) (Or.inl ⟨by rfl,?_⟩) ?_ ?_
    rotate_left;(intro w';go_simp;with_reducible rfl);rotate_left;(simp only [pq];rfl)
    refine pure_ (i:=2) (N:=some 7) (v:=?_) (a':=?_) #[T,T,T,F,F,F,F,F,F,F,F,F,F,F,F,F,F,F,F,F,F,F,F,F] rfl rfl (by kernel_rfl) (fun _ _ _ h=>h) (Or.inl ⟨by rfl,?_⟩) ?_ ?_
    rotate_left;(intro w';go_simp;with_reducible rfl);rotate_left;(simp only [pq];rfl)
    refine pure_ (i:=3) (N:=some 8) (v:=?_) (a':=?_) #[T,T,T,T,F,F,F,F,F,F,F,F,F,F,F,F,F,F,F,F,F,F,F,F] rfl rfl (by kernel_rfl) (fun _ _ _ h=>h) (Or.inl ⟨by rfl,?_⟩) ?_ ?_
    rotate_left;(intro w';go_simp;with_reducible rfl);rotate_left;(simp only [pq];rfl)
    refine pure_ (i:=4) (N:=some 9) (v:=?_) (a':=?_) #[T,T,T,T,T,F,F,F,F,F,F,F,F,F,F,F,F,F,F,F,F,F,F,F] rfl rfl (by kernel_rfl) (fun _ _ _ h=>h) (Or.inl ⟨by rfl,?_⟩) ?_ ?_
    rotate_left;(intro w';go_simp;with_reducible rfl);rotate_left;(simp only [pq];rfl)
    refine take_ (i:=5) (N:=some 10) (v:=?_) (a':=?_) #[T,T,T,T,T,T,F,F,F,F,F,F,F,F,F,F,F,F,F,F,F,F,F,F] rfl rfl (by kernel_rfl) (fun _ _ _ h=>h) (Or.inl ⟨by rfl,?_⟩) hHeld ?_ ?_
    rotate_left
    ·rintro w' ⟨s0,s1,s2⟩
     go_simp
     with_reducible rfl
    rotate_left
    ·simp only [pq]
     rfl
    refine pure_ (i:=6) (N:=some 11) (v:=?_) (a':=?_) #[T,T,T,T,T,T,T,F,F,F,F,F,F,F,F,F,F,F,F,F,F,F,F,F] rfl rfl (by kernel_rfl) (fun _ _ _ h=>h) (Or.inl ⟨by rfl,?_⟩) ?_ ?_
    rotate_left;(intro w';go_simp;with_reducible rfl);rotate_left;(simp only [pq];rfl)
    refine pure_ (i:=7) (N:=some 12) (v:=?_) (a':=?_) #[T,T,T,T,T,T,T,T,F,F,F,F,F,F,F,F,F,F,F,F,F,F,F,F] rfl rfl (by kernel_rfl) (fun _ _ _ h=>h) (Or.inl ⟨by rfl,?_⟩) ?_ ?_
    rotate_left;(intro w';go_simp;with_reducible rfl);rotate_left;(simp only [pq];rfl)
    refine pure_ (i:=8) (N:=some 13) (v:=?_) (a':=?_) #[T,T,T,T,T,T,T,T,T,F,F,F,F,F,F,F,F,F,F,F,F,F,F,F] rfl rfl (by kernel_rfl) (fun _ _ _ h=>h) (Or.inl ⟨by rfl,?_⟩) ?_ ?_
    rotate_left;(intro w';go_simp;with_reducible rfl);rotate_left;(simp only [pq];rfl)
    refine pure_ (i:=9) (N:=some 14) (v:=?_) (a':=?_) #[T,T,T,T,T,T,T,T,T,T,F,F,F,F,F,F,F,F,F,F,F,F,F,F] rfl rfl (by kernel_rfl) (fun _ _ _ h=>h) (Or.inl ⟨by rfl,?_⟩) ?_ ?_
    rotate_left;(intro w';go_simp;with_reducible rfl);rotate_left;(simp only [pq];rfl)
    refine pure_ (i:=10) (N:=some 15) (v:=?_) (a':=?_) #[T,T,T,T,T,T,T,T,T,T,T,F,F,F,F,F,F,F,F,F,F,F,F,F] rfl rfl (by kernel_rfl) (fun _ _ _ h=>h) (Or.inl ⟨by rfl,?_⟩) ?_ ?_
    rotate_left;(intro w';go_simp;with_reducible rfl);rotate_left;(simp only [pq];rfl)
    refine pure_ (i:=11) (N:=some 16) (v:=?_) (a':=?_) #[T,T,T,T,T,T,T,T,T,T,T,T,F,F,F,F,F,F,F,F,F,F,F,F] rfl rfl (by kernel_rfl) (fun _ _ _ h=>h) (Or.inl ⟨by rfl,?_⟩) ?_ ?_
    rotate_left;(intro w';go_simp;with_reducible rfl);rotate_left;(simp only [pq];rfl)
    refine pure_ (i:=12) (N:=some 17) (v:=?_) (a':=?_) #[T,T,T,T,T,T,T,T,T,T,T,T,T,F,F,F,F,F,F,F,F,F,F,F] rfl rfl (by kernel_rfl) (fun _ _ _ h=>h) (Or.inl ⟨by rfl,?_⟩) ?_ ?_
    rotate_left;(intro w';go_simp;with_reducible rfl);rotate_left;(simp only [pq];rfl)
    refine pure_ (i:=13) (N:=some 18) (v:=?_) (a':=?_) #[T,T,T,T,T,T,T,T,T,T,T,T,T,T,F,F,F,F,F,F,F,F,F,F] rfl rfl (by kernel_rfl) (fun _ _ _ h=>h) (Or.inl ⟨by rfl,?_⟩) ?_ ?_
    rotate_left;(intro w';go_simp;with_reducible rfl);rotate_left;(simp only [pq];rfl)
    refine pure_ (i:=15) (N:=some 20) (v:=?_) (a':=?_) #[T,T,T,T,T,T,T,T,T,T,T,T,T,T,F,T,F,F,F,F,F,F,F,F] rfl rfl (by kernel_rfl) (fun _ _ _ h=>h) (Or.inl ⟨by rfl,?_⟩) ?_ ?_
    rotate_left;(intro w';go_simp;with_reducible rfl);rotate_left;(simp only [pq];rfl)
    refine take_ (i:=14) (N:=some 19) (v:=?_) (a':=?_) #[T,T,T,T,T,T,T,T,T,T,T,T,T,T,T,T,F,F,F,F,F,F,F,F] rfl rfl (by kernel_rfl) (fun _ _ _ h=>h) (Or.inl ⟨by rfl,?_⟩) hHeld ?_ ?_
    rotate_left
    ·rintro w' ⟨s0,s1,s2⟩
     go_simp
     with_reducible rfl
    rotate_left
    ·simp only [pq]
     rfl
    refine pure_ (i:=16) (N:=some 21) (v:=?_) (a':=?_) #[T,T,T,T,T,T,T,T,T,T,T,T,T,T,T,T,T,F,F,F,F,F,F,F] rfl rfl (by kernel_rfl) (fun _ _ _ h=>h) (Or.inl ⟨by rfl,?_⟩) ?_ ?_
    rotate_left;(intro w';go_simp;with_reducible rfl);rotate_left;(simp only [pq];rfl)
    refine pure_ (i:=17) (N:=some 22) (v:=?_) (a':=?_) #[T,T,T,T,T,T,T,T,T,T,T,T,T,T,T,T,T,T,F,F,F,F,F,F] rfl rfl (by kernel_rfl) (fun _ _ _ h=>h) (Or.inl ⟨by rfl,?_⟩) ?_ ?_
    rotate_left;(intro w';go_simp;with_reducible rfl);rotate_left;(simp only [pq];rfl)
    refine take_ (i:=18) (N:=some 23) (v:=?_) (a':=?_) #[T,T,T,T,T,T,T,T,T,T,T,T,T,T,T,T,T,T,T,F,F,F,F,F] rfl rfl (by kernel_rfl) (fun _ _ _ h=>h) (Or.inl ⟨by rfl,?_⟩) hHeld ?_ ?_
    rotate_left
    ·rintro w' ⟨s0,s1,s2⟩
     go_simp
     with_reducible rfl
    rotate_left
    ·simp only [pq]
     rfl
    refine take_ (i:=19) (N:=some 24) (v:=?_) (a':=?_) #[T,T,T,T,T,T,T,T,T,T,T,T,T,T,T,T,T,T,T,T,F,F,F,F] rfl rfl (by kernel_rfl) (fun _ _ _ h=>h) (Or.inl ⟨by rfl,?_⟩) hHeld ?_ ?_
    rotate_left
    ·rintro w' ⟨s0,s1,s2⟩
     go_simp
     with_reducible rfl
    rotate_left
    ·simp only [pq]
     rfl
    refine pure_ (i:=20) (N:=some 25) (v:=?_) (a':=?_) #[T,T,T,T,T,T,T,T,T,T,T,T,T,T,T,T,T,T,T,T,T,F,F,F] rfl rfl (by kernel_rfl) (fun _ _ _ h=>h) (Or.inl ⟨by rfl,?_⟩) ?_ ?_
    rotate_left;(intro w';go_simp;with_reducible rfl);rotate_left;(simp only [pq];rfl)
    refine pure_ (i:=21) (N:=some 26) (v:=?_) (a':=?_) #[T,T,T,T,T,T,T,T,T,T,T,T,T,T,T,T,T,T,T,T,T,T,F,F] rfl rfl (by kernel_rfl) (fun _ _ _ h=>h) (Or.inl ⟨by rfl,?_⟩) ?_ ?_
    rotate_left;(intro w';go_simp;with_reducible rfl);rotate_left;(simp only [pq];rfl)
    refine pure_ (i:=22) (N:=some 27) (v:=?_) (a':=?_) #[T,T,T,T,T,T,T,T,T,T,T,T,T,T,T,T,T,T,T,T,T,T,T,F] rfl rfl (by kernel_rfl) (fun _ _ _ h=>h) (Or.inl ⟨by rfl,?_⟩) ?_ ?_
    rotate_left;(intro w';go_simp;with_reducible rfl);rotate_left;(simp only [pq];rfl)
    refine pure_ (i:=23) (N:=some 4) (v:=?_) (a':=?_) #[T,T,T,T,T,T,T,T,T,T,T,T,T,T,T,T,T,T,T,T,T,T,T,T] rfl rfl (by kernel_rfl) (fun _ _ _ h=>h) (Or.inl ⟨by rfl,?_⟩) ?_ ?_
    rotate_left;(intro w';go_simp;with_reducible rfl);rotate_left;(simp only [pq];rfl)
    refine done_ (by kernel_rfl) ?_
    go_wp2
    go_ret
    exact⟨by by_cases h:pl=r<;>simp [h],aO (Below.refl _ W)⟩
def rowsOk (nt:Nat) (ps:List S35):Nat→List (List Int)→Bool
 |_,[]=>true
 |r,row::t=>decide (row.length=nt+1) && row.all (okEnt ps (r:Int)) && rowsOk nt ps (r+1) t
def tbRight (nn nt:Nat) (ps:List S35) (tb:List (List Int)):Bool:=ps.all (okProd nn nt) && (!decide (nn=0) && (decide (tb.length=nn) && rowsOk nt ps 0 tb))
theorem at_rowi {w:World}{A:Option Addr}{n:Nat}{xs:List (List Int)}(h:Kd.C (Kd.slice 3 (Kd.int .i64)) w A n xs) (i:Int) (h0:0≤i) (h1:i<n):∃ad A0 c0,A=some ad∧w.cell? (ad.add i.toNat)=some (.slice A0 (xs.getD i.toNat []).length c0)∧(xs.getD i.toNat []).length≤c0∧(Kd.int .i64).C w A0 (xs.getD i.toNat []).length (xs.getD i.toNat []):=by
 obtain⟨ad,c,e,_,hK,hc0⟩:=Kd.C_get h ([]:List Int) i h0 h1;have hc:∀j u,c[j]?=some u→w.cell? (ad.add (i.toNat * 1+j))=some u:=hc0;obtain⟨A0,c0,rfl,l0,g0⟩:=hK;exact⟨ad,A0,c0,e,by have hq:=hc 0 _ rfl;rwa [Nat.mul_one,Nat.add_zero] at hq,l0,g0⟩
theorem any_not' {α:Type}(p:α→Bool) (l:List α):(l.any fun x=>!p x)=!l.all p:=by rw [←any_not];simp
def machine_Right.f (aW:List ByteArray) (aX:List (S72)) (bM:Int) (bO:Int) (aV:List (S35)) (l1:List (List Int)):Option Bool:=if aX.length≤1000000000∧l1.length≤1000000000∧aV.length≤1000000000∧aV.all (fun p=>decide (p.f1.length≤9223372036854775807))=true∧l1.all (fun p=>decide (p.length≤9223372036854775807))=true then some (tbRight aW.length aX.length aV l1) else none
set_option maxHeartbeats 4000000 in
set_option maxRecDepth 100000 in
theorem machine_Right.calls (cA:Option Addr) (cB:Nat) (aW:List ByteArray) (cE:Option Addr) (cF:Nat) (aX:List (S72)) (bM:Int) (bO:Int) (cK:Option Addr) (cG:Nat) (aV:List (S35)) (A1:Option Addr) (c1:Nat) (l1:List (List Int)) (r:Bool) (w:World)
 (fU:Kd.C Kd.string w cA aW.length aW) (gG:aW.length≤cB) (gH:Kd.C k72 w cE aX.length aX) (hU:aX.length≤cF) (gA:Kd.C k35 w cK aV.length aV) (iB:aV.length≤cG) (hr1:Kd.C (Kd.slice 3 (Kd.int .i64)) w A1 l1.length l1) (hc1:l1.length≤c1)
 (h:machine_Right.f aW aX bM bO aV l1=some r):
 Calls Try.prog 25 #[.agg #[.slice cA aW.length cB,.slice cE aX.length cF,.int .i64 bM,.int .i64 bO,.slice cK aV.length cG],.slice A1 l1.length c1] w fun e w'=>e= .returned (.bool r)∧Below w.heap.size w w':=by
 unfold machine_Right.f at h
 split at h
 case isFalse=>simp at h
 rename_i hbig
 obtain⟨hb1,hb2,hb3,hb4,hb5⟩:=hbig;obtain rfl:=Option.some.inj h;clear h;have HA:Aside0 (Below w.heap.size w (w.alloc (.cells #[.slice cA aW.length cB,.slice cE aX.length cF,.int .i64 bM,.int .i64 bO,.slice cK aV.length cG] 26))):=⟨(Below.refl _ w).alloc (Nat.le_refl _) _⟩;have P1:=aM (firsts_Right.calls cA cB aW cE cF aX bM bO cK cG aV _ _ (bD fU HA.out) gG (bD gH HA.out) hU (bD gA HA.out) iB (by unfold firsts_Right.f;rw [if_pos ⟨by omega,hb4⟩]));have HBK:Aside0 ((w.alloc (.cells #[.slice cA aW.length cB,.slice cE aX.length cF,.int .i64 bM,.int .i64 bO,.slice cK aV.length cG] 26)).heap[w.heap.size]?=some (.cells #[.slice cA aW.length cB,.slice cE aX.length cF,.int .i64 bM,.int .i64 bO,.slice cK aV.length cG] 26 (0,0))):=⟨heap_alloc_new w _⟩;have HR4:=aM (bD gA HA.out);have HR1:=aM (bD hr1 HA.out);have HBIG:=aM (And.intro hb1 (And.intro hb2 hb3));have HB5:=aM hb5;clear fU gG gH hU gA iB hr1 hc1 hb1 hb2 hb3 hb4 hb5;generalize hrr:tbRight aW.length aX.length aV l1=rr
 unfold tbRight at hrr
 generalize aV.all (okProd aW.length aX.length)=R1 at P1 hrr;have HRR:=aM hrr;clear hrr;go_enter Try.func25,Try.ntmps25
 go_upto_region 1 with fail
 generalize (w.alloc (.cells #[.slice cA aW.length cB,.slice cE aX.length cF,.int .i64 bM,.int .i64 bO,.slice cK aV.length cG] 26))=w1 at HA P1 HBK HR4 HR1 ⊢;have HSB:Aside0 (w.heap.size<w1.heap.size):=⟨bN HBK.out⟩
 have HC:Aside0 (∀W,Below w1.heap.size w1 W→W.cell? ⟨w.heap.size,0,none⟩=some (.slice cA aW.length cB)∧W.cell? ⟨w.heap.size,1,none⟩=some (.slice cE aX.length cF)∧W.cell? ⟨w.heap.size,2,none⟩=some (.int .i64 bM)∧W.cell? ⟨w.heap.size,3,none⟩=some (.int .i64 bO)∧W.cell? ⟨w.heap.size,4,none⟩=some (.slice cK aV.length cG)):=⟨fun W hW=>by
  have hb:=(hW.block _ (bN HBK.out)).trans HBK.out;exact⟨(aG hb 0).trans rfl,(aG hb 1).trans rfl,(aG hb 2).trans rfl,(aG hb 3).trans rfl,(aG hb 4).trans rfl⟩⟩
 obtain⟨q0,q1,q2,q3,q4⟩:=HC.out w1 (Below.refl _ _)
 cases R1 with
 |false=>
  go_wp2_with (first|(go_at_call 39;(with_reducible refine P1.out.mono ?_);rintro e w2 ⟨rfl,hb2⟩;have HB2:=aM hb2;clear hb2 P1 q0 q1 q2 q3 q4))
  go_ret
  exact⟨by rw [←HRR.out];rfl,HA.out.trans (HB2.out.mono HA.out.size)⟩
 |true=>
  by_cases hn:aW.length=0
  ·have d0:decide (aW.length=0)=true:=decide_eq_true hn
   have d1:((aW.length:Int)==0)=true:=by simp [hn]
   have HN:=aM hn;clear hn
   go_wp2_with (first|(go_at_call 39;(with_reducible refine P1.out.mono ?_);rintro e w2 ⟨rfl,hb2⟩;have HB2:=aM hb2;clear hb2 P1 q0 q1 q2 q3 q4;obtain⟨q0,q1,q2,q3,q4⟩:=HC.out w2 HB2.out;have hn:=HN.out))
   go_ret
   exact⟨by rw [←HRR.out,d0];rfl,HA.out.trans (HB2.out.mono HA.out.size)⟩
  ·have d0:decide (aW.length=0)=false:=decide_eq_false hn
   have d1:((aW.length:Int)==0)=false:=by simp [hn]
   have HN:=aM hn
   by_cases ht:l1.length=aW.length
   ·have d2:decide (l1.length=aW.length)=true:=decide_eq_true ht
    have HT:=aM ht;clear hn ht
    go_upto_region 3 with(first|(go_at_call 39;(with_reducible refine P1.out.mono ?_);rintro e w2 ⟨rfl,hb2⟩;have HB2:=aM hb2;clear hb2 P1 q0 q1 q2 q3 q4;obtain⟨q0,q1,q2,q3,q4⟩:=HC.out w2 HB2.out;have hn:=HN.out;have ht:=HT.out;have ht2:((l1.length:Int) !=(aW.length:Int))=false:=by simp [HT.out]))
    have HR1':Aside0 ((Kd.slice 3 (Kd.int .i64)).C w1 A1 aW.length l1):=⟨HT.out ▸ HR1.out⟩;have hw1:IntKind.i64.wrap ((aX.length:Int)+1)=(aX.length:Int)+1:=by rw [IntKind.wrap_i64];have:=HBIG.out.1;omega
    have HNB:Aside0 (aW.length≤1000000000):=⟨by have:=HBIG.out.2.1;have:=HT.out;omega⟩;clear q0 q1 q2 q3 q4 HR1;go_wp2
    go_loopg [5,6,7,27] aW.length (fun gg _ _ _ s27 wr=>∃kk:Nat,kk≤aW.length∧aW.length - kk≤gg∧s27= .int .i64 kk∧Aside0 (Below w1.heap.size w1 wr)∧Aside0 (rowsOk aX.length aV 0 l1=rowsOk aX.length aV kk (l1.drop kk)))
    case atStart=>exact⟨0,Nat.zero_le _,by omega,rfl,HB2,⟨by simp⟩⟩
    case round=>
     clear HB2;obtain⟨kk,hkk,hg,rfl,BW,PA⟩:=hrel
     by_cases hlt:kk<aW.length
     ·have hltz:decide ((kk:Int)<(aW.length:Int))=true:=decide_eq_true (by omega)
      have k0:(0≤(kk:Int))=True:=eq_true (by omega);have k1:((kk:Int)<(aW.length:Int))=True:=eq_true (by omega);have hlt1:kk<l1.length:=by rw [HT.out];exact hlt
      obtain⟨ad,A9,c9,e,l9,_,hC9⟩:=at_rowi (bD HR1'.out BW.out) (kk:Int) (by omega) (by omega);rw [Int.toNat_natCast,show l1.getD kk []=l1[kk] by rw [List.getD_eq_getElem?_getD,List.getElem?_eq_getElem hlt1];rfl] at l9 hC9;have hrow:l1[kk].length≤9223372036854775807:=of_decide_eq_true (List.all_eq_true.1 HB5.out _ (List.getElem_mem hlt1));have PB:Aside0 (rowsOk aX.length aV 0 l1=(decide (l1[kk].length=aX.length+1) && l1[kk].all (okEnt aV (kk:Int)) && rowsOk aX.length aV (kk+1) (l1.drop (kk+1)))):=⟨by rw [PA.out,List.drop_eq_getElem_cons hlt1,rowsOk]⟩;generalize l1[kk]=row at l9 hC9 hrow PB;subst e;have hwk:IntKind.i64.wrap ((kk:Int)+1)=(kk:Int)+1:=by rw [IntKind.wrap_i64];have:=HNB.out;omega
      obtain⟨n9,hn9⟩:∃n9,n9=row.length:=⟨_,rfl⟩;rw [←hn9] at l9;have HN9:=aM hn9;have HLT:=aM (And.intro hlt hg);have HC9:=aM hC9;have HROW:=aM hrow;clear hlt hlt1 hkk hg hn9 hC9 hrow PA
      go_upto_region 7 with fail
      have HB4:Aside0 (Below w1.heap.size w1 (wr.alloc (.cells #[.int .i64 (kk:Int)] 3))):=⟨BW.out.trans ((aN (Below.refl _ wr) _).mono BW.out.size)⟩;have HB4':Aside0 (Below wr.heap.size wr (wr.alloc (.cells #[.int .i64 (kk:Int)] 3))):=⟨aN (Below.refl _ wr) _⟩;have HRB:Aside0 ((wr.alloc (.cells #[.int .i64 (kk:Int)] 3)).heap[wr.heap.size]?=some (.cells #[.int .i64 (kk:Int)] 3 (0,0))):=⟨heap_alloc_new wr _⟩;generalize (wr.alloc (.cells #[.int .i64 (kk:Int)] 3))=w4 at HB4 HB4' HRB ⊢;generalize wr.heap.size=RB at HRB ⊢;have eg:∀args w,(callFunc 40 args).run Try.prog w= .ok (.enter 40 args) w:=enters_of Try.func40 (by kernel_rfl) rfl
      have hcon:=containsInt_any (fun x=>!okEnt aV (kk:Int) x) 40 #[.pointer (some ⟨w.heap.size,0,none⟩),.pointer (some ⟨RB,0,none⟩)] eg A9 c9 row w4 (bD HC9.out HB4'.out) HROW.out (fun W x _ hb=>by
       refine(mright1_any x (kk:Int) aV w.heap.size RB W cK cG (bD HR4.out (HB4.out.trans (hb.mono HB4.out.size))) (HC.out W (HB4.out.trans (hb.mono HB4.out.size))).2.2.2.2 ((aG (bF HRB.out hb) 0).trans rfl)).mono ?_
       rintro e w' ⟨he,hb'⟩
       exact⟨he,hb.trans (hb'.mono hb.size)⟩)
      rw [any_not',←HN9.out] at hcon;have PB':Aside0 (rowsOk aX.length aV 0 l1=(decide (n9=aX.length+1) && row.all (okEnt aV (kk:Int)) && rowsOk aX.length aV (kk+1) (l1.drop (kk+1)))):=⟨by rw [PB.out,HN9.out]⟩;generalize row.all (okEnt aV (kk:Int))=R2 at hcon PB';have P5:=aM hcon;obtain⟨q0,q1,q2,q3,q4⟩:=HC.out w4 HB4.out;clear hcon eg PB BW;have e6:∀args w,(callFunc 41 args).run Try.prog w= .ok (.enter 41 args) w:=enters_of Try.func41 (by kernel_rfl) rfl
      by_cases h9:n9=aX.length+1
      ·have e9:((n9:Int) !=(aX.length:Int)+1)=false:=by simp [h9]
       have H9:=aM h9;have D9:=aM (decide_eq_true h9);clear h9
       cases R2 with
       |true=>
        have PC:Aside0 (rowsOk aX.length aV 0 l1=rowsOk aX.length aV (kk+1) (l1.drop (kk+1))):=⟨by rw [PB'.out,D9.out];simp⟩
        go_wp2_with (go_at_fn 41;refine P5.out.mono ?_;rintro e w5 ⟨rfl,hb5⟩;have HB5w:=aM hb5;clear hb5)
        go_roundg (aW.length - (kk+1))
        case measure=>have:=HLT.out;omega
        case rel=>exact⟨kk+1,by have:=HLT.out;omega,Nat.le_refl _,by push_cast;rfl,⟨HB4.out.trans (HB5w.out.mono HB4.out.size)⟩,PC⟩
       |false=>
        have PC:Aside0 (rowsOk aX.length aV 0 l1=false):=⟨by rw [PB'.out];simp⟩
        go_wp2_with (go_at_fn 41;refine P5.out.mono ?_;rintro e w5 ⟨rfl,hb5⟩;have HB5w:=aM hb5;clear hb5)
        go_ret
        exact⟨by rw [←HRR.out,d0,d2,PC.out];rfl,HA.out.trans ((HB4.out.trans (HB5w.out.mono HB4.out.size)).mono HA.out.size)⟩
      ·have e9:((n9:Int) !=(aX.length:Int)+1)=true:=by simp;omega
       have PC:Aside0 (rowsOk aX.length aV 0 l1=false):=⟨by rw [PB'.out,decide_eq_false h9];simp⟩;clear h9;go_wp2
       go_ret
       exact⟨by rw [←HRR.out,d0,d2,PC.out];rfl,HA.out.trans (HB4.out.mono HA.out.size)⟩
     ·obtain rfl:kk=aW.length:=by omega
      have hltz:decide ((aW.length:Int)<(aW.length:Int))=false:=decide_eq_false (by omega);have PD:Aside0 (rowsOk aX.length aV 0 l1=true):=⟨by rw [PA.out,←HT.out,List.drop_length];rfl⟩;clear hlt hkk hg PA;go_wp2
      go_ret
      exact⟨by rw [←HRR.out,d0,d2,PD.out];rfl,HA.out.trans (BW.out.mono HA.out.size)⟩
   ·have d2:decide (l1.length=aW.length)=false:=decide_eq_false ht
    have ht2:((l1.length:Int) !=(aW.length:Int))=true:=by simp;omega
    have HT:=aM ht;clear hn ht
    go_wp2_with (first|(go_at_call 39;(with_reducible refine P1.out.mono ?_);rintro e w2 ⟨rfl,hb2⟩;have HB2:=aM hb2;clear hb2 P1 q0 q1 q2 q3 q4;obtain⟨q0,q1,q2,q3,q4⟩:=HC.out w2 HB2.out;have hn:=HN.out;have ht:=HT.out))
    go_ret
    exact⟨by rw [←HRR.out,d0,d2];rfl,HA.out.trans (HB2.out.mono HA.out.size)⟩
theorem awaits1_any (x:S43) (B:Nat) (W:World) (A0 A1:Option Addr) (n0 n1 c0 c1:Nat)
 (h0:W.cell? ⟨B,0,none⟩=some (.slice A0 n0 c0)) (h1:W.cell? ⟨B,1,none⟩=some (.slice A1 n1 c1)) (hB:B<W.heap.size):
 Calls Try.prog 50 #[.agg #[.bool x.f0,.int .i64 x.f1],.pointer (some ⟨B,0,none⟩)] W fun e w'=>e= .returned (.bool (!okSym n0 n1 x))∧Below W.heap.size W w':=by
 have hne:B≠W.heap.size:=by omega
 obtain⟨b,n⟩:=x
 unfold okSym
 by_cases c0:n<0
 ·have d0:decide (n<0)=true:=decide_eq_true c0
  have d1:decide (0≤n)=false:=decide_eq_false (by omega)
  cases b<;>(go_enter Try.func50,Try.ntmps50;go_wp2;go_ret;exact⟨rfl,(Below.refl _ W).alloc (Nat.le_refl _) _⟩)
 have d0:decide (n<0)=false:=decide_eq_false c0;have d1:decide (0≤n)=true:=decide_eq_true (by omega)
 cases b with
 |true=>
  by_cases c2:(n1:Int)≤n
  ·have d2:decide ((n1:Int)≤n)=true:=decide_eq_true c2
   have d3:decide (n<(n1:Int))=false:=decide_eq_false (by omega);go_enter Try.func50,Try.ntmps50
   go_wp2
   go_ret
   exact⟨rfl,(Below.refl _ W).alloc (Nat.le_refl _) _⟩
  ·have d2:decide ((n1:Int)≤n)=false:=decide_eq_false c2
   have d3:decide (n<(n1:Int))=true:=decide_eq_true (by omega);go_enter Try.func50,Try.ntmps50
   go_wp2
   go_ret
   exact⟨rfl,(Below.refl _ W).alloc (Nat.le_refl _) _⟩
 |false=>
  by_cases c2:(n0:Int)≤n
  ·have d2:decide ((n0:Int)≤n)=true:=decide_eq_true c2
   have d3:decide (n<(n0:Int))=false:=decide_eq_false (by omega);go_enter Try.func50,Try.ntmps50
   go_wp2
   go_ret
   exact⟨rfl,(Below.refl _ W).alloc (Nat.le_refl _) _⟩
  ·have d2:decide ((n0:Int)≤n)=false:=decide_eq_false c2
   have d3:decide (n<(n0:Int))=true:=decide_eq_true (by omega);go_enter Try.func50,Try.ntmps50
   go_wp2
   go_ret
   exact⟨rfl,(Below.refl _ W).alloc (Nat.le_refl _) _⟩
def stAwaits (nn nt:Nat) (l:List S43):Bool:=decide (l.length≤10000) && l.all (okSym nn nt)
set_option maxRecDepth 100000 in
theorem awaits_any (cA:Option Addr) (cB:Nat) (aW:List ByteArray) (cE:Option Addr) (cF:Nat) (aX:List (S72)) (bM:Int) (bO:Int) (cK:Option Addr) (cG:Nat) (aV:List (S35)) (A1:Option Addr) (c1:Nat) (l1:List (S43)) (w:World)
 (hr1:Kd.C k43 w A1 l1.length l1):
 Calls Try.prog 35 #[.agg #[.slice cA aW.length cB,.slice cE aX.length cF,.int .i64 bM,.int .i64 bO,.slice cK aV.length cG],.slice A1 l1.length c1] w fun e w'=>e= .returned (.bool (stAwaits aW.length aX.length l1))∧Below w.heap.size w w':=by
 have HW:Aside0 (Below w.heap.size w (w.alloc (.cells #[.slice cA aW.length cB,.slice cE aX.length cF,.int .i64 bM,.int .i64 bO,.slice cK aV.length cG] 26))):=⟨(Below.refl _ w).alloc (Nat.le_refl _) _⟩
 unfold stAwaits
 by_cases hl:l1.length≤10000
 ·have eg:∀args w,(callFunc 50 args).run Try.prog w= .ok (.enter 50 args) w:=enters_of Try.func50 (by kernel_rfl) rfl
  have e6:∀args w,(callFunc 51 args).run Try.prog w= .ok (.enter 51 args) w:=enters_of Try.func51 (by kernel_rfl) rfl
  have hcon:=containsSym_any (fun x=>!okSym aW.length aX.length x) 50 #[.pointer (some ⟨w.heap.size,0,none⟩)] eg A1 c1 l1 (w.alloc (.cells #[.slice cA aW.length cB,.slice cE aX.length cF,.int .i64 bM,.int .i64 bO,.slice cK aV.length cG] 26)) (bD hr1 HW.out) (by omega) (fun W x _ hb=>by
   have hlt:w.heap.size<(w.alloc (.cells #[.slice cA aW.length cB,.slice cE aX.length cF,.int .i64 bM,.int .i64 bO,.slice cK aV.length cG] 26)).heap.size:=by simp
   refine(awaits1_any x w.heap.size W cA cE aW.length aX.length cB cF ?_ ?_ (Nat.lt_of_lt_of_le hlt hb.size)).mono ?_
   ·exact(hb.cell (p:=⟨w.heap.size,0,none⟩) hlt).trans (by simp)
   ·exact(hb.cell (p:=⟨w.heap.size,1,none⟩) hlt).trans (by simp)
   ·rintro e w' ⟨he,hb'⟩
    exact⟨he,hb.trans (hb'.mono hb.size)⟩)
  have HD:=aM (decide_eq_true hl);clear hr1;rw [any_not'] at hcon;generalize l1.all (okSym aW.length aX.length)=rr at hcon ⊢;go_enter Try.func35,Try.ntmps35
  go_wp2_with (go_at_fn 51;refine hcon.mono ?_;rintro e w' ⟨rfl,hb'⟩)
  go_ret
  exact⟨by rw [HD.out];simp,HW.out.trans (hb'.mono (by simp))⟩
 ·have hd:decide (l1.length≤10000)=false:=decide_eq_false hl
  rw [hd];clear hr1 hd;go_enter Try.func35,Try.ntmps35
  go_wp2
  go_ret
  exact⟨rfl,HW.out⟩
theorem R_lit0 {α:Type}(d:Kd α) (e:Nat) (W:World) (ok:Nat→Prop) (h:ok W.heap.size):d.R e (W.alloc (.cells #[] e)) W.heap.size ok (.slice (some ⟨W.heap.size,0,none⟩) 0 0) []:=by
 refine⟨fun k hk=>?_,[],?_,?_⟩
 ·have:W.heap.size=k:=by simpa [Value.ownBlock] using hk
  subst this;exact h
 ·have h2:=World.ownsRow_lit (base:=W.heap.size) (e:=e) (size:=d.sz) W #[] 0 (Nat.le_refl _) (by decide) (by simp)
  simpa using h2
 ·exact⟨by simp,by simp⟩
set_option maxRecDepth 100000 in
theorem cloneSym_any (A:Option Addr) (c:Nat) (l:List (S43)) (w:World) (hr:Kd.C k43 w A l.length l) (hb:l.length≤1000000000):
 Calls Try.prog 37 #[.slice A l.length c] w fun e w'=>∃v,e= .returned v∧Kd.R k43 43 w' w.heap.size (fun _=>True) v l∧Below w.heap.size w w':=by
 cases A with
 |none=>
  obtain rfl:l= []:=by
   cases l with
   |nil=>rfl
   |cons x l=>obtain⟨ad,c,e,_⟩:=Kd.C_get hr x 0 (by omega) (by simp);cases e
  have heq:=Lib.run_eql_slice_nil (P:=Try.prog) w 29 43 none 0 c 0 0 Try.underlying29;go_enter Try.func37,Try.ntmps37
  go_wp2
  go_ret
  exact⟨_,rfl,Kd.R_nil _ _ _ _ _,Below.refl _ _⟩
 |some ad=>
  have heq:=Lib.run_eql_slice_nil (P:=Try.prog) w 29 43 (some ad) l.length c 0 0 Try.underlying29;have HR:=aM hr;have HB:=aM hb;clear hr hb;go_enter Try.func37,Try.ntmps37
  have HW:Aside0 (Below w.heap.size w (w.alloc (.cells #[] 43))):=⟨aN (Below.refl _ w) _⟩
  go_wp2_with (first|((with_reducible refine gate_builtin (b:= .append) (xs:=#[.tmp 5,.tmp 6]) rfl ?_);at_builtin;refine Kd.R_append_rows k43 (w0:=w) w.heap.size rfl (.tmp 5) (.tmp 6) 29 43 (.agg #[(.bool false),(.int .i64 0)]) 16 rfl Try.underlying29 info43 rfl (by decide) (by omega) _ ([]:List S43) l (some ad) l.length c (fun _=>True) (fun _=>False) rfl rfl (R_lit0 _ _ w _ trivial) (bD HR.out HW.out) (fun _ _ h=>h) (fun _ h=>h.elim) (fun _ _=>trivial) HW.out HW.out.size (by have:=HB.out;simp only [List.length_nil];omega) ?_;intro v9 w9 ho hb hg hat;have Ro:=aM ho;have HB9:=aM hb;clear ho hb hg hat))
  go_ret
  exact⟨_,rfl,Ro.out,HB9.out⟩
theorem miInt:(Try.prog.info? 3).map (fun i=>(i.zero,i.size,i.bytes))=some (some (.int .i64 0),1,8):=by kernel_rfl
set_option maxRecDepth 100000 in
theorem cloneInt_any (A:Option Addr) (c:Nat) (l:List (Int)) (w:World) (hr:Kd.C (Kd.int .i64) w A l.length l) (hb:l.length≤1000000000):
 Calls Try.prog 34 #[.slice A l.length c] w fun e w'=>∃v,e= .returned v∧Kd.R (Kd.int .i64) 3 w' w.heap.size (fun _=>True) v l∧Below w.heap.size w w':=by
 cases A with
 |none=>
  obtain rfl:l= []:=by
   cases l with
   |nil=>rfl
   |cons x l=>obtain⟨ad,c,e,_⟩:=Kd.C_get hr x 0 (by omega) (by simp);cases e
  have heq:=Lib.run_eql_slice_nil (P:=Try.prog) w 32 3 none 0 c 0 0 Try.underlying32;go_enter Try.func34,Try.ntmps34
  go_wp2
  go_ret
  exact⟨_,rfl,Kd.R_nil _ _ _ _ _,Below.refl _ _⟩
 |some ad=>
  have heq:=Lib.run_eql_slice_nil (P:=Try.prog) w 32 3 (some ad) l.length c 0 0 Try.underlying32;have HR:=aM hr;have HB:=aM hb;clear hr hb;go_enter Try.func34,Try.ntmps34
  have HW:Aside0 (Below w.heap.size w (w.alloc (.cells #[] 3))):=⟨aN (Below.refl _ w) _⟩
  go_wp2_with (first|((with_reducible refine gate_builtin (b:= .append) (xs:=#[.tmp 5,.tmp 6]) rfl ?_);at_builtin;refine Kd.R_append_rows (Kd.int .i64) (w0:=w) w.heap.size rfl (.tmp 5) (.tmp 6) 32 3 (.int .i64 0) 8 rfl Try.underlying32 miInt rfl (by decide) (by omega) _ ([]:List Int) l (some ad) l.length c (fun _=>True) (fun _=>False) rfl rfl (R_lit0 _ _ w _ trivial) (bD HR.out HW.out) (fun _ _ h=>h) (fun _ h=>h.elim) (fun _ _=>trivial) HW.out HW.out.size (by have:=HB.out;simp only [List.length_nil];omega) ?_;intro v9 w9 ho hb hg hat;have Ro:=aM ho;have HB9:=aM hb;clear ho hb hg hat))
  go_ret
  exact⟨_,rfl,Ro.out,HB9.out⟩
def slices_Clone_int_int.f (l0:List Int):Option (List Int):=if l0.length≤1000000000 then some l0 else none
theorem slices_Clone_int_int.calls (A0:Option Addr) (c0:Nat) (l0:List Int) (r:List Int) (w:World) (hr0:Kd.C (Kd.int .i64) w A0 l0.length l0) (hc0:l0.length≤c0) (h:slices_Clone_int_int.f l0=some r):
 Calls Try.prog 34 #[.slice A0 l0.length c0] w fun e w'=>∃v0_:Value,e= .returned (v0_)∧Kd.R (Kd.int .i64) 3 w' w.heap.size (fun _=>True) v0_ r∧Below w.heap.size w w':=by
 unfold slices_Clone_int_int.f at h
 split at h
 case isFalse=>simp at h
 obtain rfl:=Option.some.inj h
 rename_i hl
 exact cloneInt_any A0 c0 l0 w hr0 hl
theorem prod_one (W:World) (g:Nat) (A:Option Addr) (c:Nat) (l:List S43) (hb:W.heap[g]?=some (.cells #[.int .i64 0,.slice A l.length c] 35 (0,0))) (hl:l.length≤c) (hC:Kd.C k43 W A l.length l):
 Kd.C k35 W (some ⟨g,0,none⟩) [(⟨0,l⟩:S35)].length [(⟨0,l⟩:S35)]:=by
 refine⟨rfl,by show 1≤9223372036854775807;decide,fun _=>⟨_,rfl,fun j p hj=>?_⟩⟩
 have hj0:j=0:=by
  have:=(List.getElem?_eq_some_iff.1 hj).1;simp at this
  exact this
 subst hj0;obtain rfl:(⟨0,l⟩:S35)=p:=by simpa using hj
 refine⟨[.int .i64 0,.slice A l.length c],rfl,k35_mk W (⟨0,l⟩:S35) hl hC,fun i u hi=>?_⟩
 have hi2:i<2:=(List.getElem?_eq_some_iff.1 hi).1
 have e:(⟨g,0,none⟩:Addr).add (0 * k35.sz+i)=⟨g,i,none⟩:=by
  rw [Nat.zero_mul,Nat.zero_add,add_plain]
 rw [e,aG hb i]
 match i,hi2 with
 |0,_=>exact hi
 |1,_=>exact hi
def regletref16_stack.f (k:Nat) (aW:List ByteArray) (aX:List (S72)) (bM:Int) (bO:Int) (aV:List (S35)) (l1:List (S43)):Option Bool:=(regletref13_Right.f k aW aX bM bO [⟨0,l1⟩]).bind fun b=>some (b && decide (l1.length≤10000))
set_option maxHeartbeats 4000000 in
set_option maxRecDepth 100000 in
theorem regletref16_stack.calls (k:Nat) (cA:Option Addr) (cB:Nat) (aW:List ByteArray) (cE:Option Addr) (cF:Nat) (aX:List (S72)) (bM:Int) (bO:Int) (cK:Option Addr) (cG:Nat) (aV:List (S35)) (A1:Option Addr) (c1:Nat) (l1:List (S43)) (r:Bool) (w:World)
 (fU:Kd.C Kd.string w cA aW.length aW) (gG:aW.length≤cB) (gH:Kd.C k72 w cE aX.length aX) (hU:aX.length≤cF) (gA:Kd.C k35 w cK aV.length aV) (iB:aV.length≤cG) (hr1:Kd.C k43 w A1 l1.length l1) (hc1:l1.length≤c1)
 (h:regletref16_stack.f k aW aX bM bO aV l1=some r):
 Calls Try.prog 42 #[.agg #[.slice cA aW.length cB,.slice cE aX.length cF,.int .i64 bM,.int .i64 bO,.slice cK aV.length cG],.slice A1 l1.length c1] w fun e w'=>e= .returned (.bool r)∧Below w.heap.size w w':=by
 obtain⟨b,hb,hr⟩:=Option.bind_eq_some_iff.1 h;have HRR:=aM (Option.some.inj hr);have HB:=aM hb;have H00:=aM (And.intro fU gG);have H01:=aM (And.intro gH hU);have H1:=aM (And.intro hr1 hc1);clear h hb hr fU gG gH hU gA iB hr1 hc1;go_enter Try.func42,Try.ntmps42
 go_upto_region 3 with fail
 have HW:Aside0 (Below w.heap.size w (((w.alloc (.cells #[.slice cA aW.length cB,.slice cE aX.length cF,.int .i64 bM,.int .i64 bO,.slice cK aV.length cG] 26)).alloc (.cells #[.slice cA aW.length cB,.slice cE aX.length cF,.int .i64 bM,.int .i64 bO,.slice (some ⟨w.heap.size+1+1,0,none⟩) 1 1] 26)).alloc (.cells #[.int .i64 0,.slice A1 l1.length c1] 35))):=⟨(((Below.refl _ w).alloc (Nat.le_refl _) _).alloc (by simp) _).alloc (by simp;omega) _⟩;have hT:(((w.alloc (.cells #[.slice cA aW.length cB,.slice cE aX.length cF,.int .i64 bM,.int .i64 bO,.slice cK aV.length cG] 26)).alloc (.cells #[.slice cA aW.length cB,.slice cE aX.length cF,.int .i64 bM,.int .i64 bO,.slice (some ⟨w.heap.size+1+1,0,none⟩) 1 1] 26)).alloc (.cells #[.int .i64 0,.slice A1 l1.length c1] 35)).heap[w.heap.size+1]?=some (.cells #[.slice cA aW.length cB,.slice cE aX.length cF,.int .i64 bM,.int .i64 bO,.slice (some ⟨w.heap.size+1+1,0,none⟩) 1 1] 26 (0,0)):=by have h:=aI (blk_new (w.alloc (.cells #[.slice cA aW.length cB,.slice cE aX.length cF,.int .i64 bM,.int .i64 bO,.slice cK aV.length cG] 26)) (.cells #[.slice cA aW.length cB,.slice cE aX.length cF,.int .i64 bM,.int .i64 bO,.slice (some ⟨w.heap.size+1+1,0,none⟩) 1 1] 26)) (.cells #[.int .i64 0,.slice A1 l1.length c1] 35);rw [World.size_alloc] at h;exact h
 have hP:(((w.alloc (.cells #[.slice cA aW.length cB,.slice cE aX.length cF,.int .i64 bM,.int .i64 bO,.slice cK aV.length cG] 26)).alloc (.cells #[.slice cA aW.length cB,.slice cE aX.length cF,.int .i64 bM,.int .i64 bO,.slice (some ⟨w.heap.size+1+1,0,none⟩) 1 1] 26)).alloc (.cells #[.int .i64 0,.slice A1 l1.length c1] 35)).heap[w.heap.size+1+1]?=some (.cells #[.int .i64 0,.slice A1 l1.length c1] 35 (0,0)):=by have h:=blk_new ((w.alloc (.cells #[.slice cA aW.length cB,.slice cE aX.length cF,.int .i64 bM,.int .i64 bO,.slice cK aV.length cG] 26)).alloc (.cells #[.slice cA aW.length cB,.slice cE aX.length cF,.int .i64 bM,.int .i64 bO,.slice (some ⟨w.heap.size+1+1,0,none⟩) 1 1] 26)) (.cells #[.int .i64 0,.slice A1 l1.length c1] 35);rw [World.size_alloc,World.size_alloc] at h;exact h
 generalize (((w.alloc (.cells #[.slice cA aW.length cB,.slice cE aX.length cF,.int .i64 bM,.int .i64 bO,.slice cK aV.length cG] 26)).alloc (.cells #[.slice cA aW.length cB,.slice cE aX.length cF,.int .i64 bM,.int .i64 bO,.slice (some ⟨w.heap.size+1+1,0,none⟩) 1 1] 26)).alloc (.cells #[.int .i64 0,.slice A1 l1.length c1] 35))=w1 at HW hT hP ⊢;generalize w.heap.size+1+1=PB at hT hP ⊢;generalize w.heap.size+1=TB at hT ⊢;have PR:Aside0 (Calls Try.prog 30 #[.agg #[.slice cA aW.length cB,.slice cE aX.length cF,.int .i64 bM,.int .i64 bO,.slice (some ⟨PB,0,none⟩) 1 1]] w1 fun e w'=>e= .returned (.bool b)∧Below w1.heap.size w1 w'):=⟨regletref13_Right.calls k cA cB aW cE cF aX bM bO (some ⟨PB,0,none⟩) 1 [(⟨0,l1⟩:S35)] b w1 (bD H00.out.1 HW.out) H00.out.2 (bD H01.out.1 HW.out) H01.out.2 (prod_one w1 PB A1 c1 l1 hP H1.out.2 (bD H1.out.1 HW.out)) (Nat.le_refl _) HB.out⟩;have q0:=(aG hT 0);have q1:=(aG hT 1);have q2:=(aG hT 2);have q3:=(aG hT 3);have q4:=(aG hT 4);clear hT hP
 cases b with
 |false=>
  have hr0:r=false:=by rw [←HRR.out];rfl
  subst hr0
  go_wp2_with (first|(go_at_call 30;(with_reducible refine PR.out.mono ?_);rintro e w2 ⟨rfl,hb2⟩;have HB2:Aside0 (Below w.heap.size w w2):=⟨HW.out.trans (hb2.mono HW.out.size)⟩;clear hb2 PR q0 q1 q2 q3 q4))
  go_ret
  exact⟨rfl,HB2.out⟩
 |true=>
  have hr0:r=decide (l1.length≤10000):=by rw [←HRR.out];rfl
  have HR0:=aM hr0;clear hr0
  go_wp2_with (first|(go_at_call 30;(with_reducible refine PR.out.mono ?_);rintro e w2 ⟨rfl,hb2⟩;have HB2:Aside0 (Below w.heap.size w w2):=⟨HW.out.trans (hb2.mono HW.out.size)⟩;clear hb2 PR q0 q1 q2 q3 q4))
  go_ret
  exact⟨by rw [HR0.out];simp;omega,HB2.out⟩
end Go.Proofs.Ytapjfnfengefpaa.P
end
