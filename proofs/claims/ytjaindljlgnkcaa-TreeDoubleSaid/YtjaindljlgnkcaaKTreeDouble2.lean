/- Packed texts of this claim: the walks of the functions, and their plain laws; see the claim's last text. -/
import Derived.Test.YtjaindljlgnkcaaProg
import Derived.Below
import Derived.Deep.Draws
import Derived.Deep.AppendLies
import Derived.Maps.AppendAt
import Derived.OwnWalk
import Derived.Laws.BytesArg
import Derived.Laws.MakeOwn
import Derived.Laws.OwnMore
import Derived.Deep.OwnRows
import Derived.Tactics
import Derived.Lib.ConvBytes
import Derived.Laws.Slices
import Derived.WalkKit
import Derived.KernelRfl
import Derived.RowKit3
import Derived.Deep.LoopGhost
import Derived.Deep.QuietTactic
import Derived.BigQuiet
import Derived.WideLaws
import Derived.Deep.DeepCutAuto
import Derived.Deep.CutBlock
import Derived.Deep.RegionHeld3
import Derived.Laws.Rows
import Derived.Lib.AppendStr
import Derived.ArgAppend
import Derived.Laws.IdiomCopy
import Derived.OrdersHeld
import Derived.Laws.BitsLemmas
import Derived.RowKit
import Derived.Laws.Runes
import Derived.Shelf.Abstract
import Derived.Deep.Cut
import Derived.Outline
import Derived.Lib.Strings
import Derived.Lib.Slices
import Derived.Lib.Walk
import Derived.Lib.Bytealg
import Derived.Test.YtjaindljlgnkcaaKTreeDouble1
section
namespace Go.Proofs.Ytjaindljlgnkcaa.P
open Go.RowKit Go.Proofs.YtjaindljlgnkcaaW.PrintWords Go.Proofs.YtjaindljlgnkcaaW.PrintLast Go.Proofs.YtjaindljlgnkcaaW.PrintMore
attribute [local go_sem] max2_int min2_int max_two min_two max_three min_three max_four min_four   -- for this text's walks alone
set_option linter.unusedVariables false
set_option linter.unusedSimpArgs false
def errW:Option Int→Value
 |none=> .nilIface
 |some c=> .iface 0 (.int .i64 c)
theorem errW_none:errW none= .nilIface:=rfl
theorem errW_some (c:Int):errW (some c)= .iface 0 (.int .i64 c):=rfl
theorem info34:(Try.prog.info? 34).map (fun i=>(i.zero,i.size,i.bytes))=some (some (.agg #[(.int .i64 0),(.slice none 0 0)]),2,32):=by kernel_rfl
theorem info57:(Try.prog.info? 57).map (fun i=>(i.zero,i.size,i.bytes))=some (some (.agg #[(.bool false),(.int .i64 0)]),2,16):=by kernel_rfl
theorem info59:(Try.prog.info? 59).map (fun i=>(i.zero,i.size,i.bytes))=some (some (.agg #[(.int .i64 0),(.int .i64 0),(.int .i64 0)]),3,24):=by kernel_rfl
theorem info97:(Try.prog.info? 97).map (fun i=>(i.zero,i.size,i.bytes))=some (some (.agg #[(.string ⟨#[]⟩),(.int .i64 0),(.string ⟨#[]⟩),(.slice none 0 0),(.int .i64 0),(.int .i64 0),(.slice none 0 0)]),7,104):=by kernel_rfl
structure S95 where
 f0:Int
 f1:ByteArray
 f2:(List Int)
 f3:Int
 f4:Int
 f5:(List S95)
def z95:S95:=⟨(0:Int),(⟨#[]⟩:ByteArray),([]:List Int),(0:Int),(0:Int),([]:List S95)⟩
def F95 (d:Kd S95):Kd S95:=Kd.iso (Kd.pair (Kd.int .i64) (Kd.pair Kd.string (Kd.pair (Kd.slice 3 (Kd.int .i64)) (Kd.pair (Kd.int .i64) (Kd.pair (Kd.int .i64) (Kd.slice 95 d)))))) (fun x:S95=>(x.f0,x.f1,x.f2,x.f3,x.f4,x.f5))
theorem mono95:Kd.Mono F95:=Kd.mono_iso _ (Kd.mono_pair (Kd.mono_const _) (Kd.mono_pair (Kd.mono_const _) (Kd.mono_pair (Kd.mono_const _) (Kd.mono_pair (Kd.mono_const _) (Kd.mono_pair (Kd.mono_const _) (Kd.mono_slice 95 Kd.mono_id))))))
theorem sub95:Kd.Sub F95 [3,95]:=Kd.sub_iso _ (Kd.sub_pair (Kd.sub_const _ (by decide)) (Kd.sub_pair (Kd.sub_const _ (by decide)) (Kd.sub_pair (Kd.sub_const _ (by decide)) (Kd.sub_pair (Kd.sub_const _ (by decide)) (Kd.sub_pair (Kd.sub_const _ (by decide)) (Kd.sub_slice 95 (by decide) Kd.sub_id))))))
theorem sz95:∀n,(Kd.upto F95 6 [3,95] n).sz=6:=Kd.upto_sz (fun _=>rfl)
def k95:Kd S95:=Kd.fix F95 6 [3,95] sz95 (Kd.upto_E sub95)
theorem k95_mk (w:World) (x:S95) {A2:Option Addr}{c2:Nat}(l2:x.f2.length≤c2) (g2:(Kd.int .i64).C w A2 x.f2.length x.f2) {A5:Option Addr}{c5:Nat}(l5:x.f5.length≤c5) (g5:k95.C w A5 x.f5.length x.f5):k95.K w x [.int .i64 x.f0,.string x.f1,.slice A2 x.f2.length c2,.int .i64 x.f3,.int .i64 x.f4,.slice A5 x.f5.length c5]:=by
 obtain⟨n5,q5⟩:=Kd.fix_C_back mono95 g5;have r5:=Kd.upto_C_le mono95 sz95 (show n5≤n5 by omega) q5;exact⟨n5+1,⟨[.int .i64 x.f0],[.string x.f1,.slice A2 x.f2.length c2,.int .i64 x.f3,.int .i64 x.f4,.slice A5 x.f5.length c5],rfl,rfl,⟨[.string x.f1],[.slice A2 x.f2.length c2,.int .i64 x.f3,.int .i64 x.f4,.slice A5 x.f5.length c5],rfl,rfl,⟨[.slice A2 x.f2.length c2],[.int .i64 x.f3,.int .i64 x.f4,.slice A5 x.f5.length c5],rfl,⟨A2,c2,rfl,l2,g2⟩,⟨[.int .i64 x.f3],[.int .i64 x.f4,.slice A5 x.f5.length c5],rfl,rfl,⟨[.int .i64 x.f4],[.slice A5 x.f5.length c5],rfl,rfl,⟨A5,c5,rfl,l5,r5⟩⟩⟩⟩⟩⟩⟩
structure S97 where
 f0:ByteArray
 f1:S95
def z97:S97:=⟨(⟨#[]⟩:ByteArray),z95⟩
def k97:Kd S97:=Kd.iso (Kd.pair Kd.string k95) (fun x:S97=>(x.f0,x.f1))
theorem k97_mk (w:World) (x:S97) {A3:Option Addr}{c3:Nat}(l3:x.f1.f2.length≤c3) (g3:(Kd.int .i64).C w A3 x.f1.f2.length x.f1.f2) {A6:Option Addr}{c6:Nat}(l6:x.f1.f5.length≤c6) (g6:k95.C w A6 x.f1.f5.length x.f1.f5):k97.K w x [.string x.f0,.int .i64 x.f1.f0,.string x.f1.f1,.slice A3 x.f1.f2.length c3,.int .i64 x.f1.f3,.int .i64 x.f1.f4,.slice A6 x.f1.f5.length c6]:=⟨[.string x.f0],[.int .i64 x.f1.f0,.string x.f1.f1,.slice A3 x.f1.f2.length c3,.int .i64 x.f1.f3,.int .i64 x.f1.f4,.slice A6 x.f1.f5.length c6],rfl,rfl,(k95_mk w x.f1 l3 g3 l6 g6)⟩
theorem k97_mkF (W:World) (ok:Nat→Prop) (x:S97) {A3:Option Addr}{c3:Nat}(l3:x.f1.f2.length≤c3) (g3:Kd.F (Kd.int .i64) W ok A3 x.f1.f2.length x.f1.f2) {A6:Option Addr}{c6:Nat}(l6:x.f1.f5.length≤c6) (g6:Kd.F k95 W ok A6 x.f1.f5.length x.f1.f5):Kd.FK k97 W ok x [.string x.f0,.int .i64 x.f1.f0,.string x.f1.f1,.slice A3 x.f1.f2.length c3,.int .i64 x.f1.f3,.int .i64 x.f1.f4,.slice A6 x.f1.f5.length c6]:=fun W2 hW=>k97_mk W2 x l3 (g3 W2 hW) l6 (g6 W2 hW)
structure S57 where
 f0:Bool
 f1:Int
def z57:S57:=⟨false,(0:Int)⟩
def k57:Kd S57:=Kd.iso (Kd.pair Kd.bool (Kd.int .i64)) (fun x:S57=>(x.f0,x.f1))
theorem k57_open {w:World}{x:S57}{cs:List Value}(h:k57.K w x cs):cs= [.bool x.f0,.int .i64 x.f1]:=by
 obtain⟨_,_,rfl,rfl,rfl⟩:=h;exact rfl
theorem k57_mkM (w:World) (base:Nat) (ok:Nat→Prop) (x:S57)  :k57.M w base ok x [.bool x.f0,.int .i64 x.f1]:=⟨[.bool x.f0],[.int .i64 x.f1],rfl,rfl,rfl⟩
def rd_T57 (xs:List S57) (i:Int):S57:=xs.getD i.toNat z57
theorem at_T57 {w:World}{A:Option Addr}{n:Nat}{xs:List S57}(h:Kd.C k57 w A n xs) (i:Int) (h0:0≤i) (h1:i<n):∃ad,A=some ad∧w.cell? (ad.add (i.toNat * 2))=some (.bool (rd_T57 xs i).f0)∧w.cell? ⟨(ad.add (i.toNat * 2)).block,(ad.add (i.toNat * 2)).off+1,none⟩=some (.int .i64 (rd_T57 xs i).f1):=by
 obtain⟨ad,c,e,_,hK,hc0⟩:=Kd.C_get h z57 i h0 h1;have hc:∀j u,c[j]?=some u→w.cell? (ad.add (i.toNat * 2+j))=some u:=hc0;obtain rfl:=k57_open hK;exact⟨ad,e,hc 0 _ rfl,by rw [←add_field _ _ 1 (by omega)];exact hc 1 _ rfl⟩
structure S55 where
 f0:Int
 f1:(List S57)
def z55:S55:=⟨(0:Int),([]:List S57)⟩
def k55:Kd S55:=Kd.iso (Kd.pair (Kd.int .i64) (Kd.slice 57 k57)) (fun x:S55=>(x.f0,x.f1))
theorem k55_open {w:World}{x:S55}{cs:List Value}(h:k55.K w x cs):∃A1 c1,cs= [.int .i64 x.f0,.slice A1 x.f1.length c1]∧x.f1.length≤c1∧k57.C w A1 x.f1.length x.f1:=by
 obtain⟨_,_,rfl,rfl,⟨A1,c1,rfl,l1,g1⟩⟩:=h;exact⟨A1,c1,rfl,l1,g1⟩
theorem k55_mk (w:World) (x:S55) {A1:Option Addr}{c1:Nat}(l1:x.f1.length≤c1) (g1:k57.C w A1 x.f1.length x.f1):k55.K w x [.int .i64 x.f0,.slice A1 x.f1.length c1]:=⟨[.int .i64 x.f0],[.slice A1 x.f1.length c1],rfl,rfl,⟨A1,c1,rfl,l1,g1⟩⟩
theorem k55_mkF (W:World) (ok:Nat→Prop) (x:S55) {A1:Option Addr}{c1:Nat}(l1:x.f1.length≤c1) (g1:Kd.F k57 W ok A1 x.f1.length x.f1):Kd.FK k55 W ok x [.int .i64 x.f0,.slice A1 x.f1.length c1]:=fun W2 hW=>k55_mk W2 x l1 (g1 W2 hW)
def rd_T55 (xs:List S55) (i:Int):S55:=xs.getD i.toNat z55
theorem at_T55 {w:World}{A:Option Addr}{n:Nat}{xs:List S55}(h:Kd.C k55 w A n xs) (i:Int) (h0:0≤i) (h1:i<n):∃ad A1 c1,A=some ad∧w.cell? (ad.add (i.toNat * 2))=some (.int .i64 (rd_T55 xs i).f0)∧w.cell? ⟨(ad.add (i.toNat * 2)).block,(ad.add (i.toNat * 2)).off+1,none⟩=some (.slice A1 (rd_T55 xs i).f1.length c1)∧(rd_T55 xs i).f1.length≤c1∧k57.C w A1 (rd_T55 xs i).f1.length (rd_T55 xs i).f1:=by
 obtain⟨ad,c,e,_,hK,hc0⟩:=Kd.C_get h z55 i h0 h1;have hc:∀j u,c[j]?=some u→w.cell? (ad.add (i.toNat * 2+j))=some u:=hc0;obtain⟨A1,c1,rfl,l1,g1⟩:=k55_open hK;exact⟨ad,A1,c1,e,hc 0 _ rfl,by rw [←add_field _ _ 1 (by omega)];exact hc 1 _ rfl,l1,g1⟩
structure S59 where
 f0:Int
 f1:Int
 f2:Int
def z59:S59:=⟨(0:Int),(0:Int),(0:Int)⟩
def k59:Kd S59:=Kd.iso (Kd.pair (Kd.int .i64) (Kd.pair (Kd.int .i64) (Kd.int .i64))) (fun x:S59=>(x.f0,x.f1,x.f2))
theorem k59_open {w:World}{x:S59}{cs:List Value}(h:k59.K w x cs):cs= [.int .i64 x.f0,.int .i64 x.f1,.int .i64 x.f2]:=by
 obtain⟨_,_,rfl,rfl,⟨_,_,rfl,rfl,rfl⟩⟩:=h;exact rfl
theorem k59_mkM (w:World) (base:Nat) (ok:Nat→Prop) (x:S59)  :k59.M w base ok x [.int .i64 x.f0,.int .i64 x.f1,.int .i64 x.f2]:=⟨[.int .i64 x.f0],[.int .i64 x.f1,.int .i64 x.f2],rfl,rfl,⟨[.int .i64 x.f1],[.int .i64 x.f2],rfl,rfl,rfl⟩⟩
def rd_T59 (xs:List S59) (i:Int):S59:=xs.getD i.toNat z59
theorem at_T59 {w:World}{A:Option Addr}{n:Nat}{xs:List S59}(h:Kd.C k59 w A n xs) (i:Int) (h0:0≤i) (h1:i<n):∃ad,A=some ad∧w.cell? (ad.add (i.toNat * 3))=some (.int .i64 (rd_T59 xs i).f0)∧w.cell? ⟨(ad.add (i.toNat * 3)).block,(ad.add (i.toNat * 3)).off+1,none⟩=some (.int .i64 (rd_T59 xs i).f1)∧w.cell? ⟨(ad.add (i.toNat * 3)).block,(ad.add (i.toNat * 3)).off+2,none⟩=some (.int .i64 (rd_T59 xs i).f2):=by
 obtain⟨ad,c,e,_,hK,hc0⟩:=Kd.C_get h z59 i h0 h1;have hc:∀j u,c[j]?=some u→w.cell? (ad.add (i.toNat * 3+j))=some u:=hc0;obtain rfl:=k59_open hK;exact⟨ad,e,hc 0 _ rfl,by rw [←add_field _ _ 1 (by omega)];exact hc 1 _ rfl,by rw [←add_field _ _ 2 (by omega)];exact hc 2 _ rfl⟩
structure S34 where
 f0:Int
 f1:(List Int)
def z34:S34:=⟨(0:Int),([]:List Int)⟩
def k34:Kd S34:=Kd.iso (Kd.pair (Kd.int .i64) (Kd.slice 3 (Kd.int .i64))) (fun x:S34=>(x.f0,x.f1))
theorem k34_open {w:World}{x:S34}{cs:List Value}(h:k34.K w x cs):∃A1 c1,cs= [.int .i64 x.f0,.slice A1 x.f1.length c1]∧x.f1.length≤c1∧(Kd.int .i64).C w A1 x.f1.length x.f1:=by
 obtain⟨_,_,rfl,rfl,⟨A1,c1,rfl,l1,g1⟩⟩:=h;exact⟨A1,c1,rfl,l1,g1⟩
theorem k34_mk (w:World) (x:S34) {A1:Option Addr}{c1:Nat}(l1:x.f1.length≤c1) (g1:(Kd.int .i64).C w A1 x.f1.length x.f1):k34.K w x [.int .i64 x.f0,.slice A1 x.f1.length c1]:=⟨[.int .i64 x.f0],[.slice A1 x.f1.length c1],rfl,rfl,⟨A1,c1,rfl,l1,g1⟩⟩
theorem k34_mkM (w:World) (base:Nat) (ok:Nat→Prop) (x:S34) {v1:Value}(g1:(Kd.int .i64).R 3 w base ok v1 x.f1):k34.M w base ok x [.int .i64 x.f0,v1]:=⟨[.int .i64 x.f0],[v1],rfl,rfl,⟨v1,rfl,g1⟩⟩
theorem k34_mkF (W:World) (ok:Nat→Prop) (x:S34) {A1:Option Addr}{c1:Nat}(l1:x.f1.length≤c1) (g1:Kd.F (Kd.int .i64) W ok A1 x.f1.length x.f1):Kd.FK k34 W ok x [.int .i64 x.f0,.slice A1 x.f1.length c1]:=fun W2 hW=>k34_mk W2 x l1 (g1 W2 hW)
def rd_T34 (xs:List S34) (i:Int):S34:=xs.getD i.toNat z34
theorem at_T34 {w:World}{A:Option Addr}{n:Nat}{xs:List S34}(h:Kd.C k34 w A n xs) (i:Int) (h0:0≤i) (h1:i<n):∃ad A1 c1,A=some ad∧w.cell? (ad.add (i.toNat * 2))=some (.int .i64 (rd_T34 xs i).f0)∧w.cell? ⟨(ad.add (i.toNat * 2)).block,(ad.add (i.toNat * 2)).off+1,none⟩=some (.slice A1 (rd_T34 xs i).f1.length c1)∧(rd_T34 xs i).f1.length≤c1∧(Kd.int .i64).C w A1 (rd_T34 xs i).f1.length (rd_T34 xs i).f1:=by
 obtain⟨ad,c,e,_,hK,hc0⟩:=Kd.C_get h z34 i h0 h1;have hc:∀j u,c[j]?=some u→w.cell? (ad.add (i.toNat * 2+j))=some u:=hc0;obtain⟨A1,c1,rfl,l1,g1⟩:=k34_open hK;exact⟨ad,A1,c1,e,hc 0 _ rfl,by rw [←add_field _ _ 1 (by omega)];exact hc 1 _ rfl,l1,g1⟩
attribute [local go_sem] max2_int min2_int max_two min_two max_three min_three max_four min_four   -- for this text's walks alone
set_option linter.unusedVariables false
set_option linter.unusedSimpArgs false
theorem eqA59 (d:Nat) (w:World) (x0 y0:Int) (x1 y1:Int) (x2 y2:Int):
 (Op.equalIn (d+2) 59 (.agg #[.int .i64 x0,.int .i64 x1,.int .i64 x2]) (.agg #[.int .i64 y0,.int .i64 y1,.int .i64 y2])).run Try.prog w= .ok (x0==y0 && (x1==y1 && (x2==y2))) w:=by
 refine eqA_of Try.underlying59 (by kernel_rfl) ?_
 refine eqf_cons (by rfl) (by go_simp;rfl) (by go_simp;rfl) (by go_simp) ?_
 refine eqf_cons (by rfl) (by go_simp;rfl) (by go_simp;rfl) (by go_simp) ?_
 exact eqf_last (by rfl) (by go_simp;rfl) (by go_simp;rfl) (by go_simp)
attribute [local go_sem] max2_int min2_int max_two min_two max_three min_three max_four min_four   -- for this text's walks alone
set_option linter.unusedVariables false
set_option linter.unusedSimpArgs false
attribute [local go_sem high] eqA59
def regletref13_SameInts.l0:Nat→List Int→List Int→Int→Option (Bool)
 |0,_,_,_=>none
 |k+1,x0,x1,x5=>if x5<(x0.length:Int) then(if 0≤x5 then(if x5<(x1.length:Int) then(if(rd x0 x5)=(rd x1 x5) then(regletref13_SameInts.l0 k x0 x1 (wrap64 (x5+1))) else(some false)) else(none)) else(none)) else(some true)
def regletref13_SameInts.f (k:Nat) (l0:List Int) (l1:List Int):Option (Bool):=if(l0.length:Int)=(l1.length:Int) then(regletref13_SameInts.l0 k l0 l1 0) else(some false)
theorem regletref13_SameInts.mono_l:∀k,(∀y0 y1 y2,LeO (regletref13_SameInts.l0 k y0 y1 y2) (regletref13_SameInts.l0 (k+1) y0 y1 y2))
 |0=>fun _ _ _ r h=>by simp [regletref13_SameInts.l0] at h
 |k+1=>by
  have ih0:=regletref13_SameInts.mono_l k
  ·intro y0 y1 y2
   unfold regletref13_SameInts.l0
   repeat' first
   |(with_reducible exact ih0 _ _ _)
   |(with_reducible exact LeO.refl _)
   |(with_reducible exact LeO.none _)
   |(with_reducible refine LeO.ite ?_ ?_)
   |(with_reducible refine LeO.bind ?_ (fun _=>?_))
   |exact ih0 _ _ _
   |exact LeO.none _
   |refine LeO.ite ?_ ?_
   |refine LeO.bind ?_ (fun _=>?_)
theorem regletref13_SameInts.mono:∀a0 a1 k,LeO (regletref13_SameInts.f k a0 a1) (regletref13_SameInts.f (k+1) a0 a1):=by
 intro a0 a1 k;have ih0:=regletref13_SameInts.mono_l k
 unfold regletref13_SameInts.f
 repeat' first
  |(with_reducible exact ih0 _ _ _)
  |(with_reducible exact LeO.refl _)
  |(with_reducible exact LeO.none _)
  |(with_reducible refine LeO.ite ?_ ?_)
  |(with_reducible refine LeO.bind ?_ (fun _=>?_))
  |exact ih0 _ _ _
  |exact LeO.none _
  |refine LeO.ite ?_ ?_
  |refine LeO.bind ?_ (fun _=>?_)
set_option maxHeartbeats 8000000 in
set_option maxRecDepth 100000 in
theorem regletref13_SameInts.calls (k:Nat) (A0:Option Addr) (c0:Nat) (l0:List Int) (A1:Option Addr) (c1:Nat) (l1:List Int) (r:Bool) (w:World) (hr0:Kd.C (Kd.int .i64) w A0 l0.length l0) (hc0:l0.length≤c0) (hr1:Kd.C (Kd.int .i64) w A1 l1.length l1) (hc1:l1.length≤c1) (h:regletref13_SameInts.f k l0 l1=some r):
 Calls Try.prog 19 #[.slice A0 l0.length c0,.slice A1 l1.length c1] w fun e w'=>e= .returned (.bool r)∧Drawn0 w w':=by
 have HR0:=Aside0.mk hr0;have HC0:=Aside0.mk hc0;clear hr0 hc0;have HR1:=Aside0.mk hr1;have HC1:=Aside0.mk hc1;clear hr1 hc1;have H:(if(l0.length:Int)=(l1.length:Int) then(regletref13_SameInts.l0 k l0 l1 0) else(some false))=some r:=h;clear h
 by_cases c3:(l0.length:Int)=(l1.length:Int)
 ·rw [if_pos c3] at H
  have iY:((l0.length:Int)==(l1.length:Int))=true:=beq_iff_eq.mpr c3;have iZ:((l0.length:Int) !=(l1.length:Int))=false:=bne_eq_false_iff_eq.mpr c3;have jA:(l0.length==l1.length)=true:=by first|simpa using c3|(simp at c3 ⊢;omega)
  clear c3;have H':=Aside0.mk H;clear H;go_enter Try.func19,Try.ntmps19
  go_wp2
  repeat(go_quiet (fail);try go_wp2)
  go_loopg [5] k (fun kq v5 w'=>∃(bT:Int),v5= .int .i64 bT∧Aside0 (regletref13_SameInts.l0 kq l0 l1 bT=some r)∧Aside0 (kq≤k)∧Drawn0 w w')
  case atStart=>exact⟨(0),(by first|rfl|(simp;done)|(simp [*];done)),H',⟨Nat.le_refl _⟩,by repeat(first|exact Drawn0.refl _|apply Drawn0.step)⟩
  case round=>
   clear H'
   (try clear c1);(try clear p2);(try clear c3);(try clear iY);(try clear iZ);(try clear jA)
   obtain⟨bT,rfl,HA,HK1,⟨m1,rfl⟩⟩:=hrel
   cases gk with
   |zero=>exact absurd HA.out (by simp [regletref13_SameInts.l0])
   |succ k1=>
    have H:=HA.out;clear HA;simp only [regletref13_SameInts.l0] at H
    by_cases c4:bT<(l0.length:Int)
    ·rw [if_pos c4] at H
     have lB:decide (bT<(l0.length:Int))=true:=decide_eq_true c4;clear c4
     by_cases c5:0≤bT
     rotate_left
     ·rw [if_neg c5] at H
      exact absurd H (by simp)
     rw [if_pos c5] at H;have lO:decide (0≤bT)=true:=decide_eq_true c5;clear c5
     by_cases c6:bT<(l1.length:Int)
     rotate_left
     ·rw [if_neg c6] at H
      exact absurd H (by simp)
     rw [if_pos c6] at H;have gL:decide (bT<(l1.length:Int))=true:=decide_eq_true c6;clear c6
     by_cases c7:(rd l0 bT)=(rd l1 bT)
     ·rw [if_pos c7] at H
      have jL:((rd l0 bT)==(rd l1 bT))=true:=beq_iff_eq.mpr c7;have lP:((rd l0 bT) !=(rd l1 bT))=false:=bne_eq_false_iff_eq.mpr c7;clear c7;have H':=Aside0.mk H;clear H;have p111:0≤(bT:Int):=of_decide_eq_true (by first|(with_reducible assumption)|assumption);have q111:bT<(l0.length:Int):=of_decide_eq_true (by first|(with_reducible assumption)|assumption);obtain⟨lQ,e111,jM⟩:=Kd.at_int HR0.out bT p111 q111
      cases e111;replace p111:=eq_true p111;replace q111:=eq_true q111;have p112:0≤(bT:Int):=of_decide_eq_true (by first|(with_reducible assumption)|assumption);have q112:bT<(l1.length:Int):=of_decide_eq_true (by first|(with_reducible assumption)|assumption);obtain⟨lR,e112,jN⟩:=Kd.at_int HR1.out bT p112 q112
      cases e112;replace p112:=eq_true p112;replace q112:=eq_true q112;go_wp2
      repeat(go_quiet (fail);try go_wp2)
      go_roundg k1
      case measure=>have:=HK1.out;omega
      case rel=>exact⟨(wrap64 (bT+1)),(by first|rfl|(simp;done)|(simp [*];done)),H',⟨by have:=HK1.out;omega⟩,by repeat(first|exact Drawn0.refl _|apply Drawn0.step)⟩
     ·rw [if_neg c7] at H
      have jL:((rd l0 bT)==(rd l1 bT))=false:=beq_eq_false_iff_ne.mpr c7;have lP:((rd l0 bT) !=(rd l1 bT))=true:=bne_iff_ne.mpr c7;obtain rfl:=Option.some.inj H;have p111:0≤(bT:Int):=of_decide_eq_true (by first|(with_reducible assumption)|assumption);have q111:bT<(l0.length:Int):=of_decide_eq_true (by first|(with_reducible assumption)|assumption);obtain⟨lQ,e111,jM⟩:=Kd.at_int HR0.out bT p111 q111
      cases e111;replace p111:=eq_true p111;replace q111:=eq_true q111;have p112:0≤(bT:Int):=of_decide_eq_true (by first|(with_reducible assumption)|assumption);have q112:bT<(l1.length:Int):=of_decide_eq_true (by first|(with_reducible assumption)|assumption);obtain⟨lR,e112,jN⟩:=Kd.at_int HR1.out bT p112 q112
      cases e112;replace p112:=eq_true p112;replace q112:=eq_true q112;go_wp2
      repeat(go_quiet (fail);try go_wp2)
      go_ret
      exact⟨by first|rfl|(simp;done)|(simp [*];done),by repeat(first|exact Drawn0.refl _|apply Drawn0.step)⟩
    ·rw [if_neg c4] at H
     have lB:decide (bT<(l0.length:Int))=false:=decide_eq_false c4;clear c4;obtain rfl:=Option.some.inj H;go_wp2
     repeat(go_quiet (fail);try go_wp2)
     go_ret
     exact⟨by first|rfl|(simp;done)|(simp [*];done),by repeat(first|exact Drawn0.refl _|apply Drawn0.step)⟩
 ·rw [if_neg c3] at H
  have iY:((l0.length:Int)==(l1.length:Int))=false:=beq_eq_false_iff_ne.mpr c3;have iZ:((l0.length:Int) !=(l1.length:Int))=true:=bne_iff_ne.mpr c3;have jA:(l0.length==l1.length)=false:=by first|simpa using c3|(simp at c3 ⊢;omega)
  obtain rfl:=Option.some.inj H;go_enter Try.func19,Try.ntmps19
  go_wp2
  repeat(go_quiet (fail);try go_wp2)
  go_ret
  exact⟨by first|rfl|(simp;done)|(simp [*];done),by repeat(first|exact Drawn0.refl _|apply Drawn0.step)⟩
def regletref15_Same.l0:Nat→List (S59)→List (S59)→Int→Option (Bool)
 |0,_,_,_=>none
 |k+1,x0,x1,x5=>if x5<(x0.length:Int) then(if 0≤x5 then(if x5<(x1.length:Int) then(if(!(((rd_T59 x0 x5).f0)==((rd_T59 x1 x5).f0))||(!(((rd_T59 x0 x5).f1)==((rd_T59 x1 x5).f1))||(!(((rd_T59 x0 x5).f2)==((rd_T59 x1 x5).f2)))))=true then(some false) else(regletref15_Same.l0 k x0 x1 (wrap64 (x5+1)))) else(none)) else(none)) else(some true)
def regletref15_Same.f (k:Nat) (l0:List (S59)) (l1:List (S59)):Option (Bool):=if(l0.length:Int)=(l1.length:Int) then(regletref15_Same.l0 k l0 l1 0) else(some false)
theorem regletref15_Same.mono_l:∀k,(∀y0 y1 y2,LeO (regletref15_Same.l0 k y0 y1 y2) (regletref15_Same.l0 (k+1) y0 y1 y2))
 |0=>fun _ _ _ r h=>by simp [regletref15_Same.l0] at h
 |k+1=>by
  have ih0:=regletref15_Same.mono_l k
  ·intro y0 y1 y2
   unfold regletref15_Same.l0
   repeat' first
   |(with_reducible exact ih0 _ _ _)
   |(with_reducible exact LeO.refl _)
   |(with_reducible exact LeO.none _)
   |(with_reducible refine LeO.ite ?_ ?_)
   |(with_reducible refine LeO.bind ?_ (fun _=>?_))
   |exact ih0 _ _ _
   |exact LeO.none _
   |refine LeO.ite ?_ ?_
   |refine LeO.bind ?_ (fun _=>?_)
theorem regletref15_Same.mono:∀a0 a1 k,LeO (regletref15_Same.f k a0 a1) (regletref15_Same.f (k+1) a0 a1):=by
 intro a0 a1 k;have ih0:=regletref15_Same.mono_l k
 unfold regletref15_Same.f
 repeat' first
  |(with_reducible exact ih0 _ _ _)
  |(with_reducible exact LeO.refl _)
  |(with_reducible exact LeO.none _)
  |(with_reducible refine LeO.ite ?_ ?_)
  |(with_reducible refine LeO.bind ?_ (fun _=>?_))
  |exact ih0 _ _ _
  |exact LeO.none _
  |refine LeO.ite ?_ ?_
  |refine LeO.bind ?_ (fun _=>?_)
set_option maxHeartbeats 8000000 in
set_option maxRecDepth 100000 in
theorem regletref15_Same.calls (k:Nat) (A0:Option Addr) (c0:Nat) (l0:List (S59)) (A1:Option Addr) (c1:Nat) (l1:List (S59)) (r:Bool) (w:World) (hr0:Kd.C k59 w A0 l0.length l0) (hc0:l0.length≤c0) (hr1:Kd.C k59 w A1 l1.length l1) (hc1:l1.length≤c1) (h:regletref15_Same.f k l0 l1=some r):
 Calls Try.prog 30 #[.slice A0 l0.length c0,.slice A1 l1.length c1] w fun e w'=>e= .returned (.bool r)∧Drawn0 w w':=by
 have hu59:=Try.underlying59;have HR0:=Aside0.mk hr0;have HC0:=Aside0.mk hc0;clear hr0 hc0;have HR1:=Aside0.mk hr1;have HC1:=Aside0.mk hc1;clear hr1 hc1;have H:(if(l0.length:Int)=(l1.length:Int) then(regletref15_Same.l0 k l0 l1 0) else(some false))=some r:=h;clear h
 by_cases c3:(l0.length:Int)=(l1.length:Int)
 ·rw [if_pos c3] at H
  have iY:((l0.length:Int)==(l1.length:Int))=true:=beq_iff_eq.mpr c3;have iZ:((l0.length:Int) !=(l1.length:Int))=false:=bne_eq_false_iff_eq.mpr c3;have jA:(l0.length==l1.length)=true:=by first|simpa using c3|(simp at c3 ⊢;omega)
  clear c3;have H':=Aside0.mk H;clear H;go_enter Try.func30,Try.ntmps30
  go_wp2
  repeat(go_quiet (fail);try go_wp2)
  go_loopg [5] k (fun kq v5 w'=>∃(bT:Int),v5= .int .i64 bT∧Aside0 (regletref15_Same.l0 kq l0 l1 bT=some r)∧Aside0 (kq≤k)∧Drawn0 w w')
  case atStart=>exact⟨(0),(by first|rfl|(simp;done)|(simp [*];done)),H',⟨Nat.le_refl _⟩,by repeat(first|exact Drawn0.refl _|apply Drawn0.step)⟩
  case round=>
   clear H'
   (try clear c1);(try clear p2);(try clear c3);(try clear iY);(try clear iZ);(try clear jA)
   obtain⟨bT,rfl,HA,HK1,⟨m1,rfl⟩⟩:=hrel
   cases gk with
   |zero=>exact absurd HA.out (by simp [regletref15_Same.l0])
   |succ k1=>
    have H:=HA.out;clear HA;simp only [regletref15_Same.l0] at H
    by_cases c4:bT<(l0.length:Int)
    ·rw [if_pos c4] at H
     have lB:decide (bT<(l0.length:Int))=true:=decide_eq_true c4;clear c4
     by_cases c5:0≤bT
     rotate_left
     ·rw [if_neg c5] at H
      exact absurd H (by simp)
     rw [if_pos c5] at H;have lO:decide (0≤bT)=true:=decide_eq_true c5;clear c5
     by_cases c6:bT<(l1.length:Int)
     rotate_left
     ·rw [if_neg c6] at H
      exact absurd H (by simp)
     rw [if_pos c6] at H;have gL:decide (bT<(l1.length:Int))=true:=decide_eq_true c6;clear c6
     by_cases c7:(!(((rd_T59 l0 bT).f0)==((rd_T59 l1 bT).f0))||(!(((rd_T59 l0 bT).f1)==((rd_T59 l1 bT).f1))||(!(((rd_T59 l0 bT).f2)==((rd_T59 l1 bT).f2)))))=true
     ·rw [if_pos c7] at H
      have jL:(!(((rd_T59 l0 bT).f0)==((rd_T59 l1 bT).f0))||(!(((rd_T59 l0 bT).f1)==((rd_T59 l1 bT).f1))||(!(((rd_T59 l0 bT).f2)==((rd_T59 l1 bT).f2)))))=true:=c7;clear c7;obtain rfl:=Option.some.inj H;have p113:0≤(bT:Int):=of_decide_eq_true (by first|(with_reducible assumption)|assumption);have q113:bT<(l0.length:Int):=of_decide_eq_true (by first|(with_reducible assumption)|assumption);obtain⟨lS,e113,jO,jP,jQ⟩:=at_T59 HR0.out bT p113 q113
      cases e113;replace p113:=eq_true p113;replace q113:=eq_true q113;have p114:0≤(bT:Int):=of_decide_eq_true (by first|(with_reducible assumption)|assumption);have q114:bT<(l1.length:Int):=of_decide_eq_true (by first|(with_reducible assumption)|assumption);obtain⟨lT,e114,jR,jS,jT⟩:=at_T59 HR1.out bT p114 q114
      cases e114;replace p114:=eq_true p114;replace q114:=eq_true q114;go_wp2
      repeat(go_quiet (fail);try go_wp2)
      go_ret
      exact⟨by first|rfl|(simp;done)|(simp [*];done),by repeat(first|exact Drawn0.refl _|apply Drawn0.step)⟩
     ·rw [if_neg c7] at H
      have jL:(!(((rd_T59 l0 bT).f0)==((rd_T59 l1 bT).f0))||(!(((rd_T59 l0 bT).f1)==((rd_T59 l1 bT).f1))||(!(((rd_T59 l0 bT).f2)==((rd_T59 l1 bT).f2)))))=false:=by simpa using c7
      clear c7;have H':=Aside0.mk H;clear H;have p113:0≤(bT:Int):=of_decide_eq_true (by first|(with_reducible assumption)|assumption);have q113:bT<(l0.length:Int):=of_decide_eq_true (by first|(with_reducible assumption)|assumption);obtain⟨lS,e113,jO,jP,jQ⟩:=at_T59 HR0.out bT p113 q113
      cases e113;replace p113:=eq_true p113;replace q113:=eq_true q113;have p114:0≤(bT:Int):=of_decide_eq_true (by first|(with_reducible assumption)|assumption);have q114:bT<(l1.length:Int):=of_decide_eq_true (by first|(with_reducible assumption)|assumption);obtain⟨lT,e114,jR,jS,jT⟩:=at_T59 HR1.out bT p114 q114
      cases e114;replace p114:=eq_true p114;replace q114:=eq_true q114;go_wp2
      repeat(go_quiet (fail);try go_wp2)
      go_roundg k1
      case measure=>have:=HK1.out;omega
      case rel=>exact⟨(wrap64 (bT+1)),(by first|rfl|(simp;done)|(simp [*];done)),H',⟨by have:=HK1.out;omega⟩,by repeat(first|exact Drawn0.refl _|apply Drawn0.step)⟩
    ·rw [if_neg c4] at H
     have lB:decide (bT<(l0.length:Int))=false:=decide_eq_false c4;clear c4;obtain rfl:=Option.some.inj H;go_wp2
     repeat(go_quiet (fail);try go_wp2)
     go_ret
     exact⟨by first|rfl|(simp;done)|(simp [*];done),by repeat(first|exact Drawn0.refl _|apply Drawn0.step)⟩
 ·rw [if_neg c3] at H
  have iY:((l0.length:Int)==(l1.length:Int))=false:=beq_eq_false_iff_ne.mpr c3;have iZ:((l0.length:Int) !=(l1.length:Int))=true:=bne_iff_ne.mpr c3;have jA:(l0.length==l1.length)=false:=by first|simpa using c3|(simp at c3 ⊢;omega)
  obtain rfl:=Option.some.inj H;go_enter Try.func30,Try.ntmps30
  go_wp2
  repeat(go_quiet (fail);try go_wp2)
  go_ret
  exact⟨by first|rfl|(simp;done)|(simp [*];done),by repeat(first|exact Drawn0.refl _|apply Drawn0.step)⟩
end Go.Proofs.Ytjaindljlgnkcaa.P
end

section
namespace Go.Proofs.Ytjaindljlgnkcaa.H
open Go.RowKit Go.Proofs.YtjaindljlgnkcaaW.PrintWords Go.Proofs.YtjaindljlgnkcaaW.PrintLast Go.Proofs.YtjaindljlgnkcaaW.PrintMore
theorem Ev.pos {α:Type}{c:Prop} [Decidable c] {f g:Nat→Option α}{r:α}(h:c) (k:Ev f r):Ev (fun n=>if c then f n else g n) r:=
 Ev.congr (fun _=>if_pos h) k
theorem Ev.neg {α:Type}{c:Prop} [Decidable c] {f g:Nat→Option α}{r:α}(h:¬c) (k:Ev g r):Ev (fun n=>if c then f n else g n) r:=
 Ev.congr (fun _=>if_neg h) k
theorem Ev.some {α:Type}{r s:α}(h:r=s):Ev (fun _=>Option.some r) s:=h ▸ Ev.now r
theorem wrap64_id {x:Int}(h0: -9223372036854775808≤x) (h1:x≤9223372036854775807):wrap64 x=x:=by
 unfold wrap64;omega
end Go.Proofs.Ytjaindljlgnkcaa.H
end

section
namespace Go.Proofs.Ytjaindljlgnkcaa.P
open Go.RowKit Go.Proofs.YtjaindljlgnkcaaW.PrintWords
set_option linter.unusedVariables false
set_option linter.unusedSimpArgs false
def dotted (s:ByteArray):Bool:=s.data.toList.any (fun b=>b==46)
structure GFr where
 rule:Int
 left:List S57
 kids:List Int
structure GSt where
 steps:List Int
 at_:Nat
 frs:List GFr
 nds:List S34
section
variable (ns:List ByteArray) (ps:List S55) (ls:List S59)
def gOpen (rule:Int) (s:GSt):GSt×Bool:=
 match s.steps with
 | []=>(s,false)
 |x::xs=>if 0≤x∧x<(ps.length:Int) then(⟨xs,s.at_,⟨rule,(rd_T55 ps x).f1,[]⟩::s.frs,s.nds⟩,decide ((rd_T55 ps x).f0=rule)) else(s,false)
def gClose (s:GSt):GSt:=
 match s.frs with
 | []=>s
 | [f]=>⟨s.steps,s.at_,[],s.nds++ [⟨f.rule,f.kids⟩]⟩
 |f::u::fs=>if dotted (rdOf ByteArray.empty ns f.rule)=true then⟨s.steps,s.at_,⟨u.rule,u.left,u.kids++f.kids⟩::fs,s.nds⟩
  else⟨s.steps,s.at_,⟨u.rule,u.left,u.kids++ [(s.nds.length:Int)]⟩::fs,s.nds++ [⟨f.rule,f.kids⟩]⟩
def gStep (s:GSt):GSt×Bool:=
 match s.frs with
 | []=>(s,false)
 |f::fs=>match f.left with
  | []=>(gClose ns s,true)
  |x::l=>if x.f0=true then(if s.at_<ls.length∧(rd_T59 ls (s.at_:Int)).f0=x.f1 then(⟨s.steps,s.at_+1,⟨f.rule,l,f.kids++ [-1 - (s.at_:Int)]⟩::fs,s.nds⟩,true) else(⟨s.steps,s.at_,⟨f.rule,l,f.kids⟩::fs,s.nds⟩,false))
   else gOpen ps x.f1 ⟨s.steps,s.at_,⟨f.rule,l,f.kids⟩::fs,s.nds⟩
def gRun:Nat→GSt→Bool→Option (Option GSt)
 |0,_,_=>none
 |k+1,s,ok=>if ok=false then some none else if s.frs.length=0 then some (some s) else gRun k (gStep ns ps ls s).1 (gStep ns ps ls s).2
theorem gRun_mono:∀(k:Nat) (s:GSt) (ok:Bool),LeO (gRun ns ps ls k s ok) (gRun ns ps ls (k+1) s ok)
 |0,_,_=>LeO.none _
 |k+1,s,ok=>LeO.ite (LeO.refl _) (LeO.ite (LeO.refl _) (gRun_mono k _ _))
variable {ns ps ls}
end
def growEnd (ls:List S59):Option GSt→Option (List S34)
 |none=>none
 |some s=>if s.steps.length=0∧ls.length≤s.at_ then some s.nds else none
end Go.Proofs.Ytjaindljlgnkcaa.P
end

section
namespace Go.Proofs.Ytjaindljlgnkcaa.P
open Go.Proofs.Ytjaindljlgnkcaa.H Go.RowKit Go.Proofs.YtjaindljlgnkcaaW.PrintWords Go.Proofs.YtjaindljlgnkcaaW.PrintLast Go.Proofs.YtjaindljlgnkcaaW.PrintMore
set_option linter.unusedVariables false
set_option linter.unusedSimpArgs false
def KidsOk (w:World) (base:Nat) (l:List (Value×List Int)):Prop:=
 (∀x∈l,(Kd.int .i64).R 3 w base (fun k=>some k=x.1.ownBlock) x.1 x.2)∧l.Pairwise (fun a b=>NeRow a.1 b.1)
section
variable {w w1:World}{base:Nat}{l l':List (Value×List Int)}{v v1:Value}{xs ys:List Int}
theorem KidsOk.nil (w:World) (base:Nat):KidsOk w base []:=⟨fun x h=>(nomatch h),List.Pairwise.nil⟩
theorem KidsOk.step (h:KidsOk w base l) (hm:∀x∈l,∀k,some k=x.1.ownBlock→k<w.heap.size→w1.heap[k]?=w.heap[k]?):KidsOk w1 base l:=
 ⟨fun x hx=>Kd.R_step (h.1 x hx) (fun k hk hlt=>hm x hx k hk hlt),h.2⟩
theorem KidsOk.below (h:KidsOk w base l) (hb:Below w.heap.size w w1):KidsOk w1 base l:=h.step (fun _ _ k _ hlt=>hb.block k hlt)
theorem KidsOk.typed (h:KidsOk w base l) {x:Value×List Int}(hx:x∈l) {k:Nat}(hk:some k=x.1.ownBlock):∃cells,w.heap[k]?=some (.cells cells 3 (0,0)):=by
 obtain⟨inner,ho⟩:=Kd.R_own (h.1 x hx);exact own_typed ho k hk.symm
theorem KidsOk.set (h:KidsOk w base l) {g t:Nat}{cells:Array Value}(hb:w.heap[g]?=some (.cells cells t (0,0))) (ht:3≠t) (j:Nat) (u:Value):KidsOk (w.setCell ⟨g,j,none⟩ u) base l:=
 h.step (fun x hx k hk _=>Below.heap_setCell w ⟨g,j,none⟩ u k (by
  rintro rfl
  obtain⟨c2,h2⟩:=h.typed hx hk;rw [h2] at hb;injection hb with hb
  injection hb with _ hb
  exact ht hb))
theorem KidsOk.over (h:KidsOk w base l) {row:Option Nat}(hg:w.grownBy w1 row) (hr:∀g,row=some g→∃cells t,w.heap[g]?=some (.cells cells t (0,0))∧3≠t):KidsOk w1 base l:=
 h.step (fun x hx k hk hlt=>hg.block k hlt (by
  intro e;obtain⟨c1,t,h1,ht⟩:=hr k e.symm;obtain⟨c2,h2⟩:=h.typed hx hk;rw [h2] at h1;injection h1 with h1
  injection h1 with _ h1
  exact ht h1))
theorem KidsOk.perm (h:KidsOk w base l) (p:l.Perm l'):KidsOk w base l':=
 ⟨fun x hx=>h.1 x (p.mem_iff.2 hx),(p.pairwise_iff (fun{a b} (hab:NeRow a.1 b.1)=>ne_symm hab)).1 h.2⟩
theorem KidsOk.tail {x:Value×List Int}(h:KidsOk w base (x::l)):KidsOk w base l:=⟨fun y hy=>h.1 y (List.mem_cons_of_mem _ hy),(List.pairwise_cons.1 h.2).2⟩
theorem KidsOk.cons_nil (h:KidsOk w base l):KidsOk w base ((.slice none 0 0,[])::l):=
 ⟨fun x hx=>by
  rcases List.mem_cons.1 hx with rfl|hx
  ·exact Kd.R_nil _ _ _ _ _
  ·exact h.1 x hx,List.pairwise_cons.2 ⟨fun y _=>ne_nil _,h.2⟩⟩
theorem KidsOk.put (h:KidsOk w base ((v,xs)::l)) {ok:Nat→Prop}(hR:(Kd.int .i64).R 3 w1 base ok v1 ys) (hg:w.grownBy w1 v.ownBlock) (hat:v1.ownBlock=v.ownBlock∨∃b,v1.ownBlock=some b∧w.heap.size≤b):KidsOk w1 base ((v1,ys)::l):=by
 obtain⟨hne,hp⟩:=List.pairwise_cons.1 h.2;refine⟨fun x hx=>?_,List.pairwise_cons.2 ⟨fun y hy=>?_,hp⟩⟩
 ·rcases List.mem_cons.1 hx with rfl|hx
  ·exact Kd.R_tight rfl hR
  ·exact Kd.R_grown (h.1 x (List.mem_cons_of_mem _ hx)) hg (fun k hk e=>hne x hx k e.symm hk.symm)
 ·obtain⟨inner,ho⟩:=Kd.R_own (h.1 y (List.mem_cons_of_mem _ hy))
  exact ne_append (hne y hy) hat ho
end
theorem raw_last {sz e base:Nat}{w:World}{ok:Nat→Prop}{sv:Value}{rows:List (List Value)}{x:List Value}(h:(Kd.raw sz).R e w base ok sv (rows++ [x])):
 ∃g cap,sv= .slice (some ⟨g,0,none⟩) (rows.length+1) cap∧rows.length+1≤cap∧base≤g∧g<w.heap.size∧(∃cells,w.heap[g]?=some (.cells cells e (0,0)))∧x.length=sz∧
  (∀j u,x[j]?=some u→w.cell? ⟨g,rows.length * sz+j,none⟩=some u)∧(∀j,w.frozen? ⟨g,rows.length * sz+j,none⟩=false)∧
  ∀(j:Nat) (u:Value),j<sz→u.oneCell'=true→(Kd.raw sz).R e (w.setCell ⟨g,rows.length * sz+j,none⟩ u) base ok sv (rows++ [x.set j u])∧w.grownBy (w.setCell ⟨g,rows.length * sz+j,none⟩ u) (some g):=by
 obtain⟨g,cap,rfl,hb,hlt,hcells⟩:=Kd.R_form h (by simp);have hlen:(rows++ [x]).length=rows.length+1:=by simp
 rw [hlen] at h ⊢;obtain⟨c,hcl,hM,hcc,hfr⟩:=Kd.R_elem h ([]:List Value) (rows.length:Int) (by omega) (by omega);rw [Int.toNat_natCast] at hM hcc hfr;have hx:(rows++ [x]).getD rows.length []=x:=by simp [List.getD]
 rw [hx] at hM;obtain⟨rfl,hl,h1⟩:=hM;refine⟨g,cap,rfl,(Kd.R_reads' h).2.1,hb,hlt,hcells,hcl,hcc,hfr,fun j u hj hu=>?_⟩
 have hs:=Kd.R_seg h (rows.length:Int) (by omega) (by omega) (seg:= [u]) (j:=j) hcl (by rw [Int.toNat_natCast];exact hcc) (by show j+1≤sz;omega) (x':=c.set j u) (okp:=fun _=>False)
  (by
   refine⟨?_,?_,fun q hq=>?_⟩
   ·show c.take j++ [u]++c.drop (j+1)=c.set j u
    rw [List.set_eq_take_append_cons_drop,if_pos (by rw [hl];omega)];simp
   ·show(c.take j++ [u]++c.drop (j+1)).length=sz
    have hc2:c.length=sz:=hl;simp only [List.length_append,List.length_take,List.length_drop,List.length_cons,List.length_nil];omega
   ·rcases List.mem_append.1 hq with hq|hq
    ·rcases List.mem_append.1 hq with hq|hq
     ·exact h1 q (List.mem_of_mem_take hq)
     ·rw [List.mem_singleton.1 hq]
      exact hu
    ·exact h1 q (List.mem_of_mem_drop hq)) (fun _ hk=>hk.elim)
 rw [Int.toNat_natCast] at hs;have e1:(rows++ [c]).set rows.length (c.set j u)=rows++ [c.set j u]:=by simp
 rw [e1] at hs;exact hs
structure FrM where
 rule:Int
 A:Option Addr
 c:Nat
 left:List S57
 v:Value
 kids:List Int
structure NdM where
 rule:Int
 v:Value
 kids:List Int
def FrM.cells (f:FrM):List Value:= [.int .i64 f.rule,.slice f.A f.left.length f.c,f.v]
def FrM.fr (f:FrM):GFr:=⟨f.rule,f.left,f.kids⟩
def NdM.cells (n:NdM):List Value:= [.int .i64 n.rule,n.v]
def NdM.nd (n:NdM):S34:=⟨n.rule,n.kids⟩
def kidsOf (frs:List FrM) (nds:List NdM):List (Value×List Int):=frs.map (fun f=>(f.v,f.kids))++nds.map (fun n=>(n.v,n.kids))
def frRows (frs:List FrM):List (List Value):=(frs.map FrM.cells).reverse
theorem frRows_cons (f:FrM) (frs:List FrM):frRows (f::frs)=frRows frs++ [f.cells]:=by simp [frRows]
theorem frRows_len (frs:List FrM):(frRows frs).length=frs.length:=by simp [frRows]
def ndRows (nds:List NdM):List (List Value):=nds.map NdM.cells
theorem ndRows_len (nds:List NdM):(ndRows nds).length=nds.length:=by simp [ndRows]
structure GRows (w0:World) (base:Nat) (frs:List FrM) (nds:List NdM) (xt:List (Value×List Int)) (sv nv:Value) (w:World):Prop where
 st:(Kd.raw 3).R 112 w base (fun _=>True) sv (frRows frs)
 nd:(Kd.raw 2).R 34 w base (fun _=>True) nv (ndRows nds)
 kd:KidsOk w base (xt++kidsOf frs nds)
 lf:∀f∈frs,Kd.C k57 w0 f.A f.left.length f.left∧f.left.length≤f.c
section
variable {w0 w w1:World}{base:Nat}{frs:List FrM}{nds:List NdM}{xt:List (Value×List Int)}{sv nv:Value}
theorem GRows.below (h:GRows w0 base frs nds xt sv nv w) (hb:Below w.heap.size w w1):GRows w0 base frs nds xt sv nv w1:=
 ⟨Kd.R_below h.st hb,Kd.R_below h.nd hb,h.kd.below hb,h.lf⟩
theorem GRows.set (h:GRows w0 base frs nds xt sv nv w) {g t:Nat}{cells:Array Value}(hb:w.heap[g]?=some (.cells cells t (0,0))) (ht:3≠t∧112≠t∧34≠t) (j:Nat) (u:Value):GRows w0 base frs nds xt sv nv (w.setCell ⟨g,j,none⟩ u):=
 ⟨Kd.R_set h.st hb (fun q hq=>by rw [List.mem_singleton.1 hq];exact ht.2.1) j u,Kd.R_set h.nd hb (fun q hq=>by rw [List.mem_singleton.1 hq];exact ht.2.2) j u,h.kd.set hb ht.1 j u,h.lf⟩
theorem frame_typed {e sz:Nat}{ok:Nat→Prop}{rows:List (List Value)}(h:(Kd.raw sz).R e w base ok sv rows) (he:3≠e):∀g,sv.ownBlock=some g→∃cells t,w.heap[g]?=some (.cells cells t (0,0))∧3≠t:=fun g hg=>by
 obtain⟨inner,ho⟩:=Kd.R_own h;obtain⟨cells,hc⟩:=own_typed ho g hg;exact⟨cells,e,hc,he⟩
theorem GRows.push {v1:Value}{rule:Int}{A:Option Addr}{c:Nat}{left:List S57}(h:GRows w0 base frs nds [] sv nv w)
 (ho:(Kd.raw 3).R 112 w1 base (fun _=>True) v1 (frRows frs++ [[.int .i64 rule,.slice A left.length c,.slice none 0 0]])) (hg:w.grownBy w1 sv.ownBlock) (hl:Kd.C k57 w0 A left.length left∧left.length≤c):
 GRows w0 base (⟨rule,A,c,left,.slice none 0 0,[]⟩::frs) nds [] v1 nv w1:=
 ⟨by rw [frRows_cons];exact ho,Kd.R_over h.nd h.st (by decide) hg,(h.kd.over hg (frame_typed h.st (by decide))).cons_nil,fun f hf=>by
  rcases List.mem_cons.1 hf with rfl|hf
  ·exact hl
  ·exact h.lf f hf⟩
theorem GRows.pop {f:FrM}{A:Option Addr}{n c:Nat}(h:GRows w0 base (f::frs) nds [] (.slice A n c) nv w):GRows w0 base frs nds [(f.v,f.kids)] (.slice A frs.length c) nv w:=
 ⟨by
  have h1:=Kd.R_take (m:=frs.length) h.st (by rw [frRows_len,List.length_cons];omega);rw [frRows_cons,List.take_append_of_le_length (by rw [frRows_len];exact Nat.le_refl _),List.take_of_length_le (by rw [frRows_len];exact Nat.le_refl _)] at h1;exact h1,h.nd,h.kd,fun g hg=>h.lf g (List.mem_cons_of_mem _ hg)⟩
theorem GRows.drop (h:GRows w0 base frs nds xt sv nv w):GRows w0 base frs nds [] sv nv w:=
 ⟨h.st,h.nd,by
  have h2:=h.kd;clear h
  induction xt with
  |nil=>exact h2
  |cons x xt ih=>exact ih h2.tail,h.lf⟩
theorem GRows.node {v v1:Value}{rule:Int}{kids:List Int}(h:GRows w0 base frs nds [(v,kids)] sv nv w) (ho:(Kd.raw 2).R 34 w1 base (fun _=>True) v1 (ndRows nds++ [[.int .i64 rule,v]])) (hg:w.grownBy w1 nv.ownBlock):
 GRows w0 base frs (nds++ [⟨rule,v,kids⟩]) [] sv v1 w1:=
 ⟨Kd.R_over h.st h.nd (by decide) hg,by rw [ndRows,List.map_append];exact ho,(h.kd.over hg (frame_typed h.nd (by decide))).perm (by
  simp only [kidsOf,List.map_append,List.map_cons,List.map_nil,List.nil_append,List.singleton_append];rw [←List.append_assoc];exact(List.perm_append_singleton (v,kids) _).symm),h.lf⟩
theorem GRows.kid {u:FrM}{v1:Value}{ys:List Int}{ok:Nat→Prop}(h:GRows w0 base (u::frs) nds xt sv nv w) (hR:(Kd.int .i64).R 3 w1 base ok v1 ys) (hg:w.grownBy w1 u.v.ownBlock) (hat:v1.ownBlock=u.v.ownBlock∨∃b,v1.ownBlock=some b∧w.heap.size≤b):
 ∃g cap,sv= .slice (some ⟨g,0,none⟩) (frs.length+1) cap∧base≤g∧(∃cells,w1.heap[g]?=some (.cells cells 112 (0,0)))∧w1.cell? ⟨g,frs.length * 3+2,none⟩=some u.v∧w1.frozen? ⟨g,frs.length * 3+2,none⟩=false∧w1.cell? ⟨g,frs.length * 3,none⟩=some (.int .i64 u.rule)∧
  GRows w0 base (⟨u.rule,u.A,u.c,u.left,v1,ys⟩::frs) nds xt sv nv (w1.setCell ⟨g,frs.length * 3+2,none⟩ v1):=by
 have hmem:(u.v,u.kids)∈xt++kidsOf (u::frs) nds:=List.mem_append_right _ (by simp [kidsOf]);have hRu:=h.kd.1 _ hmem;have hst:=Kd.R_over h.st hRu (by decide) hg;have hnd:=Kd.R_over h.nd hRu (by decide) hg
 have hk2:KidsOk w base ((u.v,u.kids)::(xt++kidsOf frs nds)):=h.kd.perm (by
  show(xt++(u.v,u.kids)::kidsOf frs nds).Perm _
  exact List.perm_middle)
 have hk3:=hk2.put hR hg hat;rw [frRows_cons] at hst;obtain⟨g,cap,e,_,hb,_,⟨cells,hc⟩,_,hcc,hfr,hput⟩:=raw_last hst;rw [frRows_len] at e hcc hfr hput;obtain⟨p1,p2⟩:=hput 2 v1 (by decide) (by obtain⟨A,c,e⟩:=Kd.R_slice hR;rw [e];rfl);refine⟨g,cap,e,hb,⟨cells,hc⟩,hcc 2 _ rfl,hfr 2,by have h0:=hcc 0 _ rfl;rw [Nat.add_zero] at h0;exact h0,?_,?_,?_,fun f hf=>?_⟩
 ·rw [frRows_cons]
  exact p1
 ·exact Kd.R_set hnd hc (fun q hq=>by rw [List.mem_singleton.1 hq];decide) _ _
 ·refine(hk3.set hc (by decide) (frs.length * 3+2) v1).perm ?_
  show((v1,ys)::(xt++kidsOf frs nds)).Perm (xt++(v1,ys)::kidsOf frs nds)
  exact List.perm_middle.symm
 ·rcases List.mem_cons.1 hf with rfl|hf
  ·exact h.lf u (List.mem_cons_self ..)
  ·exact h.lf f (List.mem_cons_of_mem _ hf)
theorem GRows.top {u:FrM}(h:GRows w0 base (u::frs) nds xt sv nv w):∃g cap,sv= .slice (some ⟨g,0,none⟩) (frs.length+1) cap∧frs.length+1≤cap∧base≤g∧g<w.heap.size∧(∃cells,w.heap[g]?=some (.cells cells 112 (0,0)))∧w.cell? ⟨g,frs.length * 3,none⟩=some (.int .i64 u.rule)∧w.cell? ⟨g,frs.length * 3+1,none⟩=some (.slice u.A u.left.length u.c)∧w.cell? ⟨g,frs.length * 3+2,none⟩=some u.v∧(∀j,w.frozen? ⟨g,frs.length * 3+j,none⟩=false):=by
 have hst:=h.st;rw [frRows_cons] at hst;obtain⟨g,cap,e,hcap,hb,hlt,hc,_,hcc,hfr,_⟩:=raw_last hst;rw [frRows_len] at e hcc hfr hcap;exact⟨g,cap,e,hcap,hb,hlt,hc,by have h0:=hcc 0 _ rfl;rw [Nat.add_zero] at h0;exact h0,hcc 1 _ rfl,hcc 2 _ rfl,hfr⟩
theorem GRows.left {u:FrM}{A:Option Addr}{c g n cap:Nat}{left:List S57}(h:GRows w0 base (u::frs) nds xt (.slice (some ⟨g,0,none⟩) n cap) nv w) (hl:Kd.C k57 w0 A left.length left∧left.length≤c):
 GRows w0 base (⟨u.rule,A,c,left,u.v,u.kids⟩::frs) nds xt (.slice (some ⟨g,0,none⟩) n cap) nv (w.setCell ⟨g,frs.length * 3+1,none⟩ (.slice A left.length c)):=by
 have hst:=h.st;rw [frRows_cons] at hst;obtain⟨g',cap',e,_,hb,_,⟨cells,hc⟩,_,hcc,hfr,hput⟩:=raw_last hst;obtain⟨rfl⟩:g=g':=by injection e with e;injection e with e;injection e
 rw [frRows_len] at hput;obtain⟨p1,_⟩:=hput 1 (.slice A left.length c) (by decide) rfl;refine⟨by rw [frRows_cons];exact p1,Kd.R_set h.nd hc (fun q hq=>by rw [List.mem_singleton.1 hq];decide) _ _,h.kd.set hc (by decide) _ _,fun f hf=>?_⟩
 rcases List.mem_cons.1 hf with rfl|hf
 ·exact hl
 ·exact h.lf f (List.mem_cons_of_mem _ hf)
end
def kidsAt (nds:List S34) (x:Int):List Int:=(rd_T34 nds x).f1
def lRun (nds:List S34) (nl:Nat):Nat→List (Int×List Int)→Nat→List Int→Option (Option (List Int))
 |0,_,_,_=>none
 |k+1,[],n,out=>some (some out)
 |k+1,(node,[])::st,n,out=>lRun nds nl k st n out
 |k+1,(node,x::xs)::st,n,out=>
  if node≤x∨(nl:Int)≤wrap64 (-1 - x)∨100000<n+1 then some none
  else if x<0 then lRun nds nl k ((node,xs)::st) (n+1) (out++ [wrap64 (-1 - x)])
  else lRun nds nl k ((x,kidsAt nds x)::(node,xs)::st) (n+1) out
theorem lRun_mono (nds:List S34) (nl:Nat):∀(k:Nat) (st:List (Int×List Int)) (n:Nat) (out:List Int),LeO (lRun nds nl k st n out) (lRun nds nl (k+1) st n out)
 |0,_,_,_=>LeO.none _
 |k+1,[],n,out=>LeO.refl _
 |k+1,(node,[])::st,n,out=>lRun_mono nds nl k st n out
 |k+1,(node,x::xs)::st,n,out=>by
  rw [lRun,lRun];exact LeO.ite (LeO.refl _) (LeO.ite (lRun_mono nds nl k _ _ _) (lRun_mono nds nl k _ _ _))
structure PlM where
 node:Int
 A:Option Addr
 c:Nat
 left:List Int
def PlM.cells (f:PlM):List Value:= [.int .i64 f.node,.slice f.A f.left.length f.c]
def PlM.pl (f:PlM):Int×List Int:=(f.node,f.left)
def plRows (l:List PlM):List (List Value):=(l.map PlM.cells).reverse
theorem plRows_cons (f:PlM) (l:List PlM):plRows (f::l)=plRows l++ [f.cells]:=by simp [plRows]
theorem plRows_len (l:List PlM):(plRows l).length=l.length:=by simp [plRows]
structure LRows (w0:World) (N:Nat) (base:Nat) (fs:List PlM) (out:List Int) (sv ov:Value) (w:World):Prop where
 st:(Kd.raw 2).R 82 w base (fun _=>True) sv (plRows fs)
 ot:(Kd.int .i64).R 3 w base (fun _=>True) ov out
 lf:∀f∈fs,(Kd.C (Kd.int .i64) w0 f.A f.left.length f.left∧f.left.length≤f.c)∧f.node<(N:Int)
section
variable {w0 w w1:World}{N base:Nat}{fs:List PlM}{out ys:List Int}{sv ov v1:Value}
theorem LRows.pop {f:PlM}{A:Option Addr}{n c:Nat}(h:LRows w0 N base (f::fs) out (.slice A n c) ov w):LRows w0 N base fs out (.slice A fs.length c) ov w:=
 ⟨by
  have h1:=Kd.R_take (m:=fs.length) h.st (by rw [plRows_len,List.length_cons];omega);rw [plRows_cons,List.take_append_of_le_length (by rw [plRows_len];exact Nat.le_refl _),List.take_of_length_le (by rw [plRows_len];exact Nat.le_refl _)] at h1;exact h1,h.ot,fun g hg=>h.lf g (List.mem_cons_of_mem _ hg)⟩
theorem LRows.push {x:Int}{A:Option Addr}{c:Nat}{left:List Int}(h:LRows w0 N base fs out sv ov w) (ho:(Kd.raw 2).R 82 w1 base (fun _=>True) v1 (plRows fs++ [[.int .i64 x,.slice A left.length c]])) (hg:w.grownBy w1 sv.ownBlock)
 (hl:(Kd.C (Kd.int .i64) w0 A left.length left∧left.length≤c)∧x<(N:Int)):LRows w0 N base (⟨x,A,c,left⟩::fs) out v1 ov w1:=
 ⟨by rw [plRows_cons];exact ho,Kd.R_over h.ot h.st (by decide) hg,fun f hf=>by
  rcases List.mem_cons.1 hf with rfl|hf
  ·exact hl
  ·exact h.lf f hf⟩
theorem LRows.leaf (h:LRows w0 N base fs out sv ov w) (hR:(Kd.int .i64).R 3 w1 base (fun _=>True) v1 ys) (hg:w.grownBy w1 ov.ownBlock):LRows w0 N base fs ys sv v1 w1:=⟨Kd.R_over h.st h.ot (by decide) hg,hR,h.lf⟩
theorem LRows.top {u:PlM}(h:LRows w0 N base (u::fs) out sv ov w):∃g cap,sv= .slice (some ⟨g,0,none⟩) (fs.length+1) cap∧fs.length+1≤cap∧base≤g∧g<w.heap.size∧(∃cells,w.heap[g]?=some (.cells cells 82 (0,0)))∧w.cell? ⟨g,fs.length * 2,none⟩=some (.int .i64 u.node)∧w.cell? ⟨g,fs.length * 2+1,none⟩=some (.slice u.A u.left.length u.c)∧(∀j,w.frozen? ⟨g,fs.length * 2+j,none⟩=false):=by
 have hst:=h.st;rw [plRows_cons] at hst;obtain⟨g,cap,e,hcap,hb,hlt,hc,_,hcc,hfr,_⟩:=raw_last hst;rw [plRows_len] at e hcc hfr hcap;exact⟨g,cap,e,hcap,hb,hlt,hc,by have h0:=hcc 0 _ rfl;rw [Nat.add_zero] at h0;exact h0,hcc 1 _ rfl,hfr⟩
theorem LRows.left {u:PlM}{A:Option Addr}{c g n cap:Nat}{left:List Int}(h:LRows w0 N base (u::fs) out (.slice (some ⟨g,0,none⟩) n cap) ov w) (hl:Kd.C (Kd.int .i64) w0 A left.length left∧left.length≤c):
 LRows w0 N base (⟨u.node,A,c,left⟩::fs) out (.slice (some ⟨g,0,none⟩) n cap) ov (w.setCell ⟨g,fs.length * 2+1,none⟩ (.slice A left.length c)):=by
 have hst:=h.st;rw [plRows_cons] at hst;obtain⟨g',cap',e,_,hb,_,⟨cells,hc⟩,_,hcc,hfr,hput⟩:=raw_last hst;obtain⟨rfl⟩:g=g':=by injection e with e;injection e with e;injection e
 rw [plRows_len] at hput;obtain⟨p1,_⟩:=hput 1 (.slice A left.length c) (by decide) rfl;refine⟨by rw [plRows_cons];exact p1,Kd.R_set h.ot hc (fun q hq=>by rw [List.mem_singleton.1 hq];decide) _ _,fun f hf=>?_⟩
 rcases List.mem_cons.1 hf with rfl|hf
 ·exact⟨hl,(h.lf u (List.mem_cons_self ..)).2⟩
 ·exact h.lf f (List.mem_cons_of_mem _ hf)
end
theorem raw_one (W:World) (base sz e:Nat) (cs:List Value) (hb:base≤W.heap.size) (hl:cs.length=sz) (h1:∀u∈cs,u.oneCell'=true):(Kd.raw sz).R e (W.alloc (.cells cs.toArray e)) base (fun _=>True) (.slice (some ⟨W.heap.size,0,none⟩) 1 1) [cs]:=by
 have h:=World.ownsRow_lit (base:=base) (e:=e) (size:=sz) W cs.toArray 1 hb (by simp [maxLen]) (by simp [hl]);refine⟨fun _ _=>trivial,cs,(by show World.ownsRow _ base e sz _ 1 cs;simpa using h),by simp [Kd.raw,hl],fun j p hj=>?_⟩
 have hj0:j=0:=by
  have:=(List.getElem?_eq_some_iff.1 hj).1
  simpa using this
 subst hj0;have:cs=p:=by simpa using hj
 subst this;exact⟨by rw [Nat.zero_mul,List.drop_zero];exact List.take_of_length_le (by rw [hl];exact Nat.le_refl _),by rw [Nat.zero_mul,List.drop_zero,List.length_take];show min sz _=sz;rw [hl];omega,fun u hu=>h1 u (by rw [Nat.zero_mul,List.drop_zero] at hu;exact List.mem_of_mem_take hu)⟩
theorem kids_at {w0 W:World}{A:Option Addr}{nds:List S34}(hC:Kd.C k34 w0 A nds.length nds) (hB:Below w0.heap.size w0 W) (x:Int) (h0:0≤x) (h1:x<(nds.length:Int)):
 ∃ad A5 c5,A=some ad∧W.cell? ⟨(ad.add (x.toNat * 2)).block,(ad.add (x.toNat * 2)).off+1,none⟩=some (.slice A5 (kidsAt nds x).length c5)∧Kd.C (Kd.int .i64) w0 A5 (kidsAt nds x).length (kidsAt nds x)∧(kidsAt nds x).length≤c5:=by
 obtain⟨ad,A5,c5,e4,_,e1,hle,hC5⟩:=at_T34 hC x h0 h1;exact⟨ad,A5,c5,e4,(hB.cell (World.block_lt_of_cell? w0 _ e1)).trans e1,hC5,hle⟩
def rvL (nl:Nat) (rv:Int→Int→Option (Option (List Int)×Int)) (node:Int):List Int→List Int→Int→Option (Option (List Int)×Int)
 | [],out,c=>some (some out,c)
 |x::xs,out,c=>
  if node≤x∨(nl:Int)≤wrap64 (-1 - x)∨c - 1<0 then some (none,c - 1)
  else if x<0 then rvL nl rv node xs (out++ [wrap64 (-1 - x)]) (c - 1)
  else(rv x (c - 1)).bind fun q=>match q.1 with
   |none=>some (none,q.2)
   |some l=>rvL nl rv node xs (out++l) q.2
def rv (nds:List S34) (nl:Nat):Nat→Int→Int→Option (Option (List Int)×Int)
 |0,_,_=>none
 |k+1,node,c=>rvL nl (rv nds nl k) node (kidsAt nds node) [] c
theorem rvL_mono {nl:Nat}{rv rv':Int→Int→Option (Option (List Int)×Int)}(h:∀x c,LeO (rv x c) (rv' x c)) (node:Int):∀(xs out:List Int) (c:Int),LeO (rvL nl rv node xs out c) (rvL nl rv' node xs out c)
 | [],out,c=>LeO.refl _
 |x::xs,out,c=>by
  rw [rvL,rvL];refine LeO.ite (LeO.refl _) (LeO.ite (rvL_mono h node xs _ _) (LeO.bind (h _ _) (fun q=>?_)))
  obtain⟨o,c'⟩:=q
  cases o with
  |none=>exact LeO.refl _
  |some l=>exact rvL_mono h node xs _ _
theorem rv_mono (nds:List S34) (nl:Nat):∀(k:Nat) (node c:Int),LeO (rv nds nl k node c) (rv nds nl (k+1) node c)
 |0,node,c=>LeO.none _
 |k+1,node,c=>by
  rw [rv,rv];exact rvL_mono (rv_mono nds nl k) node _ _ _
def RvSz (rv:Int→Int→Option (Option (List Int)×Int)):Prop:=∀x c o c',0≤c→rv x c=some (o,c')→c'≤c∧ -1≤c'∧∀l,o=some l→(l.length:Int)+c'≤c∧0≤c'
theorem rvL_size {nl:Nat}{rv:Int→Int→Option (Option (List Int)×Int)}(h:RvSz rv) (node:Int):∀(xs out:List Int) (c:Int) (o:Option (List Int)) (c':Int),0≤c→rvL nl rv node xs out c=some (o,c')→c'≤c∧ -1≤c'∧∀l,o=some l→(l.length:Int)+c'≤out.length+c∧0≤c'
 | [],out,c,o,c',h0,he=>by
  rw [rvL] at he;have he:=Option.some.inj he;simp only [Prod.mk.injEq] at he;obtain⟨rfl,rfl⟩:=he;exact⟨Int.le_refl _,by omega,fun l hl=>by cases hl;exact⟨Int.le_refl _,h0⟩⟩
 |x::xs,out,c,o,c',h0,he=>by
  rw [rvL] at he
  split at he
  ·have he:=Option.some.inj he
   simp only [Prod.mk.injEq] at he;obtain⟨rfl,rfl⟩:=he;exact⟨by omega,by omega,fun l hl=>by cases hl⟩
  ·rename_i hn
   have hc:¬c - 1<0:=fun e=>hn (.inr (.inr e))
   split at he
   ·obtain⟨a,b,d⟩:=rvL_size h node xs _ _ _ _ (by omega) he
    refine⟨by omega,b,fun l hl=>?_⟩
    obtain⟨e,f⟩:=d l hl;simp only [List.length_append,List.length_cons,List.length_nil] at e;exact⟨by omega,f⟩
   ·obtain⟨⟨o1,c1⟩,h1,h2⟩:=Option.bind_eq_some_iff.1 he
    obtain⟨a,b,d⟩:=h x (c - 1) o1 c1 (by omega) h1
    cases o1 with
    |none=>
     have h2:=Option.some.inj h2;simp only [Prod.mk.injEq] at h2;obtain⟨rfl,rfl⟩:=h2;exact⟨by omega,b,fun l hl=>by cases hl⟩
    |some l1=>
     obtain⟨e,f⟩:=d l1 rfl;obtain⟨a2,b2,d2⟩:=rvL_size h node xs _ _ _ _ f h2;refine⟨by omega,b2,fun l hl=>?_⟩
     obtain⟨e2,f2⟩:=d2 l hl;simp only [List.length_append] at e2;exact⟨by omega,f2⟩
theorem rv_size (nds:List S34) (nl:Nat):∀k,RvSz (rv nds nl k)
 |0=>fun x c o c' h0 h=>by cases h
 |k+1=>fun x c o c' h0 h=>by
  rw [rv] at h;obtain⟨a,b,d⟩:=rvL_size (rv_size nds nl k) x _ _ _ _ _ h0 h;exact⟨a,b,fun l hl=>by obtain⟨e,f⟩:=d l hl;simp only [List.length_nil] at e;exact⟨by omega,f⟩⟩
end Go.Proofs.Ytjaindljlgnkcaa.P
end

section
namespace Go.Proofs.Ytjaindljlgnkcaa.P
open Go.RowKit Go.Proofs.YtjaindljlgnkcaaW.PrintWords Go.Proofs.YtjaindljlgnkcaaW.PrintLast Go.Proofs.YtjaindljlgnkcaaW.PrintMore
set_option linter.unusedVariables false
set_option linter.unusedSimpArgs false
def okSym (nn nt:Nat) (x:S57):Bool:=decide (0≤x.f1) && (if x.f0=true then decide (x.f1<(nt:Int)) else decide (x.f1<(nn:Int)))
def okProd (nn nt:Nat) (x:S55):Bool:=decide (0≤x.f0) && decide (x.f0<(nn:Int)) && x.f1.all (okSym nn nt)
theorem symbols1_any (x:S57) (B:Nat) (W:World) (A0 A1:Option Addr) (n0 n1 c0 c1:Nat)
 (h0:W.cell? ⟨B,0,none⟩=some (.slice A0 n0 c0)) (h1:W.cell? ⟨B,1,none⟩=some (.slice A1 n1 c1)) (hB:B<W.heap.size):
 Calls Try.prog 57 #[.agg #[.bool x.f0,.int .i64 x.f1],.pointer (some ⟨B,0,none⟩)] W fun e w'=>e= .returned (.bool (!okSym n0 n1 x))∧Below W.heap.size W w':=by
 have hne:B≠W.heap.size:=by omega
 obtain⟨b,n⟩:=x
 unfold okSym
 by_cases c0:n<0
 ·have d0:decide (n<0)=true:=decide_eq_true c0
  have d1:decide (0≤n)=false:=decide_eq_false (by omega)
  cases b<;>(go_enter Try.func57,Try.ntmps57;go_wp2;go_ret;exact⟨rfl,(Below.refl _ W).alloc (Nat.le_refl _) _⟩)
 have d0:decide (n<0)=false:=decide_eq_false c0;have d1:decide (0≤n)=true:=decide_eq_true (by omega)
 cases b with
 |true=>
  by_cases c2:(n1:Int)≤n
  ·have d2:decide ((n1:Int)≤n)=true:=decide_eq_true c2
   have d3:decide (n<(n1:Int))=false:=decide_eq_false (by omega);go_enter Try.func57,Try.ntmps57
   go_wp2
   go_ret
   exact⟨rfl,(Below.refl _ W).alloc (Nat.le_refl _) _⟩
  ·have d2:decide ((n1:Int)≤n)=false:=decide_eq_false c2
   have d3:decide (n<(n1:Int))=true:=decide_eq_true (by omega);go_enter Try.func57,Try.ntmps57
   go_wp2
   go_ret
   exact⟨rfl,(Below.refl _ W).alloc (Nat.le_refl _) _⟩
 |false=>
  by_cases c2:(n0:Int)≤n
  ·have d2:decide ((n0:Int)≤n)=true:=decide_eq_true c2
   have d3:decide (n<(n0:Int))=false:=decide_eq_false (by omega);go_enter Try.func57,Try.ntmps57
   go_wp2
   go_ret
   exact⟨rfl,(Below.refl _ W).alloc (Nat.le_refl _) _⟩
  ·have d2:decide ((n0:Int)≤n)=false:=decide_eq_false c2
   have d3:decide (n<(n0:Int))=true:=decide_eq_true (by omega);go_enter Try.func57,Try.ntmps57
   go_wp2
   go_ret
   exact⟨rfl,(Below.refl _ W).alloc (Nat.le_refl _) _⟩
theorem indexSym_any (p:S57→Bool) (g:Nat) (lb:Array Value) (eg:∀args w,(callFunc g args).run Try.prog w= .ok (.enter g args) w) (A:Option Addr) (c:Nat) (zs:List S57) (w:World)
 (hr:Kd.C k57 w A zs.length zs) (hbig:zs.length≤9223372036854775807) (hp:∀(W:World) (x:S57),x∈zs→Below w.heap.size w W→Calls Try.prog g (#[.agg #[.bool x.f0,.int .i64 x.f1]]++lb) W fun e w'=>e= .returned (.bool (p x))∧Below w.heap.size w w'):
 Calls Try.prog 59 #[.slice A zs.length c,.func (.func g) #[] lb] w fun e w'=>(∃n:Int,e= .returned (.int .i64 n)∧Aside0 (decide (0≤n)=zs.any p))∧Below w.heap.size w w':=by
 go_enter Try.func59,Try.ntmps59
 go_wp2
 go_loopg [5,8] zs.length (fun gg _ s8 wr=>∃kk:Nat,kk≤zs.length∧zs.length - kk≤gg∧s8= .int .i64 kk∧Aside0 (Below w.heap.size w wr)∧Aside0 ((zs.take kk).any p=false))
 case atStart=>exact⟨0,Nat.zero_le _,by omega,rfl,⟨Below.refl _ w⟩,⟨by simp⟩⟩
 case round=>
  obtain⟨kk,hkk,hg,rfl,BW,PA⟩:=hrel
  by_cases hlt:kk<zs.length
  ·have hltz:(kk:Int)<(zs.length:Int):=by omega
   have hrd:rd_T57 zs (kk:Int)=zs[kk]:=by simp [rd_T57,hlt]
   obtain⟨ad,e,l0,l1⟩:=at_T57 (Kd.C_below hr BW.out) (kk:Int) (by omega) (by omega);have hcall:=hp wr zs[kk] (List.getElem_mem hlt) BW.out;rw [hrd,Int.toNat_natCast] at l0 l1;subst e;have PB:Aside0 ((zs.take (kk+1)).any p=p zs[kk]):=⟨by rw [List.take_succ_eq_append_getElem hlt,List.any_append,PA.out];simp⟩
   have PC:Aside0 (zs.any p=(p zs[kk]||(zs.drop (kk+1)).any p)):=⟨by
    conv=>lhs;rw [←List.take_append_drop (kk+1) zs]
    rw [List.any_append,PB.out]⟩
   clear hp hr hrd;generalize zs[kk]=y at l0 l1 hcall PB PC
   cases hq:p y with
   |true=>
    rw [hq] at hcall;have PD:Aside0 (zs.any p=true):=⟨by rw [PC.out,hq];simp⟩;clear PA PB PC hq
    go_wp2_with (go_at_fn g;refine hcall.mono ?_;rintro e w' ⟨rfl,hb'⟩)
    go_ret
    exact⟨⟨_,rfl,⟨by rw [PD.out];simp⟩⟩,hb'⟩
   |false=>
    rw [hq] at hcall;have PD:Aside0 ((zs.take (kk+1)).any p=false):=⟨by rw [PB.out,hq]⟩;clear PA PB PC hq
    go_wp2_with (go_at_fn g;refine hcall.mono ?_;rintro e w' ⟨rfl,hb'⟩)
    go_roundg (zs.length - (kk+1))
    case measure=>omega
    case rel=>exact⟨kk+1,by omega,by omega,by go_num,⟨hb'⟩,PD⟩
  ·have hltz:¬(kk:Int)<(zs.length:Int):=by omega
   have:kk=zs.length:=by omega
   subst this;have PD:Aside0 (zs.any p=false):=⟨by have:=PA.out;rwa [List.take_length] at this⟩;clear PA hp hr;go_wp2
   go_ret
   exact⟨⟨-1,rfl,⟨by rw [PD.out];simp⟩⟩,BW.out⟩
theorem containsSym_any (p:S57→Bool) (g:Nat) (lb:Array Value) (eg:∀args w,(callFunc g args).run Try.prog w= .ok (.enter g args) w) (A:Option Addr) (c:Nat) (zs:List S57) (w:World)
 (hr:Kd.C k57 w A zs.length zs) (hbig:zs.length≤9223372036854775807) (hp:∀(W:World) (x:S57),x∈zs→Below w.heap.size w W→Calls Try.prog g (#[.agg #[.bool x.f0,.int .i64 x.f1]]++lb) W fun e w'=>e= .returned (.bool (p x))∧Below w.heap.size w w'):
 Calls Try.prog 56 #[.slice A zs.length c,.func (.func g) #[] lb] w fun e w'=>e= .returned (.bool (zs.any p))∧Below w.heap.size w w':=by
 have hcon:=indexSym_any p g lb eg A c zs w hr hbig hp;have e6:∀args w,(callFunc 59 args).run Try.prog w= .ok (.enter 59 args) w:=enters_of Try.func59 (by kernel_rfl) rfl;clear hp hr;go_enter Try.func56,Try.ntmps56
 go_wp2_with (go_at_fn 59;refine hcon.mono ?_;rintro e w' ⟨⟨nn_,rfl,hn_⟩,hb'⟩)
 go_ret
 exact⟨by rw [←hn_.out];rfl,hb'⟩
theorem any_not {α:Type}(p:α→Bool) (l:List α):(!l.any fun x=>!p x)=l.all p:=by
 induction l with
 |nil=>rfl
 |cons a l ih=>simp only [List.any_cons,List.all_cons,←ih];cases p a<;>simp
def firsts_symbols.f (aA:List ByteArray) (aQ:List (S97)) (cJ:Int) (cK:Int) (bS:List (S55)) (l1:List (S57)):Option Bool:=if l1.length≤9223372036854775807 then some (l1.all (okSym aA.length aQ.length)) else none
theorem firsts_symbols.calls (bC:Option Addr) (bE:Nat) (aA:List ByteArray) (bK:Option Addr) (bM:Nat) (aQ:List (S97)) (cJ:Int) (cK:Int) (cX:Option Addr) (cY:Nat) (bS:List (S55)) (A1:Option Addr) (c1:Nat) (l1:List (S57)) (r:Bool) (w:World)
 (dC:Kd.C Kd.string w bC aA.length aA) (dV:aA.length≤bE) (dK:Kd.C k97 w bK aQ.length aQ) (dW:aQ.length≤bM) (eY:Kd.C k55 w cX bS.length bS) (gH:bS.length≤cY) (hr1:Kd.C k57 w A1 l1.length l1) (hc1:l1.length≤c1)
 (h:firsts_symbols.f aA aQ cJ cK bS l1=some r):
 Calls Try.prog 42 #[.agg #[.slice bC aA.length bE,.slice bK aQ.length bM,.int .i64 cJ,.int .i64 cK,.slice cX bS.length cY],.slice A1 l1.length c1] w fun e w'=>e= .returned (.bool r)∧Below w.heap.size w w':=by
 unfold firsts_symbols.f at h
 split at h
 case isFalse=>simp at h
 rename_i hbig
 obtain rfl:=Option.some.inj h;clear h;have eg:∀args w,(callFunc 57 args).run Try.prog w= .ok (.enter 57 args) w:=enters_of Try.func57 (by kernel_rfl) rfl;have e6:∀args w,(callFunc 56 args).run Try.prog w= .ok (.enter 56 args) w:=enters_of Try.func56 (by kernel_rfl) rfl;have HW:Aside0 (Below w.heap.size w (w.alloc (.cells #[.slice bC aA.length bE,.slice bK aQ.length bM,.int .i64 cJ,.int .i64 cK,.slice cX bS.length cY] 26))):=⟨(Below.refl _ w).alloc (Nat.le_refl _) _⟩
 have hcon:=containsSym_any (fun x=>!okSym aA.length aQ.length x) 57 #[.pointer (some ⟨w.heap.size,0,none⟩)] eg A1 c1 l1 (w.alloc (.cells #[.slice bC aA.length bE,.slice bK aQ.length bM,.int .i64 cJ,.int .i64 cK,.slice cX bS.length cY] 26)) (Kd.C_below hr1 HW.out) hbig (fun W x _ hb=>by
  have hlt:w.heap.size<(w.alloc (.cells #[.slice bC aA.length bE,.slice bK aQ.length bM,.int .i64 cJ,.int .i64 cK,.slice cX bS.length cY] 26)).heap.size:=by simp
  refine(symbols1_any x w.heap.size W bC bK aA.length aQ.length bE bM ?_ ?_ (Nat.lt_of_lt_of_le hlt hb.size)).mono ?_
  ·exact(hb.cell (p:=⟨w.heap.size,0,none⟩) hlt).trans (by simp)
  ·exact(hb.cell (p:=⟨w.heap.size,1,none⟩) hlt).trans (by simp)
  ·rintro e w' ⟨he,hb'⟩
   exact⟨he,hb.trans (hb'.mono hb.size)⟩)
 clear dC dK eY hr1;rw [←any_not];generalize (l1.any fun x=>!okSym aA.length aQ.length x)=rr at hcon ⊢;go_enter Try.func42,Try.ntmps42
 go_wp2_with (go_at_fn 56;refine hcon.mono ?_;rintro e w' ⟨rfl,hb'⟩)
 go_ret
 exact⟨rfl,HW.out.trans (hb'.mono (by simp))⟩
theorem indexProd_any (p:S55→Bool) (g:Nat) (lb:Array Value) (eg:∀args w,(callFunc g args).run Try.prog w= .ok (.enter g args) w) (A:Option Addr) (c:Nat) (zs:List S55) (w:World)
 (hr:Kd.C k55 w A zs.length zs) (hbig:zs.length≤9223372036854775807) (hp:∀(W:World) (x:S55) (A1:Option Addr) (c1:Nat),x∈zs→Below w.heap.size w W→x.f1.length≤c1→Kd.C k57 W A1 x.f1.length x.f1→Calls Try.prog g (#[.agg #[.int .i64 x.f0,.slice A1 x.f1.length c1]]++lb) W fun e w'=>e= .returned (.bool (p x))∧Below w.heap.size w w'):
 Calls Try.prog 55 #[.slice A zs.length c,.func (.func g) #[] lb] w fun e w'=>(∃n:Int,e= .returned (.int .i64 n)∧Aside0 (decide (0≤n)=zs.any p))∧Below w.heap.size w w':=by
 go_enter Try.func55,Try.ntmps55
 go_wp2
 go_loopg [5,8] zs.length (fun gg _ s8 wr=>∃kk:Nat,kk≤zs.length∧zs.length - kk≤gg∧s8= .int .i64 kk∧Aside0 (Below w.heap.size w wr)∧Aside0 ((zs.take kk).any p=false))
 case atStart=>exact⟨0,Nat.zero_le _,by omega,rfl,⟨Below.refl _ w⟩,⟨by simp⟩⟩
 case round=>
  obtain⟨kk,hkk,hg,rfl,BW,PA⟩:=hrel
  by_cases hlt:kk<zs.length
  ·have hltz:(kk:Int)<(zs.length:Int):=by omega
   have hrd:rd_T55 zs (kk:Int)=zs[kk]:=by simp [rd_T55,hlt]
   obtain⟨ad,A1,c1,e,l0,l1,hle1,hC1⟩:=at_T55 (Kd.C_below hr BW.out) (kk:Int) (by omega) (by omega);have hcall:=hp wr zs[kk] A1 c1 (List.getElem_mem hlt) BW.out (by rw [←hrd];exact hle1) (by rw [←hrd];exact hC1);rw [hrd,Int.toNat_natCast] at l0 l1;subst e;have PB:Aside0 ((zs.take (kk+1)).any p=p zs[kk]):=⟨by rw [List.take_succ_eq_append_getElem hlt,List.any_append,PA.out];simp⟩
   have PC:Aside0 (zs.any p=(p zs[kk]||(zs.drop (kk+1)).any p)):=⟨by
    conv=>lhs;rw [←List.take_append_drop (kk+1) zs]
    rw [List.any_append,PB.out]⟩
   clear hp hr hrd hle1 hC1;generalize zs[kk]=y at l0 l1 hcall PB PC
   cases hq:p y with
   |true=>
    rw [hq] at hcall;have PD:Aside0 (zs.any p=true):=⟨by rw [PC.out,hq];simp⟩;clear PA PB PC hq
    go_wp2_with (go_at_fn g;refine hcall.mono ?_;rintro e w' ⟨rfl,hb'⟩)
    go_ret
    exact⟨⟨_,rfl,⟨by rw [PD.out];simp⟩⟩,hb'⟩
   |false=>
    rw [hq] at hcall;have PD:Aside0 ((zs.take (kk+1)).any p=false):=⟨by rw [PB.out,hq]⟩;clear PA PB PC hq
    go_wp2_with (go_at_fn g;refine hcall.mono ?_;rintro e w' ⟨rfl,hb'⟩)
    go_roundg (zs.length - (kk+1))
    case measure=>omega
    case rel=>exact⟨kk+1,by omega,by omega,by go_num,⟨hb'⟩,PD⟩
  ·have hltz:¬(kk:Int)<(zs.length:Int):=by omega
   have:kk=zs.length:=by omega
   subst this;have PD:Aside0 (zs.any p=false):=⟨by have:=PA.out;rwa [List.take_length] at this⟩;clear PA hp hr;go_wp2
   go_ret
   exact⟨⟨-1,rfl,⟨by rw [PD.out];simp⟩⟩,BW.out⟩
theorem containsProd_any (p:S55→Bool) (g:Nat) (lb:Array Value) (eg:∀args w,(callFunc g args).run Try.prog w= .ok (.enter g args) w) (A:Option Addr) (c:Nat) (zs:List S55) (w:World)
 (hr:Kd.C k55 w A zs.length zs) (hbig:zs.length≤9223372036854775807) (hp:∀(W:World) (x:S55) (A1:Option Addr) (c1:Nat),x∈zs→Below w.heap.size w W→x.f1.length≤c1→Kd.C k57 W A1 x.f1.length x.f1→Calls Try.prog g (#[.agg #[.int .i64 x.f0,.slice A1 x.f1.length c1]]++lb) W fun e w'=>e= .returned (.bool (p x))∧Below w.heap.size w w'):
 Calls Try.prog 40 #[.slice A zs.length c,.func (.func g) #[] lb] w fun e w'=>e= .returned (.bool (zs.any p))∧Below w.heap.size w w':=by
 have hcon:=indexProd_any p g lb eg A c zs w hr hbig hp;have e6:∀args w,(callFunc 55 args).run Try.prog w= .ok (.enter 55 args) w:=enters_of Try.func55 (by kernel_rfl) rfl;clear hp hr;go_enter Try.func40,Try.ntmps40
 go_wp2_with (go_at_fn 55;refine hcon.mono ?_;rintro e w' ⟨⟨nn_,rfl,hn_⟩,hb'⟩)
 go_ret
 exact⟨by rw [←hn_.out];rfl,hb'⟩
theorem Right1_any (x:S55) (A1:Option Addr) (c1:Nat) (B:Nat) (W:World) (bC:Option Addr) (bE:Nat) (aA:List ByteArray) (bK:Option Addr) (bM:Nat) (aQ:List (S97)) (cJ:Int) (cK:Int) (cX:Option Addr) (cY:Nat) (bS:List (S55))
 (dC:Kd.C Kd.string W bC aA.length aA) (dV:aA.length≤bE) (dK:Kd.C k97 W bK aQ.length aQ) (dW:aQ.length≤bM) (eY:Kd.C k55 W cX bS.length bS) (gH:bS.length≤cY)
 (hb:W.heap[B]?=some (.cells #[.slice bC aA.length bE,.slice bK aQ.length bM,.int .i64 cJ,.int .i64 cK,.slice cX bS.length cY] 26 (0,0)))
 (hle:x.f1.length≤c1) (hbig:x.f1.length≤9223372036854775807) (hC:Kd.C k57 W A1 x.f1.length x.f1):
 Calls Try.prog 41 #[.agg #[.int .i64 x.f0,.slice A1 x.f1.length c1],.pointer (some ⟨B,0,none⟩)] W fun e w'=>e= .returned (.bool (!okProd aA.length aQ.length x))∧Below W.heap.size W w':=by
 have hB:=blk_lt hb;have hne:B≠W.heap.size:=by omega
 have q0:W.cell? ⟨B,0,none⟩=some (.slice bC aA.length bE):=(blk_cell hb 0).trans rfl;have q1:W.cell? ⟨B,1,none⟩=some (.slice bK aQ.length bM):=(blk_cell hb 1).trans rfl;have q2:W.cell? ⟨B,2,none⟩=some (.int .i64 cJ):=(blk_cell hb 2).trans rfl;have q3:W.cell? ⟨B,3,none⟩=some (.int .i64 cK):=(blk_cell hb 3).trans rfl;have q4:W.cell? ⟨B,4,none⟩=some (.slice cX bS.length cY):=(blk_cell hb 4).trans rfl;clear hb;obtain⟨n,l⟩:=x;simp only at hle hbig hC ⊢
 have hcon:=firsts_symbols.calls bC bE aA bK bM aQ cJ cK cX cY bS A1 c1 l (l.all (okSym aA.length aQ.length)) (W.alloc (.cells #[.int .i64 n,.slice A1 l.length c1] 55))
  (Kd.C_below dC ((Below.refl _ W).alloc (Nat.le_refl _) _)) dV (Kd.C_below dK ((Below.refl _ W).alloc (Nat.le_refl _) _)) dW (Kd.C_below eY ((Below.refl _ W).alloc (Nat.le_refl _) _)) gH (Kd.C_below hC ((Below.refl _ W).alloc (Nat.le_refl _) _)) hle (by unfold firsts_symbols.f;rw [if_pos hbig])
 unfold okProd
 generalize l.all (okSym aA.length aQ.length)=rr at hcon ⊢;clear dC dK eY hC
 by_cases d0:n<0
 ·have e0:decide (n<0)=true:=decide_eq_true d0
  have e1:decide (0≤n)=false:=decide_eq_false (by omega);go_enter Try.func41,Try.ntmps41
  go_wp2
  go_ret
  exact⟨by first|rfl|(rw [e1];rfl),(Below.refl _ W).alloc (Nat.le_refl _) _⟩
 ·have e0:decide (n<0)=false:=decide_eq_false d0
  have e1:decide (0≤n)=true:=decide_eq_true (by omega)
  by_cases d2:(aA.length:Int)≤n
  ·have e2:decide ((aA.length:Int)≤n)=true:=decide_eq_true d2
   have e3:decide (n<(aA.length:Int))=false:=decide_eq_false (by omega);go_enter Try.func41,Try.ntmps41
   go_wp2
   go_ret
   exact⟨by first|rfl|(rw [e1,e3];rfl),(Below.refl _ W).alloc (Nat.le_refl _) _⟩
  ·have e2:decide ((aA.length:Int)≤n)=false:=decide_eq_false d2
   have e3:decide (n<(aA.length:Int))=true:=decide_eq_true (by omega);go_enter Try.func41,Try.ntmps41
   go_wp2_with (go_at_call 42;refine hcon.mono ?_;rintro e w' ⟨rfl,hb'⟩)
   go_ret
   exact⟨by first|(rw [e1,e3];simp;done)|simp,((Below.refl _ W).alloc (Nat.le_refl _) _).trans (hb'.mono (by simp))⟩
def firsts_Right.f (aA:List ByteArray) (aQ:List (S97)) (cJ:Int) (cK:Int) (bS:List (S55)):Option Bool:=if bS.length≤9223372036854775807∧bS.all (fun p=>decide (p.f1.length≤9223372036854775807))=true then some (bS.all (okProd aA.length aQ.length)) else none
theorem firsts_Right.calls (bC:Option Addr) (bE:Nat) (aA:List ByteArray) (bK:Option Addr) (bM:Nat) (aQ:List (S97)) (cJ:Int) (cK:Int) (cX:Option Addr) (cY:Nat) (bS:List (S55)) (r:Bool) (w:World)
 (dC:Kd.C Kd.string w bC aA.length aA) (dV:aA.length≤bE) (dK:Kd.C k97 w bK aQ.length aQ) (dW:aQ.length≤bM) (eY:Kd.C k55 w cX bS.length bS) (gH:bS.length≤cY)
 (h:firsts_Right.f aA aQ cJ cK bS=some r):
 Calls Try.prog 26 #[.agg #[.slice bC aA.length bE,.slice bK aQ.length bM,.int .i64 cJ,.int .i64 cK,.slice cX bS.length cY]] w fun e w'=>e= .returned (.bool r)∧Below w.heap.size w w':=by
 unfold firsts_Right.f at h
 split at h
 case isFalse=>simp at h
 rename_i hbig
 obtain⟨hbig,hrow⟩:=hbig;obtain rfl:=Option.some.inj h;clear h;have eg:∀args w,(callFunc 41 args).run Try.prog w= .ok (.enter 41 args) w:=enters_of Try.func41 (by kernel_rfl) rfl;have e6:∀args w,(callFunc 40 args).run Try.prog w= .ok (.enter 40 args) w:=enters_of Try.func40 (by kernel_rfl) rfl;have HW:Aside0 (Below w.heap.size w (w.alloc (.cells #[.slice bC aA.length bE,.slice bK aQ.length bM,.int .i64 cJ,.int .i64 cK,.slice cX bS.length cY] 26))):=⟨(Below.refl _ w).alloc (Nat.le_refl _) _⟩
 have hcon:=containsProd_any (fun x=>!okProd aA.length aQ.length x) 41 #[.pointer (some ⟨w.heap.size,0,none⟩)] eg cX cY bS (w.alloc (.cells #[.slice bC aA.length bE,.slice bK aQ.length bM,.int .i64 cJ,.int .i64 cK,.slice cX bS.length cY] 26)) (Kd.C_below eY HW.out) hbig (fun W x A1 c1 hx hb hle hC=>by
  have hlt:w.heap.size<(w.alloc (.cells #[.slice bC aA.length bE,.slice bK aQ.length bM,.int .i64 cJ,.int .i64 cK,.slice cX bS.length cY] 26)).heap.size:=by simp
  have hall:=HW.out.trans (hb.mono (by simp));refine(Right1_any x A1 c1 w.heap.size W bC bE aA bK bM aQ cJ cK cX cY bS (Kd.C_below dC hall) dV (Kd.C_below dK hall) dW (Kd.C_below eY hall) gH ((hb.block _ hlt).trans (by simpa using heap_alloc_new w _)) hle (of_decide_eq_true (List.all_eq_true.1 hrow x hx)) hC).mono ?_
  rintro e w' ⟨he,hb'⟩
  exact⟨he,hb.trans (hb'.mono hb.size)⟩)
 clear dC dK eY;rw [←any_not];generalize (bS.any fun x=>!okProd aA.length aQ.length x)=rr at hcon ⊢;go_enter Try.func26,Try.ntmps26
 go_wp2_with (go_at_fn 40;refine hcon.mono ?_;rintro e w' ⟨rfl,hb'⟩)
 go_ret
 exact⟨rfl,HW.out.trans (hb'.mono (by simp))⟩
end Go.Proofs.Ytjaindljlgnkcaa.P
end

section
namespace Go.Proofs.Ytjaindljlgnkcaa.P
open Go.Proofs.Ytjaindljlgnkcaa.H Go.RowKit Go.Proofs.YtjaindljlgnkcaaW.PrintWords Go.Proofs.YtjaindljlgnkcaaW.PrintLast Go.Proofs.YtjaindljlgnkcaaW.PrintMore
set_option linter.unusedVariables false
set_option linter.unusedSimpArgs false
structure GC where
 A0:Option Addr
 n0:Nat
 c0:Nat
 A1:Option Addr
 n1:Nat
 c1:Nat
 a2:Int
 a3:Int
 A4:Option Addr
 n4:Nat
 c4:Nat
 Al:Option Addr
 nl:Nat
 cl:Nat
abbrev T:Bool:=true
abbrev F:Bool:=false
theorem pq:(∀(a:Act) (d:Option Tmp) (v:Value),a.put d v=match d with|none=>a|some i=>{a with tmps:=a.tmps.setIfInBounds i v})∧(∀(l:List Value) (i:Nat) (a:Value),l.toArray.setIfInBounds i a=(l.set i a).toArray)∧(∀(x:Value) (l:List Value) (a:Value),(x::l).set 0 a=a::l)∧(∀(x:Value) (l:List Value) (n:Nat) (a:Value),(x::l).set (n+1) a=x::l.set n a)∧(∀n,IntKind.i64.wrap n=wrap64 n)∧∀n,IntKind.i32.wrap n=wrap32 n:=⟨fun _ d _=>by cases d<;>rfl,fun _ _ _=>List.setIfInBounds_toArray ..,fun _ _ _=>rfl,fun _ _ _ _=>rfl,i64_w,i32_w⟩
abbrev aM:=@Aside0.mk
abbrev aC:=@Kd.R_drew
abbrev aD:=@Kd.R_below
abbrev aE:=@Kd.R_far
abbrev aF:=@Kd.R_reads'
abbrev aG:=@blk_cell
abbrev aH:=@blk_frozen
abbrev aI:=@blk_alloc
abbrev aJ:=@blk_drewN
abbrev aK:=@blk_drew
abbrev aL:=@below_set
abbrev aN:=@below_alloc
abbrev aO:=@below_drew1
abbrev aP:=@pw_below_drewN
abbrev aT:=@Kd.N_reads'
abbrev bB:=@Kd.C_drewN
abbrev bD:=@Kd.C_below
abbrev bF:=@blk_below
abbrev bG:=@below_step
abbrev bH:=@below_size
abbrev bI:=@gate_callee
abbrev bJ:=@gate_dst
abbrev bL:=@Kd.R_lower
abbrev bN:=@blk_lt
def growObj (C:GC) (As:Option Addr) (n cs:Nat) (at_:Nat) (sv nv:Value):Obj:=
 .cells #[.slice C.A0 C.n0 C.c0,.slice C.A1 C.n1 C.c1,.int .i64 C.a2,.int .i64 C.a3,.slice C.A4 C.n4 C.c4,.slice As n cs,.slice C.Al C.nl C.cl,.int .i64 (at_:Int),sv,nv] 79 (0,0)
structure GIn (C:GC) (w0:World) (ns:List ByteArray) (ps:List S55) (ls:List S59):Prop where
 e0:C.n0=ns.length
 e4:C.n4=ps.length
 el:C.nl=ls.length
 r0:Kd.C Kd.string w0 C.A0 ns.length ns
 r4:Kd.C k55 w0 C.A4 ps.length ps
 rl:Kd.C k59 w0 C.Al ls.length ls
def GI (C:GC) (w0:World) (G:Nat) (s:GSt) (w:World):Prop:=
 ∃(frs:List FrM) (nds:List NdM) (As:Option Addr) (cs:Nat) (sv nv:Value),w.heap[G]?=some (growObj C As s.steps.length cs s.at_ sv nv)∧frs.map FrM.fr=s.frs∧nds.map NdM.nd=s.nds∧Kd.C (Kd.int .i64) w0 As s.steps.length s.steps∧s.steps.length≤cs∧
  GRows w0 w0.heap.size frs nds [] sv nv w∧Below w0.heap.size w0 w
structure GInv (ls:List S59) (N:Nat) (s:GSt):Prop where
 h1:s.at_≤ls.length
 h2:(s.frs.map (fun f=>f.kids.length)).sum≤s.at_+s.nds.length
 h3:s.frs.length+s.nds.length+s.steps.length≤N
def symOk (n:Nat) (x:S57):Prop:=x.f0=false→0≤x.f1∧x.f1<(n:Int)
def GNm (n:Nat) (s:GSt):Prop:=∀f∈s.frs,(0≤f.rule∧f.rule<(n:Int))∧∀x∈f.left,symOk n x
theorem gOpen_inv {ls:List S59}{ps:List S55}{N:Nat}{s:GSt}(h:GInv ls N s) (rule:Int):GInv ls N (gOpen ps rule s).1:=by
 unfold gOpen
 cases hs:s.steps with
 |nil=>exact h
 |cons x xs=>
  simp only
  split
  ·have h3:=h.h3
   rw [hs,List.length_cons] at h3;exact⟨h.h1,by simpa using h.h2,by simp only [List.length_cons];omega⟩
  ·exact h
theorem gOpen_nm {ps:List S55}{n:Nat}(hp:∀p∈ps,∀x∈p.f1,symOk n x) {s:GSt}(h:GNm n s) {rule:Int}(hr:0≤rule∧rule<(n:Int)):GNm n (gOpen ps rule s).1:=by
 unfold gOpen
 cases hs:s.steps with
 |nil=>exact h
 |cons x xs=>
  simp only
  split
  ·rename_i hx
   intro f hf;rcases List.mem_cons.1 hf with rfl|hf
   ·refine⟨hr,fun y hy=>?_⟩
    have hm:rd_T55 ps x∈ps:=by
     show ps.getD x.toNat _∈ps
     rw [List.getD_eq_getElem?_getD,List.getElem?_eq_getElem (show x.toNat<ps.length by omega)];exact List.getElem_mem _
    exact hp _ hm y hy
   ·exact h f hf
  ·exact h
theorem gClose_inv {ns:List ByteArray}{ls:List S59}{N:Nat}{s:GSt}(h:GInv ls N s):GInv ls N (gClose ns s):=by
 obtain⟨st,at_,frs,nds⟩:=s;have h2:=h.h2;have h3:=h.h3
 match frs with
 | []=>exact h
 | [f]=>
  simp only [gClose,List.length_cons,List.length_nil,List.map_cons,List.map_nil,List.sum_cons,List.sum_nil] at h2 h3 ⊢;exact⟨h.h1,by simp,by simp;omega⟩
 |f::u::fs=>
  simp only [gClose,List.length_cons,List.map_cons,List.sum_cons] at h2 h3 ⊢
  split
  ·exact⟨h.h1,by simp;omega,by simp;omega⟩
  ·exact⟨h.h1,by simp;omega,by simp;omega⟩
theorem gClose_nm {ns:List ByteArray}{n:Nat}{s:GSt}(h:GNm n s):GNm n (gClose ns s):=by
 obtain⟨st,at_,frs,nds⟩:=s
 match frs with
 | []=>exact h
 | [f]=>exact fun g hg=>by simp [gClose] at hg
 |f::u::fs=>
  have hu:=h u (by simp);have hf:∀g∈fs,(0≤g.rule∧g.rule<(n:Int))∧∀x∈g.left,symOk n x:=fun g hg=>h g (by simp [hg])
  simp only [gClose]
  split
  ·intro g hg
   rcases List.mem_cons.1 hg with rfl|hg
   ·exact hu
   ·exact hf g hg
  ·intro g hg
   rcases List.mem_cons.1 hg with rfl|hg
   ·exact hu
   ·exact hf g hg
theorem gStep_inv {ns:List ByteArray}{ps:List S55}{ls:List S59}{N:Nat}{s:GSt}(h:GInv ls N s):GInv ls N (gStep ns ps ls s).1:=by
 obtain⟨st,at_,frs,nds⟩:=s
 match frs with
 | []=>exact h
 |⟨rule,[],kids⟩::fs=>exact gClose_inv h
 |⟨rule,x::l,kids⟩::fs=>
  have h2:=h.h2;have h3:=h.h3;simp only [List.length_cons,List.map_cons,List.sum_cons] at h2 h3;simp only [gStep]
  split
  ·split
   ·rename_i hm
    exact⟨hm.1,by simp;omega,by simpa using h3⟩
   ·exact⟨h.h1,by simpa using h2,by simpa using h3⟩
  ·exact gOpen_inv (s:=⟨st,at_,⟨rule,l,kids⟩::fs,nds⟩) ⟨h.h1,by simpa using h2,by simpa using h3⟩ _
theorem gStep_nm {ns:List ByteArray}{ps:List S55}{ls:List S59}{n:Nat}(hp:∀p∈ps,∀x∈p.f1,symOk n x) {s:GSt}(h:GNm n s):GNm n (gStep ns ps ls s).1:=by
 obtain⟨st,at_,frs,nds⟩:=s
 match frs with
 | []=>exact h
 |⟨rule,[],kids⟩::fs=>exact gClose_nm h
 |⟨rule,x::l,kids⟩::fs=>
  have ht:=h ⟨rule,x::l,kids⟩ (by simp);have hf:∀g∈fs,(0≤g.rule∧g.rule<(n:Int))∧∀x∈g.left,symOk n x:=fun g hg=>h g (by simp [hg])
  have hall:∀(k:List Int) (a:Nat),GNm n ⟨st,a,⟨rule,l,k⟩::fs,nds⟩:=fun k a g hg=>by
   rcases List.mem_cons.1 hg with rfl|hg
   ·exact⟨ht.1,fun y hy=>ht.2 y (List.mem_cons_of_mem _ hy)⟩
   ·exact hf g hg
  simp only [gStep]
  split
  ·split
   ·exact hall _ _
   ·exact hall _ _
  ·rename_i hx
   have:=ht.2 x (List.mem_cons_self ..) (by simpa using hx);exact gOpen_nm hp (hall _ _) this
theorem cut_tail {α:Type}{P:Program}(d:Kd α) (t e:TypeId) {i:TypeInfo}(ht:P.underlying t=some (.slice e)) (hi:P.info? e=some i) (hsz:i.size=d.sz) (A:Option Addr) (c:Nat) (x:α) (xs:List α) (hc:xs.length+1≤c):
 ∃A':Option Addr,(∀W:World,(Instr.slice t (.slice A (xs.length+1) c) (some (.int .i64 1)) none none).run P W= .ok (.slice A' xs.length (c - 1)) W)∧∀W:World,Kd.C d W A (x::xs).length (x::xs)→Kd.C d W A' xs.length xs:=by
 refine⟨if c=1 then A else A.map (·.add (1 * d.sz)),fun W=>?_,fun W h=>?_⟩
 ·have h:=cut_from (P:=P) t e .i64 ht hi d.sz hsz A (xs.length+1) c 1 (by omega) (by omega) W
  rw [show(1:Int).toNat=1 from rfl,Nat.add_sub_cancel] at h;exact h
 ·have h2:=Kd.C_drop (m:=1) h (by simp) (by simpa using hc)
  rw [List.drop_one,List.tail_cons] at h2;exact h2
theorem infoIntC:(Try.prog.info? 3).map (fun i=>(i.zero,i.size,i.bytes))=some (some (.int .i64 0),1,8):=by kernel_rfl
theorem cut_clip {P:Program}(t e:TypeId) {i:TypeInfo}(ht:P.underlying t=some (.slice e)) (hi:P.info? e=some i) (A:Option Addr) (n c:Nat) (hc:n≤c):
 ∀W:World,(Instr.slice t (.slice A n c) none (some (.int .i64 (n:Int))) (some (.int .i64 (n:Int)))).run P W= .ok (.slice A n n) W:=by
 intro W;have hel:P.elem t=e:=by simp [Program.elem,ht]
 have hu:P.underlying t=some (.slice (P.elem t)):=by rw [hel];exact ht
 have ha:(A.map fun x=>x.add 0)=A:=by cases A<;>simp [Addr.add]
 rw [run_slice_hm W t A n c hu .i64 .i64 (n:Int) (n:Int) (by omega) (by omega) (by omega),hel];simp [sizeOf,typeInfo,hi,sliced,Result.andThen,ha]
set_option maxHeartbeats 8000000 in
set_option maxRecDepth 100000 in
theorem clip_walk {A:Option Addr}{n c:Nat}{W:World}(hc:n≤c):Calls Try.prog 29 #[.slice A n c] W fun e w'=>e= .returned (.slice A n n)∧w'=W:=by
 obtain⟨i0,hi0,hz0⟩:=Option.map_eq_some_iff.1 infoIntC;have hcut:=cut_clip (P:=Try.prog) 27 3 Try.underlying27 hi0 A n c hc;clear hi0 hz0;go_enter Try.func29,Try.ntmps29
 go_wp2
 go_ret
 exact⟨rfl,rfl⟩
theorem infoFrame:(Try.prog.info? 112).map (fun i=>(i.zero,i.size,i.bytes))=some (some (.agg #[.int .i64 0,.slice none 0 0,.slice none 0 0]),3,56):=by kernel_rfl
theorem infoNode17:(Try.prog.info? 34).map (fun i=>(i.zero,i.size,i.bytes))=some (some (.agg #[.int .i64 0,.slice none 0 0]),2,32):=by kernel_rfl
theorem infoInt17:(Try.prog.info? 3).map (fun i=>(i.zero,i.size,i.bytes))=some (some (.int .i64 0),1,8):=by kernel_rfl
theorem add_zero17 (a:Addr):a.add 0=a:=by unfold Addr.add;simp
theorem GI.below {C:GC}{w0 W W':World}{G:Nat}{s:GSt}(h:GI C w0 G s W) (hb:Below W.heap.size W W'):GI C w0 G s W':=by
 obtain⟨frs,nds,As,cs,sv,nv,h1,h2,h3,h4,h5,h6,h7⟩:=h;exact⟨frs,nds,As,cs,sv,nv,bF h1 hb,h2,h3,h4,h5,h6.below hb,h7.trans (hb.mono h7.size)⟩
set_option maxHeartbeats 8000000 in
set_option maxRecDepth 100000 in
theorem open_walk {C:GC}{w0 W:World}{G:Nat}{ns:List ByteArray}{ps:List S55}{ls:List S59}(rule:Int) (s:GSt) (hG:w0.heap.size≤G) (hin:GIn C w0 ns ps ls) (hg:GI C w0 G s W) (hN:s.frs.length≤1000000000000):
 Calls Try.prog 27 #[.pointer (some ⟨G,0,none⟩),.int .i64 rule] W fun e w'=>e= .returned (.bool (gOpen ps rule s).2)∧GI C w0 G (gOpen ps rule s).1 w':=by
 obtain⟨steps,at_,fs,ms⟩:=s;have HGI:=aM hg;have HN:=aM hN;have HGG:=aM hG;have HIN:=aM hin;obtain⟨frs,nds,As,cs,sv,nv,hb,ef,en,hst,hsc,hr,hB⟩:=hg;have HB:=aM hB;have HBK:=aM hb;have HST:=aM hst;have HSC:=aM hsc;have HR:=aM hr;have HEF:=aM ef;have HEN:=aM en;simp only at HBK HST HSC HEF HEN HN;have H4:Aside0 (W.cell? ⟨G,4,none⟩=some (.slice C.A4 ps.length C.c4)):=⟨by rw [←hin.e4];exact(aG hb 4).trans rfl⟩;have H5:Aside0 (W.cell? ⟨G,5,none⟩=some (.slice As steps.length cs)):=⟨(aG hb 5).trans rfl⟩;have HZ:Aside0 (GI C w0 G ⟨steps,at_,fs,ms⟩ W.drew):=⟨HGI.out.below (aO (Below.refl _ W))⟩;clear hN hG hin hb ef en hst hsc hr hB
 cases steps with
 |nil=>
  go_enter Try.func27,Try.ntmps27
  go_upto_region 1 with fail
  refine start_ (n:=30) (S:=fun w'=>w'.cell? ⟨G,5,none⟩=some (.slice As 0 cs)) (ds:= []) #[F,F,F,F,F,F,F,F,F,F,F,F,F,F,F,F,F,F,F,F,F,F,F,F,F,F,F,F,F,F] (by kernel_rfl) rfl rfl (H5.out) (fun hHeld=>?_)
  refine pure_ (i:=0) (N:=some 6) (v:=?_) (a':=?_) #[T,F,F,F,F,F,F,F,F,F,F,F,F,F,F,F,F,F,F,F,F,F,F,F,F,F,F,F,F,F] rfl rfl (by kernel_rfl) (fun _ _ _ h=>h) (Or.inl ⟨by rfl,?_⟩) ?_ ?_
  rotate_left;(intro w';go_simp;with_reducible rfl);rotate_left;(simp only [pq];rfl)
  refine pure_ (i:=1) (N:=some 7) (v:=?_) (a':=?_) #[T,T,F,F,F,F,F,F,F,F,F,F,F,F,F,F,F,F,F,F,F,F,F,F,F,F,F,F,F,F] rfl rfl (by kernel_rfl) (fun _ _ _ h=>h) (Or.inl ⟨by rfl,?_⟩) ?_ ?_
  rotate_left;(intro w';go_simp;with_reducible rfl);rotate_left;(simp only [pq];rfl)
  refine pure_ (i:=2) (N:=some 8) (v:=?_) (a':=?_) #[T,T,T,F,F,F,F,F,F,F,F,F,F,F,F,F,F,F,F,F,F,F,F,F,F,F,F,F,F,F] rfl rfl (by kernel_rfl) (fun _ _ _ h=>h) (Or.inl ⟨by rfl,?_⟩) ?_ ?_
  rotate_left;(intro w';go_simp;with_reducible rfl);rotate_left;(simp only [pq];rfl)
  refine take_ (i:=3) (N:=some 9) (v:=?_) (a':=?_) #[T,T,T,T,F,F,F,F,F,F,F,F,F,F,F,F,F,F,F,F,F,F,F,F,F,F,F,F,F,F] rfl rfl (by kernel_rfl) (fun _ _ _ h=>h) (Or.inl ⟨by rfl,?_⟩) hHeld ?_ ?_
  rotate_left
  ·intro w' s0
   go_simp
   with_reducible rfl
  rotate_left
  ·simp only [pq]
   rfl
  refine pure_ (i:=4) (N:=some 10) (v:=?_) (a':=?_) #[T,T,T,T,T,F,F,F,F,F,F,F,F,F,F,F,F,F,F,F,F,F,F,F,F,F,F,F,F,F] rfl rfl (by kernel_rfl) (fun _ _ _ h=>h) (Or.inl ⟨by rfl,?_⟩) ?_ ?_
  rotate_left;(intro w';go_simp;with_reducible rfl);rotate_left;(simp only [pq];rfl)
  refine pure_ (i:=5) (N:=some 11) (v:=?_) (a':=?_) #[T,T,T,T,T,T,F,F,F,F,F,F,F,F,F,F,F,F,F,F,F,F,F,F,F,F,F,F,F,F] rfl rfl (by kernel_rfl) (fun _ _ _ h=>h) (Or.inl ⟨by rfl,?_⟩) ?_ ?_
  rotate_left;(intro w';go_simp;with_reducible rfl);rotate_left;(simp only [pq];rfl)
  refine pure_ (i:=6) (N:=some 12) (v:=?_) (a':=?_) #[T,T,T,T,T,T,T,F,F,F,F,F,F,F,F,F,F,F,F,F,F,F,F,F,F,F,F,F,F,F] rfl rfl (by kernel_rfl) (fun _ _ _ h=>h) (Or.inl ⟨by rfl,?_⟩) ?_ ?_
  rotate_left;(intro w';go_simp;with_reducible rfl);rotate_left;(simp only [pq];rfl)
  refine pure_ (i:=7) (N:=some 13) (v:=undef) (a':=?_) #[T,T,T,T,T,T,T,T,F,F,F,F,F,F,F,F,F,F,F,F,F,F,F,F,F,F,F,F,F,F] rfl rfl (by kernel_rfl) (fun _ _ _ h=>h) (Or.inr ⟨by rfl,rfl⟩) ?_ ?_
  rotate_left
  ·simp only [pq]
   rfl
  refine pure_ (i:=8) (N:=some 14) (v:=undef) (a':=?_) #[T,T,T,T,T,T,T,T,T,F,F,F,F,F,F,F,F,F,F,F,F,F,F,F,F,F,F,F,F,F] rfl rfl (by kernel_rfl) (fun _ _ _ h=>h) (Or.inr ⟨by rfl,rfl⟩) ?_ ?_
  rotate_left
  ·simp only [pq]
   rfl
  refine pure_ (i:=9) (N:=some 15) (v:=undef) (a':=?_) #[T,T,T,T,T,T,T,T,T,T,F,F,F,F,F,F,F,F,F,F,F,F,F,F,F,F,F,F,F,F] rfl rfl (by kernel_rfl) (fun _ _ _ h=>h) (Or.inr ⟨by rfl,rfl⟩) ?_ ?_
  rotate_left
  ·simp only [pq]
   rfl
  refine pure_ (i:=10) (N:=some 16) (v:=undef) (a':=?_) #[T,T,T,T,T,T,T,T,T,T,T,F,F,F,F,F,F,F,F,F,F,F,F,F,F,F,F,F,F,F] rfl rfl (by kernel_rfl) (fun _ _ _ h=>h) (Or.inr ⟨by rfl,rfl⟩) ?_ ?_
  rotate_left
  ·simp only [pq]
   rfl
  refine pure_ (i:=11) (N:=some 17) (v:=undef) (a':=?_) #[T,T,T,T,T,T,T,T,T,T,T,T,F,F,F,F,F,F,F,F,F,F,F,F,F,F,F,F,F,F] rfl rfl (by kernel_rfl) (fun _ _ _ h=>h) (Or.inr ⟨by rfl,rfl⟩) ?_ ?_
  rotate_left
  ·simp only [pq]
   rfl
  refine pure_ (i:=12) (N:=some 18) (v:=undef) (a':=?_) #[T,T,T,T,T,T,T,T,T,T,T,T,T,F,F,F,F,F,F,F,F,F,F,F,F,F,F,F,F,F] rfl rfl (by kernel_rfl) (fun _ _ _ h=>h) (Or.inr ⟨by rfl,rfl⟩) ?_ ?_
  rotate_left
  ·simp only [pq]
   rfl
  refine pure_ (i:=13) (N:=some 19) (v:=undef) (a':=?_) #[T,T,T,T,T,T,T,T,T,T,T,T,T,T,F,F,F,F,F,F,F,F,F,F,F,F,F,F,F,F] rfl rfl (by kernel_rfl) (fun _ _ _ h=>h) (Or.inr ⟨by rfl,rfl⟩) ?_ ?_
  rotate_left
  ·simp only [pq]
   rfl
  refine pure_ (i:=14) (N:=some 20) (v:=?_) (a':=?_) #[T,T,T,T,T,T,T,T,T,T,T,T,T,T,T,F,F,F,F,F,F,F,F,F,F,F,F,F,F,F] rfl rfl (by kernel_rfl) (fun _ _ _ h=>h) (Or.inl ⟨by rfl,?_⟩) ?_ ?_
  rotate_left;(intro w';go_simp;with_reducible rfl);rotate_left;(simp only [pq];rfl)
  refine pure_ (i:=15) (N:=some 21) (v:=?_) (a':=?_) #[T,T,T,T,T,T,T,T,T,T,T,T,T,T,T,T,F,F,F,F,F,F,F,F,F,F,F,F,F,F] rfl rfl (by kernel_rfl) (fun _ _ _ h=>h) (Or.inl ⟨by rfl,?_⟩) ?_ ?_
  rotate_left;(intro w';go_simp;with_reducible rfl);rotate_left;(simp only [pq];rfl)
  refine pure_ (i:=16) (N:=some 22) (v:=undef) (a':=?_) #[T,T,T,T,T,T,T,T,T,T,T,T,T,T,T,T,T,F,F,F,F,F,F,F,F,F,F,F,F,F] rfl rfl (by kernel_rfl) (fun _ _ _ h=>h) (Or.inr ⟨by rfl,rfl⟩) ?_ ?_
  rotate_left
  ·simp only [pq]
   rfl
  refine pure_ (i:=17) (N:=some 23) (v:=undef) (a':=?_) #[T,T,T,T,T,T,T,T,T,T,T,T,T,T,T,T,T,T,F,F,F,F,F,F,F,F,F,F,F,F] rfl rfl (by kernel_rfl) (fun _ _ _ h=>h) (Or.inr ⟨by rfl,rfl⟩) ?_ ?_
  rotate_left
  ·simp only [pq]
   rfl
  refine pure_ (i:=18) (N:=some 24) (v:=undef) (a':=?_) #[T,T,T,T,T,T,T,T,T,T,T,T,T,T,T,T,T,T,T,F,F,F,F,F,F,F,F,F,F,F] rfl rfl (by kernel_rfl) (fun _ _ _ h=>h) (Or.inr ⟨by rfl,rfl⟩) ?_ ?_
  rotate_left
  ·simp only [pq]
   rfl
  refine pure_ (i:=19) (N:=some 25) (v:=undef) (a':=?_) #[T,T,T,T,T,T,T,T,T,T,T,T,T,T,T,T,T,T,T,T,F,F,F,F,F,F,F,F,F,F] rfl rfl (by kernel_rfl) (fun _ _ _ h=>h) (Or.inr ⟨by rfl,rfl⟩) ?_ ?_
  rotate_left
  ·simp only [pq]
   rfl
  refine pure_ (i:=20) (N:=some 26) (v:=undef) (a':=?_) #[T,T,T,T,T,T,T,T,T,T,T,T,T,T,T,T,T,T,T,T,T,F,F,F,F,F,F,F,F,F] rfl rfl (by kernel_rfl) (fun _ _ _ h=>h) (Or.inr ⟨by rfl,rfl⟩) ?_ ?_
  rotate_left
  ·simp only [pq]
   rfl
  refine pure_ (i:=21) (N:=some 27) (v:=undef) (a':=?_) #[T,T,T,T,T,T,T,T,T,T,T,T,T,T,T,T,T,T,T,T,T,T,F,F,F,F,F,F,F,F] rfl rfl (by kernel_rfl) (fun _ _ _ h=>h) (Or.inr ⟨by rfl,rfl⟩) ?_ ?_
  rotate_left
  ·simp only [pq]
   rfl
  refine pure_ (i:=22) (N:=some 28) (v:=undef) (a':=?_) #[T,T,T,T,T,T,T,T,T,T,T,T,T,T,T,T,T,T,T,T,T,T,T,F,F,F,F,F,F,F] rfl rfl (by kernel_rfl) (fun _ _ _ h=>h) (Or.inr ⟨by rfl,rfl⟩) ?_ ?_
  rotate_left
  ·simp only [pq]
   rfl
  refine pure_ (i:=23) (N:=some 29) (v:=undef) (a':=?_) #[T,T,T,T,T,T,T,T,T,T,T,T,T,T,T,T,T,T,T,T,T,T,T,T,F,F,F,F,F,F] rfl rfl (by kernel_rfl) (fun _ _ _ h=>h) (Or.inr ⟨by rfl,rfl⟩) ?_ ?_
  rotate_left
  ·simp only [pq]
   rfl
  refine pure_ (i:=24) (N:=some 30) (v:=undef) (a':=?_) #[T,T,T,T,T,T,T,T,T,T,T,T,T,T,T,T,T,T,T,T,T,T,T,T,T,F,F,F,F,F] rfl rfl (by kernel_rfl) (fun _ _ _ h=>h) (Or.inr ⟨by rfl,rfl⟩) ?_ ?_
  rotate_left
  ·simp only [pq]
   rfl
  refine pure_ (i:=25) (N:=some 31) (v:=undef) (a':=?_) #[T,T,T,T,T,T,T,T,T,T,T,T,T,T,T,T,T,T,T,T,T,T,T,T,T,T,F,F,F,F] rfl rfl (by kernel_rfl) (fun _ _ _ h=>h) (Or.inr ⟨by rfl,rfl⟩) ?_ ?_
  rotate_left
  ·simp only [pq]
   rfl
  refine pure_ (i:=26) (N:=some 32) (v:=undef) (a':=?_) #[T,T,T,T,T,T,T,T,T,T,T,T,T,T,T,T,T,T,T,T,T,T,T,T,T,T,T,F,F,F] rfl rfl (by kernel_rfl) (fun _ _ _ h=>h) (Or.inr ⟨by rfl,rfl⟩) ?_ ?_
  rotate_left
  ·simp only [pq]
   rfl
  refine pure_ (i:=27) (N:=some 33) (v:=undef) (a':=?_) #[T,T,T,T,T,T,T,T,T,T,T,T,T,T,T,T,T,T,T,T,T,T,T,T,T,T,T,T,F,F] rfl rfl (by kernel_rfl) (fun _ _ _ h=>h) (Or.inr ⟨by rfl,rfl⟩) ?_ ?_
  rotate_left
  ·simp only [pq]
   rfl
  refine pure_ (i:=28) (N:=some 34) (v:=undef) (a':=?_) #[T,T,T,T,T,T,T,T,T,T,T,T,T,T,T,T,T,T,T,T,T,T,T,T,T,T,T,T,T,F] rfl rfl (by kernel_rfl) (fun _ _ _ h=>h) (Or.inr ⟨by rfl,rfl⟩) ?_ ?_
  rotate_left
  ·simp only [pq]
   rfl
  refine pure_ (i:=29) (N:=some 35) (v:=?_) (a':=?_) #[T,T,T,T,T,T,T,T,T,T,T,T,T,T,T,T,T,T,T,T,T,T,T,T,T,T,T,T,T,T] rfl rfl (by kernel_rfl) (fun _ _ _ h=>h) (Or.inl ⟨by rfl,?_⟩) ?_ ?_
  rotate_left;(intro w';go_simp;with_reducible rfl);rotate_left;(simp only [pq];rfl)
  refine done_ (by kernel_rfl) ?_
  go_wp2
  go_ret
  exact⟨rfl,HZ.out⟩
 |cons x xs=>
  obtain⟨ad,eAs,hx⟩:=Kd.at_int (bD HST.out HB.out) 0 (by omega) (by simp);subst eAs;have hx0:rd (x::xs) 0=x:=rfl;rw [hx0] at hx;have HX:Aside0 (W.cell? ad=some (.int .i64 x)):=⟨by rw [show(0:Int).toNat=0 from rfl,add_zero17] at hx;exact hx⟩;clear hx hx0;have hz:((0:Int)<((x::xs).length:Int))=True:=eq_true (by simp only [List.length_cons];omega);have hz2:(((x::xs).length:Int)==0)=false:=by simp only [List.length_cons,beq_eq_false_iff_ne,ne_eq];omega
  by_cases h0:x<0
  ·have d0:decide (x<0)=true:=decide_eq_true h0
   have hgo:gOpen ps rule ⟨x::xs,at_,fs,ms⟩=(⟨x::xs,at_,fs,ms⟩,false):=by simp only [gOpen];rw [if_neg (fun e=>by omega)]
   have HGO:=aM hgo;clear hgo h0;go_enter Try.func27,Try.ntmps27
   go_upto_region 1 with fail
   refine start_ (n:=30) (S:=fun w'=>w'.cell? ⟨G,5,none⟩=some (.slice (some ad) (x::xs).length cs)∧w'.cell? ad=some (.int .i64 x)) (ds:= []) #[F,F,F,F,F,F,F,F,F,F,F,F,F,F,F,F,F,F,F,F,F,F,F,F,F,F,F,F,F,F] (by kernel_rfl) rfl rfl ⟨H5.out,HX.out⟩ (fun hHeld=>?_)
   refine pure_ (i:=0) (N:=some 6) (v:=?_) (a':=?_) #[T,F,F,F,F,F,F,F,F,F,F,F,F,F,F,F,F,F,F,F,F,F,F,F,F,F,F,F,F,F] rfl rfl (by kernel_rfl) (fun _ _ _ h=>h) (Or.inl ⟨by rfl,?_⟩) ?_ ?_
   rotate_left;(intro w';go_simp;with_reducible rfl);rotate_left;(simp only [pq];rfl)
   refine pure_ (i:=1) (N:=some 7) (v:=?_) (a':=?_) #[T,T,F,F,F,F,F,F,F,F,F,F,F,F,F,F,F,F,F,F,F,F,F,F,F,F,F,F,F,F] rfl rfl (by kernel_rfl) (fun _ _ _ h=>h) (Or.inl ⟨by rfl,?_⟩) ?_ ?_
   rotate_left;(intro w';go_simp;with_reducible rfl);rotate_left;(simp only [pq];rfl)
   refine pure_ (i:=2) (N:=some 8) (v:=?_) (a':=?_) #[T,T,T,F,F,F,F,F,F,F,F,F,F,F,F,F,F,F,F,F,F,F,F,F,F,F,F,F,F,F] rfl rfl (by kernel_rfl) (fun _ _ _ h=>h) (Or.inl ⟨by rfl,?_⟩) ?_ ?_
   rotate_left;(intro w';go_simp;with_reducible rfl);rotate_left;(simp only [pq];rfl)
   refine take_ (i:=3) (N:=some 9) (v:=?_) (a':=?_) #[T,T,T,T,F,F,F,F,F,F,F,F,F,F,F,F,F,F,F,F,F,F,F,F,F,F,F,F,F,F] rfl rfl (by kernel_rfl) (fun _ _ _ h=>h) (Or.inl ⟨by rfl,?_⟩) hHeld ?_ ?_
   rotate_left
   ·rintro w' ⟨s0,s1⟩
    go_simp
    with_reducible rfl
   rotate_left
   ·simp only [pq]
    rfl
   refine pure_ (i:=4) (N:=some 10) (v:=?_) (a':=?_) #[T,T,T,T,T,F,F,F,F,F,F,F,F,F,F,F,F,F,F,F,F,F,F,F,F,F,F,F,F,F] rfl rfl (by kernel_rfl) (fun _ _ _ h=>h) (Or.inl ⟨by rfl,?_⟩) ?_ ?_
   rotate_left;(intro w';go_simp;with_reducible rfl);rotate_left;(simp only [pq];rfl)
   refine pure_ (i:=5) (N:=some 11) (v:=?_) (a':=?_) #[T,T,T,T,T,T,F,F,F,F,F,F,F,F,F,F,F,F,F,F,F,F,F,F,F,F,F,F,F,F] rfl rfl (by kernel_rfl) (fun _ _ _ h=>h) (Or.inl ⟨by rfl,?_⟩) ?_ ?_
   rotate_left;(intro w';go_simp;with_reducible rfl);rotate_left;(simp only [pq];rfl)
   refine pure_ (i:=6) (N:=some 12) (v:=?_) (a':=?_) #[T,T,T,T,T,T,T,F,F,F,F,F,F,F,F,F,F,F,F,F,F,F,F,F,F,F,F,F,F,F] rfl rfl (by kernel_rfl) (fun _ _ _ h=>h) (Or.inl ⟨by rfl,?_⟩) ?_ ?_
   rotate_left;(intro w';go_simp;with_reducible rfl);rotate_left;(simp only [pq];rfl)
   refine pure_ (i:=7) (N:=some 13) (v:=?_) (a':=?_) #[T,T,T,T,T,T,T,T,F,F,F,F,F,F,F,F,F,F,F,F,F,F,F,F,F,F,F,F,F,F] rfl rfl (by kernel_rfl) (fun _ _ _ h=>h) (Or.inl ⟨by rfl,?_⟩) ?_ ?_
   rotate_left;(intro w';go_simp;with_reducible rfl);rotate_left;(simp only [pq];rfl)
   refine pure_ (i:=8) (N:=some 14) (v:=?_) (a':=?_) #[T,T,T,T,T,T,T,T,T,F,F,F,F,F,F,F,F,F,F,F,F,F,F,F,F,F,F,F,F,F] rfl rfl (by kernel_rfl) (fun _ _ _ h=>h) (Or.inl ⟨by rfl,?_⟩) ?_ ?_
   rotate_left;(intro w';go_simp;with_reducible rfl);rotate_left;(simp only [pq];rfl)
   refine pure_ (i:=9) (N:=some 15) (v:=?_) (a':=?_) #[T,T,T,T,T,T,T,T,T,T,F,F,F,F,F,F,F,F,F,F,F,F,F,F,F,F,F,F,F,F] rfl rfl (by kernel_rfl) (fun _ _ _ h=>h) (Or.inl ⟨by rfl,?_⟩) ?_ ?_
   rotate_left;(intro w';go_simp;with_reducible rfl);rotate_left;(simp only [pq];rfl)
   refine take_ (i:=10) (N:=some 16) (v:=?_) (a':=?_) #[T,T,T,T,T,T,T,T,T,T,T,F,F,F,F,F,F,F,F,F,F,F,F,F,F,F,F,F,F,F] rfl rfl (by kernel_rfl) (fun _ _ _ h=>h) (Or.inl ⟨by rfl,?_⟩) hHeld ?_ ?_
   rotate_left
   ·rintro w' ⟨s0,s1⟩
    go_simp
    with_reducible rfl
   rotate_left
   ·simp only [pq]
    rfl
   refine pure_ (i:=11) (N:=some 17) (v:=?_) (a':=?_) #[T,T,T,T,T,T,T,T,T,T,T,T,F,F,F,F,F,F,F,F,F,F,F,F,F,F,F,F,F,F] rfl rfl (by kernel_rfl) (fun _ _ _ h=>h) (Or.inl ⟨by rfl,?_⟩) ?_ ?_
   rotate_left;(intro w';go_simp;with_reducible rfl);rotate_left;(simp only [pq];rfl)
   refine take_ (i:=12) (N:=some 18) (v:=?_) (a':=?_) #[T,T,T,T,T,T,T,T,T,T,T,T,T,F,F,F,F,F,F,F,F,F,F,F,F,F,F,F,F,F] rfl rfl (by kernel_rfl) (fun _ _ _ h=>h) (Or.inl ⟨by rfl,?_⟩) hHeld ?_ ?_
   rotate_left
   ·rintro w' ⟨s0,s1⟩
    go_simp
    with_reducible rfl
   rotate_left
   ·simp only [pq]
    rfl
   refine pure_ (i:=13) (N:=some 19) (v:=?_) (a':=?_) #[T,T,T,T,T,T,T,T,T,T,T,T,T,T,F,F,F,F,F,F,F,F,F,F,F,F,F,F,F,F] rfl rfl (by kernel_rfl) (fun _ _ _ h=>h) (Or.inl ⟨by rfl,?_⟩) ?_ ?_
   rotate_left;(intro w';go_simp;with_reducible rfl);rotate_left;(simp only [pq];rfl)
   refine pure_ (i:=14) (N:=some 20) (v:=?_) (a':=?_) #[T,T,T,T,T,T,T,T,T,T,T,T,T,T,T,F,F,F,F,F,F,F,F,F,F,F,F,F,F,F] rfl rfl (by kernel_rfl) (fun _ _ _ h=>h) (Or.inl ⟨by rfl,?_⟩) ?_ ?_
   rotate_left;(intro w';go_simp;with_reducible rfl);rotate_left;(simp only [pq];rfl)
   refine pure_ (i:=15) (N:=some 21) (v:=?_) (a':=?_) #[T,T,T,T,T,T,T,T,T,T,T,T,T,T,T,T,F,F,F,F,F,F,F,F,F,F,F,F,F,F] rfl rfl (by kernel_rfl) (fun _ _ _ h=>h) (Or.inl ⟨by rfl,?_⟩) ?_ ?_
   rotate_left;(intro w';go_simp;with_reducible rfl);rotate_left;(simp only [pq];rfl)
   refine pure_ (i:=16) (N:=some 22) (v:=undef) (a':=?_) #[T,T,T,T,T,T,T,T,T,T,T,T,T,T,T,T,T,F,F,F,F,F,F,F,F,F,F,F,F,F] rfl rfl (by kernel_rfl) (fun _ _ _ h=>h) (Or.inr ⟨by rfl,rfl⟩) ?_ ?_
   rotate_left
   ·simp only [pq]
    rfl
   refine pure_ (i:=17) (N:=some 23) (v:=undef) (a':=?_) #[T,T,T,T,T,T,T,T,T,T,T,T,T,T,T,T,T,T,F,F,F,F,F,F,F,F,F,F,F,F] rfl rfl (by kernel_rfl) (fun _ _ _ h=>h) (Or.inr ⟨by rfl,rfl⟩) ?_ ?_
   rotate_left
   ·simp only [pq]
    rfl
   refine pure_ (i:=18) (N:=some 24) (v:=undef) (a':=?_) #[T,T,T,T,T,T,T,T,T,T,T,T,T,T,T,T,T,T,T,F,F,F,F,F,F,F,F,F,F,F] rfl rfl (by kernel_rfl) (fun _ _ _ h=>h) (Or.inr ⟨by rfl,rfl⟩) ?_ ?_
   rotate_left
   ·simp only [pq]
    rfl
   refine pure_ (i:=19) (N:=some 25) (v:=undef) (a':=?_) #[T,T,T,T,T,T,T,T,T,T,T,T,T,T,T,T,T,T,T,T,F,F,F,F,F,F,F,F,F,F] rfl rfl (by kernel_rfl) (fun _ _ _ h=>h) (Or.inr ⟨by rfl,rfl⟩) ?_ ?_
   rotate_left
   ·simp only [pq]
    rfl
   refine pure_ (i:=20) (N:=some 26) (v:=undef) (a':=?_) #[T,T,T,T,T,T,T,T,T,T,T,T,T,T,T,T,T,T,T,T,T,F,F,F,F,F,F,F,F,F] rfl rfl (by kernel_rfl) (fun _ _ _ h=>h) (Or.inr ⟨by rfl,rfl⟩) ?_ ?_
   rotate_left
   ·simp only [pq]
    rfl
   refine pure_ (i:=21) (N:=some 27) (v:=undef) (a':=?_) #[T,T,T,T,T,T,T,T,T,T,T,T,T,T,T,T,T,T,T,T,T,T,F,F,F,F,F,F,F,F] rfl rfl (by kernel_rfl) (fun _ _ _ h=>h) (Or.inr ⟨by rfl,rfl⟩) ?_ ?_
   rotate_left
   ·simp only [pq]
    rfl
   refine pure_ (i:=22) (N:=some 28) (v:=undef) (a':=?_) #[T,T,T,T,T,T,T,T,T,T,T,T,T,T,T,T,T,T,T,T,T,T,T,F,F,F,F,F,F,F] rfl rfl (by kernel_rfl) (fun _ _ _ h=>h) (Or.inr ⟨by rfl,rfl⟩) ?_ ?_
   rotate_left
   ·simp only [pq]
    rfl
   refine pure_ (i:=23) (N:=some 29) (v:=undef) (a':=?_) #[T,T,T,T,T,T,T,T,T,T,T,T,T,T,T,T,T,T,T,T,T,T,T,T,F,F,F,F,F,F] rfl rfl (by kernel_rfl) (fun _ _ _ h=>h) (Or.inr ⟨by rfl,rfl⟩) ?_ ?_
   rotate_left
   ·simp only [pq]
    rfl
   refine pure_ (i:=24) (N:=some 30) (v:=undef) (a':=?_) #[T,T,T,T,T,T,T,T,T,T,T,T,T,T,T,T,T,T,T,T,T,T,T,T,T,F,F,F,F,F] rfl rfl (by kernel_rfl) (fun _ _ _ h=>h) (Or.inr ⟨by rfl,rfl⟩) ?_ ?_
   rotate_left
   ·simp only [pq]
    rfl
   refine pure_ (i:=25) (N:=some 31) (v:=undef) (a':=?_) #[T,T,T,T,T,T,T,T,T,T,T,T,T,T,T,T,T,T,T,T,T,T,T,T,T,T,F,F,F,F] rfl rfl (by kernel_rfl) (fun _ _ _ h=>h) (Or.inr ⟨by rfl,rfl⟩) ?_ ?_
   rotate_left
   ·simp only [pq]
    rfl
   refine pure_ (i:=26) (N:=some 32) (v:=undef) (a':=?_) #[T,T,T,T,T,T,T,T,T,T,T,T,T,T,T,T,T,T,T,T,T,T,T,T,T,T,T,F,F,F] rfl rfl (by kernel_rfl) (fun _ _ _ h=>h) (Or.inr ⟨by rfl,rfl⟩) ?_ ?_
   rotate_left
   ·simp only [pq]
    rfl
   refine pure_ (i:=27) (N:=some 33) (v:=undef) (a':=?_) #[T,T,T,T,T,T,T,T,T,T,T,T,T,T,T,T,T,T,T,T,T,T,T,T,T,T,T,T,F,F] rfl rfl (by kernel_rfl) (fun _ _ _ h=>h) (Or.inr ⟨by rfl,rfl⟩) ?_ ?_
   rotate_left
   ·simp only [pq]
    rfl
   refine pure_ (i:=28) (N:=some 34) (v:=undef) (a':=?_) #[T,T,T,T,T,T,T,T,T,T,T,T,T,T,T,T,T,T,T,T,T,T,T,T,T,T,T,T,T,F] rfl rfl (by kernel_rfl) (fun _ _ _ h=>h) (Or.inr ⟨by rfl,rfl⟩) ?_ ?_
   rotate_left
   ·simp only [pq]
    rfl
   refine pure_ (i:=29) (N:=some 35) (v:=?_) (a':=?_) #[T,T,T,T,T,T,T,T,T,T,T,T,T,T,T,T,T,T,T,T,T,T,T,T,T,T,T,T,T,T] rfl rfl (by kernel_rfl) (fun _ _ _ h=>h) (Or.inl ⟨by rfl,?_⟩) ?_ ?_
   rotate_left;(intro w';go_simp;with_reducible rfl);rotate_left;(simp only [pq];rfl)
   refine done_ (by kernel_rfl) ?_
   go_wp2
   go_ret
   exact⟨by rw [HGO.out];rfl,by rw [HGO.out];exact HZ.out⟩
  ·have d0:decide (x<0)=false:=decide_eq_false h0
   by_cases h1:(ps.length:Int)≤x
   ·have d1:decide ((ps.length:Int)≤x)=true:=decide_eq_true h1
    have hgo:gOpen ps rule ⟨x::xs,at_,fs,ms⟩=(⟨x::xs,at_,fs,ms⟩,false):=by simp only [gOpen];rw [if_neg (fun e=>by omega)]
    have HGO:=aM hgo;clear hgo h0 h1;go_enter Try.func27,Try.ntmps27
    go_upto_region 1 with fail
    refine start_ (n:=30) (S:=fun w'=>w'.cell? ⟨G,5,none⟩=some (.slice (some ad) (x::xs).length cs)∧w'.cell? ad=some (.int .i64 x)∧w'.cell? ⟨G,4,none⟩=some (.slice C.A4 ps.length C.c4)) (ds:= []) #[F,F,F,F,F,F,F,F,F,F,F,F,F,F,F,F,F,F,F,F,F,F,F,F,F,F,F,F,F,F] (by kernel_rfl) rfl rfl ⟨H5.out,HX.out,H4.out⟩ (fun hHeld=>?_)
    refine pure_ (i:=0) (N:=some 6) (v:=?_) (a':=?_) #[T,F,F,F,F,F,F,F,F,F,F,F,F,F,F,F,F,F,F,F,F,F,F,F,F,F,F,F,F,F] rfl rfl (by kernel_rfl) (fun _ _ _ h=>h) (Or.inl ⟨by rfl,?_⟩) ?_ ?_
    rotate_left;(intro w';go_simp;with_reducible rfl);rotate_left;(simp only [pq];rfl)
    refine pure_ (i:=1) (N:=some 7) (v:=?_) (a':=?_) #[T,T,F,F,F,F,F,F,F,F,F,F,F,F,F,F,F,F,F,F,F,F,F,F,F,F,F,F,F,F] rfl rfl (by kernel_rfl) (fun _ _ _ h=>h) (Or.inl ⟨by rfl,?_⟩) ?_ ?_
    rotate_left;(intro w';go_simp;with_reducible rfl);rotate_left;(simp only [pq];rfl)
    refine pure_ (i:=2) (N:=some 8) (v:=?_) (a':=?_) #[T,T,T,F,F,F,F,F,F,F,F,F,F,F,F,F,F,F,F,F,F,F,F,F,F,F,F,F,F,F] rfl rfl (by kernel_rfl) (fun _ _ _ h=>h) (Or.inl ⟨by rfl,?_⟩) ?_ ?_
    rotate_left;(intro w';go_simp;with_reducible rfl);rotate_left;(simp only [pq];rfl)
    refine take_ (i:=3) (N:=some 9) (v:=?_) (a':=?_) #[T,T,T,T,F,F,F,F,F,F,F,F,F,F,F,F,F,F,F,F,F,F,F,F,F,F,F,F,F,F] rfl rfl (by kernel_rfl) (fun _ _ _ h=>h) (Or.inl ⟨by rfl,?_⟩) hHeld ?_ ?_
    rotate_left
    ·rintro w' ⟨s0,s1,s2⟩
     go_simp
     with_reducible rfl
    rotate_left
    ·simp only [pq]
     rfl
    refine pure_ (i:=4) (N:=some 10) (v:=?_) (a':=?_) #[T,T,T,T,T,F,F,F,F,F,F,F,F,F,F,F,F,F,F,F,F,F,F,F,F,F,F,F,F,F] rfl rfl (by kernel_rfl) (fun _ _ _ h=>h) (Or.inl ⟨by rfl,?_⟩) ?_ ?_
    rotate_left;(intro w';go_simp;with_reducible rfl);rotate_left;(simp only [pq];rfl)
    refine pure_ (i:=5) (N:=some 11) (v:=?_) (a':=?_) #[T,T,T,T,T,T,F,F,F,F,F,F,F,F,F,F,F,F,F,F,F,F,F,F,F,F,F,F,F,F] rfl rfl (by kernel_rfl) (fun _ _ _ h=>h) (Or.inl ⟨by rfl,?_⟩) ?_ ?_
    rotate_left;(intro w';go_simp;with_reducible rfl);rotate_left;(simp only [pq];rfl)
    refine pure_ (i:=6) (N:=some 12) (v:=?_) (a':=?_) #[T,T,T,T,T,T,T,F,F,F,F,F,F,F,F,F,F,F,F,F,F,F,F,F,F,F,F,F,F,F] rfl rfl (by kernel_rfl) (fun _ _ _ h=>h) (Or.inl ⟨by rfl,?_⟩) ?_ ?_
    rotate_left;(intro w';go_simp;with_reducible rfl);rotate_left;(simp only [pq];rfl)
    refine pure_ (i:=7) (N:=some 13) (v:=?_) (a':=?_) #[T,T,T,T,T,T,T,T,F,F,F,F,F,F,F,F,F,F,F,F,F,F,F,F,F,F,F,F,F,F] rfl rfl (by kernel_rfl) (fun _ _ _ h=>h) (Or.inl ⟨by rfl,?_⟩) ?_ ?_
    rotate_left;(intro w';go_simp;with_reducible rfl);rotate_left;(simp only [pq];rfl)
    refine pure_ (i:=8) (N:=some 14) (v:=?_) (a':=?_) #[T,T,T,T,T,T,T,T,T,F,F,F,F,F,F,F,F,F,F,F,F,F,F,F,F,F,F,F,F,F] rfl rfl (by kernel_rfl) (fun _ _ _ h=>h) (Or.inl ⟨by rfl,?_⟩) ?_ ?_
    rotate_left;(intro w';go_simp;with_reducible rfl);rotate_left;(simp only [pq];rfl)
    refine pure_ (i:=9) (N:=some 15) (v:=?_) (a':=?_) #[T,T,T,T,T,T,T,T,T,T,F,F,F,F,F,F,F,F,F,F,F,F,F,F,F,F,F,F,F,F] rfl rfl (by kernel_rfl) (fun _ _ _ h=>h) (Or.inl ⟨by rfl,?_⟩) ?_ ?_
    rotate_left;(intro w';go_simp;with_reducible rfl);rotate_left;(simp only [pq];rfl)
    refine take_ (i:=10) (N:=some 16) (v:=?_) (a':=?_) #[T,T,T,T,T,T,T,T,T,T,T,F,F,F,F,F,F,F,F,F,F,F,F,F,F,F,F,F,F,F] rfl rfl (by kernel_rfl) (fun _ _ _ h=>h) (Or.inl ⟨by rfl,?_⟩) hHeld ?_ ?_
    rotate_left
    ·rintro w' ⟨s0,s1,s2⟩
     go_simp
     with_reducible rfl
    rotate_left
    ·simp only [pq]
     rfl
    refine pure_ (i:=11) (N:=some 17) (v:=?_) (a':=?_) #[T,T,T,T,T,T,T,T,T,T,T,T,F,F,F,F,F,F,F,F,F,F,F,F,F,F,F,F,F,F] rfl rfl (by kernel_rfl) (fun _ _ _ h=>h) (Or.inl ⟨by rfl,?_⟩) ?_ ?_
    rotate_left;(intro w';go_simp;with_reducible rfl);rotate_left;(simp only [pq];rfl)
    refine take_ (i:=12) (N:=some 18) (v:=?_) (a':=?_) #[T,T,T,T,T,T,T,T,T,T,T,T,T,F,F,F,F,F,F,F,F,F,F,F,F,F,F,F,F,F] rfl rfl (by kernel_rfl) (fun _ _ _ h=>h) (Or.inl ⟨by rfl,?_⟩) hHeld ?_ ?_
    rotate_left
    ·rintro w' ⟨s0,s1,s2⟩
     go_simp
     with_reducible rfl
    rotate_left
    ·simp only [pq]
     rfl
    refine pure_ (i:=13) (N:=some 19) (v:=?_) (a':=?_) #[T,T,T,T,T,T,T,T,T,T,T,T,T,T,F,F,F,F,F,F,F,F,F,F,F,F,F,F,F,F] rfl rfl (by kernel_rfl) (fun _ _ _ h=>h) (Or.inl ⟨by rfl,?_⟩) ?_ ?_
    rotate_left;(intro w';go_simp;with_reducible rfl);rotate_left;(simp only [pq];rfl)
    refine pure_ (i:=14) (N:=some 20) (v:=?_) (a':=?_) #[T,T,T,T,T,T,T,T,T,T,T,T,T,T,T,F,F,F,F,F,F,F,F,F,F,F,F,F,F,F] rfl rfl (by kernel_rfl) (fun _ _ _ h=>h) (Or.inl ⟨by rfl,?_⟩) ?_ ?_
    rotate_left;(intro w';go_simp;with_reducible rfl);rotate_left;(simp only [pq];rfl)
    refine pure_ (i:=15) (N:=some 21) (v:=?_) (a':=?_) #[T,T,T,T,T,T,T,T,T,T,T,T,T,T,T,T,F,F,F,F,F,F,F,F,F,F,F,F,F,F] rfl rfl (by kernel_rfl) (fun _ _ _ h=>h) (Or.inl ⟨by rfl,?_⟩) ?_ ?_
    rotate_left;(intro w';go_simp;with_reducible rfl);rotate_left;(simp only [pq];rfl)
    refine pure_ (i:=16) (N:=some 22) (v:=?_) (a':=?_) #[T,T,T,T,T,T,T,T,T,T,T,T,T,T,T,T,T,F,F,F,F,F,F,F,F,F,F,F,F,F] rfl rfl (by kernel_rfl) (fun _ _ _ h=>h) (Or.inl ⟨by rfl,?_⟩) ?_ ?_
    rotate_left;(intro w';go_simp;with_reducible rfl);rotate_left;(simp only [pq];rfl)
    refine pure_ (i:=17) (N:=some 23) (v:=?_) (a':=?_) #[T,T,T,T,T,T,T,T,T,T,T,T,T,T,T,T,T,T,F,F,F,F,F,F,F,F,F,F,F,F] rfl rfl (by kernel_rfl) (fun _ _ _ h=>h) (Or.inl ⟨by rfl,?_⟩) ?_ ?_
    rotate_left;(intro w';go_simp;with_reducible rfl);rotate_left;(simp only [pq];rfl)
    refine pure_ (i:=18) (N:=some 24) (v:=?_) (a':=?_) #[T,T,T,T,T,T,T,T,T,T,T,T,T,T,T,T,T,T,T,F,F,F,F,F,F,F,F,F,F,F] rfl rfl (by kernel_rfl) (fun _ _ _ h=>h) (Or.inl ⟨by rfl,?_⟩) ?_ ?_
    rotate_left;(intro w';go_simp;with_reducible rfl);rotate_left;(simp only [pq];rfl)
    refine pure_ (i:=22) (N:=some 28) (v:=?_) (a':=?_) #[T,T,T,T,T,T,T,T,T,T,T,T,T,T,T,T,T,T,T,F,F,F,T,F,F,F,F,F,F,F] rfl rfl (by kernel_rfl) (fun _ _ _ h=>h) (Or.inl ⟨by rfl,?_⟩) ?_ ?_
    rotate_left;(intro w';go_simp;with_reducible rfl);rotate_left;(simp only [pq];rfl)
    refine pure_ (i:=23) (N:=some 29) (v:=?_) (a':=?_) #[T,T,T,T,T,T,T,T,T,T,T,T,T,T,T,T,T,T,T,F,F,F,T,T,F,F,F,F,F,F] rfl rfl (by kernel_rfl) (fun _ _ _ h=>h) (Or.inl ⟨by rfl,?_⟩) ?_ ?_
    rotate_left;(intro w';go_simp;with_reducible rfl);rotate_left;(simp only [pq];rfl)
    refine pure_ (i:=24) (N:=some 30) (v:=?_) (a':=?_) #[T,T,T,T,T,T,T,T,T,T,T,T,T,T,T,T,T,T,T,F,F,F,T,T,T,F,F,F,F,F] rfl rfl (by kernel_rfl) (fun _ _ _ h=>h) (Or.inl ⟨by rfl,?_⟩) ?_ ?_
    rotate_left;(intro w';go_simp;with_reducible rfl);rotate_left;(simp only [pq];rfl)
    refine pure_ (i:=25) (N:=some 31) (v:=?_) (a':=?_) #[T,T,T,T,T,T,T,T,T,T,T,T,T,T,T,T,T,T,T,F,F,F,T,T,T,T,F,F,F,F] rfl rfl (by kernel_rfl) (fun _ _ _ h=>h) (Or.inl ⟨by rfl,?_⟩) ?_ ?_
    rotate_left;(intro w';go_simp;with_reducible rfl);rotate_left;(simp only [pq];rfl)
    refine take_ (i:=19) (N:=some 25) (v:=?_) (a':=?_) #[T,T,T,T,T,T,T,T,T,T,T,T,T,T,T,T,T,T,T,T,F,F,T,T,T,T,F,F,F,F] rfl rfl (by kernel_rfl) (fun _ _ _ h=>h) (Or.inl ⟨by rfl,?_⟩) hHeld ?_ ?_
    rotate_left
    ·rintro w' ⟨s0,s1,s2⟩
     go_simp
     with_reducible rfl
    rotate_left
    ·simp only [pq]
     rfl
    refine pure_ (i:=20) (N:=some 26) (v:=?_) (a':=?_) #[T,T,T,T,T,T,T,T,T,T,T,T,T,T,T,T,T,T,T,T,T,F,T,T,T,T,F,F,F,F] rfl rfl (by kernel_rfl) (fun _ _ _ h=>h) (Or.inl ⟨by rfl,?_⟩) ?_ ?_
    rotate_left;(intro w';go_simp;with_reducible rfl);rotate_left;(simp only [pq];rfl)
    refine take_ (i:=21) (N:=some 27) (v:=?_) (a':=?_) #[T,T,T,T,T,T,T,T,T,T,T,T,T,T,T,T,T,T,T,T,T,T,T,T,T,T,F,F,F,F] rfl rfl (by kernel_rfl) (fun _ _ _ h=>h) (Or.inl ⟨by rfl,?_⟩) hHeld ?_ ?_
    rotate_left
    ·rintro w' ⟨s0,s1,s2⟩
     go_simp
     with_reducible rfl
    rotate_left
    ·simp only [pq]
     rfl
    refine take_ (i:=26) (N:=some 32) (v:=?_) (a':=?_) #[T,T,T,T,T,T,T,T,T,T,T,T,T,T,T,T,T,T,T,T,T,T,T,T,T,T,T,F,F,F] rfl rfl (by kernel_rfl) (fun _ _ _ h=>h) (Or.inl ⟨by rfl,?_⟩) hHeld ?_ ?_
    rotate_left
    ·rintro w' ⟨s0,s1,s2⟩
     go_simp
     with_reducible rfl
    rotate_left
    ·simp only [pq]
     rfl
    refine pure_ (i:=27) (N:=some 33) (v:=?_) (a':=?_) #[T,T,T,T,T,T,T,T,T,T,T,T,T,T,T,T,T,T,T,T,T,T,T,T,T,T,T,T,F,F] rfl rfl (by kernel_rfl) (fun _ _ _ h=>h) (Or.inl ⟨by rfl,?_⟩) ?_ ?_
    rotate_left;(intro w';go_simp;with_reducible rfl);rotate_left;(simp only [pq];rfl)
    refine pure_ (i:=28) (N:=some 34) (v:=?_) (a':=?_) #[T,T,T,T,T,T,T,T,T,T,T,T,T,T,T,T,T,T,T,T,T,T,T,T,T,T,T,T,T,F] rfl rfl (by kernel_rfl) (fun _ _ _ h=>h) (Or.inl ⟨by rfl,?_⟩) ?_ ?_
    rotate_left;(intro w';go_simp;with_reducible rfl);rotate_left;(simp only [pq];rfl)
    refine pure_ (i:=29) (N:=some 35) (v:=?_) (a':=?_) #[T,T,T,T,T,T,T,T,T,T,T,T,T,T,T,T,T,T,T,T,T,T,T,T,T,T,T,T,T,T] rfl rfl (by kernel_rfl) (fun _ _ _ h=>h) (Or.inl ⟨by rfl,?_⟩) ?_ ?_
    rotate_left;(intro w';go_simp;with_reducible rfl);rotate_left;(simp only [pq];rfl)
    refine done_ (by kernel_rfl) ?_
    go_wp2
    go_ret
    exact⟨by rw [HGO.out];rfl,by rw [HGO.out];exact HZ.out⟩
   ·have d1:decide ((ps.length:Int)≤x)=false:=decide_eq_false h1
    have hgo:gOpen ps rule ⟨x::xs,at_,fs,ms⟩=(⟨xs,at_,⟨rule,(rd_T55 ps x).f1,[]⟩::fs,ms⟩,decide ((rd_T55 ps x).f0=rule)):=by simp only [gOpen];rw [if_pos (by omega)]
    rw [hgo];obtain⟨lU,A5,c5,e4,e0,e1,hle5,hC5⟩:=at_T55 (bD HIN.out.r4 HB.out) x (by omega) (by omega);obtain⟨ad4',A5',c5',e4',_,e1',_,hC50⟩:=at_T55 HIN.out.r4 x (by omega) (by omega);obtain rfl:=Option.some.inj (e4.symm.trans e4');have e1'':=((HB.out.cell (World.block_lt_of_cell? w0 _ e1')).trans e1').symm.trans e1;obtain⟨rfl,_,rfl⟩:A5'=A5∧True∧c5'=c5:=by injection e1'' with e;injection e with a _ c;exact⟨a,trivial,c⟩
    rw [e4] at H4;have hx0:(0≤x)=True:=eq_true (by omega);have hx1:(x<(ps.length:Int))=True:=eq_true (by omega);generalize rd_T55 ps x=p at e0 e1 hle5 hC50 ⊢;have E0:=aM e0;have E1:=aM e1;have HL5:=aM (And.intro hC50 hle5);clear hgo h0 h1 e1' e1'' hC5 e0 e1 hle5 hC50 e4 e4';go_enter Try.func27,Try.ntmps27
    go_upto_region 1 with fail
    go_cut [35] from 6 (fun s35 wc=>s35= .bool false∧wc=W.drew)
    case first=>
     as_aux_lemma=>
      refine start_ (n:=30) (S:=fun w'=>w'.cell? ⟨G,5,none⟩=some (.slice (some ad) (x::xs).length cs)∧w'.cell? ad=some (.int .i64 x)∧w'.cell? ⟨G,4,none⟩=some (.slice (some lU) ps.length C.c4)) (ds:= []) #[F,F,F,F,F,F,F,F,F,F,F,F,F,F,F,F,F,F,F,F,F,F,F,F,F,F,F,F,F,F] (by kernel_rfl) rfl rfl ⟨H5.out,HX.out,H4.out⟩ (fun hHeld=>?_)
      refine pure_ (i:=0) (N:=some 6) (v:=?_) (a':=?_) #[T,F,F,F,F,F,F,F,F,F,F,F,F,F,F,F,F,F,F,F,F,F,F,F,F,F,F,F,F,F] rfl rfl (by kernel_rfl) (fun _ _ _ h=>h) (Or.inl ⟨by rfl,?_⟩) ?_ ?_
      rotate_left;(intro w';go_simp;with_reducible rfl);rotate_left;(simp only [pq];rfl)
      refine pure_ (i:=1) (N:=some 7) (v:=?_) (a':=?_) #[T,T,F,F,F,F,F,F,F,F,F,F,F,F,F,F,F,F,F,F,F,F,F,F,F,F,F,F,F,F] rfl rfl (by kernel_rfl) (fun _ _ _ h=>h) (Or.inl ⟨by rfl,?_⟩) ?_ ?_
      rotate_left;(intro w';go_simp;with_reducible rfl);rotate_left;(simp only [pq];rfl)
      refine pure_ (i:=2) (N:=some 8) (v:=?_) (a':=?_) #[T,T,T,F,F,F,F,F,F,F,F,F,F,F,F,F,F,F,F,F,F,F,F,F,F,F,F,F,F,F] rfl rfl (by kernel_rfl) (fun _ _ _ h=>h) (Or.inl ⟨by rfl,?_⟩) ?_ ?_
      rotate_left;(intro w';go_simp;with_reducible rfl);rotate_left;(simp only [pq];rfl)
      refine take_ (i:=3) (N:=some 9) (v:=?_) (a':=?_) #[T,T,T,T,F,F,F,F,F,F,F,F,F,F,F,F,F,F,F,F,F,F,F,F,F,F,F,F,F,F] rfl rfl (by kernel_rfl) (fun _ _ _ h=>h) (Or.inl ⟨by rfl,?_⟩) hHeld ?_ ?_
      rotate_left
      ·rintro w' ⟨s0,s1,s2⟩
       go_simp
       with_reducible rfl
      rotate_left
      ·simp only [pq]
       rfl
      refine pure_ (i:=4) (N:=some 10) (v:=?_) (a':=?_) #[T,T,T,T,T,F,F,F,F,F,F,F,F,F,F,F,F,F,F,F,F,F,F,F,F,F,F,F,F,F] rfl rfl (by kernel_rfl) (fun _ _ _ h=>h) (Or.inl ⟨by rfl,?_⟩) ?_ ?_
      rotate_left;(intro w';go_simp;with_reducible rfl);rotate_left;(simp only [pq];rfl)
      refine pure_ (i:=5) (N:=some 11) (v:=?_) (a':=?_) #[T,T,T,T,T,T,F,F,F,F,F,F,F,F,F,F,F,F,F,F,F,F,F,F,F,F,F,F,F,F] rfl rfl (by kernel_rfl) (fun _ _ _ h=>h) (Or.inl ⟨by rfl,?_⟩) ?_ ?_
      rotate_left;(intro w';go_simp;with_reducible rfl);rotate_left;(simp only [pq];rfl)
      refine pure_ (i:=6) (N:=some 12) (v:=?_) (a':=?_) #[T,T,T,T,T,T,T,F,F,F,F,F,F,F,F,F,F,F,F,F,F,F,F,F,F,F,F,F,F,F] rfl rfl (by kernel_rfl) (fun _ _ _ h=>h) (Or.inl ⟨by rfl,?_⟩) ?_ ?_
      rotate_left;(intro w';go_simp;with_reducible rfl);rotate_left;(simp only [pq];rfl)
      refine pure_ (i:=7) (N:=some 13) (v:=?_) (a':=?_) #[T,T,T,T,T,T,T,T,F,F,F,F,F,F,F,F,F,F,F,F,F,F,F,F,F,F,F,F,F,F] rfl rfl (by kernel_rfl) (fun _ _ _ h=>h) (Or.inl ⟨by rfl,?_⟩) ?_ ?_
      rotate_left;(intro w';go_simp;with_reducible rfl);rotate_left;(simp only [pq];rfl)
      refine pure_ (i:=8) (N:=some 14) (v:=?_) (a':=?_) #[T,T,T,T,T,T,T,T,T,F,F,F,F,F,F,F,F,F,F,F,F,F,F,F,F,F,F,F,F,F] rfl rfl (by kernel_rfl) (fun _ _ _ h=>h) (Or.inl ⟨by rfl,?_⟩) ?_ ?_
      rotate_left;(intro w';go_simp;with_reducible rfl);rotate_left;(simp only [pq];rfl)
      refine pure_ (i:=9) (N:=some 15) (v:=?_) (a':=?_) #[T,T,T,T,T,T,T,T,T,T,F,F,F,F,F,F,F,F,F,F,F,F,F,F,F,F,F,F,F,F] rfl rfl (by kernel_rfl) (fun _ _ _ h=>h) (Or.inl ⟨by rfl,?_⟩) ?_ ?_
      rotate_left;(intro w';go_simp;with_reducible rfl);rotate_left;(simp only [pq];rfl)
      refine take_ (i:=10) (N:=some 16) (v:=?_) (a':=?_) #[T,T,T,T,T,T,T,T,T,T,T,F,F,F,F,F,F,F,F,F,F,F,F,F,F,F,F,F,F,F] rfl rfl (by kernel_rfl) (fun _ _ _ h=>h) (Or.inl ⟨by rfl,?_⟩) hHeld ?_ ?_
      rotate_left
      ·rintro w' ⟨s0,s1,s2⟩
       go_simp
       with_reducible rfl
      rotate_left
      ·simp only [pq]
       rfl
      refine pure_ (i:=11) (N:=some 17) (v:=?_) (a':=?_) #[T,T,T,T,T,T,T,T,T,T,T,T,F,F,F,F,F,F,F,F,F,F,F,F,F,F,F,F,F,F] rfl rfl (by kernel_rfl) (fun _ _ _ h=>h) (Or.inl ⟨by rfl,?_⟩) ?_ ?_
      rotate_left;(intro w';go_simp;with_reducible rfl);rotate_left;(simp only [pq];rfl)
      refine take_ (i:=12) (N:=some 18) (v:=?_) (a':=?_) #[T,T,T,T,T,T,T,T,T,T,T,T,T,F,F,F,F,F,F,F,F,F,F,F,F,F,F,F,F,F] rfl rfl (by kernel_rfl) (fun _ _ _ h=>h) (Or.inl ⟨by rfl,?_⟩) hHeld ?_ ?_
      rotate_left
      ·rintro w' ⟨s0,s1,s2⟩
       go_simp
       with_reducible rfl
      rotate_left
      ·simp only [pq]
       rfl
      refine pure_ (i:=13) (N:=some 19) (v:=?_) (a':=?_) #[T,T,T,T,T,T,T,T,T,T,T,T,T,T,F,F,F,F,F,F,F,F,F,F,F,F,F,F,F,F] rfl rfl (by kernel_rfl) (fun _ _ _ h=>h) (Or.inl ⟨by rfl,?_⟩) ?_ ?_
      rotate_left;(intro w';go_simp;with_reducible rfl);rotate_left;(simp only [pq];rfl)
      refine pure_ (i:=14) (N:=some 20) (v:=?_) (a':=?_) #[T,T,T,T,T,T,T,T,T,T,T,T,T,T,T,F,F,F,F,F,F,F,F,F,F,F,F,F,F,F] rfl rfl (by kernel_rfl) (fun _ _ _ h=>h) (Or.inl ⟨by rfl,?_⟩) ?_ ?_
      rotate_left;(intro w';go_simp;with_reducible rfl);rotate_left;(simp only [pq];rfl)
      refine pure_ (i:=15) (N:=some 21) (v:=?_) (a':=?_) #[T,T,T,T,T,T,T,T,T,T,T,T,T,T,T,T,F,F,F,F,F,F,F,F,F,F,F,F,F,F] rfl rfl (by kernel_rfl) (fun _ _ _ h=>h) (Or.inl ⟨by rfl,?_⟩) ?_ ?_
      rotate_left;(intro w';go_simp;with_reducible rfl);rotate_left;(simp only [pq];rfl)
      refine pure_ (i:=16) (N:=some 22) (v:=?_) (a':=?_) #[T,T,T,T,T,T,T,T,T,T,T,T,T,T,T,T,T,F,F,F,F,F,F,F,F,F,F,F,F,F] rfl rfl (by kernel_rfl) (fun _ _ _ h=>h) (Or.inl ⟨by rfl,?_⟩) ?_ ?_
      rotate_left;(intro w';go_simp;with_reducible rfl);rotate_left;(simp only [pq];rfl)
      refine pure_ (i:=17) (N:=some 23) (v:=?_) (a':=?_) #[T,T,T,T,T,T,T,T,T,T,T,T,T,T,T,T,T,T,F,F,F,F,F,F,F,F,F,F,F,F] rfl rfl (by kernel_rfl) (fun _ _ _ h=>h) (Or.inl ⟨by rfl,?_⟩) ?_ ?_
      rotate_left;(intro w';go_simp;with_reducible rfl);rotate_left;(simp only [pq];rfl)
      refine pure_ (i:=18) (N:=some 24) (v:=?_) (a':=?_) #[T,T,T,T,T,T,T,T,T,T,T,T,T,T,T,T,T,T,T,F,F,F,F,F,F,F,F,F,F,F] rfl rfl (by kernel_rfl) (fun _ _ _ h=>h) (Or.inl ⟨by rfl,?_⟩) ?_ ?_
      rotate_left;(intro w';go_simp;with_reducible rfl);rotate_left;(simp only [pq];rfl)
      refine pure_ (i:=22) (N:=some 28) (v:=?_) (a':=?_) #[T,T,T,T,T,T,T,T,T,T,T,T,T,T,T,T,T,T,T,F,F,F,T,F,F,F,F,F,F,F] rfl rfl (by kernel_rfl) (fun _ _ _ h=>h) (Or.inl ⟨by rfl,?_⟩) ?_ ?_
      rotate_left;(intro w';go_simp;with_reducible rfl);rotate_left;(simp only [pq];rfl)
      refine pure_ (i:=23) (N:=some 29) (v:=?_) (a':=?_) #[T,T,T,T,T,T,T,T,T,T,T,T,T,T,T,T,T,T,T,F,F,F,T,T,F,F,F,F,F,F] rfl rfl (by kernel_rfl) (fun _ _ _ h=>h) (Or.inl ⟨by rfl,?_⟩) ?_ ?_
      rotate_left;(intro w';go_simp;with_reducible rfl);rotate_left;(simp only [pq];rfl)
      refine pure_ (i:=24) (N:=some 30) (v:=?_) (a':=?_) #[T,T,T,T,T,T,T,T,T,T,T,T,T,T,T,T,T,T,T,F,F,F,T,T,T,F,F,F,F,F] rfl rfl (by kernel_rfl) (fun _ _ _ h=>h) (Or.inl ⟨by rfl,?_⟩) ?_ ?_
      rotate_left;(intro w';go_simp;with_reducible rfl);rotate_left;(simp only [pq];rfl)
      refine pure_ (i:=25) (N:=some 31) (v:=?_) (a':=?_) #[T,T,T,T,T,T,T,T,T,T,T,T,T,T,T,T,T,T,T,F,F,F,T,T,T,T,F,F,F,F] rfl rfl (by kernel_rfl) (fun _ _ _ h=>h) (Or.inl ⟨by rfl,?_⟩) ?_ ?_
      rotate_left;(intro w';go_simp;with_reducible rfl);rotate_left;(simp only [pq];rfl)
      refine take_ (i:=19) (N:=some 25) (v:=?_) (a':=?_) #[T,T,T,T,T,T,T,T,T,T,T,T,T,T,T,T,T,T,T,T,F,F,T,T,T,T,F,F,F,F] rfl rfl (by kernel_rfl) (fun _ _ _ h=>h) (Or.inl ⟨by rfl,?_⟩) hHeld ?_ ?_
      rotate_left
      ·rintro w' ⟨s0,s1,s2⟩
       go_simp
       with_reducible rfl
      rotate_left
      ·simp only [pq]
       rfl
      refine pure_ (i:=20) (N:=some 26) (v:=?_) (a':=?_) #[T,T,T,T,T,T,T,T,T,T,T,T,T,T,T,T,T,T,T,T,T,F,T,T,T,T,F,F,F,F] rfl rfl (by kernel_rfl) (fun _ _ _ h=>h) (Or.inl ⟨by rfl,?_⟩) ?_ ?_
      rotate_left;(intro w';go_simp;with_reducible rfl);rotate_left;(simp only [pq];rfl)
      refine take_ (i:=21) (N:=some 27) (v:=?_) (a':=?_) #[T,T,T,T,T,T,T,T,T,T,T,T,T,T,T,T,T,T,T,T,T,T,T,T,T,T,F,F,F,F] rfl rfl (by kernel_rfl) (fun _ _ _ h=>h) (Or.inl ⟨by rfl,?_⟩) hHeld ?_ ?_
      rotate_left
      ·rintro w' ⟨s0,s1,s2⟩
       go_simp
       with_reducible rfl
      rotate_left
      ·simp only [pq]
       rfl
      refine take_ (i:=26) (N:=some 32) (v:=?_) (a':=?_) #[T,T,T,T,T,T,T,T,T,T,T,T,T,T,T,T,T,T,T,T,T,T,T,T,T,T,T,F,F,F] rfl rfl (by kernel_rfl) (fun _ _ _ h=>h) (Or.inl ⟨by rfl,?_⟩) hHeld ?_ ?_
      rotate_left
      ·rintro w' ⟨s0,s1,s2⟩
       go_simp
       with_reducible rfl
      rotate_left
      ·simp only [pq]
       rfl
      refine pure_ (i:=27) (N:=some 33) (v:=?_) (a':=?_) #[T,T,T,T,T,T,T,T,T,T,T,T,T,T,T,T,T,T,T,T,T,T,T,T,T,T,T,T,F,F] rfl rfl (by kernel_rfl) (fun _ _ _ h=>h) (Or.inl ⟨by rfl,?_⟩) ?_ ?_
      rotate_left;(intro w';go_simp;with_reducible rfl);rotate_left;(simp only [pq];rfl)
      refine pure_ (i:=28) (N:=some 34) (v:=?_) (a':=?_) #[T,T,T,T,T,T,T,T,T,T,T,T,T,T,T,T,T,T,T,T,T,T,T,T,T,T,T,T,T,F] rfl rfl (by kernel_rfl) (fun _ _ _ h=>h) (Or.inl ⟨by rfl,?_⟩) ?_ ?_
      rotate_left;(intro w';go_simp;with_reducible rfl);rotate_left;(simp only [pq];rfl)
      refine pure_ (i:=29) (N:=some 35) (v:=?_) (a':=?_) #[T,T,T,T,T,T,T,T,T,T,T,T,T,T,T,T,T,T,T,T,T,T,T,T,T,T,T,T,T,T] rfl rfl (by kernel_rfl) (fun _ _ _ h=>h) (Or.inl ⟨by rfl,?_⟩) ?_ ?_
      rotate_left;(intro w';go_simp;with_reducible rfl);rotate_left;(simp only [pq];rfl)
      refine done_ (by kernel_rfl) ?_
      go_wp2
      go_meet
      case rel=>exact⟨rfl,rfl⟩
    case rest=>
     obtain⟨rfl,rfl⟩:=hcut;have HBD:Aside0 (Below W.heap.size W W.drew):=⟨aO (Below.refl _ W)⟩;have HB1:Aside0 (Below w0.heap.size w0 W.drew):=⟨HB.out.trans (HBD.out.mono HB.out.size)⟩;have H41:=aM (pw_cell_below HBD.out H4.out);have H51:=aM (pw_cell_below HBD.out H5.out);have HX1:=aM (pw_cell_below HBD.out HX.out);have E01:=aM (pw_cell_below HBD.out E0.out);have E11:=aM (pw_cell_below HBD.out E1.out);have HBK1:=aM (bF HBK.out HBD.out);have HR1:=aM (HR.out.below HBD.out);generalize W.drew=w1 at HB1 H41 H51 HX1 E01 E11 HBK1 HR1 ⊢;clear H4 H5 HX E0 E1 HBK HR HZ HBD HB d0 d1
     go_upto_region 3 with fail
     have HAL:Aside0 (Below w1.heap.size w1 (w1.drew.alloc (.cells #[.int .i64 0,.slice none 0 0] 55))):=⟨aN (aO (Below.refl _ w1)) _⟩;have HDR:Aside0 (Below w1.heap.size w1 w1.drew):=⟨aO (Below.refl _ w1)⟩;refine start_ (n:=15) (S:=fun w'=>w'.cell? ⟨G,4,none⟩=some (.slice (some lU) ps.length C.c4)∧w'.cell? ⟨G,5,none⟩=some (.slice (some ad) (x::xs).length cs)∧w'.cell? ad=some (.int .i64 x)∧w'.cell? (lU.add (x.toNat * 2))=some (.int .i64 p.f0)∧w'.cell? ⟨(lU.add (x.toNat * 2)).block,(lU.add (x.toNat * 2)).off+1,none⟩=some (.slice A5' p.f1.length c5')) (ds:= [14]) #[F,F,F,F,F,F,F,F,F,F,F,F,F,F,F] (by kernel_rfl) rfl rfl ⟨pw_cell_below HDR.out H41.out,pw_cell_below HDR.out H51.out,pw_cell_below HDR.out HX1.out,pw_cell_below HDR.out E01.out,pw_cell_below HDR.out E11.out⟩ (fun hHeld=>?_)
     refine pure_ (i:=0) (N:=some 36) (v:=?_) (a':=?_) #[T,F,F,F,F,F,F,F,F,F,F,F,F,F,F] rfl rfl (by kernel_rfl) (fun _ _ _ h=>h) (Or.inl ⟨by rfl,?_⟩) ?_ ?_
     rotate_left;(intro w';go_simp;with_reducible rfl);rotate_left;(simp only [pq];rfl)
     refine pure_ (i:=1) (N:=some 37) (v:=?_) (a':=?_) #[T,T,F,F,F,F,F,F,F,F,F,F,F,F,F] rfl rfl (by kernel_rfl) (fun _ _ _ h=>h) (Or.inl ⟨by rfl,?_⟩) ?_ ?_
     rotate_left;(intro w';go_simp;with_reducible rfl);rotate_left;(simp only [pq];rfl)
     refine pure_ (i:=2) (N:=some 38) (v:=?_) (a':=?_) #[T,T,T,F,F,F,F,F,F,F,F,F,F,F,F] rfl rfl (by kernel_rfl) (fun _ _ _ h=>h) (Or.inl ⟨by rfl,?_⟩) ?_ ?_
     rotate_left;(intro w';go_simp;with_reducible rfl);rotate_left;(simp only [pq];rfl)
     refine pure_ (i:=3) (N:=some 39) (v:=?_) (a':=?_) #[T,T,T,T,F,F,F,F,F,F,F,F,F,F,F] rfl rfl (by kernel_rfl) (fun _ _ _ h=>h) (Or.inl ⟨by rfl,?_⟩) ?_ ?_
     rotate_left;(intro w';go_simp;with_reducible rfl);rotate_left;(simp only [pq];rfl)
     refine pure_ (i:=5) (N:=some 41) (v:=?_) (a':=?_) #[T,T,T,T,F,T,F,F,F,F,F,F,F,F,F] rfl rfl (by kernel_rfl) (fun _ _ _ h=>h) (Or.inl ⟨by rfl,?_⟩) ?_ ?_
     rotate_left;(intro w';go_simp;with_reducible rfl);rotate_left;(simp only [pq];rfl)
     refine pure_ (i:=6) (N:=some 42) (v:=?_) (a':=?_) #[T,T,T,T,F,T,T,F,F,F,F,F,F,F,F] rfl rfl (by kernel_rfl) (fun _ _ _ h=>h) (Or.inl ⟨by rfl,?_⟩) ?_ ?_
     rotate_left;(intro w';go_simp;with_reducible rfl);rotate_left;(simp only [pq];rfl)
     refine pure_ (i:=7) (N:=some 43) (v:=?_) (a':=?_) #[T,T,T,T,F,T,T,T,F,F,F,F,F,F,F] rfl rfl (by kernel_rfl) (fun _ _ _ h=>h) (Or.inl ⟨by rfl,?_⟩) ?_ ?_
     rotate_left;(intro w';go_simp;with_reducible rfl);rotate_left;(simp only [pq];rfl)
     refine take_ (i:=4) (N:=some 40) (v:=?_) (a':=?_) #[T,T,T,T,T,T,T,T,F,F,F,F,F,F,F] rfl rfl (by kernel_rfl) (fun _ _ _ h=>h) (Or.inl ⟨by rfl,?_⟩) hHeld ?_ ?_
     rotate_left
     ·rintro w' ⟨s0,s1,s2,s3,s4⟩
      go_simp
      with_reducible rfl
     rotate_left
     ·simp only [pq]
      rfl
     refine take_ (i:=8) (N:=some 44) (v:=?_) (a':=?_) #[T,T,T,T,T,T,T,T,T,F,F,F,F,F,F] rfl rfl (by kernel_rfl) (fun _ _ _ h=>h) (Or.inl ⟨by rfl,?_⟩) hHeld ?_ ?_
     rotate_left
     ·rintro w' ⟨s0,s1,s2,s3,s4⟩
      go_simp
      with_reducible rfl
     rotate_left
     ·simp only [pq]
      rfl
     refine pure_ (i:=9) (N:=some 45) (v:=?_) (a':=?_) #[T,T,T,T,T,T,T,T,T,T,F,F,F,F,F] rfl rfl (by kernel_rfl) (fun _ _ _ h=>h) (Or.inl ⟨by rfl,?_⟩) ?_ ?_
     rotate_left;(intro w';go_simp;with_reducible rfl);rotate_left;(simp only [pq];rfl)
     refine take_ (i:=10) (N:=some 46) (v:=?_) (a':=?_) #[T,T,T,T,T,T,T,T,T,T,T,F,F,F,F] rfl rfl (by kernel_rfl) (fun _ _ _ h=>h) (Or.inl ⟨by rfl,?_⟩) hHeld ?_ ?_
     rotate_left
     ·rintro w' ⟨s0,s1,s2,s3,s4⟩
      go_simp
      with_reducible rfl
     rotate_left
     ·simp only [pq]
      rfl
     refine pure_ (i:=11) (N:=some 47) (v:=?_) (a':=?_) #[T,T,T,T,T,T,T,T,T,T,T,T,F,F,F] rfl rfl (by kernel_rfl) (fun _ _ _ h=>h) (Or.inl ⟨by rfl,?_⟩) ?_ ?_
     rotate_left;(intro w';go_simp;with_reducible rfl);rotate_left;(simp only [pq];rfl)
     refine take_ (i:=12) (N:=some 48) (v:=?_) (a':=?_) #[T,T,T,T,T,T,T,T,T,T,T,T,T,F,F] rfl rfl (by kernel_rfl) (fun _ _ _ h=>h) (Or.inl ⟨by rfl,?_⟩) hHeld ?_ ?_
     rotate_left
     ·rintro w' ⟨s0,s1,s2,s3,s4⟩
      go_simp
      with_reducible rfl
     rotate_left
     ·simp only [pq]
      rfl
     refine one_ (i:=13) (N:=some 5) #[T,T,T,T,T,T,T,T,T,T,T,T,T,T,F] rfl rfl (by kernel_rfl) (by decide) (fun K hK=>?_)
     refine value_ (w1:=?_) (v:=?_) (by rfl) rfl ?_ ?_
     rotate_left 2
     ·go_simp
      constructor
      ·rfl
      ·rfl
     refine hK.out _ _ ⟨pw_cell_below HAL.out H41.out,pw_cell_below HAL.out H51.out,pw_cell_below HAL.out HX1.out,pw_cell_below HAL.out E01.out,pw_cell_below HAL.out E11.out⟩ (fun hHeld=>?_)
     clear hK K;refine norm_ (a':=?_) ?_ ?_
     rotate_left
     ·show Act.put _ (some 5) _=_
      simp only [pq];rfl
     refine last_ (i:=14) (N:=none) #[T,T,T,T,T,T,T,T,T,T,T,T,T,T,T] rfl rfl (by kernel_rfl) (by decide) (fun K hK=>?_)
     refine skip_ (w1:=?_) (by rfl) rfl ?_ ?_
     rotate_left
     ·go_simp
      rfl
     refine hK.out _ _ ?_
     clear hK K;refine done_ (by kernel_rfl) ?_
     clear hHeld;have HB2:Aside0 (Below w1.heap.size w1 (w1.alloc (.cells #[.int .i64 p.f0,.slice A5' p.f1.length c5'] 55)).drew):=⟨aO (aN (Below.refl _ w1) _)⟩;have HPB:Aside0 ((w1.alloc (.cells #[.int .i64 p.f0,.slice A5' p.f1.length c5'] 55)).drew.heap[w1.heap.size]?=some (.cells #[.int .i64 p.f0,.slice A5' p.f1.length c5'] 55 (0,0))):=⟨heap_alloc_new w1 _⟩
     go_upto_region 4 with fail
     have HBK2:=aM (bF HBK1.out HB2.out);have HR2:=aM (HR1.out.below HB2.out);have HBW2:Aside0 (Below w0.heap.size w0 (w1.alloc (.cells #[.int .i64 p.f0,.slice A5' p.f1.length c5'] 55)).drew):=⟨HB1.out.trans (HB2.out.mono HB1.out.size)⟩;have HPN:Aside0 (w0.heap.size≤w1.heap.size):=⟨HB1.out.size⟩;generalize (w1.alloc (.cells #[.int .i64 p.f0,.slice A5' p.f1.length c5'] 55)).drew=w2 at HPB HBK2 HR2 HBW2 ⊢;generalize w1.heap.size=PB at HPB HPN ⊢;clear HAL HDR HB2 H41 H51 HX1 E01 E11 HBK1 HR1 HB1;obtain⟨i0,hi0,hz0⟩:=Option.map_eq_some_iff.1 infoInt17;simp only [Prod.mk.injEq] at hz0;obtain⟨As',hcut,hCt⟩:=cut_tail (P:=Try.prog) (Kd.int .i64) 27 3 Try.underlying27 hi0 hz0.2.1 (some ad) cs x xs HSC.out;have HST2:=aM (hCt w0 HST.out);have q5:w2.cell? ⟨G,5,none⟩=some (.slice (some ad) (xs.length+1) cs):=(aG HBK2.out 5).trans rfl;have f5:=aH HBK2.out 5;have HSC2:Aside0 (xs.length≤cs - 1):=⟨by have:=HSC.out;simp only [List.length_cons] at this;omega⟩;clear hCt hz0 hi0
     go_upto_region 5 with fail
     have HBK3:Aside0 ((w2.setCell ⟨G,5,none⟩ (.slice As' xs.length (cs - 1))).heap[G]?=some (growObj C As' xs.length (cs - 1) at_ sv nv)):=⟨blk_put HBK2.out 5 _ rfl⟩;have HPB3:Aside0 ((w2.setCell ⟨G,5,none⟩ (.slice As' xs.length (cs - 1))).heap[PB]?=some (.cells #[.int .i64 p.f0,.slice A5' p.f1.length c5'] 55 (0,0))):=⟨blk_far HPB.out (p:=⟨G,5,none⟩) (blk_ne HPB.out HBK2.out (by decide)) _⟩;have HR3:Aside0 (GRows w0 w0.heap.size frs nds [] sv nv (w2.setCell ⟨G,5,none⟩ (.slice As' xs.length (cs - 1)))):=⟨HR2.out.set HBK2.out (by decide) 5 _⟩;have HBW3:Aside0 (Below w0.heap.size w0 (w2.setCell ⟨G,5,none⟩ (.slice As' xs.length (cs - 1)))):=⟨aL HBW2.out HGG.out⟩;generalize w2.setCell ⟨G,5,none⟩ (.slice As' xs.length (cs - 1))=w3 at HBK3 HPB3 HR3 HBW3 ⊢;clear q5 f5 HBK2 HPB HR2 HBW2 hcut;obtain⟨Av,cv,esv⟩:=Kd.R_slice HR3.out.st;have hfl:frs.length=fs.length:=by have h:=congrArg List.length HEF.out;simpa using h
     have HFL:Aside0 (frs.length≤1000000000000):=⟨by rw [hfl];exact HN.out⟩;clear hfl;subst esv;rw [frRows_len] at HR3 HBK3;obtain⟨fl,efl⟩:∃fl,fl=frs.length:=⟨_,rfl⟩;rw [←efl] at HR3 HBK3;have HEL:=aM efl;have HBD3:Aside0 (w0.heap.size≤w3.heap.size):=⟨HBW3.out.size⟩;clear efl;refine start_ (n:=14) (S:=fun w'=>w'.cell? ⟨G,8,none⟩=some (.slice Av fl cv)∧w'.cell? ⟨PB,1,none⟩=some (.slice A5' p.f1.length c5')) (ds:= [13]) #[F,F,F,F,F,F,F,F,F,F,F,F,F,F] (by kernel_rfl) rfl rfl ⟨(aG HBK3.out 8).trans rfl,(aG HPB3.out 1).trans rfl⟩ (fun hHeld=>?_)
     refine pure_ (i:=0) (N:=some 57) (v:=?_) (a':=?_) #[T,F,F,F,F,F,F,F,F,F,F,F,F,F] rfl rfl (by kernel_rfl) (fun _ _ _ h=>h) (Or.inl ⟨by rfl,?_⟩) ?_ ?_
     rotate_left;(intro w';go_simp;with_reducible rfl);rotate_left;(simp only [pq];rfl)
     refine pure_ (i:=1) (N:=some 58) (v:=?_) (a':=?_) #[T,T,F,F,F,F,F,F,F,F,F,F,F,F] rfl rfl (by kernel_rfl) (fun _ _ _ h=>h) (Or.inl ⟨by rfl,?_⟩) ?_ ?_
     rotate_left;(intro w';go_simp;with_reducible rfl);rotate_left;(simp only [pq];rfl)
     refine pure_ (i:=2) (N:=some 59) (v:=?_) (a':=?_) #[T,T,T,F,F,F,F,F,F,F,F,F,F,F] rfl rfl (by kernel_rfl) (fun _ _ _ h=>h) (Or.inl ⟨by rfl,?_⟩) ?_ ?_
     rotate_left;(intro w';go_simp;with_reducible rfl);rotate_left;(simp only [pq];rfl)
     refine pure_ (i:=3) (N:=some 60) (v:=?_) (a':=?_) #[T,T,T,T,F,F,F,F,F,F,F,F,F,F] rfl rfl (by kernel_rfl) (fun _ _ _ h=>h) (Or.inl ⟨by rfl,?_⟩) ?_ ?_
     rotate_left;(intro w';go_simp;with_reducible rfl);rotate_left;(simp only [pq];rfl)
     refine pure_ (i:=5) (N:=some 62) (v:=?_) (a':=?_) #[T,T,T,T,F,T,F,F,F,F,F,F,F,F] rfl rfl (by kernel_rfl) (fun _ _ _ h=>h) (Or.inl ⟨by rfl,?_⟩) ?_ ?_
     rotate_left;(intro w';go_simp;with_reducible rfl);rotate_left;(simp only [pq];rfl)
     refine pure_ (i:=6) (N:=some 63) (v:=?_) (a':=?_) #[T,T,T,T,F,T,T,F,F,F,F,F,F,F] rfl rfl (by kernel_rfl) (fun _ _ _ h=>h) (Or.inl ⟨by rfl,?_⟩) ?_ ?_
     rotate_left;(intro w';go_simp;with_reducible rfl);rotate_left;(simp only [pq];rfl)
     refine take_ (i:=4) (N:=some 61) (v:=?_) (a':=?_) #[T,T,T,T,T,T,T,F,F,F,F,F,F,F] rfl rfl (by kernel_rfl) (fun _ _ _ h=>h) (Or.inl ⟨by rfl,?_⟩) hHeld ?_ ?_
     rotate_left
     ·rintro w' ⟨s0,s1⟩
      go_simp
      with_reducible rfl
     rotate_left
     ·simp only [pq]
      rfl
     refine take_ (i:=7) (N:=some 64) (v:=?_) (a':=?_) #[T,T,T,T,T,T,T,T,F,F,F,F,F,F] rfl rfl (by kernel_rfl) (fun _ _ _ h=>h) (Or.inl ⟨by rfl,?_⟩) hHeld ?_ ?_
     rotate_left
     ·rintro w' ⟨s0,s1⟩
      go_simp
      with_reducible rfl
     rotate_left
     ·simp only [pq]
      rfl
     refine pure_ (i:=8) (N:=some 65) (v:=?_) (a':=?_) #[T,T,T,T,T,T,T,T,T,F,F,F,F,F] rfl rfl (by kernel_rfl) (fun _ _ _ h=>h) (Or.inl ⟨by rfl,?_⟩) ?_ ?_
     rotate_left;(intro w';go_simp;with_reducible rfl);rotate_left;(simp only [pq];rfl)
     refine one_ (i:=9) (N:=some 66) #[T,T,T,T,T,T,T,T,T,T,F,F,F,F] rfl rfl (by kernel_rfl) (by decide) (fun K hK=>?_)
     refine value_ (w1:=?_) (v:=?_) (by rfl) rfl ?_ ?_
     rotate_left 2
     ·go_simp
      constructor
      ·rfl
      ·rfl
     refine hK.out _ _ ⟨(aG (aI HBK3.out _) 8).trans rfl,(aG (aI HPB3.out _) 1).trans rfl⟩ (fun hHeld=>?_)
     clear hK K;refine norm_ (a':=?_) ?_ ?_
     rotate_left
     ·show Act.put _ (some 66) _=_
      simp only [pq];rfl
     refine one_ (i:=10) (N:=some 67) #[T,T,T,T,T,T,T,T,T,T,T,F,F,F] rfl rfl (by kernel_rfl) (by decide) (fun K hK=>?_)
     rw [show(w3.alloc (.cells #[.int .i64 rule,.slice A5' p.f1.length c5',.slice none 0 0] 112)).drew=w3.drew.alloc (.cells #[.int .i64 rule,.slice A5' p.f1.length c5',.slice none 0 0] 112) from rfl];refine Kd.R_append_step (Kd.raw 3) (w0:=w3.drew) w0.heap.size (by rfl) (.tmp 61) (.tmp 66) 77 112 (.agg #[.int .i64 0,.slice none 0 0,.slice none 0 0]) 56 rfl Try.underlying77 infoFrame rfl (by decide) (by omega) (.slice Av fl cv) (frRows frs) [.int .i64 rule,.slice A5' p.f1.length c5',.slice none 0 0] [.int .i64 rule,.slice A5' p.f1.length c5',.slice none 0 0] (fun _=>True) (fun _=>False) rfl rfl ⟨rfl,rfl,by simp [Value.oneCell']⟩ (fun _ hk=>hk.elim) (fun _ _=>trivial) (aC HR3.out.st) (Below.refl _ _) HBD3.out (by have:=HFL.out;rw [frRows_len];omega) ?_
     intro v1 w4 ho hb hg hat;obtain⟨A1,n1,c1,rfl⟩:∃An ln cn,v1= .slice An ln cn:=by obtain⟨An,cn,e⟩:=Kd.R_slice ho;exact⟨An,_,cn,e⟩
     have HBK4:=aM (blk_grown (aK HBK3.out) hg (Kd.R_ne HR3.out.st HBK3.out (by decide)));have HPB4:=aM (blk_grown (aK HPB3.out) hg (Kd.R_ne HR3.out.st HPB3.out (by decide)));have HR4:=aM ((HR3.out.below (aO (Below.refl _ w3))).push ho hg HL5.out);have HBW4:Aside0 (Below w0.heap.size w0 w4):=⟨(aO HBW3.out).trans hb⟩;have f8:=aH HBK4.out 8;clear ho hb hg hat;refine hK.out _ _ ⟨(aG HBK4.out 8).trans rfl,(aG HPB4.out 1).trans rfl⟩ (fun hHeld=>?_)
     clear hK K;refine norm_ (a':=?_) ?_ ?_
     rotate_left
     ·show Act.put _ (some 67) _=_
      simp only [pq];rfl
     refine pure_ (i:=11) (N:=some 68) (v:=?_) (a':=?_) #[T,T,T,T,T,T,T,T,T,T,T,T,F,F] rfl rfl (by kernel_rfl) (fun _ _ _ h=>h) (Or.inl ⟨by rfl,?_⟩) ?_ ?_
     rotate_left;(intro w';go_simp;with_reducible rfl);rotate_left;(simp only [pq];rfl)
     refine pure_ (i:=12) (N:=some 69) (v:=?_) (a':=?_) #[T,T,T,T,T,T,T,T,T,T,T,T,T,F] rfl rfl (by kernel_rfl) (fun _ _ _ h=>h) (Or.inl ⟨by rfl,?_⟩) ?_ ?_
     rotate_left;(intro w';go_simp;with_reducible rfl);rotate_left;(simp only [pq];rfl)
     refine last_ (i:=13) (N:=none) #[T,T,T,T,T,T,T,T,T,T,T,T,T,T] rfl rfl (by kernel_rfl) (by decide) (fun K hK=>?_)
     refine skip_ (w1:=?_) (by rfl) rfl ?_ ?_
     rotate_left
     ·go_simp
      rfl
     refine hK.out _ _ ?_
     clear hK K;refine done_ (by kernel_rfl) ?_
     clear hHeld
     go_upto_region 6 with fail
     have HBK5:Aside0 ((w4.setCell ⟨G,8,none⟩ (.slice A1 n1 c1)).heap[G]?=some (growObj C As' xs.length (cs - 1) at_ (.slice A1 n1 c1) nv)):=⟨blk_put HBK4.out 8 _ rfl⟩;have HPB5:Aside0 ((w4.setCell ⟨G,8,none⟩ (.slice A1 n1 c1)).heap[PB]?=some (.cells #[.int .i64 p.f0,.slice A5' p.f1.length c5'] 55 (0,0))):=⟨blk_far HPB4.out (p:=⟨G,8,none⟩) (blk_ne HPB4.out HBK4.out (by decide)) _⟩;have HR5:=aM (HR4.out.set HBK4.out (by decide) 8 (.slice A1 n1 c1));have HBW5:Aside0 (Below w0.heap.size w0 (w4.setCell ⟨G,8,none⟩ (.slice A1 n1 c1))):=⟨aL HBW4.out HGG.out⟩;generalize w4.setCell ⟨G,8,none⟩ (.slice A1 n1 c1)=w5 at HBK5 HPB5 HR5 HBW5 ⊢;clear HBK4 HPB4 HR4 HBW4 f8 HBK3 HPB3 HR3 HBW3;have q0:w5.cell? ⟨PB,0,none⟩=some (.int .i64 p.f0):=(aG HPB5.out 0).trans rfl;have HGF:Aside0 (GI C w0 G ⟨xs,at_,⟨rule,p.f1,[]⟩::fs,ms⟩ w5):=⟨⟨_,nds,As',cs - 1,_,nv,HBK5.out,by rw [List.map_cons,HEF.out];rfl,HEN.out,HST2.out,HSC2.out,HR5.out,HBW5.out⟩⟩;clear HBK5 HPB5 HR5 HBW5;go_wp2
     go_ret
     exact⟨by first|rfl|(congr 2;done)|(simp;done),HGF.out⟩
def leavesRes:Option (List Int)→List Int×Int
 |none=>([],90)
 |some l=>(l,0)
def tree_Leaves.f (k:Nat) (aA:List S34) (aQ:List S59):Option (List Int×Int):=
 if aA.length=0 then some ([],90) else
  if aA.length≤1000000000000∧aQ.length≤1000000000000 then(lRun aA aQ.length k [((aA.length - 1:Nat),kidsAt aA (aA.length - 1:Nat))] 0 []).bind fun q=>some (leavesRes q) else none
theorem tree_Leaves.mono:∀aA aQ k,LeO (tree_Leaves.f k aA aQ) (tree_Leaves.f (k+1) aA aQ):=by
 intro aA aQ k
 unfold tree_Leaves.f
 exact LeO.ite (LeO.refl _) (LeO.ite (LeO.bind (lRun_mono _ _ _ _ _ _) (fun _=>LeO.refl _)) (LeO.refl _))
theorem infoPlace17:(Try.prog.info? 82).map (fun i=>(i.zero,i.size,i.bytes))=some (some (.agg #[.int .i64 0,.slice none 0 0]),2,32):=by kernel_rfl
set_option maxHeartbeats 8000000 in
set_option maxRecDepth 100000 in
theorem tree_Leaves.calls (k:Nat) (bC:Option Addr) (bE:Nat) (aA:List S34) (bK:Option Addr) (bM:Nat) (aQ:List S59) (r1:List Int) (r2:Int) (w:World)
 (dC:Kd.C k34 w bC aA.length aA) (dV:aA.length≤bE) (dK:Kd.C k59 w bK aQ.length aQ) (dW:aQ.length≤bM)
 (h:tree_Leaves.f k aA aQ=some (r1,r2)):
 Calls Try.prog 17 #[.agg #[.slice bC aA.length bE,.slice bK aQ.length bM]] w fun e w'=>∃v0_:Value,e= .returned (.tuple #[v0_,.int .i64 r2])∧Kd.V (Kd.int .i64) 3 w' w.heap.size (fun k_=>(w.heap.size≤k_)) v0_ r1∧Below w.heap.size w w':=by
 have HQ:=aM h;have HW:Aside0 (Below w.heap.size w (w.alloc (.cells #[.slice bC aA.length bE,.slice bK aQ.length bM] 31))):=⟨(Below.refl _ w).alloc (Nat.le_refl _) _⟩;have HTB:Aside0 ((w.alloc (.cells #[.slice bC aA.length bE,.slice bK aQ.length bM] 31)).heap[w.heap.size]?=some (.cells #[.slice bC aA.length bE,.slice bK aQ.length bM] 31 (0,0))):=⟨blk_new w _⟩;have HC0:Aside0 (Kd.C k34 (w.alloc (.cells #[.slice bC aA.length bE,.slice bK aQ.length bM] 31)) bC aA.length aA):=⟨bD dC HW.out⟩;clear h dC dV dK dW;go_enter Try.func17,Try.ntmps17
 go_upto_region 1 with fail
 generalize w.alloc (.cells #[.slice bC aA.length bE,.slice bK aQ.length bM] 31)=w1 at HW HTB HC0 ⊢;generalize htb:w.heap.size=TB at HTB ⊢;have HTBE:=aM htb;clear htb;have q0:w1.cell? ⟨TB,0,none⟩=some (.slice bC aA.length bE):=(aG HTB.out 0).trans rfl
 by_cases hn:aA.length=0
 ·have HR:Aside0 (r1= []∧r2=90):=⟨by have h:=HQ.out;unfold tree_Leaves.f at h;rw [if_pos hn] at h;have h:=Option.some.inj h;simp only [Prod.mk.injEq] at h;exact⟨h.1.symm,h.2.symm⟩⟩
  have hn2:((aA.length:Int)==0)=true:=by simp [hn]
  have hn3:(aA.length==0)=true:=by simp [hn]
  clear hn;go_wp2
  go_ret2
  obtain⟨rfl,rfl⟩:=HR.out;exact⟨_,rfl,Kd.V_nil _ _ _ _ _,HW.out⟩
 ·obtain⟨m,hm⟩:∃m,aA.length=m+1:=⟨aA.length - 1,by omega⟩
  have hf:=HQ.out
  unfold tree_Leaves.f at hf
  rw [if_neg hn] at hf
  split at hf
  case isFalse=>simp at hf
  rename_i hsz
  obtain⟨q,hq,hr⟩:=Option.bind_eq_some_iff.1 hf;have HRES:=aM (Option.some.inj hr);rw [show aA.length - 1=m by omega] at hq;have HRUN:=aM hq;have HM:Aside0 (aA.length=m+1):=⟨hm⟩;have HL1:=aM hsz.2;have hm3:(m:Int)≤1000000000000:=by omega
  have hn3:((m+1:Nat)==0)=false:=by simp
  have hn2:(((m+1:Nat):Int)==0)=false:=by simp only [beq_eq_false_iff_ne,ne_eq];omega
  have hn4:((m:Int)+1==0)=false:=by simp only [beq_eq_false_iff_ne,ne_eq];omega
  have hx1:((m:Int)<(m:Int)+1)=True:=eq_true (by omega);obtain⟨lN,A5,c5,eA0,y1,hC5,hle5⟩:=kids_at HC0.out (Below.refl _ w1) (m:Int) (by omega) (by omega);rw [Int.toNat_natCast] at y1;have HL5:=aM (And.intro hC5 hle5);subst eA0;rw [hm] at q0;clear hf hsz hq hr hn hm hC5 hle5 HQ
  go_upto_region 6 with fail
  have HST0:Aside0 (LRows w1 (m+1) w1.heap.size [⟨(m:Int),A5,c5,kidsAt aA (m:Int)⟩] [] (.slice (some ⟨w1.heap.size,0,none⟩) 1 1) (.slice none 0 0) (w1.alloc (.cells #[.int .i64 (m:Int),.slice A5 (kidsAt aA (m:Int)).length c5] 82))):=⟨⟨raw_one w1 _ 2 82 [.int .i64 (m:Int),.slice A5 (kidsAt aA (m:Int)).length c5] (Nat.le_refl _) rfl (by simp [Value.oneCell']),Kd.R_nil _ _ _ _ _,fun f hf=>by rw [List.mem_singleton.1 hf];exact⟨HL5.out,by simp only;omega⟩⟩⟩;have HB0:Aside0 (Below w1.heap.size w1 (w1.alloc (.cells #[.int .i64 (m:Int),.slice A5 (kidsAt aA (m:Int)).length c5] 82))):=⟨aN (Below.refl _ w1) _⟩;generalize w1.alloc (.cells #[.int .i64 (m:Int),.slice A5 (kidsAt aA (m:Int)).length c5] 82)=w2 at HST0 HB0 ⊢;generalize (⟨w1.heap.size,0,none⟩:Addr)=sa at HST0 ⊢;clear q0 y1 hn2 hn3 hn4 hx1
  go_upto_region 7 with fail
  go_loopg [5,6,7] k (fun kq v5 v6 v7 wr=>∃(fs:List PlM) (out:List Int) (n:Nat),v7= .int .i64 (n:Int)∧Aside0 (lRun aA aQ.length kq (fs.map PlM.pl) n out=some q)∧Aside0 (LRows w1 (m+1) w1.heap.size fs out v6 v5 wr)∧Aside0 (Below w1.heap.size w1 wr)∧Aside0 (out.length≤n∧fs.length≤n+1∧n≤100000))
  case atStart=>exact⟨[⟨(m:Int),A5,c5,kidsAt aA (m:Int)⟩],[],0,rfl,HRUN,HST0,HB0,⟨by simp⟩⟩
  case round=>
   clear HRUN HST0 HB0;obtain⟨fs,out,n,rfl,HRUN,HR,HB,HSZ⟩:=hrel;obtain⟨Ao,co,rfl⟩:=Kd.R_slice HR.out.ot
   cases gk with
   |zero=>exact absurd HRUN.out (by simp [lRun])
   |succ gk=>
    cases fs with
    |nil=>
     obtain⟨Av,cv,rfl⟩:=Kd.R_slice HR.out.st;have hq:=HRUN.out;rw [List.map_nil,lRun] at hq;have HQE:=aM (Option.some.inj hq);have HCL:=aM (aF HR.out.ot).2.1;clear hq;rw [show(plRows []).length=0 from rfl];have d1:decide ((0:Int)<0)=false:=by decide
     go_wp2_with (first|(go_at_call 29;(with_reducible refine(clip_walk HCL.out).mono ?_);rintro e w4 ⟨rfl,rfl⟩))
     go_ret2
     have hres:=HRES.out;rw [←HQE.out] at hres;obtain⟨rfl,rfl⟩:out=r1∧(0:Int)=r2:=by simpa [leavesRes] using hres
     exact⟨_,rfl,Kd.V_mk (Nat.le_refl _) (Kd.F_mono (Kd.R_F (Kd.R_bound HR.out.ot)) (fun j hj=>Nat.le_trans HW.out.size hj.2.1)),HW.out.trans (HB.out.mono HW.out.size)⟩
    |cons u fs=>
     obtain⟨node,A,c,left⟩:=u;obtain⟨g,cap,rfl,hcap,hgb,hgl,hgt,c0,c1,hfz⟩:=HR.out.top;obtain⟨m2,em⟩:∃m2,m2=fs.length:=⟨_,rfl⟩;rw [←em] at hcap c0 c1 hfz;have hm3':(m2:Int)≤1000000000000:=by have:=HSZ.out;simp only [List.length_cons] at this;omega
     have hx1:((m2:Int)<(m2:Int)+1)=True:=eq_true (by omega);have hpos:decide ((0:Int)<(m2:Int)+1)=true:=decide_eq_true (by omega);have hpos2:decide (0<m2+1)=true:=decide_eq_true (by omega);have HGB:=aM hgb;have HEM:=aM em;have hlf:=HR.out.lf _ (List.mem_cons_self ..);simp only at hlf;have HLF:=aM hlf;have hq:=HRUN.out;rw [←em];clear hgb hgl hgt em hlf HRUN
     cases left with
     |nil=>
      rw [List.map_cons,PlM.pl,lRun] at hq;have HRUN:=aM hq;have HR2:=aM HR.out.pop;rw [←HEM.out] at HR2;obtain⟨i0,hi0,hz0⟩:=Option.map_eq_some_iff.1 infoPlace17;have hcut:=cut_to (P:=Try.prog) 83 82 .i64 Try.underlying83 hi0 (some ⟨g,0,none⟩) (m2+1) cap (m2:Int) (by omega) (by omega) hcap;rw [Int.toNat_natCast] at hcut;clear hi0 hz0 hq hcap hfz;go_wp2
      go_roundg gk
      case measure=>exact Nat.lt_succ_self _
      case rel=>exact⟨fs,out,n,rfl,HRUN,HR2,HB,⟨by have:=HSZ.out;simp only [List.length_cons] at this;omega⟩⟩
     |cons x l=>
      have HQ:=aM hq;clear hq;have hlf:=HLF.out;obtain⟨adk,eA,hx⟩:=Kd.at_int (bD hlf.1.1 HB.out) 0 (by omega) (by simp);subst eA;have HX:wr.cell? adk=some (.int .i64 x):=by rw [show(0:Int).toNat=0 from rfl,add_zero17] at hx;exact hx
      have f1:=hfz 1;have hz:((0:Int)<((x::l).length:Int))=True:=eq_true (by simp only [List.length_cons];omega);have hz2:(((x::l).length:Int)==0)=false:=by simp only [List.length_cons,beq_eq_false_iff_ne,ne_eq];omega
      have hz3:((l.length:Int)+1==0)=false:=by simp only [beq_eq_false_iff_ne,ne_eq];omega
      obtain⟨i0,hi0,hz0⟩:=Option.map_eq_some_iff.1 infoInt17;simp only [Prod.mk.injEq] at hz0;obtain⟨A',hcut,hCt⟩:=cut_tail (P:=Try.prog) (Kd.int .i64) 27 3 Try.underlying27 hi0 hz0.2.1 (some adk) c x l hlf.1.2;have HLF2:Aside0 (Kd.C (Kd.int .i64) w1 A' l.length l∧l.length≤c - 1):=⟨hCt w1 HLF.out.1.1,by have:=HLF.out.1.2;simp only [List.length_cons] at this;omega⟩;have HN3:(n:Int)≤100000:=by have:=HSZ.out;omega
      have HR2:=aM (HR.out.left HLF2.out);rw [←HEM.out] at HR2;have HB2:Aside0 (Below w1.heap.size w1 (wr.setCell ⟨g,m2 * 2+1,none⟩ (.slice A' l.length (c - 1)))):=⟨aL HB.out HGB.out⟩;clear hCt hz0 hi0 hlf hx hcap hfz
      go_upto_region 15 with fail
      generalize wr.setCell ⟨g,m2 * 2+1,none⟩ (.slice A' l.length (c - 1))=w4 at HR2 HB2 ⊢;obtain⟨g',cap',eg,_,hgb2,_,_,c0,c1,hfz⟩:=HR2.out.top;obtain⟨rfl⟩:g=g':=by injection eg with e;injection e with e;injection e
      rw [←HEM.out] at c0;rw [List.map_cons,PlM.pl,lRun] at HQ;have q1:w4.cell? ⟨TB,1,none⟩=some (.slice bK aQ.length bM):=(aG (bF HTB.out HB2.out) 1).trans rfl;have q0:w4.cell? ⟨TB,0,none⟩=some (.slice (some lN) (m+1) bE):=by have h:=(aG (bF HTB.out HB2.out) 0).trans rfl;rw [HM.out] at h;exact h
      have hx3:=HX;clear c1 hfz eg hgb2 HX f1 hcut hx1 hpos hpos2 hz hz2 hz3 HR HB;have HNW:wrap64 ((n:Int)+1)=(n:Int)+1:=wrap64_id (by omega) (by omega);generalize hz:wrap64 (-1 - x)=z at HQ;have HZE:=aM hz
      by_cases g1:node≤x
      ·have d1:decide (node≤x)=true:=decide_eq_true g1
       have HR:Aside0 (r1= []∧r2=90):=⟨by have h:=HQ.out;rw [if_pos (.inl g1)] at h;have hres:=HRES.out;rw [←Option.some.inj h] at hres;simpa [leavesRes,eq_comm] using hres⟩;clear g1 HNW hz;go_wp2
       go_ret2
       obtain⟨rfl,rfl⟩:=HR.out;exact⟨_,rfl,Kd.V_nil _ _ _ _ _,HW.out.trans (HB2.out.mono HW.out.size)⟩
      ·have d1:decide (node≤x)=false:=decide_eq_false g1
       by_cases g2:(aQ.length:Int)≤z
       ·have d2:decide ((aQ.length:Int)≤z)=true:=decide_eq_true g2
        have HR:Aside0 (r1= []∧r2=90):=⟨by have h:=HQ.out;rw [if_pos (.inr (.inl g2))] at h;have hres:=HRES.out;rw [←Option.some.inj h] at hres;simpa [leavesRes,eq_comm] using hres⟩;clear g1 g2 HNW;go_wp2
        go_ret2
        obtain⟨rfl,rfl⟩:=HR.out;exact⟨_,rfl,Kd.V_nil _ _ _ _ _,HW.out.trans (HB2.out.mono HW.out.size)⟩
       ·have d2:decide ((aQ.length:Int)≤z)=false:=decide_eq_false g2
        by_cases g3:100000<n+1
        ·have d3:decide ((100000:Int)<(n:Int)+1)=true:=decide_eq_true (by omega)
         have HR:Aside0 (r1= []∧r2=90):=⟨by have h:=HQ.out;rw [if_pos (.inr (.inr g3))] at h;have hres:=HRES.out;rw [←Option.some.inj h] at hres;simpa [leavesRes,eq_comm] using hres⟩;clear g1 g2 g3 HNW;go_wp2
         go_ret2
         obtain⟨rfl,rfl⟩:=HR.out;exact⟨_,rfl,Kd.V_nil _ _ _ _ _,HW.out.trans (HB2.out.mono HW.out.size)⟩
        ·have d3:decide ((100000:Int)<(n:Int)+1)=false:=decide_eq_false (by omega)
         have HQ2:=HQ.out;rw [if_neg (fun e=>e.elim g1 (fun e=>e.elim g2 g3))] at HQ2;have HN4:Aside0 (n+1≤100000):=⟨by omega⟩;have HBZ:Aside0 (w1.heap.size≤w4.heap.size):=⟨HB2.out.size⟩
         by_cases g4:x<0
         ·have d4:decide (x<0)=true:=decide_eq_true g4
          rw [if_pos g4] at HQ2;have HRUN:=aM HQ2;clear g1 g2 g3 g4 HNW HQ2 HQ
          go_wp2_with (first|((with_reducible refine gate_builtin (b:= .append) (xs:=#[.tmp 91,.tmp 94]) rfl ?_);at_builtin;refine Kd.R_append (Kd.int .i64) (w0:=w4) w1.heap.size rfl (.tmp 91) (.tmp 94) 27 3 (.int .i64 0) 8 rfl Try.underlying27 infoInt17 rfl (by decide) (by omega) (.slice Ao out.length co) out z [.int .i64 z] (fun _=>True) (fun _=>False) rfl rfl rfl (fun _ hk=>hk.elim) (fun _ _=>trivial) HR2.out.ot (Below.refl _ _) HBZ.out (by have:=HSZ.out;omega) ?_;intro v1 w5 ho hb hg hat;have HR5:=aM (HR2.out.leaf ho hg);have HB5:Aside0 (Below w1.heap.size w1 w5):=⟨HB2.out.trans hb⟩;clear ho hb hg hat q0 q1))
          go_roundg gk
          case measure=>exact Nat.lt_succ_self _
          case rel=>exact⟨⟨node,A',c - 1,l⟩::fs,out++ [z],n+1,rfl,HRUN,HR5,HB5,⟨by have:=HSZ.out;have:=HN4.out;simp only [List.length_cons,List.length_append,List.length_nil] at *;omega⟩⟩
         ·have d4:decide (x<0)=false:=decide_eq_false g4
          rw [if_neg g4] at HQ2;have HRUN:=aM HQ2;have HXN:Aside0 (x<((m+1:Nat):Int)):=⟨by have:=HLF.out.2;omega⟩;obtain⟨ad',A6,c6,eA0,y1,hC6,hle6⟩:=kids_at HC0.out HB2.out x (by omega) (by have:=HXN.out;have:=HM.out;omega);obtain⟨rfl⟩:lN=ad':=Option.some.inj eA0;have hx1:(0≤x)=True:=eq_true (by omega);have hx2:(x<(m:Int)+1)=True:=eq_true (by have:=HXN.out;omega);have HL6:=aM (And.intro hC6 hle6);clear g1 g2 g3 g4 HNW HQ2 HQ eA0 hC6 hle6
          go_wp2_with (first|((with_reducible refine gate_builtin (b:= .append) (xs:=#[.tmp 62,.tmp 71]) rfl ?_);at_builtin;refine Kd.R_append (Kd.raw 2) (w0:=w4) w1.heap.size rfl (.tmp 62) (.tmp 71) 83 82 (.agg #[.int .i64 0,.slice none 0 0]) 32 rfl Try.underlying83 infoPlace17 rfl (by decide) (by omega) (.slice (some ⟨g,0,none⟩) (m2+1) cap) (plRows (⟨node,A',c - 1,l⟩::fs)) [.int .i64 x,.slice A6 (kidsAt aA x).length c6] [.int .i64 x,.slice A6 (kidsAt aA x).length c6] (fun _=>True) (fun _=>False) rfl rfl ⟨rfl,rfl,by simp [Value.oneCell']⟩ (fun _ hk=>hk.elim) (fun _ _=>trivial) HR2.out.st (Below.refl _ _) HBZ.out (by have:=HSZ.out;rw [plRows_len];simp only [List.length_cons] at *;omega) ?_;intro v1 w5 ho hb hg hat;have HR5:=aM (HR2.out.push ho hg ⟨HL6.out,HXN.out⟩);have HB5:Aside0 (Below w1.heap.size w1 w5):=⟨HB2.out.trans hb⟩;clear ho hb hg hat q0 q1))
          go_roundg gk
          case measure=>exact Nat.lt_succ_self _
          case rel=>exact⟨⟨x,A6,c6,kidsAt aA x⟩::⟨node,A',c - 1,l⟩::fs,out,n+1,rfl,HRUN,HR5,HB5,⟨by have:=HSZ.out;have:=HN4.out;simp only [List.length_cons] at *;omega⟩⟩
theorem kept17 {W w6 w7:World}{S:Nat→Prop}(h:Kept W w6 S) (hb:Below W.heap.size w6 w7):Kept W w7 S:=⟨Nat.le_trans h.1 hb.size,fun i hi hn=>(hb.block i hi).trans (h.2 i hi hn)⟩
def LvPost (w0 W:World) (G:Nat) (o:Option (List Int)) (c':Int) (e:Ending) (w':World):Prop:=
 ∃v,e= .returned (.tuple #[v,.bool o.isSome])∧Aside0 (Kd.R (Kd.int .i64) 3 w' W.heap.size (fun _=>True) v (o.getD []))∧Aside0 (w'.heap[G]?=some (.cells #[.int .i64 c'] 3 (0,0)))∧Aside0 (Kept W w' (fun k=>k=G))∧Aside0 (Below w0.heap.size w0 w')
def LvCon (w0:World) (A0:Option Addr) (N c0:Nat) (A1:Option Addr) (nl c1:Nat) (G:Nat) (rv:Int→Int→Option (Option (List Int)×Int)):Prop:=
 ∀(node c:Int) (o:Option (List Int)) (c':Int) (W:World),(0≤node∧node<(N:Int))→(0≤c∧c≤100000)→rv node c=some (o,c')→Below w0.heap.size w0 W→W.heap[G]?=some (.cells #[.int .i64 c] 3 (0,0))→
  Calls Try.prog 33 #[.agg #[.slice A0 N c0,.slice A1 nl c1],.int .i64 node,.pointer (some ⟨G,0,none⟩)] W (LvPost w0 W G o c')
set_option maxHeartbeats 8000000 in
set_option maxRecDepth 100000 in
theorem leaves_step {w0:World}{A0:Option Addr}{c0:Nat}{A1:Option Addr}{nl c1:Nat}{G:Nat}{nds:List S34}{rv:Int→Int→Option (Option (List Int)×Int)}(hG:w0.heap.size≤G) (hC:Kd.C k34 w0 A0 nds.length nds) (hk:∀x:Int,(kidsAt nds x).length≤1000000000000) (hrv:LvCon w0 A0 nds.length c0 A1 nl c1 G rv) (hsz:RvSz rv):
 ∀(node c:Int) (o:Option (List Int)) (c':Int) (W:World),(0≤node∧node<(nds.length:Int))→(0≤c∧c≤100000)→rvL nl rv node (kidsAt nds node) [] c=some (o,c')→Below w0.heap.size w0 W→W.heap[G]?=some (.cells #[.int .i64 c] 3 (0,0))→
 Calls Try.prog 33 #[.agg #[.slice A0 nds.length c0,.slice A1 nl c1],.int .i64 node,.pointer (some ⟨G,0,none⟩)] W (LvPost w0 W G o c'):=by
 intro node c o c' W hn hc hr hB hb;have HG:=aM hG;have HC:=aM hC;have HK:=aM hk;have HRV:=aM hrv;have HSZ:=aM hsz;have HN:=aM hn;have HCC:=aM hc;have HR:=aM hr;have HGL:Aside0 (G<W.heap.size):=⟨bN hb⟩;have HB1:Aside0 (Below w0.heap.size w0 (W.alloc (.cells #[.slice A0 nds.length c0,.slice A1 nl c1] 31))):=⟨aN hB _⟩;have HKW1:Aside0 (Kept W (W.alloc (.cells #[.slice A0 nds.length c0,.slice A1 nl c1] 31)) (fun k=>k=G)):=⟨(Kept.refl W _).alloc _⟩;have HTB:Aside0 ((W.alloc (.cells #[.slice A0 nds.length c0,.slice A1 nl c1] 31)).heap[W.heap.size]?=some (.cells #[.slice A0 nds.length c0,.slice A1 nl c1] 31 (0,0))):=⟨blk_new W _⟩;have HGB:Aside0 ((W.alloc (.cells #[.slice A0 nds.length c0,.slice A1 nl c1] 31)).heap[G]?=some (.cells #[.int .i64 c] 3 (0,0))):=⟨aI hb _⟩;have HSW1:Aside0 (W.heap.size<(W.alloc (.cells #[.slice A0 nds.length c0,.slice A1 nl c1] 31)).heap.size):=⟨by rw [World.size_alloc];omega⟩;clear hG hC hk hrv hsz hn hc hr hB hb;go_enter Try.func33,Try.ntmps33
 go_upto_region 1 with fail
 generalize W.alloc (.cells #[.slice A0 nds.length c0,.slice A1 nl c1] 31)=w1 at HB1 HKW1 HTB HGB HSW1 ⊢;generalize htb:W.heap.size=TB at HTB ⊢;have HTBE:=aM htb;clear htb;have q0:w1.cell? ⟨TB,0,none⟩=some (.slice A0 nds.length c0):=(aG HTB.out 0).trans rfl;obtain⟨lN,A5,c5,eA0,y1,hC5,hle5⟩:=kids_at HC.out HB1.out node HN.out.1 HN.out.2;subst eA0;have hx0:(0≤node)=True:=eq_true HN.out.1;have hx1:(node<(nds.length:Int))=True:=eq_true HN.out.2;have HC5:=aM hC5;have HL5:=aM hle5;have HKL:=aM (HK.out node);clear hC5 hle5;generalize kidsAt nds node=ks at HR y1 HC5 HL5 HKL
 go_upto_region 3 with fail
 clear q0 y1 hx0 hx1
 go_loopg [8,20] ks.length (fun kq v8 v20 wr=>∃(j:Nat) (out:List Int) (cc:Int),v20= .int .i64 (j:Int)∧j≤ks.length∧ks.length - j≤kq∧Aside0 (rvL nl rv node (ks.drop j) out cc=some (o,c'))∧Aside0 (0≤cc∧(out.length:Int)+cc≤100000)∧Aside0 (wr.heap[G]?=some (.cells #[.int .i64 cc] 3 (0,0)))∧Aside0 (wr.heap[TB]?=some (.cells #[.slice (some lN) nds.length c0,.slice A1 nl c1] 31 (0,0)))∧Aside0 (W.heap.size<wr.heap.size)∧Aside0 (Kept W wr (fun k=>k=G))∧Aside0 (Below w0.heap.size w0 wr)∧Aside0 (Kd.R (Kd.int .i64) 3 wr (W.heap.size+1) (fun _=>True) v8 out))
 case atStart=>exact⟨0,[],c,rfl,by omega,by omega,⟨by simpa using HR.out⟩,⟨by have:=HCC.out;simp;omega⟩,HGB,HTB,HSW1,HKW1,HB1,⟨Kd.R_nil _ _ _ _ _⟩⟩
 case round=>
  clear HGB HTB HSW1 HKW1 HB1 HR;obtain⟨j,out,cc,rfl,hj,hm,HQ,HO,HGB,HTB,HSW,HKW,HB,HRO⟩:=hrel;obtain⟨Ao,co,rfl⟩:=Kd.R_slice HRO.out
  by_cases hlt:j<ks.length
  ·have d0:decide (j<ks.length)=true:=decide_eq_true hlt
   have d1:(j<ks.length)=True:=eq_true hlt;have H:=HQ.out;rw [List.drop_eq_getElem_cons hlt,rvL] at H;obtain⟨adk,ea5,e0⟩:=Kd.at_int (bD HC5.out HB.out) (j:Int) (by omega) (by omega);subst ea5;have hrd:rd ks (j:Int)=ks[j]:=by simp [rd,hlt]
   rw [hrd,Int.toNat_natCast] at e0;generalize ks[j]=x at H e0;have p5:(0≤(j:Int))=True:=eq_true (by omega);have p6:((j:Int)<(ks.length:Int))=True:=eq_true (by omega);have hj12:(j:Int)≤1000000000000:=by have:=HKL.out;omega
   have hcc:(cc:Int)≤1000000000000:=by have:=HO.out;omega
   have hcc0:(0:Int)≤cc:=HO.out.1;have q0:wr.cell? ⟨G,0,none⟩=some (.int .i64 cc):=(aG HGB.out 0).trans rfl;have f0:=aH HGB.out 0;have HLT:=aM hlt;have HM:=aM hm;have HQ2:=aM H;clear hlt hm hj hrd HQ H
   go_upto_region 10 with fail
   have HGB2:Aside0 ((wr.setCell ⟨G,0,none⟩ (.int .i64 (cc - 1))).heap[G]?=some (.cells #[.int .i64 (cc - 1)] 3 (0,0))):=⟨blk_put HGB.out 0 _ rfl⟩;have HTB2:=aM (blk_far HTB.out (p:=⟨G,0,none⟩) (by have:=HTBE.out;have:=HGL.out;show TB≠G;omega) (.int .i64 (cc - 1)));have HSW2:Aside0 (W.heap.size<(wr.setCell ⟨G,0,none⟩ (.int .i64 (cc - 1))).heap.size):=⟨by have:=HSW.out;simpa [World.setCell] using this⟩;have HKW2:Aside0 (Kept W (wr.setCell ⟨G,0,none⟩ (.int .i64 (cc - 1))) (fun k=>k=G)):=⟨HKW.out.setCell (.inl rfl) _⟩;have HB2:Aside0 (Below w0.heap.size w0 (wr.setCell ⟨G,0,none⟩ (.int .i64 (cc - 1)))):=⟨aL HB.out HG.out⟩;have HRO2:Aside0 (Kd.R (Kd.int .i64) 3 (wr.setCell ⟨G,0,none⟩ (.int .i64 (cc - 1))) (W.heap.size+1) (fun _=>True) (.slice Ao out.length co) out):=⟨Kd.R_mono (aE (Kd.R_bound HRO.out) (p:=⟨G,0,none⟩) (fun k hk=>by have:=hk.2.1;have:=HGL.out;show k≠G;omega) (.int .i64 (cc - 1))) (fun _ _=>trivial)⟩;generalize wr.setCell ⟨G,0,none⟩ (.int .i64 (cc - 1))=w2 at HGB2 HTB2 HSW2 HKW2 HB2 HRO2 ⊢;clear HGB HTB HSW HKW HB HRO q0 f0;have q0:w2.cell? ⟨G,0,none⟩=some (.int .i64 (cc - 1)):=(aG HGB2.out 0).trans rfl;have q1:w2.cell? ⟨TB,1,none⟩=some (.slice A1 nl c1):=(aG HTB2.out 1).trans rfl;generalize hz:wrap64 (-1 - x)=z at HQ2;have HWJ:Aside0 (wrap64 ((j:Int)+1)=(j:Int)+1):=⟨wrap64_id (by omega) (by omega)⟩
   by_cases g1:node≤x
   ·have e1:decide (node≤x)=true:=decide_eq_true g1
    have HE:Aside0 (none=o∧cc - 1=c'):=⟨by have h:=HQ2.out;rw [if_pos (.inl g1)] at h;simpa using h⟩;clear g1;go_wp2
    go_ret2
    obtain⟨rfl,rfl⟩:=HE.out;exact⟨_,rfl,⟨Kd.R_nil _ _ _ _ _⟩,HGB2,HKW2,HB2⟩
   ·have e1:decide (node≤x)=false:=decide_eq_false g1
    by_cases g2:(nl:Int)≤z
    ·have e2:decide ((nl:Int)≤z)=true:=decide_eq_true g2
     have HE:Aside0 (none=o∧cc - 1=c'):=⟨by have h:=HQ2.out;rw [if_pos (.inr (.inl g2))] at h;simpa using h⟩;clear g1 g2;go_wp2
     go_ret2
     obtain⟨rfl,rfl⟩:=HE.out;exact⟨_,rfl,⟨Kd.R_nil _ _ _ _ _⟩,HGB2,HKW2,HB2⟩
    ·have e2:decide ((nl:Int)≤z)=false:=decide_eq_false g2
     by_cases g3:cc - 1<0
     ·have e3:decide (cc - 1<0)=true:=decide_eq_true g3
      have HE:Aside0 (none=o∧cc - 1=c'):=⟨by have h:=HQ2.out;rw [if_pos (.inr (.inr g3))] at h;simpa using h⟩;clear g1 g2 g3;go_wp2
      go_ret2
      obtain⟨rfl,rfl⟩:=HE.out;exact⟨_,rfl,⟨Kd.R_nil _ _ _ _ _⟩,HGB2,HKW2,HB2⟩
     ·have e3:decide (cc - 1<0)=false:=decide_eq_false g3
      have h2:=HQ2.out;rw [if_neg (fun e=>e.elim g1 (fun e=>e.elim g2 g3))] at h2;have HC1:Aside0 (0≤cc - 1):=⟨by omega⟩;have HBZ:Aside0 (W.heap.size+1≤w2.heap.size):=⟨HSW2.out⟩
      by_cases g4:x<0
      ·have e4:decide (x<0)=true:=decide_eq_true g4
       rw [if_pos g4] at h2;have HQ3:=aM h2;clear g1 g2 g3 g4 h2 HQ2
       go_wp2_with (first|((with_reducible refine gate_builtin (b:= .append) (xs:=#[.tmp 63,.tmp 66]) rfl ?_);at_builtin;refine Kd.R_append (Kd.int .i64) (w0:=w2) (W.heap.size+1) rfl (.tmp 63) (.tmp 66) 27 3 (.int .i64 0) 8 rfl Try.underlying27 infoInt17 rfl (by decide) (by omega) (.slice Ao out.length co) out z [.int .i64 z] (fun _=>True) (fun _=>False) rfl rfl rfl (fun _ hk=>hk.elim) (fun _ _=>trivial) HRO2.out (Below.refl _ _) HBZ.out (by have:=HO.out;have:=HC1.out;omega) ?_;intro v1 w3 ho hb hg hat;have HRO3:=aM ho;have HGB3:=aM ((hb.block G (by have:=HGL.out;omega)).trans HGB2.out);have HTB3:=aM ((hb.block TB (by have:=HTBE.out;omega)).trans HTB2.out);have HKW3:=aM (kept17 HKW2.out (hb.mono (Nat.le_succ _)));have HB3:Aside0 (Below w0.heap.size w0 w3):=⟨HB2.out.trans (hb.mono (by have:=HG.out;have:=HGL.out;omega))⟩;have HSW3:Aside0 (W.heap.size<w3.heap.size):=⟨Nat.lt_of_lt_of_le HSW2.out hb.size⟩;clear ho hb hg hat q0 q1))
       have hwj:=HWJ.out
       go_roundg (ks.length - (j+1))
       case measure=>have:=HM.out;have:=HLT.out;omega
       case rel=>exact⟨j+1,out++ [z],cc - 1,rfl,by have:=HLT.out;omega,Nat.le_refl _,HQ3,⟨by have:=HO.out;have:=HC1.out;simp only [List.length_append,List.length_cons,List.length_nil];omega⟩,HGB3,HTB3,HSW3,HKW3,HB3,HRO3⟩
      ·have e4:decide (x<0)=false:=decide_eq_false g4
       rw [if_neg g4] at h2;obtain⟨⟨o1,c2⟩,hr1,hr2⟩:=Option.bind_eq_some_iff.1 h2;have PC:Aside0 (∀W',Below w2.heap.size w2 W'→Calls Try.prog 33 #[.agg #[.slice (some lN) nds.length c0,.slice A1 nl c1],.int .i64 x,.pointer (some ⟨G,0,none⟩)] W' (LvPost w0 W' G o1 c2)):=⟨fun W' hW=>HRV.out x (cc - 1) o1 c2 W' ⟨by omega,by have:=HN.out.2;omega⟩ ⟨HC1.out,by have:=HO.out;omega⟩ hr1 (HB2.out.trans (hW.mono HB2.out.size)) (bF HGB2.out hW)⟩;obtain⟨z1,z2,z3⟩:=HSZ.out x (cc - 1) o1 c2 HC1.out hr1;have HZ3:=aM z3;have HR2:=aM hr2;have q3:w2.cell? ⟨TB,0,none⟩=some (.slice (some lN) nds.length c0):=(aG HTB2.out 0).trans rfl;clear g1 g2 g3 g4 h2 HQ2 hr1 hr2 z1 z2 z3
       go_upto_region 6 with fail
       clear q0
       go_upto_region 7 with(first|(go_at_call 33;(with_reducible refine(PC.out w2 (Below.refl _ _)).mono ?_);rintro e w3 ⟨v6,rfl,HR6,HGB3,HK3,HB3⟩;clear PC q1 q3))
       have HTB3:=aM ((HK3.out.2 TB (by have:=HTBE.out;have:=HSW2.out;omega) (by have:=HTBE.out;have:=HGL.out;show TB≠G;omega)).trans HTB2.out);have HKW3:Aside0 (Kept W w3 (fun k=>k=G)):=⟨HKW2.out.then_ HK3.out (fun k hk=> .inl hk)⟩;have HSW3:Aside0 (W.heap.size<w3.heap.size):=⟨Nat.lt_of_lt_of_le HSW2.out HK3.out.1⟩;have HRO3:=aM (Kd.R_kept (Kd.R_mono (ok':=fun k=>W.heap.size≤k) (Kd.R_bound HRO2.out) (fun k hk=>by have:=hk.2.1;omega)) HK3.out (fun k hk h=>by have:=HGL.out;omega))
       cases o1 with
       |none=>
        have HE:Aside0 (none=o∧c2=c'):=⟨by simpa using HR2.out⟩;simp only [Option.isSome_none];go_wp2
        go_ret2
        obtain⟨rfl,rfl⟩:=HE.out;exact⟨_,rfl,⟨Kd.R_nil _ _ _ _ _⟩,HGB3,HKW3,HB3⟩
       |some lq=>
        simp only [Option.getD_some] at HR6;obtain⟨A6,c6,rfl⟩:=Kd.R_slice HR6.out;have HZ4:=aM (HZ3.out lq rfl);have HQ4:Aside0 (rvL nl rv node (ks.drop (j+1)) (out++lq) c2=some (o,c')):=⟨HR2.out⟩;have HBZ3:Aside0 (W.heap.size+1≤w3.heap.size):=⟨HSW3.out⟩;simp only [Option.isSome_some]
        go_wp2_with (first|((with_reducible refine gate_builtin (b:= .append) (xs:=#[.tmp 39,.tmp 40]) rfl ?_);at_builtin;refine Kd.R_append_rows (Kd.int .i64) (Rr:=(Kd.int .i64).K w3) (w0:=w3) (W.heap.size+1) rfl (.tmp 39) (.tmp 40) 27 3 (.int .i64 0) 8 rfl Try.underlying27 infoInt17 rfl (by decide) (by omega) (.slice Ao out.length co) out lq A6 lq.length c6 (fun _=>True) (fun _=>False) rfl rfl (Kd.R_mono HRO3.out (fun _ _=>trivial)) (aF HR6.out).2.2 (fun _ _ h=>h) (fun _ h=>h.elim) (fun _ _=>trivial) (Below.refl _ _) HBZ3.out (by have:=HO.out;have:=HZ4.out;omega) ?_;intro v1 w4 ho hb hg hat;have HRO4:=aM ho;have HGB4:=aM ((hb.block G (by have:=HGL.out;omega)).trans HGB3.out);have HTB4:=aM ((hb.block TB (by have:=HTBE.out;omega)).trans HTB3.out);have HKW4:=aM (kept17 HKW3.out (hb.mono (Nat.le_succ _)));have HB4:Aside0 (Below w0.heap.size w0 w4):=⟨HB3.out.trans (hb.mono (by have:=HG.out;have:=HGL.out;omega))⟩;have HSW4:Aside0 (W.heap.size<w4.heap.size):=⟨Nat.lt_of_lt_of_le HSW3.out hb.size⟩;clear ho hb hg hat))
        have hwj:=HWJ.out
        go_roundg (ks.length - (j+1))
        case measure=>have:=HM.out;have:=HLT.out;omega
        case rel=>exact⟨j+1,out++lq,c2,rfl,by have:=HLT.out;omega,Nat.le_refl _,HQ4,⟨by have:=HO.out;have:=HZ4.out;simp only [List.length_append];omega⟩,HGB4,HTB4,HSW4,HKW4,HB4,HRO4⟩
  ·obtain rfl:j=ks.length:=by omega
   have H:=HQ.out;rw [List.drop_length,rvL] at H;have H:=Option.some.inj H;simp only [Prod.mk.injEq] at H;obtain⟨rfl,rfl⟩:=H;clear hlt HQ;go_wp2
   go_ret2
   exact⟨_,rfl,⟨bL HRO.out (by omega)⟩,HGB,HKW,HB⟩
theorem leaves_any {w0:World}{A0:Option Addr}{c0:Nat}{A1:Option Addr}{nl c1:Nat}{G:Nat}{nds:List S34}(hG:w0.heap.size≤G) (hC:Kd.C k34 w0 A0 nds.length nds) (hk:∀x:Int,(kidsAt nds x).length≤1000000000000):∀f:Nat,LvCon w0 A0 nds.length c0 A1 nl c1 G (rv nds nl f)
 |0=>fun node c o c' W hn hc hr hB hb=>by cases hr
 |f+1=>fun node c o c' W hn hc hr hB hb=>by
  rw [rv] at hr;exact leaves_step hG hC hk (leaves_any hG hC hk f) (rv_size nds nl f) node c o c' W hn hc hr hB hb
def regletref17_Leaves.f (k:Nat) (aA:List S34) (aQ:List S59):Option (List Int×Int):=
 if aA.length=0 then some ([],90) else
  if aA.length≤1000000000000∧aA.all (fun n=>decide (n.f1.length≤1000000000000))=true then(rv aA aQ.length k ((aA.length - 1:Nat):Int) 100000).bind fun q=>some (leavesRes q.1) else none
theorem kids_le {l:List S34}(h:l.all (fun n=>decide (n.f1.length≤1000000000000))=true) (x:Int):(kidsAt l x).length≤1000000000000:=by
 unfold kidsAt rd_T34
 rw [List.getD_eq_getElem?_getD]
 cases hd:l[x.toNat]? with
 |none=>exact Nat.zero_le _
 |some n=>exact of_decide_eq_true (List.all_eq_true.1 h n (List.mem_of_getElem? hd))
set_option maxHeartbeats 8000000 in
set_option maxRecDepth 100000 in
theorem regletref17_Leaves.calls (k:Nat) (bC:Option Addr) (bE:Nat) (aA:List S34) (bK:Option Addr) (bM:Nat) (aQ:List S59) (r1:List Int) (r2:Int) (w:World)
 (dC:Kd.C k34 w bC aA.length aA) (dV:aA.length≤bE) (dK:Kd.C k59 w bK aQ.length aQ) (dW:aQ.length≤bM)
 (h:regletref17_Leaves.f k aA aQ=some (r1,r2)):
 Calls Try.prog 21 #[.agg #[.slice bC aA.length bE,.slice bK aQ.length bM]] w fun e w'=>∃v0_:Value,e= .returned (.tuple #[v0_,.int .i64 r2])∧Kd.R (Kd.int .i64) 3 w' w.heap.size (fun _=>True) v0_ r1∧Below w.heap.size w w':=by
 have HQ:=aM h;have HW:Aside0 (Below w.heap.size w (w.alloc (.cells #[.slice bC aA.length bE,.slice bK aQ.length bM] 31))):=⟨(Below.refl _ w).alloc (Nat.le_refl _) _⟩;have HTB:Aside0 ((w.alloc (.cells #[.slice bC aA.length bE,.slice bK aQ.length bM] 31)).heap[w.heap.size]?=some (.cells #[.slice bC aA.length bE,.slice bK aQ.length bM] 31 (0,0))):=⟨blk_new w _⟩;have HC0:=aM dC;clear h dC dV dK dW;go_enter Try.func21,Try.ntmps21
 go_upto_region 1 with fail
 generalize w.alloc (.cells #[.slice bC aA.length bE,.slice bK aQ.length bM] 31)=w1 at HW HTB ⊢;generalize htb:w.heap.size=TB at HTB ⊢;have HTBE:=aM htb;clear htb;have q0:w1.cell? ⟨TB,0,none⟩=some (.slice bC aA.length bE):=(aG HTB.out 0).trans rfl;have q1:w1.cell? ⟨TB,1,none⟩=some (.slice bK aQ.length bM):=(aG HTB.out 1).trans rfl
 by_cases hn:aA.length=0
 ·have HR:Aside0 (r1= []∧r2=90):=⟨by have h:=HQ.out;unfold regletref17_Leaves.f at h;rw [if_pos hn] at h;have h:=Option.some.inj h;simp only [Prod.mk.injEq] at h;exact⟨h.1.symm,h.2.symm⟩⟩
  have hn2:((aA.length:Int)==0)=true:=by simp [hn]
  have hn3:(aA.length==0)=true:=by simp [hn]
  clear hn;go_wp2
  go_ret2
  obtain⟨rfl,rfl⟩:=HR.out;exact⟨_,rfl,Kd.R_nil _ _ _ _ _,HW.out⟩
 ·obtain⟨m,hm⟩:∃m,aA.length=m+1:=⟨aA.length - 1,by omega⟩
  have hf:=HQ.out
  unfold regletref17_Leaves.f at hf
  rw [if_neg hn] at hf
  split at hf
  case isFalse=>simp at hf
  rename_i hsz
  obtain⟨q,hq,hr⟩:=Option.bind_eq_some_iff.1 hf;have HRES:=aM (Option.some.inj hr);rw [show aA.length - 1=m by omega] at hq;have HM:Aside0 (aA.length=m+1):=⟨hm⟩;have hm3:(m:Int)≤1000000000000:=by omega
  have hn3:(aA.length==0)=false:=by simp [hn]
  have hn2:((aA.length:Int)==0)=false:=by simp only [beq_eq_false_iff_ne,ne_eq];omega
  have hl12:(aA.length:Int)≤1000000000000:=by omega
  obtain⟨o,c'⟩:=q;have PL:Aside0 (∀(G:Nat) (W:World),w.heap.size≤G→Below w.heap.size w W→W.heap[G]?=some (.cells #[.int .i64 100000] 3 (0,0))→Calls Try.prog 33 #[.agg #[.slice bC aA.length bE,.slice bK aQ.length bM],.int .i64 ((aA.length:Int) - 1),.pointer (some ⟨G,0,none⟩)] W (LvPost w W G o c')):=⟨fun G W h1 h2 h3=>by rw [show(aA.length:Int) - 1=(m:Int) by omega];exact leaves_any h1 HC0.out (kids_le hsz.2) k (m:Int) 100000 o c' W ⟨by omega,by omega⟩ ⟨by omega,by omega⟩ hq h2 h3⟩;clear hf hsz hq hr hn hm hm3 HQ
  go_upto_region 4 with fail
  have HGE:Aside0 (w.heap.size≤w1.heap.size):=⟨HW.out.size⟩;have HGB:Aside0 ((w1.alloc (.cells #[.int .i64 100000] 3)).heap[w1.heap.size]?=some (.cells #[.int .i64 100000] 3 (0,0))):=⟨blk_new w1 _⟩;have HTB2:=aM (aI HTB.out (.cells #[.int .i64 100000] 3));have HW2:Aside0 (Below w.heap.size w (w1.alloc (.cells #[.int .i64 100000] 3))):=⟨aN HW.out _⟩;generalize w1.alloc (.cells #[.int .i64 100000] 3)=w2 at HGB HTB2 HW2 ⊢;generalize w1.heap.size=G at HGE HGB ⊢;clear q0 q1;have q0:w2.cell? ⟨TB,0,none⟩=some (.slice bC aA.length bE):=(aG HTB2.out 0).trans rfl;have q1:w2.cell? ⟨TB,1,none⟩=some (.slice bK aQ.length bM):=(aG HTB2.out 1).trans rfl
  go_upto_region 5 with(first|(go_at_call 33;(with_reducible refine(PL.out G w2 HGE.out HW2.out HGB.out).mono ?_);rintro e w3 ⟨v6,rfl,HR6,HGB3,HK3,HB3⟩;clear PL q0 q1))
  cases o with
  |none=>
   have HE:Aside0 ([]=r1∧90=r2):=⟨by simpa [leavesRes] using HRES.out⟩;simp only [Option.isSome_none];go_wp2
   go_ret2
   obtain⟨rfl,rfl⟩:=HE.out;exact⟨_,rfl,Kd.R_nil _ _ _ _ _,HB3.out⟩
  |some lq=>
   have HE:Aside0 (lq=r1∧0=r2):=⟨by simpa [leavesRes] using HRES.out⟩;simp only [Option.isSome_some];go_wp2
   go_ret2
   obtain⟨rfl,rfl⟩:=HE.out;exact⟨_,rfl,bL HR6.out HW2.out.size,HB3.out⟩
end Go.Proofs.Ytjaindljlgnkcaa.P
end

section
namespace Go.Proofs.Ytjaindljlgnkcaa.P
open Go.RowKit Go.Proofs.YtjaindljlgnkcaaW.PrintWords Go.Proofs.YtjaindljlgnkcaaW.PrintLast Go.Proofs.YtjaindljlgnkcaaW.PrintMore
attribute [local go_sem] max2_int min2_int max_two min_two max_three min_three max_four min_four   -- for this text's walks alone
set_option linter.unusedVariables false
set_option linter.unusedSimpArgs false
def regletlaw17_left.f (k:Nat) (aA:List (S34)) (aQ:List (S59)):Option (Bool):=(tree_Leaves.f k aA aQ).bind fun gM=>((regletref17_Leaves.f k aA aQ).bind fun fS=>((regletref13_SameInts.f k gM.1 fS.1).bind fun t220=>(if t220=true then(some (gM.2==fS.2)) else(some false))))
set_option maxHeartbeats 8000000 in
set_option maxRecDepth 100000 in
theorem regletlaw17_left.calls (k:Nat) (bC:Option Addr) (bE:Nat) (aA:List (S34)) (bK:Option Addr) (bM:Nat) (aQ:List (S59)) (r:Bool) (w:World) (dC:Kd.C k34 w bC aA.length aA) (dV:aA.length≤bE) (dK:Kd.C k59 w bK aQ.length aQ) (dW:aQ.length≤bM) (h:regletlaw17_left.f k aA aQ=some r):
 Calls Try.prog 11 #[.agg #[.slice bC aA.length bE,.slice bK aQ.length bM]] w fun e w'=>e= .returned (.bool r)∧Below w.heap.size w w':=by
 have hu31:=Try.underlying31;have fD:=aM dC;have gN:=aM dV;clear dC dV;have fT:=aM dK;have fU:=aM dW;clear dK dW;have HB:=aM (Below.refl w.heap.size w);have H:((tree_Leaves.f k aA aQ).bind fun gM=>((regletref17_Leaves.f k aA aQ).bind fun fS=>((regletref13_SameInts.f k gM.1 fS.1).bind fun t220=>(if t220=true then(some (gM.2==fS.2)) else(some false)))))=some r:=h;clear h;replace H:=Option.bind_eq_some_iff.mp H;obtain⟨⟨t212,t215⟩,A20,H⟩:=H;replace H:((regletref17_Leaves.f k aA aQ).bind fun fS=>((regletref13_SameInts.f k t212 fS.1).bind fun t220=>(if t220=true then(some (t215==fS.2)) else(some false))))=some r:=H;have A2:=aM A20;clear A20;replace H:=Option.bind_eq_some_iff.mp H;obtain⟨⟨t216,t219⟩,A30,H⟩:=H;replace H:((regletref13_SameInts.f k t212 t216).bind fun t220=>(if t220=true then(some (t215==t219)) else(some false)))=some r:=H;have A3:=aM A30;clear A30;replace H:=Option.bind_eq_some_iff.mp H;obtain⟨t220,A40,H⟩:=H;replace H:(if t220=true then(some (t215==t219)) else(some false))=some r:=H;have A4:=aM A40;clear A40
 by_cases c5:t220=true
 ·subst c5
  have H1:(some (t215==t219))=some r:=by rw [if_pos rfl] at H;exact H
  clear H;have H:=H1;clear H1;obtain rfl:=Option.some.inj H;go_enter Try.func11,Try.ntmps11
  go_wp2_with (first|((with_reducible refine bJ (N:=1) rfl ?_);refine box_event ?hg (N:=1) ?hd (cs:=#[.slice bC aA.length bE,.slice bK aQ.length bM]) (t:=31) ?hr ?_;(case hd=>rfl);(case hg=>rfl);(case hr=>first|(go_simp;done)|(go_simp;rfl));intro dH hg w6 hbox hb;have bZ:=aM (bG (by repeat(first|(with_reducible first|exact HB.out|apply aN|apply aP|apply aO)|exact HB.out)) hb);have cA:=aM (hbox);have cD:=aM ((by rw [hg];exact(bH (by repeat(first|(with_reducible first|exact HB.out|apply aN|apply aP|apply aO)|exact HB.out))):w.heap.size≤dH));have cL:=aM ((by rw [hg];exact(bH (by repeat(first|(with_reducible first|exact HB.out|apply aN|apply aP|apply aO)|exact HB.out))):w.heap.size≤dH));clear HB;have HB:=bZ;have cH:=cA;have GW211:=cD;have fB:=cL;clear bZ cA cD cL;clear hb hbox hg;have pC:w6.cell? ⟨dH,0,none⟩=some (.slice bC aA.length bE):=(aG cH.out 0).trans rfl;have pD:w6.cell? ⟨dH,1,none⟩=some (.slice bK aQ.length bM):=(aG cH.out 1).trans rfl;have pE:=aH cH.out 0;have pF:=aH cH.out 1)|((with_reducible refine bI (f:=17) rfl ?_);refine goesL_ (some 9) rfl rfl Try.func17 (by kernel_rfl) rfl #[.agg #[.slice bC aA.length bE,.slice bK aQ.length bM]] rfl (by(try simp only [List.map_toArray,List.map_cons,List.map_nil]);first|done|rfl|(simp only [List.length_drop,List.length_take];rfl)) ?_;(with_reducible refine(tree_Leaves.calls k _ _ aA _ _ aQ t212 t215 _ ?side1 ?side2 ?side3 ?side4 A2.out).mono ?_);(case side1=>repeat(first|exact(bD fD.out HB.out)|(with_reducible refine Kd.C_alloc ?_ _)|(with_reducible refine bB ?_ _)|(with_reducible refine Kd.C_drew ?_)));(case side2=>exact gN.out);(case side3=>repeat(first|exact(bD fT.out HB.out)|(with_reducible refine Kd.C_alloc ?_ _)|(with_reducible refine bB ?_ _)|(with_reducible refine Kd.C_drew ?_)));(case side4=>exact fU.out);rintro e w8 ⟨v213,rfl,ho0,hb⟩;refine⟨_,rfl,?_⟩;have bZ:=aM (Kd.V_lower (Kd.V_mono (ok':=fun k_=>k_≠dH) ho0 (fun k_ hk_=>(Kd.freshB (g:=dH) (o:= .cells #[.slice bC aA.length bE,.slice bK aQ.length bM] 31 (0,0)) (by(with_reducible repeat(first|refine aJ ?_ _|refine aK ?_|refine aI ?_ _));exact cH.out) k_ hk_))) (bH (by repeat(first|(with_reducible first|exact HB.out|apply aN|apply aP|apply aO|refine aL ?_ fB.out)|exact HB.out))));have cA:=aM (bF (g:=dH) (o:= .cells #[.slice bC aA.length bE,.slice bK aQ.length bM] 31 (0,0)) (by(with_reducible repeat(first|refine aJ ?_ _|refine aK ?_|refine aI ?_ _));exact cH.out) hb);have cD:=aM (bG (by repeat(first|(with_reducible first|exact HB.out|apply aN|apply aP|apply aO|refine aL ?_ fB.out)|exact HB.out)) hb);clear cH;clear HB;have eN:=bZ;have cH:=cA;have HB:=cD;clear bZ cA cD;(try clear hb);(try clear hb2);(try clear hk);(try clear hi);(try clear ho0);have hU:w8.cell? ⟨dH,0,none⟩=some (.slice bC aA.length bE):=(aG cH.out 0).trans rfl;have hX:w8.cell? ⟨dH,1,none⟩=some (.slice bK aQ.length bM):=(aG cH.out 1).trans rfl;have hY:=aH cH.out 0;have hZ:=aH cH.out 1)|((with_reducible refine bI (f:=21) rfl ?_);refine goesL_ (some 14) rfl rfl Try.func21 (by kernel_rfl) rfl #[.agg #[.slice bC aA.length bE,.slice bK aQ.length bM]] rfl (by(try simp only [List.map_toArray,List.map_cons,List.map_nil]);first|done|rfl|(simp only [List.length_drop,List.length_take];rfl)) ?_;(with_reducible refine(regletref17_Leaves.calls k _ _ aA _ _ aQ t216 t219 _ ?side1 ?side2 ?side3 ?side4 A3.out).mono ?_);(case side1=>repeat(first|exact(bD fD.out HB.out)|(with_reducible refine Kd.C_alloc ?_ _)|(with_reducible refine bB ?_ _)|(with_reducible refine Kd.C_drew ?_)));(case side2=>exact gN.out);(case side3=>repeat(first|exact(bD fT.out HB.out)|(with_reducible refine Kd.C_alloc ?_ _)|(with_reducible refine bB ?_ _)|(with_reducible refine Kd.C_drew ?_)));(case side4=>exact fU.out);rintro e w10 ⟨v217,rfl,ho0,hb⟩;refine⟨_,rfl,?_⟩;have bZ:=aM (Kd.V_elder' (by(with_reducible repeat(first|apply Kd.V_alloc|apply Kd.V_drewN|apply Kd.V_drew));exact eN.out) (Kd.R_base ho0) hb);have cA:=aM (bL ho0 (bH (by repeat(first|(with_reducible first|exact HB.out|apply aN|apply aP|apply aO|refine aL ?_ fB.out)|exact HB.out))));have cD:=aM (bF (g:=dH) (o:= .cells #[.slice bC aA.length bE,.slice bK aQ.length bM] 31 (0,0)) (by(with_reducible repeat(first|refine aJ ?_ _|refine aK ?_|refine aI ?_ _));exact cH.out) hb);have cL:=aM (bG (by repeat(first|(with_reducible first|exact HB.out|apply aN|apply aP|apply aO|refine aL ?_ fB.out)|exact HB.out)) hb);clear eN;clear cH;clear HB;have eN:=bZ;have gI:=cA;have cH:=cD;have HB:=cL;clear bZ cA cD cL;(try clear hb);(try clear hb2);(try clear hk);(try clear hi);(try clear ho0);obtain⟨iT,iU,lC⟩:=Kd.V_slice eN.out;subst lC;obtain⟨pG,pH,pI⟩:=Kd.R_slice gI.out;subst pI)|((with_reducible refine bI (f:=19) rfl ?_);refine goesL_ (some 19) rfl rfl Try.func19 (by kernel_rfl) rfl #[.slice iT t212.length iU,.slice pG t216.length pH] rfl (by(try simp only [List.map_toArray,List.map_cons,List.map_nil]);first|done|rfl|(simp only [List.length_drop,List.length_take];rfl)) ?_;(with_reducible refine(regletref13_SameInts.calls k _ _ t212 _ _ t216 true _ ?side1 ?side2 ?side3 ?side4 A4.out).mono ?_);(case side1=>repeat(first|exact(Kd.V_reads' eN.out).2.2|(with_reducible refine Kd.C_alloc ?_ _)|(with_reducible refine bB ?_ _)|(with_reducible refine Kd.C_drew ?_)));(case side2=>exact(Kd.V_reads' eN.out).2.1);(case side3=>repeat(first|exact(aF gI.out).2.2|(with_reducible refine Kd.C_alloc ?_ _)|(with_reducible refine bB ?_ _)|(with_reducible refine Kd.C_drew ?_)));(case side4=>exact(aF gI.out).2.1);rintro e w' ⟨rfl,⟨nd,rfl⟩⟩;refine⟨_,rfl,?_⟩))
  go_ret
  exact⟨by first|rfl|(simp [errW_none,errW_some]<;>rfl)|(simp [*,errW_none,errW_some]<;>rfl),by repeat(first|(with_reducible first|exact HB.out|apply aN|apply aP|apply aO|refine aL ?_ fB.out)|exact HB.out)⟩
 ·replace c5:=Bool.eq_false_iff.mpr c5
  subst c5;have H1:(some false)=some r:=by rw [if_neg (show ¬(false=true) by decide)] at H;exact H
  clear H;have H:=H1;clear H1;obtain rfl:=Option.some.inj H;go_enter Try.func11,Try.ntmps11
  go_wp2_with (first|((with_reducible refine bJ (N:=1) rfl ?_);refine box_event ?hg (N:=1) ?hd (cs:=#[.slice bC aA.length bE,.slice bK aQ.length bM]) (t:=31) ?hr ?_;(case hd=>rfl);(case hg=>rfl);(case hr=>first|(go_simp;done)|(go_simp;rfl));intro dH hg w13 hbox hb;have bZ:=aM (bG (by repeat(first|(with_reducible first|exact HB.out|apply aN|apply aP|apply aO)|exact HB.out)) hb);have cA:=aM (hbox);have cD:=aM ((by rw [hg];exact(bH (by repeat(first|(with_reducible first|exact HB.out|apply aN|apply aP|apply aO)|exact HB.out))):w.heap.size≤dH));have cL:=aM ((by rw [hg];exact(bH (by repeat(first|(with_reducible first|exact HB.out|apply aN|apply aP|apply aO)|exact HB.out))):w.heap.size≤dH));clear HB;have HB:=bZ;have cH:=cA;have GW211:=cD;have fB:=cL;clear bZ cA cD cL;clear hb hbox hg;have mK:w13.cell? ⟨dH,0,none⟩=some (.slice bC aA.length bE):=(aG cH.out 0).trans rfl;have mL:w13.cell? ⟨dH,1,none⟩=some (.slice bK aQ.length bM):=(aG cH.out 1).trans rfl;have mM:=aH cH.out 0;have mN:=aH cH.out 1)|((with_reducible refine bI (f:=17) rfl ?_);refine goesL_ (some 9) rfl rfl Try.func17 (by kernel_rfl) rfl #[.agg #[.slice bC aA.length bE,.slice bK aQ.length bM]] rfl (by(try simp only [List.map_toArray,List.map_cons,List.map_nil]);first|done|rfl|(simp only [List.length_drop,List.length_take];rfl)) ?_;(with_reducible refine(tree_Leaves.calls k _ _ aA _ _ aQ t212 t215 _ ?side1 ?side2 ?side3 ?side4 A2.out).mono ?_);(case side1=>repeat(first|exact(bD fD.out HB.out)|(with_reducible refine Kd.C_alloc ?_ _)|(with_reducible refine bB ?_ _)|(with_reducible refine Kd.C_drew ?_)));(case side2=>exact gN.out);(case side3=>repeat(first|exact(bD fT.out HB.out)|(with_reducible refine Kd.C_alloc ?_ _)|(with_reducible refine bB ?_ _)|(with_reducible refine Kd.C_drew ?_)));(case side4=>exact fU.out);rintro e w15 ⟨v213,rfl,ho0,hb⟩;refine⟨_,rfl,?_⟩;have bZ:=aM (Kd.V_lower (Kd.V_mono (ok':=fun k_=>k_≠dH) ho0 (fun k_ hk_=>(Kd.freshB (g:=dH) (o:= .cells #[.slice bC aA.length bE,.slice bK aQ.length bM] 31 (0,0)) (by(with_reducible repeat(first|refine aJ ?_ _|refine aK ?_|refine aI ?_ _));exact cH.out) k_ hk_))) (bH (by repeat(first|(with_reducible first|exact HB.out|apply aN|apply aP|apply aO|refine aL ?_ fB.out)|exact HB.out))));have cA:=aM (bF (g:=dH) (o:= .cells #[.slice bC aA.length bE,.slice bK aQ.length bM] 31 (0,0)) (by(with_reducible repeat(first|refine aJ ?_ _|refine aK ?_|refine aI ?_ _));exact cH.out) hb);have cD:=aM (bG (by repeat(first|(with_reducible first|exact HB.out|apply aN|apply aP|apply aO|refine aL ?_ fB.out)|exact HB.out)) hb);clear cH;clear HB;have eN:=bZ;have cH:=cA;have HB:=cD;clear bZ cA cD;(try clear hb);(try clear hb2);(try clear hk);(try clear hi);(try clear ho0);have jU:w15.cell? ⟨dH,0,none⟩=some (.slice bC aA.length bE):=(aG cH.out 0).trans rfl;have jV:w15.cell? ⟨dH,1,none⟩=some (.slice bK aQ.length bM):=(aG cH.out 1).trans rfl;have jW:=aH cH.out 0;have jX:=aH cH.out 1)|((with_reducible refine bI (f:=21) rfl ?_);refine goesL_ (some 14) rfl rfl Try.func21 (by kernel_rfl) rfl #[.agg #[.slice bC aA.length bE,.slice bK aQ.length bM]] rfl (by(try simp only [List.map_toArray,List.map_cons,List.map_nil]);first|done|rfl|(simp only [List.length_drop,List.length_take];rfl)) ?_;(with_reducible refine(regletref17_Leaves.calls k _ _ aA _ _ aQ t216 t219 _ ?side1 ?side2 ?side3 ?side4 A3.out).mono ?_);(case side1=>repeat(first|exact(bD fD.out HB.out)|(with_reducible refine Kd.C_alloc ?_ _)|(with_reducible refine bB ?_ _)|(with_reducible refine Kd.C_drew ?_)));(case side2=>exact gN.out);(case side3=>repeat(first|exact(bD fT.out HB.out)|(with_reducible refine Kd.C_alloc ?_ _)|(with_reducible refine bB ?_ _)|(with_reducible refine Kd.C_drew ?_)));(case side4=>exact fU.out);rintro e w17 ⟨v217,rfl,ho0,hb⟩;refine⟨_,rfl,?_⟩;have bZ:=aM (Kd.V_elder' (by(with_reducible repeat(first|apply Kd.V_alloc|apply Kd.V_drewN|apply Kd.V_drew));exact eN.out) (Kd.R_base ho0) hb);have cA:=aM (bL ho0 (bH (by repeat(first|(with_reducible first|exact HB.out|apply aN|apply aP|apply aO|refine aL ?_ fB.out)|exact HB.out))));have cD:=aM (bF (g:=dH) (o:= .cells #[.slice bC aA.length bE,.slice bK aQ.length bM] 31 (0,0)) (by(with_reducible repeat(first|refine aJ ?_ _|refine aK ?_|refine aI ?_ _));exact cH.out) hb);have cL:=aM (bG (by repeat(first|(with_reducible first|exact HB.out|apply aN|apply aP|apply aO|refine aL ?_ fB.out)|exact HB.out)) hb);clear eN;clear cH;clear HB;have eN:=bZ;have gI:=cA;have cH:=cD;have HB:=cL;clear bZ cA cD cL;(try clear hb);(try clear hb2);(try clear hk);(try clear hi);(try clear ho0);obtain⟨pJ,pK,pL⟩:=Kd.V_slice eN.out;subst pL;obtain⟨lD,lE,lF⟩:=Kd.R_slice gI.out;subst lF)|((with_reducible refine bI (f:=19) rfl ?_);refine goesL_ (some 19) rfl rfl Try.func19 (by kernel_rfl) rfl #[.slice pJ t212.length pK,.slice lD t216.length lE] rfl (by(try simp only [List.map_toArray,List.map_cons,List.map_nil]);first|done|rfl|(simp only [List.length_drop,List.length_take];rfl)) ?_;(with_reducible refine(regletref13_SameInts.calls k _ _ t212 _ _ t216 false _ ?side1 ?side2 ?side3 ?side4 A4.out).mono ?_);(case side1=>repeat(first|exact(Kd.V_reads' eN.out).2.2|(with_reducible refine Kd.C_alloc ?_ _)|(with_reducible refine bB ?_ _)|(with_reducible refine Kd.C_drew ?_)));(case side2=>exact(Kd.V_reads' eN.out).2.1);(case side3=>repeat(first|exact(aF gI.out).2.2|(with_reducible refine Kd.C_alloc ?_ _)|(with_reducible refine bB ?_ _)|(with_reducible refine Kd.C_drew ?_)));(case side4=>exact(aF gI.out).2.1);rintro e w' ⟨rfl,⟨nd,rfl⟩⟩;refine⟨_,rfl,?_⟩))
  go_ret
  exact⟨by first|rfl|(simp [errW_none,errW_some]<;>rfl)|(simp [*,errW_none,errW_some]<;>rfl),by repeat(first|(with_reducible first|exact HB.out|apply aN|apply aP|apply aO|refine aL ?_ fB.out)|exact HB.out)⟩
attribute [local go_sem] max2_int min2_int max_two min_two max_three min_three max_four min_four   -- for this text's walks alone
set_option linter.unusedVariables false
set_option linter.unusedSimpArgs false
mutual
def regletref17_Same.j0:Nat→Bool→List (S34)→List (S59)→List (S34)→List (S59)→Option (Bool)
 |0,_,_,_,_,_=>none
 |k+1,x20,x116000,x116001,x117000,x117001=>if x20=true then(some false) else(regletref17_Same.l0 k 0 x116000 x116001 x117000 x117001)
def regletref17_Same.l0:Nat→Int→List (S34)→List (S59)→List (S34)→List (S59)→Option (Bool)
 |0,_,_,_,_,_=>none
 |k+1,x5,x116000,x116001,x117000,x117001=>if x5<(x116000.length:Int) then(if 0≤x5 then(if x5<(x117000.length:Int) then(if((rd_T34 x116000 x5).f0)=((rd_T34 x117000 x5).f0) then((regletref13_SameInts.f k ((rd_T34 x116000 x5).f1) ((rd_T34 x117000 x5).f1)).bind fun t122=>(if t122=true then(regletref17_Same.l0 k (wrap64 (x5+1)) x116000 x116001 x117000 x117001) else(some false))) else(some false)) else(none)) else(none)) else(some true)
end
def regletref17_Same.f (k:Nat) (aA:List (S34)) (aQ:List (S59)) (cE:List (S34)) (dJ:List (S59)):Option (Bool):=if(aA.length:Int)=(cE.length:Int) then((regletref15_Same.f k aQ dJ).bind fun t117=>(regletref17_Same.j0 k (!t117) aA aQ cE dJ)) else(regletref17_Same.j0 k true aA aQ cE dJ)
theorem regletref17_Same.mono_l:∀k,(∀y0 y1 y2 y3 y4,LeO (regletref17_Same.j0 k y0 y1 y2 y3 y4) (regletref17_Same.j0 (k+1) y0 y1 y2 y3 y4))∧(∀y0 y1 y2 y3 y4,LeO (regletref17_Same.l0 k y0 y1 y2 y3 y4) (regletref17_Same.l0 (k+1) y0 y1 y2 y3 y4))
 |0=>⟨fun _ _ _ _ _ r h=>by simp [regletref17_Same.j0] at h,fun _ _ _ _ _ r h=>by simp [regletref17_Same.l0] at h⟩
 |k+1=>by
  obtain⟨ih0,ih1⟩:=regletref17_Same.mono_l k;refine⟨?_,?_⟩
  ·intro y0 y1 y2 y3 y4
   unfold regletref17_Same.j0
   repeat' first
   |(with_reducible exact ih0 _ _ _ _ _)
   |(with_reducible exact ih1 _ _ _ _ _)
   |(with_reducible exact regletref13_SameInts.mono _ _ _)
   |(with_reducible exact regletref15_Same.mono _ _ _)
   |(with_reducible exact LeO.refl _)
   |(with_reducible exact LeO.none _)
   |(with_reducible refine LeO.ite ?_ ?_)
   |(with_reducible refine LeO.bind ?_ (fun _=>?_))
   |exact ih0 _ _ _ _ _
   |exact ih1 _ _ _ _ _
   |exact regletref13_SameInts.mono _ _ _
   |exact regletref15_Same.mono _ _ _
   |exact LeO.none _
   |refine LeO.ite ?_ ?_
   |refine LeO.bind ?_ (fun _=>?_)
  ·intro y0 y1 y2 y3 y4
   unfold regletref17_Same.l0
   repeat' first
   |(with_reducible exact ih0 _ _ _ _ _)
   |(with_reducible exact ih1 _ _ _ _ _)
   |(with_reducible exact regletref13_SameInts.mono _ _ _)
   |(with_reducible exact regletref15_Same.mono _ _ _)
   |(with_reducible exact LeO.refl _)
   |(with_reducible exact LeO.none _)
   |(with_reducible refine LeO.ite ?_ ?_)
   |(with_reducible refine LeO.bind ?_ (fun _=>?_))
   |exact ih0 _ _ _ _ _
   |exact ih1 _ _ _ _ _
   |exact regletref13_SameInts.mono _ _ _
   |exact regletref15_Same.mono _ _ _
   |exact LeO.none _
   |refine LeO.ite ?_ ?_
   |refine LeO.bind ?_ (fun _=>?_)
theorem regletref17_Same.mono:∀a0 a1 a2 a3 k,LeO (regletref17_Same.f k a0 a1 a2 a3) (regletref17_Same.f (k+1) a0 a1 a2 a3):=by
 intro a0 a1 a2 a3 k;obtain⟨ih0,ih1⟩:=regletref17_Same.mono_l k
 unfold regletref17_Same.f
 repeat' first
  |(with_reducible exact ih0 _ _ _ _ _)
  |(with_reducible exact ih1 _ _ _ _ _)
  |(with_reducible exact regletref13_SameInts.mono _ _ _)
  |(with_reducible exact regletref15_Same.mono _ _ _)
  |(with_reducible exact LeO.refl _)
  |(with_reducible exact LeO.none _)
  |(with_reducible refine LeO.ite ?_ ?_)
  |(with_reducible refine LeO.bind ?_ (fun _=>?_))
  |exact ih0 _ _ _ _ _
  |exact ih1 _ _ _ _ _
  |exact regletref13_SameInts.mono _ _ _
  |exact regletref15_Same.mono _ _ _
  |exact LeO.none _
  |refine LeO.ite ?_ ?_
  |refine LeO.bind ?_ (fun _=>?_)
set_option maxHeartbeats 8000000 in
set_option maxRecDepth 100000 in
theorem regletref17_Same.calls (k:Nat) (bC:Option Addr) (bE:Nat) (aA:List (S34)) (bK:Option Addr) (bM:Nat) (aQ:List (S59)) (fX:Option Addr) (fY:Nat) (cE:List (S34)) (fZ:Option Addr) (gA:Nat) (dJ:List (S59)) (r:Bool) (w:World) (dC:Kd.C k34 w bC aA.length aA) (dV:aA.length≤bE) (dK:Kd.C k59 w bK aQ.length aQ) (dW:aQ.length≤bM) (kH:Kd.C k34 w fX cE.length cE) (kI:cE.length≤fY) (kJ:Kd.C k59 w fZ dJ.length dJ) (kK:dJ.length≤gA) (h:regletref17_Same.f k aA aQ cE dJ=some r):
 Calls Try.prog 18 #[.agg #[.slice bC aA.length bE,.slice bK aQ.length bM],.agg #[.slice fX cE.length fY,.slice fZ dJ.length gA]] w fun e w'=>e= .returned (.bool r)∧Below w.heap.size w w':=by
 have hu31:=Try.underlying31;have fD:=aM dC;have gN:=aM dV;clear dC dV;have fT:=aM dK;have fU:=aM dW;clear dK dW;have gO:=aM kH;have qK:=aM kI;clear kH kI;have jB:=aM kJ;have jC:=aM kK;clear kJ kK;have HB:=aM (Below.refl w.heap.size w);have H:(if(aA.length:Int)=(cE.length:Int) then((regletref15_Same.f k aQ dJ).bind fun t117=>(regletref17_Same.j0 k (!t117) aA aQ cE dJ)) else(regletref17_Same.j0 k true aA aQ cE dJ))=some r:=h;clear h;have HC3:=aM H;clear H;go_enter Try.func18,Try.ntmps18
 go_upto_region 1 with(first|((with_reducible refine bJ (N:=2) rfl ?_);refine box_event ?hg (N:=2) ?hd (cs:=#[.slice bC aA.length bE,.slice bK aQ.length bM]) (t:=31) ?hr ?_;(case hd=>rfl);(case hg=>rfl);(case hr=>first|(go_simp;done)|(go_simp;rfl));intro cB hg w4 hbox hb;have bZ:=aM (bG (by repeat(first|(with_reducible first|exact HB.out|apply aN|apply aP|apply aO)|exact HB.out)) hb);have cA:=aM (hbox);have cD:=aM ((by rw [hg];exact(bH (by repeat(first|(with_reducible first|exact HB.out|apply aN|apply aP|apply aO)|exact HB.out))):w.heap.size≤cB));have cL:=aM ((by rw [hg];exact(bH (by repeat(first|(with_reducible first|exact HB.out|apply aN|apply aP|apply aO)|exact HB.out))):w.heap.size≤cB));clear HB;have HB:=bZ;have bU:=cA;have GW115:=cD;have dN:=cL;clear bZ cA cD cL;clear hb hbox hg)|((with_reducible refine bJ (N:=3) rfl ?_);refine box_event ?hg (N:=3) ?hd (cs:=#[.slice fX cE.length fY,.slice fZ dJ.length gA]) (t:=31) ?hr ?_;(case hd=>rfl);(case hg=>rfl);(case hr=>first|(go_simp;done)|(go_simp;rfl));intro cW hg w5 hbox hb;have bZ:=aM (bF (g:=cB) (o:= .cells #[.slice bC aA.length bE,.slice bK aQ.length bM] 31 (0,0)) (by(with_reducible repeat(first|refine aJ ?_ _|refine aK ?_|refine aI ?_ _));exact bU.out) hb);have cA:=aM (bG (by repeat(first|(with_reducible first|exact HB.out|apply aN|apply aP|apply aO|refine aL ?_ dN.out)|exact HB.out)) hb);have cD:=aM (hbox);have cL:=aM ((by rw [hg];exact(bH (by repeat(first|(with_reducible first|exact HB.out|apply aN|apply aP|apply aO|refine aL ?_ dN.out)|exact HB.out))):w.heap.size≤cW));have dR:=aM ((by rw [hg];exact(bH (by repeat(first|(with_reducible first|exact HB.out|apply aN|apply aP|apply aO|refine aL ?_ dN.out)|exact HB.out))):w.heap.size≤cW));have eB:=aM ((by rw [hg];exact Nat.ne_of_lt (bN (g:=cB) (o:= .cells #[.slice bC aA.length bE,.slice bK aQ.length bM] 31 (0,0)) (by(with_reducible repeat(first|refine aJ ?_ _|refine aK ?_|refine aI ?_ _));exact bU.out)):cB≠cW));have eH:=aM ((by rw [hg];exact Nat.ne_of_gt (bN (g:=cB) (o:= .cells #[.slice bC aA.length bE,.slice bK aQ.length bM] 31 (0,0)) (by(with_reducible repeat(first|refine aJ ?_ _|refine aK ?_|refine aI ?_ _));exact bU.out)):cW≠cB));clear bU;clear HB;have bU:=bZ;have HB:=cA;have cS:=cD;have GW116:=cL;have fE:=dR;have dL:=eB;have dM:=eH;clear bZ cA cD cL dR eB eH;clear hb hbox hg))
 repeat(go_quiet (first|((with_reducible refine bJ (N:=2) rfl ?_);refine box_event ?hg (N:=2) ?hd (cs:=#[.slice bC aA.length bE,.slice bK aQ.length bM]) (t:=31) ?hr ?_;(case hd=>rfl);(case hg=>rfl);(case hr=>first|(go_simp;done)|(go_simp;rfl));intro cB hg w4 hbox hb;have bZ:=aM (bG (by repeat(first|(with_reducible first|exact HB.out|apply aN|apply aP|apply aO)|exact HB.out)) hb);have cA:=aM (hbox);have cD:=aM ((by rw [hg];exact(bH (by repeat(first|(with_reducible first|exact HB.out|apply aN|apply aP|apply aO)|exact HB.out))):w.heap.size≤cB));have cL:=aM ((by rw [hg];exact(bH (by repeat(first|(with_reducible first|exact HB.out|apply aN|apply aP|apply aO)|exact HB.out))):w.heap.size≤cB));clear HB;have HB:=bZ;have bU:=cA;have GW115:=cD;have dN:=cL;clear bZ cA cD cL;clear hb hbox hg)|((with_reducible refine bJ (N:=3) rfl ?_);refine box_event ?hg (N:=3) ?hd (cs:=#[.slice fX cE.length fY,.slice fZ dJ.length gA]) (t:=31) ?hr ?_;(case hd=>rfl);(case hg=>rfl);(case hr=>first|(go_simp;done)|(go_simp;rfl));intro cW hg w5 hbox hb;have bZ:=aM (bF (g:=cB) (o:= .cells #[.slice bC aA.length bE,.slice bK aQ.length bM] 31 (0,0)) (by(with_reducible repeat(first|refine aJ ?_ _|refine aK ?_|refine aI ?_ _));exact bU.out) hb);have cA:=aM (bG (by repeat(first|(with_reducible first|exact HB.out|apply aN|apply aP|apply aO|refine aL ?_ dN.out)|exact HB.out)) hb);have cD:=aM (hbox);have cL:=aM ((by rw [hg];exact(bH (by repeat(first|(with_reducible first|exact HB.out|apply aN|apply aP|apply aO|refine aL ?_ dN.out)|exact HB.out))):w.heap.size≤cW));have dR:=aM ((by rw [hg];exact(bH (by repeat(first|(with_reducible first|exact HB.out|apply aN|apply aP|apply aO|refine aL ?_ dN.out)|exact HB.out))):w.heap.size≤cW));have eB:=aM ((by rw [hg];exact Nat.ne_of_lt (bN (g:=cB) (o:= .cells #[.slice bC aA.length bE,.slice bK aQ.length bM] 31 (0,0)) (by(with_reducible repeat(first|refine aJ ?_ _|refine aK ?_|refine aI ?_ _));exact bU.out)):cB≠cW));have eH:=aM ((by rw [hg];exact Nat.ne_of_gt (bN (g:=cB) (o:= .cells #[.slice bC aA.length bE,.slice bK aQ.length bM] 31 (0,0)) (by(with_reducible repeat(first|refine aJ ?_ _|refine aK ?_|refine aI ?_ _));exact bU.out)):cW≠cB));clear bU;clear HB;have bU:=bZ;have HB:=cA;have cS:=cD;have GW116:=cL;have fE:=dR;have dL:=eB;have dM:=eH;clear bZ cA cD cL dR eB eH;clear hb hbox hg));go_upto_region 1 with(first|((with_reducible refine bJ (N:=2) rfl ?_);refine box_event ?hg (N:=2) ?hd (cs:=#[.slice bC aA.length bE,.slice bK aQ.length bM]) (t:=31) ?hr ?_;(case hd=>rfl);(case hg=>rfl);(case hr=>first|(go_simp;done)|(go_simp;rfl));intro cB hg w4 hbox hb;have bZ:=aM (bG (by repeat(first|(with_reducible first|exact HB.out|apply aN|apply aP|apply aO)|exact HB.out)) hb);have cA:=aM (hbox);have cD:=aM ((by rw [hg];exact(bH (by repeat(first|(with_reducible first|exact HB.out|apply aN|apply aP|apply aO)|exact HB.out))):w.heap.size≤cB));have cL:=aM ((by rw [hg];exact(bH (by repeat(first|(with_reducible first|exact HB.out|apply aN|apply aP|apply aO)|exact HB.out))):w.heap.size≤cB));clear HB;have HB:=bZ;have bU:=cA;have GW115:=cD;have dN:=cL;clear bZ cA cD cL;clear hb hbox hg)|((with_reducible refine bJ (N:=3) rfl ?_);refine box_event ?hg (N:=3) ?hd (cs:=#[.slice fX cE.length fY,.slice fZ dJ.length gA]) (t:=31) ?hr ?_;(case hd=>rfl);(case hg=>rfl);(case hr=>first|(go_simp;done)|(go_simp;rfl));intro cW hg w5 hbox hb;have bZ:=aM (bF (g:=cB) (o:= .cells #[.slice bC aA.length bE,.slice bK aQ.length bM] 31 (0,0)) (by(with_reducible repeat(first|refine aJ ?_ _|refine aK ?_|refine aI ?_ _));exact bU.out) hb);have cA:=aM (bG (by repeat(first|(with_reducible first|exact HB.out|apply aN|apply aP|apply aO|refine aL ?_ dN.out)|exact HB.out)) hb);have cD:=aM (hbox);have cL:=aM ((by rw [hg];exact(bH (by repeat(first|(with_reducible first|exact HB.out|apply aN|apply aP|apply aO|refine aL ?_ dN.out)|exact HB.out))):w.heap.size≤cW));have dR:=aM ((by rw [hg];exact(bH (by repeat(first|(with_reducible first|exact HB.out|apply aN|apply aP|apply aO|refine aL ?_ dN.out)|exact HB.out))):w.heap.size≤cW));have eB:=aM ((by rw [hg];exact Nat.ne_of_lt (bN (g:=cB) (o:= .cells #[.slice bC aA.length bE,.slice bK aQ.length bM] 31 (0,0)) (by(with_reducible repeat(first|refine aJ ?_ _|refine aK ?_|refine aI ?_ _));exact bU.out)):cB≠cW));have eH:=aM ((by rw [hg];exact Nat.ne_of_gt (bN (g:=cB) (o:= .cells #[.slice bC aA.length bE,.slice bK aQ.length bM] 31 (0,0)) (by(with_reducible repeat(first|refine aJ ?_ _|refine aK ?_|refine aI ?_ _));exact bU.out)):cW≠cB));clear bU;clear HB;have bU:=bZ;have HB:=cA;have cS:=cD;have GW116:=cL;have fE:=dR;have dL:=eB;have dM:=eH;clear bZ cA cD cL dR eB eH;clear hb hbox hg)))
 (try simp only [Act.put,List.setIfInBounds_toArray,List.set_cons_zero,List.set_cons_succ])
 go_cut [20] (fun v20 wc=>∃(kq:Nat) (iA:Bool),v20= .bool iA∧Aside0 (regletref17_Same.j0 kq iA aA aQ cE dJ=some r)∧Aside0 (kq≤k)∧Aside0 (wc.heap[cB]?=some (.cells #[(.slice bC aA.length bE),(.slice bK aQ.length bM)] 31 (0,0)))∧Aside0 (wc.heap[cW]?=some (.cells #[(.slice fX cE.length fY),(.slice fZ dJ.length gA)] 31 (0,0)))∧Aside0 (Below w.heap.size w wc))
 case first=>
  have H:=HC3.out;clear HC3
  by_cases c6:(aA.length:Int)=(cE.length:Int)
  ·rw [if_pos c6] at H
   have gL:((aA.length:Int)==(cE.length:Int))=true:=beq_iff_eq.mpr c6;have jY:((aA.length:Int) !=(cE.length:Int))=false:=bne_eq_false_iff_eq.mpr c6;have lG:(aA.length==cE.length)=true:=by first|simpa using c6|(simp at c6 ⊢;omega)
   clear c6
   (first|rw [gL]|(simp only [i64_w,i32_w];rw [gL])|skip)
   replace H:=Option.bind_eq_some_iff.mp H;obtain⟨t117,A70,H⟩:=H;replace H:(regletref17_Same.j0 k (!t117) aA aQ cE dJ)=some r:=H;have A7:=aM A70;clear A70;have H':=aM H;clear H;have hnb8:=dL.out;have hnc8:=dM.out;have hU:w5.cell? ⟨cB,0,none⟩=some (.slice bC aA.length bE):=(aG bU.out 0).trans rfl;have hX:w5.cell? ⟨cB,1,none⟩=some (.slice bK aQ.length bM):=(aG bU.out 1).trans rfl;have hY:=aH bU.out 0;have hZ:=aH bU.out 1;have iB:w5.cell? ⟨cW,0,none⟩=some (.slice fX cE.length fY):=(aG cS.out 0).trans rfl;have iC:w5.cell? ⟨cW,1,none⟩=some (.slice fZ dJ.length gA):=(aG cS.out 1).trans rfl;have iD:=aH cS.out 0;have iE:=aH cS.out 1
   go_wp2_with (first|(go_at_call 30;(with_reducible refine(regletref15_Same.calls k _ _ aQ _ _ dJ t117 _ ?side1 ?side2 ?side3 ?side4 A7.out).mono ?_);(case side1=>repeat(first|exact(bD fT.out HB.out)|(with_reducible refine Kd.C_alloc ?_ _)|(with_reducible refine bB ?_ _)|(with_reducible refine Kd.C_drew ?_)));(case side2=>exact fU.out);(case side3=>repeat(first|exact(bD jB.out HB.out)|(with_reducible refine Kd.C_alloc ?_ _)|(with_reducible refine bB ?_ _)|(with_reducible refine Kd.C_drew ?_)));(case side4=>exact jC.out);rintro e w' ⟨rfl,⟨nd,rfl⟩⟩;(try first|exact⟨rfl,_,World.drewN_drewN _ _ _⟩|exact⟨rfl,_,Eq.trans (World.drewN_drewN _ _ _) (congrArg (World.drewN _) (Nat.add_assoc _ _ _))⟩)))
   repeat(go_quiet (first|(go_at_call 30;(with_reducible refine(regletref15_Same.calls k _ _ aQ _ _ dJ t117 _ ?side1 ?side2 ?side3 ?side4 A7.out).mono ?_);(case side1=>repeat(first|exact(bD fT.out HB.out)|(with_reducible refine Kd.C_alloc ?_ _)|(with_reducible refine bB ?_ _)|(with_reducible refine Kd.C_drew ?_)));(case side2=>exact fU.out);(case side3=>repeat(first|exact(bD jB.out HB.out)|(with_reducible refine Kd.C_alloc ?_ _)|(with_reducible refine bB ?_ _)|(with_reducible refine Kd.C_drew ?_)));(case side4=>exact jC.out);rintro e w' ⟨rfl,⟨nd,rfl⟩⟩;(try first|exact⟨rfl,_,World.drewN_drewN _ _ _⟩|exact⟨rfl,_,Eq.trans (World.drewN_drewN _ _ _) (congrArg (World.drewN _) (Nat.add_assoc _ _ _))⟩)));try go_wp2_with (first|(go_at_call 30;(with_reducible refine(regletref15_Same.calls k _ _ aQ _ _ dJ t117 _ ?side1 ?side2 ?side3 ?side4 A7.out).mono ?_);(case side1=>repeat(first|exact(bD fT.out HB.out)|(with_reducible refine Kd.C_alloc ?_ _)|(with_reducible refine bB ?_ _)|(with_reducible refine Kd.C_drew ?_)));(case side2=>exact fU.out);(case side3=>repeat(first|exact(bD jB.out HB.out)|(with_reducible refine Kd.C_alloc ?_ _)|(with_reducible refine bB ?_ _)|(with_reducible refine Kd.C_drew ?_)));(case side4=>exact jC.out);rintro e w' ⟨rfl,⟨nd,rfl⟩⟩;(try first|exact⟨rfl,_,World.drewN_drewN _ _ _⟩|exact⟨rfl,_,Eq.trans (World.drewN_drewN _ _ _) (congrArg (World.drewN _) (Nat.add_assoc _ _ _))⟩))))
   go_meet
   case rel=>exact⟨_,(!t117),(by first|rfl|(simp;done)|(simp [*];done)),H',⟨by first|omega|exact Nat.le_refl _⟩,⟨by(with_reducible repeat(first|refine aJ ?_ _|refine aK ?_|refine aI ?_ _));exact bU.out⟩,⟨by(with_reducible repeat(first|refine aJ ?_ _|refine aK ?_|refine aI ?_ _));exact cS.out⟩,⟨by repeat(first|(with_reducible first|exact HB.out|apply aN|apply aP|apply aO|refine aL ?_ dN.out|refine aL ?_ fE.out)|exact HB.out)⟩⟩
  ·rw [if_neg c6] at H
   have gL:((aA.length:Int)==(cE.length:Int))=false:=beq_eq_false_iff_ne.mpr c6;have jY:((aA.length:Int) !=(cE.length:Int))=true:=bne_iff_ne.mpr c6;have lG:(aA.length==cE.length)=false:=by first|simpa using c6|(simp at c6 ⊢;omega)
   (first|rw [gL]|(simp only [i64_w,i32_w];rw [gL])|skip)
   have H':=aM H;clear H;have hnb11:=dL.out;have hnc11:=dM.out;have iF:w5.cell? ⟨cB,0,none⟩=some (.slice bC aA.length bE):=(aG bU.out 0).trans rfl;have iG:w5.cell? ⟨cB,1,none⟩=some (.slice bK aQ.length bM):=(aG bU.out 1).trans rfl;have iH:=aH bU.out 0;have iI:=aH bU.out 1;have gD:w5.cell? ⟨cW,0,none⟩=some (.slice fX cE.length fY):=(aG cS.out 0).trans rfl;have gE:w5.cell? ⟨cW,1,none⟩=some (.slice fZ dJ.length gA):=(aG cS.out 1).trans rfl;have gF:=aH cS.out 0;have gG:=aH cS.out 1;go_wp2
   repeat(go_quiet (fail);try go_wp2)
   go_meet
   case rel=>exact⟨_,(true),(by first|rfl|(simp;done)|(simp [*];done)),H',⟨by first|omega|exact Nat.le_refl _⟩,⟨by(with_reducible repeat(first|refine aJ ?_ _|refine aK ?_|refine aI ?_ _));exact bU.out⟩,⟨by(with_reducible repeat(first|refine aJ ?_ _|refine aK ?_|refine aI ?_ _));exact cS.out⟩,⟨by repeat(first|(with_reducible first|exact HB.out|apply aN|apply aP|apply aO|refine aL ?_ dN.out|refine aL ?_ fE.out)|exact HB.out)⟩⟩
 case rest=>
  clear HC3
  (try clear c1);(try clear p2);(try clear c6);(try clear gL);(try clear jY);(try clear lG);(try clear c8);(try clear c11);(try clear iB);(try clear iC);(try clear iF);(try clear iG);(try clear gD);(try clear gE);(try clear hU);(try clear hX);(try clear iD);(try clear iE);(try clear iH);(try clear iI);(try clear gF);(try clear gG)
  (try clear hY);(try clear hZ)
  obtain⟨kq,iA,rfl,HA,HJ2,bU,cS,HB⟩:=hcut
  cases kq with
  |zero=>exact absurd HA.out (by simp [regletref17_Same.j0])
  |succ pM=>
   have H:=HA.out;clear HA;simp only [regletref17_Same.j0] at H
   by_cases c14:iA=true
   ·subst c14
    have H1:(some false)=some r:=by rw [if_pos rfl] at H;exact H
    clear H;have H:=H1;clear H1;obtain rfl:=Option.some.inj H;go_wp2
    repeat(go_quiet (fail);try go_wp2)
    go_ret
    exact⟨by first|rfl|(simp [errW_none,errW_some]<;>rfl)|(simp [*,errW_none,errW_some]<;>rfl),by repeat(first|(with_reducible first|exact HB.out|apply aN|apply aP|apply aO|refine aL ?_ dN.out|refine aL ?_ fE.out)|exact HB.out)⟩
   ·replace c14:=Bool.eq_false_iff.mpr c14
    subst c14;have H1:(regletref17_Same.l0 pM 0 aA aQ cE dJ)=some r:=by rw [if_neg (show ¬(false=true) by decide)] at H;exact H
    clear H;have H:=H1;clear H1;have H':=aM H;clear H;go_wp2
    repeat(go_quiet (fail);try go_wp2)
    go_loopg [5] pM (fun kq v5 w'=>∃(bY:Int),v5= .int .i64 bY∧Aside0 (regletref17_Same.l0 kq bY aA aQ cE dJ=some r)∧Aside0 (kq≤pM)∧Aside0 (w'.heap[cB]?=some (.cells #[(.slice bC aA.length bE),(.slice bK aQ.length bM)] 31 (0,0)))∧Aside0 (w'.heap[cW]?=some (.cells #[(.slice fX cE.length fY),(.slice fZ dJ.length gA)] 31 (0,0)))∧Aside0 (Below w.heap.size w w'))
    case atStart=>exact⟨(0),(by first|rfl|(simp;done)|(simp [*];done)),H',⟨Nat.le_refl _⟩,⟨by(with_reducible repeat(first|refine aJ ?_ _|refine aK ?_|refine aI ?_ _));exact bU.out⟩,⟨by(with_reducible repeat(first|refine aJ ?_ _|refine aK ?_|refine aI ?_ _));exact cS.out⟩,⟨by repeat(first|(with_reducible first|exact HB.out|apply aN|apply aP|apply aO|refine aL ?_ dN.out|refine aL ?_ fE.out)|exact HB.out)⟩⟩
    case round=>
     clear H'
     (try clear c1);(try clear p2);(try clear c6);(try clear gL);(try clear jY);(try clear lG);(try clear c8);(try clear c11);(try clear c14);(try clear iB);(try clear iC);(try clear iF);(try clear iG);(try clear gD);(try clear gE);(try clear hU);(try clear hX);(try clear iD);(try clear iE);(try clear iH);(try clear iI);(try clear gF)
     (try clear gG);(try clear hY);(try clear hZ);(try clear p2)
     obtain⟨bY,rfl,HA,HK2,bU,cS,HB⟩:=hrel
     cases gk with
     |zero=>exact absurd HA.out (by simp [regletref17_Same.l0])
     |succ k2=>
      have H:=HA.out;clear HA;simp only [regletref17_Same.l0] at H
      by_cases c15:bY<(aA.length:Int)
      ·rw [if_pos c15] at H
       have lV:decide (bY<(aA.length:Int))=true:=decide_eq_true c15;clear c15
       by_cases c16:0≤bY
       rotate_left
       ·rw [if_neg c16] at H
        exact absurd H (by simp)
       rw [if_pos c16] at H;have qL:decide (0≤bY)=true:=decide_eq_true c16;clear c16
       by_cases c17:bY<(cE.length:Int)
       rotate_left
       ·rw [if_neg c17] at H
        exact absurd H (by simp)
       rw [if_pos c17] at H;have qM:decide (bY<(cE.length:Int))=true:=decide_eq_true c17;clear c17
       by_cases c18:((rd_T34 aA bY).f0)=((rd_T34 cE bY).f0)
       ·rw [if_pos c18] at H
        have lW:(((rd_T34 aA bY).f0)==((rd_T34 cE bY).f0))=true:=beq_iff_eq.mpr c18;have lX:(((rd_T34 aA bY).f0) !=((rd_T34 cE bY).f0))=false:=bne_eq_false_iff_eq.mpr c18;clear c18;replace H:=Option.bind_eq_some_iff.mp H;obtain⟨t122,A190,H⟩:=H;replace H:(if t122=true then(regletref17_Same.l0 k2 (wrap64 (bY+1)) aA aQ cE dJ) else(some false))=some r:=H;have A19:=aM A190;clear A190
        by_cases c20:t122=true
        ·subst c20
         have H1:(regletref17_Same.l0 k2 (wrap64 (bY+1)) aA aQ cE dJ)=some r:=by rw [if_pos rfl] at H;exact H
         clear H;have H:=H1;clear H1;have H':=aM H;clear H;have hnb21:=dL.out;have hnc21:=dM.out;have jZ:wr.cell? ⟨cB,0,none⟩=some (.slice bC aA.length bE):=(aG bU.out 0).trans rfl;have kA:wr.cell? ⟨cB,1,none⟩=some (.slice bK aQ.length bM):=(aG bU.out 1).trans rfl;have kB:=aH bU.out 0;have kC:=aH bU.out 1;have p118:0≤(bY:Int):=of_decide_eq_true (by first|(with_reducible assumption)|assumption);have q118:bY<(aA.length:Int):=of_decide_eq_true (by first|(with_reducible assumption)|assumption);obtain⟨iJ,jD,jE,e118,dO,dF,eI,eJ⟩:=at_T34 fD.out bY p118 q118
         cases e118;replace dO:=(HB.out.cell (World.block_lt_of_cell? w _ dO)).trans dO;replace dF:=(HB.out.cell (World.block_lt_of_cell? w _ dF)).trans dF;have iK:=aM eJ;have iL:=aM eI;clear eJ eI;replace p118:=eq_true p118;replace q118:=eq_true q118;have mO:wr.cell? ⟨cW,0,none⟩=some (.slice fX cE.length fY):=(aG cS.out 0).trans rfl;have mP:wr.cell? ⟨cW,1,none⟩=some (.slice fZ dJ.length gA):=(aG cS.out 1).trans rfl;have mQ:=aH cS.out 0;have mR:=aH cS.out 1;have p119:0≤(bY:Int):=of_decide_eq_true (by first|(with_reducible assumption)|assumption);have q119:bY<(cE.length:Int):=of_decide_eq_true (by first|(with_reducible assumption)|assumption);obtain⟨iM,jF,jG,e119,dP,dG,eK,eL⟩:=at_T34 gO.out bY p119 q119
         cases e119;replace dP:=(HB.out.cell (World.block_lt_of_cell? w _ dP)).trans dP;replace dG:=(HB.out.cell (World.block_lt_of_cell? w _ dG)).trans dG;have iN:=aM eL;have iO:=aM eK;clear eL eK;replace p119:=eq_true p119;replace q119:=eq_true q119;have p120:0≤(bY:Int):=of_decide_eq_true (by first|(with_reducible assumption)|assumption);have q120:bY<(aA.length:Int):=of_decide_eq_true (by first|(with_reducible assumption)|assumption);obtain⟨jH,lH,lI,e120,eR,eC,fG,fH⟩:=at_T34 fD.out bY p120 q120;obtain rfl:iJ=jH:=(by injection e120);replace eR:=(HB.out.cell (World.block_lt_of_cell? w _ eR)).trans eR;replace eC:=(HB.out.cell (World.block_lt_of_cell? w _ eC)).trans eC;have eS:=aM fH;have eT:=aM fG;clear fH fG;replace p120:=eq_true p120;replace q120:=eq_true q120;have ea_:=Option.some.inj (dF.symm.trans eC);injection ea_ with ea_ en_ ec_
         subst ea_;subst ec_;clear en_;have p121:0≤(bY:Int):=of_decide_eq_true (by first|(with_reducible assumption)|assumption);have q121:bY<(cE.length:Int):=of_decide_eq_true (by first|(with_reducible assumption)|assumption);obtain⟨jI,lJ,lK,e121,eU,eD,fI,fJ⟩:=at_T34 gO.out bY p121 q121;obtain rfl:iM=jI:=(by injection e121);replace eU:=(HB.out.cell (World.block_lt_of_cell? w _ eU)).trans eU;replace eD:=(HB.out.cell (World.block_lt_of_cell? w _ eD)).trans eD;have eV:=aM fJ;have eW:=aM fI;clear fJ fI;replace p121:=eq_true p121;replace q121:=eq_true q121;have ea_:=Option.some.inj (dG.symm.trans eD);injection ea_ with ea_ en_ ec_
         subst ea_;subst ec_;clear en_
         go_wp2_with (first|(go_at_call 19;(with_reducible refine(regletref13_SameInts.calls k2 _ _ ((rd_T34 aA bY).f1) _ _ ((rd_T34 cE bY).f1) true _ ?side1 ?side2 ?side3 ?side4 A19.out).mono ?_);(case side1=>repeat(first|exact(bD eS.out HB.out)|(with_reducible refine Kd.C_alloc ?_ _)|(with_reducible refine bB ?_ _)|(with_reducible refine Kd.C_drew ?_)));(case side2=>exact eT.out);(case side3=>repeat(first|exact(bD eV.out HB.out)|(with_reducible refine Kd.C_alloc ?_ _)|(with_reducible refine bB ?_ _)|(with_reducible refine Kd.C_drew ?_)));(case side4=>exact eW.out);rintro e w' ⟨rfl,⟨nd,rfl⟩⟩;(try first|exact⟨rfl,_,World.drewN_drewN _ _ _⟩|exact⟨rfl,_,Eq.trans (World.drewN_drewN _ _ _) (congrArg (World.drewN _) (Nat.add_assoc _ _ _))⟩)))
         repeat(go_quiet (first|(go_at_call 19;(with_reducible refine(regletref13_SameInts.calls k2 _ _ ((rd_T34 aA bY).f1) _ _ ((rd_T34 cE bY).f1) true _ ?side1 ?side2 ?side3 ?side4 A19.out).mono ?_);(case side1=>repeat(first|exact(bD eS.out HB.out)|(with_reducible refine Kd.C_alloc ?_ _)|(with_reducible refine bB ?_ _)|(with_reducible refine Kd.C_drew ?_)));(case side2=>exact eT.out);(case side3=>repeat(first|exact(bD eV.out HB.out)|(with_reducible refine Kd.C_alloc ?_ _)|(with_reducible refine bB ?_ _)|(with_reducible refine Kd.C_drew ?_)));(case side4=>exact eW.out);rintro e w' ⟨rfl,⟨nd,rfl⟩⟩;(try first|exact⟨rfl,_,World.drewN_drewN _ _ _⟩|exact⟨rfl,_,Eq.trans (World.drewN_drewN _ _ _) (congrArg (World.drewN _) (Nat.add_assoc _ _ _))⟩)));try go_wp2_with (first|(go_at_call 19;(with_reducible refine(regletref13_SameInts.calls k2 _ _ ((rd_T34 aA bY).f1) _ _ ((rd_T34 cE bY).f1) true _ ?side1 ?side2 ?side3 ?side4 A19.out).mono ?_);(case side1=>repeat(first|exact(bD eS.out HB.out)|(with_reducible refine Kd.C_alloc ?_ _)|(with_reducible refine bB ?_ _)|(with_reducible refine Kd.C_drew ?_)));(case side2=>exact eT.out);(case side3=>repeat(first|exact(bD eV.out HB.out)|(with_reducible refine Kd.C_alloc ?_ _)|(with_reducible refine bB ?_ _)|(with_reducible refine Kd.C_drew ?_)));(case side4=>exact eW.out);rintro e w' ⟨rfl,⟨nd,rfl⟩⟩;(try first|exact⟨rfl,_,World.drewN_drewN _ _ _⟩|exact⟨rfl,_,Eq.trans (World.drewN_drewN _ _ _) (congrArg (World.drewN _) (Nat.add_assoc _ _ _))⟩))))
         go_roundg k2
         case measure=>have:=HJ2.out;have:=HK2.out;omega
         case rel=>exact⟨(wrap64 (bY+1)),(by first|rfl|(simp;done)|(simp [*];done)),H',⟨by have:=HJ2.out;have:=HK2.out;omega⟩,⟨by(with_reducible repeat(first|refine aJ ?_ _|refine aK ?_|refine aI ?_ _));exact bU.out⟩,⟨by(with_reducible repeat(first|refine aJ ?_ _|refine aK ?_|refine aI ?_ _));exact cS.out⟩,⟨by repeat(first|(with_reducible first|exact HB.out|apply aN|apply aP|apply aO|refine aL ?_ dN.out|refine aL ?_ fE.out)|exact HB.out)⟩⟩
        ·replace c20:=Bool.eq_false_iff.mpr c20
         subst c20;have H1:(some false)=some r:=by rw [if_neg (show ¬(false=true) by decide)] at H;exact H
         clear H;have H:=H1;clear H1;obtain rfl:=Option.some.inj H;have hnb24:=dL.out;have hnc24:=dM.out;have mS:wr.cell? ⟨cB,0,none⟩=some (.slice bC aA.length bE):=(aG bU.out 0).trans rfl;have mT:wr.cell? ⟨cB,1,none⟩=some (.slice bK aQ.length bM):=(aG bU.out 1).trans rfl;have mU:=aH bU.out 0;have mV:=aH bU.out 1;have p118:0≤(bY:Int):=of_decide_eq_true (by first|(with_reducible assumption)|assumption);have q118:bY<(aA.length:Int):=of_decide_eq_true (by first|(with_reducible assumption)|assumption);obtain⟨iJ,jD,jE,e118,dO,dF,eI,eJ⟩:=at_T34 fD.out bY p118 q118
         cases e118;replace dO:=(HB.out.cell (World.block_lt_of_cell? w _ dO)).trans dO;replace dF:=(HB.out.cell (World.block_lt_of_cell? w _ dF)).trans dF;have iK:=aM eJ;have iL:=aM eI;clear eJ eI;replace p118:=eq_true p118;replace q118:=eq_true q118;have mW:wr.cell? ⟨cW,0,none⟩=some (.slice fX cE.length fY):=(aG cS.out 0).trans rfl;have mX:wr.cell? ⟨cW,1,none⟩=some (.slice fZ dJ.length gA):=(aG cS.out 1).trans rfl;have mY:=aH cS.out 0;have mZ:=aH cS.out 1;have p119:0≤(bY:Int):=of_decide_eq_true (by first|(with_reducible assumption)|assumption);have q119:bY<(cE.length:Int):=of_decide_eq_true (by first|(with_reducible assumption)|assumption);obtain⟨iM,jF,jG,e119,dP,dG,eK,eL⟩:=at_T34 gO.out bY p119 q119
         cases e119;replace dP:=(HB.out.cell (World.block_lt_of_cell? w _ dP)).trans dP;replace dG:=(HB.out.cell (World.block_lt_of_cell? w _ dG)).trans dG;have iN:=aM eL;have iO:=aM eK;clear eL eK;replace p119:=eq_true p119;replace q119:=eq_true q119;have p120:0≤(bY:Int):=of_decide_eq_true (by first|(with_reducible assumption)|assumption);have q120:bY<(aA.length:Int):=of_decide_eq_true (by first|(with_reducible assumption)|assumption);obtain⟨jH,lH,lI,e120,eR,eC,fG,fH⟩:=at_T34 fD.out bY p120 q120;obtain rfl:iJ=jH:=(by injection e120);replace eR:=(HB.out.cell (World.block_lt_of_cell? w _ eR)).trans eR;replace eC:=(HB.out.cell (World.block_lt_of_cell? w _ eC)).trans eC;have eS:=aM fH;have eT:=aM fG;clear fH fG;replace p120:=eq_true p120;replace q120:=eq_true q120;have ea_:=Option.some.inj (dF.symm.trans eC);injection ea_ with ea_ en_ ec_
         subst ea_;subst ec_;clear en_;have p121:0≤(bY:Int):=of_decide_eq_true (by first|(with_reducible assumption)|assumption);have q121:bY<(cE.length:Int):=of_decide_eq_true (by first|(with_reducible assumption)|assumption);obtain⟨jI,lJ,lK,e121,eU,eD,fI,fJ⟩:=at_T34 gO.out bY p121 q121;obtain rfl:iM=jI:=(by injection e121);replace eU:=(HB.out.cell (World.block_lt_of_cell? w _ eU)).trans eU;replace eD:=(HB.out.cell (World.block_lt_of_cell? w _ eD)).trans eD;have eV:=aM fJ;have eW:=aM fI;clear fJ fI;replace p121:=eq_true p121;replace q121:=eq_true q121;have ea_:=Option.some.inj (dG.symm.trans eD);injection ea_ with ea_ en_ ec_
         subst ea_;subst ec_;clear en_
         go_wp2_with (first|(go_at_call 19;(with_reducible refine(regletref13_SameInts.calls k2 _ _ ((rd_T34 aA bY).f1) _ _ ((rd_T34 cE bY).f1) false _ ?side1 ?side2 ?side3 ?side4 A19.out).mono ?_);(case side1=>repeat(first|exact(bD eS.out HB.out)|(with_reducible refine Kd.C_alloc ?_ _)|(with_reducible refine bB ?_ _)|(with_reducible refine Kd.C_drew ?_)));(case side2=>exact eT.out);(case side3=>repeat(first|exact(bD eV.out HB.out)|(with_reducible refine Kd.C_alloc ?_ _)|(with_reducible refine bB ?_ _)|(with_reducible refine Kd.C_drew ?_)));(case side4=>exact eW.out);rintro e w' ⟨rfl,⟨nd,rfl⟩⟩;(try first|exact⟨rfl,_,World.drewN_drewN _ _ _⟩|exact⟨rfl,_,Eq.trans (World.drewN_drewN _ _ _) (congrArg (World.drewN _) (Nat.add_assoc _ _ _))⟩)))
         repeat(go_quiet (first|(go_at_call 19;(with_reducible refine(regletref13_SameInts.calls k2 _ _ ((rd_T34 aA bY).f1) _ _ ((rd_T34 cE bY).f1) false _ ?side1 ?side2 ?side3 ?side4 A19.out).mono ?_);(case side1=>repeat(first|exact(bD eS.out HB.out)|(with_reducible refine Kd.C_alloc ?_ _)|(with_reducible refine bB ?_ _)|(with_reducible refine Kd.C_drew ?_)));(case side2=>exact eT.out);(case side3=>repeat(first|exact(bD eV.out HB.out)|(with_reducible refine Kd.C_alloc ?_ _)|(with_reducible refine bB ?_ _)|(with_reducible refine Kd.C_drew ?_)));(case side4=>exact eW.out);rintro e w' ⟨rfl,⟨nd,rfl⟩⟩;(try first|exact⟨rfl,_,World.drewN_drewN _ _ _⟩|exact⟨rfl,_,Eq.trans (World.drewN_drewN _ _ _) (congrArg (World.drewN _) (Nat.add_assoc _ _ _))⟩)));try go_wp2_with (first|(go_at_call 19;(with_reducible refine(regletref13_SameInts.calls k2 _ _ ((rd_T34 aA bY).f1) _ _ ((rd_T34 cE bY).f1) false _ ?side1 ?side2 ?side3 ?side4 A19.out).mono ?_);(case side1=>repeat(first|exact(bD eS.out HB.out)|(with_reducible refine Kd.C_alloc ?_ _)|(with_reducible refine bB ?_ _)|(with_reducible refine Kd.C_drew ?_)));(case side2=>exact eT.out);(case side3=>repeat(first|exact(bD eV.out HB.out)|(with_reducible refine Kd.C_alloc ?_ _)|(with_reducible refine bB ?_ _)|(with_reducible refine Kd.C_drew ?_)));(case side4=>exact eW.out);rintro e w' ⟨rfl,⟨nd,rfl⟩⟩;(try first|exact⟨rfl,_,World.drewN_drewN _ _ _⟩|exact⟨rfl,_,Eq.trans (World.drewN_drewN _ _ _) (congrArg (World.drewN _) (Nat.add_assoc _ _ _))⟩))))
         go_ret
         exact⟨by first|rfl|(simp [errW_none,errW_some]<;>rfl)|(simp [*,errW_none,errW_some]<;>rfl),by repeat(first|(with_reducible first|exact HB.out|apply aN|apply aP|apply aO|refine aL ?_ dN.out|refine aL ?_ fE.out)|exact HB.out)⟩
       ·rw [if_neg c18] at H
        have lW:(((rd_T34 aA bY).f0)==((rd_T34 cE bY).f0))=false:=beq_eq_false_iff_ne.mpr c18;have lX:(((rd_T34 aA bY).f0) !=((rd_T34 cE bY).f0))=true:=bne_iff_ne.mpr c18;obtain rfl:=Option.some.inj H;have hnb27:=dL.out;have hnc27:=dM.out;have nA:wr.cell? ⟨cB,0,none⟩=some (.slice bC aA.length bE):=(aG bU.out 0).trans rfl;have nB:wr.cell? ⟨cB,1,none⟩=some (.slice bK aQ.length bM):=(aG bU.out 1).trans rfl;have nC:=aH bU.out 0;have nD:=aH bU.out 1;have p118:0≤(bY:Int):=of_decide_eq_true (by first|(with_reducible assumption)|assumption);have q118:bY<(aA.length:Int):=of_decide_eq_true (by first|(with_reducible assumption)|assumption);obtain⟨iJ,jD,jE,e118,dO,dF,eI,eJ⟩:=at_T34 fD.out bY p118 q118
        cases e118;replace dO:=(HB.out.cell (World.block_lt_of_cell? w _ dO)).trans dO;replace dF:=(HB.out.cell (World.block_lt_of_cell? w _ dF)).trans dF;have iK:=aM eJ;have iL:=aM eI;clear eJ eI;replace p118:=eq_true p118;replace q118:=eq_true q118;have nE:wr.cell? ⟨cW,0,none⟩=some (.slice fX cE.length fY):=(aG cS.out 0).trans rfl;have nF:wr.cell? ⟨cW,1,none⟩=some (.slice fZ dJ.length gA):=(aG cS.out 1).trans rfl;have nG:=aH cS.out 0;have nH:=aH cS.out 1;have p119:0≤(bY:Int):=of_decide_eq_true (by first|(with_reducible assumption)|assumption);have q119:bY<(cE.length:Int):=of_decide_eq_true (by first|(with_reducible assumption)|assumption);obtain⟨iM,jF,jG,e119,dP,dG,eK,eL⟩:=at_T34 gO.out bY p119 q119
        cases e119;replace dP:=(HB.out.cell (World.block_lt_of_cell? w _ dP)).trans dP;replace dG:=(HB.out.cell (World.block_lt_of_cell? w _ dG)).trans dG;have iN:=aM eL;have iO:=aM eK;clear eL eK;replace p119:=eq_true p119;replace q119:=eq_true q119;go_wp2
        repeat(go_quiet (fail);try go_wp2)
        go_ret
        exact⟨by first|rfl|(simp [errW_none,errW_some]<;>rfl)|(simp [*,errW_none,errW_some]<;>rfl),by repeat(first|(with_reducible first|exact HB.out|apply aN|apply aP|apply aO|refine aL ?_ dN.out|refine aL ?_ fE.out)|exact HB.out)⟩
      ·rw [if_neg c15] at H
       have lV:decide (bY<(aA.length:Int))=false:=decide_eq_false c15;clear c15;obtain rfl:=Option.some.inj H;have hnb30:=dL.out;have hnc30:=dM.out;have nI:wr.cell? ⟨cB,0,none⟩=some (.slice bC aA.length bE):=(aG bU.out 0).trans rfl;have nJ:wr.cell? ⟨cB,1,none⟩=some (.slice bK aQ.length bM):=(aG bU.out 1).trans rfl;have nK:=aH bU.out 0;have nL:=aH bU.out 1;go_wp2
       repeat(go_quiet (fail);try go_wp2)
       go_ret
       exact⟨by first|rfl|(simp [errW_none,errW_some]<;>rfl)|(simp [*,errW_none,errW_some]<;>rfl),by repeat(first|(with_reducible first|exact HB.out|apply aN|apply aP|apply aO|refine aL ?_ dN.out|refine aL ?_ fE.out)|exact HB.out)⟩
end Go.Proofs.Ytjaindljlgnkcaa.P
end

section
namespace Go.Proofs.Ytjaindljlgnkcaa.P
open Go.Proofs.Ytjaindljlgnkcaa.H Go.RowKit Go.Proofs.YtjaindljlgnkcaaW.PrintWords Go.Proofs.YtjaindljlgnkcaaW.PrintLast Go.Proofs.YtjaindljlgnkcaaW.PrintMore
set_option linter.unusedVariables false
set_option linter.unusedSimpArgs false
set_option maxHeartbeats 1000000 in
set_option maxRecDepth 100000 in
theorem lite_IndexByte (s:ByteArray) (c:Int) (w:World):
 Calls Try.prog 62 #[.string s,.int .u8 c] w fun e w'=>e= .returned (.int .i64 (Lib.indexByte s.data.toList c.toNat.toUInt8))∧w=w':=by
 go_enter Try.func62,Try.ntmps62
 go_wp2
 rw [run_callFunc_extern Try.func66 (by kernel_rfl) (by kernel_rfl) (by kernel_rfl) (e:=Extern.BytealgIndexByte.indexByte) (by kernel_rfl),Lib.run_indexByteString];simp only [Result.andThen];rw [Oper.upon_value];go_wp2
 go_ret
 exact⟨rfl,rfl⟩
theorem indexByte_any:∀(l:List UInt8) (c:UInt8),decide (0≤Lib.indexByte l c)=l.any (fun b=>b==c)
 | [],c=>rfl
 |b::l,c=>by
  have ih:=indexByte_any l c;have h1:=Lib.indexByte_ge l c
  unfold Lib.indexByte
  rw [List.any_cons]
  by_cases hb:(b==c)=true
  ·rw [if_pos hb,hb];rfl
  ·rw [if_neg hb]
   have hb':(b==c)=false:=by simpa using hb
   rw [hb',Bool.false_or,←ih]
   by_cases h2:(Lib.indexByte l c== -1)=true
   ·rw [if_pos h2]
    have:Lib.indexByte l c= -1:=by simpa using h2
    rw [this]
   ·rw [if_neg h2]
    have:Lib.indexByte l c≠ -1:=by simpa using h2
    exact decide_eq_decide.2 ⟨fun h=>by omega,fun h=>by omega⟩
set_option maxHeartbeats 2000000 in
set_option maxRecDepth 100000 in
theorem lite_Index_one (s:ByteArray) (c:UInt8) (w:World):
 Calls Try.prog 61 #[.string s,.string ⟨#[c]⟩] w fun e w'=>e= .returned (.int .i64 (Lib.indexByte s.data.toList c))∧w=w':=by
 go_enter Try.func61,Try.ntmps61
 go_wp2_with (go_at_call 62;refine(lite_IndexByte _ _ _).mono ?_;rintro e w' ⟨rfl,rfl⟩)
 ·have h:([c]==s.toList)=true:=by assumption
  go_ret
  refine⟨?_,rfl⟩
  have e:s.data.toList= [c]:=by rw [←Lib.toList_data];exact(beq_iff_eq.1 h).symm
  rw [e];simp [Lib.indexByte]
 ·go_ret
  exact⟨rfl,rfl⟩
theorem strings_Index_dot (s:ByteArray) (c:UInt8) (w:World):
 Calls Try.prog 60 #[.string s,.string ⟨#[c]⟩] w fun e w'=>e= .returned (.int .i64 (Lib.indexByte s.data.toList c))∧w=w':=by
 go_enter Try.func60,Try.ntmps60
 go_wp2_with (go_at_call 61;refine(lite_Index_one _ _ _).mono ?_;rintro e w' ⟨rfl,rfl⟩)
 go_ret
 exact⟨rfl,rfl⟩
theorem contains_dot (s:ByteArray) (w:World):
 Calls Try.prog 58 #[.string s,.string ⟨#[46]⟩] w fun e w'=>e= .returned (.bool (dotted s))∧w=w':=by
 have hd:decide (0≤Lib.indexByte s.data.toList 46)=dotted s:=indexByte_any _ _;go_enter Try.func58,Try.ntmps58
 go_wp2_with (go_at_call 60;refine(strings_Index_dot _ _ _).mono ?_;rintro e w' ⟨rfl,rfl⟩)
 go_ret
 exact⟨rfl,rfl⟩
end Go.Proofs.Ytjaindljlgnkcaa.P
end
