/- Packed texts of this claim: the walks of the functions, and their plain laws; see the claim's last text. -/
import Derived.WalkMore
import Derived.Deep.RegionHeld3
import Derived.Lib.SliceRun
import Derived.RangeFuncNested
import Derived.RangeFuncBound
import Derived.RangeFuncCalls
import Derived.RangeFuncLeaves
import Derived.Shelf.Abstract
import Derived.WalkKit
import Derived.OwnWalkIn
import Derived.TacticsInMore
import Derived.LoopNIn
import Derived.LoopIn
import Derived.Maps.OwnIn
import Derived.OrdersIn
import Derived.Test.YtapjfnfengefpaaKMachineClear3
section
namespace Go.Proofs.Ytapjfnfengefpaa.P
open Go.RowKit Go.Proofs.YtapjfnfengefpaaW.PrintWords Go.Proofs.YtapjfnfengefpaaW.PrintLast Go.Proofs.YtapjfnfengefpaaW.PrintMore
set_option linter.unusedVariables false
set_option linter.unusedSimpArgs false
theorem indexInt_any (p:Int→Bool) (g:Nat) (lb:Array Value) (eg:∀args w,(callFunc g args).run Try.prog w= .ok (.enter g args) w) (A:Option Addr) (c:Nat) (zs:List Int) (w:World)
 (hr:Kd.C (Kd.int .i64) w A zs.length zs) (hbig:zs.length≤9223372036854775807) (hp:∀(W:World) (x:Int),x∈zs→Below w.heap.size w W→Calls Try.prog g (#[.int .i64 x]++lb) W fun e w'=>e= .returned (.bool (p x))∧Below w.heap.size w w'):
 Calls Try.prog 57 #[.slice A zs.length c,.func (.func g) #[] lb] w fun e w'=>(∃n:Int,e= .returned (.int .i64 n)∧Aside0 (decide (0≤n)=zs.any p))∧Below w.heap.size w w':=by
 go_enter Try.func57,Try.ntmps57
 go_wp2
 go_loopg [5,8] zs.length (fun gg _ s8 wr=>∃kk:Nat,kk≤zs.length∧zs.length - kk≤gg∧s8= .int .i64 kk∧Aside0 (Below w.heap.size w wr)∧Aside0 ((zs.take kk).any p=false))
 case atStart=>exact⟨0,Nat.zero_le _,by omega,rfl,⟨Below.refl _ w⟩,⟨by simp⟩⟩
 case round=>
  obtain⟨kk,hkk,hg,rfl,BW,PA⟩:=hrel
  by_cases hlt:kk<zs.length
  ·have hltz:(kk:Int)<(zs.length:Int):=by omega
   have hrd:rd zs (kk:Int)=zs[kk]:=by simp [rd,hlt]
   obtain⟨ad,e,l0⟩:=Kd.at_int (bD hr BW.out) (kk:Int) (by omega) (by omega);have hcall:=hp wr zs[kk] (List.getElem_mem hlt) BW.out;rw [hrd,Int.toNat_natCast] at l0;subst e;have PB:Aside0 ((zs.take (kk+1)).any p=p zs[kk]):=⟨by rw [List.take_succ_eq_append_getElem hlt,List.any_append,PA.out];simp⟩
   have PC:Aside0 (zs.any p=(p zs[kk]||(zs.drop (kk+1)).any p)):=⟨by
    conv=>lhs;rw [←List.take_append_drop (kk+1) zs]
    rw [List.any_append,PB.out]⟩
   clear hp hr hrd;generalize zs[kk]=y at l0 hcall PB PC
   cases hq:p y with
   |true=>
    rw [hq] at hcall;have PD:Aside0 (zs.any p=true):=⟨by rw [PC.out,hq];simp⟩;clear PA PB PC hq
    go_wp2_with (go_at_fn g;refine hcall.mono ?_;rintro e w' ⟨rfl,hb'⟩)
    go_ret
    exact⟨⟨_,rfl,⟨by rw [PD.out];simp⟩⟩,hb'⟩
   |false=>
    rw [hq] at hcall;have PD:Aside0 ((zs.take (kk+1)).any p=false):=⟨by rw [PB.out,hq]⟩;clear PA PB PC hq
    go_wp2_with (go_at_fn g;refine hcall.mono ?_;rintro e w' ⟨rfl,hb'⟩)
    go_roundg (zs.length - (kk+1))
    case measure=>omega
    case rel=>exact⟨kk+1,by omega,by omega,by go_num,⟨hb'⟩,PD⟩
  ·have hltz:¬(kk:Int)<(zs.length:Int):=by omega
   have:kk=zs.length:=by omega
   subst this;have PD:Aside0 (zs.any p=false):=⟨by have:=PA.out;rwa [List.take_length] at this⟩;clear PA hp hr;go_wp2
   go_ret
   exact⟨⟨-1,rfl,⟨by rw [PD.out];simp⟩⟩,BW.out⟩
theorem containsInt_any (p:Int→Bool) (g:Nat) (lb:Array Value) (eg:∀args w,(callFunc g args).run Try.prog w= .ok (.enter g args) w) (A:Option Addr) (c:Nat) (zs:List Int) (w:World)
 (hr:Kd.C (Kd.int .i64) w A zs.length zs) (hbig:zs.length≤9223372036854775807) (hp:∀(W:World) (x:Int),x∈zs→Below w.heap.size w W→Calls Try.prog g (#[.int .i64 x]++lb) W fun e w'=>e= .returned (.bool (p x))∧Below w.heap.size w w'):
 Calls Try.prog 41 #[.slice A zs.length c,.func (.func g) #[] lb] w fun e w'=>e= .returned (.bool (zs.any p))∧Below w.heap.size w w':=by
 have hcon:=indexInt_any p g lb eg A c zs w hr hbig hp;have e6:∀args w,(callFunc 57 args).run Try.prog w= .ok (.enter 57 args) w:=enters_of Try.func57 (by kernel_rfl) rfl;clear hp hr;go_enter Try.func41,Try.ntmps41
 go_wp2_with (go_at_fn 57;refine hcon.mono ?_;rintro e w' ⟨⟨nn_,rfl,hn_⟩,hb'⟩)
 go_ret
 exact⟨by rw [←hn_.out];rfl,hb'⟩
def okEnt (ps:List S35) (r p:Int):Bool:=decide (-1≤p) && decide (p<(ps.length:Int)) && (decide (p<0)||decide ((rd_T35 ps p).f0=r))
theorem mright1_any (p r:Int) (ps:List S35) (SB RB:Nat) (W:World) (A4:Option Addr) (c4:Nat) (hp:Kd.C k35 W A4 ps.length ps)
 (hS:W.cell? ⟨SB,4,none⟩=some (.slice A4 ps.length c4)) (hr:W.cell? ⟨RB,0,none⟩=some (.int .i64 r)):
 Calls Try.prog 40 #[.int .i64 p,.pointer (some ⟨SB,0,none⟩),.pointer (some ⟨RB,0,none⟩)] W fun e w'=>e= .returned (.bool (!okEnt ps r p))∧Below W.heap.size W w':=by
 have h4:=aM hS;have hR:=aM hr
 unfold okEnt
 by_cases c0:p< -1
 ·have d0:decide (p< -1)=true:=decide_eq_true c0
  have d1:decide (-1≤p)=false:=decide_eq_false (by omega);rw [d1];generalize ps.length=n4 at h4;clear hp hS hr;go_enter Try.func40,Try.ntmps40
  go_upto_region 1 with fail
  refine start_ (n:=24) (S:=fun w'=>w'.cell? ⟨SB,4,none⟩=some (.slice A4 n4 c4)) (ds:= []) #[F,F,F,F,F,F,F,F,F,F,F,F,F,F,F,F,F,F,F,F,F,F,F,F] (by kernel_rfl) rfl rfl (h4.out) (fun hHeld=>?_)
  refine pure_ (i:=0) (N:=some 5) (v:=?_) (a':=?_) #[T,F,F,F,F,F,F,F,F,F,F,F,F,F,F,F,F,F,F,F,F,F,F,F] rfl rfl (by kernel_rfl) (fun _ _ _ h=>h) (Or.inl ⟨by rfl,?_⟩) ?_ ?_
  rotate_left;(intro w';go_simp;with_reducible rfl);rotate_left;(simp only [pq];rfl)
  refine pure_ (i:=1) (N:=some 6) (v:=?_) (a':=?_) #[T,T,F,F,F,F,F,F,F,F,F,F,F,F,F,F,F,F,F,F,F,F,F,F] rfl rfl (by kernel_rfl) (fun _ _ _ h=>h) (Or.inl ⟨by rfl,?_⟩) ?_ ?_
  rotate_left;(intro w';go_simp;with_reducible rfl);rotate_left;(simp only [pq];rfl)
  refine pure_ (i:=2) (N:=some 7) (v:=?_) (a':=?_) #[T,T,T,F,F,F,F,F,F,F,F,F,F,F,F,F,F,F,F,F,F,F,F,F] rfl rfl (by kernel_rfl) (fun _ _ _ h=>h) (Or.inl ⟨by rfl,?_⟩) ?_ ?_
  rotate_left;(intro w';go_simp;with_reducible rfl);rotate_left;(simp only [pq];rfl)
  refine pure_ (i:=3) (N:=some 8) (v:=undef) (a':=?_) #[T,T,T,T,F,F,F,F,F,F,F,F,F,F,F,F,F,F,F,F,F,F,F,F] rfl rfl (by kernel_rfl) (fun _ _ _ h=>h) (Or.inr ⟨by rfl,rfl⟩) ?_ ?_
  rotate_left
  ·simp only [pq]
   rfl
  refine pure_ (i:=4) (N:=some 9) (v:=undef) (a':=?_) #[T,T,T,T,T,F,F,F,F,F,F,F,F,F,F,F,F,F,F,F,F,F,F,F] rfl rfl (by kernel_rfl) (fun _ _ _ h=>h) (Or.inr ⟨by rfl,rfl⟩) ?_ ?_
  rotate_left
  ·simp only [pq]
   rfl
  refine pure_ (i:=5) (N:=some 10) (v:=undef) (a':=?_) #[T,T,T,T,T,T,F,F,F,F,F,F,F,F,F,F,F,F,F,F,F,F,F,F] rfl rfl (by kernel_rfl) (fun _ _ _ h=>h) (Or.inr ⟨by rfl,rfl⟩) ?_ ?_
  rotate_left
  ·simp only [pq]
   rfl
  refine pure_ (i:=6) (N:=some 11) (v:=undef) (a':=?_) #[T,T,T,T,T,T,T,F,F,F,F,F,F,F,F,F,F,F,F,F,F,F,F,F] rfl rfl (by kernel_rfl) (fun _ _ _ h=>h) (Or.inr ⟨by rfl,rfl⟩) ?_ ?_
  rotate_left
  ·simp only [pq]
   rfl
  refine pure_ (i:=7) (N:=some 12) (v:=undef) (a':=?_) #[T,T,T,T,T,T,T,T,F,F,F,F,F,F,F,F,F,F,F,F,F,F,F,F] rfl rfl (by kernel_rfl) (fun _ _ _ h=>h) (Or.inr ⟨by rfl,rfl⟩) ?_ ?_
  rotate_left
  ·simp only [pq]
   rfl
  refine pure_ (i:=8) (N:=some 13) (v:=?_) (a':=?_) #[T,T,T,T,T,T,T,T,T,F,F,F,F,F,F,F,F,F,F,F,F,F,F,F] rfl rfl (by kernel_rfl) (fun _ _ _ h=>h) (Or.inl ⟨by rfl,?_⟩) ?_ ?_
  rotate_left;(intro w';go_simp;with_reducible rfl);rotate_left;(simp only [pq];rfl)
  refine pure_ (i:=9) (N:=some 14) (v:=?_) (a':=?_) #[T,T,T,T,T,T,T,T,T,T,F,F,F,F,F,F,F,F,F,F,F,F,F,F] rfl rfl (by kernel_rfl) (fun _ _ _ h=>h) (Or.inl ⟨by rfl,?_⟩) ?_ ?_
  rotate_left;(intro w';go_simp;with_reducible rfl);rotate_left;(simp only [pq];rfl)
  refine pure_ (i:=10) (N:=some 15) (v:=undef) (a':=?_) #[T,T,T,T,T,T,T,T,T,T,T,F,F,F,F,F,F,F,F,F,F,F,F,F] rfl rfl (by kernel_rfl) (fun _ _ _ h=>h) (Or.inr ⟨by rfl,rfl⟩) ?_ ?_
  rotate_left
  ·simp only [pq]
   rfl
  refine pure_ (i:=11) (N:=some 16) (v:=undef) (a':=?_) #[T,T,T,T,T,T,T,T,T,T,T,T,F,F,F,F,F,F,F,F,F,F,F,F] rfl rfl (by kernel_rfl) (fun _ _ _ h=>h) (Or.inr ⟨by rfl,rfl⟩) ?_ ?_
  rotate_left
  ·simp only [pq]
   rfl
  refine pure_ (i:=12) (N:=some 17) (v:=undef) (a':=?_) #[T,T,T,T,T,T,T,T,T,T,T,T,T,F,F,F,F,F,F,F,F,F,F,F] rfl rfl (by kernel_rfl) (fun _ _ _ h=>h) (Or.inr ⟨by rfl,rfl⟩) ?_ ?_
  rotate_left
  ·simp only [pq]
   rfl
  refine pure_ (i:=13) (N:=some 18) (v:=undef) (a':=?_) #[T,T,T,T,T,T,T,T,T,T,T,T,T,T,F,F,F,F,F,F,F,F,F,F] rfl rfl (by kernel_rfl) (fun _ _ _ h=>h) (Or.inr ⟨by rfl,rfl⟩) ?_ ?_
  rotate_left
  ·simp only [pq]
   rfl
  refine pure_ (i:=14) (N:=some 19) (v:=undef) (a':=?_) #[T,T,T,T,T,T,T,T,T,T,T,T,T,T,T,F,F,F,F,F,F,F,F,F] rfl rfl (by kernel_rfl) (fun _ _ _ h=>h) (Or.inr ⟨by rfl,rfl⟩) ?_ ?_
  rotate_left
  ·simp only [pq]
   rfl
  refine pure_ (i:=15) (N:=some 20) (v:=undef) (a':=?_) #[T,T,T,T,T,T,T,T,T,T,T,T,T,T,T,T,F,F,F,F,F,F,F,F] rfl rfl (by kernel_rfl) (fun _ _ _ h=>h) (Or.inr ⟨by rfl,rfl⟩) ?_ ?_
  rotate_left
  ·simp only [pq]
   rfl
  refine pure_ (i:=16) (N:=some 21) (v:=undef) (a':=?_) #[T,T,T,T,T,T,T,T,T,T,T,T,T,T,T,T,T,F,F,F,F,F,F,F] rfl rfl (by kernel_rfl) (fun _ _ _ h=>h) (Or.inr ⟨by rfl,rfl⟩) ?_ ?_
  rotate_left
  ·simp only [pq]
   rfl
  refine pure_ (i:=17) (N:=some 22) (v:=undef) (a':=?_) #[T,T,T,T,T,T,T,T,T,T,T,T,T,T,T,T,T,T,F,F,F,F,F,F] rfl rfl (by kernel_rfl) (fun _ _ _ h=>h) (Or.inr ⟨by rfl,rfl⟩) ?_ ?_
  rotate_left
  ·simp only [pq]
   rfl
  refine pure_ (i:=18) (N:=some 23) (v:=undef) (a':=?_) #[T,T,T,T,T,T,T,T,T,T,T,T,T,T,T,T,T,T,T,F,F,F,F,F] rfl rfl (by kernel_rfl) (fun _ _ _ h=>h) (Or.inr ⟨by rfl,rfl⟩) ?_ ?_
  rotate_left
  ·simp only [pq]
   rfl
  refine pure_ (i:=19) (N:=some 24) (v:=undef) (a':=?_) #[T,T,T,T,T,T,T,T,T,T,T,T,T,T,T,T,T,T,T,T,F,F,F,F] rfl rfl (by kernel_rfl) (fun _ _ _ h=>h) (Or.inr ⟨by rfl,rfl⟩) ?_ ?_
  rotate_left
  ·simp only [pq]
   rfl
  refine pure_ (i:=20) (N:=some 25) (v:=undef) (a':=?_) #[T,T,T,T,T,T,T,T,T,T,T,T,T,T,T,T,T,T,T,T,T,F,F,F] rfl rfl (by kernel_rfl) (fun _ _ _ h=>h) (Or.inr ⟨by rfl,rfl⟩) ?_ ?_
  rotate_left
  ·simp only [pq]
   rfl
  refine pure_ (i:=21) (N:=some 26) (v:=undef) (a':=?_) #[T,T,T,T,T,T,T,T,T,T,T,T,T,T,T,T,T,T,T,T,T,T,F,F] rfl rfl (by kernel_rfl) (fun _ _ _ h=>h) (Or.inr ⟨by rfl,rfl⟩) ?_ ?_
  rotate_left
  ·simp only [pq]
   rfl
  refine pure_ (i:=22) (N:=some 27) (v:=?_) (a':=?_) #[T,T,T,T,T,T,T,T,T,T,T,T,T,T,T,T,T,T,T,T,T,T,T,F] rfl rfl (by kernel_rfl) (fun _ _ _ h=>h) (Or.inl ⟨by rfl,?_⟩) ?_ ?_
  rotate_left;(intro w';go_simp;with_reducible rfl);rotate_left;(simp only [pq];rfl)
  refine pure_ (i:=23) (N:=some 4) (v:=?_) (a':=?_) #[T,T,T,T,T,T,T,T,T,T,T,T,T,T,T,T,T,T,T,T,T,T,T,T] rfl rfl (by kernel_rfl) (fun _ _ _ h=>h) (Or.inl ⟨by rfl,?_⟩) ?_ ?_
  rotate_left;(intro w';go_simp;with_reducible rfl);rotate_left;(simp only [pq];rfl)
  refine done_ (by kernel_rfl) ?_
  go_wp2
  go_ret
  exact⟨rfl,aO (Below.refl _ W)⟩
 ·have d0:decide (p< -1)=false:=decide_eq_false c0
  have d1:decide (-1≤p)=true:=decide_eq_true (by omega);rw [d1]
  by_cases c1:(ps.length:Int)≤p
  ·have d2:decide ((ps.length:Int)≤p)=true:=decide_eq_true c1
   have d3:decide (p<(ps.length:Int))=false:=decide_eq_false (by omega);rw [d3];generalize ps.length=n4 at h4 d2;clear hp hS hr c0 c1 d3;go_enter Try.func40,Try.ntmps40
   go_upto_region 1 with fail
   refine start_ (n:=24) (S:=fun w'=>w'.cell? ⟨SB,4,none⟩=some (.slice A4 n4 c4)) (ds:= []) #[F,F,F,F,F,F,F,F,F,F,F,F,F,F,F,F,F,F,F,F,F,F,F,F] (by kernel_rfl) rfl rfl (h4.out) (fun hHeld=>?_)
   refine pure_ (i:=0) (N:=some 5) (v:=?_) (a':=?_) #[T,F,F,F,F,F,F,F,F,F,F,F,F,F,F,F,F,F,F,F,F,F,F,F] rfl rfl (by kernel_rfl) (fun _ _ _ h=>h) (Or.inl ⟨by rfl,?_⟩) ?_ ?_
   rotate_left;(intro w';go_simp;with_reducible rfl);rotate_left;(simp only [pq];rfl)
   refine pure_ (i:=1) (N:=some 6) (v:=?_) (a':=?_) #[T,T,F,F,F,F,F,F,F,F,F,F,F,F,F,F,F,F,F,F,F,F,F,F] rfl rfl (by kernel_rfl) (fun _ _ _ h=>h) (Or.inl ⟨by rfl,?_⟩) ?_ ?_
   rotate_left;(intro w';go_simp;with_reducible rfl);rotate_left;(simp only [pq];rfl)
   refine pure_ (i:=2) (N:=some 7) (v:=?_) (a':=?_) #[T,T,T,F,F,F,F,F,F,F,F,F,F,F,F,F,F,F,F,F,F,F,F,F] rfl rfl (by kernel_rfl) (fun _ _ _ h=>h) (Or.inl ⟨by rfl,?_⟩) ?_ ?_
   rotate_left;(intro w';go_simp;with_reducible rfl);rotate_left;(simp only [pq];rfl)
   refine pure_ (i:=3) (N:=some 8) (v:=?_) (a':=?_) #[T,T,T,T,F,F,F,F,F,F,F,F,F,F,F,F,F,F,F,F,F,F,F,F] rfl rfl (by kernel_rfl) (fun _ _ _ h=>h) (Or.inl ⟨by rfl,?_⟩) ?_ ?_
   rotate_left;(intro w';go_simp;with_reducible rfl);rotate_left;(simp only [pq];rfl)
   refine pure_ (i:=4) (N:=some 9) (v:=?_) (a':=?_) #[T,T,T,T,T,F,F,F,F,F,F,F,F,F,F,F,F,F,F,F,F,F,F,F] rfl rfl (by kernel_rfl) (fun _ _ _ h=>h) (Or.inl ⟨by rfl,?_⟩) ?_ ?_
   rotate_left;(intro w';go_simp;with_reducible rfl);rotate_left;(simp only [pq];rfl)
   refine take_ (i:=5) (N:=some 10) (v:=?_) (a':=?_) #[T,T,T,T,T,T,F,F,F,F,F,F,F,F,F,F,F,F,F,F,F,F,F,F] rfl rfl (by kernel_rfl) (fun _ _ _ h=>h) (Or.inl ⟨by rfl,?_⟩) hHeld ?_ ?_
   rotate_left
   ·intro w' s0
    go_simp
    with_reducible rfl
   rotate_left
   ·simp only [pq]
    rfl
   refine pure_ (i:=6) (N:=some 11) (v:=?_) (a':=?_) #[T,T,T,T,T,T,T,F,F,F,F,F,F,F,F,F,F,F,F,F,F,F,F,F] rfl rfl (by kernel_rfl) (fun _ _ _ h=>h) (Or.inl ⟨by rfl,?_⟩) ?_ ?_
   rotate_left;(intro w';go_simp;with_reducible rfl);rotate_left;(simp only [pq];rfl)
   refine pure_ (i:=7) (N:=some 12) (v:=?_) (a':=?_) #[T,T,T,T,T,T,T,T,F,F,F,F,F,F,F,F,F,F,F,F,F,F,F,F] rfl rfl (by kernel_rfl) (fun _ _ _ h=>h) (Or.inl ⟨by rfl,?_⟩) ?_ ?_
   rotate_left;(intro w';go_simp;with_reducible rfl);rotate_left;(simp only [pq];rfl)
   refine pure_ (i:=8) (N:=some 13) (v:=?_) (a':=?_) #[T,T,T,T,T,T,T,T,T,F,F,F,F,F,F,F,F,F,F,F,F,F,F,F] rfl rfl (by kernel_rfl) (fun _ _ _ h=>h) (Or.inl ⟨by rfl,?_⟩) ?_ ?_
   rotate_left;(intro w';go_simp;with_reducible rfl);rotate_left;(simp only [pq];rfl)
   refine pure_ (i:=9) (N:=some 14) (v:=?_) (a':=?_) #[T,T,T,T,T,T,T,T,T,T,F,F,F,F,F,F,F,F,F,F,F,F,F,F] rfl rfl (by kernel_rfl) (fun _ _ _ h=>h) (Or.inl ⟨by rfl,?_⟩) ?_ ?_
   rotate_left;(intro w';go_simp;with_reducible rfl);rotate_left;(simp only [pq];rfl)
   refine pure_ (i:=10) (N:=some 15) (v:=undef) (a':=?_) #[T,T,T,T,T,T,T,T,T,T,T,F,F,F,F,F,F,F,F,F,F,F,F,F] rfl rfl (by kernel_rfl) (fun _ _ _ h=>h) (Or.inr ⟨by rfl,rfl⟩) ?_ ?_
   rotate_left
   ·simp only [pq]
    rfl
   refine pure_ (i:=11) (N:=some 16) (v:=undef) (a':=?_) #[T,T,T,T,T,T,T,T,T,T,T,T,F,F,F,F,F,F,F,F,F,F,F,F] rfl rfl (by kernel_rfl) (fun _ _ _ h=>h) (Or.inr ⟨by rfl,rfl⟩) ?_ ?_
   rotate_left
   ·simp only [pq]
    rfl
   refine pure_ (i:=12) (N:=some 17) (v:=undef) (a':=?_) #[T,T,T,T,T,T,T,T,T,T,T,T,T,F,F,F,F,F,F,F,F,F,F,F] rfl rfl (by kernel_rfl) (fun _ _ _ h=>h) (Or.inr ⟨by rfl,rfl⟩) ?_ ?_
   rotate_left
   ·simp only [pq]
    rfl
   refine pure_ (i:=13) (N:=some 18) (v:=undef) (a':=?_) #[T,T,T,T,T,T,T,T,T,T,T,T,T,T,F,F,F,F,F,F,F,F,F,F] rfl rfl (by kernel_rfl) (fun _ _ _ h=>h) (Or.inr ⟨by rfl,rfl⟩) ?_ ?_
   rotate_left
   ·simp only [pq]
    rfl
   refine pure_ (i:=14) (N:=some 19) (v:=undef) (a':=?_) #[T,T,T,T,T,T,T,T,T,T,T,T,T,T,T,F,F,F,F,F,F,F,F,F] rfl rfl (by kernel_rfl) (fun _ _ _ h=>h) (Or.inr ⟨by rfl,rfl⟩) ?_ ?_
   rotate_left
   ·simp only [pq]
    rfl
   refine pure_ (i:=15) (N:=some 20) (v:=undef) (a':=?_) #[T,T,T,T,T,T,T,T,T,T,T,T,T,T,T,T,F,F,F,F,F,F,F,F] rfl rfl (by kernel_rfl) (fun _ _ _ h=>h) (Or.inr ⟨by rfl,rfl⟩) ?_ ?_
   rotate_left
   ·simp only [pq]
    rfl
   refine pure_ (i:=16) (N:=some 21) (v:=undef) (a':=?_) #[T,T,T,T,T,T,T,T,T,T,T,T,T,T,T,T,T,F,F,F,F,F,F,F] rfl rfl (by kernel_rfl) (fun _ _ _ h=>h) (Or.inr ⟨by rfl,rfl⟩) ?_ ?_
   rotate_left
   ·simp only [pq]
    rfl
   refine pure_ (i:=17) (N:=some 22) (v:=undef) (a':=?_) #[T,T,T,T,T,T,T,T,T,T,T,T,T,T,T,T,T,T,F,F,F,F,F,F] rfl rfl (by kernel_rfl) (fun _ _ _ h=>h) (Or.inr ⟨by rfl,rfl⟩) ?_ ?_
   rotate_left
   ·simp only [pq]
    rfl
   refine pure_ (i:=18) (N:=some 23) (v:=undef) (a':=?_) #[T,T,T,T,T,T,T,T,T,T,T,T,T,T,T,T,T,T,T,F,F,F,F,F] rfl rfl (by kernel_rfl) (fun _ _ _ h=>h) (Or.inr ⟨by rfl,rfl⟩) ?_ ?_
   rotate_left
   ·simp only [pq]
    rfl
   refine pure_ (i:=19) (N:=some 24) (v:=undef) (a':=?_) #[T,T,T,T,T,T,T,T,T,T,T,T,T,T,T,T,T,T,T,T,F,F,F,F] rfl rfl (by kernel_rfl) (fun _ _ _ h=>h) (Or.inr ⟨by rfl,rfl⟩) ?_ ?_
   rotate_left
   ·simp only [pq]
    rfl
   refine pure_ (i:=20) (N:=some 25) (v:=undef) (a':=?_) #[T,T,T,T,T,T,T,T,T,T,T,T,T,T,T,T,T,T,T,T,T,F,F,F] rfl rfl (by kernel_rfl) (fun _ _ _ h=>h) (Or.inr ⟨by rfl,rfl⟩) ?_ ?_
   rotate_left
   ·simp only [pq]
    rfl
   refine pure_ (i:=21) (N:=some 26) (v:=undef) (a':=?_) #[T,T,T,T,T,T,T,T,T,T,T,T,T,T,T,T,T,T,T,T,T,T,F,F] rfl rfl (by kernel_rfl) (fun _ _ _ h=>h) (Or.inr ⟨by rfl,rfl⟩) ?_ ?_
   rotate_left
   ·simp only [pq]
    rfl
   refine pure_ (i:=22) (N:=some 27) (v:=?_) (a':=?_) #[T,T,T,T,T,T,T,T,T,T,T,T,T,T,T,T,T,T,T,T,T,T,T,F] rfl rfl (by kernel_rfl) (fun _ _ _ h=>h) (Or.inl ⟨by rfl,?_⟩) ?_ ?_
   rotate_left;(intro w';go_simp;with_reducible rfl);rotate_left;(simp only [pq];rfl)
   refine pure_ (i:=23) (N:=some 4) (v:=?_) (a':=?_) #[T,T,T,T,T,T,T,T,T,T,T,T,T,T,T,T,T,T,T,T,T,T,T,T] rfl rfl (by kernel_rfl) (fun _ _ _ h=>h) (Or.inl ⟨by rfl,?_⟩) ?_ ?_
   rotate_left;(intro w';go_simp;with_reducible rfl);rotate_left;(simp only [pq];rfl)
   refine done_ (by kernel_rfl) ?_
   go_wp2
   go_ret
   exact⟨rfl,aO (Below.refl _ W)⟩
  ·have d2:decide ((ps.length:Int)≤p)=false:=decide_eq_false c1
   have d3:decide (p<(ps.length:Int))=true:=decide_eq_true (by omega);rw [d3]
   by_cases c2:p<0
   ·have d4:decide (p<0)=true:=decide_eq_true c2
    have d5:decide (0≤p)=false:=decide_eq_false (by omega);rw [d4];generalize ps.length=n4 at h4 d2;clear hp hS hr c0 c1 d3 c2 d4;go_enter Try.func40,Try.ntmps40
    go_upto_region 1 with fail
    refine start_ (n:=24) (S:=fun w'=>w'.cell? ⟨SB,4,none⟩=some (.slice A4 n4 c4)) (ds:= []) #[F,F,F,F,F,F,F,F,F,F,F,F,F,F,F,F,F,F,F,F,F,F,F,F] (by kernel_rfl) rfl rfl (h4.out) (fun hHeld=>?_)
    refine pure_ (i:=0) (N:=some 5) (v:=?_) (a':=?_) #[T,F,F,F,F,F,F,F,F,F,F,F,F,F,F,F,F,F,F,F,F,F,F,F] rfl rfl (by kernel_rfl) (fun _ _ _ h=>h) (Or.inl ⟨by rfl,?_⟩) ?_ ?_
    rotate_left;(intro w';go_simp;with_reducible rfl);rotate_left;(simp only [pq];rfl)
    refine pure_ (i:=1) (N:=some 6) (v:=?_) (a':=?_) #[T,T,F,F,F,F,F,F,F,F,F,F,F,F,F,F,F,F,F,F,F,F,F,F] rfl rfl (by kernel_rfl) (fun _ _ _ h=>h) (Or.inl ⟨by rfl,?_⟩) ?_ ?_
    rotate_left;(intro w';go_simp;with_reducible rfl);rotate_left;(simp only [pq];rfl)
    refine pure_ (i:=2) (N:=some 7) (v:=?_) (a':=?_) #[T,T,T,F,F,F,F,F,F,F,F,F,F,F,F,F,F,F,F,F,F,F,F,F] rfl rfl (by kernel_rfl) (fun _ _ _ h=>h) (Or.inl ⟨by rfl,?_⟩) ?_ ?_
    rotate_left;(intro w';go_simp;with_reducible rfl);rotate_left;(simp only [pq];rfl)
    refine pure_ (i:=3) (N:=some 8) (v:=?_) (a':=?_) #[T,T,T,T,F,F,F,F,F,F,F,F,F,F,F,F,F,F,F,F,F,F,F,F] rfl rfl (by kernel_rfl) (fun _ _ _ h=>h) (Or.inl ⟨by rfl,?_⟩) ?_ ?_
    rotate_left;(intro w';go_simp;with_reducible rfl);rotate_left;(simp only [pq];rfl)
    refine pure_ (i:=4) (N:=some 9) (v:=?_) (a':=?_) #[T,T,T,T,T,F,F,F,F,F,F,F,F,F,F,F,F,F,F,F,F,F,F,F] rfl rfl (by kernel_rfl) (fun _ _ _ h=>h) (Or.inl ⟨by rfl,?_⟩) ?_ ?_
    rotate_left;(intro w';go_simp;with_reducible rfl);rotate_left;(simp only [pq];rfl)
    refine take_ (i:=5) (N:=some 10) (v:=?_) (a':=?_) #[T,T,T,T,T,T,F,F,F,F,F,F,F,F,F,F,F,F,F,F,F,F,F,F] rfl rfl (by kernel_rfl) (fun _ _ _ h=>h) (Or.inl ⟨by rfl,?_⟩) hHeld ?_ ?_
    rotate_left
    ·intro w' s0
     go_simp
     with_reducible rfl
    rotate_left
    ·simp only [pq]
     rfl
    refine pure_ (i:=6) (N:=some 11) (v:=?_) (a':=?_) #[T,T,T,T,T,T,T,F,F,F,F,F,F,F,F,F,F,F,F,F,F,F,F,F] rfl rfl (by kernel_rfl) (fun _ _ _ h=>h) (Or.inl ⟨by rfl,?_⟩) ?_ ?_
    rotate_left;(intro w';go_simp;with_reducible rfl);rotate_left;(simp only [pq];rfl)
    refine pure_ (i:=7) (N:=some 12) (v:=?_) (a':=?_) #[T,T,T,T,T,T,T,T,F,F,F,F,F,F,F,F,F,F,F,F,F,F,F,F] rfl rfl (by kernel_rfl) (fun _ _ _ h=>h) (Or.inl ⟨by rfl,?_⟩) ?_ ?_
    rotate_left;(intro w';go_simp;with_reducible rfl);rotate_left;(simp only [pq];rfl)
    refine pure_ (i:=8) (N:=some 13) (v:=?_) (a':=?_) #[T,T,T,T,T,T,T,T,T,F,F,F,F,F,F,F,F,F,F,F,F,F,F,F] rfl rfl (by kernel_rfl) (fun _ _ _ h=>h) (Or.inl ⟨by rfl,?_⟩) ?_ ?_
    rotate_left;(intro w';go_simp;with_reducible rfl);rotate_left;(simp only [pq];rfl)
    refine pure_ (i:=9) (N:=some 14) (v:=?_) (a':=?_) #[T,T,T,T,T,T,T,T,T,T,F,F,F,F,F,F,F,F,F,F,F,F,F,F] rfl rfl (by kernel_rfl) (fun _ _ _ h=>h) (Or.inl ⟨by rfl,?_⟩) ?_ ?_
    rotate_left;(intro w';go_simp;with_reducible rfl);rotate_left;(simp only [pq];rfl)
    refine pure_ (i:=10) (N:=some 15) (v:=?_) (a':=?_) #[T,T,T,T,T,T,T,T,T,T,T,F,F,F,F,F,F,F,F,F,F,F,F,F] rfl rfl (by kernel_rfl) (fun _ _ _ h=>h) (Or.inl ⟨by rfl,?_⟩) ?_ ?_
    rotate_left;(intro w';go_simp;with_reducible rfl);rotate_left;(simp only [pq];rfl)
    refine pure_ (i:=11) (N:=some 16) (v:=?_) (a':=?_) #[T,T,T,T,T,T,T,T,T,T,T,T,F,F,F,F,F,F,F,F,F,F,F,F] rfl rfl (by kernel_rfl) (fun _ _ _ h=>h) (Or.inl ⟨by rfl,?_⟩) ?_ ?_
    rotate_left;(intro w';go_simp;with_reducible rfl);rotate_left;(simp only [pq];rfl)
    refine pure_ (i:=12) (N:=some 17) (v:=?_) (a':=?_) #[T,T,T,T,T,T,T,T,T,T,T,T,T,F,F,F,F,F,F,F,F,F,F,F] rfl rfl (by kernel_rfl) (fun _ _ _ h=>h) (Or.inl ⟨by rfl,?_⟩) ?_ ?_
    rotate_left;(intro w';go_simp;with_reducible rfl);rotate_left;(simp only [pq];rfl)
    refine pure_ (i:=13) (N:=some 18) (v:=undef) (a':=?_) #[T,T,T,T,T,T,T,T,T,T,T,T,T,T,F,F,F,F,F,F,F,F,F,F] rfl rfl (by kernel_rfl) (fun _ _ _ h=>h) (Or.inr ⟨by rfl,rfl⟩) ?_ ?_
    rotate_left
    ·simp only [pq]
     rfl
    refine pure_ (i:=14) (N:=some 19) (v:=undef) (a':=?_) #[T,T,T,T,T,T,T,T,T,T,T,T,T,T,T,F,F,F,F,F,F,F,F,F] rfl rfl (by kernel_rfl) (fun _ _ _ h=>h) (Or.inr ⟨by rfl,rfl⟩) ?_ ?_
    rotate_left
    ·simp only [pq]
     rfl
    refine pure_ (i:=15) (N:=some 20) (v:=undef) (a':=?_) #[T,T,T,T,T,T,T,T,T,T,T,T,T,T,T,T,F,F,F,F,F,F,F,F] rfl rfl (by kernel_rfl) (fun _ _ _ h=>h) (Or.inr ⟨by rfl,rfl⟩) ?_ ?_
    rotate_left
    ·simp only [pq]
     rfl
    refine pure_ (i:=16) (N:=some 21) (v:=undef) (a':=?_) #[T,T,T,T,T,T,T,T,T,T,T,T,T,T,T,T,T,F,F,F,F,F,F,F] rfl rfl (by kernel_rfl) (fun _ _ _ h=>h) (Or.inr ⟨by rfl,rfl⟩) ?_ ?_
    rotate_left
    ·simp only [pq]
     rfl
    refine pure_ (i:=17) (N:=some 22) (v:=undef) (a':=?_) #[T,T,T,T,T,T,T,T,T,T,T,T,T,T,T,T,T,T,F,F,F,F,F,F] rfl rfl (by kernel_rfl) (fun _ _ _ h=>h) (Or.inr ⟨by rfl,rfl⟩) ?_ ?_
    rotate_left
    ·simp only [pq]
     rfl
    refine pure_ (i:=18) (N:=some 23) (v:=undef) (a':=?_) #[T,T,T,T,T,T,T,T,T,T,T,T,T,T,T,T,T,T,T,F,F,F,F,F] rfl rfl (by kernel_rfl) (fun _ _ _ h=>h) (Or.inr ⟨by rfl,rfl⟩) ?_ ?_
    rotate_left
    ·simp only [pq]
     rfl
    refine pure_ (i:=19) (N:=some 24) (v:=undef) (a':=?_) #[T,T,T,T,T,T,T,T,T,T,T,T,T,T,T,T,T,T,T,T,F,F,F,F] rfl rfl (by kernel_rfl) (fun _ _ _ h=>h) (Or.inr ⟨by rfl,rfl⟩) ?_ ?_
    rotate_left
    ·simp only [pq]
     rfl
    refine pure_ (i:=20) (N:=some 25) (v:=undef) (a':=?_) #[T,T,T,T,T,T,T,T,T,T,T,T,T,T,T,T,T,T,T,T,T,F,F,F] rfl rfl (by kernel_rfl) (fun _ _ _ h=>h) (Or.inr ⟨by rfl,rfl⟩) ?_ ?_
    rotate_left
    ·simp only [pq]
     rfl
    refine pure_ (i:=21) (N:=some 26) (v:=?_) (a':=?_) #[T,T,T,T,T,T,T,T,T,T,T,T,T,T,T,T,T,T,T,T,T,T,F,F] rfl rfl (by kernel_rfl) (fun _ _ _ h=>h) (Or.inl ⟨by rfl,?_⟩) ?_ ?_
    rotate_left;(intro w';go_simp;with_reducible rfl);rotate_left;(simp only [pq];rfl)
    refine pure_ (i:=22) (N:=some 27) (v:=?_) (a':=?_) #[T,T,T,T,T,T,T,T,T,T,T,T,T,T,T,T,T,T,T,T,T,T,T,F] rfl rfl (by kernel_rfl) (fun _ _ _ h=>h) (Or.inl ⟨by rfl,?_⟩) ?_ ?_
    rotate_left;(intro w';go_simp;with_reducible rfl);rotate_left;(simp only [pq];rfl)
    refine pure_ (i:=23) (N:=some 4) (v:=?_) (a':=?_) #[T,T,T,T,T,T,T,T,T,T,T,T,T,T,T,T,T,T,T,T,T,T,T,T] rfl rfl (by kernel_rfl) (fun _ _ _ h=>h) (Or.inl ⟨by rfl,?_⟩) ?_ ?_
    rotate_left;(intro w';go_simp;with_reducible rfl);rotate_left;(simp only [pq];rfl)
    refine done_ (by kernel_rfl) ?_
    go_wp2
    go_ret
    exact⟨rfl,aO (Below.refl _ W)⟩
   ·have d4:decide (p<0)=false:=decide_eq_false c2
    have d5:decide (0≤p)=true:=decide_eq_true (by omega);rw [d4];have b0:(0≤p)=True:=eq_true (by omega);have b1:(p<(ps.length:Int))=True:=eq_true (by omega);obtain⟨ad,A1,c1_,e,e0,_,_,_⟩:=at_T35 hp p (by omega) (by omega);generalize (rd_T35 ps p).f0=pl at e0 ⊢;have E0:=aM e0;subst e;generalize ps.length=n4 at h4 d2 b1;clear hp hS hr c0 c1 d3 c2 d4 e0;go_enter Try.func40,Try.ntmps40
    go_upto_region 1 with fail
    refine start_ (n:=24) (S:=fun w'=>w'.cell? ⟨SB,4,none⟩=some (.slice (some ad) n4 c4)∧w'.cell? ⟨RB,0,none⟩=some (.int .i64 r)∧w'.cell? (ad.add (p.toNat * 2))=some (.int .i64 pl)) (ds:= []) #[F,F,F,F,F,F,F,F,F,F,F,F,F,F,F,F,F,F,F,F,F,F,F,F] (by kernel_rfl) rfl rfl ⟨h4.out,hR.out,E0.out⟩ (fun hHeld=>?_)
    refine pure_ (i:=0) (N:=some 5) (v:=?_) (a':=?_) #[T,F,F,F,F,F,F,F,F,F,F,F,F,F,F,F,F,F,F,F,F,F,F,F] rfl rfl (by kernel_rfl) (fun _ _ _ h=>h) (Or.inl ⟨by rfl,?_⟩) ?_ ?_
    rotate_left;(intro w';go_simp;with_reducible rfl);rotate_left;(simp only [pq];rfl)
    refine pure_ (i:=1) (N:=some 6) (v:=?_) (a':=?_) #[T,T,F,F,F,F,F,F,F,F,F,F,F,F,F,F,F,F,F,F,F,F,F,F] rfl rfl (by kernel_rfl) (fun _ _ _ h=>h) (Or.inl ⟨by rfl,?_⟩) ?_ ?_
    rotate_left;(intro w';go_simp;with_reducible rfl);rotate_left;(simp only [pq];rfl)
    refine pure_ (i:=2) (N:=some 7) (v:=?_) (a':=?_) #[T,T,T,F,F,F,F,F,F,F,F,F,F,F,F,F,F,F,F,F,F,F,F,F] rfl rfl (by kernel_rfl) (fun _ _ _ h=>h) (Or.inl ⟨by rfl,?_⟩) ?_ ?_
    rotate_left;(intro w';go_simp;with_reducible rfl);rotate_left;(simp only [pq];rfl)
    refine pure_ (i:=3) (N:=some 8) (v:=?_) (a':=?_) #[T,T,T,T,F,F,F,F,F,F,F,F,F,F,F,F,F,F,F,F,F,F,F,F] rfl rfl (by kernel_rfl) (fun _ _ _ h=>h) (Or.inl ⟨by rfl,?_⟩) ?_ ?_
    rotate_left;(intro w';go_simp;with_reducible rfl);rotate_left;(simp only [pq];rfl)
    refine pure_ (i:=4) (N:=some 9) (v:=?_) (a':=?_) #[T,T,T,T,T,F,F,F,F,F,F,F,F,F,F,F,F,F,F,F,F,F,F,F] rfl rfl (by kernel_rfl) (fun _ _ _ h=>h) (Or.inl ⟨by rfl,?_⟩) ?_ ?_
    rotate_left;(intro w';go_simp;with_reducible rfl);rotate_left;(simp only [pq];rfl)
    refine take_ (i:=5) (N:=some 10) (v:=?_) (a':=?_) #[T,T,T,T,T,T,F,F,F,F,F,F,F,F,F,F,F,F,F,F,F,F,F,F] rfl rfl (by kernel_rfl) (fun _ _ _ h=>h) (Or.inl ⟨by rfl,?_⟩) hHeld ?_ ?_
    rotate_left
    ·rintro w' ⟨s0,s1,s2⟩
     go_simp
     with_reducible rfl
    rotate_left
    ·simp only [pq]
     rfl
    refine pure_ (i:=6) (N:=some 11) (v:=?_) (a':=?_) #[T,T,T,T,T,T,T,F,F,F,F,F,F,F,F,F,F,F,F,F,F,F,F,F] rfl rfl (by kernel_rfl) (fun _ _ _ h=>h) (Or.inl ⟨by rfl,?_⟩) ?_ ?_
    rotate_left;(intro w';go_simp;with_reducible rfl);rotate_left;(simp only [pq];rfl)
    refine pure_ (i:=7) (N:=some 12) (v:=?_) (a':=?_) #[T,T,T,T,T,T,T,T,F,F,F,F,F,F,F,F,F,F,F,F,F,F,F,F] rfl rfl (by kernel_rfl) (fun _ _ _ h=>h) (Or.inl ⟨by rfl,?_⟩) ?_ ?_
    rotate_left;(intro w';go_simp;with_reducible rfl);rotate_left;(simp only [pq];rfl)
    refine pure_ (i:=8) (N:=some 13) (v:=?_) (a':=?_) #[T,T,T,T,T,T,T,T,T,F,F,F,F,F,F,F,F,F,F,F,F,F,F,F] rfl rfl (by kernel_rfl) (fun _ _ _ h=>h) (Or.inl ⟨by rfl,?_⟩) ?_ ?_
    rotate_left;(intro w';go_simp;with_reducible rfl);rotate_left;(simp only [pq];rfl)
    refine pure_ (i:=9) (N:=some 14) (v:=?_) (a':=?_) #[T,T,T,T,T,T,T,T,T,T,F,F,F,F,F,F,F,F,F,F,F,F,F,F] rfl rfl (by kernel_rfl) (fun _ _ _ h=>h) (Or.inl ⟨by rfl,?_⟩) ?_ ?_
    rotate_left;(intro w';go_simp;with_reducible rfl);rotate_left;(simp only [pq];rfl)
    refine pure_ (i:=10) (N:=some 15) (v:=?_) (a':=?_) #[T,T,T,T,T,T,T,T,T,T,T,F,F,F,F,F,F,F,F,F,F,F,F,F] rfl rfl (by kernel_rfl) (fun _ _ _ h=>h) (Or.inl ⟨by rfl,?_⟩) ?_ ?_
    rotate_left;(intro w';go_simp;with_reducible rfl);rotate_left;(simp only [pq];rfl)
    refine pure_ (i:=11) (N:=some 16) (v:=?_) (a':=?_) #[T,T,T,T,T,T,T,T,T,T,T,T,F,F,F,F,F,F,F,F,F,F,F,F] rfl rfl (by kernel_rfl) (fun _ _ _ h=>h) (Or.inl ⟨by rfl,?_⟩) ?_ ?_
    rotate_left;(intro w';go_simp;with_reducible rfl);rotate_left;(simp only [pq];rfl)
    refine pure_ (i:=12) (N:=some 17) (v:=?_) (a':=?_) #[T,T,T,T,T,T,T,T,T,T,T,T,T,F,F,F,F,F,F,F,F,F,F,F] rfl rfl (by kernel_rfl) (fun _ _ _ h=>h) (Or.inl ⟨by rfl,?_⟩) ?_ ?_
    rotate_left;(intro w';go_simp;with_reducible rfl);rotate_left;(simp only [pq];rfl)
    refine pure_ (i:=13) (N:=some 18) (v:=?_) (a':=?_) #[T,T,T,T,T,T,T,T,T,T,T,T,T,T,F,F,F,F,F,F,F,F,F,F] rfl rfl (by kernel_rfl) (fun _ _ _ h=>h) (Or.inl ⟨by rfl,?_⟩) ?_ ?_
    rotate_left;(intro w';go_simp;with_reducible rfl);rotate_left;(simp only [pq];rfl)
    refine pure_ (i:=15) (N:=some 20) (v:=?_) (a':=?_) #[T,T,T,T,T,T,T,T,T,T,T,T,T,T,F,T,F,F,F,F,F,F,F,F] rfl rfl (by kernel_rfl) (fun _ _ _ h=>h) (Or.inl ⟨by rfl,?_⟩) ?_ ?_
    rotate_left;(intro w';go_simp;with_reducible rfl);rotate_left;(simp only [pq];rfl)
    refine take_ (i:=14) (N:=some 19) (v:=?_) (a':=?_) #[T,T,T,T,T,T,T,T,T,T,T,T,T,T,T,T,F,F,F,F,F,F,F,F] rfl rfl (by kernel_rfl) (fun _ _ _ h=>h) (Or.inl ⟨by rfl,?_⟩) hHeld ?_ ?_
    rotate_left
    ·rintro w' ⟨s0,s1,s2⟩
     go_simp
     with_reducible rfl
    rotate_left
    ·simp only [pq]
     rfl
    refine pure_ (i:=16) (N:=some 21) (v:=?_) (a':=?_) #[T,T,T,T,T,T,T,T,T,T,T,T,T,T,T,T,T,F,F,F,F,F,F,F] rfl rfl (by kernel_rfl) (fun _ _ _ h=>h) (Or.inl ⟨by rfl,?_⟩) ?_ ?_
    rotate_left;(intro w';go_simp;with_reducible rfl);rotate_left;(simp only [pq];rfl)
    refine pure_ (i:=17) (N:=some 22) (v:=?_) (a':=?_) #[T,T,T,T,T,T,T,T,T,T,T,T,T,T,T,T,T,T,F,F,F,F,F,F] rfl rfl (by kernel_rfl) (fun _ _ _ h=>h) (Or.inl ⟨by rfl,?_⟩) ?_ ?_
    rotate_left;(intro w';go_simp;with_reducible rfl);rotate_left;(simp only [pq];rfl)
    refine take_ (i:=18) (N:=some 23) (v:=?_) (a':=?_) #[T,T,T,T,T,T,T,T,T,T,T,T,T,T,T,T,T,T,T,F,F,F,F,F] rfl rfl (by kernel_rfl) (fun _ _ _ h=>h) (Or.inl ⟨by rfl,?_⟩) hHeld ?_ ?_
    rotate_left
    ·rintro w' ⟨s0,s1,s2⟩
     go_simp
     with_reducible rfl
    rotate_left
    ·simp only [pq]
     rfl
    refine take_ (i:=19) (N:=some 24) (v:=?_) (a':=?_) #[T,T,T,T,T,T,T,T,T,T,T,T,T,T,T,T,T,T,T,T,F,F,F,F] rfl rfl (by kernel_rfl) (fun _ _ _ h=>h) (Or.inl ⟨by rfl,?_⟩) hHeld ?_ ?_
    rotate_left
    ·rintro w' ⟨s0,s1,s2⟩
     go_simp
     with_reducible rfl
    rotate_left
    ·simp only [pq]
     rfl
    refine pure_ (i:=20) (N:=some 25) (v:=?_) (a':=?_) #[T,T,T,T,T,T,T,T,T,T,T,T,T,T,T,T,T,T,T,T,T,F,F,F] rfl rfl (by kernel_rfl) (fun _ _ _ h=>h) (Or.inl ⟨by rfl,?_⟩) ?_ ?_
    rotate_left;(intro w';go_simp;with_reducible rfl);rotate_left;(simp only [pq];rfl)
    refine pure_ (i:=21) (N:=some 26) (v:=?_) (a':=?_) #[T,T,T,T,T,T,T,T,T,T,T,T,T,T,T,T,T,T,T,T,T,T,F,F] rfl rfl (by kernel_rfl) (fun _ _ _ h=>h) (Or.inl ⟨by rfl,?_⟩) ?_ ?_
    rotate_left;(intro w';go_simp;with_reducible rfl);rotate_left;(simp only [pq];rfl)
    refine pure_ (i:=22) (N:=some 27) (v:=?_) (a':=?_) #[T,T,T,T,T,T,T,T,T,T,T,T,T,T,T,T,T,T,T,T,T,T,T,F] rfl rfl (by kernel_rfl) (fun _ _ _ h=>h) (Or.inl ⟨by rfl,?_⟩) ?_ ?_
    rotate_left;(intro w';go_simp;with_reducible rfl);rotate_left;(simp only [pq];rfl)
    refine pure_ (i:=23) (N:=some 4) (v:=?_) (a':=?_) #[T,T,T,T,T,T,T,T,T,T,T,T,T,T,T,T,T,T,T,T,T,T,T,T] rfl rfl (by kernel_rfl) (fun _ _ _ h=>h) (Or.inl ⟨by rfl,?_⟩) ?_ ?_
    rotate_left;(intro w';go_simp;with_reducible rfl);rotate_left;(simp only [pq];rfl)
    refine done_ (by kernel_rfl) ?_
    go_wp2
    go_ret
    exact⟨by by_cases h:pl=r<;>simp [h],aO (Below.refl _ W)⟩
def rowsOk (nt:Nat) (ps:List S35):Nat→List (List Int)→Bool
 |_,[]=>true
 |r,row::t=>decide (row.length=nt+1) && row.all (okEnt ps (r:Int)) && rowsOk nt ps (r+1) t
def tbRight (nn nt:Nat) (ps:List S35) (tb:List (List Int)):Bool:=ps.all (okProd nn nt) && (!decide (nn=0) && (decide (tb.length=nn) && rowsOk nt ps 0 tb))
theorem at_rowi {w:World}{A:Option Addr}{n:Nat}{xs:List (List Int)}(h:Kd.C (Kd.slice 3 (Kd.int .i64)) w A n xs) (i:Int) (h0:0≤i) (h1:i<n):∃ad A0 c0,A=some ad∧w.cell? (ad.add i.toNat)=some (.slice A0 (xs.getD i.toNat []).length c0)∧(xs.getD i.toNat []).length≤c0∧(Kd.int .i64).C w A0 (xs.getD i.toNat []).length (xs.getD i.toNat []):=by
 obtain⟨ad,c,e,_,hK,hc0⟩:=Kd.C_get h ([]:List Int) i h0 h1;have hc:∀j u,c[j]?=some u→w.cell? (ad.add (i.toNat * 1+j))=some u:=hc0;obtain⟨A0,c0,rfl,l0,g0⟩:=hK;exact⟨ad,A0,c0,e,by have hq:=hc 0 _ rfl;rwa [Nat.mul_one,Nat.add_zero] at hq,l0,g0⟩
theorem any_not' {α:Type}(p:α→Bool) (l:List α):(l.any fun x=>!p x)=!l.all p:=by rw [←any_not];simp
def machine_Right.f (aU:List ByteArray) (aX:List (S72)) (bA:Int) (bB:Int) (aQ:List (S35)) (l1:List (List Int)):Option Bool:=if aX.length≤1000000000∧l1.length≤1000000000∧aQ.length≤1000000000∧aQ.all (fun p=>decide (p.f1.length≤9223372036854775807))=true∧l1.all (fun p=>decide (p.length≤9223372036854775807))=true then some (tbRight aU.length aX.length aQ l1) else none
set_option maxHeartbeats 4000000 in
set_option maxRecDepth 100000 in
theorem machine_Right.calls (bM:Option Addr) (bO:Nat) (aU:List ByteArray) (bQ:Option Addr) (bR:Nat) (aX:List (S72)) (bA:Int) (bB:Int) (bV:Option Addr) (bS:Nat) (aQ:List (S35)) (A1:Option Addr) (c1:Nat) (l1:List (List Int)) (r:Bool) (w:World)
 (dX:Kd.C Kd.string w bM aU.length aU) (eE:aU.length≤bO) (eF:Kd.C k72 w bQ aX.length aX) (eG:aX.length≤bR) (dZ:Kd.C k35 w bV aQ.length aQ) (eM:aQ.length≤bS) (hr1:Kd.C (Kd.slice 3 (Kd.int .i64)) w A1 l1.length l1) (hc1:l1.length≤c1)
 (h:machine_Right.f aU aX bA bB aQ l1=some r):
 Calls Try.prog 25 #[.agg #[.slice bM aU.length bO,.slice bQ aX.length bR,.int .i64 bA,.int .i64 bB,.slice bV aQ.length bS],.slice A1 l1.length c1] w fun e w'=>e= .returned (.bool r)∧Below w.heap.size w w':=by
 unfold machine_Right.f at h
 split at h
 case isFalse=>simp at h
 rename_i hbig
 obtain⟨hb1,hb2,hb3,hb4,hb5⟩:=hbig;obtain rfl:=Option.some.inj h;clear h;have HA:Aside0 (Below w.heap.size w (w.alloc (.cells #[.slice bM aU.length bO,.slice bQ aX.length bR,.int .i64 bA,.int .i64 bB,.slice bV aQ.length bS] 26))):=⟨(Below.refl _ w).alloc (Nat.le_refl _) _⟩;have P1:=aM (firsts_Right.calls bM bO aU bQ bR aX bA bB bV bS aQ _ _ (bD dX HA.out) eE (bD eF HA.out) eG (bD dZ HA.out) eM (by unfold firsts_Right.f;rw [if_pos ⟨by omega,hb4⟩]));have HBK:Aside0 ((w.alloc (.cells #[.slice bM aU.length bO,.slice bQ aX.length bR,.int .i64 bA,.int .i64 bB,.slice bV aQ.length bS] 26)).heap[w.heap.size]?=some (.cells #[.slice bM aU.length bO,.slice bQ aX.length bR,.int .i64 bA,.int .i64 bB,.slice bV aQ.length bS] 26 (0,0))):=⟨heap_alloc_new w _⟩;have HR4:=aM (bD dZ HA.out);have HR1:=aM (bD hr1 HA.out);have HBIG:=aM (And.intro hb1 (And.intro hb2 hb3));have HB5:=aM hb5;clear dX eE eF eG dZ eM hr1 hc1 hb1 hb2 hb3 hb4 hb5;generalize hrr:tbRight aU.length aX.length aQ l1=rr
 unfold tbRight at hrr
 generalize aQ.all (okProd aU.length aX.length)=R1 at P1 hrr;have HRR:=aM hrr;clear hrr;go_enter Try.func25,Try.ntmps25
 go_upto_region 1 with fail
 generalize (w.alloc (.cells #[.slice bM aU.length bO,.slice bQ aX.length bR,.int .i64 bA,.int .i64 bB,.slice bV aQ.length bS] 26))=w1 at HA P1 HBK HR4 HR1 ⊢;have HSB:Aside0 (w.heap.size<w1.heap.size):=⟨bN HBK.out⟩
 have HC:Aside0 (∀W,Below w1.heap.size w1 W→W.cell? ⟨w.heap.size,0,none⟩=some (.slice bM aU.length bO)∧W.cell? ⟨w.heap.size,1,none⟩=some (.slice bQ aX.length bR)∧W.cell? ⟨w.heap.size,2,none⟩=some (.int .i64 bA)∧W.cell? ⟨w.heap.size,3,none⟩=some (.int .i64 bB)∧W.cell? ⟨w.heap.size,4,none⟩=some (.slice bV aQ.length bS)):=⟨fun W hW=>by
  have hb:=(hW.block _ (bN HBK.out)).trans HBK.out;exact⟨(aG hb 0).trans rfl,(aG hb 1).trans rfl,(aG hb 2).trans rfl,(aG hb 3).trans rfl,(aG hb 4).trans rfl⟩⟩
 obtain⟨q0,q1,q2,q3,q4⟩:=HC.out w1 (Below.refl _ _)
 cases R1 with
 |false=>
  go_wp2_with (first|(go_at_call 39;(with_reducible refine P1.out.mono ?_);rintro e w2 ⟨rfl,hb2⟩;have HB2:=aM hb2;clear hb2 P1 q0 q1 q2 q3 q4))
  go_ret
  exact⟨by rw [←HRR.out];rfl,HA.out.trans (HB2.out.mono HA.out.size)⟩
 |true=>
  by_cases hn:aU.length=0
  ·have d0:decide (aU.length=0)=true:=decide_eq_true hn
   have d1:((aU.length:Int)==0)=true:=by simp [hn]
   have HN:=aM hn;clear hn
   go_wp2_with (first|(go_at_call 39;(with_reducible refine P1.out.mono ?_);rintro e w2 ⟨rfl,hb2⟩;have HB2:=aM hb2;clear hb2 P1 q0 q1 q2 q3 q4;obtain⟨q0,q1,q2,q3,q4⟩:=HC.out w2 HB2.out;have hn:=HN.out))
   go_ret
   exact⟨by rw [←HRR.out,d0];rfl,HA.out.trans (HB2.out.mono HA.out.size)⟩
  ·have d0:decide (aU.length=0)=false:=decide_eq_false hn
   have d1:((aU.length:Int)==0)=false:=by simp [hn]
   have HN:=aM hn
   by_cases ht:l1.length=aU.length
   ·have d2:decide (l1.length=aU.length)=true:=decide_eq_true ht
    have HT:=aM ht;clear hn ht
    go_upto_region 3 with(first|(go_at_call 39;(with_reducible refine P1.out.mono ?_);rintro e w2 ⟨rfl,hb2⟩;have HB2:=aM hb2;clear hb2 P1 q0 q1 q2 q3 q4;obtain⟨q0,q1,q2,q3,q4⟩:=HC.out w2 HB2.out;have hn:=HN.out;have ht:=HT.out;have ht2:((l1.length:Int) !=(aU.length:Int))=false:=by simp [HT.out]))
    have HR1':Aside0 ((Kd.slice 3 (Kd.int .i64)).C w1 A1 aU.length l1):=⟨HT.out ▸ HR1.out⟩;have hw1:IntKind.i64.wrap ((aX.length:Int)+1)=(aX.length:Int)+1:=by rw [IntKind.wrap_i64];have:=HBIG.out.1;omega
    have HNB:Aside0 (aU.length≤1000000000):=⟨by have:=HBIG.out.2.1;have:=HT.out;omega⟩;clear q0 q1 q2 q3 q4 HR1;go_wp2
    go_loopg [5,6,7,27] aU.length (fun gg _ _ _ s27 wr=>∃kk:Nat,kk≤aU.length∧aU.length - kk≤gg∧s27= .int .i64 kk∧Aside0 (Below w1.heap.size w1 wr)∧Aside0 (rowsOk aX.length aQ 0 l1=rowsOk aX.length aQ kk (l1.drop kk)))
    case atStart=>exact⟨0,Nat.zero_le _,by omega,rfl,HB2,⟨by simp⟩⟩
    case round=>
     clear HB2;obtain⟨kk,hkk,hg,rfl,BW,PA⟩:=hrel
     by_cases hlt:kk<aU.length
     ·have hltz:decide ((kk:Int)<(aU.length:Int))=true:=decide_eq_true (by omega)
      have k0:(0≤(kk:Int))=True:=eq_true (by omega);have k1:((kk:Int)<(aU.length:Int))=True:=eq_true (by omega);have hlt1:kk<l1.length:=by rw [HT.out];exact hlt
      obtain⟨ad,A9,c9,e,l9,_,hC9⟩:=at_rowi (bD HR1'.out BW.out) (kk:Int) (by omega) (by omega);rw [Int.toNat_natCast,show l1.getD kk []=l1[kk] by rw [List.getD_eq_getElem?_getD,List.getElem?_eq_getElem hlt1];rfl] at l9 hC9;have hrow:l1[kk].length≤9223372036854775807:=of_decide_eq_true (List.all_eq_true.1 HB5.out _ (List.getElem_mem hlt1));have PB:Aside0 (rowsOk aX.length aQ 0 l1=(decide (l1[kk].length=aX.length+1) && l1[kk].all (okEnt aQ (kk:Int)) && rowsOk aX.length aQ (kk+1) (l1.drop (kk+1)))):=⟨by rw [PA.out,List.drop_eq_getElem_cons hlt1,rowsOk]⟩;generalize l1[kk]=row at l9 hC9 hrow PB;subst e;have hwk:IntKind.i64.wrap ((kk:Int)+1)=(kk:Int)+1:=by rw [IntKind.wrap_i64];have:=HNB.out;omega
      obtain⟨n9,hn9⟩:∃n9,n9=row.length:=⟨_,rfl⟩;rw [←hn9] at l9;have HN9:=aM hn9;have HLT:=aM (And.intro hlt hg);have HC9:=aM hC9;have HROW:=aM hrow;clear hlt hlt1 hkk hg hn9 hC9 hrow PA
      go_upto_region 7 with fail
      have HB4:Aside0 (Below w1.heap.size w1 (wr.alloc (.cells #[.int .i64 (kk:Int)] 3))):=⟨BW.out.trans ((aN (Below.refl _ wr) _).mono BW.out.size)⟩;have HB4':Aside0 (Below wr.heap.size wr (wr.alloc (.cells #[.int .i64 (kk:Int)] 3))):=⟨aN (Below.refl _ wr) _⟩;have HRB:Aside0 ((wr.alloc (.cells #[.int .i64 (kk:Int)] 3)).heap[wr.heap.size]?=some (.cells #[.int .i64 (kk:Int)] 3 (0,0))):=⟨heap_alloc_new wr _⟩;generalize (wr.alloc (.cells #[.int .i64 (kk:Int)] 3))=w4 at HB4 HB4' HRB ⊢;generalize wr.heap.size=RB at HRB ⊢;have eg:∀args w,(callFunc 40 args).run Try.prog w= .ok (.enter 40 args) w:=enters_of Try.func40 (by kernel_rfl) rfl
      have hcon:=containsInt_any (fun x=>!okEnt aQ (kk:Int) x) 40 #[.pointer (some ⟨w.heap.size,0,none⟩),.pointer (some ⟨RB,0,none⟩)] eg A9 c9 row w4 (bD HC9.out HB4'.out) HROW.out (fun W x _ hb=>by
       refine(mright1_any x (kk:Int) aQ w.heap.size RB W bV bS (bD HR4.out (HB4.out.trans (hb.mono HB4.out.size))) (HC.out W (HB4.out.trans (hb.mono HB4.out.size))).2.2.2.2 ((aG (bF HRB.out hb) 0).trans rfl)).mono ?_
       rintro e w' ⟨he,hb'⟩
       exact⟨he,hb.trans (hb'.mono hb.size)⟩)
      rw [any_not',←HN9.out] at hcon;have PB':Aside0 (rowsOk aX.length aQ 0 l1=(decide (n9=aX.length+1) && row.all (okEnt aQ (kk:Int)) && rowsOk aX.length aQ (kk+1) (l1.drop (kk+1)))):=⟨by rw [PB.out,HN9.out]⟩;generalize row.all (okEnt aQ (kk:Int))=R2 at hcon PB';have P5:=aM hcon;obtain⟨q0,q1,q2,q3,q4⟩:=HC.out w4 HB4.out;clear hcon eg PB BW;have e6:∀args w,(callFunc 41 args).run Try.prog w= .ok (.enter 41 args) w:=enters_of Try.func41 (by kernel_rfl) rfl
      by_cases h9:n9=aX.length+1
      ·have e9:((n9:Int) !=(aX.length:Int)+1)=false:=by simp [h9]
       have H9:=aM h9;have D9:=aM (decide_eq_true h9);clear h9
       cases R2 with
       |true=>
        have PC:Aside0 (rowsOk aX.length aQ 0 l1=rowsOk aX.length aQ (kk+1) (l1.drop (kk+1))):=⟨by rw [PB'.out,D9.out];simp⟩
        go_wp2_with (go_at_fn 41;refine P5.out.mono ?_;rintro e w5 ⟨rfl,hb5⟩;have HB5w:=aM hb5;clear hb5)
        go_roundg (aU.length - (kk+1))
        case measure=>have:=HLT.out;omega
        case rel=>exact⟨kk+1,by have:=HLT.out;omega,Nat.le_refl _,by push_cast;rfl,⟨HB4.out.trans (HB5w.out.mono HB4.out.size)⟩,PC⟩
       |false=>
        have PC:Aside0 (rowsOk aX.length aQ 0 l1=false):=⟨by rw [PB'.out];simp⟩
        go_wp2_with (go_at_fn 41;refine P5.out.mono ?_;rintro e w5 ⟨rfl,hb5⟩;have HB5w:=aM hb5;clear hb5)
        go_ret
        exact⟨by rw [←HRR.out,d0,d2,PC.out];rfl,HA.out.trans ((HB4.out.trans (HB5w.out.mono HB4.out.size)).mono HA.out.size)⟩
      ·have e9:((n9:Int) !=(aX.length:Int)+1)=true:=by simp;omega
       have PC:Aside0 (rowsOk aX.length aQ 0 l1=false):=⟨by rw [PB'.out,decide_eq_false h9];simp⟩;clear h9;go_wp2
       go_ret
       exact⟨by rw [←HRR.out,d0,d2,PC.out];rfl,HA.out.trans (HB4.out.mono HA.out.size)⟩
     ·obtain rfl:kk=aU.length:=by omega
      have hltz:decide ((aU.length:Int)<(aU.length:Int))=false:=decide_eq_false (by omega);have PD:Aside0 (rowsOk aX.length aQ 0 l1=true):=⟨by rw [PA.out,←HT.out,List.drop_length];rfl⟩;clear hlt hkk hg PA;go_wp2
      go_ret
      exact⟨by rw [←HRR.out,d0,d2,PD.out];rfl,HA.out.trans (BW.out.mono HA.out.size)⟩
   ·have d2:decide (l1.length=aU.length)=false:=decide_eq_false ht
    have ht2:((l1.length:Int) !=(aU.length:Int))=true:=by simp;omega
    have HT:=aM ht;clear hn ht
    go_wp2_with (first|(go_at_call 39;(with_reducible refine P1.out.mono ?_);rintro e w2 ⟨rfl,hb2⟩;have HB2:=aM hb2;clear hb2 P1 q0 q1 q2 q3 q4;obtain⟨q0,q1,q2,q3,q4⟩:=HC.out w2 HB2.out;have hn:=HN.out;have ht:=HT.out))
    go_ret
    exact⟨by rw [←HRR.out,d0,d2];rfl,HA.out.trans (HB2.out.mono HA.out.size)⟩
theorem awaits1_any (x:S43) (B:Nat) (W:World) (A0 A1:Option Addr) (n0 n1 c0 c1:Nat)
 (h0:W.cell? ⟨B,0,none⟩=some (.slice A0 n0 c0)) (h1:W.cell? ⟨B,1,none⟩=some (.slice A1 n1 c1)) (hB:B<W.heap.size):
 Calls Try.prog 50 #[.agg #[.bool x.f0,.int .i64 x.f1],.pointer (some ⟨B,0,none⟩)] W fun e w'=>e= .returned (.bool (!okSym n0 n1 x))∧Below W.heap.size W w':=by
 have hne:B≠W.heap.size:=by omega
 obtain⟨b,n⟩:=x
 unfold okSym
 by_cases c0:n<0
 ·have d0:decide (n<0)=true:=decide_eq_true c0
  have d1:decide (0≤n)=false:=decide_eq_false (by omega)
  cases b<;>(go_enter Try.func50,Try.ntmps50;go_wp2;go_ret;exact⟨rfl,(Below.refl _ W).alloc (Nat.le_refl _) _⟩)
 have d0:decide (n<0)=false:=decide_eq_false c0;have d1:decide (0≤n)=true:=decide_eq_true (by omega)
 cases b with
 |true=>
  by_cases c2:(n1:Int)≤n
  ·have d2:decide ((n1:Int)≤n)=true:=decide_eq_true c2
   have d3:decide (n<(n1:Int))=false:=decide_eq_false (by omega);go_enter Try.func50,Try.ntmps50
   go_wp2
   go_ret
   exact⟨rfl,(Below.refl _ W).alloc (Nat.le_refl _) _⟩
  ·have d2:decide ((n1:Int)≤n)=false:=decide_eq_false c2
   have d3:decide (n<(n1:Int))=true:=decide_eq_true (by omega);go_enter Try.func50,Try.ntmps50
   go_wp2
   go_ret
   exact⟨rfl,(Below.refl _ W).alloc (Nat.le_refl _) _⟩
 |false=>
  by_cases c2:(n0:Int)≤n
  ·have d2:decide ((n0:Int)≤n)=true:=decide_eq_true c2
   have d3:decide (n<(n0:Int))=false:=decide_eq_false (by omega);go_enter Try.func50,Try.ntmps50
   go_wp2
   go_ret
   exact⟨rfl,(Below.refl _ W).alloc (Nat.le_refl _) _⟩
  ·have d2:decide ((n0:Int)≤n)=false:=decide_eq_false c2
   have d3:decide (n<(n0:Int))=true:=decide_eq_true (by omega);go_enter Try.func50,Try.ntmps50
   go_wp2
   go_ret
   exact⟨rfl,(Below.refl _ W).alloc (Nat.le_refl _) _⟩
def stAwaits (nn nt:Nat) (l:List S43):Bool:=decide (l.length≤10000) && l.all (okSym nn nt)
set_option maxRecDepth 100000 in
theorem awaits_any (bM:Option Addr) (bO:Nat) (aU:List ByteArray) (bQ:Option Addr) (bR:Nat) (aX:List (S72)) (bA:Int) (bB:Int) (bV:Option Addr) (bS:Nat) (aQ:List (S35)) (A1:Option Addr) (c1:Nat) (l1:List (S43)) (w:World)
 (hr1:Kd.C k43 w A1 l1.length l1):
 Calls Try.prog 35 #[.agg #[.slice bM aU.length bO,.slice bQ aX.length bR,.int .i64 bA,.int .i64 bB,.slice bV aQ.length bS],.slice A1 l1.length c1] w fun e w'=>e= .returned (.bool (stAwaits aU.length aX.length l1))∧Below w.heap.size w w':=by
 have HW:Aside0 (Below w.heap.size w (w.alloc (.cells #[.slice bM aU.length bO,.slice bQ aX.length bR,.int .i64 bA,.int .i64 bB,.slice bV aQ.length bS] 26))):=⟨(Below.refl _ w).alloc (Nat.le_refl _) _⟩
 unfold stAwaits
 by_cases hl:l1.length≤10000
 ·have eg:∀args w,(callFunc 50 args).run Try.prog w= .ok (.enter 50 args) w:=enters_of Try.func50 (by kernel_rfl) rfl
  have e6:∀args w,(callFunc 51 args).run Try.prog w= .ok (.enter 51 args) w:=enters_of Try.func51 (by kernel_rfl) rfl
  have hcon:=containsSym_any (fun x=>!okSym aU.length aX.length x) 50 #[.pointer (some ⟨w.heap.size,0,none⟩)] eg A1 c1 l1 (w.alloc (.cells #[.slice bM aU.length bO,.slice bQ aX.length bR,.int .i64 bA,.int .i64 bB,.slice bV aQ.length bS] 26)) (bD hr1 HW.out) (by omega) (fun W x _ hb=>by
   have hlt:w.heap.size<(w.alloc (.cells #[.slice bM aU.length bO,.slice bQ aX.length bR,.int .i64 bA,.int .i64 bB,.slice bV aQ.length bS] 26)).heap.size:=by simp
   refine(awaits1_any x w.heap.size W bM bQ aU.length aX.length bO bR ?_ ?_ (Nat.lt_of_lt_of_le hlt hb.size)).mono ?_
   ·exact(hb.cell (p:=⟨w.heap.size,0,none⟩) hlt).trans (by simp)
   ·exact(hb.cell (p:=⟨w.heap.size,1,none⟩) hlt).trans (by simp)
   ·rintro e w' ⟨he,hb'⟩
    exact⟨he,hb.trans (hb'.mono hb.size)⟩)
  have HD:=aM (decide_eq_true hl);clear hr1;rw [any_not'] at hcon;generalize l1.all (okSym aU.length aX.length)=rr at hcon ⊢;go_enter Try.func35,Try.ntmps35
  go_wp2_with (go_at_fn 51;refine hcon.mono ?_;rintro e w' ⟨rfl,hb'⟩)
  go_ret
  exact⟨by rw [HD.out];simp,HW.out.trans (hb'.mono (by simp))⟩
 ·have hd:decide (l1.length≤10000)=false:=decide_eq_false hl
  rw [hd];clear hr1 hd;go_enter Try.func35,Try.ntmps35
  go_wp2
  go_ret
  exact⟨rfl,HW.out⟩
theorem R_lit0 {α:Type}(d:Kd α) (e:Nat) (W:World) (ok:Nat→Prop) (h:ok W.heap.size):d.R e (W.alloc (.cells #[] e)) W.heap.size ok (.slice (some ⟨W.heap.size,0,none⟩) 0 0) []:=by
 refine⟨fun k hk=>?_,[],?_,?_⟩
 ·have:W.heap.size=k:=by simpa [Value.ownBlock] using hk
  subst this;exact h
 ·have h2:=World.ownsRow_lit (base:=W.heap.size) (e:=e) (size:=d.sz) W #[] 0 (Nat.le_refl _) (by decide) (by simp)
  simpa using h2
 ·exact⟨by simp,by simp⟩
set_option maxRecDepth 100000 in
theorem cloneSym_any (A:Option Addr) (c:Nat) (l:List (S43)) (w:World) (hr:Kd.C k43 w A l.length l) (hb:l.length≤1000000000):
 Calls Try.prog 37 #[.slice A l.length c] w fun e w'=>∃v,e= .returned v∧Kd.R k43 43 w' w.heap.size (fun _=>True) v l∧Below w.heap.size w w':=by
 cases A with
 |none=>
  obtain rfl:l= []:=by
   cases l with
   |nil=>rfl
   |cons x l=>obtain⟨ad,c,e,_⟩:=Kd.C_get hr x 0 (by omega) (by simp);cases e
  have heq:=Lib.run_eql_slice_nil (P:=Try.prog) w 29 43 none 0 c 0 0 Try.underlying29;go_enter Try.func37,Try.ntmps37
  go_wp2
  go_ret
  exact⟨_,rfl,Kd.R_nil _ _ _ _ _,Below.refl _ _⟩
 |some ad=>
  have heq:=Lib.run_eql_slice_nil (P:=Try.prog) w 29 43 (some ad) l.length c 0 0 Try.underlying29;have HR:=aM hr;have HB:=aM hb;clear hr hb;go_enter Try.func37,Try.ntmps37
  have HW:Aside0 (Below w.heap.size w (w.alloc (.cells #[] 43))):=⟨aN (Below.refl _ w) _⟩
  go_wp2_with (first|((with_reducible refine gate_builtin (b:= .append) (xs:=#[.tmp 5,.tmp 6]) rfl ?_);at_builtin;refine Kd.R_append_rows k43 (w0:=w) w.heap.size rfl (.tmp 5) (.tmp 6) 29 43 (.agg #[(.bool false),(.int .i64 0)]) 16 rfl Try.underlying29 info43 rfl (by decide) (by omega) _ ([]:List S43) l (some ad) l.length c (fun _=>True) (fun _=>False) rfl rfl (R_lit0 _ _ w _ trivial) (bD HR.out HW.out) (fun _ _ h=>h) (fun _ h=>h.elim) (fun _ _=>trivial) HW.out HW.out.size (by have:=HB.out;simp only [List.length_nil];omega) ?_;intro v9 w9 ho hb hg hat;have RJ:=aM ho;have HB9:=aM hb;clear ho hb hg hat))
  go_ret
  exact⟨_,rfl,RJ.out,HB9.out⟩
theorem miInt:(Try.prog.info? 3).map (fun i=>(i.zero,i.size,i.bytes))=some (some (.int .i64 0),1,8):=by kernel_rfl
set_option maxRecDepth 100000 in
theorem cloneInt_any (A:Option Addr) (c:Nat) (l:List (Int)) (w:World) (hr:Kd.C (Kd.int .i64) w A l.length l) (hb:l.length≤1000000000):
 Calls Try.prog 34 #[.slice A l.length c] w fun e w'=>∃v,e= .returned v∧Kd.R (Kd.int .i64) 3 w' w.heap.size (fun _=>True) v l∧Below w.heap.size w w':=by
 cases A with
 |none=>
  obtain rfl:l= []:=by
   cases l with
   |nil=>rfl
   |cons x l=>obtain⟨ad,c,e,_⟩:=Kd.C_get hr x 0 (by omega) (by simp);cases e
  have heq:=Lib.run_eql_slice_nil (P:=Try.prog) w 32 3 none 0 c 0 0 Try.underlying32;go_enter Try.func34,Try.ntmps34
  go_wp2
  go_ret
  exact⟨_,rfl,Kd.R_nil _ _ _ _ _,Below.refl _ _⟩
 |some ad=>
  have heq:=Lib.run_eql_slice_nil (P:=Try.prog) w 32 3 (some ad) l.length c 0 0 Try.underlying32;have HR:=aM hr;have HB:=aM hb;clear hr hb;go_enter Try.func34,Try.ntmps34
  have HW:Aside0 (Below w.heap.size w (w.alloc (.cells #[] 3))):=⟨aN (Below.refl _ w) _⟩
  go_wp2_with (first|((with_reducible refine gate_builtin (b:= .append) (xs:=#[.tmp 5,.tmp 6]) rfl ?_);at_builtin;refine Kd.R_append_rows (Kd.int .i64) (w0:=w) w.heap.size rfl (.tmp 5) (.tmp 6) 32 3 (.int .i64 0) 8 rfl Try.underlying32 miInt rfl (by decide) (by omega) _ ([]:List Int) l (some ad) l.length c (fun _=>True) (fun _=>False) rfl rfl (R_lit0 _ _ w _ trivial) (bD HR.out HW.out) (fun _ _ h=>h) (fun _ h=>h.elim) (fun _ _=>trivial) HW.out HW.out.size (by have:=HB.out;simp only [List.length_nil];omega) ?_;intro v9 w9 ho hb hg hat;have RJ:=aM ho;have HB9:=aM hb;clear ho hb hg hat))
  go_ret
  exact⟨_,rfl,RJ.out,HB9.out⟩
def PS (bad:Nat→Prop) (W:World) (base PB:Nat) (st:List S43) (sp:List Int):Prop:=
 ∃vs vt,W.heap[PB]?=some (.cells #[vs,vt] 84 (0,0))∧base≤PB∧Kd.R k43 43 W base (fun k=>¬bad k) vs st.reverse∧Kd.R (Kd.int .i64) 3 W base (fun k=>¬bad k) vt sp
theorem PS.alloc {bad:Nat→Prop}{W:World}{base PB:Nat}{st:List S43}{sp:List Int}(h:PS bad W base PB st sp) (o:Obj):PS bad (W.alloc o) base PB st sp:=by
 obtain⟨vs,vt,h0,h1,h2,h3⟩:=h;exact⟨vs,vt,aI h0 o,h1,aA h2 o,aA h3 o⟩
theorem PS.drew {bad:Nat→Prop}{W:World}{base PB:Nat}{st:List S43}{sp:List Int}(h:PS bad W base PB st sp):PS bad W.drew base PB st sp:=by
 obtain⟨vs,vt,h0,h1,h2,h3⟩:=h;exact⟨vs,vt,h0,h1,aC h2,aC h3⟩
theorem PS.stack {bad:Nat→Prop}{W:World}{base PB:Nat}{vs vt vs':Value}{st':List S43}{sp:List Int}(h0:W.heap[PB]?=some (.cells #[vs,vt] 84 (0,0))) (h1:base≤PB) (h2:Kd.R k43 43 W base (fun k=>¬bad k) vs' st'.reverse) (h3:Kd.R (Kd.int .i64) 3 W base (fun k=>¬bad k) vt sp):
 PS bad (W.setCell ⟨PB,0,none⟩ vs') base PB st' sp:=
 ⟨vs',vt,blk_put h0 0 _ rfl,h1,Kd.R_set h2 h0 (by decide) 0 _,Kd.R_set h3 h0 (by decide) 0 _⟩
theorem PS.steps {bad:Nat→Prop}{W:World}{base PB:Nat}{vs vt vt':Value}{st:List S43}{sp':List Int}(h0:W.heap[PB]?=some (.cells #[vs,vt] 84 (0,0))) (h1:base≤PB) (h2:Kd.R k43 43 W base (fun k=>¬bad k) vs st.reverse) (h3:Kd.R (Kd.int .i64) 3 W base (fun k=>¬bad k) vt' sp'):
 PS bad (W.setCell ⟨PB,1,none⟩ vt') base PB st sp':=
 ⟨vs,vt',blk_put h0 1 _ rfl,h1,Kd.R_set h2 h0 (by decide) 1 _,Kd.R_set h3 h0 (by decide) 1 _⟩
theorem PS.mono {bad bad':Nat→Prop}{W:World}{base PB:Nat}{st:List S43}{sp:List Int}(h:PS bad W base PB st sp) (hb:∀k,bad' k→bad k):PS bad' W base PB st sp:=by
 obtain⟨vs,vt,h0,h1,h2,h3⟩:=h;exact⟨vs,vt,h0,h1,Kd.R_mono h2 (fun k hk hb'=>hk (hb k hb')),Kd.R_mono h3 (fun k hk hb'=>hk (hb k hb'))⟩
theorem PS.bound {bad:Nat→Prop}{W:World}{base PB:Nat}{st:List S43}{sp:List Int}(h:PS bad W base PB st sp):PS (fun k=>bad k∨W.heap.size≤k) W base PB st sp:=by
 obtain⟨vs,vt,h0,h1,h2,h3⟩:=h;exact⟨vs,vt,h0,h1,Kd.R_mono (Kd.R_bound h2) (fun k hk hb=>by have:=hk.2.2.1;rcases hb with h|h;exact hk.1 h;omega),Kd.R_mono (Kd.R_bound h3) (fun k hk hb=>by have:=hk.2.2.1;rcases hb with h|h;exact hk.1 h;omega)⟩
theorem PS.far {bad:Nat→Prop}{W:World}{base PB:Nat}{st:List S43}{sp:List Int}(h:PS bad W base PB st sp) {p:Addr}(hp:bad p.block) (hne:PB≠p.block) (u:Value):PS bad (W.setCell p u) base PB st sp:=by
 obtain⟨vs,vt,h0,h1,h2,h3⟩:=h;exact⟨vs,vt,blk_far h0 hne u,h1,aE h2 (fun k hk e=>hk (e ▸ hp)) u,aE h3 (fun k hk e=>hk (e ▸ hp)) u⟩
theorem rev_last {α:Type}(x:α) (l:List α) (d:α):((x::l).reverse).getD l.length d=x:=by
 rw [List.reverse_cons,List.getD_eq_getElem?_getD,List.getElem?_append_right (by simp)];simp
theorem rev_take {α:Type}(x:α) (l:List α):((x::l).reverse).take l.length=l.reverse:=by
 rw [List.reverse_cons,List.take_append_of_le_length (by simp),List.take_of_length_le (by simp)]
set_option maxHeartbeats 4000000 in
set_option maxRecDepth 100000 in
theorem pop_any (bad:Nat→Prop) (x:S43) (st:List S43) (sp:List Int) (base PB:Nat) (W:World) (h:PS bad W base PB (x::st) sp) (hl:st.length≤1000000000):
 Calls Try.prog 52 #[.pointer (some ⟨PB,0,none⟩)] W fun e w'=>e= .returned (.agg #[.bool x.f0,.int .i64 x.f1])∧PS bad w' base PB st sp∧Kept W w' (fun k=>k=PB)∧∀B w0,B≤PB→Below B w0 W→Below B w0 w':=by
 have HW1:Aside0 (PS (fun k=>bad k∨k=W.heap.size) (W.alloc (.cells #[.bool false,.int .i64 0] 43)) base PB (x::st) sp):=⟨(PS.mono h.bound (fun k hk=>hk.imp id (fun e=>by omega))).alloc _⟩;have HK1:Aside0 (Kept W (W.alloc (.cells #[.bool false,.int .i64 0] 43)) (fun k=>k=PB)):=⟨Kept.alloc (Kept.refl W (fun k=>k=PB)) _⟩;have HQB:Aside0 ((W.alloc (.cells #[.bool false,.int .i64 0] 43)).heap[W.heap.size]?=some (.cells #[.bool false,.int .i64 0] 43 (0,0))):=⟨heap_alloc_new W _⟩;have hPB:PB<W.heap.size:=by obtain⟨_,_,h0,_⟩:=h;exact bN h0
 have HBB:Aside0 (∀B w0,B≤PB→Below B w0 W→Below B w0 (W.alloc (.cells #[.bool false,.int .i64 0] 43))):=⟨fun B w0 hB hb=>hb.trans ((aN (Below.refl _ W) _).mono (by omega))⟩;have HPB:=aM hPB;have HL:=aM hl;clear h hl hPB;go_enter Try.func52,Try.ntmps52
 go_upto_region 1 with fail
 generalize W.alloc (.cells #[.bool false,.int .i64 0] 43)=W1 at HW1 HK1 HQB HBB ⊢;generalize hQB:W.heap.size=QB at HQB HPB HW1 ⊢;have HQW:Aside0 (W.heap.size≤QB):=⟨by omega⟩;clear hQB;obtain⟨vs,vt,h0,h1,h2,h3⟩:=HW1.out;obtain⟨A,c,rfl⟩:=Kd.R_slice h2;obtain⟨_,hle,hC⟩:=aF h2;obtain⟨n,hn⟩:∃n,n=st.length:=⟨_,rfl⟩;have hlen:(x::st).reverse.length=n+1:=by rw [hn];simp
 rw [hlen] at h0 h2 hle hC;obtain⟨ad,ea,e0,e1⟩:=at_T43 hC (n:Int) (by omega) (by omega);have hrx:rd_T43 (x::st).reverse (n:Int)=x:=by rw [rd_T43,Int.toNat_natCast,hn];exact rev_last x st _
 rw [hrx,Int.toNat_natCast] at e0 e1;subst ea;obtain⟨i0_,hi0_,_⟩:=info_parts (show(Try.prog.info? 43).map (fun i=>(i.zero,i.size,i.bytes))=some (some (.agg #[.bool false,.int .i64 0]),2,16) from by kernel_rfl);have hcut:=cut_to (P:=Try.prog) 29 43 .i64 Try.underlying29 hi0_ (some ad) (n+1) c (n:Int) (by omega) (by omega) hle;rw [Int.toNat_natCast] at hcut;have q0:W1.cell? ⟨PB,0,none⟩=some (.slice (some ad) (n+1) c):=(aG h0 0).trans rfl;have i0:(0≤(n:Int))=True:=eq_true (by omega);have i1:((n:Int)<(n:Int)+1)=True:=eq_true (by omega);have hn8:n≤1000000000:=by have:=HL.out;omega
 have H0:=aM h0;have H1:=aM h1;have H2:=aM h2;have H3:=aM h3;have HN:=aM hn;clear h0 h1 h2 h3 hC hrx hle hlen hn hi0_ HW1
 go_upto_region 3 with fail
 have HLT1:Aside0 (QB<W1.heap.size):=⟨bN HQB.out⟩;have HXB:Aside0 ((W1.alloc (.cells #[.bool x.f0,.int .i64 x.f1] 43)).heap[W1.heap.size]?=some (.cells #[.bool x.f0,.int .i64 x.f1] 43 (0,0))):=⟨heap_alloc_new W1 _⟩;have H0':=aM (aI H0.out (.cells #[.bool x.f0,.int .i64 x.f1] 43));have HQB':=aM (aI HQB.out (.cells #[.bool x.f0,.int .i64 x.f1] 43));have H2':Aside0 (Kd.R k43 43 (W1.alloc (.cells #[.bool x.f0,.int .i64 x.f1] 43)) base (fun k=>¬(bad k∨k=QB)) (.slice (some ad) n c) st.reverse):=⟨aA (by have h:=Kd.R_take (m:=n) H2.out (by rw [HN.out];simp);rw [HN.out,rev_take] at h;rw [HN.out];exact h) _⟩;have H3':=aM (aA H3.out (.cells #[.bool x.f0,.int .i64 x.f1] 43));have HK2:Aside0 (Kept W (W1.alloc (.cells #[.bool x.f0,.int .i64 x.f1] 43)) (fun k=>k=PB)):=⟨Kept.alloc HK1.out _⟩;have HBB2:Aside0 (∀B w0,B≤PB→Below B w0 W→Below B w0 (W1.alloc (.cells #[.bool x.f0,.int .i64 x.f1] 43))):=⟨fun B w0 hB hb=>(HBB.out B w0 hB hb).trans ((aN (Below.refl _ W1) _).mono (by have:=HPB.out;have:=HLT1.out;omega))⟩;generalize W1.alloc (.cells #[.bool x.f0,.int .i64 x.f1] 43)=W2 at HXB H0' HQB' H2' H3' HK2 HBB2 ⊢;have HXN:Aside0 (QB≠W1.heap.size∧PB≠W1.heap.size∧PB≠QB):=⟨by have:=HPB.out;have:=HLT1.out;omega⟩;generalize W1.heap.size=XB at HXB HXN ⊢;have q0':W2.cell? ⟨PB,0,none⟩=some (.slice (some ad) (n+1) c):=(aG H0'.out 0).trans rfl;have f0':=aH H0'.out 0;have ne1:=HXN.out.1;have ne2:=HXN.out.2.1;have ne3:=HXN.out.2.2;clear q0 e0 e1 H0 HQB H2 H3 HK1 HBB HLT1
 go_upto_region 4 with fail
 have HX3:=aM (blk_far HXB.out (p:=⟨PB,0,none⟩) (Ne.symm ne2) (.slice (some ad) n c));have HQ3:=aM (blk_far HQB'.out (p:=⟨PB,0,none⟩) (Ne.symm ne3) (.slice (some ad) n c));have HP3:Aside0 (PS (fun k=>bad k∨k=QB) (W2.setCell ⟨PB,0,none⟩ (.slice (some ad) n c)) base PB st sp):=⟨PS.stack H0'.out H1.out H2'.out H3'.out⟩;have HK3:Aside0 (Kept W (W2.setCell ⟨PB,0,none⟩ (.slice (some ad) n c)) (fun k=>k=PB)):=⟨Kept.setCell HK2.out (.inl rfl) _⟩;have HBB3:Aside0 (∀B w0,B≤PB→Below B w0 W→Below B w0 (W2.setCell ⟨PB,0,none⟩ (.slice (some ad) n c))):=⟨fun B w0 hB hb=>(HBB2.out B w0 hB hb).setCell hB _⟩;generalize W2.setCell ⟨PB,0,none⟩ (.slice (some ad) n c)=W3 at HX3 HQ3 HP3 HK3 HBB3 ⊢;have x0:W3.cell? ⟨XB,0,none⟩=some (.bool x.f0):=(aG HX3.out 0).trans rfl;have x1:W3.cell? ⟨XB,1,none⟩=some (.int .i64 x.f1):=(aG HX3.out 1).trans rfl;have z0:W3.cell? ⟨QB,0,none⟩=some (.bool false):=(aG HQ3.out 0).trans rfl;have z1:W3.cell? ⟨QB,1,none⟩=some (.int .i64 0):=(aG HQ3.out 1).trans rfl;have g0:=aH HQ3.out 0;have g1:=aH HQ3.out 1;clear q0' f0' HXB H0' HQB' H2' H3' HK2 HBB2;go_wp2
 refine bodyPost_ret (results_cell_row rfl _ _ QB 43 #[.bool x.f0,.int .i64 x.f1] (0,0) _ rfl (blk_put (blk_put HQ3.out 0 _ rfl) 1 _ rfl) Try.underlying43 rfl (by kernel_rfl)) rfl ?_
 exact⟨rfl,PS.mono (PS.far (PS.far HP3.out (p:=⟨QB,0,none⟩) (.inr rfl) ne3 _) (p:=⟨QB,1,none⟩) (.inr rfl) ne3 _) (fun k hk=> .inl hk),Kept.setCell (Kept.setCell HK3.out (p:=⟨QB,0,none⟩) (.inr HQW.out) _) (p:=⟨QB,1,none⟩) (.inr HQW.out) _,fun B w0 hB hb=>((HBB3.out B w0 hB hb).setCell (p:=⟨QB,0,none⟩) (by have:=HPB.out;show B≤QB;omega) _).setCell (p:=⟨QB,1,none⟩) (by have:=HPB.out;show B≤QB;omega) _⟩
end Go.Proofs.Ytapjfnfengefpaa.P
end

section
namespace Go.Proofs.Ytapjfnfengefpaa.P
open Go.RowKit Go.Shelf Go.Proofs.YtapjfnfengefpaaW.PrintWords Go.Proofs.YtapjfnfengefpaaW.PrintLast Go.Proofs.YtapjfnfengefpaaW.PrintMore
set_option linter.unusedVariables false
set_option linter.unusedSimpArgs false
attribute [local go_sem] Oper.semAt_some
def dn (zs:List S43) (k:Nat):List (Nat×S43):=(List.range k).map fun j=>(zs.length - 1 - j,zs.getD (zs.length - 1 - j) ⟨false,0⟩)
theorem dn_succ (zs:List S43) (k:Nat):dn zs (k+1)=dn zs k++ [(zs.length - 1 - k,zs.getD (zs.length - 1 - k) ⟨false,0⟩)]:=by simp [dn,List.range_succ]
theorem dn_length (zs:List S43) (k:Nat):(dn zs k).length=k:=by simp [dn]
theorem dn_all (zs:List S43):(dn zs zs.length).map Prod.snd=zs.reverse:=by
 apply List.ext_getElem
 ·simp [dn]
 ·intro i h1 h2
  simp only [List.length_reverse] at h2;have h3:zs.length - 1 - i<zs.length:=by omega
  simp [dn,List.getElem_reverse,h3]
def backEncs (x:Nat×S43):Array Value:=#[.int .i64 (x.1:Int),.agg #[.bool x.2.f0,.int .i64 x.2.f1]]
def BackK (n₀ Bs:Nat) (W W':World):Prop:=Below n₀ W W'∧(∀o,W.heap[Bs]?=some o→W'.heap[Bs]?=some o)
theorem backK_t {n₀ Bs:Nat}{A B C:World}(h:BackK n₀ Bs A B) (k:BackK n₀ Bs B C):BackK n₀ Bs A C:=⟨h.1.trans k.1,fun o ho=>k.2 o (h.2 o ho)⟩
set_option maxRecDepth 100000 in
set_option maxHeartbeats 2000000 in
theorem back1_in (n:Nat) (hn:1≤n) (l Bs n₀:Nat) (A:Option Addr) (c:Nat) (zs:List S43) (w0:World) (hw0:n₀=w0.heap.size) (hz:Kd.C k43 w0 A zs.length zs) (hbig:zs.length≤1000000000) (J Jx:List (Nat×S43)→World→Prop)
 (hY:∀pre x W,J pre W→pre.length<zs.length→YieldAt Fence.wide (n - 1) Try.prog l (backEncs x) W fun e W'=>
  (e= .returned (.bool true)∧J (pre++ [x]) W'∧BackK n₀ Bs W W')∨(e= .returned (.bool false)∧Jx (pre++ [x]) W'))
 (W:World) (hw:Below n₀ w0 W) (hBs:W.heap[Bs]?=some (.cells #[.slice A zs.length c] 29 (0,0))) (h0:J [] W):
 CallsIn Fence.wide n Try.prog 62 #[.func (.yield l) #[] #[],.pointer (some ⟨Bs,0,none⟩)] W fun e W'=>(∃v,e= .returned v)∧
  ((∃ys,ys.map Prod.snd=zs.reverse∧J ys W')∨(∃pre,True∧Jx pre W')):=by
 subst hw0;refine callsIn_of_wp Try.func62 rfl trivial ?_ rfl
 simp only [Try.ntmps62,List.size_toArray,List.length_cons,List.length_nil,Nat.reduceAdd,Nat.reduceSub,Array.replicate_succ,Array.replicate_zero,List.push_toArray,List.append_toArray,List.nil_append,List.cons_append];have hb0:W.cell? ⟨Bs,0,none⟩=some (.slice A zs.length c):=(aG hBs 0).trans rfl;have hwz:IntKind.i64.wrap ((zs.length:Int) - 1)=(zs.length:Int) - 1:=by rw [IntKind.wrap_i64];omega
 gi_wp2
 gi_loopw [3] (fun i wr=>∃(k:Nat) (z:Int),k≤zs.length∧i= .int .i64 z∧z=(zs.length:Int) - 1 - k∧J (dn zs k) wr∧Aside0 (Below w0.heap.size w0 wr)∧Aside0 (wr.heap[Bs]?=some (.cells #[.slice A zs.length c] 29 (0,0))))
  (fun i _=>(intOf i+1).toNat)
 case atStart=>exact⟨0,_,Nat.zero_le _,rfl,by omega,h0,⟨hw⟩,⟨hBs⟩⟩
 case round=>
  clear hb0 hwz hBs hw h0;obtain⟨k,z,hk,rfl,hzz,hJs,BW,BB⟩:=hrel
  by_cases hlt:k<zs.length
  ·obtain⟨j,hj⟩:∃j:Nat,j=zs.length - 1 - k:=⟨_,rfl⟩
   obtain rfl:z=(j:Int):=by omega
   obtain⟨ad,ea,e0,e1⟩:=at_T43 (bD hz BW.out) (j:Int) (by omega) (by omega);have hrx:rd_T43 zs (j:Int)=zs.getD j ⟨false,0⟩:=by rw [rd_T43,Int.toNat_natCast];rfl
   rw [hrx,Int.toNat_natCast] at e0 e1;have hdn:dn zs (k+1)=dn zs k++ [(j,zs.getD j ⟨false,0⟩)]:=by rw [dn_succ,hj]
   generalize zs.getD j ⟨false,0⟩=y at e0 e1 hdn;obtain⟨fn,tmps,assign,body,hy,hR⟩:=hY _ (j,y) wr hJs (by rw [dn_length];exact hlt)
   dsimp only [backEncs] at hy;subst ea;have b0:wr.cell? ⟨Bs,0,none⟩=some (.slice (some ad) zs.length c):=(aG BB.out 0).trans rfl;have z0:decide ((0:Int)≤(j:Int))=true:=decide_eq_true (by omega);have z1:(0≤(j:Int))=True:=eq_true (by omega);have z2:((j:Int)<(zs.length:Int))=True:=eq_true (by omega);have hwj:IntKind.i64.wrap ((j:Int) - 1)=(j:Int) - 1:=by rw [IntKind.wrap_i64];omega
   have HK:=aM (And.intro hk (And.intro hzz (And.intro hj hlt)));clear hk hzz hj hlt hrx hY
   gi_wp2
   refine hR.mono ?_
   rintro e W3 (⟨rfl,hJ3,hk3⟩|⟨rfl,hJx3⟩)
   ·gi_wp2
    go_roundw
    case rel=>exact⟨k+1,_,by have:=HK.out;omega,rfl,by have:=HK.out;push_cast;omega,by rw [hdn];exact hJ3,⟨BW.out.trans hk3.1⟩,⟨hk3.2 _ BB.out⟩⟩
    case measure=>simp [intOf]
   ·gi_wp2
    refine bodyPost_ret (results_none rfl _ _ _) rfl ?_
    exact⟨⟨_,rfl⟩,.inr ⟨_,trivial,hJx3⟩⟩
  ·obtain rfl:k=zs.length:=by omega
   have z0:decide ((0:Int)≤z)=false:=decide_eq_false (by omega);clear hY
   gi_wp2
   go_end0
   exact⟨⟨_,rfl⟩,.inl ⟨_,dn_all zs,hJs⟩⟩
theorem back_stops (n:Nat) (hn:1≤n) (Bs n₀:Nat) (A:Option Addr) (c:Nat) (zs:List S43) (w0 w:World) (hw0:n₀=w0.heap.size) (hz:Kd.C k43 w0 A zs.length zs) (hbig:zs.length≤1000000000) (hw:Below n₀ w0 w) (hBs:w.heap[Bs]?=some (.cells #[.slice A zs.length c] 29 (0,0))):
 SeqStopsK Fence.wide n Try.prog 62 #[.pointer (some ⟨Bs,0,none⟩)] backEncs (BackK n₀ Bs) (fun ys=>ys.map Prod.snd=zs.reverse) (fun _=>True) zs.length w:=fun l J Jx W hW _ _ hY h0=>
 back1_in n hn l Bs n₀ A c zs w0 hw0 hz hbig J Jx hY W (hw.trans (hW.mono (by rw [hw0];exact(by have:=hw.size;omega)))) (bF hBs hW) h0
set_option maxHeartbeats 1000000 in
theorem back_in (n:Nat) (A:Option Addr) (len cap:Nat) (w:World):
 CallsIn Fence.wide n Try.prog 59 #[.slice A len cap] w fun e w'=>e= .returned (.func (.func 62) #[] #[.pointer (some ⟨w.heap.size,0,none⟩)])∧w'=w.alloc (.cells #[.slice A len cap] 29):=by
 refine callsIn_of_wp Try.func59 rfl trivial ?_ rfl
 simp only [Try.ntmps59,List.size_toArray,List.length_cons,List.length_nil,Nat.reduceAdd,Nat.reduceSub,Array.replicate_succ,Array.replicate_zero,List.push_toArray,List.append_toArray,List.nil_append,List.cons_append]
 gi_wp2
 go_ret
 exact⟨rfl,rfl⟩
end Go.Proofs.Ytapjfnfengefpaa.P
end

section
namespace Go.Proofs.Ytapjfnfengefpaa.P
open Go.RowKit Go.Proofs.YtapjfnfengefpaaW.PrintWords Go.Proofs.YtapjfnfengefpaaW.PrintLast Go.Proofs.YtapjfnfengefpaaW.PrintMore
set_option linter.unusedVariables false
set_option linter.unusedSimpArgs false
variable {P:Program}{ops:Array Oper}{Q:Exit→Act→World→Prop}{md:Region.Mode}{S:World→Prop}{ds:List Nat}
theorem rowsIn_round (l n:Nat) {row:String}{args:Array Value}{w:World}{R:Value→World→Prop}(h:Rows P row args w R):RowsIn (Fence.wide.inRound l) n P row args w R:=
 fun c cs _=>let⟨v,w',r,s⟩:=h c cs;⟨v,w',r,stepsIn_wide.2 s⟩
theorem wpIn_of_wp_round (l n:Nat) {o:Oper}(hd:∀c,o.op≠ .defer c) {a:Act}{w:World}{K:Act→World→Prop}(h:o.wp P a w K Q):o.wpIn (Fence.wide.inRound l) n P a w K Q:=by
 refine⟨fun _ _=>trivial,?_⟩
 rw [Oper.semAt_plain (Fence.wide.inRound l) _ _ hd]
 unfold Oper.wp at h
 cases hr:(execOp a.eval o).run P w with
 |ok x w'=>
  rw [hr] at h
  cases x with
  |value v=>exact h
  |skip=>exact h
  |defer d=>exact h
  |enter f args=>exact⟨fun hh=>(by cases hh),CallsIn.inRound l (callsIn_wide.2 h)⟩
  |row r args=>exact⟨fun hh=>(by cases hh),rowsIn_round l (n - 1) h⟩
  |_=>exact h.elim
 |halt x w'=>
  rw [hr] at h
  cases x<;>first|exact h|exact h.elim
theorem wpOpIn_of (l n:Nat) (hno:¬LetsOut Q) (hd:∀o,o∈ops.toList→∀c,o.op≠ .defer c) {i:Nat}{K:Act→World→Prop}{a:Act}{w:World}(h:wpOp P ops Q i K a w):wpOpIn (Fence.wide.inRound l) n P ops Q i K a w:=by
 unfold wpOp at h
 unfold wpOpIn
 cases ho:ops[i]? with
 |none=>rw [ho] at h;exact h
 |some o=>
  rw [ho] at h
  have hm:o∈ops.toList:=by
   obtain⟨hi,e⟩:=Array.getElem?_eq_some_iff.1 ho;rw [←e];exact Array.getElem_mem_toList hi
  simp only at h ⊢
  split
  ·rename_i hw
   rw [if_pos hw] at h;rcases h with h|⟨_,h⟩
   ·exact wpIn_of_wp_round l n (hd o hm) h
   ·exact absurd h hno
  ·rename_i hw
   rw [if_neg hw] at h;exact⟨fun _ _=>trivial,h⟩
theorem wpAnyIn_of (l n:Nat) (hno:¬LetsOut Q) (hd:∀o,o∈ops.toList→∀c,o.op≠ .defer c):∀(fuel:Nat) (listed:Array Bool) (a:Act) (w:World),wpAny P md ops Q fuel listed a w→wpAnyIn (Fence.wide.inRound l) n P md ops Q fuel listed a w
 |0,listed,a,w,h=>h
 |fuel+1,listed,a,w,h=>by
  refine⟨h.1,fun i hi=>wpOpIn_mono (fun a w=>wpAnyIn_of l n hno hd fuel _ a w) (wpOpIn_of l n hno hd (h.2 i hi))⟩
def noDeferB (ops:Array Oper):Bool:=ops.toList.all fun o=>match o.op with| .defer _=>false|_=>true
theorem noDefer_spec (h:noDeferB ops=true):∀o,o∈ops.toList→∀c,o.op≠ .defer c:=fun o ho c e=>by
 have:=List.all_eq_true.1 h o ho;rw [e] at this
 cases this
theorem startR_ {l m:Nat}{id n:Nat}{a:Act}{w:World}(l':Array Bool) (hno:¬LetsOut Q) (hd:noDeferB ops=true) (hm:P.follows .mixedOrders=true) (hn:ops.size=n) (hl:Array.replicate n false=l') (hS:S w.drew)
 (h:S w.drew→wpAnyLast P .any ops Q S ds n l' a w.drew):(Code.region id ops true).wpIn (Fence.wide.inRound l) m P Q a w:=by
 subst hn;subst hl;exact wpIn_region_any hm (wpAnyIn_of l m hno (noDefer_spec hd) _ _ _ _ (wpAny_of_last _ _ _ _ (h hS)))
end Go.Proofs.Ytapjfnfengefpaa.P
end

section
namespace Go.Proofs.Ytapjfnfengefpaa.P
open Go.RowKit Go.Shelf Go.Proofs.YtapjfnfengefpaaW.PrintWords Go.Proofs.YtapjfnfengefpaaW.PrintLast Go.Proofs.YtapjfnfengefpaaW.PrintMore
set_option linter.unusedVariables false
set_option linter.unusedSimpArgs false
attribute [local go_sem] Oper.semAt_some
def Keeps (bad:Nat→Prop) (W W':World):Prop:=∀k o,bad k→W.heap[k]?=some o→o.isCells=true→W'.heap[k]?=some o
theorem Keeps.refl (bad:Nat→Prop) (W:World):Keeps bad W W:=fun _ _ _ h _=>h
theorem Keeps.trans {bad:Nat→Prop}{A B C:World}(h:Keeps bad A B) (k:Keeps bad B C):Keeps bad A C:=fun i o hb ho hc=>k i o hb (h i o hb ho hc) hc
theorem Keeps.mono {bad bad':Nat→Prop}{A B:World}(h:Keeps bad A B) (hm:∀k,bad' k→bad k):Keeps bad' A B:=fun i o hb ho hc=>h i o (hm i hb) ho hc
theorem Keeps.below {bad:Nat→Prop}{A B:World}(h:Below A.heap.size A B):Keeps bad A B:=fun i o _ ho _=>bF ho h
theorem Keeps.grown {bad:Nat→Prop}{A B:World}{row:Option Nat}(hg:A.grownBy B row) (h:∀k,bad k→some k≠row):Keeps bad A B:=fun i o hb ho _=>(hg.block i (bN ho) (h i hb)).trans ho
theorem Keeps.set {bad:Nat→Prop}{A:World}{p:Addr}(h:¬bad p.block) (u:Value):Keeps bad A (A.setCell p u):=fun i o hb ho _=>(Below.heap_setCell A p u i (fun e=>h (e ▸ hb))).trans ho
theorem Keeps.kept {bad:Nat→Prop}{A B:World}{S:Nat→Prop}(h:Kept A B S) (hb:∀k,bad k→¬S k):Keeps bad A B:=fun i o hi ho _=>(h.2 i (bN ho) (hb i hi)).trans ho
theorem PS.other {bad:Nat→Prop}{W W':World}{base PB:Nat}{st:List S43}{sp:List Int}(h:PS bad W base PB st sp) {row:Option Nat}(hg:W.grownBy W' row) (hr:∀r,row=some r→∃o:Obj,W.heap[r]?=some o∧o.isCells=false):PS bad W' base PB st sp:=by
 obtain⟨vs,vt,h0,h1,h2,h3⟩:=h
 have hne:∀k cells q,W.heap[k]?=some (.cells cells q (0,0))→some k≠row:=fun k cells q hk e=>by
  obtain⟨o,ho,hc⟩:=hr k e.symm;rw [hk] at ho
  cases ho
  cases hc
 refine⟨vs,vt,blk_grown h0 hg (hne _ _ _ h0),h1,?_,?_⟩
 ·exact Kd.R_mono (Kd.R_grown (Kd.R_bound h2) hg (fun k hk=>by obtain⟨_,_,_,q,_,cells,hc⟩:=hk;exact hne _ _ _ hc)) (fun k hk=>hk.1)
 ·exact Kd.R_mono (Kd.R_grown (Kd.R_bound h3) hg (fun k hk=>by obtain⟨_,_,_,q,_,cells,hc⟩:=hk;exact hne _ _ _ hc)) (fun k hk=>hk.1)
theorem Keeps.other {bad:Nat→Prop}{A W W':World}(h:Keeps bad A W) {row:Option Nat}(hg:W.grownBy W' row) (hr:∀r,row=some r→∃o:Obj,W.heap[r]?=some o∧o.isCells=false):Keeps bad A W':=fun i o hb ho hc=>by
 have hX:=h i o hb ho hc;refine(hg.block i (bN hX) (fun e=>?_)).trans hX
 obtain⟨o',ho',hc'⟩:=hr i e.symm;rw [hX] at ho'
 cases ho';rw [hc] at hc'
 cases hc'
def noPanic (Q:Exit→Act→World→Prop):Exit→Act→World→Prop
 | .panic _,_,_=>False
 |e,a,w=>Q e a w
theorem noPanic_imp {Q:Exit→Act→World→Prop}:∀(e:Exit) (a:Act) (w:World),noPanic Q e a w→Q e a w
 | .panic _,_,_,h=>h.elim
 | .normal,_,_,h=>h
 | .ret,_,_,h=>h
 | .exit _,_,_,h=>h
 | .goto _,_,_,h=>h
 | .outgrown,_,_,h=>h
set_option maxHeartbeats 4000000 in
set_option maxRecDepth 100000 in
theorem expand_any (bad:Nat→Prop) (bM:Option Addr) (bO:Nat) (aU:List ByteArray) (bQ:Option Addr) (bR:Nat) (aX:List (S72)) (bA:Int) (bB:Int) (bV:Option Addr) (bS:Nat) (aQ:List (S35)) (prod:Int) (st:List S43) (sp:List Int) (PB:Nat) (w0 W:World)
 (hPS:PS bad W w0.heap.size PB st sp) (hw:Below w0.heap.size w0 W) (hbad:∀k,bad k→k<W.heap.size) (hPB:¬bad PB) (hr4:Kd.C k35 w0 bV aQ.length aQ) (h0:0≤prod) (h1:prod<(aQ.length:Int))
 (hr:(rd_T35 aQ prod).f1.length≤1000000) (hst:st.length≤1000000) (hsp:sp.length≤1000000):
 Calls Try.prog 53 #[.pointer (some ⟨PB,0,none⟩),.agg #[.slice bM aU.length bO,.slice bQ aX.length bR,.int .i64 bA,.int .i64 bB,.slice bV aQ.length bS],.int .i64 prod] W fun e w'=>
  e= .returned (.bool (decide (((rd_T35 aQ prod).f1++st).length≤10000) && decide ((sp++ [prod]).length≤10000)))∧PS bad w' w0.heap.size PB ((rd_T35 aQ prod).f1++st) (sp++ [prod])∧Below w0.heap.size w0 w'∧Keeps bad W w'∧W.heap.size≤w'.heap.size:=by
 obtain⟨ad,A5,c5,ea,_,e1,_,hC5⟩:=at_T35 hr4 prod h0 h1;generalize (rd_T35 aQ prod).f1=r at e1 hC5 hr ⊢;subst ea;have HW:=aM hw;have HBAD:Aside0 (∀k,(bad k∨k=W.heap.size∨k=W.heap.size+1)→k<W.heap.size+2):=⟨fun k hk=>by rcases hk with h|h|h;have:=hbad k h;omega;omega;omega⟩
 have HP1:Aside0 (PS (fun k=>bad k∨k=W.heap.size∨k=W.heap.size+1) ((W.alloc (.cells #[.pointer (some ⟨PB,0,none⟩)] 81)).alloc (.cells #[.slice bM aU.length bO,.slice bQ aX.length bR,.int .i64 bA,.int .i64 bB,.slice (some ad) aQ.length bS] 26)) w0.heap.size PB st sp):=⟨((PS.mono hPS.bound (fun k hk=>by rcases hk with h|h|h;exact .inl h;exact .inr (by omega);exact .inr (by omega))).alloc _).alloc _⟩
 have hBW:Below W.heap.size W ((W.alloc (.cells #[.pointer (some ⟨PB,0,none⟩)] 81)).alloc (.cells #[.slice bM aU.length bO,.slice bQ aX.length bR,.int .i64 bA,.int .i64 bB,.slice (some ad) aQ.length bS] 26)):=((Below.refl _ W).alloc (Nat.le_refl _) _).alloc (by simp) _;have HK1:Aside0 (Keeps bad W ((W.alloc (.cells #[.pointer (some ⟨PB,0,none⟩)] 81)).alloc (.cells #[.slice bM aU.length bO,.slice bQ aX.length bR,.int .i64 bA,.int .i64 bB,.slice (some ad) aQ.length bS] 26))):=⟨Keeps.below hBW⟩;have HB1:Aside0 (Below w0.heap.size w0 ((W.alloc (.cells #[.pointer (some ⟨PB,0,none⟩)] 81)).alloc (.cells #[.slice bM aU.length bO,.slice bQ aX.length bR,.int .i64 bA,.int .i64 bB,.slice (some ad) aQ.length bS] 26))):=⟨hw.trans (hBW.mono hw.size)⟩;have HTB:Aside0 (((W.alloc (.cells #[.pointer (some ⟨PB,0,none⟩)] 81)).alloc (.cells #[.slice bM aU.length bO,.slice bQ aX.length bR,.int .i64 bA,.int .i64 bB,.slice (some ad) aQ.length bS] 26)).heap[W.heap.size]?=some (.cells #[.pointer (some ⟨PB,0,none⟩)] 81 (0,0))):=⟨aI (blk_new _ _) _⟩;have HSB:Aside0 (((W.alloc (.cells #[.pointer (some ⟨PB,0,none⟩)] 81)).alloc (.cells #[.slice bM aU.length bO,.slice bQ aX.length bR,.int .i64 bA,.int .i64 bB,.slice (some ad) aQ.length bS] 26)).heap[W.heap.size+1]?=some (.cells #[.slice bM aU.length bO,.slice bQ aX.length bR,.int .i64 bA,.int .i64 bB,.slice (some ad) aQ.length bS] 26 (0,0))):=⟨by have h:=blk_new (W.alloc (.cells #[.pointer (some ⟨PB,0,none⟩)] 81)) (.cells #[.slice bM aU.length bO,.slice bQ aX.length bR,.int .i64 bA,.int .i64 bB,.slice (some ad) aQ.length bS] 26);rw [World.size_alloc] at h;exact h⟩;have HSZ1:Aside0 (W.heap.size+2≤((W.alloc (.cells #[.pointer (some ⟨PB,0,none⟩)] 81)).alloc (.cells #[.slice bM aU.length bO,.slice bQ aX.length bR,.int .i64 bA,.int .i64 bB,.slice (some ad) aQ.length bS] 26)).heap.size):=⟨by simp⟩;have HPBN:Aside0 (¬(bad PB∨PB=W.heap.size∨PB=W.heap.size+1)):=⟨by obtain⟨_,_,hb,_⟩:=hPS;have:=bN hb;rintro(h|h|h);exact hPB h;omega;omega⟩;have E1:=aM e1;have HC5:=aM hC5;have HR:=aM hr;have HST:=aM hst;have HSP:=aM hsp;have HPR:=aM (And.intro h0 h1);clear hPS hw hbad hPB hr4 h0 h1 hr hst hsp e1 hC5 hBW;refine(callsIn_wide (n:=5)).1 (callsIn_of_wp_marks Try.func53 rfl trivial (wpIn_mono (wpIn_wide.2 ?_) noPanic_imp) rfl)
 simp only [Try.ntmps53,List.size_toArray,List.length_cons,List.length_nil,Nat.reduceAdd,Nat.reduceSub,Array.replicate_succ,Array.replicate_zero,List.push_toArray,List.append_toArray,List.nil_append,List.cons_append]
 obtain⟨Q',hQ'⟩:∃Q',Q'=bodyPostM Fence.wide 5 Try.prog Try.f53 fun e w'=>
  e= .returned (.bool (decide ((r++st).length≤10000) && decide ((sp++ [prod]).length≤10000)))∧PS bad w' w0.heap.size PB (r++st) (sp++ [prod])∧Below w0.heap.size w0 w'∧Keeps bad W w'∧W.heap.size≤w'.heap.size:=⟨_,rfl⟩
 rw [←hQ'];have HQ':=aM hQ';clear hQ'
 go_upto_region 1 with fail
 have HZ1:Aside0 (W.heap.size≤((W.alloc (.cells #[.pointer (some ⟨PB,0,none⟩)] 81)).alloc (.cells #[.slice bM aU.length bO,.slice bQ aX.length bR,.int .i64 bA,.int .i64 bB,.slice (some ad) aQ.length bS] 26)).heap.size):=⟨by have:=HSZ1.out;omega⟩;generalize ((W.alloc (.cells #[.pointer (some ⟨PB,0,none⟩)] 81)).alloc (.cells #[.slice bM aU.length bO,.slice bQ aX.length bR,.int .i64 bA,.int .i64 bB,.slice (some ad) aQ.length bS] 26))=w1 at HP1 HK1 HB1 HTB HSB HSZ1 HZ1 ⊢;generalize hSBn:W.heap.size+1=SB at HP1 HSB HBAD HPBN ⊢;generalize hTBn:W.heap.size=TB at HP1 HTB HBAD HSZ1 HPBN ⊢;have HNE:Aside0 (TB≠SB):=⟨by omega⟩;clear hSBn hTBn;have hbad1:∀k,w1.heap.size≤k→¬(bad k∨k=TB∨k=SB):=fun k hk h=>by have:=HBAD.out k h;have:=HSZ1.out;omega
 have HBN:=aM hbad1;clear hbad1;obtain⟨vs,vt,h0,h1,h2,h3⟩:=HP1.out;have H0:=aM h0;have H1:=aM h1;have H2:=aM h2;have H3:=aM h3;clear h0 h1 h2 h3 HP1;refine start_ (n:=11) (S:=fun w'=>w'.cell? ⟨TB,0,none⟩=some (.pointer (some ⟨PB,0,none⟩))∧w'.cell? ⟨PB,1,none⟩=some vt) (ds:= [10]) #[false,false,false,false,false,false,false,false,false,false,false] (by kernel_rfl) rfl rfl ⟨(aG HTB.out 0).trans rfl,(aG H0.out 1).trans rfl⟩ (fun hHeld=>?_)
 refine pure_ (i:=5) (N:=some 14) (v:=?_) (a':=?_) #[false,false,false,false,false,true,false,false,false,false,false] rfl rfl (by kernel_rfl) (fun _ _ _ h=>h) (Or.inl ⟨by rfl,?_⟩) ?_ ?_
 rotate_left;(intro w';go_simp;with_reducible rfl);rotate_left;(simp only [pq];rfl)
 refine take_ (i:=0) (N:=some 9) (v:=?_) (a':=?_) #[true,false,false,false,false,true,false,false,false,false,false] rfl rfl (by kernel_rfl) (fun _ _ _ h=>h) (Or.inl ⟨by rfl,?_⟩) hHeld ?_ ?_
 rotate_left
 ·rintro w' ⟨s0,s1⟩
  go_simp
  with_reducible rfl
 rotate_left
 ·simp only [pq]
  rfl
 refine take_ (i:=1) (N:=some 10) (v:=?_) (a':=?_) #[true,true,false,false,false,true,false,false,false,false,false] rfl rfl (by kernel_rfl) (fun _ _ _ h=>h) (Or.inl ⟨by rfl,?_⟩) hHeld ?_ ?_
 rotate_left
 ·rintro w' ⟨s0,s1⟩
  go_simp
  with_reducible rfl
 rotate_left
 ·simp only [pq]
  rfl
 refine pure_ (i:=2) (N:=some 11) (v:=?_) (a':=?_) #[true,true,true,false,false,true,false,false,false,false,false] rfl rfl (by kernel_rfl) (fun _ _ _ h=>h) (Or.inl ⟨by rfl,?_⟩) ?_ ?_
 rotate_left;(intro w';go_simp;with_reducible rfl);rotate_left;(simp only [pq];rfl)
 refine pure_ (i:=3) (N:=some 12) (v:=?_) (a':=?_) #[true,true,true,true,false,true,false,false,false,false,false] rfl rfl (by kernel_rfl) (fun _ _ _ h=>h) (Or.inl ⟨by rfl,?_⟩) ?_ ?_
 rotate_left;(intro w';go_simp;with_reducible rfl);rotate_left;(simp only [pq];rfl)
 refine take_ (i:=4) (N:=some 13) (v:=?_) (a':=?_) #[true,true,true,true,true,true,false,false,false,false,false] rfl rfl (by kernel_rfl) (fun _ _ _ h=>h) (Or.inl ⟨by rfl,?_⟩) hHeld ?_ ?_
 rotate_left
 ·rintro w' ⟨s0,s1⟩
  go_simp
  with_reducible rfl
 rotate_left
 ·simp only [pq]
  rfl
 refine one_ (i:=6) (N:=some 15) #[true,true,true,true,true,true,true,false,false,false,false] rfl rfl (by kernel_rfl) (by decide) (fun K hK=>?_)
 refine value_ (w1:=?_) (v:=?_) (by rfl) rfl ?_ ?_
 rotate_left 2
 ·go_simp
  constructor
  ·rfl
  ·rfl
 refine hK.out _ _ ⟨(aG (aI HTB.out _) 0).trans rfl,(aG (aI H0.out _) 1).trans rfl⟩ (fun hHeld=>?_)
 clear hK K;refine norm_ (a':=?_) ?_ ?_
 rotate_left
 ·show Act.put _ (some 15) _=_
  simp only [pq];rfl
 refine one_ (i:=7) (N:=some 16) #[true,true,true,true,true,true,true,true,false,false,false] rfl rfl (by kernel_rfl) (by decide) (fun K hK=>?_)
 rw [show(w1.alloc (.cells #[.int .i64 prod] 3)).drew=w1.drew.alloc (.cells #[.int .i64 prod] 3) from rfl];refine Kd.R_append_step (Kd.int .i64) (w0:=w1.drew) w0.heap.size (by rfl) (.tmp 13) (.tmp 15) 32 3 (.int .i64 0) 8 rfl Try.underlying32 miInt rfl (by decide) (by omega) vt sp prod [.int .i64 prod] (fun k=>¬(bad k∨k=TB∨k=SB)) (fun _=>False) rfl rfl rfl (fun _ hk=>hk.elim) HBN.out (aC H3.out) (Below.refl _ _) HB1.out.size (by have:=HSP.out;omega) ?_
 intro v1 w2 ho hb hg hat;obtain⟨As,ls,cs_,rfl⟩:∃An ln cn,v1= .slice An ln cn:=by obtain⟨An,cn,e⟩:=Kd.R_slice ho;exact⟨An,_,cn,e⟩
 have H02:=aM (blk_grown (aK H0.out) hg (Kd.R_ne H3.out H0.out (by decide)));have HTB2:=aM (blk_grown (aK HTB.out) hg (Kd.R_away H3.out (fun k hk e=>hk (.inr (.inl e)))));have HSB2:=aM (blk_grown (aK HSB.out) hg (Kd.R_away H3.out (fun k hk e=>hk (.inr (.inr e)))));have H22:=aM (Kd.R_over (aC H2.out) (aC H3.out) (by decide) hg);have TY:=aM ho;have HB2:Aside0 (Below w0.heap.size w0 w2):=⟨(aO HB1.out).trans hb⟩;have HK2:Aside0 (Keeps bad W w2):=⟨(show Keeps bad W w1.drew from HK1.out).trans (Keeps.grown hg (fun k hk=>Kd.R_away H3.out (fun j hj e=>hj (.inl (e ▸ hk)))))⟩;have HS2:=aM hg.size;have f3:=aH H02.out 1;clear ho hb hg hat;refine hK.out _ _ ⟨(aG HTB2.out 0).trans rfl,(aG H02.out 1).trans rfl⟩ (fun hHeld=>?_)
 clear hK K;refine norm_ (a':=?_) ?_ ?_
 rotate_left
 ·show Act.put _ (some 16) _=_
  simp only [pq];rfl
 refine pure_ (i:=8) (N:=some 17) (v:=?_) (a':=?_) #[true,true,true,true,true,true,true,true,true,false,false] rfl rfl (by kernel_rfl) (fun _ _ _ h=>h) (Or.inl ⟨by rfl,?_⟩) ?_ ?_
 rotate_left;(intro w';go_simp;with_reducible rfl);rotate_left;(simp only [pq];rfl)
 refine pure_ (i:=9) (N:=some 18) (v:=?_) (a':=?_) #[true,true,true,true,true,true,true,true,true,true,false] rfl rfl (by kernel_rfl) (fun _ _ _ h=>h) (Or.inl ⟨by rfl,?_⟩) ?_ ?_
 rotate_left;(intro w';go_simp;with_reducible rfl);rotate_left;(simp only [pq];rfl)
 refine last_ (i:=10) (N:=none) #[true,true,true,true,true,true,true,true,true,true,true] rfl rfl (by kernel_rfl) (by decide) (fun K hK=>?_)
 refine skip_ (w1:=?_) (by rfl) rfl ?_ ?_
 rotate_left
 ·go_simp
  rfl
 refine hK.out _ _ ?_
 clear hK K;refine done_ (by kernel_rfl) ?_
 have HP3:Aside0 (PS (fun k=>bad k∨k=TB∨k=SB) (w2.setCell ⟨PB,1,none⟩ (.slice As ls cs_)) w0.heap.size PB st (sp++ [prod])):=⟨PS.steps H02.out H1.out H22.out TY.out⟩;have HTB3:=aM (blk_far HTB2.out (p:=⟨PB,1,none⟩) (fun e=>HPBN.out (.inr (.inl e.symm))) (.slice As ls cs_));have HSB3:=aM (blk_far HSB2.out (p:=⟨PB,1,none⟩) (fun e=>HPBN.out (.inr (.inr e.symm))) (.slice As ls cs_));have HB3:Aside0 (Below w0.heap.size w0 (w2.setCell ⟨PB,1,none⟩ (.slice As ls cs_))):=⟨HB2.out.setCell H1.out _⟩;have HK3:Aside0 (Keeps bad W (w2.setCell ⟨PB,1,none⟩ (.slice As ls cs_))):=⟨HK2.out.trans (Keeps.set (p:=⟨PB,1,none⟩) (fun h=>HPBN.out (.inl h)) _)⟩;have HBN3:Aside0 (∀k,(w2.setCell ⟨PB,1,none⟩ (.slice As ls cs_)).heap.size≤k→¬(bad k∨k=TB∨k=SB)):=⟨fun k hk=>HBN.out k (Nat.le_trans HS2.out (by simpa [World.setCell] using hk))⟩;have HZ3:Aside0 (W.heap.size≤(w2.setCell ⟨PB,1,none⟩ (.slice As ls cs_)).heap.size):=⟨Nat.le_trans (Nat.le_trans HZ1.out HS2.out) (by simp [World.setCell])⟩;generalize w2.setCell ⟨PB,1,none⟩ (.slice As ls cs_)=w3 at HZ3 HP3 HTB3 HSB3 HB3 HK3 HBN3 ⊢;clear f3 H0 HTB HSB H2 H3 H02 HTB2 HSB2 H22 TY HB2 HK2 HS2 HBN HBAD HSZ1 HK1 HB1;have q4:w3.cell? ⟨SB,4,none⟩=some (.slice (some ad) aQ.length bS):=(aG HSB3.out 4).trans rfl;have e1:=(HB3.out.cell (World.block_lt_of_cell? _ _ E1.out)).trans E1.out;have b0:(0≤prod)=True:=eq_true HPR.out.1;have b1:(prod<(aQ.length:Int))=True:=eq_true HPR.out.2;have hcb:=(callsIn_wide (n:=5)).1 (back_in 5 A5 r.length c5 w3);have PB5:=aM hcb;clear hcb
 go_wp2_with (first|(go_at_call 59;(with_reducible refine PB5.out.mono ?_);rintro e w4 ⟨rfl,rfl⟩;clear q4 e1))
 have HBW4:Aside0 (Below w3.heap.size w3 (w3.alloc (.cells #[.slice A5 r.length c5] 29))):=⟨aN (Below.refl _ w3) _⟩;have HBS4:Aside0 ((w3.alloc (.cells #[.slice A5 r.length c5] 29)).heap[w3.heap.size]?=some (.cells #[.slice A5 r.length c5] 29 (0,0))):=⟨heap_alloc_new w3 _⟩;have HP4:Aside0 (PS (fun k=>(bad k∨k=TB∨k=SB)∨k=w3.heap.size) (w3.alloc (.cells #[.slice A5 r.length c5] 29)) w0.heap.size PB st (sp++ [prod])):=⟨(PS.mono HP3.out.bound (fun k hk=>hk.imp id (fun e=>by omega))).alloc _⟩;have HSZ4:Aside0 (w3.heap.size<(w3.alloc (.cells #[.slice A5 r.length c5] 29)).heap.size):=⟨by simp⟩;have HPB4:Aside0 (¬((bad PB∨PB=TB∨PB=SB)∨PB=w3.heap.size)):=⟨by obtain⟨_,_,hb,_⟩:=HP3.out;have:=bN hb;rintro(h|h);exact HPBN.out h;omega⟩;have HTB4:=aM (bF HTB3.out HBW4.out);have HB4:Aside0 (Below w0.heap.size w0 (w3.alloc (.cells #[.slice A5 r.length c5] 29))):=⟨HB3.out.trans (HBW4.out.mono HB3.out.size)⟩;have HK4:Aside0 (Keeps bad W (w3.alloc (.cells #[.slice A5 r.length c5] 29))):=⟨HK3.out.trans (Keeps.below HBW4.out)⟩
 have HBN4:Aside0 (∀k,(w3.alloc (.cells #[.slice A5 r.length c5] 29)).heap.size≤k→¬((bad k∨k=TB∨k=SB)∨k=w3.heap.size)):=⟨fun k hk h=>by
  have h2:=HSZ4.out;rcases h with h|h
  ·exact HBN3.out k (by omega) h
  ·omega⟩
 have HZ4:Aside0 (W.heap.size≤(w3.alloc (.cells #[.slice A5 r.length c5] 29)).heap.size):=⟨by rw [World.size_alloc];have:=HZ3.out;omega⟩;generalize (w3.alloc (.cells #[.slice A5 r.length c5] 29))=w4 at HZ4 HBW4 HBS4 HP4 HSZ4 HTB4 HB4 HK4 HBN4 ⊢;generalize w3.heap.size=BS at HBS4 HP4 HSZ4 HPB4 HBN4 ⊢;clear HBW4 HP3 HTB3 HSB3 HB3 HK3 HBN3 PB5 b0 b1;have h4n:w0.heap.size≤w4.heap.size:=HB4.out.size;refine(wpIn_wide (n:=5)).1 ?_
 refine wpIn_rangeFunc_ownH (F:=Fence.wide) (n:=5) rfl (by omega) (gf:=62) (lb:=#[.pointer (some ⟨BS,0,none⟩)]) rfl trivial (enters_of Try.func62 (by kernel_rfl) rfl)
  (back_stops 4 (by omega) BS w0.heap.size A5 c5 r w0 w4 rfl HC5.out (by have:=HR.out;omega) HB4.out HBS4.out) (fun h k=>backK_t h k)
  (fun Wx l o o' hl ho hc hw=>⟨belowK_b h4n Wx l o o' hl ho hc hw,fun ob hob=>(World.putObj_heap_other (by have:=HSZ4.out;omega)).trans hob⟩) (Below.refl _ _) (fun _=>rfl)
  (fun pre Wx=>(PS (fun k=>(bad k∨k=TB∨k=SB)∨k=BS) Wx w0.heap.size PB ((pre.map Prod.snd).reverse++st) (sp++ [prod])∧Keeps (fun k=>(bad k∨k=TB∨k=SB)∨k=BS) w4 Wx)∧(Below w0.heap.size w0 Wx∧w4.heap.size≤Wx.heap.size))
  (fun _ _ _=>False)
  (OwnFrom.and (fun pre X Y row hs hg hrow=>⟨PS.other hs.1 hg (fun r e=>(hrow r e).2),Keeps.other hs.2 hg (fun r e=>(hrow r e).2)⟩) (OwnFrom.and (ownFrom_below (Nat.le_refl _) h4n) (fun _ X Y row hs hg _=>Nat.le_trans hs hg.size)))
  (fun _ _ _ _ _ hs _ _=>hs)
  ⟨⟨HP4.out,Keeps.refl _ _⟩,HB4.out,Nat.le_refl _⟩
  (fun x a' Wx=>∃Bx st',PS (fun k=>((bad k∨k=TB∨k=SB)∨k=BS)∨k=Bx) Wx w0.heap.size PB st' (sp++ [prod])∧Wx.heap[Bx]?=some (.cells #[.bool x.2.f0,.int .i64 x.2.f1] 43 (0,0))∧a'={tmps:=#[.pointer (some ⟨PB,0,none⟩),.agg #[.slice bM aU.length bO,.slice bQ aX.length bR,.int .i64 bA,.int .i64 bB,.slice (some ad) aQ.length bS],.int .i64 prod,.pointer (some ⟨TB,0,none⟩),.pointer (some ⟨SB,0,none⟩),undef,.bool false,undef,.pointer (some ⟨Bx,0,none⟩),.pointer (some ⟨PB,0,none⟩),.pointer (some ⟨PB,0,none⟩),.pointer (some ⟨PB,0,none⟩),.pointer (some ⟨PB,1,none⟩),vt,.int .i64 prod,.slice (some ⟨w1.heap.size,0,none⟩) 1 1,.slice As ls cs_,.pointer (some ⟨PB,0,none⟩),.pointer (some ⟨PB,1,none⟩),.pointer (some ⟨SB,4,none⟩),.slice (some ad) aQ.length bS,.int .i64 prod,.pointer (some (ad.add (prod.toNat * 2))),.pointer (some ⟨(ad.add (prod.toNat * 2)).block,(ad.add (prod.toNat * 2)).off+1,none⟩),.slice A5 r.length c5,.func (.func 62) #[] #[.pointer (some ⟨BS,0,none⟩)],.int .i64 (x.1:Int),.agg #[.bool x.2.f0,.int .i64 x.2.f1],undef,undef,undef,undef,undef,undef,undef,undef,undef,undef,undef,undef,undef,undef,undef,undef,undef,undef,undef,undef,undef,undef,undef,undef],defers:= []})
  (fun x a' _ X Y row hs hg hrow=>by
   obtain⟨Bx,st',hps,hb,e⟩:=hs;refine⟨Bx,st',PS.other hps hg (fun r e=>(hrow r e).2),blk_grown hb hg (fun e'=>?_),e⟩
   obtain⟨_,o,ho,hc⟩:=hrow Bx e'.symm;rw [hb] at ho
   cases ho
   cases hc) ?assign ?body ?done ?stop
 case assign=>
  rintro l pre x Wx K ⟨⟨hP,hKp⟩,hB,hsz⟩ hK
  have HSZx:=aM hsz;clear hsz;have HPx:=aM hP;have HKx:=aM hKp;have HBx:=aM hB;clear hP hKp hB
  dsimp only [backEncs]
  gi_wp2
  exact hK _ _ ((KeepsOthers.alloc _ _).from _) ⟨(Below.refl _ Wx).alloc HBx.out.size _,fun o ho=>aI ho _⟩ ⟨⟨HPx.out.alloc _,HKx.out.trans (Keeps.below (aN (Below.refl _ Wx) _))⟩,HBx.out.alloc HBx.out.size _,by rw [World.size_alloc];have:=HSZx.out;omega⟩ ⟨Wx.heap.size,_,(PS.mono HPx.out.bound (fun k hk=>hk.imp id (fun e=>by omega))).alloc _,heap_alloc_new Wx _,rfl⟩
 case body=>
  rintro l pre x a' Wx hl ⟨rl,hrl⟩ ⟨⟨hP,hKp⟩,hB,hsz⟩ ⟨Bx,st',hP',hBx,rfl⟩ hlen
  have hT:=hKp TB _ (.inl (.inr (.inl rfl))) HTB4.out rfl;obtain⟨vs,vt',h0,h1,h2,h3⟩:=hP
  have hnB:some Bx≠vs.ownBlock:=by
   obtain⟨vs2,vt2,h0',_,h2',_⟩:=hP';rw [h0] at h0';injection h0' with h0'
   injection h0' with h0'
   injection h0' with h0'
   injection h0' with e1 _
   subst e1;exact Kd.R_away h2' (fun k hk e=>hk (.inr e))
  have HNB:=aM hnB;clear hnB hP';have t0:Wx.cell? ⟨TB,0,none⟩=some (.pointer (some ⟨PB,0,none⟩)):=(aG hT 0).trans rfl;have p0:Wx.cell? ⟨PB,0,none⟩=some vs:=(aG h0 0).trans rfl;have x0:Wx.cell? ⟨Bx,0,none⟩=some (.bool x.2.f0):=(aG hBx 0).trans rfl;have x1:Wx.cell? ⟨Bx,1,none⟩=some (.int .i64 x.2.f1):=(aG hBx 1).trans rfl;have HKp:=aM hKp;have HBx:=aM hB;have H0:=aM h0;have H1x:=aM h1;have H2:=aM h2;have H3:=aM h3;have HT:=aM hT;have HLEN:=aM hlen;have HSZx:Aside0 (w4.heap.size≤Wx.heap.size):=⟨hsz⟩;clear hsz hKp hB h0 h1 h2 h3 hT hlen hl hrl t0 p0 x0 x1;have HBxx:=aM hBx;clear hBx;refine wpIn_block ?_
  refine startR_ (n:=11) (S:=fun w'=>w'.cell? ⟨TB,0,none⟩=some (.pointer (some ⟨PB,0,none⟩))∧w'.cell? ⟨PB,0,none⟩=some vs∧w'.cell? ⟨Bx,0,none⟩=some (.bool x.2.f0)∧w'.cell? ⟨Bx,1,none⟩=some (.int .i64 x.2.f1)) (ds:= [10]) #[false,false,false,false,false,false,false,false,false,false,false] (fun h=>by obtain⟨_,_,h⟩:=h;exact h) (by kernel_rfl) (by kernel_rfl) rfl rfl ⟨(aG HT.out 0).trans rfl,(aG H0.out 0).trans rfl,(aG HBxx.out 0).trans rfl,(aG HBxx.out 1).trans rfl⟩ (fun hHeld=>?_)
  refine take_ (i:=0) (N:=some 28) (v:=?_) (a':=?_) #[true,false,false,false,false,false,false,false,false,false,false] rfl rfl (by kernel_rfl) (fun _ _ _ h=>h) (Or.inl ⟨by rfl,?_⟩) hHeld ?_ ?_
  rotate_left
  ·rintro w' ⟨s0,s1,s2,s3⟩
   go_simp
   with_reducible rfl
  rotate_left
  ·simp only [pq]
   rfl
  refine take_ (i:=1) (N:=some 29) (v:=?_) (a':=?_) #[true,true,false,false,false,false,false,false,false,false,false] rfl rfl (by kernel_rfl) (fun _ _ _ h=>h) (Or.inl ⟨by rfl,?_⟩) hHeld ?_ ?_
  rotate_left
  ·rintro w' ⟨s0,s1,s2,s3⟩
   go_simp
   with_reducible rfl
  rotate_left
  ·simp only [pq]
   rfl
  refine pure_ (i:=2) (N:=some 30) (v:=?_) (a':=?_) #[true,true,true,false,false,false,false,false,false,false,false] rfl rfl (by kernel_rfl) (fun _ _ _ h=>h) (Or.inl ⟨by rfl,?_⟩) ?_ ?_
  rotate_left;(intro w';go_simp;with_reducible rfl);rotate_left;(simp only [pq];rfl)
  refine pure_ (i:=3) (N:=some 31) (v:=?_) (a':=?_) #[true,true,true,true,false,false,false,false,false,false,false] rfl rfl (by kernel_rfl) (fun _ _ _ h=>h) (Or.inl ⟨by rfl,?_⟩) ?_ ?_
  rotate_left;(intro w';go_simp;with_reducible rfl);rotate_left;(simp only [pq];rfl)
  refine take_ (i:=4) (N:=some 32) (v:=?_) (a':=?_) #[true,true,true,true,true,false,false,false,false,false,false] rfl rfl (by kernel_rfl) (fun _ _ _ h=>h) (Or.inl ⟨by rfl,?_⟩) hHeld ?_ ?_
  rotate_left
  ·rintro w' ⟨s0,s1,s2,s3⟩
   go_simp
   with_reducible rfl
  rotate_left
  ·simp only [pq]
   rfl
  refine take_ (i:=5) (N:=some 33) (v:=?_) (a':=?_) #[true,true,true,true,true,true,false,false,false,false,false] rfl rfl (by kernel_rfl) (fun _ _ _ h=>h) (Or.inl ⟨by rfl,?_⟩) hHeld ?_ ?_
  rotate_left
  ·rintro w' ⟨s0,s1,s2,s3⟩
   go_simp
   with_reducible rfl
  rotate_left
  ·simp only [pq]
   rfl
  refine one_ (i:=6) (N:=some 34) #[true,true,true,true,true,true,true,false,false,false,false] rfl rfl (by kernel_rfl) (by decide) (fun K hK=>?_)
  refine value_ (w1:=?_) (v:=?_) (by rfl) rfl ?_ ?_
  rotate_left 2
  ·go_simp
   constructor
   ·rfl
   ·rfl
  refine hK.out _ _ ⟨(aG (aI HT.out _) 0).trans rfl,(aG (aI H0.out _) 0).trans rfl,(aG (aI HBxx.out _) 0).trans rfl,(aG (aI HBxx.out _) 1).trans rfl⟩ (fun hHeld=>?_)
  clear hK K;refine norm_ (a':=?_) ?_ ?_
  rotate_left
  ·show Act.put _ (some 34) _=_
   simp only [pq];rfl
  refine one_ (i:=7) (N:=some 35) #[true,true,true,true,true,true,true,true,false,false,false] rfl rfl (by kernel_rfl) (by decide) (fun K hK=>?_)
  rw [show(Wx.alloc (.cells #[.bool x.2.f0,.int .i64 x.2.f1] 43)).drew=Wx.drew.alloc (.cells #[.bool x.2.f0,.int .i64 x.2.f1] 43) from rfl];refine Kd.R_append_step k43 (w0:=Wx.drew) w0.heap.size (by rfl) (.tmp 32) (.tmp 34) 29 43 (.agg #[.bool false,.int .i64 0]) 16 rfl Try.underlying29 info43 rfl (by decide) (by omega) vs _ x.2 [.bool x.2.f0,.int .i64 x.2.f1] (fun k=>¬((bad k∨k=TB∨k=SB)∨k=BS)) (fun _=>False) rfl rfl (k43_mkM _ _ _ x.2) (fun _ hk=>hk.elim) (fun k hk=>HBN4.out k (Nat.le_trans HSZx.out hk)) (aC H2.out) (Below.refl _ _) HBx.out.size (by have:=HR.out;have:=HST.out;have:=HLEN.out;simp only [List.length_reverse,List.length_append,List.length_map];omega) ?_
  intro v1 w5 ho hb hg hat;obtain⟨Aq,lq,cq,rfl⟩:∃An ln cn,v1= .slice An ln cn:=by obtain⟨An,cn,e⟩:=Kd.R_slice ho;exact⟨An,_,cn,e⟩
  have H05:=aM (blk_grown (aK H0.out) hg (Kd.R_ne H2.out H0.out (by decide)));have H35:=aM (Kd.R_over (aC H3.out) (aC H2.out) (by decide) hg);have RK:=aM ho;have HB5:Aside0 (Below w0.heap.size Wx w5):=⟨(aO (Below.refl _ Wx)).trans hb⟩;have HK5:Aside0 (Keeps (fun k=>(bad k∨k=TB∨k=SB)∨k=BS) Wx w5):=⟨(show Keeps _ Wx Wx.drew from Keeps.refl _ _).trans (Keeps.grown hg (fun k hk=>Kd.R_away H2.out (fun j hj e=>hj (e ▸ hk))))⟩;have HG5:Aside0 (KeepsOthers Wx w5):=⟨(KeepsOthers.drew Wx).trans (KeepsOthers.of_grownBy hg (fun j o hj ho'=>by obtain⟨cells,hc⟩:=Kd.R_typed H2.out j hj;rw [show Wx.drew.heap[j]?=Wx.heap[j]? from rfl,hc] at ho';cases ho';rfl))⟩;have HT5:=aM (blk_grown (aK HT.out) hg (Kd.R_away H2.out (fun k hk e=>hk (.inl (.inr (.inl e))))));have HBx5:=aM (blk_grown (aK HBxx.out) hg HNB.out);have f5:=aH H05.out 0;clear ho hb hg hat;refine hK.out _ _ ⟨(aG HT5.out 0).trans rfl,(aG H05.out 0).trans rfl,(aG HBx5.out 0).trans rfl,(aG HBx5.out 1).trans rfl⟩ (fun hHeld=>?_)
  clear hK K;refine norm_ (a':=?_) ?_ ?_
  rotate_left
  ·show Act.put _ (some 35) _=_
   simp only [pq];rfl
  refine pure_ (i:=8) (N:=some 36) (v:=?_) (a':=?_) #[true,true,true,true,true,true,true,true,true,false,false] rfl rfl (by kernel_rfl) (fun _ _ _ h=>h) (Or.inl ⟨by rfl,?_⟩) ?_ ?_
  rotate_left;(intro w';go_simp;with_reducible rfl);rotate_left;(simp only [pq];rfl)
  refine pure_ (i:=9) (N:=some 37) (v:=?_) (a':=?_) #[true,true,true,true,true,true,true,true,true,true,false] rfl rfl (by kernel_rfl) (fun _ _ _ h=>h) (Or.inl ⟨by rfl,?_⟩) ?_ ?_
  rotate_left;(intro w';go_simp;with_reducible rfl);rotate_left;(simp only [pq];rfl)
  refine last_ (i:=10) (N:=none) #[true,true,true,true,true,true,true,true,true,true,true] rfl rfl (by kernel_rfl) (by decide) (fun K hK=>?_)
  refine skip_ (w1:=?_) (by rfl) rfl ?_ ?_
  rotate_left
  ·go_simp
   rfl
  refine hK.out _ _ ?_
  clear hK K;refine done_ (by kernel_rfl) ?_
  have hBS:=HKp.out BS _ (.inr rfl) HBS4.out rfl
  have hst2:Kd.R k43 43 w5 w0.heap.size (fun k=>¬((bad k∨k=TB∨k=SB)∨k=BS)) (.slice Aq lq cq) (((pre++ [x]).map Prod.snd).reverse++st).reverse:=by
   have h:=RK.out;have e:(((pre++ [x]).map Prod.snd).reverse++st).reverse=(((pre.map Prod.snd).reverse++st).reverse)++ [x.2]:=by simp
   rw [e];exact h
  exact⟨(HG5.out.trans (KeepsOthers.setCell _ _ _)).from _,⟨HB5.out.setCell (p:=⟨PB,0,none⟩) H1x.out _,fun o ho=>by
   rw [hBS] at ho
   cases ho;exact(HK5.out.trans (Keeps.set (p:=⟨PB,0,none⟩) HPB4.out _)) BS _ (.inr rfl) hBS rfl⟩,⟨PS.stack H05.out H1x.out hst2 H35.out,HKp.out.trans (HK5.out.trans (Keeps.set (p:=⟨PB,0,none⟩) HPB4.out _))⟩,(HBx.out.trans HB5.out).setCell (p:=⟨PB,0,none⟩) H1x.out _,by have h1:=HSZx.out;have h2:=HG5.out.size;have h3:w5.heap.size≤(w5.setCell ⟨PB,0,none⟩ (.slice Aq lq cq)).heap.size:=(by simp [World.setCell]);omega⟩
 case done=>
  rintro D ys Wd hD hys ⟨⟨hP,hKp⟩,hB,hsz⟩ hK
  have hT:=hKp TB _ (.inl (.inr (.inl rfl))) HTB4.out rfl;obtain⟨vs,vt',h0,h1,h2,h3⟩:=hP;rw [hys,List.reverse_reverse] at h2;obtain⟨Av,cv,rfl⟩:=Kd.R_slice h2;obtain⟨Au,cu,rfl⟩:=Kd.R_slice h3;have t0:Wd.cell? ⟨TB,0,none⟩=some (.pointer (some ⟨PB,0,none⟩)):=(aG hT 0).trans rfl;have p0:=(aG h0 0);have p1:=(aG h0 1)
  have hrow:∀q,(some D:Option Nat)=some q→∃o:Obj,Wd.heap[q]?=some o∧o.isCells=false:=fun q e=>by
   injection e with e
   subst e;exact⟨_,hK,rfl⟩
  have HPd:=aM (PS.mono (PS.other ⟨_,_,h0,h1,h2,h3⟩ (grownBy_putObj' Wd D (.deferred none)) hrow) (fun k (hk:bad k)=> .inl (.inl hk)));have HBd:=aM (hB.trans (belowK_b (w:=w4) h4n Wd D _ (.deferred none) hD hK rfl rfl));have HKd:=aM (HK4.out.trans (Keeps.mono (Keeps.other hKp (grownBy_putObj' Wd D (.deferred none)) hrow) (fun k (hk:bad k)=> .inl (.inl hk))));have HD:=aM hK;have HZd:Aside0 (W.heap.size≤(Wd.putObj D (.deferred none)).heap.size):=⟨Nat.le_trans (Nat.le_trans HZ4.out hsz) (grownBy_putObj' Wd D (.deferred none)).size⟩;have HL1:Aside0 ((r++st).length=r.length+st.length):=⟨List.length_append⟩;have HL2:Aside0 ((sp++ [prod]).length=sp.length+1):=⟨by simp⟩;clear hK hrow hB hKp h0 h1 h2 h3 hT hsz hys hD;go_wp2
  ·show Q' .ret _ _
   rw [HQ'.out];refine⟨by simp,.inl ⟨_,_,rfl,run_takeDeferred HD.out,_,results_tmp rfl _ _ _,?_,HPd.out,HBd.out,HKd.out,HZd.out⟩⟩
   rename_i hl
   rw [HL1.out,decide_eq_true (by omega:r.length+st.length≤10000)];simp
   omega
  ·show Q' .ret _ _
   rw [HQ'.out];refine⟨by simp,.inl ⟨_,_,rfl,run_takeDeferred HD.out,_,results_tmp rfl _ _ _,?_,HPd.out,HBd.out,HKd.out,HZd.out⟩⟩
   rename_i hl
   rw [HL1.out,decide_eq_false (by omega:¬r.length+st.length≤10000)];rfl
 case stop=>
  rintro D c pre Wx _ _ h _
  exact h.elim
end Go.Proofs.Ytapjfnfengefpaa.P
end

section
namespace Go.Proofs.Ytapjfnfengefpaa.P
open Go.RowKit Go.Proofs.YtapjfnfengefpaaW.PrintWords Go.Proofs.YtapjfnfengefpaaW.PrintLast Go.Proofs.YtapjfnfengefpaaW.PrintMore
set_option linter.unusedVariables false
set_option linter.unusedSimpArgs false
def mEnt (tb:List (List Int)) (x look:Int):Int:=(tb.getD x.toNat []).getD look.toNat 0
def mFeed (nt:Nat) (ps:List S35) (tb:List (List Int)) (look:Int):Nat→List S43→List Int→Option (Int×List S43×List Int)
 |0,_,_=>none
 |k+1,[],sp=>some (if look<(nt:Int) then 80 else 0,[],sp)
 |k+1,x::st,sp=>
  if x.f0=true∧x.f1=look then some (0,st,sp)
  else if x.f0=true∨mEnt tb x.f1 look<0 then some (80,st,sp)
  else if decide (((rd_T35 ps (mEnt tb x.f1 look)).f1++st).length≤10000) && decide ((sp++ [mEnt tb x.f1 look]).length≤10000) then mFeed nt ps tb look k ((rd_T35 ps (mEnt tb x.f1 look)).f1++st) (sp++ [mEnt tb x.f1 look])
  else some (2,(rd_T35 ps (mEnt tb x.f1 look)).f1++st,[])
def TabOk (nn nt:Nat) (ps:List S35) (tb:List (List Int)):Prop:=tb.length=nn∧∀i,i<tb.length→(tb.getD i []).length=nt+1∧∀q∈tb.getD i [],q<(ps.length:Int)
theorem rowsOk_spec {nt:Nat}{ps:List S35}:∀(tb:List (List Int)) (r:Nat),rowsOk nt ps r tb=true→∀i,i<tb.length→(tb.getD i []).length=nt+1∧∀q∈tb.getD i [],okEnt ps ((r+i:Nat):Int) q=true
 | [],_,_,i,h=>by simp at h
 |row::tb,r,h,i,hi=>by
  simp only [rowsOk,Bool.and_eq_true,decide_eq_true_eq] at h;obtain⟨⟨h1,h2⟩,h3⟩:=h
  cases i with
  |zero=>exact⟨by simpa using h1,fun q hq=>by rw [Nat.add_zero];exact List.all_eq_true.1 h2 q (by simpa using hq)⟩
  |succ i=>
   have:=rowsOk_spec tb (r+1) h3 i (by simp at hi;omega);rw [show r+1+i=r+(i+1) by omega] at this
   simpa using this
theorem tbRight_tab {nn nt:Nat}{ps:List S35}{tb:List (List Int)}(h:tbRight nn nt ps tb=true):TabOk nn nt ps tb:=by
 simp only [tbRight,Bool.and_eq_true,decide_eq_true_eq] at h;obtain⟨_,_,h1,h2⟩:=h;refine⟨h1,fun i hi=>?_⟩
 obtain⟨h3,h4⟩:=rowsOk_spec tb 0 h2 i hi;refine⟨h3,fun q hq=>?_⟩
 have h5:=h4 q hq;simp only [okEnt,Bool.and_eq_true,decide_eq_true_eq] at h5;exact h5.1.2
theorem tbRight_prods {nn nt:Nat}{ps:List S35}{tb:List (List Int)}(h:tbRight nn nt ps tb=true):ps.all (okProd nn nt)=true:=by
 simp only [tbRight,Bool.and_eq_true] at h;exact h.1
set_option maxHeartbeats 4000000 in
set_option maxRecDepth 100000 in
theorem feed_any (bad:Nat→Prop) (bM:Option Addr) (bO:Nat) (aU:List ByteArray) (bQ:Option Addr) (bR:Nat) (aX:List (S72)) (bA:Int) (bB:Int) (bV:Option Addr) (bS:Nat) (aQ:List (S35)) (A1:Option Addr) (c1:Nat) (tb:List (List Int)) (look:Int) (st:List S43) (sp:List Int) (PB:Nat) (w0 W:World) (k:Nat) (R:Int×List S43×List Int)
 (hPS:PS bad W w0.heap.size PB st sp) (hbad:∀k,bad k→k<W.heap.size) (hPB:¬bad PB) (hw:Below w0.heap.size w0 W) (hr4:Kd.C k35 w0 bV aQ.length aQ) (ht:Kd.C (Kd.slice 3 (Kd.int .i64)) w0 A1 tb.length tb)
 (hps:aQ.all (okProd aU.length aX.length)=true) (htab:TabOk aU.length aX.length aQ tb) (hst:st.all (okSym aU.length aX.length)=true) (h0:0≤look) (h1:look≤(aX.length:Int)) (hsz:∀p∈aQ,p.f1.length≤1000000) (hl:st.length≤10000) (hs:sp.length≤10000)
 (h:mFeed aX.length aQ tb look k st sp=some R):
 Calls Try.prog 38 #[.pointer (some ⟨PB,0,none⟩),.agg #[.slice bM aU.length bO,.slice bQ aX.length bR,.int .i64 bA,.int .i64 bB,.slice bV aQ.length bS],.slice A1 tb.length c1,.int .i64 look] W fun e w'=>
  e= .returned (.int .i64 R.1)∧PS bad w' w0.heap.size PB R.2.1 R.2.2∧Below w0.heap.size w0 w'∧Keeps bad W w':=by
 have HR4:=aM hr4;have HT:=aM ht;have HPS:=aM hps;have HTAB:=aM htab;have HLK:=aM (And.intro h0 h1);have HSZ:=aM hsz;have HP1:Aside0 (PS (fun k=>bad k∨k=W.heap.size) (W.alloc (.cells #[.slice bM aU.length bO,.slice bQ aX.length bR,.int .i64 bA,.int .i64 bB,.slice bV aQ.length bS] 26)) w0.heap.size PB st sp):=⟨(PS.mono hPS.bound (fun k hk=>hk.imp id (fun e=>by omega))).alloc _⟩;have HB1:Aside0 (Below w0.heap.size w0 (W.alloc (.cells #[.slice bM aU.length bO,.slice bQ aX.length bR,.int .i64 bA,.int .i64 bB,.slice bV aQ.length bS] 26))):=⟨hw.trans ((aN (Below.refl _ W) _).mono hw.size)⟩;have HSB:Aside0 ((W.alloc (.cells #[.slice bM aU.length bO,.slice bQ aX.length bR,.int .i64 bA,.int .i64 bB,.slice bV aQ.length bS] 26)).heap[W.heap.size]?=some (.cells #[.slice bM aU.length bO,.slice bQ aX.length bR,.int .i64 bA,.int .i64 bB,.slice bV aQ.length bS] 26 (0,0))):=⟨heap_alloc_new W _⟩;have HPBN:Aside0 (¬(bad PB∨PB=W.heap.size)):=⟨by obtain⟨_,_,hb,_⟩:=hPS;have:=bN hb;rintro(h|h);exact hPB h;omega⟩;have HKW:Aside0 (Keeps bad W (W.alloc (.cells #[.slice bM aU.length bO,.slice bQ aX.length bR,.int .i64 bA,.int .i64 bB,.slice bV aQ.length bS] 26))):=⟨Keeps.below (aN (Below.refl _ W) _)⟩;have HBAD:=aM hbad;have HALL:=aM hst;have HL:=aM (And.intro hl hs);have HF:=aM h;clear hPS hbad hPB hw hr4 ht hps htab hst h0 h1 hsz hl hs h;go_enter Try.func38,Try.ntmps38
 go_wp2
 generalize W.alloc (.cells #[.slice bM aU.length bO,.slice bQ aX.length bR,.int .i64 bA,.int .i64 bB,.slice bV aQ.length bS] 26)=w1 at HP1 HB1 HSB HKW ⊢;have HSBW:Aside0 (∀k,bad k∨k=W.heap.size→k<w1.heap.size):=⟨fun k hk=>by have:=bN HSB.out;rcases hk with h|h;have:=HBAD.out k h;omega;omega⟩
 generalize W.heap.size=SB at HP1 HSB HPBN HSBW ⊢
 go_loopg [9] k (fun kq v9 wr=>∃(st:List S43) (sp:List Int),Aside0 (mFeed aX.length aQ tb look kq st sp=some R)∧Aside0 (PS (fun k=>bad k∨k=SB) wr w0.heap.size PB st sp)∧Aside0 (Keeps (fun k=>bad k∨k=SB) w1 wr)∧Aside0 (Below w0.heap.size w0 wr∧w1.heap.size≤wr.heap.size)∧Aside0 (st.all (okSym aU.length aX.length)=true)∧Aside0 (st.length≤10000∧sp.length≤10000))
 case atStart=>exact⟨st,sp,HF,HP1,⟨Keeps.refl _ _⟩,⟨HB1.out,Nat.le_refl _⟩,HALL,HL⟩
 case round=>
  clear HF HP1 HB1 HALL HL;obtain⟨st,sp,HF,HP,HK,HBZ,HALL,HL⟩:=hrel;have HB:=aM HBZ.out.1;have HW1r:=aM HBZ.out.2;clear HBZ
  cases gk with
  |zero=>exact absurd HF.out (by simp [mFeed])
  |succ gk=>
   obtain⟨vs,vt,g0,g1,g2,g3⟩:=HP.out;obtain⟨Av,cv,rfl⟩:=Kd.R_slice g2;obtain⟨Au,cu,rfl⟩:=Kd.R_slice g3
   cases st with
   |nil=>
    have p0:wr.cell? ⟨PB,0,none⟩=some (.slice Av 0 cv):=(aG g0 0).trans rfl;have hS:=HK.out SB _ (.inr rfl) HSB.out rfl;have q1:wr.cell? ⟨SB,1,none⟩=some (.slice bQ aX.length bR):=(aG hS 1).trans rfl;have hf:=HF.out;rw [mFeed] at hf;have HF2:=aM (Option.some.inj hf).symm;clear hf hS g0 g1 g2 g3 HF
    by_cases hlk:look<(aX.length:Int)
    ·have d1:decide (look<(aX.length:Int))=true:=decide_eq_true hlk
     have HQ:=aM (if_pos hlk:(if look<(aX.length:Int) then(80:Int) else 0)=80);clear d1;go_wp2
     go_ret
     exact⟨by rw [HF2.out,HQ.out];rfl,by rw [HF2.out];exact PS.mono HP.out (fun _ h=> .inl h),HB.out,HKW.out.trans (Keeps.mono HK.out (fun _ h=> .inl h))⟩
    ·have HQ:=aM (if_neg hlk:(if look<(aX.length:Int) then(80:Int) else 0)=0)
     go_wp2
     go_ret
     exact⟨by rw [HF2.out,HQ.out];rfl,by rw [HF2.out];exact PS.mono HP.out (fun _ h=> .inl h),HB.out,HKW.out.trans (Keeps.mono HK.out (fun _ h=> .inl h))⟩
   |cons x st=>
    have p0:wr.cell? ⟨PB,0,none⟩=some (.slice Av (x::st).reverse.length cv):=(aG g0 0).trans rfl;have hlen:(x::st).reverse.length=st.length+1:=by simp
    rw [hlen] at p0;have PP:=aM (pop_any (fun k=>bad k∨k=SB) x st sp w0.heap.size PB wr HP.out (by have:=HL.out.1;simp only [List.length_cons] at this;omega));have H1:=aM g1;obtain⟨n,hn⟩:∃n,n=st.length:=⟨_,rfl⟩;rw [←hn] at p0;have hn0:decide ((0:Int)<(n:Int)+1)=true:=decide_eq_true (by omega);clear g0 g1 g2 g3 hlen HP hn
    go_upto_region 3 with(first|(go_at_call 52;(with_reducible refine PP.out.mono ?_);rintro e w2 ⟨rfl,hp2,hk2,hb2⟩;have HP2:=aM hp2;have HK2:Aside0 (Keeps (fun k=>bad k∨k=SB) w1 w2):=⟨HK.out.trans (Keeps.kept hk2 (fun k hk e=>HPBN.out (by rw [←e];exact hk)))⟩;have HB2:=aM (hb2 _ _ H1.out HB.out);have HW12:Aside0 (w1.heap.size≤w2.heap.size):=⟨Nat.le_trans HW1r.out hk2.1⟩;clear hp2 hk2 hb2 PP))
    have HXB:Aside0 ((w2.alloc (.cells #[.bool x.f0,.int .i64 x.f1] 43)).heap[w2.heap.size]?=some (.cells #[.bool x.f0,.int .i64 x.f1] 43 (0,0))):=⟨heap_alloc_new w2 _⟩;have HP3:=aM (HP2.out.alloc (.cells #[.bool x.f0,.int .i64 x.f1] 43));have HK3:Aside0 (Keeps (fun k=>bad k∨k=SB) w1 (w2.alloc (.cells #[.bool x.f0,.int .i64 x.f1] 43))):=⟨HK2.out.trans (Keeps.below (aN (Below.refl _ w2) _))⟩;have HB3:Aside0 (Below w0.heap.size w0 (w2.alloc (.cells #[.bool x.f0,.int .i64 x.f1] 43))):=⟨HB2.out.trans ((aN (Below.refl _ w2) _).mono HB2.out.size)⟩;have HW13:Aside0 (w1.heap.size≤(w2.alloc (.cells #[.bool x.f0,.int .i64 x.f1] 43)).heap.size):=⟨by rw [World.size_alloc];have:=HW12.out;omega⟩;generalize w2.alloc (.cells #[.bool x.f0,.int .i64 x.f1] 43)=w3 at HXB HP3 HK3 HB3 HW13 ⊢;generalize w2.heap.size=XB at HXB ⊢;have x0:w3.cell? ⟨XB,0,none⟩=some (.bool x.f0):=(aG HXB.out 0).trans rfl;have x1:w3.cell? ⟨XB,1,none⟩=some (.int .i64 x.f1):=(aG HXB.out 1).trans rfl;clear p0 hn0 HP2 HK2 HB2 HK HB;have hf:=HF.out;rw [mFeed] at hf;have hxok:=List.all_eq_true.1 HALL.out x List.mem_cons_self;have HALL2:Aside0 (st.all (okSym aU.length aX.length)=true):=⟨by have:=HALL.out;rw [List.all_cons,Bool.and_eq_true] at this;exact this.2⟩;have HL2:Aside0 (st.length+1≤10000∧sp.length≤10000):=⟨by have:=HL.out;simpa using this⟩;obtain⟨xf,xn⟩:=x;simp only at x0 x1 hf hxok;have HXOK:=aM hxok
    cases xf with
    |true=>
     by_cases hxl:xn=look
     ·rw [if_pos ⟨rfl,hxl⟩] at hf
      have HF2:=aM (Option.some.inj hf).symm;subst hxl;clear hf hxok HF HALL HL;go_wp2
      go_ret
      exact⟨by rw [HF2.out];rfl,by rw [HF2.out];exact PS.mono HP3.out (fun _ h=> .inl h),HB3.out,HKW.out.trans (Keeps.mono HK3.out (fun _ h=> .inl h))⟩
     ·rw [if_neg (fun h=>hxl h.2),if_pos (.inl rfl)] at hf
      have HF2:=aM (Option.some.inj hf).symm;have y1:(xn==look)=false:=by simp [hxl]
      have y2:decide (xn=look)=false:=decide_eq_false hxl;clear hf hxok HF HALL HL;go_wp2
      go_ret
      exact⟨by rw [HF2.out];rfl,by rw [HF2.out];exact PS.mono HP3.out (fun _ h=> .inl h),HB3.out,HKW.out.trans (Keeps.mono HK3.out (fun _ h=> .inl h))⟩
    |false=>
     rw [if_neg (fun h=>by cases h.1)] at hf;obtain⟨hx0,hx1⟩:0≤xn∧xn<(aU.length:Int):=by simpa [okSym] using hxok
     have htl:=HTAB.out.1;obtain⟨hrl,hrq⟩:=HTAB.out.2 xn.toNat (by omega);obtain⟨adt,A9,c9,eat,ht0,_,hC9⟩:=at_rowi (bD HT.out HB3.out) xn hx0 (by omega);obtain⟨adr,ear,hr0⟩:=Kd.at_int hC9 look HLK.out.1 (by have:=HLK.out.2;omega);rw [show rd (tb.getD xn.toNat []) look=mEnt tb xn look from rfl] at hr0
     have hrm:mEnt tb xn look<(aQ.length:Int):=hrq _ (by
      unfold mEnt
      generalize tb.getD xn.toNat []=row at hrl ⊢;rw [List.getD_eq_getElem?_getD,List.getElem?_eq_getElem (by have:=HLK.out;omega)];exact List.getElem_mem _)
     generalize mEnt tb xn look=q at hf hr0 hrm;obtain⟨n9,hn9⟩:∃n9,n9=(tb.getD xn.toNat []).length:=⟨_,rfl⟩;rw [←hn9] at ht0 hrl;subst eat;subst ear;have b4:(0≤xn)=True:=eq_true hx0;have b5:(xn<(tb.length:Int))=True:=eq_true (by omega);have b6:(0≤look)=True:=eq_true HLK.out.1;have b7:(look<(n9:Int))=True:=eq_true (by have:=HLK.out.2;omega);have HT0:=aM ht0;have HR0:=aM hr0;have HRM:=aM hrm
     by_cases hq:q<0
     ·rw [if_pos (.inr hq)] at hf
      have HF2:=aM (Option.some.inj hf).symm;have y1:decide (q<0)=true:=decide_eq_true hq;clear hf hxok HF HALL HL hrm hn9 hrl hrq htl hx0 hx1 hC9 hq;go_wp2
      go_ret
      exact⟨by rw [HF2.out];rfl,by rw [HF2.out];exact PS.mono HP3.out (fun _ h=> .inl h),HB3.out,HKW.out.trans (Keeps.mono HK3.out (fun _ h=> .inl h))⟩
     ·rw [if_neg (fun h=>by rcases h with h|h;cases h;exact hq h)] at hf
      have y1:decide (q<0)=false:=decide_eq_false hq;have HF2:=aM hf;have HQ:=aM (by omega:0≤q);clear hf hxok HF HALL HL hrm hn9 hrl hrq htl hx0 hx1 hC9 hq
      go_upto_region 7 with fail
      have HSX:=aM (HK3.out SB _ (.inr rfl) HSB.out rfl);have X1:=aM x1
      have hpl:(rd_T35 aQ q).f1.length≤1000000∧okProd aU.length aX.length (rd_T35 aQ q)=true:=by
       have hm:rd_T35 aQ q∈aQ:=by
        rw [rd_T35,List.getD_eq_getElem?_getD,List.getElem?_eq_getElem (by have:=HQ.out;have:=HRM.out;omega)];exact List.getElem_mem _
       exact⟨HSZ.out _ hm,List.all_eq_true.1 HPS.out _ hm⟩
      have PE:=aM (expand_any (fun k=>bad k∨k=SB) bM bO aU bQ bR aX bA bB bV bS aQ q st sp PB w0 w3.drew HP3.out.drew (aO HB3.out) (fun k hk=>Nat.lt_of_lt_of_le (HSBW.out k hk) (by have:=HW13.out;exact this)) HPBN.out HR4.out HQ.out HRM.out hpl.1 (by have:=HL2.out;omega) (by have:=HL2.out;omega));have HPL:=aM hpl;generalize hbb:(decide (((rd_T35 aQ q).f1++st).length≤10000) && decide ((sp++ [q]).length≤10000))=tt at HF2 PE;have HBB:=aM hbb;clear hbb x0 x1 hpl;refine start_ (n:=12) (S:=fun w'=>w'.cell? ⟨SB,0,none⟩=some (.slice bM aU.length bO)∧w'.cell? ⟨SB,1,none⟩=some (.slice bQ aX.length bR)∧w'.cell? ⟨SB,2,none⟩=some (.int .i64 bA)∧w'.cell? ⟨SB,3,none⟩=some (.int .i64 bB)∧w'.cell? ⟨SB,4,none⟩=some (.slice bV aQ.length bS)∧w'.cell? ⟨XB,1,none⟩=some (.int .i64 xn)∧w'.cell? (adt.add xn.toNat)=some (.slice (some adr) n9 c9)∧w'.cell? (adr.add look.toNat)=some (.int .i64 q)) (ds:= [10]) #[F,F,F,F,F,F,F,F,F,F,F,F] (by kernel_rfl) rfl rfl ⟨(aG HSX.out 0).trans rfl,(aG HSX.out 1).trans rfl,(aG HSX.out 2).trans rfl,(aG HSX.out 3).trans rfl,(aG HSX.out 4).trans rfl,X1.out,HT0.out,HR0.out⟩ (fun hHeld=>?_)
      refine pure_ (i:=0) (N:=some 35) (v:=?_) (a':=?_) #[T,F,F,F,F,F,F,F,F,F,F,F] rfl rfl (by kernel_rfl) (fun _ _ _ h=>h) (Or.inl ⟨by rfl,?_⟩) ?_ ?_
      rotate_left;(intro w';go_simp;with_reducible rfl);rotate_left;(simp only [pq];rfl)
      refine pure_ (i:=2) (N:=some 37) (v:=?_) (a':=?_) #[T,F,T,F,F,F,F,F,F,F,F,F] rfl rfl (by kernel_rfl) (fun _ _ _ h=>h) (Or.inl ⟨by rfl,?_⟩) ?_ ?_
      rotate_left;(intro w';go_simp;with_reducible rfl);rotate_left;(simp only [pq];rfl)
      refine pure_ (i:=3) (N:=some 38) (v:=?_) (a':=?_) #[T,F,T,T,F,F,F,F,F,F,F,F] rfl rfl (by kernel_rfl) (fun _ _ _ h=>h) (Or.inl ⟨by rfl,?_⟩) ?_ ?_
      rotate_left;(intro w';go_simp;with_reducible rfl);rotate_left;(simp only [pq];rfl)
      refine pure_ (i:=7) (N:=some 42) (v:=?_) (a':=?_) #[T,F,T,T,F,F,F,T,F,F,F,F] rfl rfl (by kernel_rfl) (fun _ _ _ h=>h) (Or.inl ⟨by rfl,?_⟩) ?_ ?_
      rotate_left;(intro w';go_simp;with_reducible rfl);rotate_left;(simp only [pq];rfl)
      refine take_ (i:=1) (N:=some 36) (v:=?_) (a':=?_) #[T,T,T,T,F,F,F,T,F,F,F,F] rfl rfl (by kernel_rfl) (fun _ _ _ h=>h) (Or.inl ⟨by rfl,?_⟩) hHeld ?_ ?_
      rotate_left
      ·rintro w' ⟨s0,s1,s2,s3,s4,s5,s6,s7⟩
       go_simp
       with_reducible rfl
      rotate_left
      ·simp only [pq]
       rfl
      refine take_ (i:=4) (N:=some 39) (v:=?_) (a':=?_) #[T,T,T,T,T,F,F,T,F,F,F,F] rfl rfl (by kernel_rfl) (fun _ _ _ h=>h) (Or.inl ⟨by rfl,?_⟩) hHeld ?_ ?_
      rotate_left
      ·rintro w' ⟨s0,s1,s2,s3,s4,s5,s6,s7⟩
       go_simp
       with_reducible rfl
      rotate_left
      ·simp only [pq]
       rfl
      refine pure_ (i:=5) (N:=some 40) (v:=?_) (a':=?_) #[T,T,T,T,T,T,F,T,F,F,F,F] rfl rfl (by kernel_rfl) (fun _ _ _ h=>h) (Or.inl ⟨by rfl,?_⟩) ?_ ?_
      rotate_left;(intro w';go_simp;with_reducible rfl);rotate_left;(simp only [pq];rfl)
      refine take_ (i:=6) (N:=some 41) (v:=?_) (a':=?_) #[T,T,T,T,T,T,T,T,F,F,F,F] rfl rfl (by kernel_rfl) (fun _ _ _ h=>h) (Or.inl ⟨by rfl,?_⟩) hHeld ?_ ?_
      rotate_left
      ·rintro w' ⟨s0,s1,s2,s3,s4,s5,s6,s7⟩
       go_simp
       with_reducible rfl
      rotate_left
      ·simp only [pq]
       rfl
      refine pure_ (i:=8) (N:=some 43) (v:=?_) (a':=?_) #[T,T,T,T,T,T,T,T,T,F,F,F] rfl rfl (by kernel_rfl) (fun _ _ _ h=>h) (Or.inl ⟨by rfl,?_⟩) ?_ ?_
      rotate_left;(intro w';go_simp;with_reducible rfl);rotate_left;(simp only [pq];rfl)
      refine take_ (i:=9) (N:=some 44) (v:=?_) (a':=?_) #[T,T,T,T,T,T,T,T,T,T,F,F] rfl rfl (by kernel_rfl) (fun _ _ _ h=>h) (Or.inl ⟨by rfl,?_⟩) hHeld ?_ ?_
      rotate_left
      ·rintro w' ⟨s0,s1,s2,s3,s4,s5,s6,s7⟩
       go_simp
       with_reducible rfl
      rotate_left
      ·simp only [pq]
       rfl
      refine last_ (i:=10) (N:=some 45) #[T,T,T,T,T,T,T,T,T,T,T,F] rfl rfl (by kernel_rfl) (by decide) (fun K hK=>?_)
      refine goes_ Try.func53 (by kernel_rfl) rfl #[.pointer (some ⟨PB,0,none⟩),.agg #[.slice bM aU.length bO,.slice bQ aX.length bR,.int .i64 bA,.int .i64 bB,.slice bV aQ.length bS],.int .i64 q] (by rfl) rfl rfl (by simp only [List.map_toArray,List.map_cons,List.map_nil];rfl) ?_
      with_reducible refine(PE.out).mono ?_
      rintro e w4 ⟨rfl,hp4,hb4,hk4,hz4⟩
      refine⟨_,rfl,?_⟩
      have HP4:=aM hp4;have HB4:=aM hb4;have HW14:Aside0 (w1.heap.size≤w4.heap.size):=⟨Nat.le_trans HW13.out hz4⟩;have HK4:Aside0 (Keeps (fun k=>bad k∨k=SB) w1 w4):=⟨(show Keeps _ w1 w3.drew from HK3.out).trans hk4⟩;clear hp4 hb4 hk4 hz4;refine hK.out _ _ ?_
      clear hK K;refine norm_ (a':=?_) ?_ ?_
      rotate_left
      ·show Act.put _ (some 45) _=_
       simp only [pq];rfl
      refine pure_ (i:=11) (N:=some 46) (v:=?_) (a':=?_) #[T,T,T,T,T,T,T,T,T,T,T,T] rfl rfl (by kernel_rfl) (fun _ _ _ h=>h) (Or.inl ⟨by rfl,?_⟩) ?_ ?_
      rotate_left;(intro w';go_simp;with_reducible rfl);rotate_left;(simp only [pq];rfl)
      refine done_ (by kernel_rfl) ?_
      have HALL3:Aside0 (((rd_T35 aQ q).f1++st).all (okSym aU.length aX.length)=true):=⟨by
       rw [List.all_append,Bool.and_eq_true];refine⟨?_,HALL2.out⟩
       have:=HPL.out.2;simp only [okProd,Bool.and_eq_true] at this;exact this.2⟩
      generalize (rd_T35 aQ q).f1=pr at HF2 HP4 HALL3 HBB;clear b4 b5 b6 b7
      cases tt with
      |true=>
       have HL3:Aside0 ((pr++st).length≤10000∧(sp++ [q]).length≤10000):=⟨by have:=HBB.out;simpa only [Bool.and_eq_true,decide_eq_true_eq] using this⟩;have HF3:Aside0 (mFeed aX.length aQ tb look gk (pr++st) (sp++ [q])=some R):=⟨by have:=HF2.out;rwa [if_pos rfl] at this⟩;clear HF2 HBB;go_wp2
       go_roundg gk
       case measure=>omega
       case rel=>exact⟨pr++st,sp++ [q],HF3,HP4,HK4,⟨HB4.out,HW14.out⟩,HALL3,HL3⟩
      |false=>
       have HF3:Aside0 (R=(2,pr++st,[])):=⟨by have:=HF2.out;rw [if_neg (by simp)] at this;exact(Option.some.inj this).symm⟩;obtain⟨vs4,vt4,g0,g1,g2,g3⟩:=HP4.out;obtain⟨Au4,cu4,rfl⟩:=Kd.R_slice g3;have p1:=aG g0 1;have f1:=aH g0 1;have G0:=aM g0;have G1:=aM g1;have G2:=aM g2;clear HF2 HBB g0 g1 g2 g3;go_wp2
       go_ret
       exact⟨by rw [HF3.out];rfl,by rw [HF3.out];exact PS.mono (PS.steps G0.out G1.out G2.out (Kd.R_nil _ _ _ _ _)) (fun _ h=> .inl h),HB4.out.setCell (p:=⟨PB,1,none⟩) G1.out _,HKW.out.trans ((Keeps.mono HK4.out (fun _ h=> .inl h)).trans (Keeps.set (p:=⟨PB,1,none⟩) (fun h=>HPBN.out (.inl h)) _))⟩
def mOut:Option (Int×List S43×List Int)→List S43×Bool×List Int×Int
 |none=>([],true,[],2)
 |some (e,st,sp)=>if e=0 then(st.reverse,false,sp,0) else([],true,sp,e)
def mFeedAll (nn nt:Nat) (ps:List S35) (tb:List (List Int)) (stack:List S43) (dead:Bool) (look:Int):List S43×Bool×List Int×Int:=
 if tbRight nn nt ps tb=true∧stAwaits nn nt stack=true∧0≤look∧look≤(nt:Int) then
  if dead=true then([],true,[],80) else mOut (mFeed nt ps tb look 10002 stack.reverse [])
 else([],true,[],1)
theorem mFeed_some {nt:Nat}{ps:List S35}{tb:List (List Int)}{look:Int}:∀(k:Nat) (st:List S43) (sp:List Int),10001≤k+sp.length→sp.length≤10000→∃R,mFeed nt ps tb look k st sp=some R
 |0,_,_,h,h'=>by omega
 |k+1,[],sp,_,_=>⟨_,rfl⟩
 |k+1,x::st,sp,h,_=>by
  rw [mFeed]
  split
  ·exact⟨_,rfl⟩
  ·split
   ·exact⟨_,rfl⟩
   ·split
    ·rename_i hc
     simp only [Bool.and_eq_true,decide_eq_true_eq] at hc;exact mFeed_some k _ _ (by simp only [List.length_append,List.length_singleton];omega) hc.2
    ·exact⟨_,rfl⟩
def machine_Feed.f (aU:List ByteArray) (aX:List (S72)) (bA:Int) (bB:Int) (aQ:List (S35)) (l1:List (List Int)) (eC:List (S43)) (gV:Bool) (a3:Int):Option (List (S43)×Bool×List Int×Int):=
 if aX.length≤1000000000∧l1.length≤1000000000∧aQ.length≤1000000000∧aQ.all (fun p=>decide (p.f1.length≤1000000))=true∧l1.all (fun p=>decide (p.length≤9223372036854775807))=true then some (mFeedAll aU.length aX.length aQ l1 eC gV a3) else none
set_option maxHeartbeats 4000000 in
set_option maxRecDepth 100000 in
theorem machine_Feed.calls (bM:Option Addr) (bO:Nat) (aU:List ByteArray) (bQ:Option Addr) (bR:Nat) (aX:List (S72)) (bA:Int) (bB:Int) (bV:Option Addr) (bS:Nat) (aQ:List (S35)) (A1:Option Addr) (c1:Nat) (l1:List (List Int)) (jD:Option Addr) (jE:Nat) (eC:List (S43)) (gV:Bool) (a3:Int) (r1:List (S43)) (r2:Bool) (r3:List Int) (r4:Int) (w:World)
 (dX:Kd.C Kd.string w bM aU.length aU) (eE:aU.length≤bO) (eF:Kd.C k72 w bQ aX.length aX) (eG:aX.length≤bR) (dZ:Kd.C k35 w bV aQ.length aQ) (eM:aQ.length≤bS) (hr1:Kd.C (Kd.slice 3 (Kd.int .i64)) w A1 l1.length l1) (hc1:l1.length≤c1) (Hs:Kd.C k43 w jD eC.length eC) (Ht:eC.length≤jE)
 (h:machine_Feed.f aU aX bA bB aQ l1 eC gV a3=some (r1,r2,r3,r4)):
 Calls Try.prog 23 #[.agg #[.slice bM aU.length bO,.slice bQ aX.length bR,.int .i64 bA,.int .i64 bB,.slice bV aQ.length bS],.slice A1 l1.length c1,.agg #[.slice jD eC.length jE,.bool gV],.int .i64 a3] w fun e w'=>∃v0_ v1_:Value,e= .returned (.tuple #[.agg #[v0_,.bool r2],v1_,.int .i64 r4])∧Kd.R k43 43 w' w.heap.size (fun _=>True) v0_ r1∧Kd.R (Kd.int .i64) 3 w' w.heap.size (fun _=>True) v1_ r3∧Below w.heap.size w w':=by
 unfold machine_Feed.f at h
 split at h
 case isFalse=>simp at h
 rename_i hbig
 obtain⟨hb1,hb2,hb3,hb4,hb5⟩:=hbig;have he:=Option.some.inj h;clear h
 have hmr:machine_Right.f aU aX bA bB aQ l1=some (tbRight aU.length aX.length aQ l1):=by
  unfold machine_Right.f
  rw [if_pos ⟨hb1,hb2,hb3,List.all_eq_true.2 (fun p hp=>decide_eq_true (by have:=of_decide_eq_true (List.all_eq_true.1 hb4 p hp);omega)),hb5⟩]
 have hp1:∀p∈aQ,p.f1.length≤1000000:=fun p hp=>of_decide_eq_true (List.all_eq_true.1 hb4 p hp)
 have HE:=aM he;have HP1:=aM hp1;have HMR:=aM hmr;have HBIG:=aM hb1;have H00:=aM (And.intro dX eE);have H01:=aM (And.intro eF eG);have H04:=aM (And.intro dZ eM);have H1:=aM (And.intro hr1 hc1);have H2:=aM (And.intro Hs Ht);clear he hp1 hmr hb1 hb2 hb3 hb4 hb5 dX eE eF eG dZ eM hr1 hc1 Hs Ht;go_enter Try.func23,Try.ntmps23
 go_upto_region 1 with fail
 have HW1:Aside0 (Below w.heap.size w (((w.alloc (.cells #[.slice bM aU.length bO,.slice bQ aX.length bR,.int .i64 bA,.int .i64 bB,.slice bV aQ.length bS] 26)).alloc (.cells #[.slice jD eC.length jE,.bool gV] 31)).alloc (.cells #[.slice none 0 0,.bool false] 31))):=⟨(((Below.refl _ w).alloc (Nat.le_refl _) _).alloc (by simp) _).alloc (by simp;omega) _⟩;have HS1:Aside0 ((((w.alloc (.cells #[.slice bM aU.length bO,.slice bQ aX.length bR,.int .i64 bA,.int .i64 bB,.slice bV aQ.length bS] 26)).alloc (.cells #[.slice jD eC.length jE,.bool gV] 31)).alloc (.cells #[.slice none 0 0,.bool false] 31)).heap[w.heap.size]?=some (.cells #[.slice bM aU.length bO,.slice bQ aX.length bR,.int .i64 bA,.int .i64 bB,.slice bV aQ.length bS] 26 (0,0))):=⟨aI (aI (blk_new _ _) _) _⟩;have HM1:Aside0 ((((w.alloc (.cells #[.slice bM aU.length bO,.slice bQ aX.length bR,.int .i64 bA,.int .i64 bB,.slice bV aQ.length bS] 26)).alloc (.cells #[.slice jD eC.length jE,.bool gV] 31)).alloc (.cells #[.slice none 0 0,.bool false] 31)).heap[w.heap.size+1]?=some (.cells #[.slice jD eC.length jE,.bool gV] 31 (0,0))):=⟨by have h:=aI (blk_new (w.alloc (.cells #[.slice bM aU.length bO,.slice bQ aX.length bR,.int .i64 bA,.int .i64 bB,.slice bV aQ.length bS] 26)) (.cells #[.slice jD eC.length jE,.bool gV] 31)) (.cells #[.slice none 0 0,.bool false] 31);rw [World.size_alloc] at h;exact h⟩;have HR1:Aside0 ((((w.alloc (.cells #[.slice bM aU.length bO,.slice bQ aX.length bR,.int .i64 bA,.int .i64 bB,.slice bV aQ.length bS] 26)).alloc (.cells #[.slice jD eC.length jE,.bool gV] 31)).alloc (.cells #[.slice none 0 0,.bool false] 31)).heap[w.heap.size+1+1]?=some (.cells #[.slice none 0 0,.bool false] 31 (0,0))):=⟨by have h:=blk_new ((w.alloc (.cells #[.slice bM aU.length bO,.slice bQ aX.length bR,.int .i64 bA,.int .i64 bB,.slice bV aQ.length bS] 26)).alloc (.cells #[.slice jD eC.length jE,.bool gV] 31)) (.cells #[.slice none 0 0,.bool false] 31);rw [World.size_alloc,World.size_alloc] at h;exact h⟩;generalize (((w.alloc (.cells #[.slice bM aU.length bO,.slice bQ aX.length bR,.int .i64 bA,.int .i64 bB,.slice bV aQ.length bS] 26)).alloc (.cells #[.slice jD eC.length jE,.bool gV] 31)).alloc (.cells #[.slice none 0 0,.bool false] 31))=w1 at HW1 HS1 HM1 HR1 ⊢;have HSZ:Aside0 (w.heap.size≤w.heap.size):=⟨Nat.le_refl _⟩;have HRW:Aside0 (w.heap.size≤w.heap.size+1+1):=⟨by omega⟩;generalize w.heap.size+1+1=RB at HR1 HRW ⊢;generalize w.heap.size+1=MB at HM1 ⊢
 have HBLK:Aside0 (∀W,Below w1.heap.size w1 W→(W.cell? ⟨w.heap.size,0,none⟩=some (.slice bM aU.length bO)∧W.cell? ⟨w.heap.size,1,none⟩=some (.slice bQ aX.length bR)∧W.cell? ⟨w.heap.size,2,none⟩=some (.int .i64 bA)∧W.cell? ⟨w.heap.size,3,none⟩=some (.int .i64 bB)∧W.cell? ⟨w.heap.size,4,none⟩=some (.slice bV aQ.length bS))∧W.cell? ⟨MB,0,none⟩=some (.slice jD eC.length jE)∧W.cell? ⟨MB,1,none⟩=some (.bool gV)∧W.heap[RB]?=some (.cells #[.slice none 0 0,.bool false] 31 (0,0))):=⟨fun W hW=>by
  have hb:=bF HS1.out hW;have hm:=bF HM1.out hW;exact⟨⟨(aG hb 0).trans rfl,(aG hb 1).trans rfl,(aG hb 2).trans rfl,(aG hb 3).trans rfl,(aG hb 4).trans rfl⟩,(aG hm 0).trans rfl,(aG hm 1).trans rfl,bF HR1.out hW⟩⟩
 have PR:=aM (machine_Right.calls bM bO aU bQ bR aX bA bB bV bS aQ A1 c1 l1 _ w1 (bD H00.out.1 HW1.out) H00.out.2 (bD H01.out.1 HW1.out) H01.out.2 (bD H04.out.1 HW1.out) H04.out.2 (bD H1.out.1 HW1.out) H1.out.2 HMR.out);have PA:Aside0 (∀W,Below w1.heap.size w1 W→Calls Try.prog 35 #[.agg #[.slice bM aU.length bO,.slice bQ aX.length bR,.int .i64 bA,.int .i64 bB,.slice bV aQ.length bS],.slice jD eC.length jE] W fun e w'=>e= .returned (.bool (stAwaits aU.length aX.length eC))∧Below W.heap.size W w'):=⟨fun W hW=>awaits_any bM bO aU bQ bR aX bA bB bV bS aQ jD jE eC W (bD H2.out.1 (HW1.out.trans (hW.mono HW1.out.size)))⟩;obtain⟨⟨q0,q1,q2,q3,q4⟩,_,_,_⟩:=HBLK.out w1 (Below.refl _ _);have hsum:mFeedAll aU.length aX.length aQ l1 eC gV a3=if(tbRight aU.length aX.length aQ l1 && (stAwaits aU.length aX.length eC && (decide (0≤a3) && decide (a3≤(aX.length:Int)))))=true then(if gV=true then([],true,[],80) else mOut (mFeed aX.length aQ l1 a3 10002 eC.reverse [])) else([],true,[],1):=by simp [mFeedAll]
 have HSUM:=aM hsum;have HTAB:Aside0 (tbRight aU.length aX.length aQ l1=true→TabOk aU.length aX.length aQ l1∧aQ.all (okProd aU.length aX.length)=true):=⟨fun h=>⟨tbRight_tab h,tbRight_prods h⟩⟩;have HAW:Aside0 (stAwaits aU.length aX.length eC=true→eC.length≤10000∧eC.all (okSym aU.length aX.length)=true):=⟨fun h=>by simpa [stAwaits] using h⟩;clear hsum;generalize tbRight aU.length aX.length aQ l1=g1 at PR HSUM HTAB;generalize stAwaits aU.length aX.length eC=g2 at PA HSUM HAW;generalize hok:(g1 && (g2 && (decide (0≤a3) && decide (a3≤(aX.length:Int)))))=ok at HSUM;have HOK:=aM hok;clear hok
 go_cut [13] (fun s13 wc=>s13= .bool (!ok)∧Aside0 (Below w1.heap.size w1 wc))
 case first=>
  cases g1 with
  |false=>
   have ho:ok=false:=by rw [←HOK.out];rfl
   subst ho
   go_wp2_with (first|(go_at_call 25;(with_reducible refine PR.out.mono ?_);rintro e w2 ⟨rfl,hb2⟩;have HB2:=aM hb2;clear hb2 PR q0 q1 q2 q3 q4))
   go_meet
   case rel=>exact⟨rfl,HB2⟩
  |true=>
   cases g2 with
   |false=>
    have ho:ok=false:=by rw [←HOK.out];rfl
    subst ho
    go_wp2_with (first|(go_at_call 25;(with_reducible refine PR.out.mono ?_);rintro e w2 ⟨rfl,hb2⟩;have HB2:=aM hb2;have P2:=aM (PA.out w2 hb2);clear hb2 PR q0 q1 q2 q3 q4;obtain⟨⟨q0,q1,q2,q3,q4⟩,m0,_,_⟩:=HBLK.out w2 HB2.out)|(go_at_call 35;(with_reducible refine P2.out.mono ?_);rintro e w3 ⟨rfl,hb3⟩;have HB3:Aside0 (Below w1.heap.size w1 w3):=⟨HB2.out.trans (hb3.mono HB2.out.size)⟩;clear hb3 P2 q0 q1 q2 q3 q4 m0))
    go_meet
    case rel=>exact⟨rfl,HB3⟩
   |true=>
    by_cases ha:a3<0
    ·have ho:ok=false:=by rw [←HOK.out,decide_eq_false (by omega:¬0≤a3)];rfl
     subst ho;have HA:=aM (decide_eq_true ha);clear ha
     go_wp2_with (first|(go_at_call 25;(with_reducible refine PR.out.mono ?_);rintro e w2 ⟨rfl,hb2⟩;have HB2:=aM hb2;have P2:=aM (PA.out w2 hb2);clear hb2 PR q0 q1 q2 q3 q4;obtain⟨⟨q0,q1,q2,q3,q4⟩,m0,_,_⟩:=HBLK.out w2 HB2.out)|(go_at_call 35;(with_reducible refine P2.out.mono ?_);rintro e w3 ⟨rfl,hb3⟩;have HB3:Aside0 (Below w1.heap.size w1 w3):=⟨HB2.out.trans (hb3.mono HB2.out.size)⟩;clear hb3 P2 q0 q1 q2 q3 q4 m0;have ha:=HA.out))
     go_meet
     case rel=>exact⟨rfl,HB3⟩
    ·by_cases hl:a3≤(aX.length:Int)
     ·have ho:ok=true:=by rw [←HOK.out,decide_eq_true (by omega:0≤a3),decide_eq_true hl];rfl
      subst ho;have HA:=aM (And.intro (decide_eq_false ha) (decide_eq_false (by omega:¬(aX.length:Int)<a3)));clear ha hl
      go_wp2_with (first|(go_at_call 25;(with_reducible refine PR.out.mono ?_);rintro e w2 ⟨rfl,hb2⟩;have HB2:=aM hb2;have P2:=aM (PA.out w2 hb2);clear hb2 PR q0 q1 q2 q3 q4;obtain⟨⟨q0,q1,q2,q3,q4⟩,m0,_,_⟩:=HBLK.out w2 HB2.out)|(go_at_call 35;(with_reducible refine P2.out.mono ?_);rintro e w3 ⟨rfl,hb3⟩;have HB3:Aside0 (Below w1.heap.size w1 w3):=⟨HB2.out.trans (hb3.mono HB2.out.size)⟩;clear hb3 P2 q0 q1 q2 q3 q4 m0;obtain⟨⟨q0,q1,q2,q3,q4⟩,m0,_,_⟩:=HBLK.out w3 HB3.out;have ha:=HA.out.1;have hl:=HA.out.2))
      go_meet
      case rel=>exact⟨rfl,HB3⟩
     ·have ho:ok=false:=by rw [←HOK.out,decide_eq_false hl];simp
      subst ho;have HA:=aM (And.intro (decide_eq_false ha) (decide_eq_true (by omega:(aX.length:Int)<a3)));clear ha hl
      go_wp2_with (first|(go_at_call 25;(with_reducible refine PR.out.mono ?_);rintro e w2 ⟨rfl,hb2⟩;have HB2:=aM hb2;have P2:=aM (PA.out w2 hb2);clear hb2 PR q0 q1 q2 q3 q4;obtain⟨⟨q0,q1,q2,q3,q4⟩,m0,_,_⟩:=HBLK.out w2 HB2.out)|(go_at_call 35;(with_reducible refine P2.out.mono ?_);rintro e w3 ⟨rfl,hb3⟩;have HB3:Aside0 (Below w1.heap.size w1 w3):=⟨HB2.out.trans (hb3.mono HB2.out.size)⟩;clear hb3 P2 q0 q1 q2 q3 q4 m0;obtain⟨⟨q0,q1,q2,q3,q4⟩,m0,_,_⟩:=HBLK.out w3 HB3.out;have ha:=HA.out.1;have hl:=HA.out.2))
      go_meet
      case rel=>exact⟨rfl,HB3⟩
 case rest=>
  clear q0 q1 q2 q3 q4 PR PA;obtain⟨rfl,HBC⟩:=hcut
  cases ok with
  |false=>
   have HE2:Aside0 ((([]:List S43),true,([]:List Int),(1:Int))=(r1,r2,r3,r4)):=⟨by rw [←HE.out,HSUM.out];simp⟩;injection HE2.out with e1 e2
   injection e2 with e2 e3
   injection e3 with e3 e4
   subst e1 e2 e3 e4
   go_wp2_with (first|(go_at_call 36;(with_reducible refine(machine_dead.calls [] true wc rfl).mono ?_);rintro e w2 ⟨v0,rfl,ho,hb2⟩;obtain⟨Av,cv,rfl⟩:=Kd.R_slice ho;have HO:=aM ho;have HB2:Aside0 (Below w1.heap.size w1 w2):=⟨HBC.out.trans (hb2.mono HBC.out.size)⟩;clear ho hb2;obtain⟨_,_,_,hrb⟩:=HBLK.out w2 HB2.out;have HRB2:=aM hrb;have s0:=aG hrb 0;have s1:=aG hrb 1;have f0:=aH hrb 0;have f1:=aH hrb 1;clear hrb))
   refine bodyPost_ret (results_ctt rfl _ _ RB 31 #[.slice Av 0 cv,.bool true] (0,0) _ rfl (blk_put (blk_put HRB2.out 0 _ rfl) 1 _ rfl) Try.underlying31 rfl (by kernel_rfl)) rfl ?_
   exact⟨_,_,rfl,bL (Kd.R_set (Kd.R_set HO.out HRB2.out (by decide) 0 _) (blk_put HRB2.out 0 _ rfl) (by decide) 1 _) (Nat.le_trans HW1.out.size HBC.out.size),Kd.R_nil _ _ _ _ _,((HW1.out.trans (HB2.out.mono HW1.out.size)).setCell (p:=⟨RB,0,none⟩) HRW.out _).setCell (p:=⟨RB,1,none⟩) HRW.out _⟩
  |true=>
   obtain⟨⟨q0,q1,q2,q3,q4⟩,m0,m1,_⟩:=HBLK.out wc HBC.out;have hg:g1=true∧g2=true∧0≤a3∧a3≤(aX.length:Int):=by have:=HOK.out;simpa only [Bool.and_eq_true,decide_eq_true_eq] using this
   have HG:=aM hg;clear hg
   cases gV with
   |true=>
    have HE2:Aside0 ((([]:List S43),true,([]:List Int),(80:Int))=(r1,r2,r3,r4)):=⟨by rw [←HE.out,HSUM.out];simp⟩;injection HE2.out with e1 e2
    injection e2 with e2 e3
    injection e3 with e3 e4
    subst e1 e2 e3 e4
    go_wp2_with (first|(go_at_call 36;(with_reducible refine(machine_dead.calls [] true wc rfl).mono ?_);rintro e w2 ⟨v0,rfl,ho,hb2⟩;obtain⟨Av,cv,rfl⟩:=Kd.R_slice ho;have HO:=aM ho;have HB2:Aside0 (Below w1.heap.size w1 w2):=⟨HBC.out.trans (hb2.mono HBC.out.size)⟩;clear ho hb2;obtain⟨_,_,_,hrb⟩:=HBLK.out w2 HB2.out;have HRB2:=aM hrb;have s0:=aG hrb 0;have s1:=aG hrb 1;have f0:=aH hrb 0;have f1:=aH hrb 1;clear hrb))
    refine bodyPost_ret (results_ctt rfl _ _ RB 31 #[.slice Av 0 cv,.bool true] (0,0) _ rfl (blk_put (blk_put HRB2.out 0 _ rfl) 1 _ rfl) Try.underlying31 rfl (by kernel_rfl)) rfl ?_
    exact⟨_,_,rfl,bL (Kd.R_set (Kd.R_set HO.out HRB2.out (by decide) 0 _) (blk_put HRB2.out 0 _ rfl) (by decide) 1 _) (Nat.le_trans HW1.out.size HBC.out.size),Kd.R_nil _ _ _ _ _,((HW1.out.trans (HB2.out.mono HW1.out.size)).setCell (p:=⟨RB,0,none⟩) HRW.out _).setCell (p:=⟨RB,1,none⟩) HRW.out _⟩
   |false=>
    have PC:=aM (cloneSym_any jD jE eC wc (bD H2.out.1 (HW1.out.trans (HBC.out.mono HW1.out.size))) (by have:=(HAW.out HG.out.2.1).1;omega));clear q0 q1 q2 q3 q4
    go_upto_region 6 with(first|(go_at_call 37;(with_reducible refine PC.out.mono ?_);rintro e w2 ⟨v0,rfl,ho,hb2⟩;obtain⟨Av,cv,rfl⟩:=Kd.R_slice ho;have HO:=aM ho;have HB2:Aside0 (Below w1.heap.size w1 w2):=⟨HBC.out.trans (hb2.mono HBC.out.size)⟩;clear ho hb2 m0 m1 PC))
    have HPB:Aside0 ((w2.alloc (.cells #[.slice Av eC.length cv,.slice none 0 0] 84)).heap[w2.heap.size]?=some (.cells #[.slice Av eC.length cv,.slice none 0 0] 84 (0,0))):=⟨heap_alloc_new w2 _⟩;have hle2:w.heap.size≤w2.heap.size:=Nat.le_trans HW1.out.size HB2.out.size;have HRLT:Aside0 (RB<w1.heap.size):=⟨bN HR1.out⟩;have HPS:Aside0 (PS (fun k=>k=RB) (w2.alloc (.cells #[.slice Av eC.length cv,.slice none 0 0] 84)) w.heap.size w2.heap.size eC.reverse []):=⟨⟨_,_,HPB.out,hle2,by rw [List.reverse_reverse];exact aA (bL (Kd.R_mono (Kd.R_bound HO.out) (fun k hk e=>by have h1:=hk.2.1;have h2:=HRLT.out;have h3:=HBC.out.size;omega)) (Nat.le_trans HW1.out.size HBC.out.size)) _,Kd.R_nil _ _ _ _ _⟩⟩;have HPRB:Aside0 (RB<w2.heap.size):=⟨Nat.lt_of_lt_of_le HRLT.out HB2.out.size⟩;have HB3:Aside0 (Below w1.heap.size w1 (w2.alloc (.cells #[.slice Av eC.length cv,.slice none 0 0] 84))):=⟨HB2.out.trans ((aN (Below.refl _ w2) _).mono HB2.out.size)⟩;generalize w2.alloc (.cells #[.slice Av eC.length cv,.slice none 0 0] 84)=w3 at HPB HPS HB3 ⊢;have HPW:Aside0 (w.heap.size≤w2.heap.size):=⟨hle2⟩;generalize w2.heap.size=PB at HPB HPS HPW HPRB ⊢;obtain⟨⟨q0,q1,q2,q3,q4⟩,_,_,_⟩:=HBLK.out w3 HB3.out;obtain⟨R,hR⟩:=mFeed_some (nt:=aX.length) (ps:=aQ) (tb:=l1) (look:=a3) 10002 eC.reverse [] (by omega) (by simp);have HS:Aside0 (mOut (some R)=(r1,r2,r3,r4)):=⟨by have h:=HSUM.out.symm.trans HE.out;simpa [hR] using h⟩;have PF:=aM (feed_any (fun k=>k=RB) bM bO aU bQ bR aX bA bB bV bS aQ A1 c1 l1 a3 eC.reverse [] PB w w3 10002 R HPS.out (fun k hk=>by rw [hk];exact Nat.lt_of_lt_of_le HRLT.out HB3.out.size) (fun e=>by have:=HPRB.out;omega) (HW1.out.trans (HB3.out.mono HW1.out.size)) H04.out.1 H1.out.1 (HTAB.out HG.out.1).2 (HTAB.out HG.out.1).1 (by rw [List.all_reverse];exact(HAW.out HG.out.2.1).2) HG.out.2.2.1 HG.out.2.2.2 HP1.out (by rw [List.length_reverse];exact(HAW.out HG.out.2.1).1) (by simp) hR);clear hR hle2;obtain⟨e,st,sp⟩:=R
    go_upto_if 52 with(first|(go_at_call 38;(with_reducible refine PF.out.mono ?_);rintro e_ w4 ⟨rfl,hp4,hb4,hk4⟩;have HP4:=aM hp4;have HW4:=aM hb4;have HRB4:=aM (hk4 RB _ rfl (HBLK.out w3 HB3.out).2.2.2 rfl);clear hp4 hb4 hk4 PF q0 q1 q2 q3 q4))
    obtain⟨vs,vt,g0,g1,g2,g3⟩:=HP4.out;simp only at g2 g3;obtain⟨As,cs_,rfl⟩:=Kd.R_slice g2;obtain⟨Au,cu,rfl⟩:=Kd.R_slice g3;rw [List.length_reverse] at g0 g2;have G0:=aM g0;have G2:=aM g2;have G3:=aM g3;clear g0 g1 g2 g3;have HPNR:Aside0 (PB≠RB):=⟨by have:=HPRB.out;omega⟩
    by_cases he0:e=0
    ·subst he0
     have HS2:Aside0 ((st.reverse,false,sp,(0:Int))=(r1,r2,r3,r4)):=⟨by have:=HS.out;rwa [mOut,if_pos rfl] at this⟩;injection HS2.out with e1 e2
     injection e2 with e2 e3
     injection e3 with e3 e4
     subst e1 e2 e3 e4;have y1:((0:Int) !=0)=false:=by simp
     go_upto_region 9 with fail
     have s0:=aG HRB4.out 0;have s1:=aG HRB4.out 1;have f0:=aH HRB4.out 0;have f1:=aH HRB4.out 1;refine start_ (n:=12) (S:=fun w'=>w'.cell? ⟨PB,0,none⟩=some (.slice As st.length cs_)∧w'.cell? ⟨PB,1,none⟩=some (.slice Au sp.length cu)) (ds:= []) #[F,F,F,F,F,F,F,F,F,F,F,F] (by kernel_rfl) rfl rfl ⟨(aG G0.out 0).trans rfl,(aG G0.out 1).trans rfl⟩ (fun hHeld=>?_)
     refine pure_ (i:=0) (N:=some 59) (v:=?_) (a':=?_) #[T,F,F,F,F,F,F,F,F,F,F,F] rfl rfl (by kernel_rfl) (fun _ _ _ h=>h) (Or.inl ⟨by rfl,?_⟩) ?_ ?_
     rotate_left;(intro w';go_simp;with_reducible rfl);rotate_left;(simp only [pq];rfl)
     refine pure_ (i:=1) (N:=some 60) (v:=?_) (a':=?_) #[T,T,F,F,F,F,F,F,F,F,F,F] rfl rfl (by kernel_rfl) (fun _ _ _ h=>h) (Or.inl ⟨by rfl,?_⟩) ?_ ?_
     rotate_left;(intro w';go_simp;with_reducible rfl);rotate_left;(simp only [pq];rfl)
     refine pure_ (i:=2) (N:=some 61) (v:=?_) (a':=?_) #[T,T,T,F,F,F,F,F,F,F,F,F] rfl rfl (by kernel_rfl) (fun _ _ _ h=>h) (Or.inl ⟨by rfl,?_⟩) ?_ ?_
     rotate_left;(intro w';go_simp;with_reducible rfl);rotate_left;(simp only [pq];rfl)
     refine pure_ (i:=5) (N:=some 64) (v:=?_) (a':=?_) #[T,T,T,F,F,T,F,F,F,F,F,F] rfl rfl (by kernel_rfl) (fun _ _ _ h=>h) (Or.inl ⟨by rfl,?_⟩) ?_ ?_
     rotate_left;(intro w';go_simp;with_reducible rfl);rotate_left;(simp only [pq];rfl)
     refine pure_ (i:=6) (N:=some 65) (v:=?_) (a':=?_) #[T,T,T,F,F,T,T,F,F,F,F,F] rfl rfl (by kernel_rfl) (fun _ _ _ h=>h) (Or.inl ⟨by rfl,?_⟩) ?_ ?_
     rotate_left;(intro w';go_simp;with_reducible rfl);rotate_left;(simp only [pq];rfl)
     refine pure_ (i:=7) (N:=some 66) (v:=?_) (a':=?_) #[T,T,T,F,F,T,T,T,F,F,F,F] rfl rfl (by kernel_rfl) (fun _ _ _ h=>h) (Or.inl ⟨by rfl,?_⟩) ?_ ?_
     rotate_left;(intro w';go_simp;with_reducible rfl);rotate_left;(simp only [pq];rfl)
     refine take_ (i:=3) (N:=some 62) (v:=?_) (a':=?_) #[T,T,T,T,F,T,T,T,F,F,F,F] rfl rfl (by kernel_rfl) (fun _ _ _ h=>h) (Or.inl ⟨by rfl,?_⟩) hHeld ?_ ?_
     rotate_left
     ·rintro w' ⟨s0,s1⟩
      go_simp
      with_reducible rfl
     rotate_left
     ·simp only [pq]
      rfl
     refine pure_ (i:=4) (N:=some 63) (v:=?_) (a':=?_) #[T,T,T,T,T,T,T,T,F,F,F,F] rfl rfl (by kernel_rfl) (fun _ _ _ h=>h) (Or.inl ⟨by rfl,?_⟩) ?_ ?_
     rotate_left;(intro w';go_simp;with_reducible rfl);rotate_left;(simp only [pq];rfl)
     refine take_ (i:=8) (N:=some 67) (v:=?_) (a':=?_) #[T,T,T,T,T,T,T,T,T,F,F,F] rfl rfl (by kernel_rfl) (fun _ _ _ h=>h) (Or.inl ⟨by rfl,?_⟩) hHeld ?_ ?_
     rotate_left
     ·rintro w' ⟨s0,s1⟩
      go_simp
      with_reducible rfl
     rotate_left
     ·simp only [pq]
      rfl
     refine one_ (i:=9) (N:=none) #[T,T,T,T,T,T,T,T,T,T,F,F] rfl rfl (by kernel_rfl) (by decide) (fun K hK=>?_)
     refine skip_ (w1:=?_) (by rfl) rfl ?_ ?_
     rotate_left
     ·go_simp
      rfl
     refine hK.out _ _ ⟨(aG (blk_far (blk_far (aK G0.out) (p:=⟨RB,0,none⟩) HPNR.out _) (p:=⟨RB,1,none⟩) HPNR.out _) 0).trans rfl,(aG (blk_far (blk_far (aK G0.out) (p:=⟨RB,0,none⟩) HPNR.out _) (p:=⟨RB,1,none⟩) HPNR.out _) 1).trans rfl⟩ (fun hHeld=>?_)
     clear hK K;refine pure_ (i:=10) (N:=some 9) (v:=?_) (a':=?_) #[T,T,T,T,T,T,T,T,T,T,T,F] rfl rfl (by kernel_rfl) (fun _ _ _ h=>h) (Or.inl ⟨by rfl,?_⟩) ?_ ?_
     rotate_left;(intro w';go_simp;with_reducible rfl);rotate_left;(simp only [pq];rfl)
     refine pure_ (i:=11) (N:=some 10) (v:=?_) (a':=?_) #[T,T,T,T,T,T,T,T,T,T,T,T] rfl rfl (by kernel_rfl) (fun _ _ _ h=>h) (Or.inl ⟨by rfl,?_⟩) ?_ ?_
     rotate_left;(intro w';go_simp;with_reducible rfl);rotate_left;(simp only [pq];rfl)
     refine done_ (by kernel_rfl) ?_
     go_wp2
     refine bodyPost_ret (results_ctt rfl _ _ RB 31 #[.slice As st.length cs_,.bool false] (0,0) _ rfl (blk_put (blk_put (aK HRB4.out) 0 _ rfl) 1 _ rfl) Try.underlying31 rfl (by kernel_rfl)) rfl ?_
     exact⟨_,_,rfl,Kd.R_mono (Kd.R_set (Kd.R_set (aC G2.out) (aK HRB4.out) (by decide) 0 _) (blk_put (aK HRB4.out) 0 _ rfl) (by decide) 1 _) (fun _ _=>trivial),Kd.R_mono (Kd.R_set (Kd.R_set (aC G3.out) (aK HRB4.out) (by decide) 0 _) (blk_put (aK HRB4.out) 0 _ rfl) (by decide) 1 _) (fun _ _=>trivial),((aO HW4.out).setCell (p:=⟨RB,0,none⟩) HRW.out _).setCell (p:=⟨RB,1,none⟩) HRW.out _⟩
    ·have HS2:Aside0 ((([]:List S43),true,sp,e)=(r1,r2,r3,r4)):=⟨by have:=HS.out;rwa [mOut,if_neg he0] at this⟩
     injection HS2.out with e1 e2
     injection e2 with e2 e3
     injection e3 with e3 e4
     subst e1 e2 e3 e4;have y1:(e !=0)=true:=by simp [he0]
     go_upto_region 8 with fail
     refine start_ (n:=9) (S:=fun w'=>w'.cell? ⟨PB,1,none⟩=some (.slice Au sp.length cu)) (ds:= []) #[F,F,F,F,F,F,F,F,F] (by kernel_rfl) rfl rfl ((aG G0.out 1).trans rfl) (fun hHeld=>?_)
     refine pure_ (i:=1) (N:=some 54) (v:=?_) (a':=?_) #[F,T,F,F,F,F,F,F,F] rfl rfl (by kernel_rfl) (fun _ _ _ h=>h) (Or.inl ⟨by rfl,?_⟩) ?_ ?_
     rotate_left;(intro w';go_simp;with_reducible rfl);rotate_left;(simp only [pq];rfl)
     refine pure_ (i:=2) (N:=some 55) (v:=?_) (a':=?_) #[F,T,T,F,F,F,F,F,F] rfl rfl (by kernel_rfl) (fun _ _ _ h=>h) (Or.inl ⟨by rfl,?_⟩) ?_ ?_
     rotate_left;(intro w';go_simp;with_reducible rfl);rotate_left;(simp only [pq];rfl)
     refine pure_ (i:=3) (N:=some 56) (v:=?_) (a':=?_) #[F,T,T,T,F,F,F,F,F] rfl rfl (by kernel_rfl) (fun _ _ _ h=>h) (Or.inl ⟨by rfl,?_⟩) ?_ ?_
     rotate_left;(intro w';go_simp;with_reducible rfl);rotate_left;(simp only [pq];rfl)
     refine pure_ (i:=5) (N:=some 58) (v:=?_) (a':=?_) #[F,T,T,T,F,T,F,F,F] rfl rfl (by kernel_rfl) (fun _ _ _ h=>h) (Or.inl ⟨by rfl,?_⟩) ?_ ?_
     rotate_left;(intro w';go_simp;with_reducible rfl);rotate_left;(simp only [pq];rfl)
     refine take_ (i:=4) (N:=some 57) (v:=?_) (a':=?_) #[F,T,T,T,T,T,F,F,F] rfl rfl (by kernel_rfl) (fun _ _ _ h=>h) (Or.inl ⟨by rfl,?_⟩) hHeld ?_ ?_
     rotate_left
     ·intro w' s0
      go_simp
      with_reducible rfl
     rotate_left
     ·simp only [pq]
      rfl
     refine one_ (i:=0) (N:=some 53) #[T,T,T,T,T,T,F,F,F] rfl rfl (by kernel_rfl) (by decide) (fun K hK=>?_)
     refine goes_ Try.func36 (by kernel_rfl) rfl #[] (by rfl) rfl rfl (by simp only [List.map_toArray,List.map_cons,List.map_nil]) ?_
     with_reducible refine(machine_dead.calls [] true w4.drew rfl).mono ?_
     rintro e w5 ⟨v0,rfl,ho,hb5⟩
     refine⟨_,rfl,?_⟩
     obtain⟨Aq,cq,rfl⟩:=Kd.R_slice ho;have RK:=aM ho;have HW5:Aside0 (Below w.heap.size w w5):=⟨(aO HW4.out).trans (hb5.mono (aO HW4.out).size)⟩;have HP5:=aM (bF (aK G0.out) hb5);have HRB5:=aM (bF (aK HRB4.out) hb5);have HG35:=aM (aD (aC G3.out) hb5);have s0:=aG HRB5.out 0;have s1:=aG HRB5.out 1;have f0:=aH HRB5.out 0;have f1:=aH HRB5.out 1;clear ho hb5;refine hK.out _ _ ((aG HP5.out 1).trans rfl) (fun hHeld=>?_)
     clear hK K;refine norm_ (a':=?_) ?_ ?_
     rotate_left
     ·show Act.put _ (some 53) _=_
      simp only [pq];rfl
     refine one_ (i:=6) (N:=none) #[T,T,T,T,T,T,T,F,F] rfl rfl (by kernel_rfl) (by decide) (fun K hK=>?_)
     refine skip_ (w1:=?_) (by rfl) rfl ?_ ?_
     rotate_left
     ·go_simp
      rfl
     refine hK.out _ _ ((aG (blk_far (blk_far HP5.out (p:=⟨RB,0,none⟩) HPNR.out _) (p:=⟨RB,1,none⟩) HPNR.out _) 1).trans rfl) (fun hHeld=>?_)
     clear hK K;refine pure_ (i:=7) (N:=some 9) (v:=?_) (a':=?_) #[T,T,T,T,T,T,T,T,F] rfl rfl (by kernel_rfl) (fun _ _ _ h=>h) (Or.inl ⟨by rfl,?_⟩) ?_ ?_
     rotate_left;(intro w';go_simp;with_reducible rfl);rotate_left;(simp only [pq];rfl)
     refine pure_ (i:=8) (N:=some 10) (v:=?_) (a':=?_) #[T,T,T,T,T,T,T,T,T] rfl rfl (by kernel_rfl) (fun _ _ _ h=>h) (Or.inl ⟨by rfl,?_⟩) ?_ ?_
     rotate_left;(intro w';go_simp;with_reducible rfl);rotate_left;(simp only [pq];rfl)
     refine done_ (by kernel_rfl) ?_
     go_wp2
     refine bodyPost_ret (results_ctt rfl _ _ RB 31 #[.slice Aq 0 cq,.bool true] (0,0) _ rfl (blk_put (blk_put HRB5.out 0 _ rfl) 1 _ rfl) Try.underlying31 rfl (by kernel_rfl)) rfl ?_
     exact⟨_,_,rfl,Kd.R_mono (bL (Kd.R_set (Kd.R_set RK.out HRB5.out (by decide) 0 _) (blk_put HRB5.out 0 _ rfl) (by decide) 1 _) (aO HW4.out).size) (fun _ _=>trivial),Kd.R_mono (Kd.R_set (Kd.R_set HG35.out HRB5.out (by decide) 0 _) (blk_put HRB5.out 0 _ rfl) (by decide) 1 _) (fun _ _=>trivial),(HW5.out.setCell (p:=⟨RB,0,none⟩) HRW.out _).setCell (p:=⟨RB,1,none⟩) HRW.out _⟩
def slices_Clone_int_int.f (l0:List Int):Option (List Int):=if l0.length≤1000000000 then some l0 else none
theorem slices_Clone_int_int.calls (A0:Option Addr) (c0:Nat) (l0:List Int) (r:List Int) (w:World) (hr0:Kd.C (Kd.int .i64) w A0 l0.length l0) (hc0:l0.length≤c0) (h:slices_Clone_int_int.f l0=some r):
 Calls Try.prog 34 #[.slice A0 l0.length c0] w fun e w'=>∃v0_:Value,e= .returned (v0_)∧Kd.R (Kd.int .i64) 3 w' w.heap.size (fun _=>True) v0_ r∧Below w.heap.size w w':=by
 unfold slices_Clone_int_int.f at h
 split at h
 case isFalse=>simp at h
 obtain rfl:=Option.some.inj h
 rename_i hl
 exact cloneInt_any A0 c0 l0 w hr0 hl
theorem prod_one (W:World) (g:Nat) (A:Option Addr) (c:Nat) (l:List S43) (hb:W.heap[g]?=some (.cells #[.int .i64 0,.slice A l.length c] 35 (0,0))) (hl:l.length≤c) (hC:Kd.C k43 W A l.length l):
 Kd.C k35 W (some ⟨g,0,none⟩) [(⟨0,l⟩:S35)].length [(⟨0,l⟩:S35)]:=by
 refine⟨rfl,by show 1≤9223372036854775807;decide,fun _=>⟨_,rfl,fun j p hj=>?_⟩⟩
 have hj0:j=0:=by
  have:=(List.getElem?_eq_some_iff.1 hj).1;simp at this
  exact this
 subst hj0;obtain rfl:(⟨0,l⟩:S35)=p:=by simpa using hj
 refine⟨[.int .i64 0,.slice A l.length c],rfl,k35_mk W (⟨0,l⟩:S35) hl hC,fun i u hi=>?_⟩
 have hi2:i<2:=(List.getElem?_eq_some_iff.1 hi).1
 have e:(⟨g,0,none⟩:Addr).add (0 * k35.sz+i)=⟨g,i,none⟩:=by
  rw [Nat.zero_mul,Nat.zero_add,add_plain]
 rw [e,aG hb i]
 match i,hi2 with
 |0,_=>exact hi
 |1,_=>exact hi
def regletref16_stack.f (k:Nat) (aU:List ByteArray) (aX:List (S72)) (bA:Int) (bB:Int) (aQ:List (S35)) (l1:List (S43)):Option Bool:=(regletref13_Right.f k aU aX bA bB [⟨0,l1⟩]).bind fun b=>some (b && decide (l1.length≤10000))
set_option maxHeartbeats 4000000 in
set_option maxRecDepth 100000 in
theorem regletref16_stack.calls (k:Nat) (bM:Option Addr) (bO:Nat) (aU:List ByteArray) (bQ:Option Addr) (bR:Nat) (aX:List (S72)) (bA:Int) (bB:Int) (bV:Option Addr) (bS:Nat) (aQ:List (S35)) (A1:Option Addr) (c1:Nat) (l1:List (S43)) (r:Bool) (w:World)
 (dX:Kd.C Kd.string w bM aU.length aU) (eE:aU.length≤bO) (eF:Kd.C k72 w bQ aX.length aX) (eG:aX.length≤bR) (dZ:Kd.C k35 w bV aQ.length aQ) (eM:aQ.length≤bS) (hr1:Kd.C k43 w A1 l1.length l1) (hc1:l1.length≤c1)
 (h:regletref16_stack.f k aU aX bA bB aQ l1=some r):
 Calls Try.prog 42 #[.agg #[.slice bM aU.length bO,.slice bQ aX.length bR,.int .i64 bA,.int .i64 bB,.slice bV aQ.length bS],.slice A1 l1.length c1] w fun e w'=>e= .returned (.bool r)∧Below w.heap.size w w':=by
 obtain⟨b,hb,hr⟩:=Option.bind_eq_some_iff.1 h;have HRR:=aM (Option.some.inj hr);have HB:=aM hb;have H00:=aM (And.intro dX eE);have H01:=aM (And.intro eF eG);have H1:=aM (And.intro hr1 hc1);clear h hb hr dX eE eF eG dZ eM hr1 hc1;go_enter Try.func42,Try.ntmps42
 go_upto_region 3 with fail
 have HW:Aside0 (Below w.heap.size w (((w.alloc (.cells #[.slice bM aU.length bO,.slice bQ aX.length bR,.int .i64 bA,.int .i64 bB,.slice bV aQ.length bS] 26)).alloc (.cells #[.slice bM aU.length bO,.slice bQ aX.length bR,.int .i64 bA,.int .i64 bB,.slice (some ⟨w.heap.size+1+1,0,none⟩) 1 1] 26)).alloc (.cells #[.int .i64 0,.slice A1 l1.length c1] 35))):=⟨(((Below.refl _ w).alloc (Nat.le_refl _) _).alloc (by simp) _).alloc (by simp;omega) _⟩;have hT:(((w.alloc (.cells #[.slice bM aU.length bO,.slice bQ aX.length bR,.int .i64 bA,.int .i64 bB,.slice bV aQ.length bS] 26)).alloc (.cells #[.slice bM aU.length bO,.slice bQ aX.length bR,.int .i64 bA,.int .i64 bB,.slice (some ⟨w.heap.size+1+1,0,none⟩) 1 1] 26)).alloc (.cells #[.int .i64 0,.slice A1 l1.length c1] 35)).heap[w.heap.size+1]?=some (.cells #[.slice bM aU.length bO,.slice bQ aX.length bR,.int .i64 bA,.int .i64 bB,.slice (some ⟨w.heap.size+1+1,0,none⟩) 1 1] 26 (0,0)):=by have h:=aI (blk_new (w.alloc (.cells #[.slice bM aU.length bO,.slice bQ aX.length bR,.int .i64 bA,.int .i64 bB,.slice bV aQ.length bS] 26)) (.cells #[.slice bM aU.length bO,.slice bQ aX.length bR,.int .i64 bA,.int .i64 bB,.slice (some ⟨w.heap.size+1+1,0,none⟩) 1 1] 26)) (.cells #[.int .i64 0,.slice A1 l1.length c1] 35);rw [World.size_alloc] at h;exact h
 have hP:(((w.alloc (.cells #[.slice bM aU.length bO,.slice bQ aX.length bR,.int .i64 bA,.int .i64 bB,.slice bV aQ.length bS] 26)).alloc (.cells #[.slice bM aU.length bO,.slice bQ aX.length bR,.int .i64 bA,.int .i64 bB,.slice (some ⟨w.heap.size+1+1,0,none⟩) 1 1] 26)).alloc (.cells #[.int .i64 0,.slice A1 l1.length c1] 35)).heap[w.heap.size+1+1]?=some (.cells #[.int .i64 0,.slice A1 l1.length c1] 35 (0,0)):=by have h:=blk_new ((w.alloc (.cells #[.slice bM aU.length bO,.slice bQ aX.length bR,.int .i64 bA,.int .i64 bB,.slice bV aQ.length bS] 26)).alloc (.cells #[.slice bM aU.length bO,.slice bQ aX.length bR,.int .i64 bA,.int .i64 bB,.slice (some ⟨w.heap.size+1+1,0,none⟩) 1 1] 26)) (.cells #[.int .i64 0,.slice A1 l1.length c1] 35);rw [World.size_alloc,World.size_alloc] at h;exact h
 generalize (((w.alloc (.cells #[.slice bM aU.length bO,.slice bQ aX.length bR,.int .i64 bA,.int .i64 bB,.slice bV aQ.length bS] 26)).alloc (.cells #[.slice bM aU.length bO,.slice bQ aX.length bR,.int .i64 bA,.int .i64 bB,.slice (some ⟨w.heap.size+1+1,0,none⟩) 1 1] 26)).alloc (.cells #[.int .i64 0,.slice A1 l1.length c1] 35))=w1 at HW hT hP ⊢;generalize w.heap.size+1+1=PB at hT hP ⊢;generalize w.heap.size+1=TB at hT ⊢;have PR:Aside0 (Calls Try.prog 30 #[.agg #[.slice bM aU.length bO,.slice bQ aX.length bR,.int .i64 bA,.int .i64 bB,.slice (some ⟨PB,0,none⟩) 1 1]] w1 fun e w'=>e= .returned (.bool b)∧Below w1.heap.size w1 w'):=⟨regletref13_Right.calls k bM bO aU bQ bR aX bA bB (some ⟨PB,0,none⟩) 1 [(⟨0,l1⟩:S35)] b w1 (bD H00.out.1 HW.out) H00.out.2 (bD H01.out.1 HW.out) H01.out.2 (prod_one w1 PB A1 c1 l1 hP H1.out.2 (bD H1.out.1 HW.out)) (Nat.le_refl _) HB.out⟩;have q0:=(aG hT 0);have q1:=(aG hT 1);have q2:=(aG hT 2);have q3:=(aG hT 3);have q4:=(aG hT 4);clear hT hP
 cases b with
 |false=>
  have hr0:r=false:=by rw [←HRR.out];rfl
  subst hr0
  go_wp2_with (first|(go_at_call 30;(with_reducible refine PR.out.mono ?_);rintro e w2 ⟨rfl,hb2⟩;have HB2:Aside0 (Below w.heap.size w w2):=⟨HW.out.trans (hb2.mono HW.out.size)⟩;clear hb2 PR q0 q1 q2 q3 q4))
  go_ret
  exact⟨rfl,HB2.out⟩
 |true=>
  have hr0:r=decide (l1.length≤10000):=by rw [←HRR.out];rfl
  have HR0:=aM hr0;clear hr0
  go_wp2_with (first|(go_at_call 30;(with_reducible refine PR.out.mono ?_);rintro e w2 ⟨rfl,hb2⟩;have HB2:Aside0 (Below w.heap.size w w2):=⟨HW.out.trans (hb2.mono HW.out.size)⟩;clear hb2 PR q0 q1 q2 q3 q4))
  go_ret
  exact⟨by rw [HR0.out];simp;omega,HB2.out⟩
end Go.Proofs.Ytapjfnfengefpaa.P
end

section
namespace Go.Proofs.Ytapjfnfengefpaa.P
open Go.RowKit Go.Proofs.YtapjfnfengefpaaW.PrintWords Go.Proofs.YtapjfnfengefpaaW.PrintLast Go.Proofs.YtapjfnfengefpaaW.PrintMore
attribute [local go_sem] max2_int min2_int max_two min_two max_three min_three max_four min_four   -- for this text's walks alone
set_option linter.unusedVariables false
set_option linter.unusedSimpArgs false
mutual
def regletref16_Right.j0:Nat→List (List Int)→Bool→List ByteArray→List (S72)→Int→Int→List (S35)→Option (Bool)
 |0,_,_,_,_,_,_,_=>none
 |k+1,x1,x23,x217000,x217001,x217002,x217003,x217004=>if x23=true then(some false) else(regletref16_Right.l0 k x1 0 x217000 x217001 x217002 x217003 x217004)
def regletref16_Right.l0:Nat→List (List Int)→Int→List ByteArray→List (S72)→Int→Int→List (S35)→Option (Bool)
 |0,_,_,_,_,_,_,_=>none
 |k+1,x1,x5,x217000,x217001,x217002,x217003,x217004=>if x5<(x1.length:Int) then(if 0≤x5 then(if((rd_L5 x1 x5).length:Int)=(wrap64 ((x217001.length:Int)+1)) then(regletref16_Right.l1 k x1 x5 0 x217000 x217001 x217002 x217003 x217004) else(some false)) else(none)) else(some true)
def regletref16_Right.l1:Nat→List (List Int)→Int→Int→List ByteArray→List (S72)→Int→Int→List (S35)→Option (Bool)
 |0,_,_,_,_,_,_,_,_=>none
 |k+1,x1,x5,x6,x217000,x217001,x217002,x217003,x217004=>if 0≤x5 then(if x5<(x1.length:Int) then(if x6<((rd_L5 x1 x5).length:Int) then(if 0≤x6 then(if(rd (rd_L5 x1 x5) x6)<(-1) then(some false) else(if(rd (rd_L5 x1 x5) x6)≥(x217004.length:Int) then(some false) else(if(rd (rd_L5 x1 x5) x6)≥0 then(if 0≤(rd (rd_L5 x1 x5) x6) then(if(rd (rd_L5 x1 x5) x6)<(x217004.length:Int) then(if((rd_T35 x217004 (rd (rd_L5 x1 x5) x6)).f0)=x5 then(regletref16_Right.l1 k x1 x5 (wrap64 (x6+1)) x217000 x217001 x217002 x217003 x217004) else(some false)) else(none)) else(none)) else(regletref16_Right.l1 k x1 x5 (wrap64 (x6+1)) x217000 x217001 x217002 x217003 x217004)))) else(none)) else(regletref16_Right.l0 k x1 (wrap64 (x5+1)) x217000 x217001 x217002 x217003 x217004)) else(none)) else(none)
end
def regletref16_Right.f (k:Nat) (aU:List ByteArray) (aX:List (S72)) (bA:Int) (bB:Int) (aQ:List (S35)) (l1:List (List Int)):Option (Bool):=(regletref13_Right.f k aU aX bA bB aQ).bind fun t217=>(if t217=true then(if(aU.length:Int)=0 then(regletref16_Right.j0 k l1 true aU aX bA bB aQ) else(regletref16_Right.j0 k l1 ((l1.length:Int) !=(aU.length:Int)) aU aX bA bB aQ)) else(regletref16_Right.j0 k l1 true aU aX bA bB aQ))
set_option maxHeartbeats 8000000 in
set_option maxRecDepth 100000 in
theorem regletref16_Right.calls (k:Nat) (bM:Option Addr) (bO:Nat) (aU:List ByteArray) (bQ:Option Addr) (bR:Nat) (aX:List (S72)) (bA:Int) (bB:Int) (bV:Option Addr) (bS:Nat) (aQ:List (S35)) (A1:Option Addr) (c1:Nat) (l1:List (List Int)) (r:Bool) (w:World) (dX:Kd.C Kd.string w bM aU.length aU) (eE:aU.length≤bO) (eF:Kd.C k72 w bQ aX.length aX) (eG:aX.length≤bR) (dZ:Kd.C k35 w bV aQ.length aQ) (eM:aQ.length≤bS) (hr1:Kd.C (Kd.slice 3 (Kd.int .i64)) w A1 l1.length l1) (hc1:l1.length≤c1) (h:regletref16_Right.f k aU aX bA bB aQ l1=some r):
 Calls Try.prog 27 #[.agg #[.slice bM aU.length bO,.slice bQ aX.length bR,.int .i64 bA,.int .i64 bB,.slice bV aQ.length bS],.slice A1 l1.length c1] w fun e w'=>e= .returned (.bool r)∧Below w.heap.size w w':=by
 have hu26:=Try.underlying26;have fN:=aM dX;have fS:=aM eE;clear dX eE;have gA:=aM eF;have gD:=aM eG;clear eF eG;have eJ:=aM dZ;have gE:=aM eM;clear dZ eM;have HR1:=aM hr1;have HC1:=aM hc1;clear hr1 hc1;have HB:=aM (Below.refl w.heap.size w);have H:((regletref13_Right.f k aU aX bA bB aQ).bind fun t217=>(if t217=true then(if(aU.length:Int)=0 then(regletref16_Right.j0 k l1 true aU aX bA bB aQ) else(regletref16_Right.j0 k l1 ((l1.length:Int) !=(aU.length:Int)) aU aX bA bB aQ)) else(regletref16_Right.j0 k l1 true aU aX bA bB aQ)))=some r:=h;clear h;have HC3:=aM H;clear H;go_enter Try.func27,Try.ntmps27
 go_upto_region 1 with(first|((with_reducible refine bJ (N:=2) rfl ?_);(try(refine gate_guard (by rfl) ?_;dsimp only));refine box_event ?hg (N:=2) ?hd (cs:=#[.slice bM aU.length bO,.slice bQ aX.length bR,.int .i64 bA,.int .i64 bB,.slice bV aQ.length bS]) (t:=26) ?hr ?_;(case hd=>rfl);(case hg=>rfl);(case hr=>first|(go_simp;done)|(go_simp;rfl));intro dJ hg w4 hbox hb;have cE:=aM (bG (gW HB.out) hb);have cF:=aM (hbox);have cH:=aM ((by rw [hg];exact(bH (gW HB.out)):w.heap.size≤dJ));have cM:=aM ((by rw [hg];exact(bH (gW HB.out)):w.heap.size≤dJ));clear HB;have HB:=cE;have bZ:=cF;have GW216:=cH;have Xx:=cM;clear cE cF cH cM;clear hb hbox hg))
 repeat(go_quiet (first|((with_reducible refine bJ (N:=2) rfl ?_);(try(refine gate_guard (by rfl) ?_;dsimp only));refine box_event ?hg (N:=2) ?hd (cs:=#[.slice bM aU.length bO,.slice bQ aX.length bR,.int .i64 bA,.int .i64 bB,.slice bV aQ.length bS]) (t:=26) ?hr ?_;(case hd=>rfl);(case hg=>rfl);(case hr=>first|(go_simp;done)|(go_simp;rfl));intro dJ hg w4 hbox hb;have cE:=aM (bG (gW HB.out) hb);have cF:=aM (hbox);have cH:=aM ((by rw [hg];exact(bH (gW HB.out)):w.heap.size≤dJ));have cM:=aM ((by rw [hg];exact(bH (gW HB.out)):w.heap.size≤dJ));clear HB;have HB:=cE;have bZ:=cF;have GW216:=cH;have Xx:=cM;clear cE cF cH cM;clear hb hbox hg));go_upto_region 1 with(first|((with_reducible refine bJ (N:=2) rfl ?_);(try(refine gate_guard (by rfl) ?_;dsimp only));refine box_event ?hg (N:=2) ?hd (cs:=#[.slice bM aU.length bO,.slice bQ aX.length bR,.int .i64 bA,.int .i64 bB,.slice bV aQ.length bS]) (t:=26) ?hr ?_;(case hd=>rfl);(case hg=>rfl);(case hr=>first|(go_simp;done)|(go_simp;rfl));intro dJ hg w4 hbox hb;have cE:=aM (bG (gW HB.out) hb);have cF:=aM (hbox);have cH:=aM ((by rw [hg];exact(bH (gW HB.out)):w.heap.size≤dJ));have cM:=aM ((by rw [hg];exact(bH (gW HB.out)):w.heap.size≤dJ));clear HB;have HB:=cE;have bZ:=cF;have GW216:=cH;have Xx:=cM;clear cE cF cH cM;clear hb hbox hg)))
 (try simp only [Act.put,List.setIfInBounds_toArray,List.set_cons_zero,List.set_cons_succ])
 go_cut [23] (fun v23 wc=>∃(kq:Nat) (Lv:Bool),v23= .bool Lv∧Aside0 (regletref16_Right.j0 kq l1 Lv aU aX bA bB aQ=some r)∧Aside0 (kq≤k)∧Aside0 (wc.heap[dJ]?=some (.cells #[(.slice bM aU.length bO),(.slice bQ aX.length bR),.int .i64 bA,.int .i64 bB,(.slice bV aQ.length bS)] 26 (0,0)))∧Aside0 (Below w.heap.size w wc))
 case first=>
  have H:=HC3.out;clear HC3;replace H:=Option.bind_eq_some_iff.mp H;obtain⟨t217,A50,H⟩:=H;replace H:(if t217=true then(if(aU.length:Int)=0 then(regletref16_Right.j0 k l1 true aU aX bA bB aQ) else(regletref16_Right.j0 k l1 ((l1.length:Int) !=(aU.length:Int)) aU aX bA bB aQ)) else(regletref16_Right.j0 k l1 true aU aX bA bB aQ))=some r:=H;have A5:=aM A50;clear A50
  by_cases c6:t217=true
  ·subst c6
   have H1:(if(aU.length:Int)=0 then(regletref16_Right.j0 k l1 true aU aX bA bB aQ) else(regletref16_Right.j0 k l1 ((l1.length:Int) !=(aU.length:Int)) aU aX bA bB aQ))=some r:=by rw [if_pos rfl] at H;exact H
   clear H;have H:=H1;clear H1
   by_cases c7:(aU.length:Int)=0
   ·rw [if_pos c7] at H
    have yU:((aU.length:Int)==0)=true:=beq_iff_eq.mpr c7;have He:((aU.length:Int) !=0)=false:=bne_eq_false_iff_eq.mpr c7;clear c7
    (first|rw [yU]|(simp only [i64_w,i32_w];rw [yU])|skip)
    have H':=aM H;clear H;have jP:w4.cell? ⟨dJ,0,none⟩=some (.slice bM aU.length bO):=(aG bZ.out 0).trans rfl;have jQ:w4.cell? ⟨dJ,1,none⟩=some (.slice bQ aX.length bR):=(aG bZ.out 1).trans rfl;have lA:w4.cell? ⟨dJ,2,none⟩=some (.int .i64 bA):=(aG bZ.out 2).trans rfl;have lB:w4.cell? ⟨dJ,3,none⟩=some (.int .i64 bB):=(aG bZ.out 3).trans rfl;have lC:w4.cell? ⟨dJ,4,none⟩=some (.slice bV aQ.length bS):=(aG bZ.out 4).trans rfl;have jR:=aH bZ.out 0;have jS:=aH bZ.out 1;have lD:=aH bZ.out 2;have lE:=aH bZ.out 3;have lF:=aH bZ.out 4
    go_wp2_with (first|(go_at_call 30;(with_reducible refine(regletref13_Right.calls k _ _ aU _ _ aX bA bB _ _ aQ true _ ?side1 ?side2 ?side3 ?side4 ?side5 ?side6 A5.out).mono ?_);(case side1=>exact gC (bD fN.out HB.out));(case side2=>exact fS.out);(case side3=>exact gC (bD gA.out HB.out));(case side4=>exact gD.out);(case side5=>exact gC (bD eJ.out HB.out));(case side6=>exact gE.out);rintro e w9 ⟨rfl,hb⟩;have cE:=aM (bF (gB bZ.out) hb);have cF:=aM (bG (gW HB.out) hb);clear bZ;clear HB;have bZ:=cE;have HB:=cF;clear cE cF;(try clear hb);(try clear hb2);(try clear hk);(try clear hi);have nM:w9.cell? ⟨dJ,0,none⟩=some (.slice bM aU.length bO):=(aG bZ.out 0).trans rfl;have nN:w9.cell? ⟨dJ,1,none⟩=some (.slice bQ aX.length bR):=(aG bZ.out 1).trans rfl;have uA:w9.cell? ⟨dJ,2,none⟩=some (.int .i64 bA):=(aG bZ.out 2).trans rfl;have uB:w9.cell? ⟨dJ,3,none⟩=some (.int .i64 bB):=(aG bZ.out 3).trans rfl;have uC:w9.cell? ⟨dJ,4,none⟩=some (.slice bV aQ.length bS):=(aG bZ.out 4).trans rfl;have nO:=aH bZ.out 0;have nP:=aH bZ.out 1;have uD:=aH bZ.out 2;have uE:=aH bZ.out 3;have uF:=aH bZ.out 4))
    repeat(go_quiet (first|(go_at_call 30;(with_reducible refine(regletref13_Right.calls k _ _ aU _ _ aX bA bB _ _ aQ true _ ?side1 ?side2 ?side3 ?side4 ?side5 ?side6 A5.out).mono ?_);(case side1=>exact gC (bD fN.out HB.out));(case side2=>exact fS.out);(case side3=>exact gC (bD gA.out HB.out));(case side4=>exact gD.out);(case side5=>exact gC (bD eJ.out HB.out));(case side6=>exact gE.out);rintro e w9 ⟨rfl,hb⟩;have cE:=aM (bF (gB bZ.out) hb);have cF:=aM (bG (gW HB.out) hb);clear bZ;clear HB;have bZ:=cE;have HB:=cF;clear cE cF;(try clear hb);(try clear hb2);(try clear hk);(try clear hi);have nM:w9.cell? ⟨dJ,0,none⟩=some (.slice bM aU.length bO):=(aG bZ.out 0).trans rfl;have nN:w9.cell? ⟨dJ,1,none⟩=some (.slice bQ aX.length bR):=(aG bZ.out 1).trans rfl;have uA:w9.cell? ⟨dJ,2,none⟩=some (.int .i64 bA):=(aG bZ.out 2).trans rfl;have uB:w9.cell? ⟨dJ,3,none⟩=some (.int .i64 bB):=(aG bZ.out 3).trans rfl;have uC:w9.cell? ⟨dJ,4,none⟩=some (.slice bV aQ.length bS):=(aG bZ.out 4).trans rfl;have nO:=aH bZ.out 0;have nP:=aH bZ.out 1;have uD:=aH bZ.out 2;have uE:=aH bZ.out 3;have uF:=aH bZ.out 4));try go_wp2_with (first|(go_at_call 30;(with_reducible refine(regletref13_Right.calls k _ _ aU _ _ aX bA bB _ _ aQ true _ ?side1 ?side2 ?side3 ?side4 ?side5 ?side6 A5.out).mono ?_);(case side1=>exact gC (bD fN.out HB.out));(case side2=>exact fS.out);(case side3=>exact gC (bD gA.out HB.out));(case side4=>exact gD.out);(case side5=>exact gC (bD eJ.out HB.out));(case side6=>exact gE.out);rintro e w9 ⟨rfl,hb⟩;have cE:=aM (bF (gB bZ.out) hb);have cF:=aM (bG (gW HB.out) hb);clear bZ;clear HB;have bZ:=cE;have HB:=cF;clear cE cF;(try clear hb);(try clear hb2);(try clear hk);(try clear hi);have nM:w9.cell? ⟨dJ,0,none⟩=some (.slice bM aU.length bO):=(aG bZ.out 0).trans rfl;have nN:w9.cell? ⟨dJ,1,none⟩=some (.slice bQ aX.length bR):=(aG bZ.out 1).trans rfl;have uA:w9.cell? ⟨dJ,2,none⟩=some (.int .i64 bA):=(aG bZ.out 2).trans rfl;have uB:w9.cell? ⟨dJ,3,none⟩=some (.int .i64 bB):=(aG bZ.out 3).trans rfl;have uC:w9.cell? ⟨dJ,4,none⟩=some (.slice bV aQ.length bS):=(aG bZ.out 4).trans rfl;have nO:=aH bZ.out 0;have nP:=aH bZ.out 1;have uD:=aH bZ.out 2;have uE:=aH bZ.out 3;have uF:=aH bZ.out 4)))
    go_meet
    case rel=>exact⟨_,(true),(by first|rfl|(simp;done)|(simp [*];done)),H',⟨by first|omega|exact Nat.le_refl _⟩,⟨gB bZ.out⟩,⟨gW HB.out⟩⟩
   ·rw [if_neg c7] at H
    have yU:((aU.length:Int)==0)=false:=beq_eq_false_iff_ne.mpr c7;have He:((aU.length:Int) !=0)=true:=bne_iff_ne.mpr c7;have AD:¬(aU= []):=fun h_=>c7 (by rw [h_];rfl)
    (first|rw [yU]|(simp only [i64_w,i32_w];rw [yU])|skip)
    have H':=aM H;clear H;have tS:w4.cell? ⟨dJ,0,none⟩=some (.slice bM aU.length bO):=(aG bZ.out 0).trans rfl;have tT:w4.cell? ⟨dJ,1,none⟩=some (.slice bQ aX.length bR):=(aG bZ.out 1).trans rfl;have Ed:w4.cell? ⟨dJ,2,none⟩=some (.int .i64 bA):=(aG bZ.out 2).trans rfl;have Ee:w4.cell? ⟨dJ,3,none⟩=some (.int .i64 bB):=(aG bZ.out 3).trans rfl;have Ef:w4.cell? ⟨dJ,4,none⟩=some (.slice bV aQ.length bS):=(aG bZ.out 4).trans rfl;have tU:=aH bZ.out 0;have tV:=aH bZ.out 1;have Eg:=aH bZ.out 2;have Eh:=aH bZ.out 3;have Ei:=aH bZ.out 4
    go_wp2_with (first|(go_at_call 30;(with_reducible refine(regletref13_Right.calls k _ _ aU _ _ aX bA bB _ _ aQ true _ ?side1 ?side2 ?side3 ?side4 ?side5 ?side6 A5.out).mono ?_);(case side1=>exact gC (bD fN.out HB.out));(case side2=>exact fS.out);(case side3=>exact gC (bD gA.out HB.out));(case side4=>exact gD.out);(case side5=>exact gC (bD eJ.out HB.out));(case side6=>exact gE.out);rintro e w12 ⟨rfl,hb⟩;have cE:=aM (bF (gB bZ.out) hb);have cF:=aM (bG (gW HB.out) hb);clear bZ;clear HB;have bZ:=cE;have HB:=cF;clear cE cF;(try clear hb);(try clear hb2);(try clear hk);(try clear hi);have sT:w12.cell? ⟨dJ,0,none⟩=some (.slice bM aU.length bO):=(aG bZ.out 0).trans rfl;have sU:w12.cell? ⟨dJ,1,none⟩=some (.slice bQ aX.length bR):=(aG bZ.out 1).trans rfl;have sV:w12.cell? ⟨dJ,2,none⟩=some (.int .i64 bA):=(aG bZ.out 2).trans rfl;have sW:w12.cell? ⟨dJ,3,none⟩=some (.int .i64 bB):=(aG bZ.out 3).trans rfl;have sX:w12.cell? ⟨dJ,4,none⟩=some (.slice bV aQ.length bS):=(aG bZ.out 4).trans rfl;have sY:=aH bZ.out 0;have sZ:=aH bZ.out 1;have tA:=aH bZ.out 2;have tB:=aH bZ.out 3;have tC:=aH bZ.out 4))
    repeat(go_quiet (first|(go_at_call 30;(with_reducible refine(regletref13_Right.calls k _ _ aU _ _ aX bA bB _ _ aQ true _ ?side1 ?side2 ?side3 ?side4 ?side5 ?side6 A5.out).mono ?_);(case side1=>exact gC (bD fN.out HB.out));(case side2=>exact fS.out);(case side3=>exact gC (bD gA.out HB.out));(case side4=>exact gD.out);(case side5=>exact gC (bD eJ.out HB.out));(case side6=>exact gE.out);rintro e w12 ⟨rfl,hb⟩;have cE:=aM (bF (gB bZ.out) hb);have cF:=aM (bG (gW HB.out) hb);clear bZ;clear HB;have bZ:=cE;have HB:=cF;clear cE cF;(try clear hb);(try clear hb2);(try clear hk);(try clear hi);have sT:w12.cell? ⟨dJ,0,none⟩=some (.slice bM aU.length bO):=(aG bZ.out 0).trans rfl;have sU:w12.cell? ⟨dJ,1,none⟩=some (.slice bQ aX.length bR):=(aG bZ.out 1).trans rfl;have sV:w12.cell? ⟨dJ,2,none⟩=some (.int .i64 bA):=(aG bZ.out 2).trans rfl;have sW:w12.cell? ⟨dJ,3,none⟩=some (.int .i64 bB):=(aG bZ.out 3).trans rfl;have sX:w12.cell? ⟨dJ,4,none⟩=some (.slice bV aQ.length bS):=(aG bZ.out 4).trans rfl;have sY:=aH bZ.out 0;have sZ:=aH bZ.out 1;have tA:=aH bZ.out 2;have tB:=aH bZ.out 3;have tC:=aH bZ.out 4));try go_wp2_with (first|(go_at_call 30;(with_reducible refine(regletref13_Right.calls k _ _ aU _ _ aX bA bB _ _ aQ true _ ?side1 ?side2 ?side3 ?side4 ?side5 ?side6 A5.out).mono ?_);(case side1=>exact gC (bD fN.out HB.out));(case side2=>exact fS.out);(case side3=>exact gC (bD gA.out HB.out));(case side4=>exact gD.out);(case side5=>exact gC (bD eJ.out HB.out));(case side6=>exact gE.out);rintro e w12 ⟨rfl,hb⟩;have cE:=aM (bF (gB bZ.out) hb);have cF:=aM (bG (gW HB.out) hb);clear bZ;clear HB;have bZ:=cE;have HB:=cF;clear cE cF;(try clear hb);(try clear hb2);(try clear hk);(try clear hi);have sT:w12.cell? ⟨dJ,0,none⟩=some (.slice bM aU.length bO):=(aG bZ.out 0).trans rfl;have sU:w12.cell? ⟨dJ,1,none⟩=some (.slice bQ aX.length bR):=(aG bZ.out 1).trans rfl;have sV:w12.cell? ⟨dJ,2,none⟩=some (.int .i64 bA):=(aG bZ.out 2).trans rfl;have sW:w12.cell? ⟨dJ,3,none⟩=some (.int .i64 bB):=(aG bZ.out 3).trans rfl;have sX:w12.cell? ⟨dJ,4,none⟩=some (.slice bV aQ.length bS):=(aG bZ.out 4).trans rfl;have sY:=aH bZ.out 0;have sZ:=aH bZ.out 1;have tA:=aH bZ.out 2;have tB:=aH bZ.out 3;have tC:=aH bZ.out 4)))
    go_meet
    case rel=>exact⟨_,(((l1.length:Int) !=(aU.length:Int))),(by first|rfl|(simp;done)|(simp [*];done)),H',⟨by first|omega|exact Nat.le_refl _⟩,⟨gB bZ.out⟩,⟨gW HB.out⟩⟩
  ·replace c6:=Bool.eq_false_iff.mpr c6
   subst c6;have H1:(regletref16_Right.j0 k l1 true aU aX bA bB aQ)=some r:=by rw [if_neg (show ¬(false=true) by decide)] at H;exact H
   clear H;have H:=H1;clear H1;have H':=aM H;clear H;have kW:w4.cell? ⟨dJ,0,none⟩=some (.slice bM aU.length bO):=(aG bZ.out 0).trans rfl;have kX:w4.cell? ⟨dJ,1,none⟩=some (.slice bQ aX.length bR):=(aG bZ.out 1).trans rfl;have nD:w4.cell? ⟨dJ,2,none⟩=some (.int .i64 bA):=(aG bZ.out 2).trans rfl;have nE:w4.cell? ⟨dJ,3,none⟩=some (.int .i64 bB):=(aG bZ.out 3).trans rfl;have nF:w4.cell? ⟨dJ,4,none⟩=some (.slice bV aQ.length bS):=(aG bZ.out 4).trans rfl;have kY:=aH bZ.out 0;have kZ:=aH bZ.out 1;have nG:=aH bZ.out 2;have nH:=aH bZ.out 3;have nI:=aH bZ.out 4
   go_wp2_with (first|(go_at_call 30;(with_reducible refine(regletref13_Right.calls k _ _ aU _ _ aX bA bB _ _ aQ false _ ?side1 ?side2 ?side3 ?side4 ?side5 ?side6 A5.out).mono ?_);(case side1=>exact gC (bD fN.out HB.out));(case side2=>exact fS.out);(case side3=>exact gC (bD gA.out HB.out));(case side4=>exact gD.out);(case side5=>exact gC (bD eJ.out HB.out));(case side6=>exact gE.out);rintro e w15 ⟨rfl,hb⟩;have cE:=aM (bF (gB bZ.out) hb);have cF:=aM (bG (gW HB.out) hb);clear bZ;clear HB;have bZ:=cE;have HB:=cF;clear cE cF;(try clear hb);(try clear hb2);(try clear hk);(try clear hi)))
   repeat(go_quiet (first|(go_at_call 30;(with_reducible refine(regletref13_Right.calls k _ _ aU _ _ aX bA bB _ _ aQ false _ ?side1 ?side2 ?side3 ?side4 ?side5 ?side6 A5.out).mono ?_);(case side1=>exact gC (bD fN.out HB.out));(case side2=>exact fS.out);(case side3=>exact gC (bD gA.out HB.out));(case side4=>exact gD.out);(case side5=>exact gC (bD eJ.out HB.out));(case side6=>exact gE.out);rintro e w15 ⟨rfl,hb⟩;have cE:=aM (bF (gB bZ.out) hb);have cF:=aM (bG (gW HB.out) hb);clear bZ;clear HB;have bZ:=cE;have HB:=cF;clear cE cF;(try clear hb);(try clear hb2);(try clear hk);(try clear hi)));try go_wp2_with (first|(go_at_call 30;(with_reducible refine(regletref13_Right.calls k _ _ aU _ _ aX bA bB _ _ aQ false _ ?side1 ?side2 ?side3 ?side4 ?side5 ?side6 A5.out).mono ?_);(case side1=>exact gC (bD fN.out HB.out));(case side2=>exact fS.out);(case side3=>exact gC (bD gA.out HB.out));(case side4=>exact gD.out);(case side5=>exact gC (bD eJ.out HB.out));(case side6=>exact gE.out);rintro e w15 ⟨rfl,hb⟩;have cE:=aM (bF (gB bZ.out) hb);have cF:=aM (bG (gW HB.out) hb);clear bZ;clear HB;have bZ:=cE;have HB:=cF;clear cE cF;(try clear hb);(try clear hb2);(try clear hk);(try clear hi))))
   go_meet
   case rel=>exact⟨_,(true),(by first|rfl|(simp;done)|(simp [*];done)),H',⟨by first|omega|exact Nat.le_refl _⟩,⟨gB bZ.out⟩,⟨gW HB.out⟩⟩
 case rest=>
  clear HC3
  (try clear c1);(try clear c2);(try clear p2);(try clear c6);(try clear c7);(try clear yU);(try clear He);(try clear AD);(try clear nM);(try clear nN);(try clear uA);(try clear uB);(try clear uC);(try clear tS);(try clear tT);(try clear Ed);(try clear Ee);(try clear Ef);(try clear sT);(try clear sU);(try clear sV);(try clear sW)
  (try clear sX);(try clear kW);(try clear kX);(try clear nD);(try clear nE);(try clear nF);(try clear jP);(try clear jQ);(try clear lA);(try clear lB);(try clear lC);(try clear nO);(try clear nP);(try clear uD);(try clear uE);(try clear uF);(try clear tU);(try clear tV);(try clear Eg);(try clear Eh);(try clear Ei)
  (try clear sY);(try clear sZ);(try clear tA);(try clear tB);(try clear tC);(try clear kY);(try clear kZ);(try clear nG);(try clear nH);(try clear nI);(try clear jR);(try clear jS);(try clear lD);(try clear lE);(try clear lF)
  obtain⟨kq,Lv,rfl,HA,HJ2,bZ,HB⟩:=hcut
  cases kq with
  |zero=>exact absurd HA.out (by simp [regletref16_Right.j0])
  |succ AC=>
   have H:=HA.out;clear HA;simp only [regletref16_Right.j0] at H
   by_cases c16:Lv=true
   ·subst c16
    have H1:(some false)=some r:=by rw [if_pos rfl] at H;exact H
    clear H;have H:=H1;clear H1;obtain rfl:=Option.some.inj H;go_wp2
    repeat(go_quiet (fail);try go_wp2)
    go_ret
    exact⟨by first|rfl|(simp [errW_none,errW_some]<;>rfl)|(simp [*,errW_none,errW_some]<;>rfl),gW HB.out⟩
   ·replace c16:=Bool.eq_false_iff.mpr c16
    subst c16;have H1:(regletref16_Right.l0 AC l1 0 aU aX bA bB aQ)=some r:=by rw [if_neg (show ¬(false=true) by decide)] at H;exact H
    clear H;have H:=H1;clear H1;have H':=aM H;clear H;go_wp2
    repeat(go_quiet (fail);try go_wp2)
    go_loopg [5] AC (fun kq v5 w'=>∃(bU:Int),v5= .int .i64 bU∧Aside0 (regletref16_Right.l0 kq l1 bU aU aX bA bB aQ=some r)∧Aside0 (kq≤AC)∧Aside0 (w'.heap[dJ]?=some (.cells #[(.slice bM aU.length bO),(.slice bQ aX.length bR),.int .i64 bA,.int .i64 bB,(.slice bV aQ.length bS)] 26 (0,0)))∧Aside0 (Below w.heap.size w w'))
    case atStart=>exact⟨(0),(by first|rfl|(simp;done)|(simp [*];done)),H',⟨Nat.le_refl _⟩,⟨gB bZ.out⟩,⟨gW HB.out⟩⟩
    case round=>
     clear H'
     (try clear c1);(try clear c2);(try clear p2);(try clear c6);(try clear c7);(try clear yU);(try clear He);(try clear AD);(try clear c16);(try clear nM);(try clear nN);(try clear uA);(try clear uB);(try clear uC);(try clear tS);(try clear tT);(try clear Ed);(try clear Ee);(try clear Ef);(try clear sT);(try clear sU);(try clear sV)
     (try clear sW);(try clear sX);(try clear kW);(try clear kX);(try clear nD);(try clear nE);(try clear nF);(try clear jP);(try clear jQ);(try clear lA);(try clear lB);(try clear lC);(try clear nO);(try clear nP);(try clear uD);(try clear uE);(try clear uF);(try clear tU);(try clear tV);(try clear Eg);(try clear Eh)
     (try clear Ei);(try clear sY);(try clear sZ);(try clear tA);(try clear tB);(try clear tC);(try clear kY);(try clear kZ);(try clear nG);(try clear nH);(try clear nI);(try clear jR);(try clear jS);(try clear lD);(try clear lE);(try clear lF);(try clear p2)
     obtain⟨bU,rfl,HA,HK2,bZ,HB⟩:=hrel
     cases gk with
     |zero=>exact absurd HA.out (by simp [regletref16_Right.l0])
     |succ k2=>
      have H:=HA.out;clear HA;simp only [regletref16_Right.l0] at H
      by_cases c17:bU<(l1.length:Int)
      ·rw [if_pos c17] at H
       have mN:decide (bU<(l1.length:Int))=true:=decide_eq_true c17;clear c17
       by_cases c18:0≤bU
       rotate_left
       ·rw [if_neg c18] at H
        exact absurd H (by simp)
       rw [if_pos c18] at H;have Kl:decide (0≤bU)=true:=decide_eq_true c18;clear c18
       by_cases c19:((rd_L5 l1 bU).length:Int)=(wrap64 ((aX.length:Int)+1))
       ·rw [if_pos c19] at H
        have Xy:(((rd_L5 l1 bU).length:Int)==(wrap64 ((aX.length:Int)+1)))=true:=beq_iff_eq.mpr c19;have Xz:(((rd_L5 l1 bU).length:Int) !=(wrap64 ((aX.length:Int)+1)))=false:=bne_eq_false_iff_eq.mpr c19;clear c19;have H':=aM H;clear H;have p218:0≤(bU:Int):=of_decide_eq_true (by first|(with_reducible assumption)|assumption);have q218:bU<(l1.length:Int):=of_decide_eq_true (by first|(with_reducible assumption)|assumption);obtain⟨kO,AE,AF,e218,oI,vO,vP⟩:=at_L5 HR1.out bU p218 q218
        cases e218;replace oI:=(HB.out.cell (World.block_lt_of_cell? w _ oI)).trans oI;have Ts:=aM vP;have Tt:=aM vO;clear vP vO;replace p218:=eq_true p218;replace q218:=eq_true q218;have tW:wr.cell? ⟨dJ,0,none⟩=some (.slice bM aU.length bO):=(aG bZ.out 0).trans rfl;have tX:wr.cell? ⟨dJ,1,none⟩=some (.slice bQ aX.length bR):=(aG bZ.out 1).trans rfl;have Tu:wr.cell? ⟨dJ,2,none⟩=some (.int .i64 bA):=(aG bZ.out 2).trans rfl;have Tv:wr.cell? ⟨dJ,3,none⟩=some (.int .i64 bB):=(aG bZ.out 3).trans rfl;have Tw:wr.cell? ⟨dJ,4,none⟩=some (.slice bV aQ.length bS):=(aG bZ.out 4).trans rfl;have tY:=aH bZ.out 0;have tZ:=aH bZ.out 1;have Tx:=aH bZ.out 2;have Ty:=aH bZ.out 3;have Tz:=aH bZ.out 4;go_wp2
        repeat(go_quiet (fail);try go_wp2)
        go_loopg [6] k2 (fun kq v6 w'=>∃(eT:Int),v6= .int .i64 eT∧Aside0 (regletref16_Right.l1 kq l1 bU eT aU aX bA bB aQ=some r)∧Aside0 (kq≤k2)∧Aside0 (w'.heap[dJ]?=some (.cells #[(.slice bM aU.length bO),(.slice bQ aX.length bR),.int .i64 bA,.int .i64 bB,(.slice bV aQ.length bS)] 26 (0,0)))∧Aside0 (Below w.heap.size w w'))
        case atStart=>exact⟨(0),(by first|rfl|(simp;done)|(simp [*];done)),H',⟨Nat.le_refl _⟩,⟨gB bZ.out⟩,⟨gW HB.out⟩⟩
        case round=>
         clear H'
         (try clear c1);(try clear c2);(try clear p2);(try clear q2);(try clear hx2);(try clear c6);(try clear p6);(try clear c7);(try clear yU);(try clear He);(try clear AD);(try clear c16);(try clear c17);(try clear mN);(try clear c18);(try clear Kl);(try clear c19);(try clear Xy);(try clear Xz);(try clear nM);(try clear nN);(try clear uA);(try clear uB);(try clear uC)
         (try clear tS);(try clear tT);(try clear Ed);(try clear Ee);(try clear Ef);(try clear sT);(try clear sU);(try clear sV);(try clear sW);(try clear sX);(try clear kW);(try clear kX);(try clear nD);(try clear nE);(try clear nF);(try clear tW);(try clear tX);(try clear Tu);(try clear Tv);(try clear Tw);(try clear jP)
         (try clear jQ);(try clear lA);(try clear lB);(try clear lC);(try clear nO);(try clear nP);(try clear uD);(try clear uE);(try clear uF);(try clear tU);(try clear tV);(try clear Eg);(try clear Eh);(try clear Ei);(try clear sY);(try clear sZ);(try clear tA);(try clear tB);(try clear tC);(try clear kY);(try clear kZ)
         (try clear nG);(try clear nH);(try clear nI);(try clear tY);(try clear tZ);(try clear Tx);(try clear Ty);(try clear Tz);(try clear jR);(try clear jS);(try clear lD);(try clear lE);(try clear lF);(try clear oI);(try clear p2);(try clear p218);(try clear q218)
         obtain⟨eT,rfl,HA,HK3,bZ,HB⟩:=hrel
         cases gk with
         |zero=>exact absurd HA.out (by simp [regletref16_Right.l1])
         |succ k3=>
          have H:=HA.out;clear HA;simp only [regletref16_Right.l1] at H
          by_cases c21:0≤bU
          rotate_left
          ·rw [if_neg c21] at H
           exact absurd H (by simp)
          rw [if_pos c21] at H;have Ov:decide (0≤bU)=true:=decide_eq_true c21;clear c21
          by_cases c22:bU<(l1.length:Int)
          rotate_left
          ·rw [if_neg c22] at H
           exact absurd H (by simp)
          rw [if_pos c22] at H;have uO:decide (bU<(l1.length:Int))=true:=decide_eq_true c22;clear c22
          by_cases c23:eT<((rd_L5 l1 bU).length:Int)
          ·rw [if_pos c23] at H
           have Da:decide (eT<((rd_L5 l1 bU).length:Int))=true:=decide_eq_true c23;clear c23
           by_cases c24:0≤eT
           rotate_left
           ·rw [if_neg c24] at H
            exact absurd H (by simp)
           rw [if_pos c24] at H;have Cd:decide (0≤eT)=true:=decide_eq_true c24;clear c24
           by_cases c25:(rd (rd_L5 l1 bU) eT)<(-1)
           ·rw [if_pos c25] at H
            have Cy:decide ((rd (rd_L5 l1 bU) eT)<(-1))=true:=decide_eq_true c25;clear c25;obtain rfl:=Option.some.inj H;have p219:0≤(bU:Int):=of_decide_eq_true (by first|(with_reducible assumption)|assumption);have q219:bU<(l1.length:Int):=of_decide_eq_true (by first|(with_reducible assumption)|assumption);obtain⟨sP,Ck,Cl,e219,eI,iR,iS⟩:=at_L5 HR1.out bU p219 q219;obtain rfl:kO=sP:=(by injection e219);replace eI:=(HB.out.cell (World.block_lt_of_cell? w _ eI)).trans eI;have vQ:=aM iS;have vR:=aM iR;clear iS iR;replace p219:=eq_true p219;replace q219:=eq_true q219;have p220:0≤(bU:Int):=of_decide_eq_true (by first|(with_reducible assumption)|assumption);have q220:bU<(l1.length:Int):=of_decide_eq_true (by first|(with_reducible assumption)|assumption);obtain⟨vS,Ej,Ek,e220,fZ,jZ,kB⟩:=at_L5 HR1.out bU p220 q220;obtain rfl:kO=vS:=(by injection e220);replace fZ:=(HB.out.cell (World.block_lt_of_cell? w _ fZ)).trans fZ;have nQ:=aM kB;have Ah:=aM jZ;clear kB jZ;replace p220:=eq_true p220;replace q220:=eq_true q220;have ea_:=Option.some.inj (eI.symm.trans fZ);injection ea_ with ea_ en_ ec_
            subst ea_;subst ec_;clear en_;have p221:0≤(eT:Int):=of_decide_eq_true (by first|(with_reducible assumption)|assumption);have q221:eT<((rd_L5 l1 bU).length:Int):=of_decide_eq_true (by first|(with_reducible assumption)|assumption);obtain⟨Lw,e221,hO⟩:=Kd.at_int nQ.out eT p221 q221
            cases e221;replace hO:=(HB.out.cell (World.block_lt_of_cell? w _ hO)).trans hO;replace p221:=eq_true p221;replace q221:=eq_true q221;go_wp2
            repeat(go_quiet (fail);try go_wp2)
            go_ret
            exact⟨by first|rfl|(simp [errW_none,errW_some]<;>rfl)|(simp [*,errW_none,errW_some]<;>rfl),gW HB.out⟩
           ·rw [if_neg c25] at H
            have Cy:decide ((rd (rd_L5 l1 bU) eT)<(-1))=false:=decide_eq_false c25;clear c25
            by_cases c26:(rd (rd_L5 l1 bU) eT)≥(aQ.length:Int)
            ·rw [if_pos c26] at H
             have vF:decide ((aQ.length:Int)≤(rd (rd_L5 l1 bU) eT))=true:=decide_eq_true c26;clear c26;obtain rfl:=Option.some.inj H;have p219:0≤(bU:Int):=of_decide_eq_true (by first|(with_reducible assumption)|assumption);have q219:bU<(l1.length:Int):=of_decide_eq_true (by first|(with_reducible assumption)|assumption);obtain⟨sP,Ck,Cl,e219,eI,iR,iS⟩:=at_L5 HR1.out bU p219 q219;obtain rfl:kO=sP:=(by injection e219);replace eI:=(HB.out.cell (World.block_lt_of_cell? w _ eI)).trans eI;have vQ:=aM iS;have vR:=aM iR;clear iS iR;replace p219:=eq_true p219;replace q219:=eq_true q219;have p220:0≤(bU:Int):=of_decide_eq_true (by first|(with_reducible assumption)|assumption);have q220:bU<(l1.length:Int):=of_decide_eq_true (by first|(with_reducible assumption)|assumption);obtain⟨vS,Ej,Ek,e220,fZ,jZ,kB⟩:=at_L5 HR1.out bU p220 q220;obtain rfl:kO=vS:=(by injection e220);replace fZ:=(HB.out.cell (World.block_lt_of_cell? w _ fZ)).trans fZ;have nQ:=aM kB;have Ah:=aM jZ;clear kB jZ;replace p220:=eq_true p220;replace q220:=eq_true q220;have ea_:=Option.some.inj (eI.symm.trans fZ);injection ea_ with ea_ en_ ec_
             subst ea_;subst ec_;clear en_;have p221:0≤(eT:Int):=of_decide_eq_true (by first|(with_reducible assumption)|assumption);have q221:eT<((rd_L5 l1 bU).length:Int):=of_decide_eq_true (by first|(with_reducible assumption)|assumption);obtain⟨Lw,e221,hO⟩:=Kd.at_int nQ.out eT p221 q221
             cases e221;replace hO:=(HB.out.cell (World.block_lt_of_cell? w _ hO)).trans hO;replace p221:=eq_true p221;replace q221:=eq_true q221;have p222:0≤(bU:Int):=of_decide_eq_true (by first|(with_reducible assumption)|assumption);have q222:bU<(l1.length:Int):=of_decide_eq_true (by first|(with_reducible assumption)|assumption);obtain⟨Cm,Jy,Jz,e222,hU,lX,lY⟩:=at_L5 HR1.out bU p222 q222;obtain rfl:kO=Cm:=(by injection e222);replace hU:=(HB.out.cell (World.block_lt_of_cell? w _ hU)).trans hU;have rN:=aM lY;have El:=aM lX;clear lY lX;replace p222:=eq_true p222;replace q222:=eq_true q222;have ea_:=Option.some.inj (eI.symm.trans hU);injection ea_ with ea_ en_ ec_
             subst ea_;subst ec_;clear en_;have p223:0≤(eT:Int):=of_decide_eq_true (by first|(with_reducible assumption)|assumption);have q223:eT<((rd_L5 l1 bU).length:Int):=of_decide_eq_true (by first|(with_reducible assumption)|assumption);obtain⟨Pe,e223,jI⟩:=Kd.at_int rN.out eT p223 q223
             cases e223;replace jI:=(HB.out.cell (World.block_lt_of_cell? w _ jI)).trans jI;replace p223:=eq_true p223;replace q223:=eq_true q223;have tD:wr.cell? ⟨dJ,0,none⟩=some (.slice bM aU.length bO):=(aG bZ.out 0).trans rfl;have tE:wr.cell? ⟨dJ,1,none⟩=some (.slice bQ aX.length bR):=(aG bZ.out 1).trans rfl;have vT:wr.cell? ⟨dJ,2,none⟩=some (.int .i64 bA):=(aG bZ.out 2).trans rfl;have vU:wr.cell? ⟨dJ,3,none⟩=some (.int .i64 bB):=(aG bZ.out 3).trans rfl;have vV:wr.cell? ⟨dJ,4,none⟩=some (.slice bV aQ.length bS):=(aG bZ.out 4).trans rfl;have tF:=aH bZ.out 0;have tG:=aH bZ.out 1;have vW:=aH bZ.out 2;have vX:=aH bZ.out 3;have vY:=aH bZ.out 4;go_wp2
             repeat(go_quiet (fail);try go_wp2)
             go_ret
             exact⟨by first|rfl|(simp [errW_none,errW_some]<;>rfl)|(simp [*,errW_none,errW_some]<;>rfl),gW HB.out⟩
            ·rw [if_neg c26] at H
             have vF:decide ((aQ.length:Int)≤(rd (rd_L5 l1 bU) eT))=false:=decide_eq_false c26;clear c26
             by_cases c28:(rd (rd_L5 l1 bU) eT)≥0
             ·rw [if_pos c28] at H
              have Lx:decide (0≤(rd (rd_L5 l1 bU) eT))=true:=decide_eq_true c28;clear c28
              by_cases c29:0≤(rd (rd_L5 l1 bU) eT)
              rotate_left
              ·rw [if_neg c29] at H
               exact absurd H (by simp)
              rw [if_pos c29] at H;have TZ:decide (0≤(rd (rd_L5 l1 bU) eT))=true:=decide_eq_true c29;clear c29
              by_cases c30:(rd (rd_L5 l1 bU) eT)<(aQ.length:Int)
              rotate_left
              ·rw [if_neg c30] at H
               exact absurd H (by simp)
              rw [if_pos c30] at H;have UA:decide ((rd (rd_L5 l1 bU) eT)<(aQ.length:Int))=true:=decide_eq_true c30;clear c30
              by_cases c31:((rd_T35 aQ (rd (rd_L5 l1 bU) eT)).f0)=bU
              ·rw [if_pos c31] at H
               have Pf:(((rd_T35 aQ (rd (rd_L5 l1 bU) eT)).f0)==bU)=true:=beq_iff_eq.mpr c31;have Pg:(((rd_T35 aQ (rd (rd_L5 l1 bU) eT)).f0) !=bU)=false:=bne_eq_false_iff_eq.mpr c31;clear c31;have H':=aM H;clear H;have p219:0≤(bU:Int):=of_decide_eq_true (by first|(with_reducible assumption)|assumption);have q219:bU<(l1.length:Int):=of_decide_eq_true (by first|(with_reducible assumption)|assumption);obtain⟨sP,Ck,Cl,e219,eI,iR,iS⟩:=at_L5 HR1.out bU p219 q219;obtain rfl:kO=sP:=(by injection e219);replace eI:=(HB.out.cell (World.block_lt_of_cell? w _ eI)).trans eI;have vQ:=aM iS;have vR:=aM iR;clear iS iR;replace p219:=eq_true p219;replace q219:=eq_true q219;have p220:0≤(bU:Int):=of_decide_eq_true (by first|(with_reducible assumption)|assumption);have q220:bU<(l1.length:Int):=of_decide_eq_true (by first|(with_reducible assumption)|assumption);obtain⟨vS,Ej,Ek,e220,fZ,jZ,kB⟩:=at_L5 HR1.out bU p220 q220;obtain rfl:kO=vS:=(by injection e220);replace fZ:=(HB.out.cell (World.block_lt_of_cell? w _ fZ)).trans fZ;have nQ:=aM kB;have Ah:=aM jZ;clear kB jZ;replace p220:=eq_true p220;replace q220:=eq_true q220;have ea_:=Option.some.inj (eI.symm.trans fZ);injection ea_ with ea_ en_ ec_
               subst ea_;subst ec_;clear en_;have p221:0≤(eT:Int):=of_decide_eq_true (by first|(with_reducible assumption)|assumption);have q221:eT<((rd_L5 l1 bU).length:Int):=of_decide_eq_true (by first|(with_reducible assumption)|assumption);obtain⟨Lw,e221,hO⟩:=Kd.at_int nQ.out eT p221 q221
               cases e221;replace hO:=(HB.out.cell (World.block_lt_of_cell? w _ hO)).trans hO;replace p221:=eq_true p221;replace q221:=eq_true q221;have p222:0≤(bU:Int):=of_decide_eq_true (by first|(with_reducible assumption)|assumption);have q222:bU<(l1.length:Int):=of_decide_eq_true (by first|(with_reducible assumption)|assumption);obtain⟨Cm,Jy,Jz,e222,hU,lX,lY⟩:=at_L5 HR1.out bU p222 q222;obtain rfl:kO=Cm:=(by injection e222);replace hU:=(HB.out.cell (World.block_lt_of_cell? w _ hU)).trans hU;have rN:=aM lY;have El:=aM lX;clear lY lX;replace p222:=eq_true p222;replace q222:=eq_true q222;have ea_:=Option.some.inj (eI.symm.trans hU);injection ea_ with ea_ en_ ec_
               subst ea_;subst ec_;clear en_;have p223:0≤(eT:Int):=of_decide_eq_true (by first|(with_reducible assumption)|assumption);have q223:eT<((rd_L5 l1 bU).length:Int):=of_decide_eq_true (by first|(with_reducible assumption)|assumption);obtain⟨Pe,e223,jI⟩:=Kd.at_int rN.out eT p223 q223
               cases e223;replace jI:=(HB.out.cell (World.block_lt_of_cell? w _ jI)).trans jI;replace p223:=eq_true p223;replace q223:=eq_true q223;have vZ:wr.cell? ⟨dJ,0,none⟩=some (.slice bM aU.length bO):=(aG bZ.out 0).trans rfl;have wA:wr.cell? ⟨dJ,1,none⟩=some (.slice bQ aX.length bR):=(aG bZ.out 1).trans rfl;have wB:wr.cell? ⟨dJ,2,none⟩=some (.int .i64 bA):=(aG bZ.out 2).trans rfl;have wC:wr.cell? ⟨dJ,3,none⟩=some (.int .i64 bB):=(aG bZ.out 3).trans rfl;have wD:wr.cell? ⟨dJ,4,none⟩=some (.slice bV aQ.length bS):=(aG bZ.out 4).trans rfl;have wE:=aH bZ.out 0;have wF:=aH bZ.out 1;have wG:=aH bZ.out 2;have wH:=aH bZ.out 3;have wI:=aH bZ.out 4;have p224:0≤(bU:Int):=of_decide_eq_true (by first|(with_reducible assumption)|assumption);have q224:bU<(l1.length:Int):=of_decide_eq_true (by first|(with_reducible assumption)|assumption);obtain⟨Hu,Ph,Pi,e224,kD,oJ,oK⟩:=at_L5 HR1.out bU p224 q224;obtain rfl:kO=Hu:=(by injection e224);replace kD:=(HB.out.cell (World.block_lt_of_cell? w _ kD)).trans kD;have wJ:=aM oK;have Ly:=aM oJ;clear oK oJ;replace p224:=eq_true p224;replace q224:=eq_true q224;have ea_:=Option.some.inj (eI.symm.trans kD);injection ea_ with ea_ en_ ec_
               subst ea_;subst ec_;clear en_;have p225:0≤(eT:Int):=of_decide_eq_true (by first|(with_reducible assumption)|assumption);have q225:eT<((rd_L5 l1 bU).length:Int):=of_decide_eq_true (by first|(with_reducible assumption)|assumption);obtain⟨Ya,e225,lZ⟩:=Kd.at_int wJ.out eT p225 q225
               cases e225;replace lZ:=(HB.out.cell (World.block_lt_of_cell? w _ lZ)).trans lZ;replace p225:=eq_true p225;replace q225:=eq_true q225;have p226:0≤(bU:Int):=of_decide_eq_true (by first|(with_reducible assumption)|assumption);have q226:bU<(l1.length:Int):=of_decide_eq_true (by first|(with_reducible assumption)|assumption);obtain⟨Pj,AG,AH,e226,nR,wK,wL⟩:=at_L5 HR1.out bU p226 q226;obtain rfl:kO=Pj:=(by injection e226);replace nR:=(HB.out.cell (World.block_lt_of_cell? w _ nR)).trans nR;have Em:=aM wL;have Ua:=aM wK;clear wL wK;replace p226:=eq_true p226;replace q226:=eq_true q226;have ea_:=Option.some.inj (eI.symm.trans nR);injection ea_ with ea_ en_ ec_
               subst ea_;subst ec_;clear en_;have p227:0≤(eT:Int):=of_decide_eq_true (by first|(with_reducible assumption)|assumption);have q227:eT<((rd_L5 l1 bU).length:Int):=of_decide_eq_true (by first|(with_reducible assumption)|assumption);obtain⟨EH,e227,rO⟩:=Kd.at_int Em.out eT p227 q227
               cases e227;replace rO:=(HB.out.cell (World.block_lt_of_cell? w _ rO)).trans rO;replace p227:=eq_true p227;replace q227:=eq_true q227;have p228:0≤((rd (rd_L5 l1 bU) eT):Int):=of_decide_eq_true (by first|(with_reducible assumption)|assumption);have q228:(rd (rd_L5 l1 bU) eT)<(aQ.length:Int):=of_decide_eq_true (by first|(with_reducible assumption)|assumption);obtain⟨EI,AI,AJ,e228,rP,rQ,wM,wN⟩:=at_T35 eJ.out (rd (rd_L5 l1 bU) eT) p228 q228
               cases e228;replace rP:=(HB.out.cell (World.block_lt_of_cell? w _ rP)).trans rP;replace rQ:=(HB.out.cell (World.block_lt_of_cell? w _ rQ)).trans rQ;have Ub:=aM wN;have Uc:=aM wM;clear wN wM;replace p228:=eq_true p228;replace q228:=eq_true q228;go_wp2
               repeat(go_quiet (fail);try go_wp2)
               go_roundg k3
               case measure=>have:=HJ2.out;have:=HK2.out;have:=HK3.out;omega
               case rel=>exact⟨(wrap64 (eT+1)),(by first|rfl|(simp;done)|(simp [*];done)),H',⟨by have:=HJ2.out;have:=HK2.out;have:=HK3.out;omega⟩,⟨gB bZ.out⟩,⟨gW HB.out⟩⟩
              ·rw [if_neg c31] at H
               have Pf:(((rd_T35 aQ (rd (rd_L5 l1 bU) eT)).f0)==bU)=false:=beq_eq_false_iff_ne.mpr c31;have Pg:(((rd_T35 aQ (rd (rd_L5 l1 bU) eT)).f0) !=bU)=true:=bne_iff_ne.mpr c31;obtain rfl:=Option.some.inj H;have p219:0≤(bU:Int):=of_decide_eq_true (by first|(with_reducible assumption)|assumption);have q219:bU<(l1.length:Int):=of_decide_eq_true (by first|(with_reducible assumption)|assumption);obtain⟨sP,Ck,Cl,e219,eI,iR,iS⟩:=at_L5 HR1.out bU p219 q219;obtain rfl:kO=sP:=(by injection e219);replace eI:=(HB.out.cell (World.block_lt_of_cell? w _ eI)).trans eI;have vQ:=aM iS;have vR:=aM iR;clear iS iR;replace p219:=eq_true p219;replace q219:=eq_true q219;have p220:0≤(bU:Int):=of_decide_eq_true (by first|(with_reducible assumption)|assumption);have q220:bU<(l1.length:Int):=of_decide_eq_true (by first|(with_reducible assumption)|assumption);obtain⟨vS,Ej,Ek,e220,fZ,jZ,kB⟩:=at_L5 HR1.out bU p220 q220;obtain rfl:kO=vS:=(by injection e220);replace fZ:=(HB.out.cell (World.block_lt_of_cell? w _ fZ)).trans fZ;have nQ:=aM kB;have Ah:=aM jZ;clear kB jZ;replace p220:=eq_true p220;replace q220:=eq_true q220;have ea_:=Option.some.inj (eI.symm.trans fZ);injection ea_ with ea_ en_ ec_
               subst ea_;subst ec_;clear en_;have p221:0≤(eT:Int):=of_decide_eq_true (by first|(with_reducible assumption)|assumption);have q221:eT<((rd_L5 l1 bU).length:Int):=of_decide_eq_true (by first|(with_reducible assumption)|assumption);obtain⟨Lw,e221,hO⟩:=Kd.at_int nQ.out eT p221 q221
               cases e221;replace hO:=(HB.out.cell (World.block_lt_of_cell? w _ hO)).trans hO;replace p221:=eq_true p221;replace q221:=eq_true q221;have p222:0≤(bU:Int):=of_decide_eq_true (by first|(with_reducible assumption)|assumption);have q222:bU<(l1.length:Int):=of_decide_eq_true (by first|(with_reducible assumption)|assumption);obtain⟨Cm,Jy,Jz,e222,hU,lX,lY⟩:=at_L5 HR1.out bU p222 q222;obtain rfl:kO=Cm:=(by injection e222);replace hU:=(HB.out.cell (World.block_lt_of_cell? w _ hU)).trans hU;have rN:=aM lY;have El:=aM lX;clear lY lX;replace p222:=eq_true p222;replace q222:=eq_true q222;have ea_:=Option.some.inj (eI.symm.trans hU);injection ea_ with ea_ en_ ec_
               subst ea_;subst ec_;clear en_;have p223:0≤(eT:Int):=of_decide_eq_true (by first|(with_reducible assumption)|assumption);have q223:eT<((rd_L5 l1 bU).length:Int):=of_decide_eq_true (by first|(with_reducible assumption)|assumption);obtain⟨Pe,e223,jI⟩:=Kd.at_int rN.out eT p223 q223
               cases e223;replace jI:=(HB.out.cell (World.block_lt_of_cell? w _ jI)).trans jI;replace p223:=eq_true p223;replace q223:=eq_true q223;have rE:wr.cell? ⟨dJ,0,none⟩=some (.slice bM aU.length bO):=(aG bZ.out 0).trans rfl;have rF:wr.cell? ⟨dJ,1,none⟩=some (.slice bQ aX.length bR):=(aG bZ.out 1).trans rfl;have tI:wr.cell? ⟨dJ,2,none⟩=some (.int .i64 bA):=(aG bZ.out 2).trans rfl;have tJ:wr.cell? ⟨dJ,3,none⟩=some (.int .i64 bB):=(aG bZ.out 3).trans rfl;have tK:wr.cell? ⟨dJ,4,none⟩=some (.slice bV aQ.length bS):=(aG bZ.out 4).trans rfl;have rG:=aH bZ.out 0;have rH:=aH bZ.out 1;have tL:=aH bZ.out 2;have tM:=aH bZ.out 3;have tN:=aH bZ.out 4;have p224:0≤(bU:Int):=of_decide_eq_true (by first|(with_reducible assumption)|assumption);have q224:bU<(l1.length:Int):=of_decide_eq_true (by first|(with_reducible assumption)|assumption);obtain⟨Hu,Ph,Pi,e224,kD,oJ,oK⟩:=at_L5 HR1.out bU p224 q224;obtain rfl:kO=Hu:=(by injection e224);replace kD:=(HB.out.cell (World.block_lt_of_cell? w _ kD)).trans kD;have wJ:=aM oK;have Ly:=aM oJ;clear oK oJ;replace p224:=eq_true p224;replace q224:=eq_true q224;have ea_:=Option.some.inj (eI.symm.trans kD);injection ea_ with ea_ en_ ec_
               subst ea_;subst ec_;clear en_;have p225:0≤(eT:Int):=of_decide_eq_true (by first|(with_reducible assumption)|assumption);have q225:eT<((rd_L5 l1 bU).length:Int):=of_decide_eq_true (by first|(with_reducible assumption)|assumption);obtain⟨Ya,e225,lZ⟩:=Kd.at_int wJ.out eT p225 q225
               cases e225;replace lZ:=(HB.out.cell (World.block_lt_of_cell? w _ lZ)).trans lZ;replace p225:=eq_true p225;replace q225:=eq_true q225;have p226:0≤(bU:Int):=of_decide_eq_true (by first|(with_reducible assumption)|assumption);have q226:bU<(l1.length:Int):=of_decide_eq_true (by first|(with_reducible assumption)|assumption);obtain⟨Pj,AG,AH,e226,nR,wK,wL⟩:=at_L5 HR1.out bU p226 q226;obtain rfl:kO=Pj:=(by injection e226);replace nR:=(HB.out.cell (World.block_lt_of_cell? w _ nR)).trans nR;have Em:=aM wL;have Ua:=aM wK;clear wL wK;replace p226:=eq_true p226;replace q226:=eq_true q226;have ea_:=Option.some.inj (eI.symm.trans nR);injection ea_ with ea_ en_ ec_
               subst ea_;subst ec_;clear en_;have p227:0≤(eT:Int):=of_decide_eq_true (by first|(with_reducible assumption)|assumption);have q227:eT<((rd_L5 l1 bU).length:Int):=of_decide_eq_true (by first|(with_reducible assumption)|assumption);obtain⟨EH,e227,rO⟩:=Kd.at_int Em.out eT p227 q227
               cases e227;replace rO:=(HB.out.cell (World.block_lt_of_cell? w _ rO)).trans rO;replace p227:=eq_true p227;replace q227:=eq_true q227;have p228:0≤((rd (rd_L5 l1 bU) eT):Int):=of_decide_eq_true (by first|(with_reducible assumption)|assumption);have q228:(rd (rd_L5 l1 bU) eT)<(aQ.length:Int):=of_decide_eq_true (by first|(with_reducible assumption)|assumption);obtain⟨EI,AI,AJ,e228,rP,rQ,wM,wN⟩:=at_T35 eJ.out (rd (rd_L5 l1 bU) eT) p228 q228
               cases e228;replace rP:=(HB.out.cell (World.block_lt_of_cell? w _ rP)).trans rP;replace rQ:=(HB.out.cell (World.block_lt_of_cell? w _ rQ)).trans rQ;have Ub:=aM wN;have Uc:=aM wM;clear wN wM;replace p228:=eq_true p228;replace q228:=eq_true q228;go_wp2
               repeat(go_quiet (fail);try go_wp2)
               go_ret
               exact⟨by first|rfl|(simp [errW_none,errW_some]<;>rfl)|(simp [*,errW_none,errW_some]<;>rfl),gW HB.out⟩
             ·rw [if_neg c28] at H
              have Lx:decide (0≤(rd (rd_L5 l1 bU) eT))=false:=decide_eq_false c28;clear c28;have H':=aM H;clear H;have p219:0≤(bU:Int):=of_decide_eq_true (by first|(with_reducible assumption)|assumption);have q219:bU<(l1.length:Int):=of_decide_eq_true (by first|(with_reducible assumption)|assumption);obtain⟨sP,Ck,Cl,e219,eI,iR,iS⟩:=at_L5 HR1.out bU p219 q219;obtain rfl:kO=sP:=(by injection e219);replace eI:=(HB.out.cell (World.block_lt_of_cell? w _ eI)).trans eI;have vQ:=aM iS;have vR:=aM iR;clear iS iR;replace p219:=eq_true p219;replace q219:=eq_true q219;have p220:0≤(bU:Int):=of_decide_eq_true (by first|(with_reducible assumption)|assumption);have q220:bU<(l1.length:Int):=of_decide_eq_true (by first|(with_reducible assumption)|assumption);obtain⟨vS,Ej,Ek,e220,fZ,jZ,kB⟩:=at_L5 HR1.out bU p220 q220;obtain rfl:kO=vS:=(by injection e220);replace fZ:=(HB.out.cell (World.block_lt_of_cell? w _ fZ)).trans fZ;have nQ:=aM kB;have Ah:=aM jZ;clear kB jZ;replace p220:=eq_true p220;replace q220:=eq_true q220;have ea_:=Option.some.inj (eI.symm.trans fZ);injection ea_ with ea_ en_ ec_
              subst ea_;subst ec_;clear en_;have p221:0≤(eT:Int):=of_decide_eq_true (by first|(with_reducible assumption)|assumption);have q221:eT<((rd_L5 l1 bU).length:Int):=of_decide_eq_true (by first|(with_reducible assumption)|assumption);obtain⟨Lw,e221,hO⟩:=Kd.at_int nQ.out eT p221 q221
              cases e221;replace hO:=(HB.out.cell (World.block_lt_of_cell? w _ hO)).trans hO;replace p221:=eq_true p221;replace q221:=eq_true q221;have p222:0≤(bU:Int):=of_decide_eq_true (by first|(with_reducible assumption)|assumption);have q222:bU<(l1.length:Int):=of_decide_eq_true (by first|(with_reducible assumption)|assumption);obtain⟨Cm,Jy,Jz,e222,hU,lX,lY⟩:=at_L5 HR1.out bU p222 q222;obtain rfl:kO=Cm:=(by injection e222);replace hU:=(HB.out.cell (World.block_lt_of_cell? w _ hU)).trans hU;have rN:=aM lY;have El:=aM lX;clear lY lX;replace p222:=eq_true p222;replace q222:=eq_true q222;have ea_:=Option.some.inj (eI.symm.trans hU);injection ea_ with ea_ en_ ec_
              subst ea_;subst ec_;clear en_;have p223:0≤(eT:Int):=of_decide_eq_true (by first|(with_reducible assumption)|assumption);have q223:eT<((rd_L5 l1 bU).length:Int):=of_decide_eq_true (by first|(with_reducible assumption)|assumption);obtain⟨Pe,e223,jI⟩:=Kd.at_int rN.out eT p223 q223
              cases e223;replace jI:=(HB.out.cell (World.block_lt_of_cell? w _ jI)).trans jI;replace p223:=eq_true p223;replace q223:=eq_true q223;have qZ:wr.cell? ⟨dJ,0,none⟩=some (.slice bM aU.length bO):=(aG bZ.out 0).trans rfl;have rA:wr.cell? ⟨dJ,1,none⟩=some (.slice bQ aX.length bR):=(aG bZ.out 1).trans rfl;have wO:wr.cell? ⟨dJ,2,none⟩=some (.int .i64 bA):=(aG bZ.out 2).trans rfl;have wP:wr.cell? ⟨dJ,3,none⟩=some (.int .i64 bB):=(aG bZ.out 3).trans rfl;have wQ:wr.cell? ⟨dJ,4,none⟩=some (.slice bV aQ.length bS):=(aG bZ.out 4).trans rfl;have rB:=aH bZ.out 0;have rC:=aH bZ.out 1;have wR:=aH bZ.out 2;have wS:=aH bZ.out 3;have wT:=aH bZ.out 4;have p224:0≤(bU:Int):=of_decide_eq_true (by first|(with_reducible assumption)|assumption);have q224:bU<(l1.length:Int):=of_decide_eq_true (by first|(with_reducible assumption)|assumption);obtain⟨Hu,Ph,Pi,e224,kD,oJ,oK⟩:=at_L5 HR1.out bU p224 q224;obtain rfl:kO=Hu:=(by injection e224);replace kD:=(HB.out.cell (World.block_lt_of_cell? w _ kD)).trans kD;have wJ:=aM oK;have Ly:=aM oJ;clear oK oJ;replace p224:=eq_true p224;replace q224:=eq_true q224;have ea_:=Option.some.inj (eI.symm.trans kD);injection ea_ with ea_ en_ ec_
              subst ea_;subst ec_;clear en_;have p225:0≤(eT:Int):=of_decide_eq_true (by first|(with_reducible assumption)|assumption);have q225:eT<((rd_L5 l1 bU).length:Int):=of_decide_eq_true (by first|(with_reducible assumption)|assumption);obtain⟨Ya,e225,lZ⟩:=Kd.at_int wJ.out eT p225 q225
              cases e225;replace lZ:=(HB.out.cell (World.block_lt_of_cell? w _ lZ)).trans lZ;replace p225:=eq_true p225;replace q225:=eq_true q225;go_wp2
              repeat(go_quiet (fail);try go_wp2)
              go_roundg k3
              case measure=>have:=HJ2.out;have:=HK2.out;have:=HK3.out;omega
              case rel=>exact⟨(wrap64 (eT+1)),(by first|rfl|(simp;done)|(simp [*];done)),H',⟨by have:=HJ2.out;have:=HK2.out;have:=HK3.out;omega⟩,⟨gB bZ.out⟩,⟨gW HB.out⟩⟩
          ·rw [if_neg c23] at H
           have Da:decide (eT<((rd_L5 l1 bU).length:Int))=false:=decide_eq_false c23;clear c23;have H':=aM H;clear H;have p219:0≤(bU:Int):=of_decide_eq_true (by first|(with_reducible assumption)|assumption);have q219:bU<(l1.length:Int):=of_decide_eq_true (by first|(with_reducible assumption)|assumption);obtain⟨sP,Ck,Cl,e219,eI,iR,iS⟩:=at_L5 HR1.out bU p219 q219;obtain rfl:kO=sP:=(by injection e219);replace eI:=(HB.out.cell (World.block_lt_of_cell? w _ eI)).trans eI;have vQ:=aM iS;have vR:=aM iR;clear iS iR;replace p219:=eq_true p219;replace q219:=eq_true q219;go_wp2
           repeat(go_quiet (fail);try go_wp2)
           go_roundg k3
           case measure=>have:=HJ2.out;have:=HK2.out;have:=HK3.out;omega
           case rel=>exact⟨(wrap64 (bU+1)),(by first|rfl|(simp;done)|(simp [*];done)),H',⟨by have:=HJ2.out;have:=HK2.out;have:=HK3.out;omega⟩,⟨gB bZ.out⟩,⟨gW HB.out⟩⟩
       ·rw [if_neg c19] at H
        have Xy:(((rd_L5 l1 bU).length:Int)==(wrap64 ((aX.length:Int)+1)))=false:=beq_eq_false_iff_ne.mpr c19;have Xz:(((rd_L5 l1 bU).length:Int) !=(wrap64 ((aX.length:Int)+1)))=true:=bne_iff_ne.mpr c19;obtain rfl:=Option.some.inj H;have p218:0≤(bU:Int):=of_decide_eq_true (by first|(with_reducible assumption)|assumption);have q218:bU<(l1.length:Int):=of_decide_eq_true (by first|(with_reducible assumption)|assumption);obtain⟨kO,AE,AF,e218,oI,vO,vP⟩:=at_L5 HR1.out bU p218 q218
        cases e218;replace oI:=(HB.out.cell (World.block_lt_of_cell? w _ oI)).trans oI;have Ts:=aM vP;have Tt:=aM vO;clear vP vO;replace p218:=eq_true p218;replace q218:=eq_true q218;have mZ:wr.cell? ⟨dJ,0,none⟩=some (.slice bM aU.length bO):=(aG bZ.out 0).trans rfl;have mK:wr.cell? ⟨dJ,1,none⟩=some (.slice bQ aX.length bR):=(aG bZ.out 1).trans rfl;have uT:wr.cell? ⟨dJ,2,none⟩=some (.int .i64 bA):=(aG bZ.out 2).trans rfl;have uU:wr.cell? ⟨dJ,3,none⟩=some (.int .i64 bB):=(aG bZ.out 3).trans rfl;have uV:wr.cell? ⟨dJ,4,none⟩=some (.slice bV aQ.length bS):=(aG bZ.out 4).trans rfl;have nA:=aH bZ.out 0;have nB:=aH bZ.out 1;have uW:=aH bZ.out 2;have uX:=aH bZ.out 3;have uY:=aH bZ.out 4;go_wp2
        repeat(go_quiet (fail);try go_wp2)
        go_ret
        exact⟨by first|rfl|(simp [errW_none,errW_some]<;>rfl)|(simp [*,errW_none,errW_some]<;>rfl),gW HB.out⟩
      ·rw [if_neg c17] at H
       have mN:decide (bU<(l1.length:Int))=false:=decide_eq_false c17;clear c17;obtain rfl:=Option.some.inj H;go_wp2
       repeat(go_quiet (fail);try go_wp2)
       go_ret
       exact⟨by first|rfl|(simp [errW_none,errW_some]<;>rfl)|(simp [*,errW_none,errW_some]<;>rfl),gW HB.out⟩
end Go.Proofs.Ytapjfnfengefpaa.P
end
