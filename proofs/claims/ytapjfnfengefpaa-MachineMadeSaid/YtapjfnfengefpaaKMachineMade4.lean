/- Packed texts of this claim: the walks of the functions, and their plain laws; see the claim's last text. -/
import Derived.Below
import Derived.WalkKit
import Derived.Deep.LoopGhost
import Derived.Shelf.Abstract
import Derived.Laws.BitsLemmas
import Derived.WalkMore
import Derived.Deep.RegionHeld3
import Derived.Lib.SliceRun
import Derived.RangeFuncNested
import Derived.RangeFuncBound
import Derived.RangeFuncCalls
import Derived.RangeFuncLeaves
import Derived.OwnWalkIn
import Derived.TacticsInMore
import Derived.LoopNIn
import Derived.LoopIn
import Derived.Maps.OwnIn
import Derived.OrdersIn
import Derived.Test.YtapjfnfengefpaaKMachineMade3
section
namespace Go.Proofs.Ytapjfnfengefpaa.P
open Go.RowKit Go.Proofs.YtapjfnfengefpaaW.PrintWords Go.Proofs.YtapjfnfengefpaaW.PrintLast Go.Proofs.YtapjfnfengefpaaW.PrintMore
set_option linter.unusedVariables false
set_option linter.unusedSimpArgs false
def okSym (nn nt:Nat) (x:S43):Bool:=decide (0≤x.f1) && (if x.f0=true then decide (x.f1<(nt:Int)) else decide (x.f1<(nn:Int)))
def okProd (nn nt:Nat) (x:S35):Bool:=decide (0≤x.f0) && decide (x.f0<(nn:Int)) && x.f1.all (okSym nn nt)
theorem symbols1_any (x:S43) (B:Nat) (W:World) (A0 A1:Option Addr) (n0 n1 c0 c1:Nat)
 (h0:W.cell? ⟨B,0,none⟩=some (.slice A0 n0 c0)) (h1:W.cell? ⟨B,1,none⟩=some (.slice A1 n1 c1)) (hB:B<W.heap.size):
 Calls Try.prog 61 #[.agg #[.bool x.f0,.int .i64 x.f1],.pointer (some ⟨B,0,none⟩)] W fun e w'=>e= .returned (.bool (!okSym n0 n1 x))∧Below W.heap.size W w':=by
 have hne:B≠W.heap.size:=by omega
 obtain⟨b,n⟩:=x
 unfold okSym
 by_cases c0:n<0
 ·have d0:decide (n<0)=true:=decide_eq_true c0
  have d1:decide (0≤n)=false:=decide_eq_false (by omega)
  cases b<;>(go_enter Try.func61,Try.ntmps61;go_wp2;go_ret;exact⟨rfl,(Below.refl _ W).alloc (Nat.le_refl _) _⟩)
 have d0:decide (n<0)=false:=decide_eq_false c0
 have d1:decide (0≤n)=true:=decide_eq_true (by omega)
 cases b with
 |true=>
  by_cases c2:(n1:Int)≤n
  ·have d2:decide ((n1:Int)≤n)=true:=decide_eq_true c2
   have d3:decide (n<(n1:Int))=false:=decide_eq_false (by omega)
   go_enter Try.func61,Try.ntmps61
   go_wp2
   go_ret
   exact⟨rfl,(Below.refl _ W).alloc (Nat.le_refl _) _⟩
  ·have d2:decide ((n1:Int)≤n)=false:=decide_eq_false c2
   have d3:decide (n<(n1:Int))=true:=decide_eq_true (by omega)
   go_enter Try.func61,Try.ntmps61
   go_wp2
   go_ret
   exact⟨rfl,(Below.refl _ W).alloc (Nat.le_refl _) _⟩
 |false=>
  by_cases c2:(n0:Int)≤n
  ·have d2:decide ((n0:Int)≤n)=true:=decide_eq_true c2
   have d3:decide (n<(n0:Int))=false:=decide_eq_false (by omega)
   go_enter Try.func61,Try.ntmps61
   go_wp2
   go_ret
   exact⟨rfl,(Below.refl _ W).alloc (Nat.le_refl _) _⟩
  ·have d2:decide ((n0:Int)≤n)=false:=decide_eq_false c2
   have d3:decide (n<(n0:Int))=true:=decide_eq_true (by omega)
   go_enter Try.func61,Try.ntmps61
   go_wp2
   go_ret
   exact⟨rfl,(Below.refl _ W).alloc (Nat.le_refl _) _⟩
theorem indexSym_any (p:S43→Bool) (g:Nat) (lb:Array Value) (eg:∀args w,(callFunc g args).run Try.prog w= .ok (.enter g args) w) (A:Option Addr) (c:Nat) (zs:List S43) (w:World)
 (hr:Kd.C k43 w A zs.length zs) (hbig:zs.length≤9223372036854775807) (hp:∀(W:World) (x:S43),x∈zs→Below w.heap.size w W→Calls Try.prog g (#[.agg #[.bool x.f0,.int .i64 x.f1]]++lb) W fun e w'=>e= .returned (.bool (p x))∧Below w.heap.size w w'):
 Calls Try.prog 58 #[.slice A zs.length c,.func (.func g) #[] lb] w fun e w'=>(∃n:Int,e= .returned (.int .i64 n)∧Aside0 (decide (0≤n)=zs.any p))∧Below w.heap.size w w':=by
 go_enter Try.func58,Try.ntmps58
 go_wp2
 go_loopg [5,8] zs.length (fun gg _ s8 wr=>∃kk:Nat,kk≤zs.length∧zs.length - kk≤gg∧s8= .int .i64 kk∧Aside0 (Below w.heap.size w wr)∧Aside0 ((zs.take kk).any p=false))
 case atStart=>exact⟨0,Nat.zero_le _,by omega,rfl,⟨Below.refl _ w⟩,⟨by simp⟩⟩
 case round=>
  obtain⟨kk,hkk,hg,rfl,BW,PA⟩:=hrel
  by_cases hlt:kk<zs.length
  ·have hltz:(kk:Int)<(zs.length:Int):=by omega
   have hrd:rd_T43 zs (kk:Int)=zs[kk]:=by simp [rd_T43,hlt]
   obtain⟨ad,e,l0,l1⟩:=at_T43 (bD hr BW.out) (kk:Int) (by omega) (by omega)
   have hcall:=hp wr zs[kk] (List.getElem_mem hlt) BW.out
   rw [hrd,Int.toNat_natCast] at l0 l1
   subst e
   have PB:Aside0 ((zs.take (kk+1)).any p=p zs[kk]):=⟨by rw [List.take_succ_eq_append_getElem hlt,List.any_append,PA.out];simp⟩
   have PC:Aside0 (zs.any p=(p zs[kk]||(zs.drop (kk+1)).any p)):=⟨by
    conv=>lhs;rw [←List.take_append_drop (kk+1) zs]
    rw [List.any_append,PB.out]⟩
   clear hp hr hrd
   generalize zs[kk]=y at l0 l1 hcall PB PC
   cases hq:p y with
   |true=>
    rw [hq] at hcall
    have PD:Aside0 (zs.any p=true):=⟨by rw [PC.out,hq];simp⟩
    clear PA PB PC hq
    go_wp2_with (go_at_fn g;refine hcall.mono ?_;rintro e w' ⟨rfl,hb'⟩)
    go_ret
    exact⟨⟨_,rfl,⟨by rw [PD.out];simp⟩⟩,hb'⟩
   |false=>
    rw [hq] at hcall
    have PD:Aside0 ((zs.take (kk+1)).any p=false):=⟨by rw [PB.out,hq]⟩
    clear PA PB PC hq
    go_wp2_with (go_at_fn g;refine hcall.mono ?_;rintro e w' ⟨rfl,hb'⟩)
    go_roundg (zs.length - (kk+1))
    case measure=>omega
    case rel=>exact⟨kk+1,by omega,by omega,by go_num,⟨hb'⟩,PD⟩
  ·have hltz:¬(kk:Int)<(zs.length:Int):=by omega
   have:kk=zs.length:=by omega
   subst this
   have PD:Aside0 (zs.any p=false):=⟨by have:=PA.out;rwa [List.take_length] at this⟩
   clear PA hp hr
   go_wp2
   go_ret
   exact⟨⟨-1,rfl,⟨by rw [PD.out];simp⟩⟩,BW.out⟩
theorem containsSym_any (p:S43→Bool) (g:Nat) (lb:Array Value) (eg:∀args w,(callFunc g args).run Try.prog w= .ok (.enter g args) w) (A:Option Addr) (c:Nat) (zs:List S43) (w:World)
 (hr:Kd.C k43 w A zs.length zs) (hbig:zs.length≤9223372036854775807) (hp:∀(W:World) (x:S43),x∈zs→Below w.heap.size w W→Calls Try.prog g (#[.agg #[.bool x.f0,.int .i64 x.f1]]++lb) W fun e w'=>e= .returned (.bool (p x))∧Below w.heap.size w w'):
 Calls Try.prog 51 #[.slice A zs.length c,.func (.func g) #[] lb] w fun e w'=>e= .returned (.bool (zs.any p))∧Below w.heap.size w w':=by
 have hcon:=indexSym_any p g lb eg A c zs w hr hbig hp
 have e6:∀args w,(callFunc 58 args).run Try.prog w= .ok (.enter 58 args) w:=enters_of Try.func58 (by kernel_rfl) rfl
 clear hp hr
 go_enter Try.func51,Try.ntmps51
 go_wp2_with (go_at_fn 58;refine hcon.mono ?_;rintro e w' ⟨⟨nn_,rfl,hn_⟩,hb'⟩)
 go_ret
 exact⟨by rw [←hn_.out];rfl,hb'⟩
theorem any_not {α:Type}(p:α→Bool) (l:List α):(!l.any fun x=>!p x)=l.all p:=by
 induction l with
 |nil=>rfl
 |cons a l ih=>simp only [List.any_cons,List.all_cons,←ih];cases p a<;>simp
def firsts_symbols.f (aU:List ByteArray) (aX:List (S72)) (bA:Int) (bB:Int) (aQ:List (S35)) (l1:List (S43)):Option Bool:=if l1.length≤9223372036854775807 then some (l1.all (okSym aU.length aX.length)) else none
theorem firsts_symbols.calls (bC:Option Addr) (bK:Nat) (aU:List ByteArray) (bM:Option Addr) (bO:Nat) (aX:List (S72)) (bA:Int) (bB:Int) (bQ:Option Addr) (bP:Nat) (aQ:List (S35)) (A1:Option Addr) (c1:Nat) (l1:List (S43)) (r:Bool) (w:World)
 (dM:Kd.C Kd.string w bC aU.length aU) (dT:aU.length≤bK) (dU:Kd.C k72 w bM aX.length aX) (dY:aX.length≤bO) (dR:Kd.C k35 w bQ aQ.length aQ) (eB:aQ.length≤bP) (hr1:Kd.C k43 w A1 l1.length l1) (hc1:l1.length≤c1)
 (h:firsts_symbols.f aU aX bA bB aQ l1=some r):
 Calls Try.prog 56 #[.agg #[.slice bC aU.length bK,.slice bM aX.length bO,.int .i64 bA,.int .i64 bB,.slice bQ aQ.length bP],.slice A1 l1.length c1] w fun e w'=>e= .returned (.bool r)∧Below w.heap.size w w':=by
 unfold firsts_symbols.f at h
 split at h
 case isFalse=>simp at h
 rename_i hbig
 obtain rfl:=Option.some.inj h
 clear h
 have eg:∀args w,(callFunc 61 args).run Try.prog w= .ok (.enter 61 args) w:=enters_of Try.func61 (by kernel_rfl) rfl
 have e6:∀args w,(callFunc 51 args).run Try.prog w= .ok (.enter 51 args) w:=enters_of Try.func51 (by kernel_rfl) rfl
 have HW:Aside0 (Below w.heap.size w (w.alloc (.cells #[.slice bC aU.length bK,.slice bM aX.length bO,.int .i64 bA,.int .i64 bB,.slice bQ aQ.length bP] 26))):=⟨(Below.refl _ w).alloc (Nat.le_refl _) _⟩
 have hcon:=containsSym_any (fun x=>!okSym aU.length aX.length x) 61 #[.pointer (some ⟨w.heap.size,0,none⟩)] eg A1 c1 l1 (w.alloc (.cells #[.slice bC aU.length bK,.slice bM aX.length bO,.int .i64 bA,.int .i64 bB,.slice bQ aQ.length bP] 26)) (bD hr1 HW.out) hbig (fun W x _ hb=>by
  have hlt:w.heap.size<(w.alloc (.cells #[.slice bC aU.length bK,.slice bM aX.length bO,.int .i64 bA,.int .i64 bB,.slice bQ aQ.length bP] 26)).heap.size:=by simp
  refine(symbols1_any x w.heap.size W bC bM aU.length aX.length bK bO ?_ ?_ (Nat.lt_of_lt_of_le hlt hb.size)).mono ?_
  ·exact(hb.cell (p:=⟨w.heap.size,0,none⟩) hlt).trans (by simp)
  ·exact(hb.cell (p:=⟨w.heap.size,1,none⟩) hlt).trans (by simp)
  ·rintro e w' ⟨he,hb'⟩
   exact⟨he,hb.trans (hb'.mono hb.size)⟩)
 clear dM dU dR hr1
 rw [←any_not]
 generalize (l1.any fun x=>!okSym aU.length aX.length x)=rr at hcon ⊢
 go_enter Try.func56,Try.ntmps56
 go_wp2_with (go_at_fn 51;refine hcon.mono ?_;rintro e w' ⟨rfl,hb'⟩)
 go_ret
 exact⟨rfl,HW.out.trans (hb'.mono (by simp))⟩
theorem indexProd_any (p:S35→Bool) (g:Nat) (lb:Array Value) (eg:∀args w,(callFunc g args).run Try.prog w= .ok (.enter g args) w) (A:Option Addr) (c:Nat) (zs:List S35) (w:World)
 (hr:Kd.C k35 w A zs.length zs) (hbig:zs.length≤9223372036854775807) (hp:∀(W:World) (x:S35) (A1:Option Addr) (c1:Nat),x∈zs→Below w.heap.size w W→x.f1.length≤c1→Kd.C k43 W A1 x.f1.length x.f1→Calls Try.prog g (#[.agg #[.int .i64 x.f0,.slice A1 x.f1.length c1]]++lb) W fun e w'=>e= .returned (.bool (p x))∧Below w.heap.size w w'):
 Calls Try.prog 60 #[.slice A zs.length c,.func (.func g) #[] lb] w fun e w'=>(∃n:Int,e= .returned (.int .i64 n)∧Aside0 (decide (0≤n)=zs.any p))∧Below w.heap.size w w':=by
 go_enter Try.func60,Try.ntmps60
 go_wp2
 go_loopg [5,8] zs.length (fun gg _ s8 wr=>∃kk:Nat,kk≤zs.length∧zs.length - kk≤gg∧s8= .int .i64 kk∧Aside0 (Below w.heap.size w wr)∧Aside0 ((zs.take kk).any p=false))
 case atStart=>exact⟨0,Nat.zero_le _,by omega,rfl,⟨Below.refl _ w⟩,⟨by simp⟩⟩
 case round=>
  obtain⟨kk,hkk,hg,rfl,BW,PA⟩:=hrel
  by_cases hlt:kk<zs.length
  ·have hltz:(kk:Int)<(zs.length:Int):=by omega
   have hrd:rd_T35 zs (kk:Int)=zs[kk]:=by simp [rd_T35,hlt]
   obtain⟨ad,A1,c1,e,l0,l1,hle1,hC1⟩:=at_T35 (bD hr BW.out) (kk:Int) (by omega) (by omega)
   have hcall:=hp wr zs[kk] A1 c1 (List.getElem_mem hlt) BW.out (by rw [←hrd];exact hle1) (by rw [←hrd];exact hC1)
   rw [hrd,Int.toNat_natCast] at l0 l1
   subst e
   have PB:Aside0 ((zs.take (kk+1)).any p=p zs[kk]):=⟨by rw [List.take_succ_eq_append_getElem hlt,List.any_append,PA.out];simp⟩
   have PC:Aside0 (zs.any p=(p zs[kk]||(zs.drop (kk+1)).any p)):=⟨by
    conv=>lhs;rw [←List.take_append_drop (kk+1) zs]
    rw [List.any_append,PB.out]⟩
   clear hp hr hrd hle1 hC1
   generalize zs[kk]=y at l0 l1 hcall PB PC
   cases hq:p y with
   |true=>
    rw [hq] at hcall
    have PD:Aside0 (zs.any p=true):=⟨by rw [PC.out,hq];simp⟩
    clear PA PB PC hq
    go_wp2_with (go_at_fn g;refine hcall.mono ?_;rintro e w' ⟨rfl,hb'⟩)
    go_ret
    exact⟨⟨_,rfl,⟨by rw [PD.out];simp⟩⟩,hb'⟩
   |false=>
    rw [hq] at hcall
    have PD:Aside0 ((zs.take (kk+1)).any p=false):=⟨by rw [PB.out,hq]⟩
    clear PA PB PC hq
    go_wp2_with (go_at_fn g;refine hcall.mono ?_;rintro e w' ⟨rfl,hb'⟩)
    go_roundg (zs.length - (kk+1))
    case measure=>omega
    case rel=>exact⟨kk+1,by omega,by omega,by go_num,⟨hb'⟩,PD⟩
  ·have hltz:¬(kk:Int)<(zs.length:Int):=by omega
   have:kk=zs.length:=by omega
   subst this
   have PD:Aside0 (zs.any p=false):=⟨by have:=PA.out;rwa [List.take_length] at this⟩
   clear PA hp hr
   go_wp2
   go_ret
   exact⟨⟨-1,rfl,⟨by rw [PD.out];simp⟩⟩,BW.out⟩
theorem containsProd_any (p:S35→Bool) (g:Nat) (lb:Array Value) (eg:∀args w,(callFunc g args).run Try.prog w= .ok (.enter g args) w) (A:Option Addr) (c:Nat) (zs:List S35) (w:World)
 (hr:Kd.C k35 w A zs.length zs) (hbig:zs.length≤9223372036854775807) (hp:∀(W:World) (x:S35) (A1:Option Addr) (c1:Nat),x∈zs→Below w.heap.size w W→x.f1.length≤c1→Kd.C k43 W A1 x.f1.length x.f1→Calls Try.prog g (#[.agg #[.int .i64 x.f0,.slice A1 x.f1.length c1]]++lb) W fun e w'=>e= .returned (.bool (p x))∧Below w.heap.size w w'):
 Calls Try.prog 54 #[.slice A zs.length c,.func (.func g) #[] lb] w fun e w'=>e= .returned (.bool (zs.any p))∧Below w.heap.size w w':=by
 have hcon:=indexProd_any p g lb eg A c zs w hr hbig hp
 have e6:∀args w,(callFunc 60 args).run Try.prog w= .ok (.enter 60 args) w:=enters_of Try.func60 (by kernel_rfl) rfl
 clear hp hr
 go_enter Try.func54,Try.ntmps54
 go_wp2_with (go_at_fn 60;refine hcon.mono ?_;rintro e w' ⟨⟨nn_,rfl,hn_⟩,hb'⟩)
 go_ret
 exact⟨by rw [←hn_.out];rfl,hb'⟩
theorem Right1_any (x:S35) (A1:Option Addr) (c1:Nat) (B:Nat) (W:World) (bC:Option Addr) (bK:Nat) (aU:List ByteArray) (bM:Option Addr) (bO:Nat) (aX:List (S72)) (bA:Int) (bB:Int) (bQ:Option Addr) (bP:Nat) (aQ:List (S35))
 (dM:Kd.C Kd.string W bC aU.length aU) (dT:aU.length≤bK) (dU:Kd.C k72 W bM aX.length aX) (dY:aX.length≤bO) (dR:Kd.C k35 W bQ aQ.length aQ) (eB:aQ.length≤bP)
 (hb:W.heap[B]?=some (.cells #[.slice bC aU.length bK,.slice bM aX.length bO,.int .i64 bA,.int .i64 bB,.slice bQ aQ.length bP] 26 (0,0)))
 (hle:x.f1.length≤c1) (hbig:x.f1.length≤9223372036854775807) (hC:Kd.C k43 W A1 x.f1.length x.f1):
 Calls Try.prog 55 #[.agg #[.int .i64 x.f0,.slice A1 x.f1.length c1],.pointer (some ⟨B,0,none⟩)] W fun e w'=>e= .returned (.bool (!okProd aU.length aX.length x))∧Below W.heap.size W w':=by
 have hB:=bN hb
 have hne:B≠W.heap.size:=by omega
 have q0:W.cell? ⟨B,0,none⟩=some (.slice bC aU.length bK):=(aG hb 0).trans rfl
 have q1:W.cell? ⟨B,1,none⟩=some (.slice bM aX.length bO):=(aG hb 1).trans rfl
 have q2:W.cell? ⟨B,2,none⟩=some (.int .i64 bA):=(aG hb 2).trans rfl
 have q3:W.cell? ⟨B,3,none⟩=some (.int .i64 bB):=(aG hb 3).trans rfl
 have q4:W.cell? ⟨B,4,none⟩=some (.slice bQ aQ.length bP):=(aG hb 4).trans rfl
 clear hb
 obtain⟨n,l⟩:=x
 simp only at hle hbig hC ⊢
 have hcon:=firsts_symbols.calls bC bK aU bM bO aX bA bB bQ bP aQ A1 c1 l (l.all (okSym aU.length aX.length)) (W.alloc (.cells #[.int .i64 n,.slice A1 l.length c1] 35))
  (bD dM ((Below.refl _ W).alloc (Nat.le_refl _) _)) dT (bD dU ((Below.refl _ W).alloc (Nat.le_refl _) _)) dY (bD dR ((Below.refl _ W).alloc (Nat.le_refl _) _)) eB (bD hC ((Below.refl _ W).alloc (Nat.le_refl _) _)) hle (by unfold firsts_symbols.f;rw [if_pos hbig])
 unfold okProd
 generalize l.all (okSym aU.length aX.length)=rr at hcon ⊢
 clear dM dU dR hC
 by_cases d0:n<0
 ·have e0:decide (n<0)=true:=decide_eq_true d0
  have e1:decide (0≤n)=false:=decide_eq_false (by omega)
  go_enter Try.func55,Try.ntmps55
  go_wp2
  go_ret
  exact⟨by first|rfl|(rw [e1];rfl),(Below.refl _ W).alloc (Nat.le_refl _) _⟩
 ·have e0:decide (n<0)=false:=decide_eq_false d0
  have e1:decide (0≤n)=true:=decide_eq_true (by omega)
  by_cases d2:(aU.length:Int)≤n
  ·have e2:decide ((aU.length:Int)≤n)=true:=decide_eq_true d2
   have e3:decide (n<(aU.length:Int))=false:=decide_eq_false (by omega)
   go_enter Try.func55,Try.ntmps55
   go_wp2
   go_ret
   exact⟨by first|rfl|(rw [e1,e3];rfl),(Below.refl _ W).alloc (Nat.le_refl _) _⟩
  ·have e2:decide ((aU.length:Int)≤n)=false:=decide_eq_false d2
   have e3:decide (n<(aU.length:Int))=true:=decide_eq_true (by omega)
   go_enter Try.func55,Try.ntmps55
   go_wp2_with (go_at_call 56;refine hcon.mono ?_;rintro e w' ⟨rfl,hb'⟩)
   go_ret
   exact⟨by first|(rw [e1,e3];simp;done)|simp,((Below.refl _ W).alloc (Nat.le_refl _) _).trans (hb'.mono (by simp))⟩
def firsts_Right.f (aU:List ByteArray) (aX:List (S72)) (bA:Int) (bB:Int) (aQ:List (S35)):Option Bool:=if aQ.length≤9223372036854775807∧aQ.all (fun p=>decide (p.f1.length≤9223372036854775807))=true then some (aQ.all (okProd aU.length aX.length)) else none
theorem firsts_Right.calls (bC:Option Addr) (bK:Nat) (aU:List ByteArray) (bM:Option Addr) (bO:Nat) (aX:List (S72)) (bA:Int) (bB:Int) (bQ:Option Addr) (bP:Nat) (aQ:List (S35)) (r:Bool) (w:World)
 (dM:Kd.C Kd.string w bC aU.length aU) (dT:aU.length≤bK) (dU:Kd.C k72 w bM aX.length aX) (dY:aX.length≤bO) (dR:Kd.C k35 w bQ aQ.length aQ) (eB:aQ.length≤bP)
 (h:firsts_Right.f aU aX bA bB aQ=some r):
 Calls Try.prog 39 #[.agg #[.slice bC aU.length bK,.slice bM aX.length bO,.int .i64 bA,.int .i64 bB,.slice bQ aQ.length bP]] w fun e w'=>e= .returned (.bool r)∧Below w.heap.size w w':=by
 unfold firsts_Right.f at h
 split at h
 case isFalse=>simp at h
 rename_i hbig
 obtain⟨hbig,hrow⟩:=hbig
 obtain rfl:=Option.some.inj h
 clear h
 have eg:∀args w,(callFunc 55 args).run Try.prog w= .ok (.enter 55 args) w:=enters_of Try.func55 (by kernel_rfl) rfl
 have e6:∀args w,(callFunc 54 args).run Try.prog w= .ok (.enter 54 args) w:=enters_of Try.func54 (by kernel_rfl) rfl
 have HW:Aside0 (Below w.heap.size w (w.alloc (.cells #[.slice bC aU.length bK,.slice bM aX.length bO,.int .i64 bA,.int .i64 bB,.slice bQ aQ.length bP] 26))):=⟨(Below.refl _ w).alloc (Nat.le_refl _) _⟩
 have hcon:=containsProd_any (fun x=>!okProd aU.length aX.length x) 55 #[.pointer (some ⟨w.heap.size,0,none⟩)] eg bQ bP aQ (w.alloc (.cells #[.slice bC aU.length bK,.slice bM aX.length bO,.int .i64 bA,.int .i64 bB,.slice bQ aQ.length bP] 26)) (bD dR HW.out) hbig (fun W x A1 c1 hx hb hle hC=>by
  have hlt:w.heap.size<(w.alloc (.cells #[.slice bC aU.length bK,.slice bM aX.length bO,.int .i64 bA,.int .i64 bB,.slice bQ aQ.length bP] 26)).heap.size:=by simp
  have hall:=HW.out.trans (hb.mono (by simp))
  refine(Right1_any x A1 c1 w.heap.size W bC bK aU bM bO aX bA bB bQ bP aQ (bD dM hall) dT (bD dU hall) dY (bD dR hall) eB ((hb.block _ hlt).trans (by simpa using heap_alloc_new w _)) hle (of_decide_eq_true (List.all_eq_true.1 hrow x hx)) hC).mono ?_
  rintro e w' ⟨he,hb'⟩
  exact⟨he,hb.trans (hb'.mono hb.size)⟩)
 clear dM dU dR
 rw [←any_not]
 generalize (aQ.any fun x=>!okProd aU.length aX.length x)=rr at hcon ⊢
 go_enter Try.func39,Try.ntmps39
 go_wp2_with (go_at_fn 54;refine hcon.mono ?_;rintro e w' ⟨rfl,hb'⟩)
 go_ret
 exact⟨rfl,HW.out.trans (hb'.mono (by simp))⟩
end Go.Proofs.Ytapjfnfengefpaa.P
end

section
namespace Go.Proofs.Ytapjfnfengefpaa.H
open Go.RowKit Go.Proofs.YtapjfnfengefpaaW.PrintWords Go.Proofs.YtapjfnfengefpaaW.PrintLast Go.Proofs.YtapjfnfengefpaaW.PrintMore
theorem Ev.pos {α:Type}{c:Prop} [Decidable c] {f g:Nat→Option α}{r:α}(h:c) (k:Ev f r):Ev (fun n=>if c then f n else g n) r:=
 Ev.congr (fun _=>if_pos h) k
theorem Ev.neg {α:Type}{c:Prop} [Decidable c] {f g:Nat→Option α}{r:α}(h:¬c) (k:Ev g r):Ev (fun n=>if c then f n else g n) r:=
 Ev.congr (fun _=>if_neg h) k
theorem Ev.some {α:Type}{r s:α}(h:r=s):Ev (fun _=>Option.some r) s:=h ▸ Ev.now r
theorem Ev.some' {α:Type}{g:Option α}{r:α}(h:g=Option.some r):Ev (fun _=>g) r:=⟨0,fun _ _=>h⟩
theorem Ev.bind0 {α β:Type}{g:Option α}{f:Nat→α→Option β}{a:α}{r:β}(h:g=Option.some a) (k:Ev (fun n=>f n a) r):Ev (fun n=>g.bind (f n)) r:=
 Ev.congr (fun _=>by rw [h];rfl) k
theorem Ev.val {α:Type}{g:Nat→Option α}{r s:α}(h:Ev g r) (e:r=s):Ev g s:=e ▸ h
theorem wrap64_id {x:Int}(h0: -9223372036854775808≤x) (h1:x≤9223372036854775807):wrap64 x=x:=by
 unfold wrap64;omega
theorem wf_u8 {x:Int}(h:(Lit.int .u8 x).wf=true):0≤x∧x≤255:=by
 simp [Lit.wf,IntKind.min,IntKind.max,IntKind.bits,IntKind.signed] at h;omega
end Go.Proofs.Ytapjfnfengefpaa.H
end

section
namespace Go.Proofs.Ytapjfnfengefpaa.P
open Go.RowKit Go.Proofs.YtapjfnfengefpaaW.PrintWords Go.Proofs.YtapjfnfengefpaaW.PrintLast Go.Proofs.YtapjfnfengefpaaW.PrintMore
set_option linter.unusedVariables false
set_option linter.unusedSimpArgs false
theorem indexInt_any (p:Int→Bool) (g:Nat) (lb:Array Value) (eg:∀args w,(callFunc g args).run Try.prog w= .ok (.enter g args) w) (A:Option Addr) (c:Nat) (zs:List Int) (w:World)
 (hr:Kd.C (Kd.int .i64) w A zs.length zs) (hbig:zs.length≤9223372036854775807) (hp:∀(W:World) (x:Int),x∈zs→Below w.heap.size w W→Calls Try.prog g (#[.int .i64 x]++lb) W fun e w'=>e= .returned (.bool (p x))∧Below w.heap.size w w'):
 Calls Try.prog 57 #[.slice A zs.length c,.func (.func g) #[] lb] w fun e w'=>(∃n:Int,e= .returned (.int .i64 n)∧Aside0 (decide (0≤n)=zs.any p))∧Below w.heap.size w w':=by
 go_enter Try.func57,Try.ntmps57
 go_wp2
 go_loopg [5,8] zs.length (fun gg _ s8 wr=>∃kk:Nat,kk≤zs.length∧zs.length - kk≤gg∧s8= .int .i64 kk∧Aside0 (Below w.heap.size w wr)∧Aside0 ((zs.take kk).any p=false))
 case atStart=>exact⟨0,Nat.zero_le _,by omega,rfl,⟨Below.refl _ w⟩,⟨by simp⟩⟩
 case round=>
  obtain⟨kk,hkk,hg,rfl,BW,PA⟩:=hrel
  by_cases hlt:kk<zs.length
  ·have hltz:(kk:Int)<(zs.length:Int):=by omega
   have hrd:rd zs (kk:Int)=zs[kk]:=by simp [rd,hlt]
   obtain⟨ad,e,l0⟩:=Kd.at_int (bD hr BW.out) (kk:Int) (by omega) (by omega)
   have hcall:=hp wr zs[kk] (List.getElem_mem hlt) BW.out
   rw [hrd,Int.toNat_natCast] at l0
   subst e
   have PB:Aside0 ((zs.take (kk+1)).any p=p zs[kk]):=⟨by rw [List.take_succ_eq_append_getElem hlt,List.any_append,PA.out];simp⟩
   have PC:Aside0 (zs.any p=(p zs[kk]||(zs.drop (kk+1)).any p)):=⟨by
    conv=>lhs;rw [←List.take_append_drop (kk+1) zs]
    rw [List.any_append,PB.out]⟩
   clear hp hr hrd
   generalize zs[kk]=y at l0 hcall PB PC
   cases hq:p y with
   |true=>
    rw [hq] at hcall
    have PD:Aside0 (zs.any p=true):=⟨by rw [PC.out,hq];simp⟩
    clear PA PB PC hq
    go_wp2_with (go_at_fn g;refine hcall.mono ?_;rintro e w' ⟨rfl,hb'⟩)
    go_ret
    exact⟨⟨_,rfl,⟨by rw [PD.out];simp⟩⟩,hb'⟩
   |false=>
    rw [hq] at hcall
    have PD:Aside0 ((zs.take (kk+1)).any p=false):=⟨by rw [PB.out,hq]⟩
    clear PA PB PC hq
    go_wp2_with (go_at_fn g;refine hcall.mono ?_;rintro e w' ⟨rfl,hb'⟩)
    go_roundg (zs.length - (kk+1))
    case measure=>omega
    case rel=>exact⟨kk+1,by omega,by omega,by go_num,⟨hb'⟩,PD⟩
  ·have hltz:¬(kk:Int)<(zs.length:Int):=by omega
   have:kk=zs.length:=by omega
   subst this
   have PD:Aside0 (zs.any p=false):=⟨by have:=PA.out;rwa [List.take_length] at this⟩
   clear PA hp hr
   go_wp2
   go_ret
   exact⟨⟨-1,rfl,⟨by rw [PD.out];simp⟩⟩,BW.out⟩
theorem containsInt_any (p:Int→Bool) (g:Nat) (lb:Array Value) (eg:∀args w,(callFunc g args).run Try.prog w= .ok (.enter g args) w) (A:Option Addr) (c:Nat) (zs:List Int) (w:World)
 (hr:Kd.C (Kd.int .i64) w A zs.length zs) (hbig:zs.length≤9223372036854775807) (hp:∀(W:World) (x:Int),x∈zs→Below w.heap.size w W→Calls Try.prog g (#[.int .i64 x]++lb) W fun e w'=>e= .returned (.bool (p x))∧Below w.heap.size w w'):
 Calls Try.prog 41 #[.slice A zs.length c,.func (.func g) #[] lb] w fun e w'=>e= .returned (.bool (zs.any p))∧Below w.heap.size w w':=by
 have hcon:=indexInt_any p g lb eg A c zs w hr hbig hp
 have e6:∀args w,(callFunc 57 args).run Try.prog w= .ok (.enter 57 args) w:=enters_of Try.func57 (by kernel_rfl) rfl
 clear hp hr
 go_enter Try.func41,Try.ntmps41
 go_wp2_with (go_at_fn 57;refine hcon.mono ?_;rintro e w' ⟨⟨nn_,rfl,hn_⟩,hb'⟩)
 go_ret
 exact⟨by rw [←hn_.out];rfl,hb'⟩
def okEnt (ps:List S35) (r p:Int):Bool:=decide (-1≤p) && decide (p<(ps.length:Int)) && (decide (p<0)||decide ((rd_T35 ps p).f0=r))
theorem mright1_any (p r:Int) (ps:List S35) (SB RB:Nat) (W:World) (A4:Option Addr) (c4:Nat) (hp:Kd.C k35 W A4 ps.length ps)
 (hS:W.cell? ⟨SB,4,none⟩=some (.slice A4 ps.length c4)) (hr:W.cell? ⟨RB,0,none⟩=some (.int .i64 r)):
 Calls Try.prog 40 #[.int .i64 p,.pointer (some ⟨SB,0,none⟩),.pointer (some ⟨RB,0,none⟩)] W fun e w'=>e= .returned (.bool (!okEnt ps r p))∧Below W.heap.size W w':=by
 have h4:=aM hS
 have hR:=aM hr
 unfold okEnt
 by_cases c0:p< -1
 ·have d0:decide (p< -1)=true:=decide_eq_true c0
  have d1:decide (-1≤p)=false:=decide_eq_false (by omega)
  rw [d1]
  generalize ps.length=n4 at h4
  clear hp hS hr
  go_enter Try.func40,Try.ntmps40
  go_upto_region 1 with fail
  refine start_ (n:=24) (S:=fun w'=>w'.cell? ⟨SB,4,none⟩=some (.slice A4 n4 c4)) (ds:= []) #[F,F,F,F,F,F,F,F,F,F,F,F,F,F,F,F,F,F,F,F,F,F,F,F] (by kernel_rfl) rfl rfl (h4.out) (fun hHeld=>?_)
  refine pure_ (i:=0) (N:=some 5) (v:=?_) (a':=?_) #[T,F,F,F,F,F,F,F,F,F,F,F,F,F,F,F,F,F,F,F,F,F,F,F] rfl rfl (by kernel_rfl) (fun _ _ _ h=>h) (Or.inl ⟨by rfl,?_⟩) ?_ ?_
  rotate_left;(intro w';go_simp;with_reducible rfl);rotate_left;(simp only [pq];rfl)
  refine pure_ (i:=1) (N:=some 6) (v:=?_) (a':=?_) #[T,T,F,F,F,F,F,F,F,F,F,F,F,F,F,F,F,F,F,F,F,F,F,F] rfl rfl (by kernel_rfl) (fun _ _ _ h=>h) (Or.inl ⟨by rfl,?_⟩) ?_ ?_
  rotate_left;(intro w';go_simp;with_reducible rfl);rotate_left;(simp only [pq];rfl)
  refine pure_ (i:=2) (N:=some 7) (v:=?_) (a':=?_) #[T,T,T,F,F,F,F,F,F,F,F,F,F,F,F,F,F,F,F,F,F,F,F,F] rfl rfl (by kernel_rfl) (fun _ _ _ h=>h) (Or.inl ⟨by rfl,?_⟩) ?_ ?_
  rotate_left;(intro w';go_simp;with_reducible rfl);rotate_left;(simp only [pq];rfl)
  refine pure_ (i:=3) (N:=some 8) (v:=undef) (a':=?_) #[T,T,T,T,F,F,F,F,F,F,F,F,F,F,F,F,F,F,F,F,F,F,F,F] rfl rfl (by kernel_rfl) (fun _ _ _ h=>h) (Or.inr ⟨by rfl,rfl⟩) ?_ ?_
  rotate_left
  ·simp only [pq]
   rfl
  refine pure_ (i:=4) (N:=some 9) (v:=undef) (a':=?_) #[T,T,T,T,T,F,F,F,F,F,F,F,F,F,F,F,F,F,F,F,F,F,F,F] rfl rfl (by kernel_rfl) (fun _ _ _ h=>h) (Or.inr ⟨by rfl,rfl⟩) ?_ ?_
  rotate_left
  ·simp only [pq]
   rfl
  refine pure_ (i:=5) (N:=some 10) (v:=undef) (a':=?_) #[T,T,T,T,T,T,F,F,F,F,F,F,F,F,F,F,F,F,F,F,F,F,F,F] rfl rfl (by kernel_rfl) (fun _ _ _ h=>h) (Or.inr ⟨by rfl,rfl⟩) ?_ ?_
  rotate_left
  ·simp only [pq]
   rfl
  refine pure_ (i:=6) (N:=some 11) (v:=undef) (a':=?_) #[T,T,T,T,T,T,T,F,F,F,F,F,F,F,F,F,F,F,F,F,F,F,F,F] rfl rfl (by kernel_rfl) (fun _ _ _ h=>h) (Or.inr ⟨by rfl,rfl⟩) ?_ ?_
  rotate_left
  ·simp only [pq]
   rfl
  refine pure_ (i:=7) (N:=some 12) (v:=undef) (a':=?_) #[T,T,T,T,T,T,T,T,F,F,F,F,F,F,F,F,F,F,F,F,F,F,F,F] rfl rfl (by kernel_rfl) (fun _ _ _ h=>h) (Or.inr ⟨by rfl,rfl⟩) ?_ ?_
  rotate_left
  ·simp only [pq]
   rfl
  refine pure_ (i:=8) (N:=some 13) (v:=?_) (a':=?_) #[T,T,T,T,T,T,T,T,T,F,F,F,F,F,F,F,F,F,F,F,F,F,F,F] rfl rfl (by kernel_rfl) (fun _ _ _ h=>h) (Or.inl ⟨by rfl,?_⟩) ?_ ?_
  rotate_left;(intro w';go_simp;with_reducible rfl);rotate_left;(simp only [pq];rfl)
  refine pure_ (i:=9) (N:=some 14) (v:=?_) (a':=?_) #[T,T,T,T,T,T,T,T,T,T,F,F,F,F,F,F,F,F,F,F,F,F,F,F] rfl rfl (by kernel_rfl) (fun _ _ _ h=>h) (Or.inl ⟨by rfl,?_⟩) ?_ ?_
  rotate_left;(intro w';go_simp;with_reducible rfl);rotate_left;(simp only [pq];rfl)
  refine pure_ (i:=10) (N:=some 15) (v:=undef) (a':=?_) #[T,T,T,T,T,T,T,T,T,T,T,F,F,F,F,F,F,F,F,F,F,F,F,F] rfl rfl (by kernel_rfl) (fun _ _ _ h=>h) (Or.inr ⟨by rfl,rfl⟩) ?_ ?_
  rotate_left
  ·simp only [pq]
   rfl
  refine pure_ (i:=11) (N:=some 16) (v:=undef) (a':=?_) #[T,T,T,T,T,T,T,T,T,T,T,T,F,F,F,F,F,F,F,F,F,F,F,F] rfl rfl (by kernel_rfl) (fun _ _ _ h=>h) (Or.inr ⟨by rfl,rfl⟩) ?_ ?_
  rotate_left
  ·simp only [pq]
   rfl
  refine pure_ (i:=12) (N:=some 17) (v:=undef) (a':=?_) #[T,T,T,T,T,T,T,T,T,T,T,T,T,F,F,F,F,F,F,F,F,F,F,F] rfl rfl (by kernel_rfl) (fun _ _ _ h=>h) (Or.inr ⟨by rfl,rfl⟩) ?_ ?_
  rotate_left
  ·simp only [pq]
   rfl
  refine pure_ (i:=13) (N:=some 18) (v:=undef) (a':=?_) #[T,T,T,T,T,T,T,T,T,T,T,T,T,T,F,F,F,F,F,F,F,F,F,F] rfl rfl (by kernel_rfl) (fun _ _ _ h=>h) (Or.inr ⟨by rfl,rfl⟩) ?_ ?_
  rotate_left
  ·simp only [pq]
   rfl
  refine pure_ (i:=14) (N:=some 19) (v:=undef) (a':=?_) #[T,T,T,T,T,T,T,T,T,T,T,T,T,T,T,F,F,F,F,F,F,F,F,F] rfl rfl (by kernel_rfl) (fun _ _ _ h=>h) (Or.inr ⟨by rfl,rfl⟩) ?_ ?_
  rotate_left
  ·simp only [pq]
   rfl
  refine pure_ (i:=15) (N:=some 20) (v:=undef) (a':=?_) #[T,T,T,T,T,T,T,T,T,T,T,T,T,T,T,T,F,F,F,F,F,F,F,F] rfl rfl (by kernel_rfl) (fun _ _ _ h=>h) (Or.inr ⟨by rfl,rfl⟩) ?_ ?_
  rotate_left
  ·simp only [pq]
   rfl
  refine pure_ (i:=16) (N:=some 21) (v:=undef) (a':=?_) #[T,T,T,T,T,T,T,T,T,T,T,T,T,T,T,T,T,F,F,F,F,F,F,F] rfl rfl (by kernel_rfl) (fun _ _ _ h=>h) (Or.inr ⟨by rfl,rfl⟩) ?_ ?_
  rotate_left
  ·simp only [pq]
   rfl
  refine pure_ (i:=17) (N:=some 22) (v:=undef) (a':=?_) #[T,T,T,T,T,T,T,T,T,T,T,T,T,T,T,T,T,T,F,F,F,F,F,F] rfl rfl (by kernel_rfl) (fun _ _ _ h=>h) (Or.inr ⟨by rfl,rfl⟩) ?_ ?_
  rotate_left
  ·simp only [pq]
   rfl
  refine pure_ (i:=18) (N:=some 23) (v:=undef) (a':=?_) #[T,T,T,T,T,T,T,T,T,T,T,T,T,T,T,T,T,T,T,F,F,F,F,F] rfl rfl (by kernel_rfl) (fun _ _ _ h=>h) (Or.inr ⟨by rfl,rfl⟩) ?_ ?_
  rotate_left
  ·simp only [pq]
   rfl
  refine pure_ (i:=19) (N:=some 24) (v:=undef) (a':=?_) #[T,T,T,T,T,T,T,T,T,T,T,T,T,T,T,T,T,T,T,T,F,F,F,F] rfl rfl (by kernel_rfl) (fun _ _ _ h=>h) (Or.inr ⟨by rfl,rfl⟩) ?_ ?_
  rotate_left
  ·simp only [pq]
   rfl
  refine pure_ (i:=20) (N:=some 25) (v:=undef) (a':=?_) #[T,T,T,T,T,T,T,T,T,T,T,T,T,T,T,T,T,T,T,T,T,F,F,F] rfl rfl (by kernel_rfl) (fun _ _ _ h=>h) (Or.inr ⟨by rfl,rfl⟩) ?_ ?_
  rotate_left
  ·simp only [pq]
   rfl
  refine pure_ (i:=21) (N:=some 26) (v:=undef) (a':=?_) #[T,T,T,T,T,T,T,T,T,T,T,T,T,T,T,T,T,T,T,T,T,T,F,F] rfl rfl (by kernel_rfl) (fun _ _ _ h=>h) (Or.inr ⟨by rfl,rfl⟩) ?_ ?_
  rotate_left
  ·simp only [pq]
   rfl
  refine pure_ (i:=22) (N:=some 27) (v:=?_) (a':=?_) #[T,T,T,T,T,T,T,T,T,T,T,T,T,T,T,T,T,T,T,T,T,T,T,F] rfl rfl (by kernel_rfl) (fun _ _ _ h=>h) (Or.inl ⟨by rfl,?_⟩) ?_ ?_
  rotate_left;(intro w';go_simp;with_reducible rfl);rotate_left;(simp only [pq];rfl)
  refine pure_ (i:=23) (N:=some 4) (v:=?_) (a':=?_) #[T,T,T,T,T,T,T,T,T,T,T,T,T,T,T,T,T,T,T,T,T,T,T,T] rfl rfl (by kernel_rfl) (fun _ _ _ h=>h) (Or.inl ⟨by rfl,?_⟩) ?_ ?_
  rotate_left;(intro w';go_simp;with_reducible rfl);rotate_left;(simp only [pq];rfl)
  refine done_ (by kernel_rfl) ?_
  go_wp2
  go_ret
  exact⟨rfl,aO (Below.refl _ W)⟩
 ·have d0:decide (p< -1)=false:=decide_eq_false c0
  have d1:decide (-1≤p)=true:=decide_eq_true (by omega)
  rw [d1]
  by_cases c1:(ps.length:Int)≤p
  ·have d2:decide ((ps.length:Int)≤p)=true:=decide_eq_true c1
   have d3:decide (p<(ps.length:Int))=false:=decide_eq_false (by omega)
   rw [d3]
   generalize ps.length=n4 at h4 d2
   clear hp hS hr c0 c1 d3
   go_enter Try.func40,Try.ntmps40
   go_upto_region 1 with fail
   refine start_ (n:=24) (S:=fun w'=>w'.cell? ⟨SB,4,none⟩=some (.slice A4 n4 c4)) (ds:= []) #[F,F,F,F,F,F,F,F,F,F,F,F,F,F,F,F,F,F,F,F,F,F,F,F] (by kernel_rfl) rfl rfl (h4.out) (fun hHeld=>?_)
   refine pure_ (i:=0) (N:=some 5) (v:=?_) (a':=?_) #[T,F,F,F,F,F,F,F,F,F,F,F,F,F,F,F,F,F,F,F,F,F,F,F] rfl rfl (by kernel_rfl) (fun _ _ _ h=>h) (Or.inl ⟨by rfl,?_⟩) ?_ ?_
   rotate_left;(intro w';go_simp;with_reducible rfl);rotate_left;(simp only [pq];rfl)
   refine pure_ (i:=1) (N:=some 6) (v:=?_) (a':=?_) #[T,T,F,F,F,F,F,F,F,F,F,F,F,F,F,F,F,F,F,F,F,F,F,F] rfl rfl (by kernel_rfl) (fun _ _ _ h=>h) (Or.inl ⟨by rfl,?_⟩) ?_ ?_
   rotate_left;(intro w';go_simp;with_reducible rfl);rotate_left;(simp only [pq];rfl)
   refine pure_ (i:=2) (N:=some 7) (v:=?_) (a':=?_) #[T,T,T,F,F,F,F,F,F,F,F,F,F,F,F,F,F,F,F,F,F,F,F,F] rfl rfl (by kernel_rfl) (fun _ _ _ h=>h) (Or.inl ⟨by rfl,?_⟩) ?_ ?_
   rotate_left;(intro w';go_simp;with_reducible rfl);rotate_left;(simp only [pq];rfl)
   refine pure_ (i:=3) (N:=some 8) (v:=?_) (a':=?_) #[T,T,T,T,F,F,F,F,F,F,F,F,F,F,F,F,F,F,F,F,F,F,F,F] rfl rfl (by kernel_rfl) (fun _ _ _ h=>h) (Or.inl ⟨by rfl,?_⟩) ?_ ?_
   rotate_left;(intro w';go_simp;with_reducible rfl);rotate_left;(simp only [pq];rfl)
   refine pure_ (i:=4) (N:=some 9) (v:=?_) (a':=?_) #[T,T,T,T,T,F,F,F,F,F,F,F,F,F,F,F,F,F,F,F,F,F,F,F] rfl rfl (by kernel_rfl) (fun _ _ _ h=>h) (Or.inl ⟨by rfl,?_⟩) ?_ ?_
   rotate_left;(intro w';go_simp;with_reducible rfl);rotate_left;(simp only [pq];rfl)
   refine take_ (i:=5) (N:=some 10) (v:=?_) (a':=?_) #[T,T,T,T,T,T,F,F,F,F,F,F,F,F,F,F,F,F,F,F,F,F,F,F] rfl rfl (by kernel_rfl) (fun _ _ _ h=>h) (Or.inl ⟨by rfl,?_⟩) hHeld ?_ ?_
   rotate_left
   ·intro w' s0
    go_simp
    with_reducible rfl
   rotate_left
   ·simp only [pq]
    rfl
   refine pure_ (i:=6) (N:=some 11) (v:=?_) (a':=?_) #[T,T,T,T,T,T,T,F,F,F,F,F,F,F,F,F,F,F,F,F,F,F,F,F] rfl rfl (by kernel_rfl) (fun _ _ _ h=>h) (Or.inl ⟨by rfl,?_⟩) ?_ ?_
   rotate_left;(intro w';go_simp;with_reducible rfl);rotate_left;(simp only [pq];rfl)
   refine pure_ (i:=7) (N:=some 12) (v:=?_) (a':=?_) #[T,T,T,T,T,T,T,T,F,F,F,F,F,F,F,F,F,F,F,F,F,F,F,F] rfl rfl (by kernel_rfl) (fun _ _ _ h=>h) (Or.inl ⟨by rfl,?_⟩) ?_ ?_
   rotate_left;(intro w';go_simp;with_reducible rfl);rotate_left;(simp only [pq];rfl)
   refine pure_ (i:=8) (N:=some 13) (v:=?_) (a':=?_) #[T,T,T,T,T,T,T,T,T,F,F,F,F,F,F,F,F,F,F,F,F,F,F,F] rfl rfl (by kernel_rfl) (fun _ _ _ h=>h) (Or.inl ⟨by rfl,?_⟩) ?_ ?_
   rotate_left;(intro w';go_simp;with_reducible rfl);rotate_left;(simp only [pq];rfl)
   refine pure_ (i:=9) (N:=some 14) (v:=?_) (a':=?_) #[T,T,T,T,T,T,T,T,T,T,F,F,F,F,F,F,F,F,F,F,F,F,F,F] rfl rfl (by kernel_rfl) (fun _ _ _ h=>h) (Or.inl ⟨by rfl,?_⟩) ?_ ?_
   rotate_left;(intro w';go_simp;with_reducible rfl);rotate_left;(simp only [pq];rfl)
   refine pure_ (i:=10) (N:=some 15) (v:=undef) (a':=?_) #[T,T,T,T,T,T,T,T,T,T,T,F,F,F,F,F,F,F,F,F,F,F,F,F] rfl rfl (by kernel_rfl) (fun _ _ _ h=>h) (Or.inr ⟨by rfl,rfl⟩) ?_ ?_
   rotate_left
   ·simp only [pq]
    rfl
   refine pure_ (i:=11) (N:=some 16) (v:=undef) (a':=?_) #[T,T,T,T,T,T,T,T,T,T,T,T,F,F,F,F,F,F,F,F,F,F,F,F] rfl rfl (by kernel_rfl) (fun _ _ _ h=>h) (Or.inr ⟨by rfl,rfl⟩) ?_ ?_
   rotate_left
   ·simp only [pq]
    rfl
   refine pure_ (i:=12) (N:=some 17) (v:=undef) (a':=?_) #[T,T,T,T,T,T,T,T,T,T,T,T,T,F,F,F,F,F,F,F,F,F,F,F] rfl rfl (by kernel_rfl) (fun _ _ _ h=>h) (Or.inr ⟨by rfl,rfl⟩) ?_ ?_
   rotate_left
   ·simp only [pq]
    rfl
   refine pure_ (i:=13) (N:=some 18) (v:=undef) (a':=?_) #[T,T,T,T,T,T,T,T,T,T,T,T,T,T,F,F,F,F,F,F,F,F,F,F] rfl rfl (by kernel_rfl) (fun _ _ _ h=>h) (Or.inr ⟨by rfl,rfl⟩) ?_ ?_
   rotate_left
   ·simp only [pq]
    rfl
   refine pure_ (i:=14) (N:=some 19) (v:=undef) (a':=?_) #[T,T,T,T,T,T,T,T,T,T,T,T,T,T,T,F,F,F,F,F,F,F,F,F] rfl rfl (by kernel_rfl) (fun _ _ _ h=>h) (Or.inr ⟨by rfl,rfl⟩) ?_ ?_
   rotate_left
   ·simp only [pq]
    rfl
   refine pure_ (i:=15) (N:=some 20) (v:=undef) (a':=?_) #[T,T,T,T,T,T,T,T,T,T,T,T,T,T,T,T,F,F,F,F,F,F,F,F] rfl rfl (by kernel_rfl) (fun _ _ _ h=>h) (Or.inr ⟨by rfl,rfl⟩) ?_ ?_
   rotate_left
   ·simp only [pq]
    rfl
   refine pure_ (i:=16) (N:=some 21) (v:=undef) (a':=?_) #[T,T,T,T,T,T,T,T,T,T,T,T,T,T,T,T,T,F,F,F,F,F,F,F] rfl rfl (by kernel_rfl) (fun _ _ _ h=>h) (Or.inr ⟨by rfl,rfl⟩) ?_ ?_
   rotate_left
   ·simp only [pq]
    rfl
   refine pure_ (i:=17) (N:=some 22) (v:=undef) (a':=?_) #[T,T,T,T,T,T,T,T,T,T,T,T,T,T,T,T,T,T,F,F,F,F,F,F] rfl rfl (by kernel_rfl) (fun _ _ _ h=>h) (Or.inr ⟨by rfl,rfl⟩) ?_ ?_
   rotate_left
   ·simp only [pq]
    rfl
   refine pure_ (i:=18) (N:=some 23) (v:=undef) (a':=?_) #[T,T,T,T,T,T,T,T,T,T,T,T,T,T,T,T,T,T,T,F,F,F,F,F] rfl rfl (by kernel_rfl) (fun _ _ _ h=>h) (Or.inr ⟨by rfl,rfl⟩) ?_ ?_
   rotate_left
   ·simp only [pq]
    rfl
   refine pure_ (i:=19) (N:=some 24) (v:=undef) (a':=?_) #[T,T,T,T,T,T,T,T,T,T,T,T,T,T,T,T,T,T,T,T,F,F,F,F] rfl rfl (by kernel_rfl) (fun _ _ _ h=>h) (Or.inr ⟨by rfl,rfl⟩) ?_ ?_
   rotate_left
   ·simp only [pq]
    rfl
   refine pure_ (i:=20) (N:=some 25) (v:=undef) (a':=?_) #[T,T,T,T,T,T,T,T,T,T,T,T,T,T,T,T,T,T,T,T,T,F,F,F] rfl rfl (by kernel_rfl) (fun _ _ _ h=>h) (Or.inr ⟨by rfl,rfl⟩) ?_ ?_
   rotate_left
   ·simp only [pq]
    rfl
   refine pure_ (i:=21) (N:=some 26) (v:=undef) (a':=?_) #[T,T,T,T,T,T,T,T,T,T,T,T,T,T,T,T,T,T,T,T,T,T,F,F] rfl rfl (by kernel_rfl) (fun _ _ _ h=>h) (Or.inr ⟨by rfl,rfl⟩) ?_ ?_
   rotate_left
   ·simp only [pq]
    rfl
   refine pure_ (i:=22) (N:=some 27) (v:=?_) (a':=?_) #[T,T,T,T,T,T,T,T,T,T,T,T,T,T,T,T,T,T,T,T,T,T,T,F] rfl rfl (by kernel_rfl) (fun _ _ _ h=>h) (Or.inl ⟨by rfl,?_⟩) ?_ ?_
   rotate_left;(intro w';go_simp;with_reducible rfl);rotate_left;(simp only [pq];rfl)
   refine pure_ (i:=23) (N:=some 4) (v:=?_) (a':=?_) #[T,T,T,T,T,T,T,T,T,T,T,T,T,T,T,T,T,T,T,T,T,T,T,T] rfl rfl (by kernel_rfl) (fun _ _ _ h=>h) (Or.inl ⟨by rfl,?_⟩) ?_ ?_
   rotate_left;(intro w';go_simp;with_reducible rfl);rotate_left;(simp only [pq];rfl)
   refine done_ (by kernel_rfl) ?_
   go_wp2
   go_ret
   exact⟨rfl,aO (Below.refl _ W)⟩
  ·have d2:decide ((ps.length:Int)≤p)=false:=decide_eq_false c1
   have d3:decide (p<(ps.length:Int))=true:=decide_eq_true (by omega)
   rw [d3]
   by_cases c2:p<0
   ·have d4:decide (p<0)=true:=decide_eq_true c2
    have d5:decide (0≤p)=false:=decide_eq_false (by omega)
    rw [d4]
    generalize ps.length=n4 at h4 d2
    clear hp hS hr c0 c1 d3 c2 d4
    go_enter Try.func40,Try.ntmps40
    go_upto_region 1 with fail
    refine start_ (n:=24) (S:=fun w'=>w'.cell? ⟨SB,4,none⟩=some (.slice A4 n4 c4)) (ds:= []) #[F,F,F,F,F,F,F,F,F,F,F,F,F,F,F,F,F,F,F,F,F,F,F,F] (by kernel_rfl) rfl rfl (h4.out) (fun hHeld=>?_)
    refine pure_ (i:=0) (N:=some 5) (v:=?_) (a':=?_) #[T,F,F,F,F,F,F,F,F,F,F,F,F,F,F,F,F,F,F,F,F,F,F,F] rfl rfl (by kernel_rfl) (fun _ _ _ h=>h) (Or.inl ⟨by rfl,?_⟩) ?_ ?_
    rotate_left;(intro w';go_simp;with_reducible rfl);rotate_left;(simp only [pq];rfl)
    refine pure_ (i:=1) (N:=some 6) (v:=?_) (a':=?_) #[T,T,F,F,F,F,F,F,F,F,F,F,F,F,F,F,F,F,F,F,F,F,F,F] rfl rfl (by kernel_rfl) (fun _ _ _ h=>h) (Or.inl ⟨by rfl,?_⟩) ?_ ?_
    rotate_left;(intro w';go_simp;with_reducible rfl);rotate_left;(simp only [pq];rfl)
    refine pure_ (i:=2) (N:=some 7) (v:=?_) (a':=?_) #[T,T,T,F,F,F,F,F,F,F,F,F,F,F,F,F,F,F,F,F,F,F,F,F] rfl rfl (by kernel_rfl) (fun _ _ _ h=>h) (Or.inl ⟨by rfl,?_⟩) ?_ ?_
    rotate_left;(intro w';go_simp;with_reducible rfl);rotate_left;(simp only [pq];rfl)
    refine pure_ (i:=3) (N:=some 8) (v:=?_) (a':=?_) #[T,T,T,T,F,F,F,F,F,F,F,F,F,F,F,F,F,F,F,F,F,F,F,F] rfl rfl (by kernel_rfl) (fun _ _ _ h=>h) (Or.inl ⟨by rfl,?_⟩) ?_ ?_
    rotate_left;(intro w';go_simp;with_reducible rfl);rotate_left;(simp only [pq];rfl)
    refine pure_ (i:=4) (N:=some 9) (v:=?_) (a':=?_) #[T,T,T,T,T,F,F,F,F,F,F,F,F,F,F,F,F,F,F,F,F,F,F,F] rfl rfl (by kernel_rfl) (fun _ _ _ h=>h) (Or.inl ⟨by rfl,?_⟩) ?_ ?_
    rotate_left;(intro w';go_simp;with_reducible rfl);rotate_left;(simp only [pq];rfl)
    refine take_ (i:=5) (N:=some 10) (v:=?_) (a':=?_) #[T,T,T,T,T,T,F,F,F,F,F,F,F,F,F,F,F,F,F,F,F,F,F,F] rfl rfl (by kernel_rfl) (fun _ _ _ h=>h) (Or.inl ⟨by rfl,?_⟩) hHeld ?_ ?_
    rotate_left
    ·intro w' s0
     go_simp
     with_reducible rfl
    rotate_left
    ·simp only [pq]
     rfl
    refine pure_ (i:=6) (N:=some 11) (v:=?_) (a':=?_) #[T,T,T,T,T,T,T,F,F,F,F,F,F,F,F,F,F,F,F,F,F,F,F,F] rfl rfl (by kernel_rfl) (fun _ _ _ h=>h) (Or.inl ⟨by rfl,?_⟩) ?_ ?_
    rotate_left;(intro w';go_simp;with_reducible rfl);rotate_left;(simp only [pq];rfl)
    refine pure_ (i:=7) (N:=some 12) (v:=?_) (a':=?_) #[T,T,T,T,T,T,T,T,F,F,F,F,F,F,F,F,F,F,F,F,F,F,F,F] rfl rfl (by kernel_rfl) (fun _ _ _ h=>h) (Or.inl ⟨by rfl,?_⟩) ?_ ?_
    rotate_left;(intro w';go_simp;with_reducible rfl);rotate_left;(simp only [pq];rfl)
    refine pure_ (i:=8) (N:=some 13) (v:=?_) (a':=?_) #[T,T,T,T,T,T,T,T,T,F,F,F,F,F,F,F,F,F,F,F,F,F,F,F] rfl rfl (by kernel_rfl) (fun _ _ _ h=>h) (Or.inl ⟨by rfl,?_⟩) ?_ ?_
    rotate_left;(intro w';go_simp;with_reducible rfl);rotate_left;(simp only [pq];rfl)
    refine pure_ (i:=9) (N:=some 14) (v:=?_) (a':=?_) #[T,T,T,T,T,T,T,T,T,T,F,F,F,F,F,F,F,F,F,F,F,F,F,F] rfl rfl (by kernel_rfl) (fun _ _ _ h=>h) (Or.inl ⟨by rfl,?_⟩) ?_ ?_
    rotate_left;(intro w';go_simp;with_reducible rfl);rotate_left;(simp only [pq];rfl)
    refine pure_ (i:=10) (N:=some 15) (v:=?_) (a':=?_) #[T,T,T,T,T,T,T,T,T,T,T,F,F,F,F,F,F,F,F,F,F,F,F,F] rfl rfl (by kernel_rfl) (fun _ _ _ h=>h) (Or.inl ⟨by rfl,?_⟩) ?_ ?_
    rotate_left;(intro w';go_simp;with_reducible rfl);rotate_left;(simp only [pq];rfl)
    refine pure_ (i:=11) (N:=some 16) (v:=?_) (a':=?_) #[T,T,T,T,T,T,T,T,T,T,T,T,F,F,F,F,F,F,F,F,F,F,F,F] rfl rfl (by kernel_rfl) (fun _ _ _ h=>h) (Or.inl ⟨by rfl,?_⟩) ?_ ?_
    rotate_left;(intro w';go_simp;with_reducible rfl);rotate_left;(simp only [pq];rfl)
    refine pure_ (i:=12) (N:=some 17) (v:=?_) (a':=?_) #[T,T,T,T,T,T,T,T,T,T,T,T,T,F,F,F,F,F,F,F,F,F,F,F] rfl rfl (by kernel_rfl) (fun _ _ _ h=>h) (Or.inl ⟨by rfl,?_⟩) ?_ ?_
    rotate_left;(intro w';go_simp;with_reducible rfl);rotate_left;(simp only [pq];rfl)
    refine pure_ (i:=13) (N:=some 18) (v:=undef) (a':=?_) #[T,T,T,T,T,T,T,T,T,T,T,T,T,T,F,F,F,F,F,F,F,F,F,F] rfl rfl (by kernel_rfl) (fun _ _ _ h=>h) (Or.inr ⟨by rfl,rfl⟩) ?_ ?_
    rotate_left
    ·simp only [pq]
     rfl
    refine pure_ (i:=14) (N:=some 19) (v:=undef) (a':=?_) #[T,T,T,T,T,T,T,T,T,T,T,T,T,T,T,F,F,F,F,F,F,F,F,F] rfl rfl (by kernel_rfl) (fun _ _ _ h=>h) (Or.inr ⟨by rfl,rfl⟩) ?_ ?_
    rotate_left
    ·simp only [pq]
     rfl
    refine pure_ (i:=15) (N:=some 20) (v:=undef) (a':=?_) #[T,T,T,T,T,T,T,T,T,T,T,T,T,T,T,T,F,F,F,F,F,F,F,F] rfl rfl (by kernel_rfl) (fun _ _ _ h=>h) (Or.inr ⟨by rfl,rfl⟩) ?_ ?_
    rotate_left
    ·simp only [pq]
     rfl
    refine pure_ (i:=16) (N:=some 21) (v:=undef) (a':=?_) #[T,T,T,T,T,T,T,T,T,T,T,T,T,T,T,T,T,F,F,F,F,F,F,F] rfl rfl (by kernel_rfl) (fun _ _ _ h=>h) (Or.inr ⟨by rfl,rfl⟩) ?_ ?_
    rotate_left
    ·simp only [pq]
     rfl
    refine pure_ (i:=17) (N:=some 22) (v:=undef) (a':=?_) #[T,T,T,T,T,T,T,T,T,T,T,T,T,T,T,T,T,T,F,F,F,F,F,F] rfl rfl (by kernel_rfl) (fun _ _ _ h=>h) (Or.inr ⟨by rfl,rfl⟩) ?_ ?_
    rotate_left
    ·simp only [pq]
     rfl
    refine pure_ (i:=18) (N:=some 23) (v:=undef) (a':=?_) #[T,T,T,T,T,T,T,T,T,T,T,T,T,T,T,T,T,T,T,F,F,F,F,F] rfl rfl (by kernel_rfl) (fun _ _ _ h=>h) (Or.inr ⟨by rfl,rfl⟩) ?_ ?_
    rotate_left
    ·simp only [pq]
     rfl
    refine pure_ (i:=19) (N:=some 24) (v:=undef) (a':=?_) #[T,T,T,T,T,T,T,T,T,T,T,T,T,T,T,T,T,T,T,T,F,F,F,F] rfl rfl (by kernel_rfl) (fun _ _ _ h=>h) (Or.inr ⟨by rfl,rfl⟩) ?_ ?_
    rotate_left
    ·simp only [pq]
     rfl
    refine pure_ (i:=20) (N:=some 25) (v:=undef) (a':=?_) #[T,T,T,T,T,T,T,T,T,T,T,T,T,T,T,T,T,T,T,T,T,F,F,F] rfl rfl (by kernel_rfl) (fun _ _ _ h=>h) (Or.inr ⟨by rfl,rfl⟩) ?_ ?_
    rotate_left
    ·simp only [pq]
     rfl
    refine pure_ (i:=21) (N:=some 26) (v:=?_) (a':=?_) #[T,T,T,T,T,T,T,T,T,T,T,T,T,T,T,T,T,T,T,T,T,T,F,F] rfl rfl (by kernel_rfl) (fun _ _ _ h=>h) (Or.inl ⟨by rfl,?_⟩) ?_ ?_
    rotate_left;(intro w';go_simp;with_reducible rfl);rotate_left;(simp only [pq];rfl)
    refine pure_ (i:=22) (N:=some 27) (v:=?_) (a':=?_) #[T,T,T,T,T,T,T,T,T,T,T,T,T,T,T,T,T,T,T,T,T,T,T,F] rfl rfl (by kernel_rfl) (fun _ _ _ h=>h) (Or.inl ⟨by rfl,?_⟩) ?_ ?_
    rotate_left;(intro w';go_simp;with_reducible rfl);rotate_left;(simp only [pq];rfl)
    refine pure_ (i:=23) (N:=some 4) (v:=?_) (a':=?_) #[T,T,T,T,T,T,T,T,T,T,T,T,T,T,T,T,T,T,T,T,T,T,T,T] rfl rfl (by kernel_rfl) (fun _ _ _ h=>h) (Or.inl ⟨by rfl,?_⟩) ?_ ?_
    rotate_left;(intro w';go_simp;with_reducible rfl);rotate_left;(simp only [pq];rfl)
    refine done_ (by kernel_rfl) ?_
    go_wp2
    go_ret
    exact⟨rfl,aO (Below.refl _ W)⟩
   ·have d4:decide (p<0)=false:=decide_eq_false c2
    have d5:decide (0≤p)=true:=decide_eq_true (by omega)
    rw [d4]
    have b0:(0≤p)=True:=eq_true (by omega)
    have b1:(p<(ps.length:Int))=True:=eq_true (by omega)
    obtain⟨ad,A1,c1_,e,e0,_,_,_⟩:=at_T35 hp p (by omega) (by omega)
    generalize (rd_T35 ps p).f0=pl at e0 ⊢
    have E0:=aM e0
    subst e
    generalize ps.length=n4 at h4 d2 b1
    clear hp hS hr c0 c1 d3 c2 d4 e0
    go_enter Try.func40,Try.ntmps40
    go_upto_region 1 with fail
    refine start_ (n:=24) (S:=fun w'=>w'.cell? ⟨SB,4,none⟩=some (.slice (some ad) n4 c4)∧w'.cell? ⟨RB,0,none⟩=some (.int .i64 r)∧w'.cell? (ad.add (p.toNat * 2))=some (.int .i64 pl)) (ds:= []) #[F,F,F,F,F,F,F,F,F,F,F,F,F,F,F,F,F,F,F,F,F,F,F,F] (by kernel_rfl) rfl rfl ⟨h4.out,hR.out,E0.out⟩ (fun hHeld=>?_)
    refine pure_ (i:=0) (N:=some 5) (v:=?_) (a':=?_) #[T,F,F,F,F,F,F,F,F,F,F,F,F,F,F,F,F,F,F,F,F,F,F,F] rfl rfl (by kernel_rfl) (fun _ _ _ h=>h) (Or.inl ⟨by rfl,?_⟩) ?_ ?_
    rotate_left;(intro w';go_simp;with_reducible rfl);rotate_left;(simp only [pq];rfl)
    refine pure_ (i:=1) (N:=some 6) (v:=?_) (a':=?_) #[T,T,F,F,F,F,F,F,F,F,F,F,F,F,F,F,F,F,F,F,F,F,F,F] rfl rfl (by kernel_rfl) (fun _ _ _ h=>h) (Or.inl ⟨by rfl,?_⟩) ?_ ?_
    rotate_left;(intro w';go_simp;with_reducible rfl);rotate_left;(simp only [pq];rfl)
    refine pure_ (i:=2) (N:=some 7) (v:=?_) (a':=?_) #[T,T,T,F,F,F,F,F,F,F,F,F,F,F,F,F,F,F,F,F,F,F,F,F] rfl rfl (by kernel_rfl) (fun _ _ _ h=>h) (Or.inl ⟨by rfl,?_⟩) ?_ ?_
    rotate_left;(intro w';go_simp;with_reducible rfl);rotate_left;(simp only [pq];rfl)
    refine pure_ (i:=3) (N:=some 8) (v:=?_) (a':=?_) #[T,T,T,T,F,F,F,F,F,F,F,F,F,F,F,F,F,F,F,F,F,F,F,F] rfl rfl (by kernel_rfl) (fun _ _ _ h=>h) (Or.inl ⟨by rfl,?_⟩) ?_ ?_
    rotate_left;(intro w';go_simp;with_reducible rfl);rotate_left;(simp only [pq];rfl)
    refine pure_ (i:=4) (N:=some 9) (v:=?_) (a':=?_) #[T,T,T,T,T,F,F,F,F,F,F,F,F,F,F,F,F,F,F,F,F,F,F,F] rfl rfl (by kernel_rfl) (fun _ _ _ h=>h) (Or.inl ⟨by rfl,?_⟩) ?_ ?_
    rotate_left;(intro w';go_simp;with_reducible rfl);rotate_left;(simp only [pq];rfl)
    refine take_ (i:=5) (N:=some 10) (v:=?_) (a':=?_) #[T,T,T,T,T,T,F,F,F,F,F,F,F,F,F,F,F,F,F,F,F,F,F,F] rfl rfl (by kernel_rfl) (fun _ _ _ h=>h) (Or.inl ⟨by rfl,?_⟩) hHeld ?_ ?_
    rotate_left
    ·rintro w' ⟨s0,s1,s2⟩
     go_simp
     with_reducible rfl
    rotate_left
    ·simp only [pq]
     rfl
    refine pure_ (i:=6) (N:=some 11) (v:=?_) (a':=?_) #[T,T,T,T,T,T,T,F,F,F,F,F,F,F,F,F,F,F,F,F,F,F,F,F] rfl rfl (by kernel_rfl) (fun _ _ _ h=>h) (Or.inl ⟨by rfl,?_⟩) ?_ ?_
    rotate_left;(intro w';go_simp;with_reducible rfl);rotate_left;(simp only [pq];rfl)
    refine pure_ (i:=7) (N:=some 12) (v:=?_) (a':=?_) #[T,T,T,T,T,T,T,T,F,F,F,F,F,F,F,F,F,F,F,F,F,F,F,F] rfl rfl (by kernel_rfl) (fun _ _ _ h=>h) (Or.inl ⟨by rfl,?_⟩) ?_ ?_
    rotate_left;(intro w';go_simp;with_reducible rfl);rotate_left;(simp only [pq];rfl)
    refine pure_ (i:=8) (N:=some 13) (v:=?_) (a':=?_) #[T,T,T,T,T,T,T,T,T,F,F,F,F,F,F,F,F,F,F,F,F,F,F,F] rfl rfl (by kernel_rfl) (fun _ _ _ h=>h) (Or.inl ⟨by rfl,?_⟩) ?_ ?_
    rotate_left;(intro w';go_simp;with_reducible rfl);rotate_left;(simp only [pq];rfl)
    refine pure_ (i:=9) (N:=some 14) (v:=?_) (a':=?_) #[T,T,T,T,T,T,T,T,T,T,F,F,F,F,F,F,F,F,F,F,F,F,F,F] rfl rfl (by kernel_rfl) (fun _ _ _ h=>h) (Or.inl ⟨by rfl,?_⟩) ?_ ?_
    rotate_left;(intro w';go_simp;with_reducible rfl);rotate_left;(simp only [pq];rfl)
    refine pure_ (i:=10) (N:=some 15) (v:=?_) (a':=?_) #[T,T,T,T,T,T,T,T,T,T,T,F,F,F,F,F,F,F,F,F,F,F,F,F] rfl rfl (by kernel_rfl) (fun _ _ _ h=>h) (Or.inl ⟨by rfl,?_⟩) ?_ ?_
    rotate_left;(intro w';go_simp;with_reducible rfl);rotate_left;(simp only [pq];rfl)
    refine pure_ (i:=11) (N:=some 16) (v:=?_) (a':=?_) #[T,T,T,T,T,T,T,T,T,T,T,T,F,F,F,F,F,F,F,F,F,F,F,F] rfl rfl (by kernel_rfl) (fun _ _ _ h=>h) (Or.inl ⟨by rfl,?_⟩) ?_ ?_
    rotate_left;(intro w';go_simp;with_reducible rfl);rotate_left;(simp only [pq];rfl)
    refine pure_ (i:=12) (N:=some 17) (v:=?_) (a':=?_) #[T,T,T,T,T,T,T,T,T,T,T,T,T,F,F,F,F,F,F,F,F,F,F,F] rfl rfl (by kernel_rfl) (fun _ _ _ h=>h) (Or.inl ⟨by rfl,?_⟩) ?_ ?_
    rotate_left;(intro w';go_simp;with_reducible rfl);rotate_left;(simp only [pq];rfl)
    refine pure_ (i:=13) (N:=some 18) (v:=?_) (a':=?_) #[T,T,T,T,T,T,T,T,T,T,T,T,T,T,F,F,F,F,F,F,F,F,F,F] rfl rfl (by kernel_rfl) (fun _ _ _ h=>h) (Or.inl ⟨by rfl,?_⟩) ?_ ?_
    rotate_left;(intro w';go_simp;with_reducible rfl);rotate_left;(simp only [pq];rfl)
    refine pure_ (i:=15) (N:=some 20) (v:=?_) (a':=?_) #[T,T,T,T,T,T,T,T,T,T,T,T,T,T,F,T,F,F,F,F,F,F,F,F] rfl rfl (by kernel_rfl) (fun _ _ _ h=>h) (Or.inl ⟨by rfl,?_⟩) ?_ ?_
    rotate_left;(intro w';go_simp;with_reducible rfl);rotate_left;(simp only [pq];rfl)
    refine take_ (i:=14) (N:=some 19) (v:=?_) (a':=?_) #[T,T,T,T,T,T,T,T,T,T,T,T,T,T,T,T,F,F,F,F,F,F,F,F] rfl rfl (by kernel_rfl) (fun _ _ _ h=>h) (Or.inl ⟨by rfl,?_⟩) hHeld ?_ ?_
    rotate_left
    ·rintro w' ⟨s0,s1,s2⟩
     go_simp
     with_reducible rfl
    rotate_left
    ·simp only [pq]
     rfl
    refine pure_ (i:=16) (N:=some 21) (v:=?_) (a':=?_) #[T,T,T,T,T,T,T,T,T,T,T,T,T,T,T,T,T,F,F,F,F,F,F,F] rfl rfl (by kernel_rfl) (fun _ _ _ h=>h) (Or.inl ⟨by rfl,?_⟩) ?_ ?_
    rotate_left;(intro w';go_simp;with_reducible rfl);rotate_left;(simp only [pq];rfl)
    refine pure_ (i:=17) (N:=some 22) (v:=?_) (a':=?_) #[T,T,T,T,T,T,T,T,T,T,T,T,T,T,T,T,T,T,F,F,F,F,F,F] rfl rfl (by kernel_rfl) (fun _ _ _ h=>h) (Or.inl ⟨by rfl,?_⟩) ?_ ?_
    rotate_left;(intro w';go_simp;with_reducible rfl);rotate_left;(simp only [pq];rfl)
    refine take_ (i:=18) (N:=some 23) (v:=?_) (a':=?_) #[T,T,T,T,T,T,T,T,T,T,T,T,T,T,T,T,T,T,T,F,F,F,F,F] rfl rfl (by kernel_rfl) (fun _ _ _ h=>h) (Or.inl ⟨by rfl,?_⟩) hHeld ?_ ?_
    rotate_left
    ·rintro w' ⟨s0,s1,s2⟩
     go_simp
     with_reducible rfl
    rotate_left
    ·simp only [pq]
     rfl
    refine take_ (i:=19) (N:=some 24) (v:=?_) (a':=?_) #[T,T,T,T,T,T,T,T,T,T,T,T,T,T,T,T,T,T,T,T,F,F,F,F] rfl rfl (by kernel_rfl) (fun _ _ _ h=>h) (Or.inl ⟨by rfl,?_⟩) hHeld ?_ ?_
    rotate_left
    ·rintro w' ⟨s0,s1,s2⟩
     go_simp
     with_reducible rfl
    rotate_left
    ·simp only [pq]
     rfl
    refine pure_ (i:=20) (N:=some 25) (v:=?_) (a':=?_) #[T,T,T,T,T,T,T,T,T,T,T,T,T,T,T,T,T,T,T,T,T,F,F,F] rfl rfl (by kernel_rfl) (fun _ _ _ h=>h) (Or.inl ⟨by rfl,?_⟩) ?_ ?_
    rotate_left;(intro w';go_simp;with_reducible rfl);rotate_left;(simp only [pq];rfl)
    refine pure_ (i:=21) (N:=some 26) (v:=?_) (a':=?_) #[T,T,T,T,T,T,T,T,T,T,T,T,T,T,T,T,T,T,T,T,T,T,F,F] rfl rfl (by kernel_rfl) (fun _ _ _ h=>h) (Or.inl ⟨by rfl,?_⟩) ?_ ?_
    rotate_left;(intro w';go_simp;with_reducible rfl);rotate_left;(simp only [pq];rfl)
    refine pure_ (i:=22) (N:=some 27) (v:=?_) (a':=?_) #[T,T,T,T,T,T,T,T,T,T,T,T,T,T,T,T,T,T,T,T,T,T,T,F] rfl rfl (by kernel_rfl) (fun _ _ _ h=>h) (Or.inl ⟨by rfl,?_⟩) ?_ ?_
    rotate_left;(intro w';go_simp;with_reducible rfl);rotate_left;(simp only [pq];rfl)
    refine pure_ (i:=23) (N:=some 4) (v:=?_) (a':=?_) #[T,T,T,T,T,T,T,T,T,T,T,T,T,T,T,T,T,T,T,T,T,T,T,T] rfl rfl (by kernel_rfl) (fun _ _ _ h=>h) (Or.inl ⟨by rfl,?_⟩) ?_ ?_
    rotate_left;(intro w';go_simp;with_reducible rfl);rotate_left;(simp only [pq];rfl)
    refine done_ (by kernel_rfl) ?_
    go_wp2
    go_ret
    exact⟨by by_cases h:pl=r<;>simp [h],aO (Below.refl _ W)⟩
def rowsOk (nt:Nat) (ps:List S35):Nat→List (List Int)→Bool
 |_,[]=>true
 |r,row::t=>decide (row.length=nt+1) && row.all (okEnt ps (r:Int)) && rowsOk nt ps (r+1) t
def tbRight (nn nt:Nat) (ps:List S35) (tb:List (List Int)):Bool:=ps.all (okProd nn nt) && (!decide (nn=0) && (decide (tb.length=nn) && rowsOk nt ps 0 tb))
theorem at_rowi {w:World}{A:Option Addr}{n:Nat}{xs:List (List Int)}(h:Kd.C (Kd.slice 3 (Kd.int .i64)) w A n xs) (i:Int) (h0:0≤i) (h1:i<n):∃ad A0 c0,A=some ad∧w.cell? (ad.add i.toNat)=some (.slice A0 (xs.getD i.toNat []).length c0)∧(xs.getD i.toNat []).length≤c0∧(Kd.int .i64).C w A0 (xs.getD i.toNat []).length (xs.getD i.toNat []):=by
 obtain⟨ad,c,e,_,hK,hc0⟩:=Kd.C_get h ([]:List Int) i h0 h1
 have hc:∀j u,c[j]?=some u→w.cell? (ad.add (i.toNat * 1+j))=some u:=hc0
 obtain⟨A0,c0,rfl,l0,g0⟩:=hK
 exact⟨ad,A0,c0,e,by have hq:=hc 0 _ rfl;rwa [Nat.mul_one,Nat.add_zero] at hq,l0,g0⟩
theorem any_not' {α:Type}(p:α→Bool) (l:List α):(l.any fun x=>!p x)=!l.all p:=by rw [←any_not];simp
def machine_Right.f (aU:List ByteArray) (aX:List (S72)) (bA:Int) (bB:Int) (aQ:List (S35)) (l1:List (List Int)):Option Bool:=if aX.length≤1000000000∧l1.length≤1000000000∧aQ.length≤1000000000∧aQ.all (fun p=>decide (p.f1.length≤9223372036854775807))=true∧l1.all (fun p=>decide (p.length≤9223372036854775807))=true then some (tbRight aU.length aX.length aQ l1) else none
set_option maxHeartbeats 4000000 in
set_option maxRecDepth 100000 in
theorem machine_Right.calls (bC:Option Addr) (bK:Nat) (aU:List ByteArray) (bM:Option Addr) (bO:Nat) (aX:List (S72)) (bA:Int) (bB:Int) (bQ:Option Addr) (bP:Nat) (aQ:List (S35)) (A1:Option Addr) (c1:Nat) (l1:List (List Int)) (r:Bool) (w:World)
 (dM:Kd.C Kd.string w bC aU.length aU) (dT:aU.length≤bK) (dU:Kd.C k72 w bM aX.length aX) (dY:aX.length≤bO) (dR:Kd.C k35 w bQ aQ.length aQ) (eB:aQ.length≤bP) (hr1:Kd.C (Kd.slice 3 (Kd.int .i64)) w A1 l1.length l1) (hc1:l1.length≤c1)
 (h:machine_Right.f aU aX bA bB aQ l1=some r):
 Calls Try.prog 25 #[.agg #[.slice bC aU.length bK,.slice bM aX.length bO,.int .i64 bA,.int .i64 bB,.slice bQ aQ.length bP],.slice A1 l1.length c1] w fun e w'=>e= .returned (.bool r)∧Below w.heap.size w w':=by
 unfold machine_Right.f at h
 split at h
 case isFalse=>simp at h
 rename_i hbig
 obtain⟨hb1,hb2,hb3,hb4,hb5⟩:=hbig
 obtain rfl:=Option.some.inj h
 clear h
 have HA:Aside0 (Below w.heap.size w (w.alloc (.cells #[.slice bC aU.length bK,.slice bM aX.length bO,.int .i64 bA,.int .i64 bB,.slice bQ aQ.length bP] 26))):=⟨(Below.refl _ w).alloc (Nat.le_refl _) _⟩
 have P1:=aM (firsts_Right.calls bC bK aU bM bO aX bA bB bQ bP aQ _ _ (bD dM HA.out) dT (bD dU HA.out) dY (bD dR HA.out) eB (by unfold firsts_Right.f;rw [if_pos ⟨by omega,hb4⟩]))
 have HBK:Aside0 ((w.alloc (.cells #[.slice bC aU.length bK,.slice bM aX.length bO,.int .i64 bA,.int .i64 bB,.slice bQ aQ.length bP] 26)).heap[w.heap.size]?=some (.cells #[.slice bC aU.length bK,.slice bM aX.length bO,.int .i64 bA,.int .i64 bB,.slice bQ aQ.length bP] 26 (0,0))):=⟨heap_alloc_new w _⟩
 have HR4:=aM (bD dR HA.out)
 have HR1:=aM (bD hr1 HA.out)
 have HBIG:=aM (And.intro hb1 (And.intro hb2 hb3))
 have HB5:=aM hb5
 clear dM dT dU dY dR eB hr1 hc1 hb1 hb2 hb3 hb4 hb5
 generalize hrr:tbRight aU.length aX.length aQ l1=rr
 unfold tbRight at hrr
 generalize aQ.all (okProd aU.length aX.length)=R1 at P1 hrr
 have HRR:=aM hrr
 clear hrr
 go_enter Try.func25,Try.ntmps25
 go_upto_region 1 with fail
 generalize (w.alloc (.cells #[.slice bC aU.length bK,.slice bM aX.length bO,.int .i64 bA,.int .i64 bB,.slice bQ aQ.length bP] 26))=w1 at HA P1 HBK HR4 HR1 ⊢
 have HSB:Aside0 (w.heap.size<w1.heap.size):=⟨bN HBK.out⟩
 have HC:Aside0 (∀W,Below w1.heap.size w1 W→W.cell? ⟨w.heap.size,0,none⟩=some (.slice bC aU.length bK)∧W.cell? ⟨w.heap.size,1,none⟩=some (.slice bM aX.length bO)∧W.cell? ⟨w.heap.size,2,none⟩=some (.int .i64 bA)∧W.cell? ⟨w.heap.size,3,none⟩=some (.int .i64 bB)∧W.cell? ⟨w.heap.size,4,none⟩=some (.slice bQ aQ.length bP)):=⟨fun W hW=>by
  have hb:=(hW.block _ (bN HBK.out)).trans HBK.out
  exact⟨(aG hb 0).trans rfl,(aG hb 1).trans rfl,(aG hb 2).trans rfl,(aG hb 3).trans rfl,(aG hb 4).trans rfl⟩⟩
 obtain⟨q0,q1,q2,q3,q4⟩:=HC.out w1 (Below.refl _ _)
 cases R1 with
 |false=>
  go_wp2_with (first|(go_at_call 39;(with_reducible refine P1.out.mono ?_);rintro e w2 ⟨rfl,hb2⟩;have HB2:=aM hb2;clear hb2 P1 q0 q1 q2 q3 q4))
  go_ret
  exact⟨by rw [←HRR.out];rfl,HA.out.trans (HB2.out.mono HA.out.size)⟩
 |true=>
  by_cases hn:aU.length=0
  ·have d0:decide (aU.length=0)=true:=decide_eq_true hn
   have d1:((aU.length:Int)==0)=true:=by simp [hn]
   have HN:=aM hn
   clear hn
   go_wp2_with (first|(go_at_call 39;(with_reducible refine P1.out.mono ?_);rintro e w2 ⟨rfl,hb2⟩;have HB2:=aM hb2;clear hb2 P1 q0 q1 q2 q3 q4;obtain⟨q0,q1,q2,q3,q4⟩:=HC.out w2 HB2.out;have hn:=HN.out))
   go_ret
   exact⟨by rw [←HRR.out,d0];rfl,HA.out.trans (HB2.out.mono HA.out.size)⟩
  ·have d0:decide (aU.length=0)=false:=decide_eq_false hn
   have d1:((aU.length:Int)==0)=false:=by simp [hn]
   have HN:=aM hn
   by_cases ht:l1.length=aU.length
   ·have d2:decide (l1.length=aU.length)=true:=decide_eq_true ht
    have HT:=aM ht
    clear hn ht
    go_upto_region 3 with(first|(go_at_call 39;(with_reducible refine P1.out.mono ?_);rintro e w2 ⟨rfl,hb2⟩;have HB2:=aM hb2;clear hb2 P1 q0 q1 q2 q3 q4;obtain⟨q0,q1,q2,q3,q4⟩:=HC.out w2 HB2.out;have hn:=HN.out;have ht:=HT.out;have ht2:((l1.length:Int) !=(aU.length:Int))=false:=by simp [HT.out]))
    have HR1':Aside0 ((Kd.slice 3 (Kd.int .i64)).C w1 A1 aU.length l1):=⟨HT.out ▸ HR1.out⟩
    have hw1:IntKind.i64.wrap ((aX.length:Int)+1)=(aX.length:Int)+1:=by rw [IntKind.wrap_i64];have:=HBIG.out.1;omega
    have HNB:Aside0 (aU.length≤1000000000):=⟨by have:=HBIG.out.2.1;have:=HT.out;omega⟩
    clear q0 q1 q2 q3 q4 HR1
    go_wp2
    go_loopg [5,6,7,27] aU.length (fun gg _ _ _ s27 wr=>∃kk:Nat,kk≤aU.length∧aU.length - kk≤gg∧s27= .int .i64 kk∧Aside0 (Below w1.heap.size w1 wr)∧Aside0 (rowsOk aX.length aQ 0 l1=rowsOk aX.length aQ kk (l1.drop kk)))
    case atStart=>exact⟨0,Nat.zero_le _,by omega,rfl,HB2,⟨by simp⟩⟩
    case round=>
     clear HB2
     obtain⟨kk,hkk,hg,rfl,BW,PA⟩:=hrel
     by_cases hlt:kk<aU.length
     ·have hltz:decide ((kk:Int)<(aU.length:Int))=true:=decide_eq_true (by omega)
      have k0:(0≤(kk:Int))=True:=eq_true (by omega)
      have k1:((kk:Int)<(aU.length:Int))=True:=eq_true (by omega)
      have hlt1:kk<l1.length:=by rw [HT.out];exact hlt
      obtain⟨ad,A9,c9,e,l9,_,hC9⟩:=at_rowi (bD HR1'.out BW.out) (kk:Int) (by omega) (by omega)
      rw [Int.toNat_natCast,show l1.getD kk []=l1[kk] by rw [List.getD_eq_getElem?_getD,List.getElem?_eq_getElem hlt1];rfl] at l9 hC9
      have hrow:l1[kk].length≤9223372036854775807:=of_decide_eq_true (List.all_eq_true.1 HB5.out _ (List.getElem_mem hlt1))
      have PB:Aside0 (rowsOk aX.length aQ 0 l1=(decide (l1[kk].length=aX.length+1) && l1[kk].all (okEnt aQ (kk:Int)) && rowsOk aX.length aQ (kk+1) (l1.drop (kk+1)))):=⟨by rw [PA.out,List.drop_eq_getElem_cons hlt1,rowsOk]⟩
      generalize l1[kk]=row at l9 hC9 hrow PB
      subst e
      have hwk:IntKind.i64.wrap ((kk:Int)+1)=(kk:Int)+1:=by rw [IntKind.wrap_i64];have:=HNB.out;omega
      obtain⟨n9,hn9⟩:∃n9,n9=row.length:=⟨_,rfl⟩
      rw [←hn9] at l9
      have HN9:=aM hn9
      have HLT:=aM (And.intro hlt hg)
      have HC9:=aM hC9
      have HROW:=aM hrow
      clear hlt hlt1 hkk hg hn9 hC9 hrow PA
      go_upto_region 7 with fail
      have HB4:Aside0 (Below w1.heap.size w1 (wr.alloc (.cells #[.int .i64 (kk:Int)] 3))):=⟨BW.out.trans ((aN (Below.refl _ wr) _).mono BW.out.size)⟩
      have HB4':Aside0 (Below wr.heap.size wr (wr.alloc (.cells #[.int .i64 (kk:Int)] 3))):=⟨aN (Below.refl _ wr) _⟩
      have HRB:Aside0 ((wr.alloc (.cells #[.int .i64 (kk:Int)] 3)).heap[wr.heap.size]?=some (.cells #[.int .i64 (kk:Int)] 3 (0,0))):=⟨heap_alloc_new wr _⟩
      generalize (wr.alloc (.cells #[.int .i64 (kk:Int)] 3))=w4 at HB4 HB4' HRB ⊢
      generalize wr.heap.size=RB at HRB ⊢
      have eg:∀args w,(callFunc 40 args).run Try.prog w= .ok (.enter 40 args) w:=enters_of Try.func40 (by kernel_rfl) rfl
      have hcon:=containsInt_any (fun x=>!okEnt aQ (kk:Int) x) 40 #[.pointer (some ⟨w.heap.size,0,none⟩),.pointer (some ⟨RB,0,none⟩)] eg A9 c9 row w4 (bD HC9.out HB4'.out) HROW.out (fun W x _ hb=>by
       refine(mright1_any x (kk:Int) aQ w.heap.size RB W bQ bP (bD HR4.out (HB4.out.trans (hb.mono HB4.out.size))) (HC.out W (HB4.out.trans (hb.mono HB4.out.size))).2.2.2.2 ((aG (bF HRB.out hb) 0).trans rfl)).mono ?_
       rintro e w' ⟨he,hb'⟩
       exact⟨he,hb.trans (hb'.mono hb.size)⟩)
      rw [any_not',←HN9.out] at hcon
      have PB':Aside0 (rowsOk aX.length aQ 0 l1=(decide (n9=aX.length+1) && row.all (okEnt aQ (kk:Int)) && rowsOk aX.length aQ (kk+1) (l1.drop (kk+1)))):=⟨by rw [PB.out,HN9.out]⟩
      generalize row.all (okEnt aQ (kk:Int))=R2 at hcon PB'
      have P5:=aM hcon
      obtain⟨q0,q1,q2,q3,q4⟩:=HC.out w4 HB4.out
      clear hcon eg PB BW
      have e6:∀args w,(callFunc 41 args).run Try.prog w= .ok (.enter 41 args) w:=enters_of Try.func41 (by kernel_rfl) rfl
      by_cases h9:n9=aX.length+1
      ·have e9:((n9:Int) !=(aX.length:Int)+1)=false:=by simp [h9]
       have H9:=aM h9
       have D9:=aM (decide_eq_true h9)
       clear h9
       cases R2 with
       |true=>
        have PC:Aside0 (rowsOk aX.length aQ 0 l1=rowsOk aX.length aQ (kk+1) (l1.drop (kk+1))):=⟨by rw [PB'.out,D9.out];simp⟩
        go_wp2_with (go_at_fn 41;refine P5.out.mono ?_;rintro e w5 ⟨rfl,hb5⟩;have HB5w:=aM hb5;clear hb5)
        go_roundg (aU.length - (kk+1))
        case measure=>have:=HLT.out;omega
        case rel=>exact⟨kk+1,by have:=HLT.out;omega,Nat.le_refl _,by push_cast;rfl,⟨HB4.out.trans (HB5w.out.mono HB4.out.size)⟩,PC⟩
       |false=>
        have PC:Aside0 (rowsOk aX.length aQ 0 l1=false):=⟨by rw [PB'.out];simp⟩
        go_wp2_with (go_at_fn 41;refine P5.out.mono ?_;rintro e w5 ⟨rfl,hb5⟩;have HB5w:=aM hb5;clear hb5)
        go_ret
        exact⟨by rw [←HRR.out,d0,d2,PC.out];rfl,HA.out.trans ((HB4.out.trans (HB5w.out.mono HB4.out.size)).mono HA.out.size)⟩
      ·have e9:((n9:Int) !=(aX.length:Int)+1)=true:=by simp;omega
       have PC:Aside0 (rowsOk aX.length aQ 0 l1=false):=⟨by rw [PB'.out,decide_eq_false h9];simp⟩
       clear h9
       go_wp2
       go_ret
       exact⟨by rw [←HRR.out,d0,d2,PC.out];rfl,HA.out.trans (HB4.out.mono HA.out.size)⟩
     ·obtain rfl:kk=aU.length:=by omega
      have hltz:decide ((aU.length:Int)<(aU.length:Int))=false:=decide_eq_false (by omega)
      have PD:Aside0 (rowsOk aX.length aQ 0 l1=true):=⟨by rw [PA.out,←HT.out,List.drop_length];rfl⟩
      clear hlt hkk hg PA
      go_wp2
      go_ret
      exact⟨by rw [←HRR.out,d0,d2,PD.out];rfl,HA.out.trans (BW.out.mono HA.out.size)⟩
   ·have d2:decide (l1.length=aU.length)=false:=decide_eq_false ht
    have ht2:((l1.length:Int) !=(aU.length:Int))=true:=by simp;omega
    have HT:=aM ht
    clear hn ht
    go_wp2_with (first|(go_at_call 39;(with_reducible refine P1.out.mono ?_);rintro e w2 ⟨rfl,hb2⟩;have HB2:=aM hb2;clear hb2 P1 q0 q1 q2 q3 q4;obtain⟨q0,q1,q2,q3,q4⟩:=HC.out w2 HB2.out;have hn:=HN.out;have ht:=HT.out))
    go_ret
    exact⟨by rw [←HRR.out,d0,d2];rfl,HA.out.trans (HB2.out.mono HA.out.size)⟩
theorem awaits1_any (x:S43) (B:Nat) (W:World) (A0 A1:Option Addr) (n0 n1 c0 c1:Nat)
 (h0:W.cell? ⟨B,0,none⟩=some (.slice A0 n0 c0)) (h1:W.cell? ⟨B,1,none⟩=some (.slice A1 n1 c1)) (hB:B<W.heap.size):
 Calls Try.prog 50 #[.agg #[.bool x.f0,.int .i64 x.f1],.pointer (some ⟨B,0,none⟩)] W fun e w'=>e= .returned (.bool (!okSym n0 n1 x))∧Below W.heap.size W w':=by
 have hne:B≠W.heap.size:=by omega
 obtain⟨b,n⟩:=x
 unfold okSym
 by_cases c0:n<0
 ·have d0:decide (n<0)=true:=decide_eq_true c0
  have d1:decide (0≤n)=false:=decide_eq_false (by omega)
  cases b<;>(go_enter Try.func50,Try.ntmps50;go_wp2;go_ret;exact⟨rfl,(Below.refl _ W).alloc (Nat.le_refl _) _⟩)
 have d0:decide (n<0)=false:=decide_eq_false c0
 have d1:decide (0≤n)=true:=decide_eq_true (by omega)
 cases b with
 |true=>
  by_cases c2:(n1:Int)≤n
  ·have d2:decide ((n1:Int)≤n)=true:=decide_eq_true c2
   have d3:decide (n<(n1:Int))=false:=decide_eq_false (by omega)
   go_enter Try.func50,Try.ntmps50
   go_wp2
   go_ret
   exact⟨rfl,(Below.refl _ W).alloc (Nat.le_refl _) _⟩
  ·have d2:decide ((n1:Int)≤n)=false:=decide_eq_false c2
   have d3:decide (n<(n1:Int))=true:=decide_eq_true (by omega)
   go_enter Try.func50,Try.ntmps50
   go_wp2
   go_ret
   exact⟨rfl,(Below.refl _ W).alloc (Nat.le_refl _) _⟩
 |false=>
  by_cases c2:(n0:Int)≤n
  ·have d2:decide ((n0:Int)≤n)=true:=decide_eq_true c2
   have d3:decide (n<(n0:Int))=false:=decide_eq_false (by omega)
   go_enter Try.func50,Try.ntmps50
   go_wp2
   go_ret
   exact⟨rfl,(Below.refl _ W).alloc (Nat.le_refl _) _⟩
  ·have d2:decide ((n0:Int)≤n)=false:=decide_eq_false c2
   have d3:decide (n<(n0:Int))=true:=decide_eq_true (by omega)
   go_enter Try.func50,Try.ntmps50
   go_wp2
   go_ret
   exact⟨rfl,(Below.refl _ W).alloc (Nat.le_refl _) _⟩
def stAwaits (nn nt:Nat) (l:List S43):Bool:=decide (l.length≤10000) && l.all (okSym nn nt)
set_option maxRecDepth 100000 in
theorem awaits_any (bC:Option Addr) (bK:Nat) (aU:List ByteArray) (bM:Option Addr) (bO:Nat) (aX:List (S72)) (bA:Int) (bB:Int) (bQ:Option Addr) (bP:Nat) (aQ:List (S35)) (A1:Option Addr) (c1:Nat) (l1:List (S43)) (w:World)
 (hr1:Kd.C k43 w A1 l1.length l1):
 Calls Try.prog 35 #[.agg #[.slice bC aU.length bK,.slice bM aX.length bO,.int .i64 bA,.int .i64 bB,.slice bQ aQ.length bP],.slice A1 l1.length c1] w fun e w'=>e= .returned (.bool (stAwaits aU.length aX.length l1))∧Below w.heap.size w w':=by
 have HW:Aside0 (Below w.heap.size w (w.alloc (.cells #[.slice bC aU.length bK,.slice bM aX.length bO,.int .i64 bA,.int .i64 bB,.slice bQ aQ.length bP] 26))):=⟨(Below.refl _ w).alloc (Nat.le_refl _) _⟩
 unfold stAwaits
 by_cases hl:l1.length≤10000
 ·have eg:∀args w,(callFunc 50 args).run Try.prog w= .ok (.enter 50 args) w:=enters_of Try.func50 (by kernel_rfl) rfl
  have e6:∀args w,(callFunc 51 args).run Try.prog w= .ok (.enter 51 args) w:=enters_of Try.func51 (by kernel_rfl) rfl
  have hcon:=containsSym_any (fun x=>!okSym aU.length aX.length x) 50 #[.pointer (some ⟨w.heap.size,0,none⟩)] eg A1 c1 l1 (w.alloc (.cells #[.slice bC aU.length bK,.slice bM aX.length bO,.int .i64 bA,.int .i64 bB,.slice bQ aQ.length bP] 26)) (bD hr1 HW.out) (by omega) (fun W x _ hb=>by
   have hlt:w.heap.size<(w.alloc (.cells #[.slice bC aU.length bK,.slice bM aX.length bO,.int .i64 bA,.int .i64 bB,.slice bQ aQ.length bP] 26)).heap.size:=by simp
   refine(awaits1_any x w.heap.size W bC bM aU.length aX.length bK bO ?_ ?_ (Nat.lt_of_lt_of_le hlt hb.size)).mono ?_
   ·exact(hb.cell (p:=⟨w.heap.size,0,none⟩) hlt).trans (by simp)
   ·exact(hb.cell (p:=⟨w.heap.size,1,none⟩) hlt).trans (by simp)
   ·rintro e w' ⟨he,hb'⟩
    exact⟨he,hb.trans (hb'.mono hb.size)⟩)
  have HD:=aM (decide_eq_true hl)
  clear hr1
  rw [any_not'] at hcon
  generalize l1.all (okSym aU.length aX.length)=rr at hcon ⊢
  go_enter Try.func35,Try.ntmps35
  go_wp2_with (go_at_fn 51;refine hcon.mono ?_;rintro e w' ⟨rfl,hb'⟩)
  go_ret
  exact⟨by rw [HD.out];simp,HW.out.trans (hb'.mono (by simp))⟩
 ·have hd:decide (l1.length≤10000)=false:=decide_eq_false hl
  rw [hd]
  clear hr1 hd
  go_enter Try.func35,Try.ntmps35
  go_wp2
  go_ret
  exact⟨rfl,HW.out⟩
theorem R_lit0 {α:Type}(d:Kd α) (e:Nat) (W:World) (ok:Nat→Prop) (h:ok W.heap.size):d.R e (W.alloc (.cells #[] e)) W.heap.size ok (.slice (some ⟨W.heap.size,0,none⟩) 0 0) []:=by
 refine⟨fun k hk=>?_,[],?_,?_⟩
 ·have:W.heap.size=k:=by simpa [Value.ownBlock] using hk
  subst this
  exact h
 ·have h2:=World.ownsRow_lit (base:=W.heap.size) (e:=e) (size:=d.sz) W #[] 0 (Nat.le_refl _) (by decide) (by simp)
  simpa using h2
 ·exact⟨by simp,by simp⟩
set_option maxRecDepth 100000 in
theorem cloneSym_any (A:Option Addr) (c:Nat) (l:List (S43)) (w:World) (hr:Kd.C k43 w A l.length l) (hb:l.length≤1000000000):
 Calls Try.prog 37 #[.slice A l.length c] w fun e w'=>∃v,e= .returned v∧Kd.R k43 43 w' w.heap.size (fun _=>True) v l∧Below w.heap.size w w':=by
 cases A with
 |none=>
  obtain rfl:l= []:=by
   cases l with
   |nil=>rfl
   |cons x l=>obtain⟨ad,c,e,_⟩:=Kd.C_get hr x 0 (by omega) (by simp);cases e
  have heq:=Lib.run_eql_slice_nil (P:=Try.prog) w 29 43 none 0 c 0 0 Try.underlying29
  go_enter Try.func37,Try.ntmps37
  go_wp2
  go_ret
  exact⟨_,rfl,Kd.R_nil _ _ _ _ _,Below.refl _ _⟩
 |some ad=>
  have heq:=Lib.run_eql_slice_nil (P:=Try.prog) w 29 43 (some ad) l.length c 0 0 Try.underlying29
  have HR:=aM hr
  have HB:=aM hb
  clear hr hb
  go_enter Try.func37,Try.ntmps37
  have HW:Aside0 (Below w.heap.size w (w.alloc (.cells #[] 43))):=⟨aN (Below.refl _ w) _⟩
  go_wp2_with (first|((with_reducible refine gate_builtin (b:= .append) (xs:=#[.tmp 5,.tmp 6]) rfl ?_);at_builtin;refine Kd.R_append_rows k43 (w0:=w) w.heap.size rfl (.tmp 5) (.tmp 6) 29 43 (.agg #[(.bool false),(.int .i64 0)]) 16 rfl Try.underlying29 info43 rfl (by decide) (by omega) _ ([]:List S43) l (some ad) l.length c (fun _=>True) (fun _=>False) rfl rfl (R_lit0 _ _ w _ trivial) (bD HR.out HW.out) (fun _ _ h=>h) (fun _ h=>h.elim) (fun _ _=>trivial) HW.out HW.out.size (by have:=HB.out;simp only [List.length_nil];omega) ?_;intro v9 w9 ho hb hg hat;have ML:=aM ho;have HB9:=aM hb;clear ho hb hg hat))
  go_ret
  exact⟨_,rfl,ML.out,HB9.out⟩
theorem miInt:(Try.prog.info? 3).map (fun i=>(i.zero,i.size,i.bytes))=some (some (.int .i64 0),1,8):=by kernel_rfl
set_option maxRecDepth 100000 in
theorem cloneInt_any (A:Option Addr) (c:Nat) (l:List (Int)) (w:World) (hr:Kd.C (Kd.int .i64) w A l.length l) (hb:l.length≤1000000000):
 Calls Try.prog 34 #[.slice A l.length c] w fun e w'=>∃v,e= .returned v∧Kd.R (Kd.int .i64) 3 w' w.heap.size (fun _=>True) v l∧Below w.heap.size w w':=by
 cases A with
 |none=>
  obtain rfl:l= []:=by
   cases l with
   |nil=>rfl
   |cons x l=>obtain⟨ad,c,e,_⟩:=Kd.C_get hr x 0 (by omega) (by simp);cases e
  have heq:=Lib.run_eql_slice_nil (P:=Try.prog) w 32 3 none 0 c 0 0 Try.underlying32
  go_enter Try.func34,Try.ntmps34
  go_wp2
  go_ret
  exact⟨_,rfl,Kd.R_nil _ _ _ _ _,Below.refl _ _⟩
 |some ad=>
  have heq:=Lib.run_eql_slice_nil (P:=Try.prog) w 32 3 (some ad) l.length c 0 0 Try.underlying32
  have HR:=aM hr
  have HB:=aM hb
  clear hr hb
  go_enter Try.func34,Try.ntmps34
  have HW:Aside0 (Below w.heap.size w (w.alloc (.cells #[] 3))):=⟨aN (Below.refl _ w) _⟩
  go_wp2_with (first|((with_reducible refine gate_builtin (b:= .append) (xs:=#[.tmp 5,.tmp 6]) rfl ?_);at_builtin;refine Kd.R_append_rows (Kd.int .i64) (w0:=w) w.heap.size rfl (.tmp 5) (.tmp 6) 32 3 (.int .i64 0) 8 rfl Try.underlying32 miInt rfl (by decide) (by omega) _ ([]:List Int) l (some ad) l.length c (fun _=>True) (fun _=>False) rfl rfl (R_lit0 _ _ w _ trivial) (bD HR.out HW.out) (fun _ _ h=>h) (fun _ h=>h.elim) (fun _ _=>trivial) HW.out HW.out.size (by have:=HB.out;simp only [List.length_nil];omega) ?_;intro v9 w9 ho hb hg hat;have ML:=aM ho;have HB9:=aM hb;clear ho hb hg hat))
  go_ret
  exact⟨_,rfl,ML.out,HB9.out⟩
def slices_Clone_int_int.f (l0:List Int):Option (List Int):=if l0.length≤1000000000 then some l0 else none
theorem slices_Clone_int_int.calls (A0:Option Addr) (c0:Nat) (l0:List Int) (r:List Int) (w:World) (hr0:Kd.C (Kd.int .i64) w A0 l0.length l0) (hc0:l0.length≤c0) (h:slices_Clone_int_int.f l0=some r):
 Calls Try.prog 34 #[.slice A0 l0.length c0] w fun e w'=>∃v0_:Value,e= .returned (v0_)∧Kd.R (Kd.int .i64) 3 w' w.heap.size (fun _=>True) v0_ r∧Below w.heap.size w w':=by
 unfold slices_Clone_int_int.f at h
 split at h
 case isFalse=>simp at h
 obtain rfl:=Option.some.inj h
 rename_i hl
 exact cloneInt_any A0 c0 l0 w hr0 hl
theorem prod_one (W:World) (g:Nat) (A:Option Addr) (c:Nat) (l:List S43) (hb:W.heap[g]?=some (.cells #[.int .i64 0,.slice A l.length c] 35 (0,0))) (hl:l.length≤c) (hC:Kd.C k43 W A l.length l):
 Kd.C k35 W (some ⟨g,0,none⟩) [(⟨0,l⟩:S35)].length [(⟨0,l⟩:S35)]:=by
 refine⟨rfl,by show 1≤9223372036854775807;decide,fun _=>⟨_,rfl,fun j p hj=>?_⟩⟩
 have hj0:j=0:=by
  have:=(List.getElem?_eq_some_iff.1 hj).1
  simp at this
  exact this
 subst hj0
 obtain rfl:(⟨0,l⟩:S35)=p:=by simpa using hj
 refine⟨[.int .i64 0,.slice A l.length c],rfl,k35_mk W (⟨0,l⟩:S35) hl hC,fun i u hi=>?_⟩
 have hi2:i<2:=(List.getElem?_eq_some_iff.1 hi).1
 have e:(⟨g,0,none⟩:Addr).add (0 * k35.sz+i)=⟨g,i,none⟩:=by
  rw [Nat.zero_mul,Nat.zero_add,add_plain]
 rw [e,aG hb i]
 match i,hi2 with
 |0,_=>exact hi
 |1,_=>exact hi
def regletref16_stack.f (k:Nat) (aU:List ByteArray) (aX:List (S72)) (bA:Int) (bB:Int) (aQ:List (S35)) (l1:List (S43)):Option Bool:=(regletref13_Right.f k aU aX bA bB [⟨0,l1⟩]).bind fun b=>some (b && decide (l1.length≤10000))
set_option maxHeartbeats 4000000 in
set_option maxRecDepth 100000 in
theorem regletref16_stack.calls (k:Nat) (bC:Option Addr) (bK:Nat) (aU:List ByteArray) (bM:Option Addr) (bO:Nat) (aX:List (S72)) (bA:Int) (bB:Int) (bQ:Option Addr) (bP:Nat) (aQ:List (S35)) (A1:Option Addr) (c1:Nat) (l1:List (S43)) (r:Bool) (w:World)
 (dM:Kd.C Kd.string w bC aU.length aU) (dT:aU.length≤bK) (dU:Kd.C k72 w bM aX.length aX) (dY:aX.length≤bO) (dR:Kd.C k35 w bQ aQ.length aQ) (eB:aQ.length≤bP) (hr1:Kd.C k43 w A1 l1.length l1) (hc1:l1.length≤c1)
 (h:regletref16_stack.f k aU aX bA bB aQ l1=some r):
 Calls Try.prog 42 #[.agg #[.slice bC aU.length bK,.slice bM aX.length bO,.int .i64 bA,.int .i64 bB,.slice bQ aQ.length bP],.slice A1 l1.length c1] w fun e w'=>e= .returned (.bool r)∧Below w.heap.size w w':=by
 obtain⟨b,hb,hr⟩:=Option.bind_eq_some_iff.1 h
 have HRR:=aM (Option.some.inj hr)
 have HB:=aM hb
 have H00:=aM (And.intro dM dT)
 have H01:=aM (And.intro dU dY)
 have H1:=aM (And.intro hr1 hc1)
 clear h hb hr dM dT dU dY dR eB hr1 hc1
 go_enter Try.func42,Try.ntmps42
 go_upto_region 3 with fail
 have HW:Aside0 (Below w.heap.size w (((w.alloc (.cells #[.slice bC aU.length bK,.slice bM aX.length bO,.int .i64 bA,.int .i64 bB,.slice bQ aQ.length bP] 26)).alloc (.cells #[.slice bC aU.length bK,.slice bM aX.length bO,.int .i64 bA,.int .i64 bB,.slice (some ⟨w.heap.size+1+1,0,none⟩) 1 1] 26)).alloc (.cells #[.int .i64 0,.slice A1 l1.length c1] 35))):=⟨(((Below.refl _ w).alloc (Nat.le_refl _) _).alloc (by simp) _).alloc (by simp;omega) _⟩
 have hT:(((w.alloc (.cells #[.slice bC aU.length bK,.slice bM aX.length bO,.int .i64 bA,.int .i64 bB,.slice bQ aQ.length bP] 26)).alloc (.cells #[.slice bC aU.length bK,.slice bM aX.length bO,.int .i64 bA,.int .i64 bB,.slice (some ⟨w.heap.size+1+1,0,none⟩) 1 1] 26)).alloc (.cells #[.int .i64 0,.slice A1 l1.length c1] 35)).heap[w.heap.size+1]?=some (.cells #[.slice bC aU.length bK,.slice bM aX.length bO,.int .i64 bA,.int .i64 bB,.slice (some ⟨w.heap.size+1+1,0,none⟩) 1 1] 26 (0,0)):=by have h:=aI (blk_new (w.alloc (.cells #[.slice bC aU.length bK,.slice bM aX.length bO,.int .i64 bA,.int .i64 bB,.slice bQ aQ.length bP] 26)) (.cells #[.slice bC aU.length bK,.slice bM aX.length bO,.int .i64 bA,.int .i64 bB,.slice (some ⟨w.heap.size+1+1,0,none⟩) 1 1] 26)) (.cells #[.int .i64 0,.slice A1 l1.length c1] 35);rw [World.size_alloc] at h;exact h
 have hP:(((w.alloc (.cells #[.slice bC aU.length bK,.slice bM aX.length bO,.int .i64 bA,.int .i64 bB,.slice bQ aQ.length bP] 26)).alloc (.cells #[.slice bC aU.length bK,.slice bM aX.length bO,.int .i64 bA,.int .i64 bB,.slice (some ⟨w.heap.size+1+1,0,none⟩) 1 1] 26)).alloc (.cells #[.int .i64 0,.slice A1 l1.length c1] 35)).heap[w.heap.size+1+1]?=some (.cells #[.int .i64 0,.slice A1 l1.length c1] 35 (0,0)):=by have h:=blk_new ((w.alloc (.cells #[.slice bC aU.length bK,.slice bM aX.length bO,.int .i64 bA,.int .i64 bB,.slice bQ aQ.length bP] 26)).alloc (.cells #[.slice bC aU.length bK,.slice bM aX.length bO,.int .i64 bA,.int .i64 bB,.slice (some ⟨w.heap.size+1+1,0,none⟩) 1 1] 26)) (.cells #[.int .i64 0,.slice A1 l1.length c1] 35);rw [World.size_alloc,World.size_alloc] at h;exact h
 generalize (((w.alloc (.cells #[.slice bC aU.length bK,.slice bM aX.length bO,.int .i64 bA,.int .i64 bB,.slice bQ aQ.length bP] 26)).alloc (.cells #[.slice bC aU.length bK,.slice bM aX.length bO,.int .i64 bA,.int .i64 bB,.slice (some ⟨w.heap.size+1+1,0,none⟩) 1 1] 26)).alloc (.cells #[.int .i64 0,.slice A1 l1.length c1] 35))=w1 at HW hT hP ⊢
 generalize w.heap.size+1+1=PB at hT hP ⊢
 generalize w.heap.size+1=TB at hT ⊢
 have PR:Aside0 (Calls Try.prog 30 #[.agg #[.slice bC aU.length bK,.slice bM aX.length bO,.int .i64 bA,.int .i64 bB,.slice (some ⟨PB,0,none⟩) 1 1]] w1 fun e w'=>e= .returned (.bool b)∧Below w1.heap.size w1 w'):=⟨regletref13_Right.calls k bC bK aU bM bO aX bA bB (some ⟨PB,0,none⟩) 1 [(⟨0,l1⟩:S35)] b w1 (bD H00.out.1 HW.out) H00.out.2 (bD H01.out.1 HW.out) H01.out.2 (prod_one w1 PB A1 c1 l1 hP H1.out.2 (bD H1.out.1 HW.out)) (Nat.le_refl _) HB.out⟩
 have q0:=(aG hT 0)
 have q1:=(aG hT 1)
 have q2:=(aG hT 2)
 have q3:=(aG hT 3)
 have q4:=(aG hT 4)
 clear hT hP
 cases b with
 |false=>
  have hr0:r=false:=by rw [←HRR.out];rfl
  subst hr0
  go_wp2_with (first|(go_at_call 30;(with_reducible refine PR.out.mono ?_);rintro e w2 ⟨rfl,hb2⟩;have HB2:Aside0 (Below w.heap.size w w2):=⟨HW.out.trans (hb2.mono HW.out.size)⟩;clear hb2 PR q0 q1 q2 q3 q4))
  go_ret
  exact⟨rfl,HB2.out⟩
 |true=>
  have hr0:r=decide (l1.length≤10000):=by rw [←HRR.out];rfl
  have HR0:=aM hr0
  clear hr0
  go_wp2_with (first|(go_at_call 30;(with_reducible refine PR.out.mono ?_);rintro e w2 ⟨rfl,hb2⟩;have HB2:Aside0 (Below w.heap.size w w2):=⟨HW.out.trans (hb2.mono HW.out.size)⟩;clear hb2 PR q0 q1 q2 q3 q4))
  go_ret
  exact⟨by rw [HR0.out];simp;omega,HB2.out⟩
end Go.Proofs.Ytapjfnfengefpaa.P
end

section
namespace Go.Proofs.Ytapjfnfengefpaa.P
open Go.RowKit Go.Proofs.YtapjfnfengefpaaW.PrintWords Go.Proofs.YtapjfnfengefpaaW.PrintLast Go.Proofs.YtapjfnfengefpaaW.PrintMore
attribute [local go_sem] max2_int min2_int max_two min_two max_three min_three max_four min_four   -- for this text's walks alone
set_option linter.unusedVariables false
set_option linter.unusedSimpArgs false
mutual
def regletref16_Feed.j0:Nat→List (List Int)→Int→Bool→List ByteArray→List (S72)→Int→Int→List (S35)→List (S43)→Bool→Option ((List (S43))×Bool×List Int×Int)
 |0,_,_,_,_,_,_,_,_,_,_=>none
 |k+1,x1,x3,x37,x230000,x230001,x230002,x230003,x230004,x231000,x231001=>if x37=true then(some (([]:List (S43)),true,([]:List Int),1)) else(if x231001=true then(some (([]:List (S43)),true,([]:List Int),80)) else(if([]:List (S43)).length+x231000.length<8796093022208 then(regletref16_Feed.l0 k x1 x3 (([]:List (S43))++x231000) ([]:List Int) x230000 x230001 x230002 x230003 x230004) else(none)))
def regletref16_Feed.l0:Nat→List (List Int)→Int→List (S43)→List Int→List ByteArray→List (S72)→Int→Int→List (S35)→Option ((List (S43))×Bool×List Int×Int)
 |0,_,_,_,_,_,_,_,_,_=>none
 |k+1,x1,x3,x11,x12,x230000,x230001,x230002,x230003,x230004=>if(x11.length:Int)>0 then(if 0≤(wrap64 ((x11.length:Int) - 1)) then(if(wrap64 ((x11.length:Int) - 1))<(x11.length:Int) then(if(wrap64 ((x11.length:Int) - 1))≤(x11.length:Int) then((some (x11.take ((wrap64 ((x11.length:Int) - 1)):Int).toNat:List (S43))).bind fun y239=>(if(rd_T43 x11 (wrap64 ((x11.length:Int) - 1))).f0=true then(if((rd_T43 x11 (wrap64 ((x11.length:Int) - 1))).f1)=x3 then(some (y239,false,x12,0)) else(some (([]:List (S43)),true,x12,80))) else(if 0≤((rd_T43 x11 (wrap64 ((x11.length:Int) - 1))).f1) then(if((rd_T43 x11 (wrap64 ((x11.length:Int) - 1))).f1)<(x1.length:Int) then(if 0≤x3 then(if x3<((rd_L5 x1 ((rd_T43 x11 (wrap64 ((x11.length:Int) - 1))).f1)).length:Int) then(if(rd (rd_L5 x1 ((rd_T43 x11 (wrap64 ((x11.length:Int) - 1))).f1)) x3)<0 then(some (([]:List (S43)),true,x12,80)) else(if x12.length<17592186044416 then(if 0≤(rd (rd_L5 x1 ((rd_T43 x11 (wrap64 ((x11.length:Int) - 1))).f1)) x3) then(if(rd (rd_L5 x1 ((rd_T43 x11 (wrap64 ((x11.length:Int) - 1))).f1)) x3)<(x230004.length:Int) then(regletref16_Feed.l1 k x1 x3 y239 (x12++ [rd (rd_L5 x1 ((rd_T43 x11 (wrap64 ((x11.length:Int) - 1))).f1)) x3]) (rd (rd_L5 x1 ((rd_T43 x11 (wrap64 ((x11.length:Int) - 1))).f1)) x3) (wrap64 ((((rd_T35 x230004 (rd (rd_L5 x1 ((rd_T43 x11 (wrap64 ((x11.length:Int) - 1))).f1)) x3)).f1).length:Int) - 1)) x230000 x230001 x230002 x230003 x230004) else(none)) else(none)) else(none))) else(none)) else(none)) else(none)) else(none)))) else(none)) else(none)) else(none)) else(if x3<(x230001.length:Int) then(some (([]:List (S43)),true,x12,80)) else(some (([]:List (S43)),false,x12,0)))
def regletref16_Feed.l1:Nat→List (List Int)→Int→List (S43)→List Int→Int→Int→List ByteArray→List (S72)→Int→Int→List (S35)→Option ((List (S43))×Bool×List Int×Int)
 |0,_,_,_,_,_,_,_,_,_,_,_=>none
 |k+1,x1,x3,x11,x12,x14,x15,x230000,x230001,x230002,x230003,x230004=>if x15≥0 then(if 0≤x14 then(if x14<(x230004.length:Int) then(if 0≤x15 then(if x15<(((rd_T35 x230004 x14).f1).length:Int) then(if x11.length<8796093022208 then(regletref16_Feed.l1 k x1 x3 (x11++ [(⟨(rd_T43 ((rd_T35 x230004 x14).f1) x15).f0,(rd_T43 ((rd_T35 x230004 x14).f1) x15).f1⟩:S43)]) x12 x14 (wrap64 (x15 - 1)) x230000 x230001 x230002 x230003 x230004) else(none)) else(none)) else(none)) else(none)) else(none)) else(if(x11.length:Int)>10000 then(some (([]:List (S43)),true,([]:List Int),2)) else(if(x12.length:Int)>10000 then(some (([]:List (S43)),true,([]:List Int),2)) else(regletref16_Feed.l0 k x1 x3 x11 x12 x230000 x230001 x230002 x230003 x230004)))
end
def regletref16_Feed.f (k:Nat) (aU:List ByteArray) (aX:List (S72)) (bA:Int) (bB:Int) (aQ:List (S35)) (l1:List (List Int)) (dF:List (S43)) (fD:Bool) (a3:Int):Option ((List (S43))×Bool×List Int×Int):=(regletref16_Right.f k aU aX bA bB aQ l1).bind fun t232=>(if t232=true then((regletref16_stack.f k aU aX bA bB aQ dF).bind fun t233=>(if t233=true then(if a3<0 then(regletref16_Feed.j0 k l1 a3 true aU aX bA bB aQ dF fD) else(regletref16_Feed.j0 k l1 a3 (decide (a3>(aX.length:Int))) aU aX bA bB aQ dF fD)) else(regletref16_Feed.j0 k l1 a3 true aU aX bA bB aQ dF fD))) else(regletref16_Feed.j0 k l1 a3 true aU aX bA bB aQ dF fD))
set_option maxHeartbeats 8000000 in
set_option maxRecDepth 100000 in
theorem regletref16_Feed.calls (k:Nat) (bC:Option Addr) (bK:Nat) (aU:List ByteArray) (bM:Option Addr) (bO:Nat) (aX:List (S72)) (bA:Int) (bB:Int) (bQ:Option Addr) (bP:Nat) (aQ:List (S35)) (A1:Option Addr) (c1:Nat) (l1:List (List Int)) (gQ:Option Addr) (gT:Nat) (dF:List (S43)) (fD:Bool) (a3:Int) (r1:List (S43)) (r2:Bool) (r3:List Int) (r4:Int) (w:World) (dM:Kd.C Kd.string w bC aU.length aU) (dT:aU.length≤bK) (dU:Kd.C k72 w bM aX.length aX) (dY:aX.length≤bO) (dR:Kd.C k35 w bQ aQ.length aQ) (eB:aQ.length≤bP) (hr1:Kd.C (Kd.slice 3 (Kd.int .i64)) w A1 l1.length l1) (hc1:l1.length≤c1) (yL:Kd.C k43 w gQ dF.length dF) (yM:dF.length≤gT) (h:regletref16_Feed.f k aU aX bA bB aQ l1 dF fD a3=some (r1,r2,r3,r4)):
 Calls Try.prog 26 #[.agg #[.slice bC aU.length bK,.slice bM aX.length bO,.int .i64 bA,.int .i64 bB,.slice bQ aQ.length bP],.slice A1 l1.length c1,.agg #[.slice gQ dF.length gT,.bool fD],.int .i64 a3] w fun e w'=>∃v0_ v2_:Value,e= .returned (.tuple #[.agg #[v0_,.bool r2],v2_,.int .i64 r4])∧Kd.R k43 43 w' w.heap.size (fun _=>True) v0_ r1∧Kd.R (Kd.int .i64) 3 w' w.heap.size (fun _=>True) v2_ r3∧Below w.heap.size w w':=by
 have hu26:=Try.underlying26
 have hu31:=Try.underlying31
 have hu43:=Try.underlying43
 have eS:=aM dM
 have eU:=aM dT
 clear dM dT
 have eX:=aM dU
 have eY:=aM dY
 clear dU dY
 have dW:=aM dR
 have eZ:=aM eB
 clear dR eB
 have HR1:=aM hr1
 have HC1:=aM hc1
 clear hr1 hc1
 have Bi:=aM yL
 have Bw:=aM yM
 clear yL yM
 have HB:=aM (Below.refl w.heap.size w)
 have H:((regletref16_Right.f k aU aX bA bB aQ l1).bind fun t232=>(if t232=true then((regletref16_stack.f k aU aX bA bB aQ dF).bind fun t233=>(if t233=true then(if a3<0 then(regletref16_Feed.j0 k l1 a3 true aU aX bA bB aQ dF fD) else(regletref16_Feed.j0 k l1 a3 (decide (a3>(aX.length:Int))) aU aX bA bB aQ dF fD)) else(regletref16_Feed.j0 k l1 a3 true aU aX bA bB aQ dF fD))) else(regletref16_Feed.j0 k l1 a3 true aU aX bA bB aQ dF fD)))=some (r1,r2,r3,r4):=h
 clear h
 have HC5:=aM H
 clear H
 go_enter Try.func26,Try.ntmps26
 go_upto_region 1 with(first|((with_reducible refine bJ (N:=4) rfl ?_);(try(refine gate_guard (by rfl) ?_;dsimp only));refine box_event ?hg (N:=4) ?hd (cs:=#[.slice bC aU.length bK,.slice bM aX.length bO,.int .i64 bA,.int .i64 bB,.slice bQ aQ.length bP]) (t:=26) ?hr ?_;(case hd=>rfl);(case hg=>rfl);(case hr=>first|(go_simp;done)|(go_simp;rfl));intro cY hg w6 hbox hb;have bY:=aM (bG (gW HB.out) hb);have bZ:=aM (hbox);have cA:=aM ((by rw [hg];exact(bH (gW HB.out)):w.heap.size≤cY));have cC:=aM ((by rw [hg];exact(bH (gW HB.out)):w.heap.size≤cY));clear HB;have HB:=bY;have bS:=bZ;have GW229:=cA;have oX:=cC;clear bY bZ cA cC;clear hb hbox hg)|((with_reducible refine bJ (N:=6) rfl ?_);(try(refine gate_guard (by rfl) ?_;dsimp only));refine box_event ?hg (N:=6) ?hd (cs:=#[.slice gQ dF.length gT,.bool fD]) (t:=31) ?hr ?_;(case hd=>rfl);(case hg=>rfl);(case hr=>first|(go_simp;done)|(go_simp;rfl));intro fV hg w7 hbox hb;have bY:=aM (bF (gB bS.out) hb);have bZ:=aM (bG (gW HB.out) hb);have cA:=aM (hbox);have cC:=aM ((by rw [hg];exact(bH (gW HB.out)):w.heap.size≤fV));have cQ:=aM ((by rw [hg];exact(bH (gW HB.out)):w.heap.size≤fV));have dA:=aM ((by rw [hg];exact Nat.ne_of_lt (bN (g:=cY) (o:= .cells #[.slice bC aU.length bK,.slice bM aX.length bO,.int .i64 bA,.int .i64 bB,.slice bQ aQ.length bP] 26 (0,0)) (gB bS.out)):cY≠fV));have dH:=aM ((by rw [hg];exact Nat.ne_of_gt (bN (g:=cY) (o:= .cells #[.slice bC aU.length bK,.slice bM aX.length bO,.int .i64 bA,.int .i64 bB,.slice bQ aQ.length bP] 26 (0,0)) (gB bS.out)):fV≠cY));clear bS;clear HB;have bS:=bY;have HB:=bZ;have cP:=cA;have GW230:=cC;have oY:=cQ;have jL:=dA;have jM:=dH;clear bY bZ cA cC cQ dA dH;clear hb hbox hg)|((with_reducible refine bJ (N:=8) rfl ?_);(try(refine gate_guard (by rfl) ?_;dsimp only));refine box_event ?hg (N:=8) ?hd (cs:=#[.slice none 0 0,.bool false]) (t:=31) ?hr ?_;(case hd=>rfl);(case hg=>rfl);(case hr=>first|(go_simp;done)|(go_simp;rfl));intro dZ hg w8 hbox hb;have bY:=aM (bF (gB bS.out) hb);have bZ:=aM (bF (gB cP.out) hb);have cA:=aM (bG (gW HB.out) hb);have cC:=aM (hbox);have cQ:=aM ((by rw [hg];exact(bH (gW HB.out)):w.heap.size≤dZ));have dA:=aM ((by rw [hg];exact(bH (gW HB.out)):w.heap.size≤dZ));have dH:=aM ((by rw [hg];exact Nat.ne_of_lt (bN (g:=cY) (o:= .cells #[.slice bC aU.length bK,.slice bM aX.length bO,.int .i64 bA,.int .i64 bB,.slice bQ aQ.length bP] 26 (0,0)) (gB bS.out)):cY≠dZ));have eG:=aM ((by rw [hg];exact Nat.ne_of_gt (bN (g:=cY) (o:= .cells #[.slice bC aU.length bK,.slice bM aX.length bO,.int .i64 bA,.int .i64 bB,.slice bQ aQ.length bP] 26 (0,0)) (gB bS.out)):dZ≠cY));have fK:=aM ((by rw [hg];exact Nat.ne_of_lt (bN (g:=fV) (o:= .cells #[.slice gQ dF.length gT,.bool fD] 31 (0,0)) (gB cP.out)):fV≠dZ));have hF:=aM ((by rw [hg];exact Nat.ne_of_gt (bN (g:=fV) (o:= .cells #[.slice gQ dF.length gT,.bool fD] 31 (0,0)) (gB cP.out)):dZ≠fV));clear bS;clear cP;clear HB;have bS:=bY;have cP:=bZ;have HB:=cA;have cF:=cC;have GW231:=cQ;have oZ:=dA;have gM:=dH;have gO:=eG;have hZ:=fK;have iA:=hF;clear bY bZ cA cC cQ dA dH eG fK hF;clear hb hbox hg))
 (try simp only [Act.put,List.setIfInBounds_toArray,List.set_cons_zero,List.set_cons_succ])
 go_cut [37] (fun v37 wc=>∃(kq:Nat) (Ko:Bool),v37= .bool Ko∧Aside0 (regletref16_Feed.j0 kq l1 a3 Ko aU aX bA bB aQ dF fD=some (r1,r2,r3,r4))∧Aside0 (kq≤k)∧Aside0 (wc.heap[cY]?=some (.cells #[(.slice bC aU.length bK),(.slice bM aX.length bO),.int .i64 bA,.int .i64 bB,(.slice bQ aQ.length bP)] 26 (0,0)))∧Aside0 (wc.heap[fV]?=some (.cells #[(.slice gQ dF.length gT),.bool fD] 31 (0,0)))∧Aside0 (wc.heap[dZ]?=some (.cells #[(.slice none 0 0),.bool false] 31 (0,0)))∧Aside0 (Below w.heap.size w wc))
 case first=>
  have H:=HC5.out
  clear HC5
  replace H:=Option.bind_eq_some_iff.mp H
  obtain⟨t232,A90,H⟩:=H
  replace H:(if t232=true then((regletref16_stack.f k aU aX bA bB aQ dF).bind fun t233=>(if t233=true then(if a3<0 then(regletref16_Feed.j0 k l1 a3 true aU aX bA bB aQ dF fD) else(regletref16_Feed.j0 k l1 a3 (decide (a3>(aX.length:Int))) aU aX bA bB aQ dF fD)) else(regletref16_Feed.j0 k l1 a3 true aU aX bA bB aQ dF fD))) else(regletref16_Feed.j0 k l1 a3 true aU aX bA bB aQ dF fD))=some (r1,r2,r3,r4):=H
  have A9:=aM A90
  clear A90
  by_cases c10:t232=true
  ·subst c10
   have H1:((regletref16_stack.f k aU aX bA bB aQ dF).bind fun t233=>(if t233=true then(if a3<0 then(regletref16_Feed.j0 k l1 a3 true aU aX bA bB aQ dF fD) else(regletref16_Feed.j0 k l1 a3 (decide (a3>(aX.length:Int))) aU aX bA bB aQ dF fD)) else(regletref16_Feed.j0 k l1 a3 true aU aX bA bB aQ dF fD)))=some (r1,r2,r3,r4):=by rw [if_pos rfl] at H;exact H
   clear H
   have H:=H1
   clear H1
   replace H:=Option.bind_eq_some_iff.mp H
   obtain⟨t233,A110,H⟩:=H
   replace H:(if t233=true then(if a3<0 then(regletref16_Feed.j0 k l1 a3 true aU aX bA bB aQ dF fD) else(regletref16_Feed.j0 k l1 a3 (decide (a3>(aX.length:Int))) aU aX bA bB aQ dF fD)) else(regletref16_Feed.j0 k l1 a3 true aU aX bA bB aQ dF fD))=some (r1,r2,r3,r4):=H
   have A11:=aM A110
   clear A110
   by_cases c12:t233=true
   ·subst c12
    have H1:(if a3<0 then(regletref16_Feed.j0 k l1 a3 true aU aX bA bB aQ dF fD) else(regletref16_Feed.j0 k l1 a3 (decide (a3>(aX.length:Int))) aU aX bA bB aQ dF fD))=some (r1,r2,r3,r4):=by rw [if_pos rfl] at H;exact H
    clear H
    have H:=H1
    clear H1
    by_cases c13:a3<0
    ·rw [if_pos c13] at H
     have nS:decide (a3<0)=true:=decide_eq_true c13
     clear c13
     (first|rw [nS]|(simp only [i64_w,i32_w];rw [nS])|skip)
     have H':=aM H
     clear H
     have hnb14:=jL.out
     have hnc14:=jM.out
     have hnb15:=gM.out
     have hnc15:=gO.out
     have wV:w8.cell? ⟨cY,0,none⟩=some (.slice bC aU.length bK):=(aG bS.out 0).trans rfl
     have wW:w8.cell? ⟨cY,1,none⟩=some (.slice bM aX.length bO):=(aG bS.out 1).trans rfl
     have wX:w8.cell? ⟨cY,2,none⟩=some (.int .i64 bA):=(aG bS.out 2).trans rfl
     have wY:w8.cell? ⟨cY,3,none⟩=some (.int .i64 bB):=(aG bS.out 3).trans rfl
     have wZ:w8.cell? ⟨cY,4,none⟩=some (.slice bQ aQ.length bP):=(aG bS.out 4).trans rfl
     have xA:=aH bS.out 0
     have xB:=aH bS.out 1
     have xC:=aH bS.out 2
     have xD:=aH bS.out 3
     have xE:=aH bS.out 4
     go_wp2_with (first|((with_reducible refine bI (f:=27) rfl ?_);refine goesL_ (some 18) rfl rfl Try.func27 (by kernel_rfl) rfl #[.agg #[.slice bC aU.length bK,.slice bM aX.length bO,.int .i64 bA,.int .i64 bB,.slice bQ aQ.length bP],.slice A1 l1.length c1] rfl (by(try simp only [List.map_toArray,List.map_cons,List.map_nil]);first|done|rfl|(simp only [List.length_drop,List.length_take];rfl)) ?_;(with_reducible refine(regletref16_Right.calls k _ _ aU _ _ aX bA bB _ _ aQ _ _ l1 true _ ?side1 ?side2 ?side3 ?side4 ?side5 ?side6 ?side7 ?side8 A9.out).mono ?_);(case side1=>exact gC (bD eS.out HB.out));(case side2=>exact eU.out);(case side3=>exact gC (bD eX.out HB.out));(case side4=>exact eY.out);(case side5=>exact gC (bD dW.out HB.out));(case side6=>exact eZ.out);(case side7=>exact gC (bD HR1.out HB.out));(case side8=>exact HC1.out);rintro e w17 ⟨rfl,hb⟩;refine⟨_,rfl,?_⟩;have bY:=aM (bF (gB bS.out) hb);have bZ:=aM (bF (gB cP.out) hb);have cA:=aM (bF (gB cF.out) hb);have cC:=aM (bG (gW HB.out) hb);clear bS;clear cP;clear cF;clear HB;have bS:=bY;have cP:=bZ;have cF:=cA;have HB:=cC;clear bY bZ cA cC;(try clear hb);(try clear hb2);(try clear hk);(try clear hi);have kE:w17.cell? ⟨cY,0,none⟩=some (.slice bC aU.length bK):=(aG bS.out 0).trans rfl;have kF:w17.cell? ⟨cY,1,none⟩=some (.slice bM aX.length bO):=(aG bS.out 1).trans rfl;have mM:w17.cell? ⟨cY,2,none⟩=some (.int .i64 bA):=(aG bS.out 2).trans rfl;have mN:w17.cell? ⟨cY,3,none⟩=some (.int .i64 bB):=(aG bS.out 3).trans rfl;have mO:w17.cell? ⟨cY,4,none⟩=some (.slice bQ aQ.length bP):=(aG bS.out 4).trans rfl;have kG:=aH bS.out 0;have kH:=aH bS.out 1;have mP:=aH bS.out 2;have mQ:=aH bS.out 3;have mR:=aH bS.out 4;have hnb19:=hZ.out;have hnc19:=iA.out;have rU:w17.cell? ⟨fV,0,none⟩=some (.slice gQ dF.length gT):=(aG cP.out 0).trans rfl;have rV:w17.cell? ⟨fV,1,none⟩=some (.bool fD):=(aG cP.out 1).trans rfl;have rW:=aH cP.out 0;have rX:=aH cP.out 1)|(go_at_call 42;(with_reducible refine(regletref16_stack.calls k _ _ aU _ _ aX bA bB _ _ aQ _ _ dF true _ ?side1 ?side2 ?side3 ?side4 ?side5 ?side6 ?side7 ?side8 A11.out).mono ?_);(case side1=>exact gC (bD eS.out HB.out));(case side2=>exact eU.out);(case side3=>exact gC (bD eX.out HB.out));(case side4=>exact eY.out);(case side5=>exact gC (bD dW.out HB.out));(case side6=>exact eZ.out);(case side7=>exact gC (bD Bi.out HB.out));(case side8=>exact Bw.out);rintro e w21 ⟨rfl,hb⟩;have bY:=aM (bF (gB bS.out) hb);have bZ:=aM (bF (gB cP.out) hb);have cA:=aM (bF (gB cF.out) hb);have cC:=aM (bG (gW HB.out) hb);clear bS;clear cP;clear cF;clear HB;have bS:=bY;have cP:=bZ;have cF:=cA;have HB:=cC;clear bY bZ cA cC;(try clear hb);(try clear hb2);(try clear hk);(try clear hi)))
     go_meet
     case rel=>exact⟨_,(true),(by first|rfl|(simp;done)|(simp [*];done)),H',⟨by first|omega|exact Nat.le_refl _⟩,⟨gB bS.out⟩,⟨gB cP.out⟩,⟨gB cF.out⟩,⟨gW HB.out⟩⟩
    ·rw [if_neg c13] at H
     have nS:decide (a3<0)=false:=decide_eq_false c13
     clear c13
     (first|rw [nS]|(simp only [i64_w,i32_w];rw [nS])|skip)
     have H':=aM H
     clear H
     have hnb22:=jL.out
     have hnc22:=jM.out
     have hnb23:=gM.out
     have hnc23:=gO.out
     have tR:w8.cell? ⟨cY,0,none⟩=some (.slice bC aU.length bK):=(aG bS.out 0).trans rfl
     have tS:w8.cell? ⟨cY,1,none⟩=some (.slice bM aX.length bO):=(aG bS.out 1).trans rfl
     have yU:w8.cell? ⟨cY,2,none⟩=some (.int .i64 bA):=(aG bS.out 2).trans rfl
     have yV:w8.cell? ⟨cY,3,none⟩=some (.int .i64 bB):=(aG bS.out 3).trans rfl
     have yW:w8.cell? ⟨cY,4,none⟩=some (.slice bQ aQ.length bP):=(aG bS.out 4).trans rfl
     have tT:=aH bS.out 0
     have tU:=aH bS.out 1
     have yX:=aH bS.out 2
     have yY:=aH bS.out 3
     have yZ:=aH bS.out 4
     go_wp2_with (first|((with_reducible refine bI (f:=27) rfl ?_);refine goesL_ (some 18) rfl rfl Try.func27 (by kernel_rfl) rfl #[.agg #[.slice bC aU.length bK,.slice bM aX.length bO,.int .i64 bA,.int .i64 bB,.slice bQ aQ.length bP],.slice A1 l1.length c1] rfl (by(try simp only [List.map_toArray,List.map_cons,List.map_nil]);first|done|rfl|(simp only [List.length_drop,List.length_take];rfl)) ?_;(with_reducible refine(regletref16_Right.calls k _ _ aU _ _ aX bA bB _ _ aQ _ _ l1 true _ ?side1 ?side2 ?side3 ?side4 ?side5 ?side6 ?side7 ?side8 A9.out).mono ?_);(case side1=>exact gC (bD eS.out HB.out));(case side2=>exact eU.out);(case side3=>exact gC (bD eX.out HB.out));(case side4=>exact eY.out);(case side5=>exact gC (bD dW.out HB.out));(case side6=>exact eZ.out);(case side7=>exact gC (bD HR1.out HB.out));(case side8=>exact HC1.out);rintro e w25 ⟨rfl,hb⟩;refine⟨_,rfl,?_⟩;have bY:=aM (bF (gB bS.out) hb);have bZ:=aM (bF (gB cP.out) hb);have cA:=aM (bF (gB cF.out) hb);have cC:=aM (bG (gW HB.out) hb);clear bS;clear cP;clear cF;clear HB;have bS:=bY;have cP:=bZ;have cF:=cA;have HB:=cC;clear bY bZ cA cC;(try clear hb);(try clear hb2);(try clear hk);(try clear hi);have xF:w25.cell? ⟨cY,0,none⟩=some (.slice bC aU.length bK):=(aG bS.out 0).trans rfl;have xG:w25.cell? ⟨cY,1,none⟩=some (.slice bM aX.length bO):=(aG bS.out 1).trans rfl;have Dk:w25.cell? ⟨cY,2,none⟩=some (.int .i64 bA):=(aG bS.out 2).trans rfl;have Dl:w25.cell? ⟨cY,3,none⟩=some (.int .i64 bB):=(aG bS.out 3).trans rfl;have Dm:w25.cell? ⟨cY,4,none⟩=some (.slice bQ aQ.length bP):=(aG bS.out 4).trans rfl;have xH:=aH bS.out 0;have xI:=aH bS.out 1;have Dn:=aH bS.out 2;have Do:=aH bS.out 3;have Dp:=aH bS.out 4;have hnb27:=hZ.out;have hnc27:=iA.out;have pZ:w25.cell? ⟨fV,0,none⟩=some (.slice gQ dF.length gT):=(aG cP.out 0).trans rfl;have qA:w25.cell? ⟨fV,1,none⟩=some (.bool fD):=(aG cP.out 1).trans rfl;have qB:=aH cP.out 0;have qC:=aH cP.out 1)|(go_at_call 42;(with_reducible refine(regletref16_stack.calls k _ _ aU _ _ aX bA bB _ _ aQ _ _ dF true _ ?side1 ?side2 ?side3 ?side4 ?side5 ?side6 ?side7 ?side8 A11.out).mono ?_);(case side1=>exact gC (bD eS.out HB.out));(case side2=>exact eU.out);(case side3=>exact gC (bD eX.out HB.out));(case side4=>exact eY.out);(case side5=>exact gC (bD dW.out HB.out));(case side6=>exact eZ.out);(case side7=>exact gC (bD Bi.out HB.out));(case side8=>exact Bw.out);rintro e w29 ⟨rfl,hb⟩;have bY:=aM (bF (gB bS.out) hb);have bZ:=aM (bF (gB cP.out) hb);have cA:=aM (bF (gB cF.out) hb);have cC:=aM (bG (gW HB.out) hb);clear bS;clear cP;clear cF;clear HB;have bS:=bY;have cP:=bZ;have cF:=cA;have HB:=cC;clear bY bZ cA cC;(try clear hb);(try clear hb2);(try clear hk);(try clear hi);have zA:w29.cell? ⟨cY,0,none⟩=some (.slice bC aU.length bK):=(aG bS.out 0).trans rfl;have zB:w29.cell? ⟨cY,1,none⟩=some (.slice bM aX.length bO):=(aG bS.out 1).trans rfl;have Dq:w29.cell? ⟨cY,2,none⟩=some (.int .i64 bA):=(aG bS.out 2).trans rfl;have Dr:w29.cell? ⟨cY,3,none⟩=some (.int .i64 bB):=(aG bS.out 3).trans rfl;have Ds:w29.cell? ⟨cY,4,none⟩=some (.slice bQ aQ.length bP):=(aG bS.out 4).trans rfl;have zC:=aH bS.out 0;have zD:=aH bS.out 1;have Dt:=aH bS.out 2;have Du:=aH bS.out 3;have Dv:=aH bS.out 4))
     go_meet
     case rel=>exact⟨_,(decide (a3>(aX.length:Int))),(by first|rfl|(simp;done)|(simp [*];done)),H',⟨by first|omega|exact Nat.le_refl _⟩,⟨gB bS.out⟩,⟨gB cP.out⟩,⟨gB cF.out⟩,⟨gW HB.out⟩⟩
   ·replace c12:=Bool.eq_false_iff.mpr c12
    subst c12
    have H1:(regletref16_Feed.j0 k l1 a3 true aU aX bA bB aQ dF fD)=some (r1,r2,r3,r4):=by rw [if_neg (show ¬(false=true) by decide)] at H;exact H
    clear H
    have H:=H1
    clear H1
    have H':=aM H
    clear H
    have hnb31:=jL.out
    have hnc31:=jM.out
    have hnb32:=gM.out
    have hnc32:=gO.out
    have nV:w8.cell? ⟨cY,0,none⟩=some (.slice bC aU.length bK):=(aG bS.out 0).trans rfl
    have nW:w8.cell? ⟨cY,1,none⟩=some (.slice bM aX.length bO):=(aG bS.out 1).trans rfl
    have sQ:w8.cell? ⟨cY,2,none⟩=some (.int .i64 bA):=(aG bS.out 2).trans rfl
    have sR:w8.cell? ⟨cY,3,none⟩=some (.int .i64 bB):=(aG bS.out 3).trans rfl
    have sS:w8.cell? ⟨cY,4,none⟩=some (.slice bQ aQ.length bP):=(aG bS.out 4).trans rfl
    have nX:=aH bS.out 0
    have nY:=aH bS.out 1
    have sT:=aH bS.out 2
    have sU:=aH bS.out 3
    have sV:=aH bS.out 4
    go_wp2_with (first|((with_reducible refine bI (f:=27) rfl ?_);refine goesL_ (some 18) rfl rfl Try.func27 (by kernel_rfl) rfl #[.agg #[.slice bC aU.length bK,.slice bM aX.length bO,.int .i64 bA,.int .i64 bB,.slice bQ aQ.length bP],.slice A1 l1.length c1] rfl (by(try simp only [List.map_toArray,List.map_cons,List.map_nil]);first|done|rfl|(simp only [List.length_drop,List.length_take];rfl)) ?_;(with_reducible refine(regletref16_Right.calls k _ _ aU _ _ aX bA bB _ _ aQ _ _ l1 true _ ?side1 ?side2 ?side3 ?side4 ?side5 ?side6 ?side7 ?side8 A9.out).mono ?_);(case side1=>exact gC (bD eS.out HB.out));(case side2=>exact eU.out);(case side3=>exact gC (bD eX.out HB.out));(case side4=>exact eY.out);(case side5=>exact gC (bD dW.out HB.out));(case side6=>exact eZ.out);(case side7=>exact gC (bD HR1.out HB.out));(case side8=>exact HC1.out);rintro e w34 ⟨rfl,hb⟩;refine⟨_,rfl,?_⟩;have bY:=aM (bF (gB bS.out) hb);have bZ:=aM (bF (gB cP.out) hb);have cA:=aM (bF (gB cF.out) hb);have cC:=aM (bG (gW HB.out) hb);clear bS;clear cP;clear cF;clear HB;have bS:=bY;have cP:=bZ;have cF:=cA;have HB:=cC;clear bY bZ cA cC;(try clear hb);(try clear hb2);(try clear hk);(try clear hi);have sM:w34.cell? ⟨cY,0,none⟩=some (.slice bC aU.length bK):=(aG bS.out 0).trans rfl;have sN:w34.cell? ⟨cY,1,none⟩=some (.slice bM aX.length bO):=(aG bS.out 1).trans rfl;have tV:w34.cell? ⟨cY,2,none⟩=some (.int .i64 bA):=(aG bS.out 2).trans rfl;have tW:w34.cell? ⟨cY,3,none⟩=some (.int .i64 bB):=(aG bS.out 3).trans rfl;have tX:w34.cell? ⟨cY,4,none⟩=some (.slice bQ aQ.length bP):=(aG bS.out 4).trans rfl;have sO:=aH bS.out 0;have sP:=aH bS.out 1;have tY:=aH bS.out 2;have tZ:=aH bS.out 3;have uA:=aH bS.out 4;have hnb36:=hZ.out;have hnc36:=iA.out;have Dw:w34.cell? ⟨fV,0,none⟩=some (.slice gQ dF.length gT):=(aG cP.out 0).trans rfl;have Dx:w34.cell? ⟨fV,1,none⟩=some (.bool fD):=(aG cP.out 1).trans rfl;have Dy:=aH cP.out 0;have Dz:=aH cP.out 1)|(go_at_call 42;(with_reducible refine(regletref16_stack.calls k _ _ aU _ _ aX bA bB _ _ aQ _ _ dF false _ ?side1 ?side2 ?side3 ?side4 ?side5 ?side6 ?side7 ?side8 A11.out).mono ?_);(case side1=>exact gC (bD eS.out HB.out));(case side2=>exact eU.out);(case side3=>exact gC (bD eX.out HB.out));(case side4=>exact eY.out);(case side5=>exact gC (bD dW.out HB.out));(case side6=>exact eZ.out);(case side7=>exact gC (bD Bi.out HB.out));(case side8=>exact Bw.out);rintro e w38 ⟨rfl,hb⟩;have bY:=aM (bF (gB bS.out) hb);have bZ:=aM (bF (gB cP.out) hb);have cA:=aM (bF (gB cF.out) hb);have cC:=aM (bG (gW HB.out) hb);clear bS;clear cP;clear cF;clear HB;have bS:=bY;have cP:=bZ;have cF:=cA;have HB:=cC;clear bY bZ cA cC;(try clear hb);(try clear hb2);(try clear hk);(try clear hi)))
    go_meet
    case rel=>exact⟨_,(true),(by first|rfl|(simp;done)|(simp [*];done)),H',⟨by first|omega|exact Nat.le_refl _⟩,⟨gB bS.out⟩,⟨gB cP.out⟩,⟨gB cF.out⟩,⟨gW HB.out⟩⟩
  ·replace c10:=Bool.eq_false_iff.mpr c10
   subst c10
   have H1:(regletref16_Feed.j0 k l1 a3 true aU aX bA bB aQ dF fD)=some (r1,r2,r3,r4):=by rw [if_neg (show ¬(false=true) by decide)] at H;exact H
   clear H
   have H:=H1
   clear H1
   have H':=aM H
   clear H
   have hnb39:=jL.out
   have hnc39:=jM.out
   have hnb40:=gM.out
   have hnc40:=gO.out
   have zI:w8.cell? ⟨cY,0,none⟩=some (.slice bC aU.length bK):=(aG bS.out 0).trans rfl
   have zJ:w8.cell? ⟨cY,1,none⟩=some (.slice bM aX.length bO):=(aG bS.out 1).trans rfl
   have Ea:w8.cell? ⟨cY,2,none⟩=some (.int .i64 bA):=(aG bS.out 2).trans rfl
   have Eb:w8.cell? ⟨cY,3,none⟩=some (.int .i64 bB):=(aG bS.out 3).trans rfl
   have Ec:w8.cell? ⟨cY,4,none⟩=some (.slice bQ aQ.length bP):=(aG bS.out 4).trans rfl
   have zK:=aH bS.out 0
   have zL:=aH bS.out 1
   have Ed:=aH bS.out 2
   have Ee:=aH bS.out 3
   have Ef:=aH bS.out 4
   go_wp2_with (first|((with_reducible refine bI (f:=27) rfl ?_);refine goesL_ (some 18) rfl rfl Try.func27 (by kernel_rfl) rfl #[.agg #[.slice bC aU.length bK,.slice bM aX.length bO,.int .i64 bA,.int .i64 bB,.slice bQ aQ.length bP],.slice A1 l1.length c1] rfl (by(try simp only [List.map_toArray,List.map_cons,List.map_nil]);first|done|rfl|(simp only [List.length_drop,List.length_take];rfl)) ?_;(with_reducible refine(regletref16_Right.calls k _ _ aU _ _ aX bA bB _ _ aQ _ _ l1 false _ ?side1 ?side2 ?side3 ?side4 ?side5 ?side6 ?side7 ?side8 A9.out).mono ?_);(case side1=>exact gC (bD eS.out HB.out));(case side2=>exact eU.out);(case side3=>exact gC (bD eX.out HB.out));(case side4=>exact eY.out);(case side5=>exact gC (bD dW.out HB.out));(case side6=>exact eZ.out);(case side7=>exact gC (bD HR1.out HB.out));(case side8=>exact HC1.out);rintro e w42 ⟨rfl,hb⟩;refine⟨_,rfl,?_⟩;have bY:=aM (bF (gB bS.out) hb);have bZ:=aM (bF (gB cP.out) hb);have cA:=aM (bF (gB cF.out) hb);have cC:=aM (bG (gW HB.out) hb);clear bS;clear cP;clear cF;clear HB;have bS:=bY;have cP:=bZ;have cF:=cA;have HB:=cC;clear bY bZ cA cC;(try clear hb);(try clear hb2);(try clear hk);(try clear hi)))
   go_meet
   case rel=>exact⟨_,(true),(by first|rfl|(simp;done)|(simp [*];done)),H',⟨by first|omega|exact Nat.le_refl _⟩,⟨gB bS.out⟩,⟨gB cP.out⟩,⟨gB cF.out⟩,⟨gW HB.out⟩⟩
 case rest=>
  clear HC5
  (try clear c1);(try clear c2);(try clear p2);(try clear c3);(try clear c4);(try clear c10);(try clear c12);(try clear c13);(try clear nS);(try clear c14);(try clear c15);(try clear c19);(try clear c22);(try clear c23);(try clear c26);(try clear c27);(try clear c31);(try clear c32);(try clear c36);(try clear c39);(try clear c40);(try clear wV);(try clear wW);(try clear wX);(try clear wY)
  (try clear wZ);(try clear kE);(try clear kF);(try clear mM);(try clear mN);(try clear mO);(try clear rU);(try clear rV);(try clear tR);(try clear tS);(try clear yU);(try clear yV);(try clear yW);(try clear xF);(try clear xG);(try clear Dk);(try clear Dl);(try clear Dm);(try clear pZ);(try clear qA);(try clear zA)
  (try clear zB);(try clear Dq);(try clear Dr);(try clear Ds);(try clear nV);(try clear nW);(try clear sQ);(try clear sR);(try clear sS);(try clear sM);(try clear sN);(try clear tV);(try clear tW);(try clear tX);(try clear Dw);(try clear Dx);(try clear zI);(try clear zJ);(try clear Ea);(try clear Eb);(try clear Ec)
  (try clear xA);(try clear xB);(try clear xC);(try clear xD);(try clear xE);(try clear kG);(try clear kH);(try clear mP);(try clear mQ);(try clear mR);(try clear rW);(try clear rX);(try clear tT);(try clear tU);(try clear yX);(try clear yY);(try clear yZ);(try clear xH);(try clear xI);(try clear Dn);(try clear Do)
  (try clear Dp);(try clear qB);(try clear qC);(try clear zC);(try clear zD);(try clear Dt);(try clear Du);(try clear Dv);(try clear nX);(try clear nY);(try clear sT);(try clear sU);(try clear sV);(try clear sO);(try clear sP);(try clear tY);(try clear tZ);(try clear uA);(try clear Dy);(try clear Dz);(try clear zK)
  (try clear zL);(try clear Ed);(try clear Ee);(try clear Ef)
  obtain⟨kq,Ko,rfl,HA,HJ4,bS,cP,cF,HB⟩:=hcut
  cases kq with
  |zero=>exact absurd HA.out (by simp [regletref16_Feed.j0])
  |succ Pa=>
   have H:=HA.out
   clear HA
   simp only [regletref16_Feed.j0] at H
   by_cases c43:Ko=true
   ·subst c43
    have H1:(some (([]:List (S43)),true,([]:List Int),1))=some (r1,r2,r3,r4):=by rw [if_pos rfl] at H;exact H
    clear H
    have H:=H1
    clear H1
    simp only [Option.some.injEq,Prod.mk.injEq] at H
    obtain⟨rfl,rfl,rfl,rfl⟩:=H
    have hnb44:=gO.out
    have hnc44:=gM.out
    have hnb45:=iA.out
    have hnc45:=hZ.out
    have wG:wc.cell? ⟨dZ,0,none⟩=some (.slice none 0 0):=(aG cF.out 0).trans rfl
    have wH:wc.cell? ⟨dZ,1,none⟩=some (.bool false):=(aG cF.out 1).trans rfl
    have wI:=aH cF.out 0
    have wJ:=aH cF.out 1
    go_wp2
    refine bodyPost_ret (results_ctt rfl _ _ dZ 31 #[.slice none 0 0,.bool true] (0,0) _ rfl (by(with_reducible repeat(first|refine aJ ?_ _|refine aK ?_|refine aI ?_ _));refine blk_put (cs:=#[.slice none 0 0,.bool false]) ?_ 1 _ rfl;(with_reducible repeat(first|refine aJ ?_ _|refine aK ?_|refine aI ?_ _));refine blk_put (cs:=#[.slice none 0 0,.bool false]) ?_ 0 _ rfl;(with_reducible repeat(first|refine aJ ?_ _|refine aK ?_|refine aI ?_ _));exact cF.out) Try.underlying31 rfl (by kernel_rfl)) rfl ?_
    exact⟨_,_,by first|rfl|(simp [errW_none,errW_some]<;>rfl)|(simp [*,errW_none,errW_some]<;>rfl),by first|exact Kd.R_nil _ _ _ _ _|exact Kd.N_nil _ _ _ _ _|exact Kd.V_nil _ _ _ _ _|exact Kd.Q_nil _ _ _ _ _|exact Kd.S_nil _ _ _ _ _,by first|exact Kd.R_nil _ _ _ _ _|exact Kd.N_nil _ _ _ _ _|exact Kd.V_nil _ _ _ _ _|exact Kd.Q_nil _ _ _ _ _|exact Kd.S_nil _ _ _ _ _,by repeat(first|(with_reducible first|exact HB.out|apply aN|apply aP|apply aO|refine aL ?_ oX.out|refine aL ?_ oY.out|refine aL ?_ oZ.out)|exact HB.out)⟩
   ·replace c43:=Bool.eq_false_iff.mpr c43
    subst c43
    have H1:(if fD=true then(some (([]:List (S43)),true,([]:List Int),80)) else(if([]:List (S43)).length+dF.length<8796093022208 then(regletref16_Feed.l0 Pa l1 a3 (([]:List (S43))++dF) ([]:List Int) aU aX bA bB aQ) else(none)))=some (r1,r2,r3,r4):=by rw [if_neg (show ¬(false=true) by decide)] at H;exact H
    clear H
    have H:=H1
    clear H1
    by_cases c47:fD=true
    ·subst c47
     have H1:(some (([]:List (S43)),true,([]:List Int),80))=some (r1,r2,r3,r4):=by rw [if_pos rfl] at H;exact H
     clear H
     have H:=H1
     clear H1
     simp only [Option.some.injEq,Prod.mk.injEq] at H
     obtain⟨rfl,rfl,rfl,rfl⟩:=H
     have hnb48:=jM.out
     have hnc48:=jL.out
     have hnb49:=hZ.out
     have hnc49:=iA.out
     have zP:wc.cell? ⟨fV,0,none⟩=some (.slice gQ dF.length gT):=(aG cP.out 0).trans rfl
     have zQ:wc.cell? ⟨fV,1,none⟩=some (.bool true):=(aG cP.out 1).trans rfl
     have zR:=aH cP.out 0
     have zS:=aH cP.out 1
     have hnb51:=gO.out
     have hnc51:=gM.out
     have uR:wc.cell? ⟨dZ,0,none⟩=some (.slice none 0 0):=(aG cF.out 0).trans rfl
     have uS:wc.cell? ⟨dZ,1,none⟩=some (.bool false):=(aG cF.out 1).trans rfl
     have uT:=aH cF.out 0
     have uU:=aH cF.out 1
     go_wp2
     refine bodyPost_ret (results_ctt rfl _ _ dZ 31 #[.slice none 0 0,.bool true] (0,0) _ rfl (by(with_reducible repeat(first|refine aJ ?_ _|refine aK ?_|refine aI ?_ _));refine blk_put (cs:=#[.slice none 0 0,.bool false]) ?_ 1 _ rfl;(with_reducible repeat(first|refine aJ ?_ _|refine aK ?_|refine aI ?_ _));refine blk_put (cs:=#[.slice none 0 0,.bool false]) ?_ 0 _ rfl;(with_reducible repeat(first|refine aJ ?_ _|refine aK ?_|refine aI ?_ _));exact cF.out) Try.underlying31 rfl (by kernel_rfl)) rfl ?_
     exact⟨_,_,by first|rfl|(simp [errW_none,errW_some]<;>rfl)|(simp [*,errW_none,errW_some]<;>rfl),by first|exact Kd.R_nil _ _ _ _ _|exact Kd.N_nil _ _ _ _ _|exact Kd.V_nil _ _ _ _ _|exact Kd.Q_nil _ _ _ _ _|exact Kd.S_nil _ _ _ _ _,by first|exact Kd.R_nil _ _ _ _ _|exact Kd.N_nil _ _ _ _ _|exact Kd.V_nil _ _ _ _ _|exact Kd.Q_nil _ _ _ _ _|exact Kd.S_nil _ _ _ _ _,by repeat(first|(with_reducible first|exact HB.out|apply aN|apply aP|apply aO|refine aL ?_ oX.out|refine aL ?_ oY.out|refine aL ?_ oZ.out)|exact HB.out)⟩
    ·replace c47:=Bool.eq_false_iff.mpr c47
     subst c47
     have H1:(if([]:List (S43)).length+dF.length<8796093022208 then(regletref16_Feed.l0 Pa l1 a3 (([]:List (S43))++dF) ([]:List Int) aU aX bA bB aQ) else(none))=some (r1,r2,r3,r4):=by rw [if_neg (show ¬(false=true) by decide)] at H;exact H
     clear H
     have H:=H1
     clear H1
     by_cases c53:([]:List (S43)).length+dF.length<8796093022208
     rotate_left
     ·rw [if_neg c53] at H
      exact absurd H (by simp)
     rw [if_pos c53] at H
     have BX:=aM c53
     clear c53
     obtain⟨y234,Gd⟩:∃y_:List (S43),y_=(([]:List (S43))++dF):=⟨_,rfl⟩
     replace H:(regletref16_Feed.l0 Pa l1 a3 y234 ([]:List Int) aU aX bA bB aQ)=some (r1,r2,r3,r4):=by first|(rw [Gd];with_reducible exact H)|(have H2_:=(Option.bind_some _ _).symm.trans H;rw [Gd];with_reducible exact H2_)|(have H2_:=(Option.bind_some _ _).symm.trans H;with_reducible exact H2_)|with_reducible exact H|(rw [Gd];exact H)|exact H
     have BZ:=aM Gd
     clear Gd
     have H':=aM H
     clear H
     have hnb54:=jM.out
     have hnc54:=jL.out
     have hnb55:=hZ.out
     have hnc55:=iA.out
     have Kp:wc.cell? ⟨fV,0,none⟩=some (.slice gQ dF.length gT):=(aG cP.out 0).trans rfl
     have Kq:wc.cell? ⟨fV,1,none⟩=some (.bool false):=(aG cP.out 1).trans rfl
     have Kr:=aH cP.out 0
     have Ks:=aH cP.out 1
     go_wp2_with (first|((with_reducible refine gate_builtin (b:= .append) (xs:=#[.tmp 42,.tmp 44]) rfl ?_);(try(refine gate_guard (by rfl) ?_;dsimp only));at_builtin;refine Kd.R_append_rows k43 (w0:=w) w.heap.size rfl (.tmp 42) (.tmp 44) 29 43 (.agg #[(.bool false),(.int .i64 0)]) 16 rfl Try.underlying29 info43 rfl (by decide) (by omega) (.slice none 0 0) ([]:List (S43)) dF _ _ _ (fun _=>True) (fun _=>False) rfl rfl ?aO ?aR (fun _ _ h=>h) (fun _ h=>h.elim) ?aF ?aB ?aS ?aL ?_;(case aR=>exact gC (bD Bi.out HB.out));(case aB=>exact(gW HB.out));(case aF=>exact(fun _ _=>trivial));(case aO=>exact((Kd.R_nil _ _ _ _ (fun _=>True))));(case aS=>exact(bH (gW HB.out)));(case aL=>have:=BX.out;omega);intro v235 w57 ho hb hg hat;rw [←BZ.out] at ho;have bY:=aM (blk_grown (gB bS.out) hg (by simp [Value.ownBlock]));have bZ:=aM (blk_grown (gB cP.out) hg (by simp [Value.ownBlock]));have cA:=aM (blk_grown (gB cF.out) hg (by simp [Value.ownBlock]));have cC:=aM (hb);have cQ:=aM (ho);clear bS;clear cP;clear cF;clear HB;have bS:=bY;have cP:=bZ;have cF:=cA;have HB:=cC;have CA:=cQ;clear bY bZ cA cC cQ;clear ho hb hg hat))
     go_loopg [11,12] Pa (fun kq v11 v12 w'=>∃(bX:List (S43)) (iK:List Int) (dC:Bool),Aside0 (regletref16_Feed.l0 kq l1 a3 bX iK aU aX bA bB aQ=some (r1,r2,r3,r4))∧Aside0 (kq≤Pa)∧Aside0 (Kd.R k43 43 w' w.heap.size (fun _=>True) v11 bX)∧Aside0 (Kd.R (Kd.int .i64) 3 w' w.heap.size (fun _=>True) v12 iK)∧Aside0 (w'.heap[cY]?=some (.cells #[(.slice bC aU.length bK),(.slice bM aX.length bO),.int .i64 bA,.int .i64 bB,(.slice bQ aQ.length bP)] 26 (0,0)))∧Aside0 (w'.heap[fV]?=some (.cells #[(.slice gQ dF.length gT),.bool false] 31 (0,0)))∧Aside0 (w'.heap[dZ]?=some (.cells #[(.slice none 0 0),.bool dC] 31 (0,0)))∧Aside0 (Below w.heap.size w w'))
     case atStart=>exact⟨(y234),(([]:List Int)),(false),H',⟨Nat.le_refl _⟩,⟨gR CA.out⟩,⟨by first|exact Kd.R_nil _ _ _ _ _|exact Kd.N_nil _ _ _ _ _|exact Kd.V_nil _ _ _ _ _|exact Kd.Q_nil _ _ _ _ _|exact Kd.S_nil _ _ _ _ _⟩,⟨gB bS.out⟩,⟨gB cP.out⟩,⟨gB cF.out⟩,⟨gW HB.out⟩⟩
     case round=>
      clear H'
      (try clear c1);(try clear c2);(try clear p2);(try clear c3);(try clear c4);(try clear c5);(try clear c10);(try clear c12);(try clear c13);(try clear nS);(try clear c14);(try clear c15);(try clear c19);(try clear c22);(try clear c23);(try clear c26);(try clear c27);(try clear c31);(try clear c32);(try clear c36);(try clear c39);(try clear c40);(try clear c43);(try clear c44);(try clear c45);(try clear c47)
      (try clear c48);(try clear c49);(try clear c51);(try clear c53);(try clear c54);(try clear c55);(try clear wV);(try clear wW);(try clear wX);(try clear wY);(try clear wZ);(try clear kE);(try clear kF);(try clear mM);(try clear mN);(try clear mO);(try clear rU);(try clear rV);(try clear tR);(try clear tS);(try clear yU);(try clear yV)
      (try clear yW);(try clear xF);(try clear xG);(try clear Dk);(try clear Dl);(try clear Dm);(try clear pZ);(try clear qA);(try clear zA);(try clear zB);(try clear Dq);(try clear Dr);(try clear Ds);(try clear nV);(try clear nW);(try clear sQ);(try clear sR);(try clear sS);(try clear sM);(try clear sN);(try clear tV)
      (try clear tW);(try clear tX);(try clear Dw);(try clear Dx);(try clear zI);(try clear zJ);(try clear Ea);(try clear Eb);(try clear Ec);(try clear wG);(try clear wH);(try clear zP);(try clear zQ);(try clear uR);(try clear uS);(try clear Kp);(try clear Kq);(try clear xA);(try clear xB);(try clear xC);(try clear xD)
      (try clear xE);(try clear kG);(try clear kH);(try clear mP);(try clear mQ);(try clear mR);(try clear rW);(try clear rX);(try clear tT);(try clear tU);(try clear yX);(try clear yY);(try clear yZ);(try clear xH);(try clear xI);(try clear Dn);(try clear Do);(try clear Dp);(try clear qB);(try clear qC);(try clear zC)
      (try clear zD);(try clear Dt);(try clear Du);(try clear Dv);(try clear nX);(try clear nY);(try clear sT);(try clear sU);(try clear sV);(try clear sO);(try clear sP);(try clear tY);(try clear tZ);(try clear uA);(try clear Dy);(try clear Dz);(try clear zK);(try clear zL);(try clear Ed);(try clear Ee);(try clear Ef)
      (try clear wI);(try clear wJ);(try clear zR);(try clear zS);(try clear uT);(try clear uU);(try clear Kr);(try clear Ks);(try clear p2)
      obtain⟨bX,iK,dC,HA,HK2,eK,cK,bS,cP,cF,HB⟩:=hrel
      cases gk with
      |zero=>exact absurd HA.out (by simp [regletref16_Feed.l0])
      |succ k2=>
       have H:=HA.out
       clear HA
       simp only [regletref16_Feed.l0] at H
       by_cases c58:(bX.length:Int)>0
       ·rw [if_pos c58] at H
        have Vh:decide (0<(bX.length:Int))=true:=decide_eq_true c58
        have Vi:decide (0<bX.length)=true:=decide_eq_true (by omega)
        clear c58
        obtain⟨cI,xJ⟩:∃j_:Int,(wrap64 ((bX.length:Int) - 1))=j_:=⟨_,rfl⟩
        replace H:(if 0≤(cI) then(if(cI)<(bX.length:Int) then(if(cI)≤(bX.length:Int) then((some (bX.take ((cI):Int).toNat:List (S43))).bind fun y239=>(if(rd_T43 bX (cI)).f0=true then(if((rd_T43 bX (cI)).f1)=a3 then(some (y239,false,iK,0)) else(some (([]:List (S43)),true,iK,80))) else(if 0≤((rd_T43 bX (cI)).f1) then(if((rd_T43 bX (cI)).f1)<(l1.length:Int) then(if 0≤a3 then(if a3<((rd_L5 l1 ((rd_T43 bX (cI)).f1)).length:Int) then(if(rd (rd_L5 l1 ((rd_T43 bX (cI)).f1)) a3)<0 then(some (([]:List (S43)),true,iK,80)) else(if iK.length<17592186044416 then(if 0≤(rd (rd_L5 l1 ((rd_T43 bX (cI)).f1)) a3) then(if(rd (rd_L5 l1 ((rd_T43 bX (cI)).f1)) a3)<(aQ.length:Int) then(regletref16_Feed.l1 k2 l1 a3 y239 (iK++ [rd (rd_L5 l1 ((rd_T43 bX (cI)).f1)) a3]) (rd (rd_L5 l1 ((rd_T43 bX (cI)).f1)) a3) (wrap64 ((((rd_T35 aQ (rd (rd_L5 l1 ((rd_T43 bX (cI)).f1)) a3)).f1).length:Int) - 1)) aU aX bA bB aQ) else(none)) else(none)) else(none))) else(none)) else(none)) else(none)) else(none)))) else(none)) else(none)) else(none))=some (r1,r2,r3,r4):=by first|(rw [xJ] at H;exact H)|(simp only [xJ] at H ⊢;exact H)
        have hji59w:(IntKind.i64.wrap ((bX.length:Int) - 1))=cI:=(i64_w _).trans xJ
        by_cases c60:0≤(cI)
        rotate_left
        ·rw [if_neg c60] at H
         exact absurd H (by simp)
        rw [if_pos c60] at H
        have CB:decide (0≤(cI))=true:=decide_eq_true c60
        clear c60
        by_cases c61:(cI)<(bX.length:Int)
        rotate_left
        ·rw [if_neg c61] at H
         exact absurd H (by simp)
        rw [if_pos c61] at H
        have CC:decide ((cI)<(bX.length:Int))=true:=decide_eq_true c61
        clear c61
        by_cases c62:(cI)≤(bX.length:Int)
        rotate_left
        ·rw [if_neg c62] at H
         exact absurd H (by simp)
        rw [if_pos c62] at H
        have CD:=eq_true c62
        have CG:decide ((cI)≤(bX.length:Int))=true:=decide_eq_true c62
        clear c62
        obtain⟨y239,Ge⟩:∃y_:List (S43),y_=(bX.take ((cI):Int).toNat):=⟨_,rfl⟩
        replace H:(if(rd_T43 bX (cI)).f0=true then(if((rd_T43 bX (cI)).f1)=a3 then(some (y239,false,iK,0)) else(some (([]:List (S43)),true,iK,80))) else(if 0≤((rd_T43 bX (cI)).f1) then(if((rd_T43 bX (cI)).f1)<(l1.length:Int) then(if 0≤a3 then(if a3<((rd_L5 l1 ((rd_T43 bX (cI)).f1)).length:Int) then(if(rd (rd_L5 l1 ((rd_T43 bX (cI)).f1)) a3)<0 then(some (([]:List (S43)),true,iK,80)) else(if iK.length<17592186044416 then(if 0≤(rd (rd_L5 l1 ((rd_T43 bX (cI)).f1)) a3) then(if(rd (rd_L5 l1 ((rd_T43 bX (cI)).f1)) a3)<(aQ.length:Int) then(regletref16_Feed.l1 k2 l1 a3 y239 (iK++ [rd (rd_L5 l1 ((rd_T43 bX (cI)).f1)) a3]) (rd (rd_L5 l1 ((rd_T43 bX (cI)).f1)) a3) (wrap64 ((((rd_T35 aQ (rd (rd_L5 l1 ((rd_T43 bX (cI)).f1)) a3)).f1).length:Int) - 1)) aU aX bA bB aQ) else(none)) else(none)) else(none))) else(none)) else(none)) else(none)) else(none)))=some (r1,r2,r3,r4):=by first|(rw [Ge];with_reducible exact H)|(have H2_:=(Option.bind_some _ _).symm.trans H;rw [Ge];with_reducible exact H2_)|(have H2_:=(Option.bind_some _ _).symm.trans H;with_reducible exact H2_)|with_reducible exact H|(rw [Ge];exact H)|exact H
        have yN:=aM Ge
        clear Ge
        obtain⟨bq63,hbq63⟩:∃b_:Bool,b_=((rd_T43 bX (cI)).f0):=⟨_,rfl⟩
        replace H:(if bq63=true then(if((rd_T43 bX (cI)).f1)=a3 then(some (y239,false,iK,0)) else(some (([]:List (S43)),true,iK,80))) else(if 0≤((rd_T43 bX (cI)).f1) then(if((rd_T43 bX (cI)).f1)<(l1.length:Int) then(if 0≤a3 then(if a3<((rd_L5 l1 ((rd_T43 bX (cI)).f1)).length:Int) then(if(rd (rd_L5 l1 ((rd_T43 bX (cI)).f1)) a3)<0 then(some (([]:List (S43)),true,iK,80)) else(if iK.length<17592186044416 then(if 0≤(rd (rd_L5 l1 ((rd_T43 bX (cI)).f1)) a3) then(if(rd (rd_L5 l1 ((rd_T43 bX (cI)).f1)) a3)<(aQ.length:Int) then(regletref16_Feed.l1 k2 l1 a3 y239 (iK++ [rd (rd_L5 l1 ((rd_T43 bX (cI)).f1)) a3]) (rd (rd_L5 l1 ((rd_T43 bX (cI)).f1)) a3) (wrap64 ((((rd_T35 aQ (rd (rd_L5 l1 ((rd_T43 bX (cI)).f1)) a3)).f1).length:Int) - 1)) aU aX bA bB aQ) else(none)) else(none)) else(none))) else(none)) else(none)) else(none)) else(none)))=some (r1,r2,r3,r4):=by rw [←hbq63] at H;exact H
        have Nbq63:=aM hbq63
        clear hbq63
        by_cases c64:bq63=true
        ·subst c64
         have H1:(if((rd_T43 bX (cI)).f1)=a3 then(some (y239,false,iK,0)) else(some (([]:List (S43)),true,iK,80)))=some (r1,r2,r3,r4):=by rw [if_pos rfl] at H;exact H
         clear H
         have H:=H1
         clear H1
         by_cases c65:((rd_T43 bX (cI)).f1)=a3
         ·rw [if_pos c65] at H
          have Vj:(((rd_T43 bX (cI)).f1)==a3)=true:=beq_iff_eq.mpr c65
          have Vk:(((rd_T43 bX (cI)).f1) !=a3)=false:=bne_eq_false_iff_eq.mpr c65
          clear c65
          simp only [Option.some.injEq,Prod.mk.injEq] at H
          obtain⟨rfl,rfl,rfl,rfl⟩:=H
          obtain⟨Sr,Bq,Xo⟩:=Kd.R_slice eK.out
          subst Xo
          have p237:0≤((cI):Int):=of_decide_eq_true (by first|(with_reducible assumption)|assumption)
          have q237:(cI)<(bX.length:Int):=of_decide_eq_true (by first|(with_reducible assumption)|assumption)
          obtain⟨nG,e237,oF,zU⟩:=at_T43 (aF eK.out).2.2 (cI) p237 q237
          (try rw [←Nbq63.out] at oF)
          cases e237
          replace p237:=eq_true p237
          replace q237:=eq_true q237
          go_wp2_with (first|((with_reducible refine bJ (N:=13) rfl ?_);(try(refine gate_guard (by rfl) ?_;dsimp only));refine box_event ?hg (N:=13) ?hd (cs:=#[.bool false,.int .i64 0]) (t:=43) ?hr ?_;(case hd=>rfl);(case hg=>rfl);(case hr=>first|(go_simp;done)|(go_simp;rfl));intro cW hg w67 hbox hb;have bY:=aM (aD (Kd.R_elderB (gR eK.out) cW (Nat.le_of_eq hg.symm)) hb);have bZ:=aM (aD (gR cK.out) hb);have cA:=aM (bF (gB bS.out) hb);have cC:=aM (bF (gB cP.out) hb);have cQ:=aM (bF (gB cF.out) hb);have dA:=aM (bG (gW HB.out) hb);have dH:=aM (hbox);have eG:=aM ((by rw [hg];exact(bH (gW HB.out)):w.heap.size≤cW));have fK:=aM ((by rw [hg];exact(bH (gW HB.out)):w.heap.size≤cW));have hF:=aM ((by rw [hg];exact Nat.ne_of_lt (bN (g:=cY) (o:= .cells #[.slice bC aU.length bK,.slice bM aX.length bO,.int .i64 bA,.int .i64 bB,.slice bQ aQ.length bP] 26 (0,0)) (gB bS.out)):cY≠cW));have eH:=aM ((by rw [hg];exact Nat.ne_of_gt (bN (g:=cY) (o:= .cells #[.slice bC aU.length bK,.slice bM aX.length bO,.int .i64 bA,.int .i64 bB,.slice bQ aQ.length bP] 26 (0,0)) (gB bS.out)):cW≠cY));have eR:=aM ((by rw [hg];exact Nat.ne_of_lt (bN (g:=fV) (o:= .cells #[.slice gQ dF.length gT,.bool false] 31 (0,0)) (gB cP.out)):fV≠cW));have fJ:=aM ((by rw [hg];exact Nat.ne_of_gt (bN (g:=fV) (o:= .cells #[.slice gQ dF.length gT,.bool false] 31 (0,0)) (gB cP.out)):cW≠fV));have fQ:=aM ((by rw [hg];exact Nat.ne_of_lt (bN (g:=dZ) (o:= .cells #[.slice none 0 0,.bool dC] 31 (0,0)) (gB cF.out)):dZ≠cW));have iQ:=aM ((by rw [hg];exact Nat.ne_of_gt (bN (g:=dZ) (o:= .cells #[.slice none 0 0,.bool dC] 31 (0,0)) (gB cF.out)):cW≠dZ));clear eK;clear cK;clear bS;clear cP;clear cF;clear HB;have eK:=bY;have cK:=bZ;have bS:=cA;have cP:=cC;have cF:=cQ;have HB:=dA;have eE:=dH;have GW238:=eG;have qX:=fK;have gJ:=hF;have kZ:=eH;have gP:=eR;have mA:=fJ;have fW:=fQ;have kI:=iQ;clear bY bZ cA cC cQ dA dH eG fK hF eH eR fJ fQ iQ;clear hb hbox hg;have hnb68:=kZ.out;have hnc68:=gJ.out;have hnb69:=mA.out;have hnc69:=gP.out;have hnb70:=kI.out;have hnc70:=fW.out;have Ss:w67.cell? ⟨cW,0,none⟩=some (.bool false):=(aG eE.out 0).trans rfl;have St:w67.cell? ⟨cW,1,none⟩=some (.int .i64 0):=(aG eE.out 1).trans rfl;have Su:=aH eE.out 0;have Sv:=aH eE.out 1)|((with_reducible refine gate_store (t:=43) (p:=13) rfl ?_);refine store_event (t:=43) (p:=13) (v:=?vo_w72) (w1:=((w67.setCell ⟨cW,0,none⟩ (.bool true)).setCell ⟨cW,1,none⟩ (.int .i64 ((rd_T43 bX (cI)).f1)))) ?hg ?ho ?hn ?hr ?_;(case ho=>rfl);(case hg=>rfl);(case hn=>rfl);(case hr=>first|(go_simp;done)|(go_simp;rfl));intro w72 hw;have bY:Aside0 (Kd.R k43 43 w72 w.heap.size (fun k_=>k_≠cW) (.slice (some nG) bX.length Bq) bX):=⟨(by rw [hw];exact(by(with_reducible repeat(first|apply aA|apply aB|apply aC));exact Kd.R_mono (aE (p:=⟨cW,1,none⟩) (aE (p:=⟨cW,0,none⟩) (Kd.R_mono eK.out (fun k_ hk=>(⟨hk,hk.2⟩:_∧k_≠cW))) (fun _ hk=>hk.2) (.bool true)) (fun _ hk=>hk.2) (.int .i64 ((rd_T43 bX (cI)).f1))) (fun _ hk=>hk.1.2)))⟩;have bZ:Aside0 (Kd.R (Kd.int .i64) 3 w72 w.heap.size (fun _=>True) u12 iK):=⟨(by rw [hw];exact(by(with_reducible repeat(first|apply aA|apply aB|apply aC));exact Kd.R_mono (aE (p:=⟨cW,1,none⟩) (aE (p:=⟨cW,0,none⟩) (Kd.R_types cK.out eE.out (by decide)) (fun _ hk=>hk.2) (.bool true)) (fun _ hk=>hk.2) (.int .i64 ((rd_T43 bX (cI)).f1))) (fun _ hk=>trivial)))⟩;have cA:Aside0 (w72.heap[cY]?=some (.cells #[.slice bC aU.length bK,.slice bM aX.length bO,.int .i64 bA,.int .i64 bB,.slice bQ aQ.length bP] 26 (0,0))):=⟨(by rw [hw];exact(by(with_reducible repeat(first|refine aJ ?_ _|refine aK ?_|refine aI ?_ _));refine blk_far ?_ gJ.out _;(with_reducible repeat(first|refine aJ ?_ _|refine aK ?_|refine aI ?_ _));refine blk_far ?_ gJ.out _;(with_reducible repeat(first|refine aJ ?_ _|refine aK ?_|refine aI ?_ _));exact bS.out))⟩;have cC:Aside0 (w72.heap[fV]?=some (.cells #[.slice gQ dF.length gT,.bool false] 31 (0,0))):=⟨(by rw [hw];exact(by(with_reducible repeat(first|refine aJ ?_ _|refine aK ?_|refine aI ?_ _));refine blk_far ?_ gP.out _;(with_reducible repeat(first|refine aJ ?_ _|refine aK ?_|refine aI ?_ _));refine blk_far ?_ gP.out _;(with_reducible repeat(first|refine aJ ?_ _|refine aK ?_|refine aI ?_ _));exact cP.out))⟩;have cQ:Aside0 (w72.heap[dZ]?=some (.cells #[.slice none 0 0,.bool dC] 31 (0,0))):=⟨(by rw [hw];exact(by(with_reducible repeat(first|refine aJ ?_ _|refine aK ?_|refine aI ?_ _));refine blk_far ?_ fW.out _;(with_reducible repeat(first|refine aJ ?_ _|refine aK ?_|refine aI ?_ _));refine blk_far ?_ fW.out _;(with_reducible repeat(first|refine aJ ?_ _|refine aK ?_|refine aI ?_ _));exact cF.out))⟩;have dA:Aside0 (w72.heap[cW]?=some (.cells #[.bool true,.int .i64 ((rd_T43 bX (cI)).f1)] 43 (0,0))):=⟨(by rw [hw];exact(by(with_reducible repeat(first|refine aJ ?_ _|refine aK ?_|refine aI ?_ _));refine blk_put (cs:=#[.bool true,.int .i64 0]) ?_ 1 _ rfl;(with_reducible repeat(first|refine aJ ?_ _|refine aK ?_|refine aI ?_ _));refine blk_put (cs:=#[.bool false,.int .i64 0]) ?_ 0 _ rfl;(with_reducible repeat(first|refine aJ ?_ _|refine aK ?_|refine aI ?_ _));exact eE.out))⟩;have dH:Aside0 (Below w.heap.size w w72):=⟨(by rw [hw];exact(by repeat(first|(with_reducible first|exact HB.out|apply aN|apply aP|apply aO|refine aL ?_ oX.out|refine aL ?_ oY.out|refine aL ?_ oZ.out|refine aL ?_ qX.out)|exact HB.out)))⟩;clear hw;clear eK;clear cK;clear bS;clear cP;clear cF;clear eE;clear HB;have eK:=bY;have cK:=bZ;have bS:=cA;have cP:=cC;have cF:=cQ;have eE:=dA;have HB:=dH;clear bY bZ cA cC cQ dA dH;have q73:((cI):Int)≤((bX.length:Int):Int):=of_decide_eq_true (by first|(with_reducible assumption)|assumption);obtain⟨i073,hi073,_,hsz73,_⟩:=info_parts info43;have hcut73:=cut_to (P:=Try.prog) 29 43 .i64 Try.underlying29 hi073 (some nG) bX.length Bq (cI) (of_decide_eq_true (by first|(with_reducible assumption)|assumption)) q73 (aF eK.out).2.1;have hr73:=Kd.R_take (m:=((cI):Int).toNat) eK.out (by omega);have CH:y239.length=((cI):Int).toNat:=(by rw [yN.out,List.length_take];omega);rw [←yN.out] at hr73;rw [←CH] at hr73 hcut73;clear CH hi073 hsz73 eK;have yO:=aM hr73;clear hr73;replace q73:=eq_true q73;have Sw:w72.cell? ⟨cW,0,none⟩=some (.bool true):=(aG eE.out 0).trans rfl;have Sx:w72.cell? ⟨cW,1,none⟩=some (.int .i64 ((rd_T43 bX (cI)).f1)):=(aG eE.out 1).trans rfl;have Sy:=aH eE.out 0;have Sz:=aH eE.out 1;have hnb75:=gO.out;have hnc75:=gM.out;have hnb76:=iA.out;have hnc76:=hZ.out;have Ta:w72.cell? ⟨dZ,0,none⟩=some (.slice none 0 0):=(aG cF.out 0).trans rfl;have Tb:w72.cell? ⟨dZ,1,none⟩=some (.bool dC):=(aG cF.out 1).trans rfl;have Tc:=aH cF.out 0;have Td:=aH cF.out 1))
          refine bodyPost_ret (results_ctt rfl _ _ dZ 31 #[.slice (some nG) y239.length Bq,.bool false] (0,0) _ rfl (by(with_reducible repeat(first|refine aJ ?_ _|refine aK ?_|refine aI ?_ _));refine blk_put (cs:=#[.slice (some nG) y239.length Bq,.bool dC]) ?_ 1 _ rfl;(with_reducible repeat(first|refine aJ ?_ _|refine aK ?_|refine aI ?_ _));refine blk_put (cs:=#[.slice none 0 0,.bool dC]) ?_ 0 _ rfl;(with_reducible repeat(first|refine aJ ?_ _|refine aK ?_|refine aI ?_ _));exact cF.out) Try.underlying31 rfl (by kernel_rfl)) rfl ?_
          exact⟨_,_,by first|rfl|(simp [errW_none,errW_some]<;>rfl)|(simp only [←xJ];first|rfl|(simp [errW_none,errW_some]<;>rfl))|(simp [*,errW_none,errW_some]<;>rfl),by(with_reducible repeat(first|apply aA|apply aB|apply aC));exact Kd.R_mono (aE (p:=⟨dZ,1,none⟩) (aE (p:=⟨dZ,0,none⟩) (Kd.R_types yO.out cF.out (by decide)) (fun _ hk=>hk.2) (.slice (some nG) y239.length Bq)) (fun _ hk=>hk.2) (.bool false)) (fun _ hk=>trivial),by(with_reducible repeat(first|apply aA|apply aB|apply aC));exact Kd.R_mono (aE (p:=⟨dZ,1,none⟩) (aE (p:=⟨dZ,0,none⟩) (Kd.R_types cK.out cF.out (by decide)) (fun _ hk=>hk.2) (.slice (some nG) y239.length Bq)) (fun _ hk=>hk.2) (.bool false)) (fun _ hk=>trivial),by repeat(first|(with_reducible first|exact HB.out|apply aN|apply aP|apply aO|refine aL ?_ oX.out|refine aL ?_ oY.out|refine aL ?_ oZ.out|refine aL ?_ qX.out)|exact HB.out)⟩
         ·rw [if_neg c65] at H
          have Vj:(((rd_T43 bX (cI)).f1)==a3)=false:=beq_eq_false_iff_ne.mpr c65
          have Vk:(((rd_T43 bX (cI)).f1) !=a3)=true:=bne_iff_ne.mpr c65
          simp only [Option.some.injEq,Prod.mk.injEq] at H
          obtain⟨rfl,rfl,rfl,rfl⟩:=H
          obtain⟨QP,CI,MM⟩:=Kd.R_slice eK.out
          subst MM
          have p237:0≤((cI):Int):=of_decide_eq_true (by first|(with_reducible assumption)|assumption)
          have q237:(cI)<(bX.length:Int):=of_decide_eq_true (by first|(with_reducible assumption)|assumption)
          obtain⟨nG,e237,oF,zU⟩:=at_T43 (aF eK.out).2.2 (cI) p237 q237
          (try rw [←Nbq63.out] at oF)
          cases e237
          replace p237:=eq_true p237
          replace q237:=eq_true q237
          go_wp2_with (first|((with_reducible refine bJ (N:=13) rfl ?_);(try(refine gate_guard (by rfl) ?_;dsimp only));refine box_event ?hg (N:=13) ?hd (cs:=#[.bool false,.int .i64 0]) (t:=43) ?hr ?_;(case hd=>rfl);(case hg=>rfl);(case hr=>first|(go_simp;done)|(go_simp;rfl));intro cW hg w79 hbox hb;have bY:=aM (aD (Kd.R_elderB (gR eK.out) cW (Nat.le_of_eq hg.symm)) hb);have bZ:=aM (aD (gR cK.out) hb);have cA:=aM (bF (gB bS.out) hb);have cC:=aM (bF (gB cP.out) hb);have cQ:=aM (bF (gB cF.out) hb);have dA:=aM (bG (gW HB.out) hb);have dH:=aM (hbox);have eG:=aM ((by rw [hg];exact(bH (gW HB.out)):w.heap.size≤cW));have fK:=aM ((by rw [hg];exact(bH (gW HB.out)):w.heap.size≤cW));have hF:=aM ((by rw [hg];exact Nat.ne_of_lt (bN (g:=cY) (o:= .cells #[.slice bC aU.length bK,.slice bM aX.length bO,.int .i64 bA,.int .i64 bB,.slice bQ aQ.length bP] 26 (0,0)) (gB bS.out)):cY≠cW));have eH:=aM ((by rw [hg];exact Nat.ne_of_gt (bN (g:=cY) (o:= .cells #[.slice bC aU.length bK,.slice bM aX.length bO,.int .i64 bA,.int .i64 bB,.slice bQ aQ.length bP] 26 (0,0)) (gB bS.out)):cW≠cY));have eR:=aM ((by rw [hg];exact Nat.ne_of_lt (bN (g:=fV) (o:= .cells #[.slice gQ dF.length gT,.bool false] 31 (0,0)) (gB cP.out)):fV≠cW));have fJ:=aM ((by rw [hg];exact Nat.ne_of_gt (bN (g:=fV) (o:= .cells #[.slice gQ dF.length gT,.bool false] 31 (0,0)) (gB cP.out)):cW≠fV));have fQ:=aM ((by rw [hg];exact Nat.ne_of_lt (bN (g:=dZ) (o:= .cells #[.slice none 0 0,.bool dC] 31 (0,0)) (gB cF.out)):dZ≠cW));have iQ:=aM ((by rw [hg];exact Nat.ne_of_gt (bN (g:=dZ) (o:= .cells #[.slice none 0 0,.bool dC] 31 (0,0)) (gB cF.out)):cW≠dZ));clear eK;clear cK;clear bS;clear cP;clear cF;clear HB;have eK:=bY;have cK:=bZ;have bS:=cA;have cP:=cC;have cF:=cQ;have HB:=dA;have eE:=dH;have GW238:=eG;have qX:=fK;have gJ:=hF;have kZ:=eH;have gP:=eR;have mA:=fJ;have fW:=fQ;have kI:=iQ;clear bY bZ cA cC cQ dA dH eG fK hF eH eR fJ fQ iQ;clear hb hbox hg;have hnb80:=kZ.out;have hnc80:=gJ.out;have hnb81:=mA.out;have hnc81:=gP.out;have hnb82:=kI.out;have hnc82:=fW.out;have Te:w79.cell? ⟨cW,0,none⟩=some (.bool false):=(aG eE.out 0).trans rfl;have Tf:w79.cell? ⟨cW,1,none⟩=some (.int .i64 0):=(aG eE.out 1).trans rfl;have Tg:=aH eE.out 0;have Th:=aH eE.out 1)|((with_reducible refine gate_store (t:=43) (p:=13) rfl ?_);refine store_event (t:=43) (p:=13) (v:=?vo_w84) (w1:=((w79.setCell ⟨cW,0,none⟩ (.bool true)).setCell ⟨cW,1,none⟩ (.int .i64 ((rd_T43 bX (cI)).f1)))) ?hg ?ho ?hn ?hr ?_;(case ho=>rfl);(case hg=>rfl);(case hn=>rfl);(case hr=>first|(go_simp;done)|(go_simp;rfl));intro w84 hw;have bY:Aside0 (Kd.R k43 43 w84 w.heap.size (fun k_=>k_≠cW) (.slice (some nG) bX.length CI) bX):=⟨(by rw [hw];exact(by(with_reducible repeat(first|apply aA|apply aB|apply aC));exact Kd.R_mono (aE (p:=⟨cW,1,none⟩) (aE (p:=⟨cW,0,none⟩) (Kd.R_mono eK.out (fun k_ hk=>(⟨hk,hk.2⟩:_∧k_≠cW))) (fun _ hk=>hk.2) (.bool true)) (fun _ hk=>hk.2) (.int .i64 ((rd_T43 bX (cI)).f1))) (fun _ hk=>hk.1.2)))⟩;have bZ:Aside0 (Kd.R (Kd.int .i64) 3 w84 w.heap.size (fun _=>True) u12 iK):=⟨(by rw [hw];exact(by(with_reducible repeat(first|apply aA|apply aB|apply aC));exact Kd.R_mono (aE (p:=⟨cW,1,none⟩) (aE (p:=⟨cW,0,none⟩) (Kd.R_types cK.out eE.out (by decide)) (fun _ hk=>hk.2) (.bool true)) (fun _ hk=>hk.2) (.int .i64 ((rd_T43 bX (cI)).f1))) (fun _ hk=>trivial)))⟩;have cA:Aside0 (w84.heap[cY]?=some (.cells #[.slice bC aU.length bK,.slice bM aX.length bO,.int .i64 bA,.int .i64 bB,.slice bQ aQ.length bP] 26 (0,0))):=⟨(by rw [hw];exact(by(with_reducible repeat(first|refine aJ ?_ _|refine aK ?_|refine aI ?_ _));refine blk_far ?_ gJ.out _;(with_reducible repeat(first|refine aJ ?_ _|refine aK ?_|refine aI ?_ _));refine blk_far ?_ gJ.out _;(with_reducible repeat(first|refine aJ ?_ _|refine aK ?_|refine aI ?_ _));exact bS.out))⟩;have cC:Aside0 (w84.heap[fV]?=some (.cells #[.slice gQ dF.length gT,.bool false] 31 (0,0))):=⟨(by rw [hw];exact(by(with_reducible repeat(first|refine aJ ?_ _|refine aK ?_|refine aI ?_ _));refine blk_far ?_ gP.out _;(with_reducible repeat(first|refine aJ ?_ _|refine aK ?_|refine aI ?_ _));refine blk_far ?_ gP.out _;(with_reducible repeat(first|refine aJ ?_ _|refine aK ?_|refine aI ?_ _));exact cP.out))⟩;have cQ:Aside0 (w84.heap[dZ]?=some (.cells #[.slice none 0 0,.bool dC] 31 (0,0))):=⟨(by rw [hw];exact(by(with_reducible repeat(first|refine aJ ?_ _|refine aK ?_|refine aI ?_ _));refine blk_far ?_ fW.out _;(with_reducible repeat(first|refine aJ ?_ _|refine aK ?_|refine aI ?_ _));refine blk_far ?_ fW.out _;(with_reducible repeat(first|refine aJ ?_ _|refine aK ?_|refine aI ?_ _));exact cF.out))⟩;have dA:Aside0 (w84.heap[cW]?=some (.cells #[.bool true,.int .i64 ((rd_T43 bX (cI)).f1)] 43 (0,0))):=⟨(by rw [hw];exact(by(with_reducible repeat(first|refine aJ ?_ _|refine aK ?_|refine aI ?_ _));refine blk_put (cs:=#[.bool true,.int .i64 0]) ?_ 1 _ rfl;(with_reducible repeat(first|refine aJ ?_ _|refine aK ?_|refine aI ?_ _));refine blk_put (cs:=#[.bool false,.int .i64 0]) ?_ 0 _ rfl;(with_reducible repeat(first|refine aJ ?_ _|refine aK ?_|refine aI ?_ _));exact eE.out))⟩;have dH:Aside0 (Below w.heap.size w w84):=⟨(by rw [hw];exact(by repeat(first|(with_reducible first|exact HB.out|apply aN|apply aP|apply aO|refine aL ?_ oX.out|refine aL ?_ oY.out|refine aL ?_ oZ.out|refine aL ?_ qX.out)|exact HB.out)))⟩;clear hw;clear eK;clear cK;clear bS;clear cP;clear cF;clear eE;clear HB;have eK:=bY;have cK:=bZ;have bS:=cA;have cP:=cC;have cF:=cQ;have eE:=dA;have HB:=dH;clear bY bZ cA cC cQ dA dH;have q85:((cI):Int)≤((bX.length:Int):Int):=of_decide_eq_true (by first|(with_reducible assumption)|assumption);obtain⟨i085,hi085,_,hsz85,_⟩:=info_parts info43;have hcut85:=cut_to (P:=Try.prog) 29 43 .i64 Try.underlying29 hi085 (some nG) bX.length CI (cI) (of_decide_eq_true (by first|(with_reducible assumption)|assumption)) q85 (aF eK.out).2.1;have hr85:=Kd.R_take (m:=((cI):Int).toNat) eK.out (by omega);have CJ:y239.length=((cI):Int).toNat:=(by rw [yN.out,List.length_take];omega);rw [←yN.out] at hr85;rw [←CJ] at hr85 hcut85;clear CJ hi085 hsz85 eK;have yO:=aM hr85;clear hr85;replace q85:=eq_true q85;have Ti:w84.cell? ⟨cW,0,none⟩=some (.bool true):=(aG eE.out 0).trans rfl;have Tj:w84.cell? ⟨cW,1,none⟩=some (.int .i64 ((rd_T43 bX (cI)).f1)):=(aG eE.out 1).trans rfl;have Tk:=aH eE.out 0;have Tl:=aH eE.out 1;have hnb87:=gO.out;have hnc87:=gM.out;have hnb88:=iA.out;have hnc88:=hZ.out;have Tm:w84.cell? ⟨dZ,0,none⟩=some (.slice none 0 0):=(aG cF.out 0).trans rfl;have Tn:w84.cell? ⟨dZ,1,none⟩=some (.bool dC):=(aG cF.out 1).trans rfl;have To:=aH cF.out 0;have Tp:=aH cF.out 1))
          refine bodyPost_ret (results_ctt rfl _ _ dZ 31 #[.slice none 0 0,.bool true] (0,0) _ rfl (by(with_reducible repeat(first|refine aJ ?_ _|refine aK ?_|refine aI ?_ _));refine blk_put (cs:=#[.slice none 0 0,.bool dC]) ?_ 1 _ rfl;(with_reducible repeat(first|refine aJ ?_ _|refine aK ?_|refine aI ?_ _));refine blk_put (cs:=#[.slice none 0 0,.bool dC]) ?_ 0 _ rfl;(with_reducible repeat(first|refine aJ ?_ _|refine aK ?_|refine aI ?_ _));exact cF.out) Try.underlying31 rfl (by kernel_rfl)) rfl ?_
          exact⟨_,_,by first|rfl|(simp [errW_none,errW_some]<;>rfl)|(simp only [←xJ];first|rfl|(simp [errW_none,errW_some]<;>rfl))|(simp [*,errW_none,errW_some]<;>rfl),by first|exact Kd.R_nil _ _ _ _ _|exact Kd.N_nil _ _ _ _ _|exact Kd.V_nil _ _ _ _ _|exact Kd.Q_nil _ _ _ _ _|exact Kd.S_nil _ _ _ _ _,by(with_reducible repeat(first|apply aA|apply aB|apply aC));exact Kd.R_mono (aE (p:=⟨dZ,1,none⟩) (aE (p:=⟨dZ,0,none⟩) (Kd.R_types cK.out cF.out (by decide)) (fun _ hk=>hk.2) (.slice none 0 0)) (fun _ hk=>hk.2) (.bool true)) (fun _ hk=>trivial),by repeat(first|(with_reducible first|exact HB.out|apply aN|apply aP|apply aO|refine aL ?_ oX.out|refine aL ?_ oY.out|refine aL ?_ oZ.out|refine aL ?_ qX.out)|exact HB.out)⟩
        ·replace c64:=Bool.eq_false_iff.mpr c64
         subst c64
         have H1:(if 0≤((rd_T43 bX (cI)).f1) then(if((rd_T43 bX (cI)).f1)<(l1.length:Int) then(if 0≤a3 then(if a3<((rd_L5 l1 ((rd_T43 bX (cI)).f1)).length:Int) then(if(rd (rd_L5 l1 ((rd_T43 bX (cI)).f1)) a3)<0 then(some (([]:List (S43)),true,iK,80)) else(if iK.length<17592186044416 then(if 0≤(rd (rd_L5 l1 ((rd_T43 bX (cI)).f1)) a3) then(if(rd (rd_L5 l1 ((rd_T43 bX (cI)).f1)) a3)<(aQ.length:Int) then(regletref16_Feed.l1 k2 l1 a3 y239 (iK++ [rd (rd_L5 l1 ((rd_T43 bX (cI)).f1)) a3]) (rd (rd_L5 l1 ((rd_T43 bX (cI)).f1)) a3) (wrap64 ((((rd_T35 aQ (rd (rd_L5 l1 ((rd_T43 bX (cI)).f1)) a3)).f1).length:Int) - 1)) aU aX bA bB aQ) else(none)) else(none)) else(none))) else(none)) else(none)) else(none)) else(none))=some (r1,r2,r3,r4):=by rw [if_neg (show ¬(false=true) by decide)] at H;exact H
         clear H
         have H:=H1
         clear H1
         by_cases c90:0≤((rd_T43 bX (cI)).f1)
         rotate_left
         ·rw [if_neg c90] at H
          exact absurd H (by simp)
         rw [if_pos c90] at H
         have CK:decide (0≤((rd_T43 bX (cI)).f1))=true:=decide_eq_true c90
         clear c90
         by_cases c91:((rd_T43 bX (cI)).f1)<(l1.length:Int)
         rotate_left
         ·rw [if_neg c91] at H
          exact absurd H (by simp)
         rw [if_pos c91] at H
         have CL:decide (((rd_T43 bX (cI)).f1)<(l1.length:Int))=true:=decide_eq_true c91
         clear c91
         by_cases c92:0≤a3
         rotate_left
         ·rw [if_neg c92] at H
          exact absurd H (by simp)
         rw [if_pos c92] at H
         have CM:decide (0≤a3)=true:=decide_eq_true c92
         clear c92
         by_cases c93:a3<((rd_L5 l1 ((rd_T43 bX (cI)).f1)).length:Int)
         rotate_left
         ·rw [if_neg c93] at H
          exact absurd H (by simp)
         rw [if_pos c93] at H
         have CN:decide (a3<((rd_L5 l1 ((rd_T43 bX (cI)).f1)).length:Int))=true:=decide_eq_true c93
         clear c93
         by_cases c94:(rd (rd_L5 l1 ((rd_T43 bX (cI)).f1)) a3)<0
         ·rw [if_pos c94] at H
          have Vl:decide ((rd (rd_L5 l1 ((rd_T43 bX (cI)).f1)) a3)<0)=true:=decide_eq_true c94
          clear c94
          simp only [Option.some.injEq,Prod.mk.injEq] at H
          obtain⟨rfl,rfl,rfl,rfl⟩:=H
          obtain⟨QQ,CO,MN⟩:=Kd.R_slice eK.out
          subst MN
          have p237:0≤((cI):Int):=of_decide_eq_true (by first|(with_reducible assumption)|assumption)
          have q237:(cI)<(bX.length:Int):=of_decide_eq_true (by first|(with_reducible assumption)|assumption)
          obtain⟨nG,e237,oF,zU⟩:=at_T43 (aF eK.out).2.2 (cI) p237 q237
          (try rw [←Nbq63.out] at oF)
          cases e237
          replace p237:=eq_true p237
          replace q237:=eq_true q237
          go_wp2_with (first|((with_reducible refine bJ (N:=13) rfl ?_);(try(refine gate_guard (by rfl) ?_;dsimp only));refine box_event ?hg (N:=13) ?hd (cs:=#[.bool false,.int .i64 0]) (t:=43) ?hr ?_;(case hd=>rfl);(case hg=>rfl);(case hr=>first|(go_simp;done)|(go_simp;rfl));intro cW hg w96 hbox hb;have bY:=aM (aD (Kd.R_elderB (gR eK.out) cW (Nat.le_of_eq hg.symm)) hb);have bZ:=aM (aD (gR cK.out) hb);have cA:=aM (bF (gB bS.out) hb);have cC:=aM (bF (gB cP.out) hb);have cQ:=aM (bF (gB cF.out) hb);have dA:=aM (bG (gW HB.out) hb);have dH:=aM (hbox);have eG:=aM ((by rw [hg];exact(bH (gW HB.out)):w.heap.size≤cW));have fK:=aM ((by rw [hg];exact(bH (gW HB.out)):w.heap.size≤cW));have hF:=aM ((by rw [hg];exact Nat.ne_of_lt (bN (g:=cY) (o:= .cells #[.slice bC aU.length bK,.slice bM aX.length bO,.int .i64 bA,.int .i64 bB,.slice bQ aQ.length bP] 26 (0,0)) (gB bS.out)):cY≠cW));have eH:=aM ((by rw [hg];exact Nat.ne_of_gt (bN (g:=cY) (o:= .cells #[.slice bC aU.length bK,.slice bM aX.length bO,.int .i64 bA,.int .i64 bB,.slice bQ aQ.length bP] 26 (0,0)) (gB bS.out)):cW≠cY));have eR:=aM ((by rw [hg];exact Nat.ne_of_lt (bN (g:=fV) (o:= .cells #[.slice gQ dF.length gT,.bool false] 31 (0,0)) (gB cP.out)):fV≠cW));have fJ:=aM ((by rw [hg];exact Nat.ne_of_gt (bN (g:=fV) (o:= .cells #[.slice gQ dF.length gT,.bool false] 31 (0,0)) (gB cP.out)):cW≠fV));have fQ:=aM ((by rw [hg];exact Nat.ne_of_lt (bN (g:=dZ) (o:= .cells #[.slice none 0 0,.bool dC] 31 (0,0)) (gB cF.out)):dZ≠cW));have iQ:=aM ((by rw [hg];exact Nat.ne_of_gt (bN (g:=dZ) (o:= .cells #[.slice none 0 0,.bool dC] 31 (0,0)) (gB cF.out)):cW≠dZ));clear eK;clear cK;clear bS;clear cP;clear cF;clear HB;have eK:=bY;have cK:=bZ;have bS:=cA;have cP:=cC;have cF:=cQ;have HB:=dA;have eE:=dH;have GW238:=eG;have qX:=fK;have gJ:=hF;have kZ:=eH;have gP:=eR;have mA:=fJ;have fW:=fQ;have kI:=iQ;clear bY bZ cA cC cQ dA dH eG fK hF eH eR fJ fQ iQ;clear hb hbox hg;have hnb97:=kZ.out;have hnc97:=gJ.out;have hnb98:=mA.out;have hnc98:=gP.out;have hnb99:=kI.out;have hnc99:=fW.out;have Mx:w96.cell? ⟨cW,0,none⟩=some (.bool false):=(aG eE.out 0).trans rfl;have My:w96.cell? ⟨cW,1,none⟩=some (.int .i64 0):=(aG eE.out 1).trans rfl;have Mz:=aH eE.out 0;have Na:=aH eE.out 1)|((with_reducible refine gate_store (t:=43) (p:=13) rfl ?_);refine store_event (t:=43) (p:=13) (v:=?vo_w101) (w1:=((w96.setCell ⟨cW,0,none⟩ (.bool false)).setCell ⟨cW,1,none⟩ (.int .i64 ((rd_T43 bX (cI)).f1)))) ?hg ?ho ?hn ?hr ?_;(case ho=>rfl);(case hg=>rfl);(case hn=>rfl);(case hr=>first|(go_simp;done)|(go_simp;rfl));intro w101 hw;have bY:Aside0 (Kd.R k43 43 w101 w.heap.size (fun k_=>k_≠cW) (.slice (some nG) bX.length CO) bX):=⟨(by rw [hw];exact(by(with_reducible repeat(first|apply aA|apply aB|apply aC));exact Kd.R_mono (aE (p:=⟨cW,1,none⟩) (aE (p:=⟨cW,0,none⟩) (Kd.R_mono eK.out (fun k_ hk=>(⟨hk,hk.2⟩:_∧k_≠cW))) (fun _ hk=>hk.2) (.bool false)) (fun _ hk=>hk.2) (.int .i64 ((rd_T43 bX (cI)).f1))) (fun _ hk=>hk.1.2)))⟩;have bZ:Aside0 (Kd.R (Kd.int .i64) 3 w101 w.heap.size (fun _=>True) u12 iK):=⟨(by rw [hw];exact(by(with_reducible repeat(first|apply aA|apply aB|apply aC));exact Kd.R_mono (aE (p:=⟨cW,1,none⟩) (aE (p:=⟨cW,0,none⟩) (Kd.R_types cK.out eE.out (by decide)) (fun _ hk=>hk.2) (.bool false)) (fun _ hk=>hk.2) (.int .i64 ((rd_T43 bX (cI)).f1))) (fun _ hk=>trivial)))⟩;have cA:Aside0 (w101.heap[cY]?=some (.cells #[.slice bC aU.length bK,.slice bM aX.length bO,.int .i64 bA,.int .i64 bB,.slice bQ aQ.length bP] 26 (0,0))):=⟨(by rw [hw];exact(by(with_reducible repeat(first|refine aJ ?_ _|refine aK ?_|refine aI ?_ _));refine blk_far ?_ gJ.out _;(with_reducible repeat(first|refine aJ ?_ _|refine aK ?_|refine aI ?_ _));refine blk_far ?_ gJ.out _;(with_reducible repeat(first|refine aJ ?_ _|refine aK ?_|refine aI ?_ _));exact bS.out))⟩;have cC:Aside0 (w101.heap[fV]?=some (.cells #[.slice gQ dF.length gT,.bool false] 31 (0,0))):=⟨(by rw [hw];exact(by(with_reducible repeat(first|refine aJ ?_ _|refine aK ?_|refine aI ?_ _));refine blk_far ?_ gP.out _;(with_reducible repeat(first|refine aJ ?_ _|refine aK ?_|refine aI ?_ _));refine blk_far ?_ gP.out _;(with_reducible repeat(first|refine aJ ?_ _|refine aK ?_|refine aI ?_ _));exact cP.out))⟩;have cQ:Aside0 (w101.heap[dZ]?=some (.cells #[.slice none 0 0,.bool dC] 31 (0,0))):=⟨(by rw [hw];exact(by(with_reducible repeat(first|refine aJ ?_ _|refine aK ?_|refine aI ?_ _));refine blk_far ?_ fW.out _;(with_reducible repeat(first|refine aJ ?_ _|refine aK ?_|refine aI ?_ _));refine blk_far ?_ fW.out _;(with_reducible repeat(first|refine aJ ?_ _|refine aK ?_|refine aI ?_ _));exact cF.out))⟩;have dA:Aside0 (w101.heap[cW]?=some (.cells #[.bool false,.int .i64 ((rd_T43 bX (cI)).f1)] 43 (0,0))):=⟨(by rw [hw];exact(by(with_reducible repeat(first|refine aJ ?_ _|refine aK ?_|refine aI ?_ _));refine blk_put (cs:=#[.bool false,.int .i64 0]) ?_ 1 _ rfl;(with_reducible repeat(first|refine aJ ?_ _|refine aK ?_|refine aI ?_ _));refine blk_put (cs:=#[.bool false,.int .i64 0]) ?_ 0 _ rfl;(with_reducible repeat(first|refine aJ ?_ _|refine aK ?_|refine aI ?_ _));exact eE.out))⟩;have dH:Aside0 (Below w.heap.size w w101):=⟨(by rw [hw];exact(by repeat(first|(with_reducible first|exact HB.out|apply aN|apply aP|apply aO|refine aL ?_ oX.out|refine aL ?_ oY.out|refine aL ?_ oZ.out|refine aL ?_ qX.out)|exact HB.out)))⟩;clear hw;clear eK;clear cK;clear bS;clear cP;clear cF;clear eE;clear HB;have eK:=bY;have cK:=bZ;have bS:=cA;have cP:=cC;have cF:=cQ;have eE:=dA;have HB:=dH;clear bY bZ cA cC cQ dA dH;have q102:((cI):Int)≤((bX.length:Int):Int):=of_decide_eq_true (by first|(with_reducible assumption)|assumption);obtain⟨i0102,hi0102,_,hsz102,_⟩:=info_parts info43;have hcut102:=cut_to (P:=Try.prog) 29 43 .i64 Try.underlying29 hi0102 (some nG) bX.length CO (cI) (of_decide_eq_true (by first|(with_reducible assumption)|assumption)) q102 (aF eK.out).2.1;have hr102:=Kd.R_take (m:=((cI):Int).toNat) eK.out (by omega);have Vm:y239.length=((cI):Int).toNat:=(by rw [yN.out,List.length_take];omega);rw [←yN.out] at hr102;rw [←Vm] at hr102 hcut102;clear Vm hi0102 hsz102 eK;have yO:=aM hr102;clear hr102;replace q102:=eq_true q102;have Nb:w101.cell? ⟨cW,0,none⟩=some (.bool false):=(aG eE.out 0).trans rfl;have Nc:w101.cell? ⟨cW,1,none⟩=some (.int .i64 ((rd_T43 bX (cI)).f1)):=(aG eE.out 1).trans rfl;have Nd:=aH eE.out 0;have Nf:=aH eE.out 1;have p242:0≤(((rd_T43 bX (cI)).f1):Int):=of_decide_eq_true (by first|(with_reducible assumption)|assumption);have q242:((rd_T43 bX (cI)).f1)<(l1.length:Int):=of_decide_eq_true (by first|(with_reducible assumption)|assumption);obtain⟨CP,Xp,Xq,e242,oG,xK,xL⟩:=at_L5 HR1.out ((rd_T43 bX (cI)).f1) p242 q242;cases e242;replace oG:=(HB.out.cell (World.block_lt_of_cell? w _ oG)).trans oG;have Eg:=aM xL;have Tq:=aM xK;clear xL xK;replace p242:=eq_true p242;replace q242:=eq_true q242;have p243:0≤(a3:Int):=of_decide_eq_true (by first|(with_reducible assumption)|assumption);have q243:a3<((rd_L5 l1 ((rd_T43 bX (cI)).f1)).length:Int):=of_decide_eq_true (by first|(with_reducible assumption)|assumption);obtain⟨CQ,e243,oH⟩:=Kd.at_int Eg.out a3 p243 q243;cases e243;replace oH:=(HB.out.cell (World.block_lt_of_cell? w _ oH)).trans oH;replace p243:=eq_true p243;replace q243:=eq_true q243;have hnb104:=gO.out;have hnc104:=gM.out;have hnb105:=iA.out;have hnc105:=hZ.out;have Ng:w101.cell? ⟨dZ,0,none⟩=some (.slice none 0 0):=(aG cF.out 0).trans rfl;have Nh:w101.cell? ⟨dZ,1,none⟩=some (.bool dC):=(aG cF.out 1).trans rfl;have Nk:=aH cF.out 0;have Nl:=aH cF.out 1))
          refine bodyPost_ret (results_ctt rfl _ _ dZ 31 #[.slice none 0 0,.bool true] (0,0) _ rfl (by(with_reducible repeat(first|refine aJ ?_ _|refine aK ?_|refine aI ?_ _));refine blk_put (cs:=#[.slice none 0 0,.bool dC]) ?_ 1 _ rfl;(with_reducible repeat(first|refine aJ ?_ _|refine aK ?_|refine aI ?_ _));refine blk_put (cs:=#[.slice none 0 0,.bool dC]) ?_ 0 _ rfl;(with_reducible repeat(first|refine aJ ?_ _|refine aK ?_|refine aI ?_ _));exact cF.out) Try.underlying31 rfl (by kernel_rfl)) rfl ?_
          exact⟨_,_,by first|rfl|(simp [errW_none,errW_some]<;>rfl)|(simp only [←xJ];first|rfl|(simp [errW_none,errW_some]<;>rfl))|(simp [*,errW_none,errW_some]<;>rfl),by first|exact Kd.R_nil _ _ _ _ _|exact Kd.N_nil _ _ _ _ _|exact Kd.V_nil _ _ _ _ _|exact Kd.Q_nil _ _ _ _ _|exact Kd.S_nil _ _ _ _ _,by(with_reducible repeat(first|apply aA|apply aB|apply aC));exact Kd.R_mono (aE (p:=⟨dZ,1,none⟩) (aE (p:=⟨dZ,0,none⟩) (Kd.R_types cK.out cF.out (by decide)) (fun _ hk=>hk.2) (.slice none 0 0)) (fun _ hk=>hk.2) (.bool true)) (fun _ hk=>trivial),by repeat(first|(with_reducible first|exact HB.out|apply aN|apply aP|apply aO|refine aL ?_ oX.out|refine aL ?_ oY.out|refine aL ?_ oZ.out|refine aL ?_ qX.out)|exact HB.out)⟩
         ·rw [if_neg c94] at H
          have Vl:decide ((rd (rd_L5 l1 ((rd_T43 bX (cI)).f1)) a3)<0)=false:=decide_eq_false c94
          clear c94
          by_cases c107:iK.length<17592186044416
          rotate_left
          ·rw [if_neg c107] at H
           exact absurd H (by simp)
          rw [if_pos c107] at H
          have Xr:=aM c107
          clear c107
          obtain⟨y244,Gf⟩:∃y_:List Int,y_=(iK++ [rd (rd_L5 l1 ((rd_T43 bX (cI)).f1)) a3]):=⟨_,rfl⟩
          replace H:(if 0≤(rd (rd_L5 l1 ((rd_T43 bX (cI)).f1)) a3) then(if(rd (rd_L5 l1 ((rd_T43 bX (cI)).f1)) a3)<(aQ.length:Int) then(regletref16_Feed.l1 k2 l1 a3 y239 y244 (rd (rd_L5 l1 ((rd_T43 bX (cI)).f1)) a3) (wrap64 ((((rd_T35 aQ (rd (rd_L5 l1 ((rd_T43 bX (cI)).f1)) a3)).f1).length:Int) - 1)) aU aX bA bB aQ) else(none)) else(none))=some (r1,r2,r3,r4):=by first|(rw [Gf];with_reducible exact H)|(have H2_:=(Option.bind_some _ _).symm.trans H;rw [Gf];with_reducible exact H2_)|(have H2_:=(Option.bind_some _ _).symm.trans H;with_reducible exact H2_)|with_reducible exact H|(rw [Gf];exact H)|exact H
          have CR:=aM Gf
          clear Gf
          by_cases c108:0≤(rd (rd_L5 l1 ((rd_T43 bX (cI)).f1)) a3)
          rotate_left
          ·rw [if_neg c108] at H
           exact absurd H (by simp)
          rw [if_pos c108] at H
          have Xs:decide (0≤(rd (rd_L5 l1 ((rd_T43 bX (cI)).f1)) a3))=true:=decide_eq_true c108
          clear c108
          by_cases c109:(rd (rd_L5 l1 ((rd_T43 bX (cI)).f1)) a3)<(aQ.length:Int)
          rotate_left
          ·rw [if_neg c109] at H
           exact absurd H (by simp)
          rw [if_pos c109] at H
          have Xt:decide ((rd (rd_L5 l1 ((rd_T43 bX (cI)).f1)) a3)<(aQ.length:Int))=true:=decide_eq_true c109
          clear c109
          have H':=aM H
          clear H
          obtain⟨OU,Vn,CS⟩:=Kd.R_slice eK.out
          subst CS
          have p237:0≤((cI):Int):=of_decide_eq_true (by first|(with_reducible assumption)|assumption)
          have q237:(cI)<(bX.length:Int):=of_decide_eq_true (by first|(with_reducible assumption)|assumption)
          obtain⟨nG,e237,oF,zU⟩:=at_T43 (aF eK.out).2.2 (cI) p237 q237
          (try rw [←Nbq63.out] at oF)
          cases e237
          replace p237:=eq_true p237
          replace q237:=eq_true q237
          go_wp2_with (first|((with_reducible refine bJ (N:=13) rfl ?_);(try(refine gate_guard (by rfl) ?_;dsimp only));refine box_event ?hg (N:=13) ?hd (cs:=#[.bool false,.int .i64 0]) (t:=43) ?hr ?_;(case hd=>rfl);(case hg=>rfl);(case hr=>first|(go_simp;done)|(go_simp;rfl));intro cW hg w111 hbox hb;have bY:=aM (aD (Kd.R_elderB (gR eK.out) cW (Nat.le_of_eq hg.symm)) hb);have bZ:=aM (aD (gR cK.out) hb);have cA:=aM (bF (gB bS.out) hb);have cC:=aM (bF (gB cP.out) hb);have cQ:=aM (bF (gB cF.out) hb);have dA:=aM (bG (gW HB.out) hb);have dH:=aM (hbox);have eG:=aM ((by rw [hg];exact(bH (gW HB.out)):w.heap.size≤cW));have fK:=aM ((by rw [hg];exact(bH (gW HB.out)):w.heap.size≤cW));have hF:=aM ((by rw [hg];exact Nat.ne_of_lt (bN (g:=cY) (o:= .cells #[.slice bC aU.length bK,.slice bM aX.length bO,.int .i64 bA,.int .i64 bB,.slice bQ aQ.length bP] 26 (0,0)) (gB bS.out)):cY≠cW));have eH:=aM ((by rw [hg];exact Nat.ne_of_gt (bN (g:=cY) (o:= .cells #[.slice bC aU.length bK,.slice bM aX.length bO,.int .i64 bA,.int .i64 bB,.slice bQ aQ.length bP] 26 (0,0)) (gB bS.out)):cW≠cY));have eR:=aM ((by rw [hg];exact Nat.ne_of_lt (bN (g:=fV) (o:= .cells #[.slice gQ dF.length gT,.bool false] 31 (0,0)) (gB cP.out)):fV≠cW));have fJ:=aM ((by rw [hg];exact Nat.ne_of_gt (bN (g:=fV) (o:= .cells #[.slice gQ dF.length gT,.bool false] 31 (0,0)) (gB cP.out)):cW≠fV));have fQ:=aM ((by rw [hg];exact Nat.ne_of_lt (bN (g:=dZ) (o:= .cells #[.slice none 0 0,.bool dC] 31 (0,0)) (gB cF.out)):dZ≠cW));have iQ:=aM ((by rw [hg];exact Nat.ne_of_gt (bN (g:=dZ) (o:= .cells #[.slice none 0 0,.bool dC] 31 (0,0)) (gB cF.out)):cW≠dZ));clear eK;clear cK;clear bS;clear cP;clear cF;clear HB;have eK:=bY;have cK:=bZ;have bS:=cA;have cP:=cC;have cF:=cQ;have HB:=dA;have eE:=dH;have GW238:=eG;have qX:=fK;have gJ:=hF;have kZ:=eH;have gP:=eR;have mA:=fJ;have fW:=fQ;have kI:=iQ;clear bY bZ cA cC cQ dA dH eG fK hF eH eR fJ fQ iQ;clear hb hbox hg;have hnb112:=kZ.out;have hnc112:=gJ.out;have hnb113:=mA.out;have hnc113:=gP.out;have hnb114:=kI.out;have hnc114:=fW.out;have Nm:w111.cell? ⟨cW,0,none⟩=some (.bool false):=(aG eE.out 0).trans rfl;have Nn:w111.cell? ⟨cW,1,none⟩=some (.int .i64 0):=(aG eE.out 1).trans rfl;have No:=aH eE.out 0;have Np:=aH eE.out 1)|((with_reducible refine gate_store (t:=43) (p:=13) rfl ?_);refine store_event (t:=43) (p:=13) (v:=?vo_w116) (w1:=((w111.setCell ⟨cW,0,none⟩ (.bool false)).setCell ⟨cW,1,none⟩ (.int .i64 ((rd_T43 bX (cI)).f1)))) ?hg ?ho ?hn ?hr ?_;(case ho=>rfl);(case hg=>rfl);(case hn=>rfl);(case hr=>first|(go_simp;done)|(go_simp;rfl));intro w116 hw;have bY:Aside0 (Kd.R k43 43 w116 w.heap.size (fun k_=>k_≠cW) (.slice (some nG) bX.length Vn) bX):=⟨(by rw [hw];exact(by(with_reducible repeat(first|apply aA|apply aB|apply aC));exact Kd.R_mono (aE (p:=⟨cW,1,none⟩) (aE (p:=⟨cW,0,none⟩) (Kd.R_mono eK.out (fun k_ hk=>(⟨hk,hk.2⟩:_∧k_≠cW))) (fun _ hk=>hk.2) (.bool false)) (fun _ hk=>hk.2) (.int .i64 ((rd_T43 bX (cI)).f1))) (fun _ hk=>hk.1.2)))⟩;have bZ:Aside0 (Kd.R (Kd.int .i64) 3 w116 w.heap.size (fun _=>True) u12 iK):=⟨(by rw [hw];exact(by(with_reducible repeat(first|apply aA|apply aB|apply aC));exact Kd.R_mono (aE (p:=⟨cW,1,none⟩) (aE (p:=⟨cW,0,none⟩) (Kd.R_types cK.out eE.out (by decide)) (fun _ hk=>hk.2) (.bool false)) (fun _ hk=>hk.2) (.int .i64 ((rd_T43 bX (cI)).f1))) (fun _ hk=>trivial)))⟩;have cA:Aside0 (w116.heap[cY]?=some (.cells #[.slice bC aU.length bK,.slice bM aX.length bO,.int .i64 bA,.int .i64 bB,.slice bQ aQ.length bP] 26 (0,0))):=⟨(by rw [hw];exact(by(with_reducible repeat(first|refine aJ ?_ _|refine aK ?_|refine aI ?_ _));refine blk_far ?_ gJ.out _;(with_reducible repeat(first|refine aJ ?_ _|refine aK ?_|refine aI ?_ _));refine blk_far ?_ gJ.out _;(with_reducible repeat(first|refine aJ ?_ _|refine aK ?_|refine aI ?_ _));exact bS.out))⟩;have cC:Aside0 (w116.heap[fV]?=some (.cells #[.slice gQ dF.length gT,.bool false] 31 (0,0))):=⟨(by rw [hw];exact(by(with_reducible repeat(first|refine aJ ?_ _|refine aK ?_|refine aI ?_ _));refine blk_far ?_ gP.out _;(with_reducible repeat(first|refine aJ ?_ _|refine aK ?_|refine aI ?_ _));refine blk_far ?_ gP.out _;(with_reducible repeat(first|refine aJ ?_ _|refine aK ?_|refine aI ?_ _));exact cP.out))⟩;have cQ:Aside0 (w116.heap[dZ]?=some (.cells #[.slice none 0 0,.bool dC] 31 (0,0))):=⟨(by rw [hw];exact(by(with_reducible repeat(first|refine aJ ?_ _|refine aK ?_|refine aI ?_ _));refine blk_far ?_ fW.out _;(with_reducible repeat(first|refine aJ ?_ _|refine aK ?_|refine aI ?_ _));refine blk_far ?_ fW.out _;(with_reducible repeat(first|refine aJ ?_ _|refine aK ?_|refine aI ?_ _));exact cF.out))⟩;have dA:Aside0 (w116.heap[cW]?=some (.cells #[.bool false,.int .i64 ((rd_T43 bX (cI)).f1)] 43 (0,0))):=⟨(by rw [hw];exact(by(with_reducible repeat(first|refine aJ ?_ _|refine aK ?_|refine aI ?_ _));refine blk_put (cs:=#[.bool false,.int .i64 0]) ?_ 1 _ rfl;(with_reducible repeat(first|refine aJ ?_ _|refine aK ?_|refine aI ?_ _));refine blk_put (cs:=#[.bool false,.int .i64 0]) ?_ 0 _ rfl;(with_reducible repeat(first|refine aJ ?_ _|refine aK ?_|refine aI ?_ _));exact eE.out))⟩;have dH:Aside0 (Below w.heap.size w w116):=⟨(by rw [hw];exact(by repeat(first|(with_reducible first|exact HB.out|apply aN|apply aP|apply aO|refine aL ?_ oX.out|refine aL ?_ oY.out|refine aL ?_ oZ.out|refine aL ?_ qX.out)|exact HB.out)))⟩;clear hw;clear eK;clear cK;clear bS;clear cP;clear cF;clear eE;clear HB;have eK:=bY;have cK:=bZ;have bS:=cA;have cP:=cC;have cF:=cQ;have eE:=dA;have HB:=dH;clear bY bZ cA cC cQ dA dH;have q117:((cI):Int)≤((bX.length:Int):Int):=of_decide_eq_true (by first|(with_reducible assumption)|assumption);obtain⟨i0117,hi0117,_,hsz117,_⟩:=info_parts info43;have hcut117:=cut_to (P:=Try.prog) 29 43 .i64 Try.underlying29 hi0117 (some nG) bX.length Vn (cI) (of_decide_eq_true (by first|(with_reducible assumption)|assumption)) q117 (aF eK.out).2.1;have hr117:=Kd.R_take (m:=((cI):Int).toNat) eK.out (by omega);have Vo:y239.length=((cI):Int).toNat:=(by rw [yN.out,List.length_take];omega);rw [←yN.out] at hr117;rw [←Vo] at hr117 hcut117;clear Vo hi0117 hsz117 eK;have yO:=aM hr117;clear hr117;replace q117:=eq_true q117;have Nq:w116.cell? ⟨cW,0,none⟩=some (.bool false):=(aG eE.out 0).trans rfl;have Nr:w116.cell? ⟨cW,1,none⟩=some (.int .i64 ((rd_T43 bX (cI)).f1)):=(aG eE.out 1).trans rfl;have Ns:=aH eE.out 0;have Nt:=aH eE.out 1;have p242:0≤(((rd_T43 bX (cI)).f1):Int):=of_decide_eq_true (by first|(with_reducible assumption)|assumption);have q242:((rd_T43 bX (cI)).f1)<(l1.length:Int):=of_decide_eq_true (by first|(with_reducible assumption)|assumption);obtain⟨CP,Xp,Xq,e242,oG,xK,xL⟩:=at_L5 HR1.out ((rd_T43 bX (cI)).f1) p242 q242;cases e242;replace oG:=(HB.out.cell (World.block_lt_of_cell? w _ oG)).trans oG;have Eg:=aM xL;have Tq:=aM xK;clear xL xK;replace p242:=eq_true p242;replace q242:=eq_true q242;have p243:0≤(a3:Int):=of_decide_eq_true (by first|(with_reducible assumption)|assumption);have q243:a3<((rd_L5 l1 ((rd_T43 bX (cI)).f1)).length:Int):=of_decide_eq_true (by first|(with_reducible assumption)|assumption);obtain⟨CQ,e243,oH⟩:=Kd.at_int Eg.out a3 p243 q243;cases e243;replace oH:=(HB.out.cell (World.block_lt_of_cell? w _ oH)).trans oH;replace p243:=eq_true p243;replace q243:=eq_true q243)|((with_reducible refine gate_builtin (b:= .append) (xs:=#[.tmp 83,.tmp 85]) rfl ?_);(try(refine gate_guard (by rfl) ?_;dsimp only));at_builtin;refine Kd.R_append (Kd.int .i64) (w0:=w) w.heap.size rfl (.tmp 83) (.tmp 85) 32 3 (.int .i64 0) 8 rfl Try.underlying32 info3 rfl (by decide) (by omega) u12 iK (rd (rd_L5 l1 ((rd_T43 bX (cI)).f1)) a3) [.int .i64 (rd (rd_L5 l1 ((rd_T43 bX (cI)).f1)) a3)] (fun _=>True) (fun _=>False) rfl rfl ?aP (fun _ hk=>hk.elim) ?aF ?aO ?aB ?aS ?aL ?_;(case aP=>exact rfl);(case aB=>exact(gW HB.out));(case aF=>exact(fun _ _=>trivial));(case aO=>exact(gR cK.out));(case aS=>exact(bH (gW HB.out)));(case aL=>have:=Xr.out;omega);intro v245 w119 ho hb hg hat;rw [←CR.out] at ho;have bY:=aM (Kd.R_over' (gR yO.out) (Kd.R_typed (gR cK.out)) (by decide) hg);have bZ:=aM (blk_grown (gB bS.out) hg (Kd.R_ne cK.out bS.out (by decide)));have cA:=aM (blk_grown (gB cP.out) hg (Kd.R_ne cK.out cP.out (by decide)));have cC:=aM (blk_grown (gB cF.out) hg (Kd.R_ne cK.out cF.out (by decide)));have cQ:=aM (blk_grown (gB eE.out) hg (Kd.R_ne cK.out eE.out (by decide)));have dA:=aM (hb);have dH:=aM (ho);clear yO;clear bS;clear cP;clear cF;clear eE;clear HB;clear cK;have yO:=bY;have bS:=bZ;have cP:=cA;have cF:=cC;have eE:=cQ;have HB:=dA;have CT:=dH;clear bY bZ cA cC cQ dA dH;clear ho hb hg hat;have hnb120:=jL.out;have hnc120:=jM.out;have hnb121:=gM.out;have hnc121:=gO.out;have Nu:w119.cell? ⟨cY,0,none⟩=some (.slice bC aU.length bK):=(aG bS.out 0).trans rfl;have Nv:w119.cell? ⟨cY,1,none⟩=some (.slice bM aX.length bO):=(aG bS.out 1).trans rfl;have Nw:w119.cell? ⟨cY,2,none⟩=some (.int .i64 bA):=(aG bS.out 2).trans rfl;have Nx:w119.cell? ⟨cY,3,none⟩=some (.int .i64 bB):=(aG bS.out 3).trans rfl;have Ny:w119.cell? ⟨cY,4,none⟩=some (.slice bQ aQ.length bP):=(aG bS.out 4).trans rfl;have Nz:=aH bS.out 0;have Oa:=aH bS.out 1;have Ob:=aH bS.out 2;have Oc:=aH bS.out 3;have Od:=aH bS.out 4;have p247:0≤((rd (rd_L5 l1 ((rd_T43 bX (cI)).f1)) a3):Int):=of_decide_eq_true (by first|(with_reducible assumption)|assumption);have q247:(rd (rd_L5 l1 ((rd_T43 bX (cI)).f1)) a3)<(aQ.length:Int):=of_decide_eq_true (by first|(with_reducible assumption)|assumption);obtain⟨Oe,MO,MP,e247,zV,zW,Kt,Ku⟩:=at_T35 dW.out (rd (rd_L5 l1 ((rd_T43 bX (cI)).f1)) a3) p247 q247;cases e247;replace zV:=(HB.out.cell (World.block_lt_of_cell? w _ zV)).trans zV;replace zW:=(HB.out.cell (World.block_lt_of_cell? w _ zW)).trans zW;have JB:=aM Ku;have JC:=aM Kt;clear Ku Kt;replace p247:=eq_true p247;replace q247:=eq_true q247))
          go_loopg [11,15] k2 (fun kq v11 v15 w'=>∃(qY:List (S43)) (kB:Int),v15= .int .i64 kB∧Aside0 (regletref16_Feed.l1 kq l1 a3 qY y244 (rd (rd_L5 l1 ((rd_T43 bX (cI)).f1)) a3) kB aU aX bA bB aQ=some (r1,r2,r3,r4))∧Aside0 (kq≤k2)∧Aside0 (Kd.R k43 43 w' w.heap.size (fun k_=>k_≠cW) v11 qY)∧Aside0 (Kd.R (Kd.int .i64) 3 w' w.heap.size (fun _=>True) v245 y244)∧Aside0 (w'.heap[cY]?=some (.cells #[(.slice bC aU.length bK),(.slice bM aX.length bO),.int .i64 bA,.int .i64 bB,(.slice (some Oe) aQ.length bP)] 26 (0,0)))∧Aside0 (w'.heap[fV]?=some (.cells #[(.slice gQ dF.length gT),.bool false] 31 (0,0)))∧Aside0 (w'.heap[dZ]?=some (.cells #[(.slice none 0 0),.bool dC] 31 (0,0)))∧Aside0 (w'.heap[cW]?=some (.cells #[.bool false,.int .i64 ((rd_T43 bX (cI)).f1)] 43 (0,0)))∧Aside0 (Below w.heap.size w w'))
          case atStart=>exact⟨(y239),(wrap64 ((((rd_T35 aQ (rd (rd_L5 l1 ((rd_T43 bX (cI)).f1)) a3)).f1).length:Int) - 1)),(by first|rfl|(simp;done)|(simp only [←xJ]<;>(first|rfl|simp))|(simp [*];done)),H',⟨Nat.le_refl _⟩,⟨gR yO.out⟩,⟨gR CT.out⟩,⟨gB bS.out⟩,⟨gB cP.out⟩,⟨gB cF.out⟩,⟨gB eE.out⟩,⟨gW HB.out⟩⟩
          case round=>
           clear H'
           (try clear c1);(try clear q1);(try clear c2);(try clear p2);(try clear q2);(try clear hx2);(try clear c3);(try clear c4);(try clear c5);(try clear c6);(try clear p6);(try clear q6);(try clear c7);(try clear q7);(try clear c8);(try clear q8);(try clear c9);(try clear c10);(try clear q10);(try clear c11);(try clear q11);(try clear c12);(try clear c13);(try clear nS);(try clear c14);(try clear c15)
           (try clear c19);(try clear c22);(try clear c23);(try clear p23);(try clear q23);(try clear hx23);(try clear c24);(try clear p24);(try clear q24);(try clear hx24);(try clear c26);(try clear c27);(try clear c31);(try clear c32);(try clear c36);(try clear c39);(try clear c40);(try clear c43);(try clear c44);(try clear c45);(try clear c47);(try clear c48);(try clear c49);(try clear c51);(try clear c53)
           (try clear c54);(try clear c55);(try clear c58);(try clear Vh);(try clear Vi);(try clear c60);(try clear CB);(try clear c61);(try clear CC);(try clear c62);(try clear CD);(try clear CG);(try clear q63);(try clear c64);(try clear p64);(try clear c65);(try clear Vj);(try clear Vk);(try clear c68);(try clear c69);(try clear c70);(try clear q73);(try clear c75);(try clear c76);(try clear c80)
           (try clear c81);(try clear c82);(try clear q85);(try clear c87);(try clear c88);(try clear c90);(try clear CK);(try clear c91);(try clear CL);(try clear c92);(try clear CM);(try clear c93);(try clear CN);(try clear c94);(try clear Vl);(try clear c97);(try clear c98);(try clear c99);(try clear q102);(try clear c104);(try clear c105);(try clear c107);(try clear c108);(try clear Xs)
           (try clear c109);(try clear Xt);(try clear c112);(try clear c113);(try clear c114);(try clear q117);(try clear c120);(try clear c121);(try clear Mx);(try clear My);(try clear Nb);(try clear Nc);(try clear Ng);(try clear Nh);(try clear Nm);(try clear Nn);(try clear Nq);(try clear Nr);(try clear Nu);(try clear Nv);(try clear Nw)
           (try clear Nx);(try clear Ny);(try clear wV);(try clear wW);(try clear wX);(try clear wY);(try clear wZ);(try clear kE);(try clear kF);(try clear mM);(try clear mN);(try clear mO);(try clear rU);(try clear rV);(try clear tR);(try clear tS);(try clear yU);(try clear yV);(try clear yW);(try clear xF)
           (try clear xG);(try clear Dk);(try clear Dl);(try clear Dm);(try clear pZ);(try clear qA);(try clear zA);(try clear zB);(try clear Dq);(try clear Dr);(try clear Ds);(try clear nV);(try clear nW);(try clear sQ);(try clear sR);(try clear sS);(try clear sM);(try clear sN);(try clear tV);(try clear tW);(try clear tX)
           (try clear Dw);(try clear Dx);(try clear zI);(try clear zJ);(try clear Ea);(try clear Eb);(try clear Ec);(try clear wG);(try clear wH);(try clear zP);(try clear zQ);(try clear uR);(try clear uS);(try clear Kp);(try clear Kq);(try clear Ss);(try clear St);(try clear Sw);(try clear Sx);(try clear Ta);(try clear Tb)
           (try clear Te);(try clear Tf);(try clear Ti);(try clear Tj);(try clear Tm);(try clear Tn);(try clear Mz);(try clear Na);(try clear Nd);(try clear Nf);(try clear Nk);(try clear Nl);(try clear No);(try clear Np);(try clear Ns);(try clear Nt);(try clear Nz);(try clear Oa);(try clear Ob);(try clear Oc)
           (try clear Od);(try clear xA);(try clear xB);(try clear xC);(try clear xD);(try clear xE);(try clear kG);(try clear kH);(try clear mP);(try clear mQ);(try clear mR);(try clear rW);(try clear rX);(try clear tT);(try clear tU);(try clear yX);(try clear yY);(try clear yZ);(try clear xH);(try clear xI)
           (try clear Dn);(try clear Do);(try clear Dp);(try clear qB);(try clear qC);(try clear zC);(try clear zD);(try clear Dt);(try clear Du);(try clear Dv);(try clear nX);(try clear nY);(try clear sT);(try clear sU);(try clear sV);(try clear sO);(try clear sP);(try clear tY);(try clear tZ);(try clear uA);(try clear Dy)
           (try clear Dz);(try clear zK);(try clear zL);(try clear Ed);(try clear Ee);(try clear Ef);(try clear wI);(try clear wJ);(try clear zR);(try clear zS);(try clear uT);(try clear uU);(try clear Kr);(try clear Ks);(try clear Su);(try clear Sv);(try clear Sy);(try clear Sz);(try clear Tc);(try clear Td);(try clear Tg)
           (try clear Th);(try clear Tk);(try clear Tl);(try clear To);(try clear Tp);(try clear oF);(try clear zU);(try clear oG);(try clear oH);(try clear zV);(try clear zW);(try clear p2);(try clear p237);(try clear p242);(try clear p243);(try clear p247);(try clear q102);(try clear q117);(try clear q237);(try clear q242);(try clear q243);(try clear q247)
           (try clear q73);(try clear q85)
           obtain⟨qY,kB,rfl,HA,HK3,eK,cK,bS,cP,cF,eE,HB⟩:=hrel
           cases gk with
           |zero=>exact absurd HA.out (by simp [regletref16_Feed.l1])
           |succ k3=>
            have H:=HA.out
            clear HA
            simp only [regletref16_Feed.l1] at H
            by_cases c123:kB≥0
            ·rw [if_pos c123] at H
             have Xu:decide (0≤kB)=true:=decide_eq_true c123
             clear c123
             by_cases c124:0≤(rd (rd_L5 l1 ((rd_T43 bX (cI)).f1)) a3)
             rotate_left
             ·rw [if_neg c124] at H
              exact absurd H (by simp)
             rw [if_pos c124] at H
             have MQ:decide (0≤(rd (rd_L5 l1 ((rd_T43 bX (cI)).f1)) a3))=true:=decide_eq_true c124
             clear c124
             by_cases c125:(rd (rd_L5 l1 ((rd_T43 bX (cI)).f1)) a3)<(aQ.length:Int)
             rotate_left
             ·rw [if_neg c125] at H
              exact absurd H (by simp)
             rw [if_pos c125] at H
             have MR:decide ((rd (rd_L5 l1 ((rd_T43 bX (cI)).f1)) a3)<(aQ.length:Int))=true:=decide_eq_true c125
             clear c125
             by_cases c126:0≤kB
             rotate_left
             ·rw [if_neg c126] at H
              exact absurd H (by simp)
             rw [if_pos c126] at H
             have MS:decide (0≤kB)=true:=decide_eq_true c126
             clear c126
             by_cases c127:kB<(((rd_T35 aQ (rd (rd_L5 l1 ((rd_T43 bX (cI)).f1)) a3)).f1).length:Int)
             rotate_left
             ·rw [if_neg c127] at H
              exact absurd H (by simp)
             rw [if_pos c127] at H
             have MT:decide (kB<(((rd_T35 aQ (rd (rd_L5 l1 ((rd_T43 bX (cI)).f1)) a3)).f1).length:Int))=true:=decide_eq_true c127
             clear c127
             by_cases c128:qY.length<8796093022208
             rotate_left
             ·rw [if_neg c128] at H
              exact absurd H (by simp)
             rw [if_pos c128] at H
             have Xv:=aM c128
             clear c128
             obtain⟨y250,Gg⟩:∃y_:List (S43),y_=(qY++ [(⟨(rd_T43 ((rd_T35 aQ (rd (rd_L5 l1 ((rd_T43 bX (cI)).f1)) a3)).f1) kB).f0,(rd_T43 ((rd_T35 aQ (rd (rd_L5 l1 ((rd_T43 bX (cI)).f1)) a3)).f1) kB).f1⟩:S43)]):=⟨_,rfl⟩
             replace H:(regletref16_Feed.l1 k3 l1 a3 y250 y244 (rd (rd_L5 l1 ((rd_T43 bX (cI)).f1)) a3) (wrap64 (kB - 1)) aU aX bA bB aQ)=some (r1,r2,r3,r4):=by first|(rw [Gg];with_reducible exact H)|(have H2_:=(Option.bind_some _ _).symm.trans H;rw [Gg];with_reducible exact H2_)|(have H2_:=(Option.bind_some _ _).symm.trans H;with_reducible exact H2_)|with_reducible exact H|(rw [Gg];exact H)|exact H
             have CU:=aM Gg
             clear Gg
             have H':=aM H
             clear H
             have hnb129:=jL.out
             have hnc129:=jM.out
             have hnb130:=gM.out
             have hnc130:=gO.out
             have hnb131:=gJ.out
             have hnc131:=kZ.out
             have CV:wr.cell? ⟨cY,0,none⟩=some (.slice bC aU.length bK):=(aG bS.out 0).trans rfl
             have CW:wr.cell? ⟨cY,1,none⟩=some (.slice bM aX.length bO):=(aG bS.out 1).trans rfl
             have CX:wr.cell? ⟨cY,2,none⟩=some (.int .i64 bA):=(aG bS.out 2).trans rfl
             have CY:wr.cell? ⟨cY,3,none⟩=some (.int .i64 bB):=(aG bS.out 3).trans rfl
             have CZ:wr.cell? ⟨cY,4,none⟩=some (.slice (some Oe) aQ.length bP):=(aG bS.out 4).trans rfl
             have DA:=aH bS.out 0
             have DB:=aH bS.out 1
             have DC:=aH bS.out 2
             have DD:=aH bS.out 3
             have DE:=aH bS.out 4
             have p248:0≤((rd (rd_L5 l1 ((rd_T43 bX (cI)).f1)) a3):Int):=of_decide_eq_true (by first|(with_reducible assumption)|assumption)
             have q248:(rd (rd_L5 l1 ((rd_T43 bX (cI)).f1)) a3)<(aQ.length:Int):=of_decide_eq_true (by first|(with_reducible assumption)|assumption)
             obtain⟨DF,MU,MV,e248,Eh,Ei,Kv,Kw⟩:=at_T35 dW.out (rd (rd_L5 l1 ((rd_T43 bX (cI)).f1)) a3) p248 q248
             obtain rfl:Oe=DF:=(by injection e248)
             replace Eh:=(HB.out.cell (World.block_lt_of_cell? w _ Eh)).trans Eh
             replace Ei:=(HB.out.cell (World.block_lt_of_cell? w _ Ei)).trans Ei
             have Tr:=aM Kw
             have JD:=aM Kv
             clear Kw Kv
             replace p248:=eq_true p248
             replace q248:=eq_true q248
             have p249:0≤(kB:Int):=of_decide_eq_true (by first|(with_reducible assumption)|assumption)
             have q249:kB<(((rd_T35 aQ (rd (rd_L5 l1 ((rd_T43 bX (cI)).f1)) a3)).f1).length:Int):=of_decide_eq_true (by first|(with_reducible assumption)|assumption)
             obtain⟨OV,e249,zX,Ej⟩:=at_T43 Tr.out kB p249 q249
             (try rw [←Nbq63.out] at zX)
             cases e249
             replace zX:=(HB.out.cell (World.block_lt_of_cell? w _ zX)).trans zX
             replace Ej:=(HB.out.cell (World.block_lt_of_cell? w _ Ej)).trans Ej
             replace p249:=eq_true p249
             replace q249:=eq_true q249
             go_wp2_with (first|((with_reducible refine gate_builtin (b:= .append) (xs:=#[.tmp 99,.tmp 109]) rfl ?_);(try(refine gate_guard (by rfl) ?_;dsimp only));at_builtin;refine Kd.R_append k43 (w0:=w) w.heap.size rfl (.tmp 99) (.tmp 109) 29 43 (.agg #[(.bool false),(.int .i64 0)]) 16 rfl Try.underlying29 info43 rfl (by decide) (by omega) u11 qY (⟨(rd_T43 ((rd_T35 aQ (rd (rd_L5 l1 ((rd_T43 bX (cI)).f1)) a3)).f1) kB).f0,(rd_T43 ((rd_T35 aQ (rd (rd_L5 l1 ((rd_T43 bX (cI)).f1)) a3)).f1) kB).f1⟩:S43) [.bool ((rd_T43 ((rd_T35 aQ (rd (rd_L5 l1 ((rd_T43 bX (cI)).f1)) a3)).f1) kB).f0),.int .i64 ((rd_T43 ((rd_T35 aQ (rd (rd_L5 l1 ((rd_T43 bX (cI)).f1)) a3)).f1) kB).f1)] (fun k_=>k_≠cW) (fun _=>False) rfl rfl ?aP (fun _ hk=>hk.elim) ?aF ?aO ?aB ?aS ?aL ?_;(case aP=>exact k43_mkM _ _ _ (⟨(rd_T43 ((rd_T35 aQ (rd (rd_L5 l1 ((rd_T43 bX (cI)).f1)) a3)).f1) kB).f0,(rd_T43 ((rd_T35 aQ (rd (rd_L5 l1 ((rd_T43 bX (cI)).f1)) a3)).f1) kB).f1⟩:S43));(case aB=>exact(gW HB.out));(case aF=>exact(fun k_ hk=>Kd.freshB (gB eE.out) k_ hk));(case aO=>exact(gR eK.out));(case aS=>exact(bH (gW HB.out)));(case aL=>have:=Xv.out;omega);intro v251 w133 ho hb hg hat;rw [←CU.out] at ho;have bY:=aM (Kd.R_over' (gR cK.out) (Kd.R_typed (gR eK.out)) (by decide) hg);have bZ:=aM (blk_grown (gB bS.out) hg (Kd.R_ne eK.out bS.out (by decide)));have cA:=aM (blk_grown (gB cP.out) hg (Kd.R_ne eK.out cP.out (by decide)));have cC:=aM (blk_grown (gB cF.out) hg (Kd.R_ne eK.out cF.out (by decide)));have cQ:=aM (blk_grown (gB eE.out) hg (Kd.R_away eK.out (fun _ hk=>hk)));have dA:=aM (hb);have dH:=aM (ho);clear cK;clear bS;clear cP;clear cF;clear eE;clear HB;clear eK;have cK:=bY;have bS:=bZ;have cP:=cA;have cF:=cC;have eE:=cQ;have HB:=dA;have DG:=dH;clear bY bZ cA cC cQ dA dH;clear ho hb hg hat))
             go_roundg k3
             case measure=>have:=HJ4.out;have:=HK2.out;have:=HK3.out;omega
             case rel=>exact⟨(y250),(wrap64 (kB - 1)),(by first|rfl|(simp;done)|(simp [*];done)),H',⟨by have:=HJ4.out;have:=HK2.out;have:=HK3.out;omega⟩,⟨gR DG.out⟩,⟨gR cK.out⟩,⟨gB bS.out⟩,⟨gB cP.out⟩,⟨gB cF.out⟩,⟨gB eE.out⟩,⟨gW HB.out⟩⟩
            ·rw [if_neg c123] at H
             have Xu:decide (0≤kB)=false:=decide_eq_false c123
             clear c123
             by_cases c134:(qY.length:Int)>10000
             ·rw [if_pos c134] at H
              have Xw:decide (10000<(qY.length:Int))=true:=decide_eq_true c134
              have Xx:decide (10000<qY.length)=true:=decide_eq_true (by omega)
              clear c134
              simp only [Option.some.injEq,Prod.mk.injEq] at H
              obtain⟨rfl,rfl,rfl,rfl⟩:=H
              obtain⟨OW,OX,DH⟩:=Kd.R_slice eK.out
              subst DH
              have hnb136:=gO.out
              have hnc136:=gM.out
              have hnb137:=iA.out
              have hnc137:=hZ.out
              have hnb138:=fW.out
              have hnc138:=kI.out
              have DI:wr.cell? ⟨dZ,0,none⟩=some (.slice none 0 0):=(aG cF.out 0).trans rfl
              have DJ:wr.cell? ⟨dZ,1,none⟩=some (.bool dC):=(aG cF.out 1).trans rfl
              have DK:=aH cF.out 0
              have DL:=aH cF.out 1
              go_wp2
              refine bodyPost_ret (results_ctt rfl _ _ dZ 31 #[.slice none 0 0,.bool true] (0,0) _ rfl (by(with_reducible repeat(first|refine aJ ?_ _|refine aK ?_|refine aI ?_ _));refine blk_put (cs:=#[.slice none 0 0,.bool dC]) ?_ 1 _ rfl;(with_reducible repeat(first|refine aJ ?_ _|refine aK ?_|refine aI ?_ _));refine blk_put (cs:=#[.slice none 0 0,.bool dC]) ?_ 0 _ rfl;(with_reducible repeat(first|refine aJ ?_ _|refine aK ?_|refine aI ?_ _));exact cF.out) Try.underlying31 rfl (by kernel_rfl)) rfl ?_
              exact⟨_,_,by first|rfl|(simp [errW_none,errW_some]<;>rfl)|(simp only [←xJ];first|rfl|(simp [errW_none,errW_some]<;>rfl))|(simp [*,errW_none,errW_some]<;>rfl),by first|exact Kd.R_nil _ _ _ _ _|exact Kd.N_nil _ _ _ _ _|exact Kd.V_nil _ _ _ _ _|exact Kd.Q_nil _ _ _ _ _|exact Kd.S_nil _ _ _ _ _,by first|exact Kd.R_nil _ _ _ _ _|exact Kd.N_nil _ _ _ _ _|exact Kd.V_nil _ _ _ _ _|exact Kd.Q_nil _ _ _ _ _|exact Kd.S_nil _ _ _ _ _,by repeat(first|(with_reducible first|exact HB.out|apply aN|apply aP|apply aO|refine aL ?_ oX.out|refine aL ?_ oY.out|refine aL ?_ oZ.out|refine aL ?_ qX.out)|exact HB.out)⟩
             ·rw [if_neg c134] at H
              have Xw:decide (10000<(qY.length:Int))=false:=decide_eq_false c134
              have Xx:decide (10000<qY.length)=false:=decide_eq_false (by omega)
              clear c134
              by_cases c140:(y244.length:Int)>10000
              ·rw [if_pos c140] at H
               have Xy:decide (10000<(y244.length:Int))=true:=decide_eq_true c140
               have Xz:decide (10000<y244.length)=true:=decide_eq_true (by omega)
               clear c140
               simp only [Option.some.injEq,Prod.mk.injEq] at H
               obtain⟨rfl,rfl,rfl,rfl⟩:=H
               obtain⟨OY,OZ,DM⟩:=Kd.R_slice eK.out
               subst DM
               obtain⟨PG,PH,DN⟩:=Kd.R_slice cK.out
               subst DN
               have hnb143:=gO.out
               have hnc143:=gM.out
               have hnb144:=iA.out
               have hnc144:=hZ.out
               have hnb145:=fW.out
               have hnc145:=kI.out
               have DO:wr.cell? ⟨dZ,0,none⟩=some (.slice none 0 0):=(aG cF.out 0).trans rfl
               have DP:wr.cell? ⟨dZ,1,none⟩=some (.bool dC):=(aG cF.out 1).trans rfl
               have DQ:=aH cF.out 0
               have DR:=aH cF.out 1
               go_wp2
               refine bodyPost_ret (results_ctt rfl _ _ dZ 31 #[.slice none 0 0,.bool true] (0,0) _ rfl (by(with_reducible repeat(first|refine aJ ?_ _|refine aK ?_|refine aI ?_ _));refine blk_put (cs:=#[.slice none 0 0,.bool dC]) ?_ 1 _ rfl;(with_reducible repeat(first|refine aJ ?_ _|refine aK ?_|refine aI ?_ _));refine blk_put (cs:=#[.slice none 0 0,.bool dC]) ?_ 0 _ rfl;(with_reducible repeat(first|refine aJ ?_ _|refine aK ?_|refine aI ?_ _));exact cF.out) Try.underlying31 rfl (by kernel_rfl)) rfl ?_
               exact⟨_,_,by first|rfl|(simp [errW_none,errW_some]<;>rfl)|(simp only [←xJ];first|rfl|(simp [errW_none,errW_some]<;>rfl))|(simp [*,errW_none,errW_some]<;>rfl),by first|exact Kd.R_nil _ _ _ _ _|exact Kd.N_nil _ _ _ _ _|exact Kd.V_nil _ _ _ _ _|exact Kd.Q_nil _ _ _ _ _|exact Kd.S_nil _ _ _ _ _,by first|exact Kd.R_nil _ _ _ _ _|exact Kd.N_nil _ _ _ _ _|exact Kd.V_nil _ _ _ _ _|exact Kd.Q_nil _ _ _ _ _|exact Kd.S_nil _ _ _ _ _,by repeat(first|(with_reducible first|exact HB.out|apply aN|apply aP|apply aO|refine aL ?_ oX.out|refine aL ?_ oY.out|refine aL ?_ oZ.out|refine aL ?_ qX.out)|exact HB.out)⟩
              ·rw [if_neg c140] at H
               have Xy:decide (10000<(y244.length:Int))=false:=decide_eq_false c140
               have Xz:decide (10000<y244.length)=false:=decide_eq_false (by omega)
               clear c140
               have H':=aM H
               clear H
               obtain⟨PI,PJ,DS⟩:=Kd.R_slice eK.out
               subst DS
               obtain⟨PK,PL,DT⟩:=Kd.R_slice cK.out
               subst DT
               go_wp2
               go_roundg k3
               case measure=>have:=HJ4.out;have:=HK2.out;have:=HK3.out;omega
               case rel=>exact⟨(qY),(y244),(dC),H',⟨by have:=HJ4.out;have:=HK2.out;have:=HK3.out;omega⟩,⟨by(with_reducible repeat(first|apply aA|apply aB|apply aC));exact Kd.R_mono eK.out (fun _ hk=>trivial)⟩,⟨gR cK.out⟩,⟨gB bS.out⟩,⟨gB cP.out⟩,⟨gB cF.out⟩,⟨gW HB.out⟩⟩
       ·rw [if_neg c58] at H
        have Vh:decide (0<(bX.length:Int))=false:=decide_eq_false c58
        have Vi:decide (0<bX.length)=false:=decide_eq_false (by omega)
        clear c58
        by_cases c149:a3<(aX.length:Int)
        ·rw [if_pos c149] at H
         have Ya:decide (a3<(aX.length:Int))=true:=decide_eq_true c149
         clear c149
         simp only [Option.some.injEq,Prod.mk.injEq] at H
         obtain⟨rfl,rfl,rfl,rfl⟩:=H
         obtain⟨PM,PN,DU⟩:=Kd.R_slice eK.out
         subst DU
         have hnb151:=jL.out
         have hnc151:=jM.out
         have hnb152:=gM.out
         have hnc152:=gO.out
         have DV:wr.cell? ⟨cY,0,none⟩=some (.slice bC aU.length bK):=(aG bS.out 0).trans rfl
         have DW:wr.cell? ⟨cY,1,none⟩=some (.slice bM aX.length bO):=(aG bS.out 1).trans rfl
         have DX:wr.cell? ⟨cY,2,none⟩=some (.int .i64 bA):=(aG bS.out 2).trans rfl
         have DY:wr.cell? ⟨cY,3,none⟩=some (.int .i64 bB):=(aG bS.out 3).trans rfl
         have DZ:wr.cell? ⟨cY,4,none⟩=some (.slice bQ aQ.length bP):=(aG bS.out 4).trans rfl
         have EA:=aH bS.out 0
         have EB:=aH bS.out 1
         have ED:=aH bS.out 2
         have EE:=aH bS.out 3
         have EF:=aH bS.out 4
         have hnb154:=iA.out
         have hnc154:=hZ.out
         have EG:wr.cell? ⟨dZ,0,none⟩=some (.slice none 0 0):=(aG cF.out 0).trans rfl
         have EH:wr.cell? ⟨dZ,1,none⟩=some (.bool dC):=(aG cF.out 1).trans rfl
         have EI:=aH cF.out 0
         have EJ:=aH cF.out 1
         go_wp2
         refine bodyPost_ret (results_ctt rfl _ _ dZ 31 #[.slice none 0 0,.bool true] (0,0) _ rfl (by(with_reducible repeat(first|refine aJ ?_ _|refine aK ?_|refine aI ?_ _));refine blk_put (cs:=#[.slice none 0 0,.bool dC]) ?_ 1 _ rfl;(with_reducible repeat(first|refine aJ ?_ _|refine aK ?_|refine aI ?_ _));refine blk_put (cs:=#[.slice none 0 0,.bool dC]) ?_ 0 _ rfl;(with_reducible repeat(first|refine aJ ?_ _|refine aK ?_|refine aI ?_ _));exact cF.out) Try.underlying31 rfl (by kernel_rfl)) rfl ?_
         exact⟨_,_,by first|rfl|(simp [errW_none,errW_some]<;>rfl)|(simp [*,errW_none,errW_some]<;>rfl),by first|exact Kd.R_nil _ _ _ _ _|exact Kd.N_nil _ _ _ _ _|exact Kd.V_nil _ _ _ _ _|exact Kd.Q_nil _ _ _ _ _|exact Kd.S_nil _ _ _ _ _,by(with_reducible repeat(first|apply aA|apply aB|apply aC));exact Kd.R_mono (aE (p:=⟨dZ,1,none⟩) (aE (p:=⟨dZ,0,none⟩) (Kd.R_types cK.out cF.out (by decide)) (fun _ hk=>hk.2) (.slice none 0 0)) (fun _ hk=>hk.2) (.bool true)) (fun _ hk=>trivial),by repeat(first|(with_reducible first|exact HB.out|apply aN|apply aP|apply aO|refine aL ?_ oX.out|refine aL ?_ oY.out|refine aL ?_ oZ.out)|exact HB.out)⟩
        ·rw [if_neg c149] at H
         have Ya:decide (a3<(aX.length:Int))=false:=decide_eq_false c149
         clear c149
         simp only [Option.some.injEq,Prod.mk.injEq] at H
         obtain⟨rfl,rfl,rfl,rfl⟩:=H
         obtain⟨PO,PQ,EK⟩:=Kd.R_slice eK.out
         subst EK
         have hnb157:=jL.out
         have hnc157:=jM.out
         have hnb158:=gM.out
         have hnc158:=gO.out
         have EL:wr.cell? ⟨cY,0,none⟩=some (.slice bC aU.length bK):=(aG bS.out 0).trans rfl
         have EN:wr.cell? ⟨cY,1,none⟩=some (.slice bM aX.length bO):=(aG bS.out 1).trans rfl
         have EO:wr.cell? ⟨cY,2,none⟩=some (.int .i64 bA):=(aG bS.out 2).trans rfl
         have EP:wr.cell? ⟨cY,3,none⟩=some (.int .i64 bB):=(aG bS.out 3).trans rfl
         have ER:wr.cell? ⟨cY,4,none⟩=some (.slice bQ aQ.length bP):=(aG bS.out 4).trans rfl
         have ES:=aH bS.out 0
         have ET:=aH bS.out 1
         have EU:=aH bS.out 2
         have EV:=aH bS.out 3
         have EW:=aH bS.out 4
         have hnb160:=iA.out
         have hnc160:=hZ.out
         have EY:wr.cell? ⟨dZ,0,none⟩=some (.slice none 0 0):=(aG cF.out 0).trans rfl
         have EZ:wr.cell? ⟨dZ,1,none⟩=some (.bool dC):=(aG cF.out 1).trans rfl
         have FA:=aH cF.out 0
         have FB:=aH cF.out 1
         go_wp2
         refine bodyPost_ret (results_ctt rfl _ _ dZ 31 #[.slice none 0 0,.bool false] (0,0) _ rfl (by(with_reducible repeat(first|refine aJ ?_ _|refine aK ?_|refine aI ?_ _));refine blk_put (cs:=#[.slice none 0 0,.bool dC]) ?_ 1 _ rfl;(with_reducible repeat(first|refine aJ ?_ _|refine aK ?_|refine aI ?_ _));refine blk_put (cs:=#[.slice none 0 0,.bool dC]) ?_ 0 _ rfl;(with_reducible repeat(first|refine aJ ?_ _|refine aK ?_|refine aI ?_ _));exact cF.out) Try.underlying31 rfl (by kernel_rfl)) rfl ?_
         exact⟨_,_,by first|rfl|(simp [errW_none,errW_some]<;>rfl)|(simp [*,errW_none,errW_some]<;>rfl),by first|exact Kd.R_nil _ _ _ _ _|exact Kd.N_nil _ _ _ _ _|exact Kd.V_nil _ _ _ _ _|exact Kd.Q_nil _ _ _ _ _|exact Kd.S_nil _ _ _ _ _,by(with_reducible repeat(first|apply aA|apply aB|apply aC));exact Kd.R_mono (aE (p:=⟨dZ,1,none⟩) (aE (p:=⟨dZ,0,none⟩) (Kd.R_types cK.out cF.out (by decide)) (fun _ hk=>hk.2) (.slice none 0 0)) (fun _ hk=>hk.2) (.bool false)) (fun _ hk=>trivial),by repeat(first|(with_reducible first|exact HB.out|apply aN|apply aP|apply aO|refine aL ?_ oX.out|refine aL ?_ oY.out|refine aL ?_ oZ.out)|exact HB.out)⟩
end Go.Proofs.Ytapjfnfengefpaa.P
end

section
namespace Go.Proofs.Ytapjfnfengefpaa.P
open Go.RowKit Go.Proofs.YtapjfnfengefpaaW.PrintWords Go.Proofs.YtapjfnfengefpaaW.PrintLast Go.Proofs.YtapjfnfengefpaaW.PrintMore
set_option linter.unusedVariables false
set_option linter.unusedSimpArgs false
def PS (bad:Nat→Prop) (W:World) (base PB:Nat) (st:List S43) (sp:List Int):Prop:=
 ∃vs vt,W.heap[PB]?=some (.cells #[vs,vt] 84 (0,0))∧base≤PB∧Kd.R k43 43 W base (fun k=>¬bad k) vs st.reverse∧Kd.R (Kd.int .i64) 3 W base (fun k=>¬bad k) vt sp
theorem PS.alloc {bad:Nat→Prop}{W:World}{base PB:Nat}{st:List S43}{sp:List Int}(h:PS bad W base PB st sp) (o:Obj):PS bad (W.alloc o) base PB st sp:=by
 obtain⟨vs,vt,h0,h1,h2,h3⟩:=h
 exact⟨vs,vt,aI h0 o,h1,aA h2 o,aA h3 o⟩
theorem PS.drew {bad:Nat→Prop}{W:World}{base PB:Nat}{st:List S43}{sp:List Int}(h:PS bad W base PB st sp):PS bad W.drew base PB st sp:=by
 obtain⟨vs,vt,h0,h1,h2,h3⟩:=h
 exact⟨vs,vt,h0,h1,aC h2,aC h3⟩
theorem PS.stack {bad:Nat→Prop}{W:World}{base PB:Nat}{vs vt vs':Value}{st':List S43}{sp:List Int}(h0:W.heap[PB]?=some (.cells #[vs,vt] 84 (0,0))) (h1:base≤PB) (h2:Kd.R k43 43 W base (fun k=>¬bad k) vs' st'.reverse) (h3:Kd.R (Kd.int .i64) 3 W base (fun k=>¬bad k) vt sp):
 PS bad (W.setCell ⟨PB,0,none⟩ vs') base PB st' sp:=
 ⟨vs',vt,blk_put h0 0 _ rfl,h1,Kd.R_set h2 h0 (by decide) 0 _,Kd.R_set h3 h0 (by decide) 0 _⟩
theorem PS.steps {bad:Nat→Prop}{W:World}{base PB:Nat}{vs vt vt':Value}{st:List S43}{sp':List Int}(h0:W.heap[PB]?=some (.cells #[vs,vt] 84 (0,0))) (h1:base≤PB) (h2:Kd.R k43 43 W base (fun k=>¬bad k) vs st.reverse) (h3:Kd.R (Kd.int .i64) 3 W base (fun k=>¬bad k) vt' sp'):
 PS bad (W.setCell ⟨PB,1,none⟩ vt') base PB st sp':=
 ⟨vs,vt',blk_put h0 1 _ rfl,h1,Kd.R_set h2 h0 (by decide) 1 _,Kd.R_set h3 h0 (by decide) 1 _⟩
theorem PS.mono {bad bad':Nat→Prop}{W:World}{base PB:Nat}{st:List S43}{sp:List Int}(h:PS bad W base PB st sp) (hb:∀k,bad' k→bad k):PS bad' W base PB st sp:=by
 obtain⟨vs,vt,h0,h1,h2,h3⟩:=h
 exact⟨vs,vt,h0,h1,Kd.R_mono h2 (fun k hk hb'=>hk (hb k hb')),Kd.R_mono h3 (fun k hk hb'=>hk (hb k hb'))⟩
theorem PS.bound {bad:Nat→Prop}{W:World}{base PB:Nat}{st:List S43}{sp:List Int}(h:PS bad W base PB st sp):PS (fun k=>bad k∨W.heap.size≤k) W base PB st sp:=by
 obtain⟨vs,vt,h0,h1,h2,h3⟩:=h
 exact⟨vs,vt,h0,h1,Kd.R_mono (Kd.R_bound h2) (fun k hk hb=>by have:=hk.2.2.1;rcases hb with h|h;exact hk.1 h;omega),Kd.R_mono (Kd.R_bound h3) (fun k hk hb=>by have:=hk.2.2.1;rcases hb with h|h;exact hk.1 h;omega)⟩
theorem PS.far {bad:Nat→Prop}{W:World}{base PB:Nat}{st:List S43}{sp:List Int}(h:PS bad W base PB st sp) {p:Addr}(hp:bad p.block) (hne:PB≠p.block) (u:Value):PS bad (W.setCell p u) base PB st sp:=by
 obtain⟨vs,vt,h0,h1,h2,h3⟩:=h
 exact⟨vs,vt,blk_far h0 hne u,h1,aE h2 (fun k hk e=>hk (e ▸ hp)) u,aE h3 (fun k hk e=>hk (e ▸ hp)) u⟩
theorem rev_last {α:Type}(x:α) (l:List α) (d:α):((x::l).reverse).getD l.length d=x:=by
 rw [List.reverse_cons,List.getD_eq_getElem?_getD,List.getElem?_append_right (by simp)];simp
theorem rev_take {α:Type}(x:α) (l:List α):((x::l).reverse).take l.length=l.reverse:=by
 rw [List.reverse_cons,List.take_append_of_le_length (by simp),List.take_of_length_le (by simp)]
set_option maxHeartbeats 4000000 in
set_option maxRecDepth 100000 in
theorem pop_any (bad:Nat→Prop) (x:S43) (st:List S43) (sp:List Int) (base PB:Nat) (W:World) (h:PS bad W base PB (x::st) sp) (hl:st.length≤1000000000):
 Calls Try.prog 52 #[.pointer (some ⟨PB,0,none⟩)] W fun e w'=>e= .returned (.agg #[.bool x.f0,.int .i64 x.f1])∧PS bad w' base PB st sp∧Kept W w' (fun k=>k=PB)∧∀B w0,B≤PB→Below B w0 W→Below B w0 w':=by
 have HW1:Aside0 (PS (fun k=>bad k∨k=W.heap.size) (W.alloc (.cells #[.bool false,.int .i64 0] 43)) base PB (x::st) sp):=⟨(PS.mono h.bound (fun k hk=>hk.imp id (fun e=>by omega))).alloc _⟩
 have HK1:Aside0 (Kept W (W.alloc (.cells #[.bool false,.int .i64 0] 43)) (fun k=>k=PB)):=⟨Kept.alloc (Kept.refl W (fun k=>k=PB)) _⟩
 have HQB:Aside0 ((W.alloc (.cells #[.bool false,.int .i64 0] 43)).heap[W.heap.size]?=some (.cells #[.bool false,.int .i64 0] 43 (0,0))):=⟨heap_alloc_new W _⟩
 have hPB:PB<W.heap.size:=by obtain⟨_,_,h0,_⟩:=h;exact bN h0
 have HBB:Aside0 (∀B w0,B≤PB→Below B w0 W→Below B w0 (W.alloc (.cells #[.bool false,.int .i64 0] 43))):=⟨fun B w0 hB hb=>hb.trans ((aN (Below.refl _ W) _).mono (by omega))⟩
 have HPB:=aM hPB
 have HL:=aM hl
 clear h hl hPB
 go_enter Try.func52,Try.ntmps52
 go_upto_region 1 with fail
 generalize W.alloc (.cells #[.bool false,.int .i64 0] 43)=W1 at HW1 HK1 HQB HBB ⊢
 generalize hQB:W.heap.size=QB at HQB HPB HW1 ⊢
 have HQW:Aside0 (W.heap.size≤QB):=⟨by omega⟩
 clear hQB
 obtain⟨vs,vt,h0,h1,h2,h3⟩:=HW1.out
 obtain⟨A,c,rfl⟩:=Kd.R_slice h2
 obtain⟨_,hle,hC⟩:=aF h2
 obtain⟨n,hn⟩:∃n,n=st.length:=⟨_,rfl⟩
 have hlen:(x::st).reverse.length=n+1:=by rw [hn];simp
 rw [hlen] at h0 h2 hle hC
 obtain⟨ad,ea,e0,e1⟩:=at_T43 hC (n:Int) (by omega) (by omega)
 have hrx:rd_T43 (x::st).reverse (n:Int)=x:=by rw [rd_T43,Int.toNat_natCast,hn];exact rev_last x st _
 rw [hrx,Int.toNat_natCast] at e0 e1
 subst ea
 obtain⟨i0_,hi0_,_⟩:=info_parts (show(Try.prog.info? 43).map (fun i=>(i.zero,i.size,i.bytes))=some (some (.agg #[.bool false,.int .i64 0]),2,16) from by kernel_rfl)
 have hcut:=cut_to (P:=Try.prog) 29 43 .i64 Try.underlying29 hi0_ (some ad) (n+1) c (n:Int) (by omega) (by omega) hle
 rw [Int.toNat_natCast] at hcut
 have q0:W1.cell? ⟨PB,0,none⟩=some (.slice (some ad) (n+1) c):=(aG h0 0).trans rfl
 have i0:(0≤(n:Int))=True:=eq_true (by omega)
 have i1:((n:Int)<(n:Int)+1)=True:=eq_true (by omega)
 have hn8:n≤1000000000:=by have:=HL.out;omega
 have H0:=aM h0
 have H1:=aM h1
 have H2:=aM h2
 have H3:=aM h3
 have HN:=aM hn
 clear h0 h1 h2 h3 hC hrx hle hlen hn hi0_ HW1
 go_upto_region 3 with fail
 have HLT1:Aside0 (QB<W1.heap.size):=⟨bN HQB.out⟩
 have HXB:Aside0 ((W1.alloc (.cells #[.bool x.f0,.int .i64 x.f1] 43)).heap[W1.heap.size]?=some (.cells #[.bool x.f0,.int .i64 x.f1] 43 (0,0))):=⟨heap_alloc_new W1 _⟩
 have H0':=aM (aI H0.out (.cells #[.bool x.f0,.int .i64 x.f1] 43))
 have HQB':=aM (aI HQB.out (.cells #[.bool x.f0,.int .i64 x.f1] 43))
 have H2':Aside0 (Kd.R k43 43 (W1.alloc (.cells #[.bool x.f0,.int .i64 x.f1] 43)) base (fun k=>¬(bad k∨k=QB)) (.slice (some ad) n c) st.reverse):=⟨aA (by have h:=Kd.R_take (m:=n) H2.out (by rw [HN.out];simp);rw [HN.out,rev_take] at h;rw [HN.out];exact h) _⟩
 have H3':=aM (aA H3.out (.cells #[.bool x.f0,.int .i64 x.f1] 43))
 have HK2:Aside0 (Kept W (W1.alloc (.cells #[.bool x.f0,.int .i64 x.f1] 43)) (fun k=>k=PB)):=⟨Kept.alloc HK1.out _⟩
 have HBB2:Aside0 (∀B w0,B≤PB→Below B w0 W→Below B w0 (W1.alloc (.cells #[.bool x.f0,.int .i64 x.f1] 43))):=⟨fun B w0 hB hb=>(HBB.out B w0 hB hb).trans ((aN (Below.refl _ W1) _).mono (by have:=HPB.out;have:=HLT1.out;omega))⟩
 generalize W1.alloc (.cells #[.bool x.f0,.int .i64 x.f1] 43)=W2 at HXB H0' HQB' H2' H3' HK2 HBB2 ⊢
 have HXN:Aside0 (QB≠W1.heap.size∧PB≠W1.heap.size∧PB≠QB):=⟨by have:=HPB.out;have:=HLT1.out;omega⟩
 generalize W1.heap.size=XB at HXB HXN ⊢
 have q0':W2.cell? ⟨PB,0,none⟩=some (.slice (some ad) (n+1) c):=(aG H0'.out 0).trans rfl
 have f0':=aH H0'.out 0
 have ne1:=HXN.out.1
 have ne2:=HXN.out.2.1
 have ne3:=HXN.out.2.2
 clear q0 e0 e1 H0 HQB H2 H3 HK1 HBB HLT1
 go_upto_region 4 with fail
 have HX3:=aM (blk_far HXB.out (p:=⟨PB,0,none⟩) (Ne.symm ne2) (.slice (some ad) n c))
 have HQ3:=aM (blk_far HQB'.out (p:=⟨PB,0,none⟩) (Ne.symm ne3) (.slice (some ad) n c))
 have HP3:Aside0 (PS (fun k=>bad k∨k=QB) (W2.setCell ⟨PB,0,none⟩ (.slice (some ad) n c)) base PB st sp):=⟨PS.stack H0'.out H1.out H2'.out H3'.out⟩
 have HK3:Aside0 (Kept W (W2.setCell ⟨PB,0,none⟩ (.slice (some ad) n c)) (fun k=>k=PB)):=⟨Kept.setCell HK2.out (.inl rfl) _⟩
 have HBB3:Aside0 (∀B w0,B≤PB→Below B w0 W→Below B w0 (W2.setCell ⟨PB,0,none⟩ (.slice (some ad) n c))):=⟨fun B w0 hB hb=>(HBB2.out B w0 hB hb).setCell hB _⟩
 generalize W2.setCell ⟨PB,0,none⟩ (.slice (some ad) n c)=W3 at HX3 HQ3 HP3 HK3 HBB3 ⊢
 have x0:W3.cell? ⟨XB,0,none⟩=some (.bool x.f0):=(aG HX3.out 0).trans rfl
 have x1:W3.cell? ⟨XB,1,none⟩=some (.int .i64 x.f1):=(aG HX3.out 1).trans rfl
 have z0:W3.cell? ⟨QB,0,none⟩=some (.bool false):=(aG HQ3.out 0).trans rfl
 have z1:W3.cell? ⟨QB,1,none⟩=some (.int .i64 0):=(aG HQ3.out 1).trans rfl
 have g0:=aH HQ3.out 0
 have g1:=aH HQ3.out 1
 clear q0' f0' HXB H0' HQB' H2' H3' HK2 HBB2
 go_wp2
 refine bodyPost_ret (results_cell_row rfl _ _ QB 43 #[.bool x.f0,.int .i64 x.f1] (0,0) _ rfl (blk_put (blk_put HQ3.out 0 _ rfl) 1 _ rfl) Try.underlying43 rfl (by kernel_rfl)) rfl ?_
 exact⟨rfl,PS.mono (PS.far (PS.far HP3.out (p:=⟨QB,0,none⟩) (.inr rfl) ne3 _) (p:=⟨QB,1,none⟩) (.inr rfl) ne3 _) (fun k hk=> .inl hk),Kept.setCell (Kept.setCell HK3.out (p:=⟨QB,0,none⟩) (.inr HQW.out) _) (p:=⟨QB,1,none⟩) (.inr HQW.out) _,fun B w0 hB hb=>((HBB3.out B w0 hB hb).setCell (p:=⟨QB,0,none⟩) (by have:=HPB.out;show B≤QB;omega) _).setCell (p:=⟨QB,1,none⟩) (by have:=HPB.out;show B≤QB;omega) _⟩
end Go.Proofs.Ytapjfnfengefpaa.P
end

section
namespace Go.Proofs.Ytapjfnfengefpaa.P
open Go.RowKit Go.Shelf Go.Proofs.YtapjfnfengefpaaW.PrintWords Go.Proofs.YtapjfnfengefpaaW.PrintLast Go.Proofs.YtapjfnfengefpaaW.PrintMore
set_option linter.unusedVariables false
set_option linter.unusedSimpArgs false
attribute [local go_sem] Oper.semAt_some
def dn (zs:List S43) (k:Nat):List (Nat×S43):=(List.range k).map fun j=>(zs.length - 1 - j,zs.getD (zs.length - 1 - j) ⟨false,0⟩)
theorem dn_succ (zs:List S43) (k:Nat):dn zs (k+1)=dn zs k++ [(zs.length - 1 - k,zs.getD (zs.length - 1 - k) ⟨false,0⟩)]:=by simp [dn,List.range_succ]
theorem dn_length (zs:List S43) (k:Nat):(dn zs k).length=k:=by simp [dn]
theorem dn_all (zs:List S43):(dn zs zs.length).map Prod.snd=zs.reverse:=by
 apply List.ext_getElem
 ·simp [dn]
 ·intro i h1 h2
  simp only [List.length_reverse] at h2
  have h3:zs.length - 1 - i<zs.length:=by omega
  simp [dn,List.getElem_reverse,h3]
def backEncs (x:Nat×S43):Array Value:=#[.int .i64 (x.1:Int),.agg #[.bool x.2.f0,.int .i64 x.2.f1]]
def BackK (n₀ Bs:Nat) (W W':World):Prop:=Below n₀ W W'∧(∀o,W.heap[Bs]?=some o→W'.heap[Bs]?=some o)
theorem backK_t {n₀ Bs:Nat}{A B C:World}(h:BackK n₀ Bs A B) (k:BackK n₀ Bs B C):BackK n₀ Bs A C:=⟨h.1.trans k.1,fun o ho=>k.2 o (h.2 o ho)⟩
set_option maxRecDepth 100000 in
set_option maxHeartbeats 2000000 in
theorem back1_in (n:Nat) (hn:1≤n) (l Bs n₀:Nat) (A:Option Addr) (c:Nat) (zs:List S43) (w0:World) (hw0:n₀=w0.heap.size) (hz:Kd.C k43 w0 A zs.length zs) (hbig:zs.length≤1000000000) (J Jx:List (Nat×S43)→World→Prop)
 (hY:∀pre x W,J pre W→pre.length<zs.length→YieldAt Fence.wide (n - 1) Try.prog l (backEncs x) W fun e W'=>
  (e= .returned (.bool true)∧J (pre++ [x]) W'∧BackK n₀ Bs W W')∨(e= .returned (.bool false)∧Jx (pre++ [x]) W'))
 (W:World) (hw:Below n₀ w0 W) (hBs:W.heap[Bs]?=some (.cells #[.slice A zs.length c] 29 (0,0))) (h0:J [] W):
 CallsIn Fence.wide n Try.prog 62 #[.func (.yield l) #[] #[],.pointer (some ⟨Bs,0,none⟩)] W fun e W'=>(∃v,e= .returned v)∧
  ((∃ys,ys.map Prod.snd=zs.reverse∧J ys W')∨(∃pre,True∧Jx pre W')):=by
 subst hw0
 refine callsIn_of_wp Try.func62 rfl trivial ?_ rfl
 simp only [Try.ntmps62,List.size_toArray,List.length_cons,List.length_nil,Nat.reduceAdd,Nat.reduceSub,Array.replicate_succ,Array.replicate_zero,List.push_toArray,List.append_toArray,List.nil_append,List.cons_append]
 have hb0:W.cell? ⟨Bs,0,none⟩=some (.slice A zs.length c):=(aG hBs 0).trans rfl
 have hwz:IntKind.i64.wrap ((zs.length:Int) - 1)=(zs.length:Int) - 1:=by rw [IntKind.wrap_i64];omega
 gi_wp2
 gi_loopw [3] (fun i wr=>∃(k:Nat) (z:Int),k≤zs.length∧i= .int .i64 z∧z=(zs.length:Int) - 1 - k∧J (dn zs k) wr∧Aside0 (Below w0.heap.size w0 wr)∧Aside0 (wr.heap[Bs]?=some (.cells #[.slice A zs.length c] 29 (0,0))))
  (fun i _=>(intOf i+1).toNat)
 case atStart=>exact⟨0,_,Nat.zero_le _,rfl,by omega,h0,⟨hw⟩,⟨hBs⟩⟩
 case round=>
  clear hb0 hwz hBs hw h0
  obtain⟨k,z,hk,rfl,hzz,hJs,BW,BB⟩:=hrel
  by_cases hlt:k<zs.length
  ·obtain⟨j,hj⟩:∃j:Nat,j=zs.length - 1 - k:=⟨_,rfl⟩
   obtain rfl:z=(j:Int):=by omega
   obtain⟨ad,ea,e0,e1⟩:=at_T43 (bD hz BW.out) (j:Int) (by omega) (by omega)
   have hrx:rd_T43 zs (j:Int)=zs.getD j ⟨false,0⟩:=by rw [rd_T43,Int.toNat_natCast];rfl
   rw [hrx,Int.toNat_natCast] at e0 e1
   have hdn:dn zs (k+1)=dn zs k++ [(j,zs.getD j ⟨false,0⟩)]:=by rw [dn_succ,hj]
   generalize zs.getD j ⟨false,0⟩=y at e0 e1 hdn
   obtain⟨fn,tmps,assign,body,hy,hR⟩:=hY _ (j,y) wr hJs (by rw [dn_length];exact hlt)
   dsimp only [backEncs] at hy
   subst ea
   have b0:wr.cell? ⟨Bs,0,none⟩=some (.slice (some ad) zs.length c):=(aG BB.out 0).trans rfl
   have z0:decide ((0:Int)≤(j:Int))=true:=decide_eq_true (by omega)
   have z1:(0≤(j:Int))=True:=eq_true (by omega)
   have z2:((j:Int)<(zs.length:Int))=True:=eq_true (by omega)
   have hwj:IntKind.i64.wrap ((j:Int) - 1)=(j:Int) - 1:=by rw [IntKind.wrap_i64];omega
   have HK:=aM (And.intro hk (And.intro hzz (And.intro hj hlt)))
   clear hk hzz hj hlt hrx hY
   gi_wp2
   refine hR.mono ?_
   rintro e W3 (⟨rfl,hJ3,hk3⟩|⟨rfl,hJx3⟩)
   ·gi_wp2
    go_roundw
    case rel=>exact⟨k+1,_,by have:=HK.out;omega,rfl,by have:=HK.out;push_cast;omega,by rw [hdn];exact hJ3,⟨BW.out.trans hk3.1⟩,⟨hk3.2 _ BB.out⟩⟩
    case measure=>simp [intOf]
   ·gi_wp2
    refine bodyPost_ret (results_none rfl _ _ _) rfl ?_
    exact⟨⟨_,rfl⟩,.inr ⟨_,trivial,hJx3⟩⟩
  ·obtain rfl:k=zs.length:=by omega
   have z0:decide ((0:Int)≤z)=false:=decide_eq_false (by omega)
   clear hY
   gi_wp2
   go_end0
   exact⟨⟨_,rfl⟩,.inl ⟨_,dn_all zs,hJs⟩⟩
theorem back_stops (n:Nat) (hn:1≤n) (Bs n₀:Nat) (A:Option Addr) (c:Nat) (zs:List S43) (w0 w:World) (hw0:n₀=w0.heap.size) (hz:Kd.C k43 w0 A zs.length zs) (hbig:zs.length≤1000000000) (hw:Below n₀ w0 w) (hBs:w.heap[Bs]?=some (.cells #[.slice A zs.length c] 29 (0,0))):
 SeqStopsK Fence.wide n Try.prog 62 #[.pointer (some ⟨Bs,0,none⟩)] backEncs (BackK n₀ Bs) (fun ys=>ys.map Prod.snd=zs.reverse) (fun _=>True) zs.length w:=fun l J Jx W hW _ _ hY h0=>
 back1_in n hn l Bs n₀ A c zs w0 hw0 hz hbig J Jx hY W (hw.trans (hW.mono (by rw [hw0];exact(by have:=hw.size;omega)))) (bF hBs hW) h0
set_option maxHeartbeats 1000000 in
theorem back_in (n:Nat) (A:Option Addr) (len cap:Nat) (w:World):
 CallsIn Fence.wide n Try.prog 59 #[.slice A len cap] w fun e w'=>e= .returned (.func (.func 62) #[] #[.pointer (some ⟨w.heap.size,0,none⟩)])∧w'=w.alloc (.cells #[.slice A len cap] 29):=by
 refine callsIn_of_wp Try.func59 rfl trivial ?_ rfl
 simp only [Try.ntmps59,List.size_toArray,List.length_cons,List.length_nil,Nat.reduceAdd,Nat.reduceSub,Array.replicate_succ,Array.replicate_zero,List.push_toArray,List.append_toArray,List.nil_append,List.cons_append]
 gi_wp2
 go_ret
 exact⟨rfl,rfl⟩
end Go.Proofs.Ytapjfnfengefpaa.P
end

section
namespace Go.Proofs.Ytapjfnfengefpaa.P
open Go.RowKit Go.Proofs.YtapjfnfengefpaaW.PrintWords Go.Proofs.YtapjfnfengefpaaW.PrintLast Go.Proofs.YtapjfnfengefpaaW.PrintMore
set_option linter.unusedVariables false
set_option linter.unusedSimpArgs false
variable {P:Program}{ops:Array Oper}{Q:Exit→Act→World→Prop}{md:Region.Mode}{S:World→Prop}{ds:List Nat}
theorem rowsIn_round (l n:Nat) {row:String}{args:Array Value}{w:World}{R:Value→World→Prop}(h:Rows P row args w R):RowsIn (Fence.wide.inRound l) n P row args w R:=
 fun c cs _=>let⟨v,w',r,s⟩:=h c cs;⟨v,w',r,stepsIn_wide.2 s⟩
theorem wpIn_of_wp_round (l n:Nat) {o:Oper}(hd:∀c,o.op≠ .defer c) {a:Act}{w:World}{K:Act→World→Prop}(h:o.wp P a w K Q):o.wpIn (Fence.wide.inRound l) n P a w K Q:=by
 refine⟨fun _ _=>trivial,?_⟩
 rw [Oper.semAt_plain (Fence.wide.inRound l) _ _ hd]
 unfold Oper.wp at h
 cases hr:(execOp a.eval o).run P w with
 |ok x w'=>
  rw [hr] at h
  cases x with
  |value v=>exact h
  |skip=>exact h
  |defer d=>exact h
  |enter f args=>exact⟨fun hh=>(by cases hh),CallsIn.inRound l (callsIn_wide.2 h)⟩
  |row r args=>exact⟨fun hh=>(by cases hh),rowsIn_round l (n - 1) h⟩
  |_=>exact h.elim
 |halt x w'=>
  rw [hr] at h
  cases x<;>first|exact h|exact h.elim
theorem wpOpIn_of (l n:Nat) (hno:¬LetsOut Q) (hd:∀o,o∈ops.toList→∀c,o.op≠ .defer c) {i:Nat}{K:Act→World→Prop}{a:Act}{w:World}(h:wpOp P ops Q i K a w):wpOpIn (Fence.wide.inRound l) n P ops Q i K a w:=by
 unfold wpOp at h
 unfold wpOpIn
 cases ho:ops[i]? with
 |none=>rw [ho] at h;exact h
 |some o=>
  rw [ho] at h
  have hm:o∈ops.toList:=by
   obtain⟨hi,e⟩:=Array.getElem?_eq_some_iff.1 ho
   rw [←e]
   exact Array.getElem_mem_toList hi
  simp only at h ⊢
  split
  ·rename_i hw
   rw [if_pos hw] at h
   rcases h with h|⟨_,h⟩
   ·exact wpIn_of_wp_round l n (hd o hm) h
   ·exact absurd h hno
  ·rename_i hw
   rw [if_neg hw] at h
   exact⟨fun _ _=>trivial,h⟩
theorem wpAnyIn_of (l n:Nat) (hno:¬LetsOut Q) (hd:∀o,o∈ops.toList→∀c,o.op≠ .defer c):∀(fuel:Nat) (listed:Array Bool) (a:Act) (w:World),wpAny P md ops Q fuel listed a w→wpAnyIn (Fence.wide.inRound l) n P md ops Q fuel listed a w
 |0,listed,a,w,h=>h
 |fuel+1,listed,a,w,h=>by
  refine⟨h.1,fun i hi=>wpOpIn_mono (fun a w=>wpAnyIn_of l n hno hd fuel _ a w) (wpOpIn_of l n hno hd (h.2 i hi))⟩
def noDeferB (ops:Array Oper):Bool:=ops.toList.all fun o=>match o.op with| .defer _=>false|_=>true
theorem noDefer_spec (h:noDeferB ops=true):∀o,o∈ops.toList→∀c,o.op≠ .defer c:=fun o ho c e=>by
 have:=List.all_eq_true.1 h o ho
 rw [e] at this
 cases this
theorem startR_ {l m:Nat}{id n:Nat}{a:Act}{w:World}(l':Array Bool) (hno:¬LetsOut Q) (hd:noDeferB ops=true) (hm:P.follows .mixedOrders=true) (hn:ops.size=n) (hl:Array.replicate n false=l') (hS:S w.drew)
 (h:S w.drew→wpAnyLast P .any ops Q S ds n l' a w.drew):(Code.region id ops true).wpIn (Fence.wide.inRound l) m P Q a w:=by
 subst hn
 subst hl
 exact wpIn_region_any hm (wpAnyIn_of l m hno (noDefer_spec hd) _ _ _ _ (wpAny_of_last _ _ _ _ (h hS)))
end Go.Proofs.Ytapjfnfengefpaa.P
end
