/- Packed texts of this claim: the walks of the functions, and their plain laws; see the claim's last text. -/
import Derived.RangeFuncNested
import Derived.RangeFuncBound
import Derived.RangeFuncCalls
import Derived.RangeFuncLeaves
import Derived.Shelf.Abstract
import Derived.WalkKit
import Derived.OwnWalkIn
import Derived.TacticsInMore
import Derived.LoopNIn
import Derived.LoopIn
import Derived.OrdersIn
import Derived.Test.YtapjfnfengefpaaKMachineDerives4
section
namespace Go.Proofs.Ytapjfnfengefpaa.P
open Go.RowKit Go.Proofs.YtapjfnfengefpaaW.PrintWords Go.Proofs.YtapjfnfengefpaaW.PrintLast Go.Proofs.YtapjfnfengefpaaW.PrintMore
set_option linter.unusedVariables false
set_option linter.unusedSimpArgs false
variable {P:Program}{ops:Array Oper}{Q:Exit→Act→World→Prop}{md:Region.Mode}{S:World→Prop}{ds:List Nat}
theorem rowsIn_round (l n:Nat) {row:String}{args:Array Value}{w:World}{R:Value→World→Prop}(h:Rows P row args w R):RowsIn (Fence.wide.inRound l) n P row args w R:=
 fun c cs _=>let⟨v,w',r,s⟩:=h c cs;⟨v,w',r,stepsIn_wide.2 s⟩
theorem wpIn_of_wp_round (l n:Nat) {o:Oper}(hd:∀c,o.op≠ .defer c) {a:Act}{w:World}{K:Act→World→Prop}(h:o.wp P a w K Q):o.wpIn (Fence.wide.inRound l) n P a w K Q:=by
 refine⟨fun _ _=>trivial,?_⟩
 rw [Oper.semAt_plain (Fence.wide.inRound l) _ _ hd]
 unfold Oper.wp at h
 cases hr:(execOp a.eval o).run P w with
 |ok x w'=>
  rw [hr] at h
  cases x with
  |value v=>exact h
  |skip=>exact h
  |defer d=>exact h
  |enter f args=>exact⟨fun hh=>(by cases hh),CallsIn.inRound l (callsIn_wide.2 h)⟩
  |row r args=>exact⟨fun hh=>(by cases hh),rowsIn_round l (n - 1) h⟩
  |_=>exact h.elim
 |halt x w'=>
  rw [hr] at h
  cases x<;>first|exact h|exact h.elim
theorem wpOpIn_of (l n:Nat) (hno:¬LetsOut Q) (hd:∀o,o∈ops.toList→∀c,o.op≠ .defer c) {i:Nat}{K:Act→World→Prop}{a:Act}{w:World}(h:wpOp P ops Q i K a w):wpOpIn (Fence.wide.inRound l) n P ops Q i K a w:=by
 unfold wpOp at h
 unfold wpOpIn
 cases ho:ops[i]? with
 |none=>rw [ho] at h;exact h
 |some o=>
  rw [ho] at h
  have hm:o∈ops.toList:=by
   obtain⟨hi,e⟩:=Array.getElem?_eq_some_iff.1 ho;rw [←e];exact Array.getElem_mem_toList hi
  simp only at h ⊢
  split
  ·rename_i hw
   rw [if_pos hw] at h;rcases h with h|⟨_,h⟩
   ·exact wpIn_of_wp_round l n (hd o hm) h
   ·exact absurd h hno
  ·rename_i hw
   rw [if_neg hw] at h;exact⟨fun _ _=>trivial,h⟩
theorem wpAnyIn_of (l n:Nat) (hno:¬LetsOut Q) (hd:∀o,o∈ops.toList→∀c,o.op≠ .defer c):∀(fuel:Nat) (listed:Array Bool) (a:Act) (w:World),wpAny P md ops Q fuel listed a w→wpAnyIn (Fence.wide.inRound l) n P md ops Q fuel listed a w
 |0,listed,a,w,h=>h
 |fuel+1,listed,a,w,h=>by
  refine⟨h.1,fun i hi=>wpOpIn_mono (fun a w=>wpAnyIn_of l n hno hd fuel _ a w) (wpOpIn_of l n hno hd (h.2 i hi))⟩
def noDeferB (ops:Array Oper):Bool:=ops.toList.all fun o=>match o.op with| .defer _=>false|_=>true
theorem noDefer_spec (h:noDeferB ops=true):∀o,o∈ops.toList→∀c,o.op≠ .defer c:=fun o ho c e=>by
 have:=List.all_eq_true.1 h o ho;rw [e] at this
 cases this
theorem startR_ {l m:Nat}{id n:Nat}{a:Act}{w:World}(l':Array Bool) (hno:¬LetsOut Q) (hd:noDeferB ops=true) (hm:P.follows .mixedOrders=true) (hn:ops.size=n) (hl:Array.replicate n false=l') (hS:S w.drew)
 (h:S w.drew→wpAnyLast P .any ops Q S ds n l' a w.drew):(Code.region id ops true).wpIn (Fence.wide.inRound l) m P Q a w:=by
 subst hn;subst hl;exact wpIn_region_any hm (wpAnyIn_of l m hno (noDefer_spec hd) _ _ _ _ (wpAny_of_last _ _ _ _ (h hS)))
end Go.Proofs.Ytapjfnfengefpaa.P
end

section
namespace Go.Proofs.Ytapjfnfengefpaa.P
open Go.RowKit Go.Shelf Go.Proofs.YtapjfnfengefpaaW.PrintWords Go.Proofs.YtapjfnfengefpaaW.PrintLast Go.Proofs.YtapjfnfengefpaaW.PrintMore
set_option linter.unusedVariables false
set_option linter.unusedSimpArgs false
attribute [local go_sem] Oper.semAt_some
def Keeps (bad:Nat→Prop) (W W':World):Prop:=∀k o,bad k→W.heap[k]?=some o→o.isCells=true→W'.heap[k]?=some o
theorem Keeps.refl (bad:Nat→Prop) (W:World):Keeps bad W W:=fun _ _ _ h _=>h
theorem Keeps.trans {bad:Nat→Prop}{A B C:World}(h:Keeps bad A B) (k:Keeps bad B C):Keeps bad A C:=fun i o hb ho hc=>k i o hb (h i o hb ho hc) hc
theorem Keeps.mono {bad bad':Nat→Prop}{A B:World}(h:Keeps bad A B) (hm:∀k,bad' k→bad k):Keeps bad' A B:=fun i o hb ho hc=>h i o (hm i hb) ho hc
theorem Keeps.below {bad:Nat→Prop}{A B:World}(h:Below A.heap.size A B):Keeps bad A B:=fun i o _ ho _=>bF ho h
theorem Keeps.grown {bad:Nat→Prop}{A B:World}{row:Option Nat}(hg:A.grownBy B row) (h:∀k,bad k→some k≠row):Keeps bad A B:=fun i o hb ho _=>(hg.block i (bN ho) (h i hb)).trans ho
theorem Keeps.set {bad:Nat→Prop}{A:World}{p:Addr}(h:¬bad p.block) (u:Value):Keeps bad A (A.setCell p u):=fun i o hb ho _=>(Below.heap_setCell A p u i (fun e=>h (e ▸ hb))).trans ho
theorem Keeps.kept {bad:Nat→Prop}{A B:World}{S:Nat→Prop}(h:Kept A B S) (hb:∀k,bad k→¬S k):Keeps bad A B:=fun i o hi ho _=>(h.2 i (bN ho) (hb i hi)).trans ho
theorem PS.other {bad:Nat→Prop}{W W':World}{base PB:Nat}{st:List S43}{sp:List Int}(h:PS bad W base PB st sp) {row:Option Nat}(hg:W.grownBy W' row) (hr:∀r,row=some r→∃o:Obj,W.heap[r]?=some o∧o.isCells=false):PS bad W' base PB st sp:=by
 obtain⟨vs,vt,h0,h1,h2,h3⟩:=h
 have hne:∀k cells q,W.heap[k]?=some (.cells cells q (0,0))→some k≠row:=fun k cells q hk e=>by
  obtain⟨o,ho,hc⟩:=hr k e.symm;rw [hk] at ho
  cases ho
  cases hc
 refine⟨vs,vt,blk_grown h0 hg (hne _ _ _ h0),h1,?_,?_⟩
 ·exact Kd.R_mono (Kd.R_grown (Kd.R_bound h2) hg (fun k hk=>by obtain⟨_,_,_,q,_,cells,hc⟩:=hk;exact hne _ _ _ hc)) (fun k hk=>hk.1)
 ·exact Kd.R_mono (Kd.R_grown (Kd.R_bound h3) hg (fun k hk=>by obtain⟨_,_,_,q,_,cells,hc⟩:=hk;exact hne _ _ _ hc)) (fun k hk=>hk.1)
theorem Keeps.other {bad:Nat→Prop}{A W W':World}(h:Keeps bad A W) {row:Option Nat}(hg:W.grownBy W' row) (hr:∀r,row=some r→∃o:Obj,W.heap[r]?=some o∧o.isCells=false):Keeps bad A W':=fun i o hb ho hc=>by
 have hX:=h i o hb ho hc;refine(hg.block i (bN hX) (fun e=>?_)).trans hX
 obtain⟨o',ho',hc'⟩:=hr i e.symm;rw [hX] at ho'
 cases ho';rw [hc] at hc'
 cases hc'
def noPanic (Q:Exit→Act→World→Prop):Exit→Act→World→Prop
 | .panic _,_,_=>False
 |e,a,w=>Q e a w
theorem noPanic_imp {Q:Exit→Act→World→Prop}:∀(e:Exit) (a:Act) (w:World),noPanic Q e a w→Q e a w
 | .panic _,_,_,h=>h.elim
 | .normal,_,_,h=>h
 | .ret,_,_,h=>h
 | .exit _,_,_,h=>h
 | .goto _,_,_,h=>h
 | .outgrown,_,_,h=>h
set_option maxHeartbeats 4000000 in
set_option maxRecDepth 100000 in
theorem expand_any (bad:Nat→Prop) (bR:Option Addr) (bS:Nat) (aU:List ByteArray) (bU:Option Addr) (bV:Nat) (aX:List (S72)) (bB:Int) (bK:Int) (cC:Option Addr) (bX:Nat) (aQ:List (S35)) (prod:Int) (st:List S43) (sp:List Int) (PB:Nat) (w0 W:World)
 (hPS:PS bad W w0.heap.size PB st sp) (hw:Below w0.heap.size w0 W) (hbad:∀k,bad k→k<W.heap.size) (hPB:¬bad PB) (hr4:Kd.C k35 w0 cC aQ.length aQ) (h0:0≤prod) (h1:prod<(aQ.length:Int))
 (hr:(rd_T35 aQ prod).f1.length≤1000000) (hst:st.length≤1000000) (hsp:sp.length≤1000000):
 Calls Try.prog 53 #[.pointer (some ⟨PB,0,none⟩),.agg #[.slice bR aU.length bS,.slice bU aX.length bV,.int .i64 bB,.int .i64 bK,.slice cC aQ.length bX],.int .i64 prod] W fun e w'=>
  e= .returned (.bool (decide (((rd_T35 aQ prod).f1++st).length≤10000) && decide ((sp++ [prod]).length≤10000)))∧PS bad w' w0.heap.size PB ((rd_T35 aQ prod).f1++st) (sp++ [prod])∧Below w0.heap.size w0 w'∧Keeps bad W w'∧W.heap.size≤w'.heap.size:=by
 obtain⟨ad,A5,c5,ea,_,e1,_,hC5⟩:=at_T35 hr4 prod h0 h1;generalize (rd_T35 aQ prod).f1=r at e1 hC5 hr ⊢;subst ea;have HW:=aM hw;have HBAD:Aside0 (∀k,(bad k∨k=W.heap.size∨k=W.heap.size+1)→k<W.heap.size+2):=⟨fun k hk=>by rcases hk with h|h|h;have:=hbad k h;omega;omega;omega⟩
 have HP1:Aside0 (PS (fun k=>bad k∨k=W.heap.size∨k=W.heap.size+1) ((W.alloc (.cells #[.pointer (some ⟨PB,0,none⟩)] 81)).alloc (.cells #[.slice bR aU.length bS,.slice bU aX.length bV,.int .i64 bB,.int .i64 bK,.slice (some ad) aQ.length bX] 26)) w0.heap.size PB st sp):=⟨((PS.mono hPS.bound (fun k hk=>by rcases hk with h|h|h;exact .inl h;exact .inr (by omega);exact .inr (by omega))).alloc _).alloc _⟩
 have hBW:Below W.heap.size W ((W.alloc (.cells #[.pointer (some ⟨PB,0,none⟩)] 81)).alloc (.cells #[.slice bR aU.length bS,.slice bU aX.length bV,.int .i64 bB,.int .i64 bK,.slice (some ad) aQ.length bX] 26)):=((Below.refl _ W).alloc (Nat.le_refl _) _).alloc (by simp) _;have HK1:Aside0 (Keeps bad W ((W.alloc (.cells #[.pointer (some ⟨PB,0,none⟩)] 81)).alloc (.cells #[.slice bR aU.length bS,.slice bU aX.length bV,.int .i64 bB,.int .i64 bK,.slice (some ad) aQ.length bX] 26))):=⟨Keeps.below hBW⟩;have HB1:Aside0 (Below w0.heap.size w0 ((W.alloc (.cells #[.pointer (some ⟨PB,0,none⟩)] 81)).alloc (.cells #[.slice bR aU.length bS,.slice bU aX.length bV,.int .i64 bB,.int .i64 bK,.slice (some ad) aQ.length bX] 26))):=⟨hw.trans (hBW.mono hw.size)⟩;have HTB:Aside0 (((W.alloc (.cells #[.pointer (some ⟨PB,0,none⟩)] 81)).alloc (.cells #[.slice bR aU.length bS,.slice bU aX.length bV,.int .i64 bB,.int .i64 bK,.slice (some ad) aQ.length bX] 26)).heap[W.heap.size]?=some (.cells #[.pointer (some ⟨PB,0,none⟩)] 81 (0,0))):=⟨aI (blk_new _ _) _⟩;have HSB:Aside0 (((W.alloc (.cells #[.pointer (some ⟨PB,0,none⟩)] 81)).alloc (.cells #[.slice bR aU.length bS,.slice bU aX.length bV,.int .i64 bB,.int .i64 bK,.slice (some ad) aQ.length bX] 26)).heap[W.heap.size+1]?=some (.cells #[.slice bR aU.length bS,.slice bU aX.length bV,.int .i64 bB,.int .i64 bK,.slice (some ad) aQ.length bX] 26 (0,0))):=⟨by have h:=blk_new (W.alloc (.cells #[.pointer (some ⟨PB,0,none⟩)] 81)) (.cells #[.slice bR aU.length bS,.slice bU aX.length bV,.int .i64 bB,.int .i64 bK,.slice (some ad) aQ.length bX] 26);rw [World.size_alloc] at h;exact h⟩;have HSZ1:Aside0 (W.heap.size+2≤((W.alloc (.cells #[.pointer (some ⟨PB,0,none⟩)] 81)).alloc (.cells #[.slice bR aU.length bS,.slice bU aX.length bV,.int .i64 bB,.int .i64 bK,.slice (some ad) aQ.length bX] 26)).heap.size):=⟨by simp⟩;have HPBN:Aside0 (¬(bad PB∨PB=W.heap.size∨PB=W.heap.size+1)):=⟨by obtain⟨_,_,hb,_⟩:=hPS;have:=bN hb;rintro(h|h|h);exact hPB h;omega;omega⟩;have E1:=aM e1;have HC5:=aM hC5;have HR:=aM hr;have HST:=aM hst;have HSP:=aM hsp;have HPR:=aM (And.intro h0 h1);clear hPS hw hbad hPB hr4 h0 h1 hr hst hsp e1 hC5 hBW;refine(callsIn_wide (n:=5)).1 (callsIn_of_wp_marks Try.func53 rfl trivial (wpIn_mono (wpIn_wide.2 ?_) noPanic_imp) rfl)
 simp only [Try.ntmps53,List.size_toArray,List.length_cons,List.length_nil,Nat.reduceAdd,Nat.reduceSub,Array.replicate_succ,Array.replicate_zero,List.push_toArray,List.append_toArray,List.nil_append,List.cons_append]
 obtain⟨Q',hQ'⟩:∃Q',Q'=bodyPostM Fence.wide 5 Try.prog Try.f53 fun e w'=>
  e= .returned (.bool (decide ((r++st).length≤10000) && decide ((sp++ [prod]).length≤10000)))∧PS bad w' w0.heap.size PB (r++st) (sp++ [prod])∧Below w0.heap.size w0 w'∧Keeps bad W w'∧W.heap.size≤w'.heap.size:=⟨_,rfl⟩
 rw [←hQ'];have HQ':=aM hQ';clear hQ'
 go_upto_region 1 with fail
 have HZ1:Aside0 (W.heap.size≤((W.alloc (.cells #[.pointer (some ⟨PB,0,none⟩)] 81)).alloc (.cells #[.slice bR aU.length bS,.slice bU aX.length bV,.int .i64 bB,.int .i64 bK,.slice (some ad) aQ.length bX] 26)).heap.size):=⟨by have:=HSZ1.out;omega⟩;generalize ((W.alloc (.cells #[.pointer (some ⟨PB,0,none⟩)] 81)).alloc (.cells #[.slice bR aU.length bS,.slice bU aX.length bV,.int .i64 bB,.int .i64 bK,.slice (some ad) aQ.length bX] 26))=w1 at HP1 HK1 HB1 HTB HSB HSZ1 HZ1 ⊢;generalize hSBn:W.heap.size+1=SB at HP1 HSB HBAD HPBN ⊢;generalize hTBn:W.heap.size=TB at HP1 HTB HBAD HSZ1 HPBN ⊢;have HNE:Aside0 (TB≠SB):=⟨by omega⟩;clear hSBn hTBn;have hbad1:∀k,w1.heap.size≤k→¬(bad k∨k=TB∨k=SB):=fun k hk h=>by have:=HBAD.out k h;have:=HSZ1.out;omega
 have HBN:=aM hbad1;clear hbad1;obtain⟨vs,vt,h0,h1,h2,h3⟩:=HP1.out;have H0:=aM h0;have H1:=aM h1;have H2:=aM h2;have H3:=aM h3;clear h0 h1 h2 h3 HP1;refine start_ (n:=11) (S:=fun w'=>w'.cell? ⟨TB,0,none⟩=some (.pointer (some ⟨PB,0,none⟩))∧w'.cell? ⟨PB,1,none⟩=some vt) (ds:= [10]) #[false,false,false,false,false,false,false,false,false,false,false] (by kernel_rfl) rfl rfl ⟨(aG HTB.out 0).trans rfl,(aG H0.out 1).trans rfl⟩ (fun hHeld=>?_)
 refine pure_ (i:=5) (N:=some 14) (v:=?_) (a':=?_) #[false,false,false,false,false,true,false,false,false,false,false] rfl rfl (by kernel_rfl) (fun _ _ _ h=>h) (Or.inl ⟨by rfl,?_⟩) ?_ ?_
 rotate_left;(intro w';go_simp;with_reducible rfl);rotate_left;(simp only [pq];rfl)
 refine take_ (i:=0) (N:=some 9) (v:=?_) (a':=?_) #[true,false,false,false,false,true,false,false,false,false,false] rfl rfl (by kernel_rfl) (fun _ _ _ h=>h) (Or.inl ⟨by rfl,?_⟩) hHeld ?_ ?_
 rotate_left
 ·rintro w' ⟨s0,s1⟩
  go_simp
  with_reducible rfl
 rotate_left
 ·simp only [pq]
  rfl
 refine take_ (i:=1) (N:=some 10) (v:=?_) (a':=?_) #[true,true,false,false,false,true,false,false,false,false,false] rfl rfl (by kernel_rfl) (fun _ _ _ h=>h) (Or.inl ⟨by rfl,?_⟩) hHeld ?_ ?_
 rotate_left
 ·rintro w' ⟨s0,s1⟩
  go_simp
  with_reducible rfl
 rotate_left
 ·simp only [pq]
  rfl
 refine pure_ (i:=2) (N:=some 11) (v:=?_) (a':=?_) #[true,true,true,false,false,true,false,false,false,false,false] rfl rfl (by kernel_rfl) (fun _ _ _ h=>h) (Or.inl ⟨by rfl,?_⟩) ?_ ?_
 rotate_left;(intro w';go_simp;with_reducible rfl);rotate_left;(simp only [pq];rfl)
 refine pure_ (i:=3) (N:=some 12) (v:=?_) (a':=?_) #[true,true,true,true,false,true,false,false,false,false,false] rfl rfl (by kernel_rfl) (fun _ _ _ h=>h) (Or.inl ⟨by rfl,?_⟩) ?_ ?_
 rotate_left;(intro w';go_simp;with_reducible rfl);rotate_left;(simp only [pq];rfl)
 refine take_ (i:=4) (N:=some 13) (v:=?_) (a':=?_) #[true,true,true,true,true,true,false,false,false,false,false] rfl rfl (by kernel_rfl) (fun _ _ _ h=>h) (Or.inl ⟨by rfl,?_⟩) hHeld ?_ ?_
 rotate_left
 ·rintro w' ⟨s0,s1⟩
  go_simp
  with_reducible rfl
 rotate_left
 ·simp only [pq]
  rfl
 refine one_ (i:=6) (N:=some 15) #[true,true,true,true,true,true,true,false,false,false,false] rfl rfl (by kernel_rfl) (by decide) (fun K hK=>?_)
 refine value_ (w1:=?_) (v:=?_) (by rfl) rfl ?_ ?_
 rotate_left 2
 ·go_simp
  constructor
  ·rfl
  ·rfl
 refine hK.out _ _ ⟨(aG (aI HTB.out _) 0).trans rfl,(aG (aI H0.out _) 1).trans rfl⟩ (fun hHeld=>?_)
 clear hK K;refine norm_ (a':=?_) ?_ ?_
 rotate_left
 ·show Act.put _ (some 15) _=_
  simp only [pq];rfl
 refine one_ (i:=7) (N:=some 16) #[true,true,true,true,true,true,true,true,false,false,false] rfl rfl (by kernel_rfl) (by decide) (fun K hK=>?_)
 rw [show(w1.alloc (.cells #[.int .i64 prod] 3)).drew=w1.drew.alloc (.cells #[.int .i64 prod] 3) from rfl];refine Kd.R_append_step (Kd.int .i64) (w0:=w1.drew) w0.heap.size (by rfl) (.tmp 13) (.tmp 15) 32 3 (.int .i64 0) 8 rfl Try.underlying32 miInt rfl (by decide) (by omega) vt sp prod [.int .i64 prod] (fun k=>¬(bad k∨k=TB∨k=SB)) (fun _=>False) rfl rfl rfl (fun _ hk=>hk.elim) HBN.out (aC H3.out) (Below.refl _ _) HB1.out.size (by have:=HSP.out;omega) ?_
 intro v1 w2 ho hb hg hat;obtain⟨As,ls,cs_,rfl⟩:∃An ln cn,v1= .slice An ln cn:=by obtain⟨An,cn,e⟩:=Kd.R_slice ho;exact⟨An,_,cn,e⟩
 have H02:=aM (blk_grown (aK H0.out) hg (Kd.R_ne H3.out H0.out (by decide)));have HTB2:=aM (blk_grown (aK HTB.out) hg (Kd.R_away H3.out (fun k hk e=>hk (.inr (.inl e)))));have HSB2:=aM (blk_grown (aK HSB.out) hg (Kd.R_away H3.out (fun k hk e=>hk (.inr (.inr e)))));have H22:=aM (Kd.R_over (aC H2.out) (aC H3.out) (by decide) hg);have JJ:=aM ho;have HB2:Aside0 (Below w0.heap.size w0 w2):=⟨(aO HB1.out).trans hb⟩;have HK2:Aside0 (Keeps bad W w2):=⟨(show Keeps bad W w1.drew from HK1.out).trans (Keeps.grown hg (fun k hk=>Kd.R_away H3.out (fun j hj e=>hj (.inl (e ▸ hk)))))⟩;have HS2:=aM hg.size;have f3:=aH H02.out 1;clear ho hb hg hat;refine hK.out _ _ ⟨(aG HTB2.out 0).trans rfl,(aG H02.out 1).trans rfl⟩ (fun hHeld=>?_)
 clear hK K;refine norm_ (a':=?_) ?_ ?_
 rotate_left
 ·show Act.put _ (some 16) _=_
  simp only [pq];rfl
 refine pure_ (i:=8) (N:=some 17) (v:=?_) (a':=?_) #[true,true,true,true,true,true,true,true,true,false,false] rfl rfl (by kernel_rfl) (fun _ _ _ h=>h) (Or.inl ⟨by rfl,?_⟩) ?_ ?_
 rotate_left;(intro w';go_simp;with_reducible rfl);rotate_left;(simp only [pq];rfl)
 refine pure_ (i:=9) (N:=some 18) (v:=?_) (a':=?_) #[true,true,true,true,true,true,true,true,true,true,false] rfl rfl (by kernel_rfl) (fun _ _ _ h=>h) (Or.inl ⟨by rfl,?_⟩) ?_ ?_
 rotate_left;(intro w';go_simp;with_reducible rfl);rotate_left;(simp only [pq];rfl)
 refine last_ (i:=10) (N:=none) #[true,true,true,true,true,true,true,true,true,true,true] rfl rfl (by kernel_rfl) (by decide) (fun K hK=>?_)
 refine skip_ (w1:=?_) (by rfl) rfl ?_ ?_
 rotate_left
 ·go_simp
  rfl
 refine hK.out _ _ ?_
 clear hK K;refine done_ (by kernel_rfl) ?_
 have HP3:Aside0 (PS (fun k=>bad k∨k=TB∨k=SB) (w2.setCell ⟨PB,1,none⟩ (.slice As ls cs_)) w0.heap.size PB st (sp++ [prod])):=⟨PS.steps H02.out H1.out H22.out JJ.out⟩;have HTB3:=aM (blk_far HTB2.out (p:=⟨PB,1,none⟩) (fun e=>HPBN.out (.inr (.inl e.symm))) (.slice As ls cs_));have HSB3:=aM (blk_far HSB2.out (p:=⟨PB,1,none⟩) (fun e=>HPBN.out (.inr (.inr e.symm))) (.slice As ls cs_));have HB3:Aside0 (Below w0.heap.size w0 (w2.setCell ⟨PB,1,none⟩ (.slice As ls cs_))):=⟨HB2.out.setCell H1.out _⟩;have HK3:Aside0 (Keeps bad W (w2.setCell ⟨PB,1,none⟩ (.slice As ls cs_))):=⟨HK2.out.trans (Keeps.set (p:=⟨PB,1,none⟩) (fun h=>HPBN.out (.inl h)) _)⟩;have HBN3:Aside0 (∀k,(w2.setCell ⟨PB,1,none⟩ (.slice As ls cs_)).heap.size≤k→¬(bad k∨k=TB∨k=SB)):=⟨fun k hk=>HBN.out k (Nat.le_trans HS2.out (by simpa [World.setCell] using hk))⟩;have HZ3:Aside0 (W.heap.size≤(w2.setCell ⟨PB,1,none⟩ (.slice As ls cs_)).heap.size):=⟨Nat.le_trans (Nat.le_trans HZ1.out HS2.out) (by simp [World.setCell])⟩;generalize w2.setCell ⟨PB,1,none⟩ (.slice As ls cs_)=w3 at HZ3 HP3 HTB3 HSB3 HB3 HK3 HBN3 ⊢;clear f3 H0 HTB HSB H2 H3 H02 HTB2 HSB2 H22 JJ HB2 HK2 HS2 HBN HBAD HSZ1 HK1 HB1;have q4:w3.cell? ⟨SB,4,none⟩=some (.slice (some ad) aQ.length bX):=(aG HSB3.out 4).trans rfl;have e1:=(HB3.out.cell (World.block_lt_of_cell? _ _ E1.out)).trans E1.out;have b0:(0≤prod)=True:=eq_true HPR.out.1;have b1:(prod<(aQ.length:Int))=True:=eq_true HPR.out.2;have hcb:=(callsIn_wide (n:=5)).1 (back_in 5 A5 r.length c5 w3);have PB5:=aM hcb;clear hcb
 go_wp2_with (first|(go_at_call 59;(with_reducible refine PB5.out.mono ?_);rintro e w4 ⟨rfl,rfl⟩;clear q4 e1))
 have HBW4:Aside0 (Below w3.heap.size w3 (w3.alloc (.cells #[.slice A5 r.length c5] 29))):=⟨aN (Below.refl _ w3) _⟩;have HBS4:Aside0 ((w3.alloc (.cells #[.slice A5 r.length c5] 29)).heap[w3.heap.size]?=some (.cells #[.slice A5 r.length c5] 29 (0,0))):=⟨heap_alloc_new w3 _⟩;have HP4:Aside0 (PS (fun k=>(bad k∨k=TB∨k=SB)∨k=w3.heap.size) (w3.alloc (.cells #[.slice A5 r.length c5] 29)) w0.heap.size PB st (sp++ [prod])):=⟨(PS.mono HP3.out.bound (fun k hk=>hk.imp id (fun e=>by omega))).alloc _⟩;have HSZ4:Aside0 (w3.heap.size<(w3.alloc (.cells #[.slice A5 r.length c5] 29)).heap.size):=⟨by simp⟩;have HPB4:Aside0 (¬((bad PB∨PB=TB∨PB=SB)∨PB=w3.heap.size)):=⟨by obtain⟨_,_,hb,_⟩:=HP3.out;have:=bN hb;rintro(h|h);exact HPBN.out h;omega⟩;have HTB4:=aM (bF HTB3.out HBW4.out);have HB4:Aside0 (Below w0.heap.size w0 (w3.alloc (.cells #[.slice A5 r.length c5] 29))):=⟨HB3.out.trans (HBW4.out.mono HB3.out.size)⟩;have HK4:Aside0 (Keeps bad W (w3.alloc (.cells #[.slice A5 r.length c5] 29))):=⟨HK3.out.trans (Keeps.below HBW4.out)⟩
 have HBN4:Aside0 (∀k,(w3.alloc (.cells #[.slice A5 r.length c5] 29)).heap.size≤k→¬((bad k∨k=TB∨k=SB)∨k=w3.heap.size)):=⟨fun k hk h=>by
  have h2:=HSZ4.out;rcases h with h|h
  ·exact HBN3.out k (by omega) h
  ·omega⟩
 have HZ4:Aside0 (W.heap.size≤(w3.alloc (.cells #[.slice A5 r.length c5] 29)).heap.size):=⟨by rw [World.size_alloc];have:=HZ3.out;omega⟩;generalize (w3.alloc (.cells #[.slice A5 r.length c5] 29))=w4 at HZ4 HBW4 HBS4 HP4 HSZ4 HTB4 HB4 HK4 HBN4 ⊢;generalize w3.heap.size=BS at HBS4 HP4 HSZ4 HPB4 HBN4 ⊢;clear HBW4 HP3 HTB3 HSB3 HB3 HK3 HBN3 PB5 b0 b1;have h4n:w0.heap.size≤w4.heap.size:=HB4.out.size;refine(wpIn_wide (n:=5)).1 ?_
 refine wpIn_rangeFunc_ownH (F:=Fence.wide) (n:=5) rfl (by omega) (gf:=62) (lb:=#[.pointer (some ⟨BS,0,none⟩)]) rfl trivial (enters_of Try.func62 (by kernel_rfl) rfl)
  (back_stops 4 (by omega) BS w0.heap.size A5 c5 r w0 w4 rfl HC5.out (by have:=HR.out;omega) HB4.out HBS4.out) (fun h k=>backK_t h k)
  (fun Wx l o o' hl ho hc hw=>⟨belowK_b h4n Wx l o o' hl ho hc hw,fun ob hob=>(World.putObj_heap_other (by have:=HSZ4.out;omega)).trans hob⟩) (Below.refl _ _) (fun _=>rfl)
  (fun pre Wx=>(PS (fun k=>(bad k∨k=TB∨k=SB)∨k=BS) Wx w0.heap.size PB ((pre.map Prod.snd).reverse++st) (sp++ [prod])∧Keeps (fun k=>(bad k∨k=TB∨k=SB)∨k=BS) w4 Wx)∧(Below w0.heap.size w0 Wx∧w4.heap.size≤Wx.heap.size))
  (fun _ _ _=>False)
  (OwnFrom.and (fun pre X Y row hs hg hrow=>⟨PS.other hs.1 hg (fun r e=>(hrow r e).2),Keeps.other hs.2 hg (fun r e=>(hrow r e).2)⟩) (OwnFrom.and (ownFrom_below (Nat.le_refl _) h4n) (fun _ X Y row hs hg _=>Nat.le_trans hs hg.size)))
  (fun _ _ _ _ _ hs _ _=>hs)
  ⟨⟨HP4.out,Keeps.refl _ _⟩,HB4.out,Nat.le_refl _⟩
  (fun x a' Wx=>∃Bx st',PS (fun k=>((bad k∨k=TB∨k=SB)∨k=BS)∨k=Bx) Wx w0.heap.size PB st' (sp++ [prod])∧Wx.heap[Bx]?=some (.cells #[.bool x.2.f0,.int .i64 x.2.f1] 43 (0,0))∧a'={tmps:=#[.pointer (some ⟨PB,0,none⟩),.agg #[.slice bR aU.length bS,.slice bU aX.length bV,.int .i64 bB,.int .i64 bK,.slice (some ad) aQ.length bX],.int .i64 prod,.pointer (some ⟨TB,0,none⟩),.pointer (some ⟨SB,0,none⟩),undef,.bool false,undef,.pointer (some ⟨Bx,0,none⟩),.pointer (some ⟨PB,0,none⟩),.pointer (some ⟨PB,0,none⟩),.pointer (some ⟨PB,0,none⟩),.pointer (some ⟨PB,1,none⟩),vt,.int .i64 prod,.slice (some ⟨w1.heap.size,0,none⟩) 1 1,.slice As ls cs_,.pointer (some ⟨PB,0,none⟩),.pointer (some ⟨PB,1,none⟩),.pointer (some ⟨SB,4,none⟩),.slice (some ad) aQ.length bX,.int .i64 prod,.pointer (some (ad.add (prod.toNat * 2))),.pointer (some ⟨(ad.add (prod.toNat * 2)).block,(ad.add (prod.toNat * 2)).off+1,none⟩),.slice A5 r.length c5,.func (.func 62) #[] #[.pointer (some ⟨BS,0,none⟩)],.int .i64 (x.1:Int),.agg #[.bool x.2.f0,.int .i64 x.2.f1],undef,undef,undef,undef,undef,undef,undef,undef,undef,undef,undef,undef,undef,undef,undef,undef,undef,undef,undef,undef,undef,undef,undef,undef],defers:= []})
  (fun x a' _ X Y row hs hg hrow=>by
   obtain⟨Bx,st',hps,hb,e⟩:=hs;refine⟨Bx,st',PS.other hps hg (fun r e=>(hrow r e).2),blk_grown hb hg (fun e'=>?_),e⟩
   obtain⟨_,o,ho,hc⟩:=hrow Bx e'.symm;rw [hb] at ho
   cases ho
   cases hc) ?assign ?body ?done ?stop
 case assign=>
  rintro l pre x Wx K ⟨⟨hP,hKp⟩,hB,hsz⟩ hK
  have HSZx:=aM hsz;clear hsz;have HPx:=aM hP;have HKx:=aM hKp;have HBx:=aM hB;clear hP hKp hB
  dsimp only [backEncs]
  gi_wp2
  exact hK _ _ ((KeepsOthers.alloc _ _).from _) ⟨(Below.refl _ Wx).alloc HBx.out.size _,fun o ho=>aI ho _⟩ ⟨⟨HPx.out.alloc _,HKx.out.trans (Keeps.below (aN (Below.refl _ Wx) _))⟩,HBx.out.alloc HBx.out.size _,by rw [World.size_alloc];have:=HSZx.out;omega⟩ ⟨Wx.heap.size,_,(PS.mono HPx.out.bound (fun k hk=>hk.imp id (fun e=>by omega))).alloc _,heap_alloc_new Wx _,rfl⟩
 case body=>
  rintro l pre x a' Wx hl ⟨rl,hrl⟩ ⟨⟨hP,hKp⟩,hB,hsz⟩ ⟨Bx,st',hP',hBx,rfl⟩ hlen
  have hT:=hKp TB _ (.inl (.inr (.inl rfl))) HTB4.out rfl;obtain⟨vs,vt',h0,h1,h2,h3⟩:=hP
  have hnB:some Bx≠vs.ownBlock:=by
   obtain⟨vs2,vt2,h0',_,h2',_⟩:=hP';rw [h0] at h0';injection h0' with h0'
   injection h0' with h0'
   injection h0' with h0'
   injection h0' with e1 _
   subst e1;exact Kd.R_away h2' (fun k hk e=>hk (.inr e))
  have HNB:=aM hnB;clear hnB hP';have t0:Wx.cell? ⟨TB,0,none⟩=some (.pointer (some ⟨PB,0,none⟩)):=(aG hT 0).trans rfl;have p0:Wx.cell? ⟨PB,0,none⟩=some vs:=(aG h0 0).trans rfl;have x0:Wx.cell? ⟨Bx,0,none⟩=some (.bool x.2.f0):=(aG hBx 0).trans rfl;have x1:Wx.cell? ⟨Bx,1,none⟩=some (.int .i64 x.2.f1):=(aG hBx 1).trans rfl;have HKp:=aM hKp;have HBx:=aM hB;have H0:=aM h0;have H1x:=aM h1;have H2:=aM h2;have H3:=aM h3;have HT:=aM hT;have HLEN:=aM hlen;have HSZx:Aside0 (w4.heap.size≤Wx.heap.size):=⟨hsz⟩;clear hsz hKp hB h0 h1 h2 h3 hT hlen hl hrl t0 p0 x0 x1;have HBxx:=aM hBx;clear hBx;refine wpIn_block ?_
  refine startR_ (n:=11) (S:=fun w'=>w'.cell? ⟨TB,0,none⟩=some (.pointer (some ⟨PB,0,none⟩))∧w'.cell? ⟨PB,0,none⟩=some vs∧w'.cell? ⟨Bx,0,none⟩=some (.bool x.2.f0)∧w'.cell? ⟨Bx,1,none⟩=some (.int .i64 x.2.f1)) (ds:= [10]) #[false,false,false,false,false,false,false,false,false,false,false] (fun h=>by obtain⟨_,_,h⟩:=h;exact h) (by kernel_rfl) (by kernel_rfl) rfl rfl ⟨(aG HT.out 0).trans rfl,(aG H0.out 0).trans rfl,(aG HBxx.out 0).trans rfl,(aG HBxx.out 1).trans rfl⟩ (fun hHeld=>?_)
  refine take_ (i:=0) (N:=some 28) (v:=?_) (a':=?_) #[true,false,false,false,false,false,false,false,false,false,false] rfl rfl (by kernel_rfl) (fun _ _ _ h=>h) (Or.inl ⟨by rfl,?_⟩) hHeld ?_ ?_
  rotate_left
  ·rintro w' ⟨s0,s1,s2,s3⟩
   go_simp
   with_reducible rfl
  rotate_left
  ·simp only [pq]
   rfl
  refine take_ (i:=1) (N:=some 29) (v:=?_) (a':=?_) #[true,true,false,false,false,false,false,false,false,false,false] rfl rfl (by kernel_rfl) (fun _ _ _ h=>h) (Or.inl ⟨by rfl,?_⟩) hHeld ?_ ?_
  rotate_left
  ·rintro w' ⟨s0,s1,s2,s3⟩
   go_simp
   with_reducible rfl
  rotate_left
  ·simp only [pq]
   rfl
  refine pure_ (i:=2) (N:=some 30) (v:=?_) (a':=?_) #[true,true,true,false,false,false,false,false,false,false,false] rfl rfl (by kernel_rfl) (fun _ _ _ h=>h) (Or.inl ⟨by rfl,?_⟩) ?_ ?_
  rotate_left;(intro w';go_simp;with_reducible rfl);rotate_left;(simp only [pq];rfl)
  refine pure_ (i:=3) (N:=some 31) (v:=?_) (a':=?_) #[true,true,true,true,false,false,false,false,false,false,false] rfl rfl (by kernel_rfl) (fun _ _ _ h=>h) (Or.inl ⟨by rfl,?_⟩) ?_ ?_
  rotate_left;(intro w';go_simp;with_reducible rfl);rotate_left;(simp only [pq];rfl)
  refine take_ (i:=4) (N:=some 32) (v:=?_) (a':=?_) #[true,true,true,true,true,false,false,false,false,false,false] rfl rfl (by kernel_rfl) (fun _ _ _ h=>h) (Or.inl ⟨by rfl,?_⟩) hHeld ?_ ?_
  rotate_left
  ·rintro w' ⟨s0,s1,s2,s3⟩
   go_simp
   with_reducible rfl
  rotate_left
  ·simp only [pq]
   rfl
  refine take_ (i:=5) (N:=some 33) (v:=?_) (a':=?_) #[true,true,true,true,true,true,false,false,false,false,false] rfl rfl (by kernel_rfl) (fun _ _ _ h=>h) (Or.inl ⟨by rfl,?_⟩) hHeld ?_ ?_
  rotate_left
  ·rintro w' ⟨s0,s1,s2,s3⟩
   go_simp
   with_reducible rfl
  rotate_left
  ·simp only [pq]
   rfl
  refine one_ (i:=6) (N:=some 34) #[true,true,true,true,true,true,true,false,false,false,false] rfl rfl (by kernel_rfl) (by decide) (fun K hK=>?_)
  refine value_ (w1:=?_) (v:=?_) (by rfl) rfl ?_ ?_
  rotate_left 2
  ·go_simp
   constructor
   ·rfl
   ·rfl
  refine hK.out _ _ ⟨(aG (aI HT.out _) 0).trans rfl,(aG (aI H0.out _) 0).trans rfl,(aG (aI HBxx.out _) 0).trans rfl,(aG (aI HBxx.out _) 1).trans rfl⟩ (fun hHeld=>?_)
  clear hK K;refine norm_ (a':=?_) ?_ ?_
  rotate_left
  ·show Act.put _ (some 34) _=_
   simp only [pq];rfl
  refine one_ (i:=7) (N:=some 35) #[true,true,true,true,true,true,true,true,false,false,false] rfl rfl (by kernel_rfl) (by decide) (fun K hK=>?_)
  rw [show(Wx.alloc (.cells #[.bool x.2.f0,.int .i64 x.2.f1] 43)).drew=Wx.drew.alloc (.cells #[.bool x.2.f0,.int .i64 x.2.f1] 43) from rfl];refine Kd.R_append_step k43 (w0:=Wx.drew) w0.heap.size (by rfl) (.tmp 32) (.tmp 34) 29 43 (.agg #[.bool false,.int .i64 0]) 16 rfl Try.underlying29 info43 rfl (by decide) (by omega) vs _ x.2 [.bool x.2.f0,.int .i64 x.2.f1] (fun k=>¬((bad k∨k=TB∨k=SB)∨k=BS)) (fun _=>False) rfl rfl (k43_mkM _ _ _ x.2) (fun _ hk=>hk.elim) (fun k hk=>HBN4.out k (Nat.le_trans HSZx.out hk)) (aC H2.out) (Below.refl _ _) HBx.out.size (by have:=HR.out;have:=HST.out;have:=HLEN.out;simp only [List.length_reverse,List.length_append,List.length_map];omega) ?_
  intro v1 w5 ho hb hg hat;obtain⟨Aq,lq,cq,rfl⟩:∃An ln cn,v1= .slice An ln cn:=by obtain⟨An,cn,e⟩:=Kd.R_slice ho;exact⟨An,_,cn,e⟩
  have H05:=aM (blk_grown (aK H0.out) hg (Kd.R_ne H2.out H0.out (by decide)));have H35:=aM (Kd.R_over (aC H3.out) (aC H2.out) (by decide) hg);have GU:=aM ho;have HB5:Aside0 (Below w0.heap.size Wx w5):=⟨(aO (Below.refl _ Wx)).trans hb⟩;have HK5:Aside0 (Keeps (fun k=>(bad k∨k=TB∨k=SB)∨k=BS) Wx w5):=⟨(show Keeps _ Wx Wx.drew from Keeps.refl _ _).trans (Keeps.grown hg (fun k hk=>Kd.R_away H2.out (fun j hj e=>hj (e ▸ hk))))⟩;have HG5:Aside0 (KeepsOthers Wx w5):=⟨(KeepsOthers.drew Wx).trans (KeepsOthers.of_grownBy hg (fun j o hj ho'=>by obtain⟨cells,hc⟩:=Kd.R_typed H2.out j hj;rw [show Wx.drew.heap[j]?=Wx.heap[j]? from rfl,hc] at ho';cases ho';rfl))⟩;have HT5:=aM (blk_grown (aK HT.out) hg (Kd.R_away H2.out (fun k hk e=>hk (.inl (.inr (.inl e))))));have HBx5:=aM (blk_grown (aK HBxx.out) hg HNB.out);have f5:=aH H05.out 0;clear ho hb hg hat;refine hK.out _ _ ⟨(aG HT5.out 0).trans rfl,(aG H05.out 0).trans rfl,(aG HBx5.out 0).trans rfl,(aG HBx5.out 1).trans rfl⟩ (fun hHeld=>?_)
  clear hK K;refine norm_ (a':=?_) ?_ ?_
  rotate_left
  ·show Act.put _ (some 35) _=_
   simp only [pq];rfl
  refine pure_ (i:=8) (N:=some 36) (v:=?_) (a':=?_) #[true,true,true,true,true,true,true,true,true,false,false] rfl rfl (by kernel_rfl) (fun _ _ _ h=>h) (Or.inl ⟨by rfl,?_⟩) ?_ ?_
  rotate_left;(intro w';go_simp;with_reducible rfl);rotate_left;(simp only [pq];rfl)
  refine pure_ (i:=9) (N:=some 37) (v:=?_) (a':=?_) #[true,true,true,true,true,true,true,true,true,true,false] rfl rfl (by kernel_rfl) (fun _ _ _ h=>h) (Or.inl ⟨by rfl,?_⟩) ?_ ?_
  rotate_left;(intro w';go_simp;with_reducible rfl);rotate_left;(simp only [pq];rfl)
  refine last_ (i:=10) (N:=none) #[true,true,true,true,true,true,true,true,true,true,true] rfl rfl (by kernel_rfl) (by decide) (fun K hK=>?_)
  refine skip_ (w1:=?_) (by rfl) rfl ?_ ?_
  rotate_left
  ·go_simp
   rfl
  refine hK.out _ _ ?_
  clear hK K;refine done_ (by kernel_rfl) ?_
  have hBS:=HKp.out BS _ (.inr rfl) HBS4.out rfl
  have hst2:Kd.R k43 43 w5 w0.heap.size (fun k=>¬((bad k∨k=TB∨k=SB)∨k=BS)) (.slice Aq lq cq) (((pre++ [x]).map Prod.snd).reverse++st).reverse:=by
   have h:=GU.out;have e:(((pre++ [x]).map Prod.snd).reverse++st).reverse=(((pre.map Prod.snd).reverse++st).reverse)++ [x.2]:=by simp
   rw [e];exact h
  exact⟨(HG5.out.trans (KeepsOthers.setCell _ _ _)).from _,⟨HB5.out.setCell (p:=⟨PB,0,none⟩) H1x.out _,fun o ho=>by
   rw [hBS] at ho
   cases ho;exact(HK5.out.trans (Keeps.set (p:=⟨PB,0,none⟩) HPB4.out _)) BS _ (.inr rfl) hBS rfl⟩,⟨PS.stack H05.out H1x.out hst2 H35.out,HKp.out.trans (HK5.out.trans (Keeps.set (p:=⟨PB,0,none⟩) HPB4.out _))⟩,(HBx.out.trans HB5.out).setCell (p:=⟨PB,0,none⟩) H1x.out _,by have h1:=HSZx.out;have h2:=HG5.out.size;have h3:w5.heap.size≤(w5.setCell ⟨PB,0,none⟩ (.slice Aq lq cq)).heap.size:=(by simp [World.setCell]);omega⟩
 case done=>
  rintro D ys Wd hD hys ⟨⟨hP,hKp⟩,hB,hsz⟩ hK
  have hT:=hKp TB _ (.inl (.inr (.inl rfl))) HTB4.out rfl;obtain⟨vs,vt',h0,h1,h2,h3⟩:=hP;rw [hys,List.reverse_reverse] at h2;obtain⟨Av,cv,rfl⟩:=Kd.R_slice h2;obtain⟨Au,cu,rfl⟩:=Kd.R_slice h3;have t0:Wd.cell? ⟨TB,0,none⟩=some (.pointer (some ⟨PB,0,none⟩)):=(aG hT 0).trans rfl;have p0:=(aG h0 0);have p1:=(aG h0 1)
  have hrow:∀q,(some D:Option Nat)=some q→∃o:Obj,Wd.heap[q]?=some o∧o.isCells=false:=fun q e=>by
   injection e with e
   subst e;exact⟨_,hK,rfl⟩
  have HPd:=aM (PS.mono (PS.other ⟨_,_,h0,h1,h2,h3⟩ (grownBy_putObj' Wd D (.deferred none)) hrow) (fun k (hk:bad k)=> .inl (.inl hk)));have HBd:=aM (hB.trans (belowK_b (w:=w4) h4n Wd D _ (.deferred none) hD hK rfl rfl));have HKd:=aM (HK4.out.trans (Keeps.mono (Keeps.other hKp (grownBy_putObj' Wd D (.deferred none)) hrow) (fun k (hk:bad k)=> .inl (.inl hk))));have HD:=aM hK;have HZd:Aside0 (W.heap.size≤(Wd.putObj D (.deferred none)).heap.size):=⟨Nat.le_trans (Nat.le_trans HZ4.out hsz) (grownBy_putObj' Wd D (.deferred none)).size⟩;have HL1:Aside0 ((r++st).length=r.length+st.length):=⟨List.length_append⟩;have HL2:Aside0 ((sp++ [prod]).length=sp.length+1):=⟨by simp⟩;clear hK hrow hB hKp h0 h1 h2 h3 hT hsz hys hD;go_wp2
  ·show Q' .ret _ _
   rw [HQ'.out];refine⟨by simp,.inl ⟨_,_,rfl,run_takeDeferred HD.out,_,results_tmp rfl _ _ _,?_,HPd.out,HBd.out,HKd.out,HZd.out⟩⟩
   rename_i hl
   rw [HL1.out,decide_eq_true (by omega:r.length+st.length≤10000)];simp
   omega
  ·show Q' .ret _ _
   rw [HQ'.out];refine⟨by simp,.inl ⟨_,_,rfl,run_takeDeferred HD.out,_,results_tmp rfl _ _ _,?_,HPd.out,HBd.out,HKd.out,HZd.out⟩⟩
   rename_i hl
   rw [HL1.out,decide_eq_false (by omega:¬r.length+st.length≤10000)];rfl
 case stop=>
  rintro D c pre Wx _ _ h _
  exact h.elim
end Go.Proofs.Ytapjfnfengefpaa.P
end

section
namespace Go.Proofs.Ytapjfnfengefpaa.P
open Go.RowKit Go.Proofs.YtapjfnfengefpaaW.PrintWords Go.Proofs.YtapjfnfengefpaaW.PrintLast Go.Proofs.YtapjfnfengefpaaW.PrintMore
set_option linter.unusedVariables false
set_option linter.unusedSimpArgs false
def mEnt (tb:List (List Int)) (x look:Int):Int:=(tb.getD x.toNat []).getD look.toNat 0
def mFeed (nt:Nat) (ps:List S35) (tb:List (List Int)) (look:Int):Nat→List S43→List Int→Option (Int×List S43×List Int)
 |0,_,_=>none
 |k+1,[],sp=>some (if look<(nt:Int) then 80 else 0,[],sp)
 |k+1,x::st,sp=>
  if x.f0=true∧x.f1=look then some (0,st,sp)
  else if x.f0=true∨mEnt tb x.f1 look<0 then some (80,st,sp)
  else if decide (((rd_T35 ps (mEnt tb x.f1 look)).f1++st).length≤10000) && decide ((sp++ [mEnt tb x.f1 look]).length≤10000) then mFeed nt ps tb look k ((rd_T35 ps (mEnt tb x.f1 look)).f1++st) (sp++ [mEnt tb x.f1 look])
  else some (2,(rd_T35 ps (mEnt tb x.f1 look)).f1++st,[])
def TabOk (nn nt:Nat) (ps:List S35) (tb:List (List Int)):Prop:=tb.length=nn∧∀i,i<tb.length→(tb.getD i []).length=nt+1∧∀q∈tb.getD i [],q<(ps.length:Int)
theorem rowsOk_spec {nt:Nat}{ps:List S35}:∀(tb:List (List Int)) (r:Nat),rowsOk nt ps r tb=true→∀i,i<tb.length→(tb.getD i []).length=nt+1∧∀q∈tb.getD i [],okEnt ps ((r+i:Nat):Int) q=true
 | [],_,_,i,h=>by simp at h
 |row::tb,r,h,i,hi=>by
  simp only [rowsOk,Bool.and_eq_true,decide_eq_true_eq] at h;obtain⟨⟨h1,h2⟩,h3⟩:=h
  cases i with
  |zero=>exact⟨by simpa using h1,fun q hq=>by rw [Nat.add_zero];exact List.all_eq_true.1 h2 q (by simpa using hq)⟩
  |succ i=>
   have:=rowsOk_spec tb (r+1) h3 i (by simp at hi;omega);rw [show r+1+i=r+(i+1) by omega] at this
   simpa using this
theorem tbRight_tab {nn nt:Nat}{ps:List S35}{tb:List (List Int)}(h:tbRight nn nt ps tb=true):TabOk nn nt ps tb:=by
 simp only [tbRight,Bool.and_eq_true,decide_eq_true_eq] at h;obtain⟨_,_,h1,h2⟩:=h;refine⟨h1,fun i hi=>?_⟩
 obtain⟨h3,h4⟩:=rowsOk_spec tb 0 h2 i hi;refine⟨h3,fun q hq=>?_⟩
 have h5:=h4 q hq;simp only [okEnt,Bool.and_eq_true,decide_eq_true_eq] at h5;exact h5.1.2
theorem tbRight_prods {nn nt:Nat}{ps:List S35}{tb:List (List Int)}(h:tbRight nn nt ps tb=true):ps.all (okProd nn nt)=true:=by
 simp only [tbRight,Bool.and_eq_true] at h;exact h.1
set_option maxHeartbeats 4000000 in
set_option maxRecDepth 100000 in
theorem feed_any (bad:Nat→Prop) (bR:Option Addr) (bS:Nat) (aU:List ByteArray) (bU:Option Addr) (bV:Nat) (aX:List (S72)) (bB:Int) (bK:Int) (cC:Option Addr) (bX:Nat) (aQ:List (S35)) (A1:Option Addr) (c1:Nat) (tb:List (List Int)) (look:Int) (st:List S43) (sp:List Int) (PB:Nat) (w0 W:World) (k:Nat) (R:Int×List S43×List Int)
 (hPS:PS bad W w0.heap.size PB st sp) (hbad:∀k,bad k→k<W.heap.size) (hPB:¬bad PB) (hw:Below w0.heap.size w0 W) (hr4:Kd.C k35 w0 cC aQ.length aQ) (ht:Kd.C (Kd.slice 3 (Kd.int .i64)) w0 A1 tb.length tb)
 (hps:aQ.all (okProd aU.length aX.length)=true) (htab:TabOk aU.length aX.length aQ tb) (hst:st.all (okSym aU.length aX.length)=true) (h0:0≤look) (h1:look≤(aX.length:Int)) (hsz:∀p∈aQ,p.f1.length≤1000000) (hl:st.length≤10000) (hs:sp.length≤10000)
 (h:mFeed aX.length aQ tb look k st sp=some R):
 Calls Try.prog 38 #[.pointer (some ⟨PB,0,none⟩),.agg #[.slice bR aU.length bS,.slice bU aX.length bV,.int .i64 bB,.int .i64 bK,.slice cC aQ.length bX],.slice A1 tb.length c1,.int .i64 look] W fun e w'=>
  e= .returned (.int .i64 R.1)∧PS bad w' w0.heap.size PB R.2.1 R.2.2∧Below w0.heap.size w0 w'∧Keeps bad W w':=by
 have HR4:=aM hr4;have HT:=aM ht;have HPS:=aM hps;have HTAB:=aM htab;have HLK:=aM (And.intro h0 h1);have HSZ:=aM hsz;have HP1:Aside0 (PS (fun k=>bad k∨k=W.heap.size) (W.alloc (.cells #[.slice bR aU.length bS,.slice bU aX.length bV,.int .i64 bB,.int .i64 bK,.slice cC aQ.length bX] 26)) w0.heap.size PB st sp):=⟨(PS.mono hPS.bound (fun k hk=>hk.imp id (fun e=>by omega))).alloc _⟩;have HB1:Aside0 (Below w0.heap.size w0 (W.alloc (.cells #[.slice bR aU.length bS,.slice bU aX.length bV,.int .i64 bB,.int .i64 bK,.slice cC aQ.length bX] 26))):=⟨hw.trans ((aN (Below.refl _ W) _).mono hw.size)⟩;have HSB:Aside0 ((W.alloc (.cells #[.slice bR aU.length bS,.slice bU aX.length bV,.int .i64 bB,.int .i64 bK,.slice cC aQ.length bX] 26)).heap[W.heap.size]?=some (.cells #[.slice bR aU.length bS,.slice bU aX.length bV,.int .i64 bB,.int .i64 bK,.slice cC aQ.length bX] 26 (0,0))):=⟨heap_alloc_new W _⟩;have HPBN:Aside0 (¬(bad PB∨PB=W.heap.size)):=⟨by obtain⟨_,_,hb,_⟩:=hPS;have:=bN hb;rintro(h|h);exact hPB h;omega⟩;have HKW:Aside0 (Keeps bad W (W.alloc (.cells #[.slice bR aU.length bS,.slice bU aX.length bV,.int .i64 bB,.int .i64 bK,.slice cC aQ.length bX] 26))):=⟨Keeps.below (aN (Below.refl _ W) _)⟩;have HBAD:=aM hbad;have HALL:=aM hst;have HL:=aM (And.intro hl hs);have HF:=aM h;clear hPS hbad hPB hw hr4 ht hps htab hst h0 h1 hsz hl hs h;go_enter Try.func38,Try.ntmps38
 go_wp2
 generalize W.alloc (.cells #[.slice bR aU.length bS,.slice bU aX.length bV,.int .i64 bB,.int .i64 bK,.slice cC aQ.length bX] 26)=w1 at HP1 HB1 HSB HKW ⊢;have HSBW:Aside0 (∀k,bad k∨k=W.heap.size→k<w1.heap.size):=⟨fun k hk=>by have:=bN HSB.out;rcases hk with h|h;have:=HBAD.out k h;omega;omega⟩
 generalize W.heap.size=SB at HP1 HSB HPBN HSBW ⊢
 go_loopg [9] k (fun kq v9 wr=>∃(st:List S43) (sp:List Int),Aside0 (mFeed aX.length aQ tb look kq st sp=some R)∧Aside0 (PS (fun k=>bad k∨k=SB) wr w0.heap.size PB st sp)∧Aside0 (Keeps (fun k=>bad k∨k=SB) w1 wr)∧Aside0 (Below w0.heap.size w0 wr∧w1.heap.size≤wr.heap.size)∧Aside0 (st.all (okSym aU.length aX.length)=true)∧Aside0 (st.length≤10000∧sp.length≤10000))
 case atStart=>exact⟨st,sp,HF,HP1,⟨Keeps.refl _ _⟩,⟨HB1.out,Nat.le_refl _⟩,HALL,HL⟩
 case round=>
  clear HF HP1 HB1 HALL HL;obtain⟨st,sp,HF,HP,HK,HBZ,HALL,HL⟩:=hrel;have HB:=aM HBZ.out.1;have HW1r:=aM HBZ.out.2;clear HBZ
  cases gk with
  |zero=>exact absurd HF.out (by simp [mFeed])
  |succ gk=>
   obtain⟨vs,vt,g0,g1,g2,g3⟩:=HP.out;obtain⟨Av,cv,rfl⟩:=Kd.R_slice g2;obtain⟨Au,cu,rfl⟩:=Kd.R_slice g3
   cases st with
   |nil=>
    have p0:wr.cell? ⟨PB,0,none⟩=some (.slice Av 0 cv):=(aG g0 0).trans rfl;have hS:=HK.out SB _ (.inr rfl) HSB.out rfl;have q1:wr.cell? ⟨SB,1,none⟩=some (.slice bU aX.length bV):=(aG hS 1).trans rfl;have hf:=HF.out;rw [mFeed] at hf;have HF2:=aM (Option.some.inj hf).symm;clear hf hS g0 g1 g2 g3 HF
    by_cases hlk:look<(aX.length:Int)
    ·have d1:decide (look<(aX.length:Int))=true:=decide_eq_true hlk
     have HQ:=aM (if_pos hlk:(if look<(aX.length:Int) then(80:Int) else 0)=80);clear d1;go_wp2
     go_ret
     exact⟨by rw [HF2.out,HQ.out];rfl,by rw [HF2.out];exact PS.mono HP.out (fun _ h=> .inl h),HB.out,HKW.out.trans (Keeps.mono HK.out (fun _ h=> .inl h))⟩
    ·have HQ:=aM (if_neg hlk:(if look<(aX.length:Int) then(80:Int) else 0)=0)
     go_wp2
     go_ret
     exact⟨by rw [HF2.out,HQ.out];rfl,by rw [HF2.out];exact PS.mono HP.out (fun _ h=> .inl h),HB.out,HKW.out.trans (Keeps.mono HK.out (fun _ h=> .inl h))⟩
   |cons x st=>
    have p0:wr.cell? ⟨PB,0,none⟩=some (.slice Av (x::st).reverse.length cv):=(aG g0 0).trans rfl;have hlen:(x::st).reverse.length=st.length+1:=by simp
    rw [hlen] at p0;have PP:=aM (pop_any (fun k=>bad k∨k=SB) x st sp w0.heap.size PB wr HP.out (by have:=HL.out.1;simp only [List.length_cons] at this;omega));have H1:=aM g1;obtain⟨n,hn⟩:∃n,n=st.length:=⟨_,rfl⟩;rw [←hn] at p0;have hn0:decide ((0:Int)<(n:Int)+1)=true:=decide_eq_true (by omega);clear g0 g1 g2 g3 hlen HP hn
    go_upto_region 3 with(first|(go_at_call 52;(with_reducible refine PP.out.mono ?_);rintro e w2 ⟨rfl,hp2,hk2,hb2⟩;have HP2:=aM hp2;have HK2:Aside0 (Keeps (fun k=>bad k∨k=SB) w1 w2):=⟨HK.out.trans (Keeps.kept hk2 (fun k hk e=>HPBN.out (by rw [←e];exact hk)))⟩;have HB2:=aM (hb2 _ _ H1.out HB.out);have HW12:Aside0 (w1.heap.size≤w2.heap.size):=⟨Nat.le_trans HW1r.out hk2.1⟩;clear hp2 hk2 hb2 PP))
    have HXB:Aside0 ((w2.alloc (.cells #[.bool x.f0,.int .i64 x.f1] 43)).heap[w2.heap.size]?=some (.cells #[.bool x.f0,.int .i64 x.f1] 43 (0,0))):=⟨heap_alloc_new w2 _⟩;have HP3:=aM (HP2.out.alloc (.cells #[.bool x.f0,.int .i64 x.f1] 43));have HK3:Aside0 (Keeps (fun k=>bad k∨k=SB) w1 (w2.alloc (.cells #[.bool x.f0,.int .i64 x.f1] 43))):=⟨HK2.out.trans (Keeps.below (aN (Below.refl _ w2) _))⟩;have HB3:Aside0 (Below w0.heap.size w0 (w2.alloc (.cells #[.bool x.f0,.int .i64 x.f1] 43))):=⟨HB2.out.trans ((aN (Below.refl _ w2) _).mono HB2.out.size)⟩;have HW13:Aside0 (w1.heap.size≤(w2.alloc (.cells #[.bool x.f0,.int .i64 x.f1] 43)).heap.size):=⟨by rw [World.size_alloc];have:=HW12.out;omega⟩;generalize w2.alloc (.cells #[.bool x.f0,.int .i64 x.f1] 43)=w3 at HXB HP3 HK3 HB3 HW13 ⊢;generalize w2.heap.size=XB at HXB ⊢;have x0:w3.cell? ⟨XB,0,none⟩=some (.bool x.f0):=(aG HXB.out 0).trans rfl;have x1:w3.cell? ⟨XB,1,none⟩=some (.int .i64 x.f1):=(aG HXB.out 1).trans rfl;clear p0 hn0 HP2 HK2 HB2 HK HB;have hf:=HF.out;rw [mFeed] at hf;have hxok:=List.all_eq_true.1 HALL.out x List.mem_cons_self;have HALL2:Aside0 (st.all (okSym aU.length aX.length)=true):=⟨by have:=HALL.out;rw [List.all_cons,Bool.and_eq_true] at this;exact this.2⟩;have HL2:Aside0 (st.length+1≤10000∧sp.length≤10000):=⟨by have:=HL.out;simpa using this⟩;obtain⟨xf,xn⟩:=x;simp only at x0 x1 hf hxok;have HXOK:=aM hxok
    cases xf with
    |true=>
     by_cases hxl:xn=look
     ·rw [if_pos ⟨rfl,hxl⟩] at hf
      have HF2:=aM (Option.some.inj hf).symm;subst hxl;clear hf hxok HF HALL HL;go_wp2
      go_ret
      exact⟨by rw [HF2.out];rfl,by rw [HF2.out];exact PS.mono HP3.out (fun _ h=> .inl h),HB3.out,HKW.out.trans (Keeps.mono HK3.out (fun _ h=> .inl h))⟩
     ·rw [if_neg (fun h=>hxl h.2),if_pos (.inl rfl)] at hf
      have HF2:=aM (Option.some.inj hf).symm;have y1:(xn==look)=false:=by simp [hxl]
      have y2:decide (xn=look)=false:=decide_eq_false hxl;clear hf hxok HF HALL HL;go_wp2
      go_ret
      exact⟨by rw [HF2.out];rfl,by rw [HF2.out];exact PS.mono HP3.out (fun _ h=> .inl h),HB3.out,HKW.out.trans (Keeps.mono HK3.out (fun _ h=> .inl h))⟩
    |false=>
     rw [if_neg (fun h=>by cases h.1)] at hf;obtain⟨hx0,hx1⟩:0≤xn∧xn<(aU.length:Int):=by simpa [okSym] using hxok
     have htl:=HTAB.out.1;obtain⟨hrl,hrq⟩:=HTAB.out.2 xn.toNat (by omega);obtain⟨adt,A9,c9,eat,ht0,_,hC9⟩:=at_rowi (bD HT.out HB3.out) xn hx0 (by omega);obtain⟨adr,ear,hr0⟩:=Kd.at_int hC9 look HLK.out.1 (by have:=HLK.out.2;omega);rw [show rd (tb.getD xn.toNat []) look=mEnt tb xn look from rfl] at hr0
     have hrm:mEnt tb xn look<(aQ.length:Int):=hrq _ (by
      unfold mEnt
      generalize tb.getD xn.toNat []=row at hrl ⊢;rw [List.getD_eq_getElem?_getD,List.getElem?_eq_getElem (by have:=HLK.out;omega)];exact List.getElem_mem _)
     generalize mEnt tb xn look=q at hf hr0 hrm;obtain⟨n9,hn9⟩:∃n9,n9=(tb.getD xn.toNat []).length:=⟨_,rfl⟩;rw [←hn9] at ht0 hrl;subst eat;subst ear;have b4:(0≤xn)=True:=eq_true hx0;have b5:(xn<(tb.length:Int))=True:=eq_true (by omega);have b6:(0≤look)=True:=eq_true HLK.out.1;have b7:(look<(n9:Int))=True:=eq_true (by have:=HLK.out.2;omega);have HT0:=aM ht0;have HR0:=aM hr0;have HRM:=aM hrm
     by_cases hq:q<0
     ·rw [if_pos (.inr hq)] at hf
      have HF2:=aM (Option.some.inj hf).symm;have y1:decide (q<0)=true:=decide_eq_true hq;clear hf hxok HF HALL HL hrm hn9 hrl hrq htl hx0 hx1 hC9 hq;go_wp2
      go_ret
      exact⟨by rw [HF2.out];rfl,by rw [HF2.out];exact PS.mono HP3.out (fun _ h=> .inl h),HB3.out,HKW.out.trans (Keeps.mono HK3.out (fun _ h=> .inl h))⟩
     ·rw [if_neg (fun h=>by rcases h with h|h;cases h;exact hq h)] at hf
      have y1:decide (q<0)=false:=decide_eq_false hq;have HF2:=aM hf;have HQ:=aM (by omega:0≤q);clear hf hxok HF HALL HL hrm hn9 hrl hrq htl hx0 hx1 hC9 hq
      go_upto_region 7 with fail
      have HSX:=aM (HK3.out SB _ (.inr rfl) HSB.out rfl);have X1:=aM x1
      have hpl:(rd_T35 aQ q).f1.length≤1000000∧okProd aU.length aX.length (rd_T35 aQ q)=true:=by
       have hm:rd_T35 aQ q∈aQ:=by
        rw [rd_T35,List.getD_eq_getElem?_getD,List.getElem?_eq_getElem (by have:=HQ.out;have:=HRM.out;omega)];exact List.getElem_mem _
       exact⟨HSZ.out _ hm,List.all_eq_true.1 HPS.out _ hm⟩
      have PE:=aM (expand_any (fun k=>bad k∨k=SB) bR bS aU bU bV aX bB bK cC bX aQ q st sp PB w0 w3.drew HP3.out.drew (aO HB3.out) (fun k hk=>Nat.lt_of_lt_of_le (HSBW.out k hk) (by have:=HW13.out;exact this)) HPBN.out HR4.out HQ.out HRM.out hpl.1 (by have:=HL2.out;omega) (by have:=HL2.out;omega));have HPL:=aM hpl;generalize hbb:(decide (((rd_T35 aQ q).f1++st).length≤10000) && decide ((sp++ [q]).length≤10000))=tt at HF2 PE;have HBB:=aM hbb;clear hbb x0 x1 hpl;refine start_ (n:=12) (S:=fun w'=>w'.cell? ⟨SB,0,none⟩=some (.slice bR aU.length bS)∧w'.cell? ⟨SB,1,none⟩=some (.slice bU aX.length bV)∧w'.cell? ⟨SB,2,none⟩=some (.int .i64 bB)∧w'.cell? ⟨SB,3,none⟩=some (.int .i64 bK)∧w'.cell? ⟨SB,4,none⟩=some (.slice cC aQ.length bX)∧w'.cell? ⟨XB,1,none⟩=some (.int .i64 xn)∧w'.cell? (adt.add xn.toNat)=some (.slice (some adr) n9 c9)∧w'.cell? (adr.add look.toNat)=some (.int .i64 q)) (ds:= [10]) #[F,F,F,F,F,F,F,F,F,F,F,F] (by kernel_rfl) rfl rfl ⟨(aG HSX.out 0).trans rfl,(aG HSX.out 1).trans rfl,(aG HSX.out 2).trans rfl,(aG HSX.out 3).trans rfl,(aG HSX.out 4).trans rfl,X1.out,HT0.out,HR0.out⟩ (fun hHeld=>?_)
      refine pure_ (i:=0) (N:=some 35) (v:=?_) (a':=?_) #[T,F,F,F,F,F,F,F,F,F,F,F] rfl rfl (by kernel_rfl) (fun _ _ _ h=>h) (Or.inl ⟨by rfl,?_⟩) ?_ ?_
      rotate_left;(intro w';go_simp;with_reducible rfl);rotate_left;(simp only [pq];rfl)
      refine pure_ (i:=2) (N:=some 37) (v:=?_) (a':=?_) #[T,F,T,F,F,F,F,F,F,F,F,F] rfl rfl (by kernel_rfl) (fun _ _ _ h=>h) (Or.inl ⟨by rfl,?_⟩) ?_ ?_
      rotate_left;(intro w';go_simp;with_reducible rfl);rotate_left;(simp only [pq];rfl)
      refine pure_ (i:=3) (N:=some 38) (v:=?_) (a':=?_) #[T,F,T,T,F,F,F,F,F,F,F,F] rfl rfl (by kernel_rfl) (fun _ _ _ h=>h) (Or.inl ⟨by rfl,?_⟩) ?_ ?_
      rotate_left;(intro w';go_simp;with_reducible rfl);rotate_left;(simp only [pq];rfl)
      refine pure_ (i:=7) (N:=some 42) (v:=?_) (a':=?_) #[T,F,T,T,F,F,F,T,F,F,F,F] rfl rfl (by kernel_rfl) (fun _ _ _ h=>h) (Or.inl ⟨by rfl,?_⟩) ?_ ?_
      rotate_left;(intro w';go_simp;with_reducible rfl);rotate_left;(simp only [pq];rfl)
      refine take_ (i:=1) (N:=some 36) (v:=?_) (a':=?_) #[T,T,T,T,F,F,F,T,F,F,F,F] rfl rfl (by kernel_rfl) (fun _ _ _ h=>h) (Or.inl ⟨by rfl,?_⟩) hHeld ?_ ?_
      rotate_left
      ·rintro w' ⟨s0,s1,s2,s3,s4,s5,s6,s7⟩
       go_simp
       with_reducible rfl
      rotate_left
      ·simp only [pq]
       rfl
      refine take_ (i:=4) (N:=some 39) (v:=?_) (a':=?_) #[T,T,T,T,T,F,F,T,F,F,F,F] rfl rfl (by kernel_rfl) (fun _ _ _ h=>h) (Or.inl ⟨by rfl,?_⟩) hHeld ?_ ?_
      rotate_left
      ·rintro w' ⟨s0,s1,s2,s3,s4,s5,s6,s7⟩
       go_simp
       with_reducible rfl
      rotate_left
      ·simp only [pq]
       rfl
      refine pure_ (i:=5) (N:=some 40) (v:=?_) (a':=?_) #[T,T,T,T,T,T,F,T,F,F,F,F] rfl rfl (by kernel_rfl) (fun _ _ _ h=>h) (Or.inl ⟨by rfl,?_⟩) ?_ ?_
      rotate_left;(intro w';go_simp;with_reducible rfl);rotate_left;(simp only [pq];rfl)
      refine take_ (i:=6) (N:=some 41) (v:=?_) (a':=?_) #[T,T,T,T,T,T,T,T,F,F,F,F] rfl rfl (by kernel_rfl) (fun _ _ _ h=>h) (Or.inl ⟨by rfl,?_⟩) hHeld ?_ ?_
      rotate_left
      ·rintro w' ⟨s0,s1,s2,s3,s4,s5,s6,s7⟩
       go_simp
       with_reducible rfl
      rotate_left
      ·simp only [pq]
       rfl
      refine pure_ (i:=8) (N:=some 43) (v:=?_) (a':=?_) #[T,T,T,T,T,T,T,T,T,F,F,F] rfl rfl (by kernel_rfl) (fun _ _ _ h=>h) (Or.inl ⟨by rfl,?_⟩) ?_ ?_
      rotate_left;(intro w';go_simp;with_reducible rfl);rotate_left;(simp only [pq];rfl)
      refine take_ (i:=9) (N:=some 44) (v:=?_) (a':=?_) #[T,T,T,T,T,T,T,T,T,T,F,F] rfl rfl (by kernel_rfl) (fun _ _ _ h=>h) (Or.inl ⟨by rfl,?_⟩) hHeld ?_ ?_
      rotate_left
      ·rintro w' ⟨s0,s1,s2,s3,s4,s5,s6,s7⟩
       go_simp
       with_reducible rfl
      rotate_left
      ·simp only [pq]
       rfl
      refine last_ (i:=10) (N:=some 45) #[T,T,T,T,T,T,T,T,T,T,T,F] rfl rfl (by kernel_rfl) (by decide) (fun K hK=>?_)
      refine goes_ Try.func53 (by kernel_rfl) rfl #[.pointer (some ⟨PB,0,none⟩),.agg #[.slice bR aU.length bS,.slice bU aX.length bV,.int .i64 bB,.int .i64 bK,.slice cC aQ.length bX],.int .i64 q] (by rfl) rfl rfl (by simp only [List.map_toArray,List.map_cons,List.map_nil];rfl) ?_
      with_reducible refine(PE.out).mono ?_
      rintro e w4 ⟨rfl,hp4,hb4,hk4,hz4⟩
      refine⟨_,rfl,?_⟩
      have HP4:=aM hp4;have HB4:=aM hb4;have HW14:Aside0 (w1.heap.size≤w4.heap.size):=⟨Nat.le_trans HW13.out hz4⟩;have HK4:Aside0 (Keeps (fun k=>bad k∨k=SB) w1 w4):=⟨(show Keeps _ w1 w3.drew from HK3.out).trans hk4⟩;clear hp4 hb4 hk4 hz4;refine hK.out _ _ ?_
      clear hK K;refine norm_ (a':=?_) ?_ ?_
      rotate_left
      ·show Act.put _ (some 45) _=_
       simp only [pq];rfl
      refine pure_ (i:=11) (N:=some 46) (v:=?_) (a':=?_) #[T,T,T,T,T,T,T,T,T,T,T,T] rfl rfl (by kernel_rfl) (fun _ _ _ h=>h) (Or.inl ⟨by rfl,?_⟩) ?_ ?_
      rotate_left;(intro w';go_simp;with_reducible rfl);rotate_left;(simp only [pq];rfl)
      refine done_ (by kernel_rfl) ?_
      have HALL3:Aside0 (((rd_T35 aQ q).f1++st).all (okSym aU.length aX.length)=true):=⟨by
       rw [List.all_append,Bool.and_eq_true];refine⟨?_,HALL2.out⟩
       have:=HPL.out.2;simp only [okProd,Bool.and_eq_true] at this;exact this.2⟩
      generalize (rd_T35 aQ q).f1=pr at HF2 HP4 HALL3 HBB;clear b4 b5 b6 b7
      cases tt with
      |true=>
       have HL3:Aside0 ((pr++st).length≤10000∧(sp++ [q]).length≤10000):=⟨by have:=HBB.out;simpa only [Bool.and_eq_true,decide_eq_true_eq] using this⟩;have HF3:Aside0 (mFeed aX.length aQ tb look gk (pr++st) (sp++ [q])=some R):=⟨by have:=HF2.out;rwa [if_pos rfl] at this⟩;clear HF2 HBB;go_wp2
       go_roundg gk
       case measure=>omega
       case rel=>exact⟨pr++st,sp++ [q],HF3,HP4,HK4,⟨HB4.out,HW14.out⟩,HALL3,HL3⟩
      |false=>
       have HF3:Aside0 (R=(2,pr++st,[])):=⟨by have:=HF2.out;rw [if_neg (by simp)] at this;exact(Option.some.inj this).symm⟩;obtain⟨vs4,vt4,g0,g1,g2,g3⟩:=HP4.out;obtain⟨Au4,cu4,rfl⟩:=Kd.R_slice g3;have p1:=aG g0 1;have f1:=aH g0 1;have G0:=aM g0;have G1:=aM g1;have G2:=aM g2;clear HF2 HBB g0 g1 g2 g3;go_wp2
       go_ret
       exact⟨by rw [HF3.out];rfl,by rw [HF3.out];exact PS.mono (PS.steps G0.out G1.out G2.out (Kd.R_nil _ _ _ _ _)) (fun _ h=> .inl h),HB4.out.setCell (p:=⟨PB,1,none⟩) G1.out _,HKW.out.trans ((Keeps.mono HK4.out (fun _ h=> .inl h)).trans (Keeps.set (p:=⟨PB,1,none⟩) (fun h=>HPBN.out (.inl h)) _))⟩
def mOut:Option (Int×List S43×List Int)→List S43×Bool×List Int×Int
 |none=>([],true,[],2)
 |some (e,st,sp)=>if e=0 then(st.reverse,false,sp,0) else([],true,sp,e)
def mFeedAll (nn nt:Nat) (ps:List S35) (tb:List (List Int)) (stack:List S43) (dead:Bool) (look:Int):List S43×Bool×List Int×Int:=
 if tbRight nn nt ps tb=true∧stAwaits nn nt stack=true∧0≤look∧look≤(nt:Int) then
  if dead=true then([],true,[],80) else mOut (mFeed nt ps tb look 10002 stack.reverse [])
 else([],true,[],1)
theorem mFeed_some {nt:Nat}{ps:List S35}{tb:List (List Int)}{look:Int}:∀(k:Nat) (st:List S43) (sp:List Int),10001≤k+sp.length→sp.length≤10000→∃R,mFeed nt ps tb look k st sp=some R
 |0,_,_,h,h'=>by omega
 |k+1,[],sp,_,_=>⟨_,rfl⟩
 |k+1,x::st,sp,h,_=>by
  rw [mFeed]
  split
  ·exact⟨_,rfl⟩
  ·split
   ·exact⟨_,rfl⟩
   ·split
    ·rename_i hc
     simp only [Bool.and_eq_true,decide_eq_true_eq] at hc;exact mFeed_some k _ _ (by simp only [List.length_append,List.length_singleton];omega) hc.2
    ·exact⟨_,rfl⟩
def machine_Feed.f (aU:List ByteArray) (aX:List (S72)) (bB:Int) (bK:Int) (aQ:List (S35)) (l1:List (List Int)) (iQ:List (S43)) (pN:Bool) (a3:Int):Option (List (S43)×Bool×List Int×Int):=
 if aX.length≤1000000000∧l1.length≤1000000000∧aQ.length≤1000000000∧aQ.all (fun p=>decide (p.f1.length≤1000000))=true∧l1.all (fun p=>decide (p.length≤9223372036854775807))=true then some (mFeedAll aU.length aX.length aQ l1 iQ pN a3) else none
set_option maxHeartbeats 4000000 in
set_option maxRecDepth 100000 in
theorem machine_Feed.calls (bR:Option Addr) (bS:Nat) (aU:List ByteArray) (bU:Option Addr) (bV:Nat) (aX:List (S72)) (bB:Int) (bK:Int) (cC:Option Addr) (bX:Nat) (aQ:List (S35)) (A1:Option Addr) (c1:Nat) (l1:List (List Int)) (sC:Option Addr) (sD:Nat) (iQ:List (S43)) (pN:Bool) (a3:Int) (r1:List (S43)) (r2:Bool) (r3:List Int) (r4:Int) (w:World)
 (dX:Kd.C Kd.string w bR aU.length aU) (dZ:aU.length≤bS) (eB:Kd.C k72 w bU aX.length aX) (eH:aX.length≤bV) (dY:Kd.C k35 w cC aQ.length aQ) (eJ:aQ.length≤bX) (hr1:Kd.C (Kd.slice 3 (Kd.int .i64)) w A1 l1.length l1) (hc1:l1.length≤c1) (Qo:Kd.C k43 w sC iQ.length iQ) (Qp:iQ.length≤sD)
 (h:machine_Feed.f aU aX bB bK aQ l1 iQ pN a3=some (r1,r2,r3,r4)):
 Calls Try.prog 23 #[.agg #[.slice bR aU.length bS,.slice bU aX.length bV,.int .i64 bB,.int .i64 bK,.slice cC aQ.length bX],.slice A1 l1.length c1,.agg #[.slice sC iQ.length sD,.bool pN],.int .i64 a3] w fun e w'=>∃v0_ v1_:Value,e= .returned (.tuple #[.agg #[v0_,.bool r2],v1_,.int .i64 r4])∧Kd.R k43 43 w' w.heap.size (fun _=>True) v0_ r1∧Kd.R (Kd.int .i64) 3 w' w.heap.size (fun _=>True) v1_ r3∧Below w.heap.size w w':=by
 unfold machine_Feed.f at h
 split at h
 case isFalse=>simp at h
 rename_i hbig
 obtain⟨hb1,hb2,hb3,hb4,hb5⟩:=hbig;have he:=Option.some.inj h;clear h
 have hmr:machine_Right.f aU aX bB bK aQ l1=some (tbRight aU.length aX.length aQ l1):=by
  unfold machine_Right.f
  rw [if_pos ⟨hb1,hb2,hb3,List.all_eq_true.2 (fun p hp=>decide_eq_true (by have:=of_decide_eq_true (List.all_eq_true.1 hb4 p hp);omega)),hb5⟩]
 have hp1:∀p∈aQ,p.f1.length≤1000000:=fun p hp=>of_decide_eq_true (List.all_eq_true.1 hb4 p hp)
 have HE:=aM he;have HP1:=aM hp1;have HMR:=aM hmr;have HBIG:=aM hb1;have H00:=aM (And.intro dX dZ);have H01:=aM (And.intro eB eH);have H04:=aM (And.intro dY eJ);have H1:=aM (And.intro hr1 hc1);have H2:=aM (And.intro Qo Qp);clear he hp1 hmr hb1 hb2 hb3 hb4 hb5 dX dZ eB eH dY eJ hr1 hc1 Qo Qp;go_enter Try.func23,Try.ntmps23
 go_upto_region 1 with fail
 have HW1:Aside0 (Below w.heap.size w (((w.alloc (.cells #[.slice bR aU.length bS,.slice bU aX.length bV,.int .i64 bB,.int .i64 bK,.slice cC aQ.length bX] 26)).alloc (.cells #[.slice sC iQ.length sD,.bool pN] 31)).alloc (.cells #[.slice none 0 0,.bool false] 31))):=⟨(((Below.refl _ w).alloc (Nat.le_refl _) _).alloc (by simp) _).alloc (by simp;omega) _⟩;have HS1:Aside0 ((((w.alloc (.cells #[.slice bR aU.length bS,.slice bU aX.length bV,.int .i64 bB,.int .i64 bK,.slice cC aQ.length bX] 26)).alloc (.cells #[.slice sC iQ.length sD,.bool pN] 31)).alloc (.cells #[.slice none 0 0,.bool false] 31)).heap[w.heap.size]?=some (.cells #[.slice bR aU.length bS,.slice bU aX.length bV,.int .i64 bB,.int .i64 bK,.slice cC aQ.length bX] 26 (0,0))):=⟨aI (aI (blk_new _ _) _) _⟩;have HM1:Aside0 ((((w.alloc (.cells #[.slice bR aU.length bS,.slice bU aX.length bV,.int .i64 bB,.int .i64 bK,.slice cC aQ.length bX] 26)).alloc (.cells #[.slice sC iQ.length sD,.bool pN] 31)).alloc (.cells #[.slice none 0 0,.bool false] 31)).heap[w.heap.size+1]?=some (.cells #[.slice sC iQ.length sD,.bool pN] 31 (0,0))):=⟨by have h:=aI (blk_new (w.alloc (.cells #[.slice bR aU.length bS,.slice bU aX.length bV,.int .i64 bB,.int .i64 bK,.slice cC aQ.length bX] 26)) (.cells #[.slice sC iQ.length sD,.bool pN] 31)) (.cells #[.slice none 0 0,.bool false] 31);rw [World.size_alloc] at h;exact h⟩;have HR1:Aside0 ((((w.alloc (.cells #[.slice bR aU.length bS,.slice bU aX.length bV,.int .i64 bB,.int .i64 bK,.slice cC aQ.length bX] 26)).alloc (.cells #[.slice sC iQ.length sD,.bool pN] 31)).alloc (.cells #[.slice none 0 0,.bool false] 31)).heap[w.heap.size+1+1]?=some (.cells #[.slice none 0 0,.bool false] 31 (0,0))):=⟨by have h:=blk_new ((w.alloc (.cells #[.slice bR aU.length bS,.slice bU aX.length bV,.int .i64 bB,.int .i64 bK,.slice cC aQ.length bX] 26)).alloc (.cells #[.slice sC iQ.length sD,.bool pN] 31)) (.cells #[.slice none 0 0,.bool false] 31);rw [World.size_alloc,World.size_alloc] at h;exact h⟩;generalize (((w.alloc (.cells #[.slice bR aU.length bS,.slice bU aX.length bV,.int .i64 bB,.int .i64 bK,.slice cC aQ.length bX] 26)).alloc (.cells #[.slice sC iQ.length sD,.bool pN] 31)).alloc (.cells #[.slice none 0 0,.bool false] 31))=w1 at HW1 HS1 HM1 HR1 ⊢;have HSZ:Aside0 (w.heap.size≤w.heap.size):=⟨Nat.le_refl _⟩;have HRW:Aside0 (w.heap.size≤w.heap.size+1+1):=⟨by omega⟩;generalize w.heap.size+1+1=RB at HR1 HRW ⊢;generalize w.heap.size+1=MB at HM1 ⊢
 have HBLK:Aside0 (∀W,Below w1.heap.size w1 W→(W.cell? ⟨w.heap.size,0,none⟩=some (.slice bR aU.length bS)∧W.cell? ⟨w.heap.size,1,none⟩=some (.slice bU aX.length bV)∧W.cell? ⟨w.heap.size,2,none⟩=some (.int .i64 bB)∧W.cell? ⟨w.heap.size,3,none⟩=some (.int .i64 bK)∧W.cell? ⟨w.heap.size,4,none⟩=some (.slice cC aQ.length bX))∧W.cell? ⟨MB,0,none⟩=some (.slice sC iQ.length sD)∧W.cell? ⟨MB,1,none⟩=some (.bool pN)∧W.heap[RB]?=some (.cells #[.slice none 0 0,.bool false] 31 (0,0))):=⟨fun W hW=>by
  have hb:=bF HS1.out hW;have hm:=bF HM1.out hW;exact⟨⟨(aG hb 0).trans rfl,(aG hb 1).trans rfl,(aG hb 2).trans rfl,(aG hb 3).trans rfl,(aG hb 4).trans rfl⟩,(aG hm 0).trans rfl,(aG hm 1).trans rfl,bF HR1.out hW⟩⟩
 have PR:=aM (machine_Right.calls bR bS aU bU bV aX bB bK cC bX aQ A1 c1 l1 _ w1 (bD H00.out.1 HW1.out) H00.out.2 (bD H01.out.1 HW1.out) H01.out.2 (bD H04.out.1 HW1.out) H04.out.2 (bD H1.out.1 HW1.out) H1.out.2 HMR.out);have PA:Aside0 (∀W,Below w1.heap.size w1 W→Calls Try.prog 35 #[.agg #[.slice bR aU.length bS,.slice bU aX.length bV,.int .i64 bB,.int .i64 bK,.slice cC aQ.length bX],.slice sC iQ.length sD] W fun e w'=>e= .returned (.bool (stAwaits aU.length aX.length iQ))∧Below W.heap.size W w'):=⟨fun W hW=>awaits_any bR bS aU bU bV aX bB bK cC bX aQ sC sD iQ W (bD H2.out.1 (HW1.out.trans (hW.mono HW1.out.size)))⟩;obtain⟨⟨q0,q1,q2,q3,q4⟩,_,_,_⟩:=HBLK.out w1 (Below.refl _ _);have hsum:mFeedAll aU.length aX.length aQ l1 iQ pN a3=if(tbRight aU.length aX.length aQ l1 && (stAwaits aU.length aX.length iQ && (decide (0≤a3) && decide (a3≤(aX.length:Int)))))=true then(if pN=true then([],true,[],80) else mOut (mFeed aX.length aQ l1 a3 10002 iQ.reverse [])) else([],true,[],1):=by simp [mFeedAll]
 have HSUM:=aM hsum;have HTAB:Aside0 (tbRight aU.length aX.length aQ l1=true→TabOk aU.length aX.length aQ l1∧aQ.all (okProd aU.length aX.length)=true):=⟨fun h=>⟨tbRight_tab h,tbRight_prods h⟩⟩;have HAW:Aside0 (stAwaits aU.length aX.length iQ=true→iQ.length≤10000∧iQ.all (okSym aU.length aX.length)=true):=⟨fun h=>by simpa [stAwaits] using h⟩;clear hsum;generalize tbRight aU.length aX.length aQ l1=g1 at PR HSUM HTAB;generalize stAwaits aU.length aX.length iQ=g2 at PA HSUM HAW;generalize hok:(g1 && (g2 && (decide (0≤a3) && decide (a3≤(aX.length:Int)))))=ok at HSUM;have HOK:=aM hok;clear hok
 go_cut [13] (fun s13 wc=>s13= .bool (!ok)∧Aside0 (Below w1.heap.size w1 wc))
 case first=>
  cases g1 with
  |false=>
   have ho:ok=false:=by rw [←HOK.out];rfl
   subst ho
   go_wp2_with (first|(go_at_call 25;(with_reducible refine PR.out.mono ?_);rintro e w2 ⟨rfl,hb2⟩;have HB2:=aM hb2;clear hb2 PR q0 q1 q2 q3 q4))
   go_meet
   case rel=>exact⟨rfl,HB2⟩
  |true=>
   cases g2 with
   |false=>
    have ho:ok=false:=by rw [←HOK.out];rfl
    subst ho
    go_wp2_with (first|(go_at_call 25;(with_reducible refine PR.out.mono ?_);rintro e w2 ⟨rfl,hb2⟩;have HB2:=aM hb2;have P2:=aM (PA.out w2 hb2);clear hb2 PR q0 q1 q2 q3 q4;obtain⟨⟨q0,q1,q2,q3,q4⟩,m0,_,_⟩:=HBLK.out w2 HB2.out)|(go_at_call 35;(with_reducible refine P2.out.mono ?_);rintro e w3 ⟨rfl,hb3⟩;have HB3:Aside0 (Below w1.heap.size w1 w3):=⟨HB2.out.trans (hb3.mono HB2.out.size)⟩;clear hb3 P2 q0 q1 q2 q3 q4 m0))
    go_meet
    case rel=>exact⟨rfl,HB3⟩
   |true=>
    by_cases ha:a3<0
    ·have ho:ok=false:=by rw [←HOK.out,decide_eq_false (by omega:¬0≤a3)];rfl
     subst ho;have HA:=aM (decide_eq_true ha);clear ha
     go_wp2_with (first|(go_at_call 25;(with_reducible refine PR.out.mono ?_);rintro e w2 ⟨rfl,hb2⟩;have HB2:=aM hb2;have P2:=aM (PA.out w2 hb2);clear hb2 PR q0 q1 q2 q3 q4;obtain⟨⟨q0,q1,q2,q3,q4⟩,m0,_,_⟩:=HBLK.out w2 HB2.out)|(go_at_call 35;(with_reducible refine P2.out.mono ?_);rintro e w3 ⟨rfl,hb3⟩;have HB3:Aside0 (Below w1.heap.size w1 w3):=⟨HB2.out.trans (hb3.mono HB2.out.size)⟩;clear hb3 P2 q0 q1 q2 q3 q4 m0;have ha:=HA.out))
     go_meet
     case rel=>exact⟨rfl,HB3⟩
    ·by_cases hl:a3≤(aX.length:Int)
     ·have ho:ok=true:=by rw [←HOK.out,decide_eq_true (by omega:0≤a3),decide_eq_true hl];rfl
      subst ho;have HA:=aM (And.intro (decide_eq_false ha) (decide_eq_false (by omega:¬(aX.length:Int)<a3)));clear ha hl
      go_wp2_with (first|(go_at_call 25;(with_reducible refine PR.out.mono ?_);rintro e w2 ⟨rfl,hb2⟩;have HB2:=aM hb2;have P2:=aM (PA.out w2 hb2);clear hb2 PR q0 q1 q2 q3 q4;obtain⟨⟨q0,q1,q2,q3,q4⟩,m0,_,_⟩:=HBLK.out w2 HB2.out)|(go_at_call 35;(with_reducible refine P2.out.mono ?_);rintro e w3 ⟨rfl,hb3⟩;have HB3:Aside0 (Below w1.heap.size w1 w3):=⟨HB2.out.trans (hb3.mono HB2.out.size)⟩;clear hb3 P2 q0 q1 q2 q3 q4 m0;obtain⟨⟨q0,q1,q2,q3,q4⟩,m0,_,_⟩:=HBLK.out w3 HB3.out;have ha:=HA.out.1;have hl:=HA.out.2))
      go_meet
      case rel=>exact⟨rfl,HB3⟩
     ·have ho:ok=false:=by rw [←HOK.out,decide_eq_false hl];simp
      subst ho;have HA:=aM (And.intro (decide_eq_false ha) (decide_eq_true (by omega:(aX.length:Int)<a3)));clear ha hl
      go_wp2_with (first|(go_at_call 25;(with_reducible refine PR.out.mono ?_);rintro e w2 ⟨rfl,hb2⟩;have HB2:=aM hb2;have P2:=aM (PA.out w2 hb2);clear hb2 PR q0 q1 q2 q3 q4;obtain⟨⟨q0,q1,q2,q3,q4⟩,m0,_,_⟩:=HBLK.out w2 HB2.out)|(go_at_call 35;(with_reducible refine P2.out.mono ?_);rintro e w3 ⟨rfl,hb3⟩;have HB3:Aside0 (Below w1.heap.size w1 w3):=⟨HB2.out.trans (hb3.mono HB2.out.size)⟩;clear hb3 P2 q0 q1 q2 q3 q4 m0;obtain⟨⟨q0,q1,q2,q3,q4⟩,m0,_,_⟩:=HBLK.out w3 HB3.out;have ha:=HA.out.1;have hl:=HA.out.2))
      go_meet
      case rel=>exact⟨rfl,HB3⟩
 case rest=>
  clear q0 q1 q2 q3 q4 PR PA;obtain⟨rfl,HBC⟩:=hcut
  cases ok with
  |false=>
   have HE2:Aside0 ((([]:List S43),true,([]:List Int),(1:Int))=(r1,r2,r3,r4)):=⟨by rw [←HE.out,HSUM.out];simp⟩;injection HE2.out with e1 e2
   injection e2 with e2 e3
   injection e3 with e3 e4
   subst e1 e2 e3 e4
   go_wp2_with (first|(go_at_call 36;(with_reducible refine(machine_dead.calls [] true wc rfl).mono ?_);rintro e w2 ⟨v0,rfl,ho,hb2⟩;obtain⟨Av,cv,rfl⟩:=Kd.R_slice ho;have HO:=aM ho;have HB2:Aside0 (Below w1.heap.size w1 w2):=⟨HBC.out.trans (hb2.mono HBC.out.size)⟩;clear ho hb2;obtain⟨_,_,_,hrb⟩:=HBLK.out w2 HB2.out;have HRB2:=aM hrb;have s0:=aG hrb 0;have s1:=aG hrb 1;have f0:=aH hrb 0;have f1:=aH hrb 1;clear hrb))
   refine bodyPost_ret (results_ctt rfl _ _ RB 31 #[.slice Av 0 cv,.bool true] (0,0) _ rfl (blk_put (blk_put HRB2.out 0 _ rfl) 1 _ rfl) Try.underlying31 rfl (by kernel_rfl)) rfl ?_
   exact⟨_,_,rfl,bL (Kd.R_set (Kd.R_set HO.out HRB2.out (by decide) 0 _) (blk_put HRB2.out 0 _ rfl) (by decide) 1 _) (Nat.le_trans HW1.out.size HBC.out.size),Kd.R_nil _ _ _ _ _,((HW1.out.trans (HB2.out.mono HW1.out.size)).setCell (p:=⟨RB,0,none⟩) HRW.out _).setCell (p:=⟨RB,1,none⟩) HRW.out _⟩
  |true=>
   obtain⟨⟨q0,q1,q2,q3,q4⟩,m0,m1,_⟩:=HBLK.out wc HBC.out;have hg:g1=true∧g2=true∧0≤a3∧a3≤(aX.length:Int):=by have:=HOK.out;simpa only [Bool.and_eq_true,decide_eq_true_eq] using this
   have HG:=aM hg;clear hg
   cases pN with
   |true=>
    have HE2:Aside0 ((([]:List S43),true,([]:List Int),(80:Int))=(r1,r2,r3,r4)):=⟨by rw [←HE.out,HSUM.out];simp⟩;injection HE2.out with e1 e2
    injection e2 with e2 e3
    injection e3 with e3 e4
    subst e1 e2 e3 e4
    go_wp2_with (first|(go_at_call 36;(with_reducible refine(machine_dead.calls [] true wc rfl).mono ?_);rintro e w2 ⟨v0,rfl,ho,hb2⟩;obtain⟨Av,cv,rfl⟩:=Kd.R_slice ho;have HO:=aM ho;have HB2:Aside0 (Below w1.heap.size w1 w2):=⟨HBC.out.trans (hb2.mono HBC.out.size)⟩;clear ho hb2;obtain⟨_,_,_,hrb⟩:=HBLK.out w2 HB2.out;have HRB2:=aM hrb;have s0:=aG hrb 0;have s1:=aG hrb 1;have f0:=aH hrb 0;have f1:=aH hrb 1;clear hrb))
    refine bodyPost_ret (results_ctt rfl _ _ RB 31 #[.slice Av 0 cv,.bool true] (0,0) _ rfl (blk_put (blk_put HRB2.out 0 _ rfl) 1 _ rfl) Try.underlying31 rfl (by kernel_rfl)) rfl ?_
    exact⟨_,_,rfl,bL (Kd.R_set (Kd.R_set HO.out HRB2.out (by decide) 0 _) (blk_put HRB2.out 0 _ rfl) (by decide) 1 _) (Nat.le_trans HW1.out.size HBC.out.size),Kd.R_nil _ _ _ _ _,((HW1.out.trans (HB2.out.mono HW1.out.size)).setCell (p:=⟨RB,0,none⟩) HRW.out _).setCell (p:=⟨RB,1,none⟩) HRW.out _⟩
   |false=>
    have PC:=aM (cloneSym_any sC sD iQ wc (bD H2.out.1 (HW1.out.trans (HBC.out.mono HW1.out.size))) (by have:=(HAW.out HG.out.2.1).1;omega));clear q0 q1 q2 q3 q4
    go_upto_region 6 with(first|(go_at_call 37;(with_reducible refine PC.out.mono ?_);rintro e w2 ⟨v0,rfl,ho,hb2⟩;obtain⟨Av,cv,rfl⟩:=Kd.R_slice ho;have HO:=aM ho;have HB2:Aside0 (Below w1.heap.size w1 w2):=⟨HBC.out.trans (hb2.mono HBC.out.size)⟩;clear ho hb2 m0 m1 PC))
    have HPB:Aside0 ((w2.alloc (.cells #[.slice Av iQ.length cv,.slice none 0 0] 84)).heap[w2.heap.size]?=some (.cells #[.slice Av iQ.length cv,.slice none 0 0] 84 (0,0))):=⟨heap_alloc_new w2 _⟩;have hle2:w.heap.size≤w2.heap.size:=Nat.le_trans HW1.out.size HB2.out.size;have HRLT:Aside0 (RB<w1.heap.size):=⟨bN HR1.out⟩;have HPS:Aside0 (PS (fun k=>k=RB) (w2.alloc (.cells #[.slice Av iQ.length cv,.slice none 0 0] 84)) w.heap.size w2.heap.size iQ.reverse []):=⟨⟨_,_,HPB.out,hle2,by rw [List.reverse_reverse];exact aA (bL (Kd.R_mono (Kd.R_bound HO.out) (fun k hk e=>by have h1:=hk.2.1;have h2:=HRLT.out;have h3:=HBC.out.size;omega)) (Nat.le_trans HW1.out.size HBC.out.size)) _,Kd.R_nil _ _ _ _ _⟩⟩;have HPRB:Aside0 (RB<w2.heap.size):=⟨Nat.lt_of_lt_of_le HRLT.out HB2.out.size⟩;have HB3:Aside0 (Below w1.heap.size w1 (w2.alloc (.cells #[.slice Av iQ.length cv,.slice none 0 0] 84))):=⟨HB2.out.trans ((aN (Below.refl _ w2) _).mono HB2.out.size)⟩;generalize w2.alloc (.cells #[.slice Av iQ.length cv,.slice none 0 0] 84)=w3 at HPB HPS HB3 ⊢;have HPW:Aside0 (w.heap.size≤w2.heap.size):=⟨hle2⟩;generalize w2.heap.size=PB at HPB HPS HPW HPRB ⊢;obtain⟨⟨q0,q1,q2,q3,q4⟩,_,_,_⟩:=HBLK.out w3 HB3.out;obtain⟨R,hR⟩:=mFeed_some (nt:=aX.length) (ps:=aQ) (tb:=l1) (look:=a3) 10002 iQ.reverse [] (by omega) (by simp);have HS:Aside0 (mOut (some R)=(r1,r2,r3,r4)):=⟨by have h:=HSUM.out.symm.trans HE.out;simpa [hR] using h⟩;have PF:=aM (feed_any (fun k=>k=RB) bR bS aU bU bV aX bB bK cC bX aQ A1 c1 l1 a3 iQ.reverse [] PB w w3 10002 R HPS.out (fun k hk=>by rw [hk];exact Nat.lt_of_lt_of_le HRLT.out HB3.out.size) (fun e=>by have:=HPRB.out;omega) (HW1.out.trans (HB3.out.mono HW1.out.size)) H04.out.1 H1.out.1 (HTAB.out HG.out.1).2 (HTAB.out HG.out.1).1 (by rw [List.all_reverse];exact(HAW.out HG.out.2.1).2) HG.out.2.2.1 HG.out.2.2.2 HP1.out (by rw [List.length_reverse];exact(HAW.out HG.out.2.1).1) (by simp) hR);clear hR hle2;obtain⟨e,st,sp⟩:=R
    go_upto_if 52 with(first|(go_at_call 38;(with_reducible refine PF.out.mono ?_);rintro e_ w4 ⟨rfl,hp4,hb4,hk4⟩;have HP4:=aM hp4;have HW4:=aM hb4;have HRB4:=aM (hk4 RB _ rfl (HBLK.out w3 HB3.out).2.2.2 rfl);clear hp4 hb4 hk4 PF q0 q1 q2 q3 q4))
    obtain⟨vs,vt,g0,g1,g2,g3⟩:=HP4.out;simp only at g2 g3;obtain⟨As,cs_,rfl⟩:=Kd.R_slice g2;obtain⟨Au,cu,rfl⟩:=Kd.R_slice g3;rw [List.length_reverse] at g0 g2;have G0:=aM g0;have G2:=aM g2;have G3:=aM g3;clear g0 g1 g2 g3;have HPNR:Aside0 (PB≠RB):=⟨by have:=HPRB.out;omega⟩
    by_cases he0:e=0
    ·subst he0
     have HS2:Aside0 ((st.reverse,false,sp,(0:Int))=(r1,r2,r3,r4)):=⟨by have:=HS.out;rwa [mOut,if_pos rfl] at this⟩;injection HS2.out with e1 e2
     injection e2 with e2 e3
     injection e3 with e3 e4
     subst e1 e2 e3 e4;have y1:((0:Int) !=0)=false:=by simp
     go_upto_region 9 with fail
     have s0:=aG HRB4.out 0;have s1:=aG HRB4.out 1;have f0:=aH HRB4.out 0;have f1:=aH HRB4.out 1;refine start_ (n:=12) (S:=fun w'=>w'.cell? ⟨PB,0,none⟩=some (.slice As st.length cs_)∧w'.cell? ⟨PB,1,none⟩=some (.slice Au sp.length cu)) (ds:= []) #[F,F,F,F,F,F,F,F,F,F,F,F] (by kernel_rfl) rfl rfl ⟨(aG G0.out 0).trans rfl,(aG G0.out 1).trans rfl⟩ (fun hHeld=>?_)
     refine pure_ (i:=0) (N:=some 59) (v:=?_) (a':=?_) #[T,F,F,F,F,F,F,F,F,F,F,F] rfl rfl (by kernel_rfl) (fun _ _ _ h=>h) (Or.inl ⟨by rfl,?_⟩) ?_ ?_
     rotate_left;(intro w';go_simp;with_reducible rfl);rotate_left;(simp only [pq];rfl)
     refine pure_ (i:=1) (N:=some 60) (v:=?_) (a':=?_) #[T,T,F,F,F,F,F,F,F,F,F,F] rfl rfl (by kernel_rfl) (fun _ _ _ h=>h) (Or.inl ⟨by rfl,?_⟩) ?_ ?_
     rotate_left;(intro w';go_simp;with_reducible rfl);rotate_left;(simp only [pq];rfl)
     refine pure_ (i:=2) (N:=some 61) (v:=?_) (a':=?_) #[T,T,T,F,F,F,F,F,F,F,F,F] rfl rfl (by kernel_rfl) (fun _ _ _ h=>h) (Or.inl ⟨by rfl,?_⟩) ?_ ?_
     rotate_left;(intro w';go_simp;with_reducible rfl);rotate_left;(simp only [pq];rfl)
     refine pure_ (i:=5) (N:=some 64) (v:=?_) (a':=?_) #[T,T,T,F,F,T,F,F,F,F,F,F] rfl rfl (by kernel_rfl) (fun _ _ _ h=>h) (Or.inl ⟨by rfl,?_⟩) ?_ ?_
     rotate_left;(intro w';go_simp;with_reducible rfl);rotate_left;(simp only [pq];rfl)
     refine pure_ (i:=6) (N:=some 65) (v:=?_) (a':=?_) #[T,T,T,F,F,T,T,F,F,F,F,F] rfl rfl (by kernel_rfl) (fun _ _ _ h=>h) (Or.inl ⟨by rfl,?_⟩) ?_ ?_
     rotate_left;(intro w';go_simp;with_reducible rfl);rotate_left;(simp only [pq];rfl)
     refine pure_ (i:=7) (N:=some 66) (v:=?_) (a':=?_) #[T,T,T,F,F,T,T,T,F,F,F,F] rfl rfl (by kernel_rfl) (fun _ _ _ h=>h) (Or.inl ⟨by rfl,?_⟩) ?_ ?_
     rotate_left;(intro w';go_simp;with_reducible rfl);rotate_left;(simp only [pq];rfl)
     refine take_ (i:=3) (N:=some 62) (v:=?_) (a':=?_) #[T,T,T,T,F,T,T,T,F,F,F,F] rfl rfl (by kernel_rfl) (fun _ _ _ h=>h) (Or.inl ⟨by rfl,?_⟩) hHeld ?_ ?_
     rotate_left
     ·rintro w' ⟨s0,s1⟩
      go_simp
      with_reducible rfl
     rotate_left
     ·simp only [pq]
      rfl
     refine pure_ (i:=4) (N:=some 63) (v:=?_) (a':=?_) #[T,T,T,T,T,T,T,T,F,F,F,F] rfl rfl (by kernel_rfl) (fun _ _ _ h=>h) (Or.inl ⟨by rfl,?_⟩) ?_ ?_
     rotate_left;(intro w';go_simp;with_reducible rfl);rotate_left;(simp only [pq];rfl)
     refine take_ (i:=8) (N:=some 67) (v:=?_) (a':=?_) #[T,T,T,T,T,T,T,T,T,F,F,F] rfl rfl (by kernel_rfl) (fun _ _ _ h=>h) (Or.inl ⟨by rfl,?_⟩) hHeld ?_ ?_
     rotate_left
     ·rintro w' ⟨s0,s1⟩
      go_simp
      with_reducible rfl
     rotate_left
     ·simp only [pq]
      rfl
     refine one_ (i:=9) (N:=none) #[T,T,T,T,T,T,T,T,T,T,F,F] rfl rfl (by kernel_rfl) (by decide) (fun K hK=>?_)
     refine skip_ (w1:=?_) (by rfl) rfl ?_ ?_
     rotate_left
     ·go_simp
      rfl
     refine hK.out _ _ ⟨(aG (blk_far (blk_far (aK G0.out) (p:=⟨RB,0,none⟩) HPNR.out _) (p:=⟨RB,1,none⟩) HPNR.out _) 0).trans rfl,(aG (blk_far (blk_far (aK G0.out) (p:=⟨RB,0,none⟩) HPNR.out _) (p:=⟨RB,1,none⟩) HPNR.out _) 1).trans rfl⟩ (fun hHeld=>?_)
     clear hK K;refine pure_ (i:=10) (N:=some 9) (v:=?_) (a':=?_) #[T,T,T,T,T,T,T,T,T,T,T,F] rfl rfl (by kernel_rfl) (fun _ _ _ h=>h) (Or.inl ⟨by rfl,?_⟩) ?_ ?_
     rotate_left;(intro w';go_simp;with_reducible rfl);rotate_left;(simp only [pq];rfl)
     refine pure_ (i:=11) (N:=some 10) (v:=?_) (a':=?_) #[T,T,T,T,T,T,T,T,T,T,T,T] rfl rfl (by kernel_rfl) (fun _ _ _ h=>h) (Or.inl ⟨by rfl,?_⟩) ?_ ?_
     rotate_left;(intro w';go_simp;with_reducible rfl);rotate_left;(simp only [pq];rfl)
     refine done_ (by kernel_rfl) ?_
     go_wp2
     refine bodyPost_ret (results_ctt rfl _ _ RB 31 #[.slice As st.length cs_,.bool false] (0,0) _ rfl (blk_put (blk_put (aK HRB4.out) 0 _ rfl) 1 _ rfl) Try.underlying31 rfl (by kernel_rfl)) rfl ?_
     exact⟨_,_,rfl,Kd.R_mono (Kd.R_set (Kd.R_set (aC G2.out) (aK HRB4.out) (by decide) 0 _) (blk_put (aK HRB4.out) 0 _ rfl) (by decide) 1 _) (fun _ _=>trivial),Kd.R_mono (Kd.R_set (Kd.R_set (aC G3.out) (aK HRB4.out) (by decide) 0 _) (blk_put (aK HRB4.out) 0 _ rfl) (by decide) 1 _) (fun _ _=>trivial),((aO HW4.out).setCell (p:=⟨RB,0,none⟩) HRW.out _).setCell (p:=⟨RB,1,none⟩) HRW.out _⟩
    ·have HS2:Aside0 ((([]:List S43),true,sp,e)=(r1,r2,r3,r4)):=⟨by have:=HS.out;rwa [mOut,if_neg he0] at this⟩
     injection HS2.out with e1 e2
     injection e2 with e2 e3
     injection e3 with e3 e4
     subst e1 e2 e3 e4;have y1:(e !=0)=true:=by simp [he0]
     go_upto_region 8 with fail
     refine start_ (n:=9) (S:=fun w'=>w'.cell? ⟨PB,1,none⟩=some (.slice Au sp.length cu)) (ds:= []) #[F,F,F,F,F,F,F,F,F] (by kernel_rfl) rfl rfl ((aG G0.out 1).trans rfl) (fun hHeld=>?_)
     refine pure_ (i:=1) (N:=some 54) (v:=?_) (a':=?_) #[F,T,F,F,F,F,F,F,F] rfl rfl (by kernel_rfl) (fun _ _ _ h=>h) (Or.inl ⟨by rfl,?_⟩) ?_ ?_
     rotate_left;(intro w';go_simp;with_reducible rfl);rotate_left;(simp only [pq];rfl)
     refine pure_ (i:=2) (N:=some 55) (v:=?_) (a':=?_) #[F,T,T,F,F,F,F,F,F] rfl rfl (by kernel_rfl) (fun _ _ _ h=>h) (Or.inl ⟨by rfl,?_⟩) ?_ ?_
     rotate_left;(intro w';go_simp;with_reducible rfl);rotate_left;(simp only [pq];rfl)
     refine pure_ (i:=3) (N:=some 56) (v:=?_) (a':=?_) #[F,T,T,T,F,F,F,F,F] rfl rfl (by kernel_rfl) (fun _ _ _ h=>h) (Or.inl ⟨by rfl,?_⟩) ?_ ?_
     rotate_left;(intro w';go_simp;with_reducible rfl);rotate_left;(simp only [pq];rfl)
     refine pure_ (i:=5) (N:=some 58) (v:=?_) (a':=?_) #[F,T,T,T,F,T,F,F,F] rfl rfl (by kernel_rfl) (fun _ _ _ h=>h) (Or.inl ⟨by rfl,?_⟩) ?_ ?_
     rotate_left;(intro w';go_simp;with_reducible rfl);rotate_left;(simp only [pq];rfl)
     refine take_ (i:=4) (N:=some 57) (v:=?_) (a':=?_) #[F,T,T,T,T,T,F,F,F] rfl rfl (by kernel_rfl) (fun _ _ _ h=>h) (Or.inl ⟨by rfl,?_⟩) hHeld ?_ ?_
     rotate_left
     ·intro w' s0
      go_simp
      with_reducible rfl
     rotate_left
     ·simp only [pq]
      rfl
     refine one_ (i:=0) (N:=some 53) #[T,T,T,T,T,T,F,F,F] rfl rfl (by kernel_rfl) (by decide) (fun K hK=>?_)
     refine goes_ Try.func36 (by kernel_rfl) rfl #[] (by rfl) rfl rfl (by simp only [List.map_toArray,List.map_cons,List.map_nil]) ?_
     with_reducible refine(machine_dead.calls [] true w4.drew rfl).mono ?_
     rintro e w5 ⟨v0,rfl,ho,hb5⟩
     refine⟨_,rfl,?_⟩
     obtain⟨Aq,cq,rfl⟩:=Kd.R_slice ho;have GU:=aM ho;have HW5:Aside0 (Below w.heap.size w w5):=⟨(aO HW4.out).trans (hb5.mono (aO HW4.out).size)⟩;have HP5:=aM (bF (aK G0.out) hb5);have HRB5:=aM (bF (aK HRB4.out) hb5);have HG35:=aM (aD (aC G3.out) hb5);have s0:=aG HRB5.out 0;have s1:=aG HRB5.out 1;have f0:=aH HRB5.out 0;have f1:=aH HRB5.out 1;clear ho hb5;refine hK.out _ _ ((aG HP5.out 1).trans rfl) (fun hHeld=>?_)
     clear hK K;refine norm_ (a':=?_) ?_ ?_
     rotate_left
     ·show Act.put _ (some 53) _=_
      simp only [pq];rfl
     refine one_ (i:=6) (N:=none) #[T,T,T,T,T,T,T,F,F] rfl rfl (by kernel_rfl) (by decide) (fun K hK=>?_)
     refine skip_ (w1:=?_) (by rfl) rfl ?_ ?_
     rotate_left
     ·go_simp
      rfl
     refine hK.out _ _ ((aG (blk_far (blk_far HP5.out (p:=⟨RB,0,none⟩) HPNR.out _) (p:=⟨RB,1,none⟩) HPNR.out _) 1).trans rfl) (fun hHeld=>?_)
     clear hK K;refine pure_ (i:=7) (N:=some 9) (v:=?_) (a':=?_) #[T,T,T,T,T,T,T,T,F] rfl rfl (by kernel_rfl) (fun _ _ _ h=>h) (Or.inl ⟨by rfl,?_⟩) ?_ ?_
     rotate_left;(intro w';go_simp;with_reducible rfl);rotate_left;(simp only [pq];rfl)
     refine pure_ (i:=8) (N:=some 10) (v:=?_) (a':=?_) #[T,T,T,T,T,T,T,T,T] rfl rfl (by kernel_rfl) (fun _ _ _ h=>h) (Or.inl ⟨by rfl,?_⟩) ?_ ?_
     rotate_left;(intro w';go_simp;with_reducible rfl);rotate_left;(simp only [pq];rfl)
     refine done_ (by kernel_rfl) ?_
     go_wp2
     refine bodyPost_ret (results_ctt rfl _ _ RB 31 #[.slice Aq 0 cq,.bool true] (0,0) _ rfl (blk_put (blk_put HRB5.out 0 _ rfl) 1 _ rfl) Try.underlying31 rfl (by kernel_rfl)) rfl ?_
     exact⟨_,_,rfl,Kd.R_mono (bL (Kd.R_set (Kd.R_set GU.out HRB5.out (by decide) 0 _) (blk_put HRB5.out 0 _ rfl) (by decide) 1 _) (aO HW4.out).size) (fun _ _=>trivial),Kd.R_mono (Kd.R_set (Kd.R_set HG35.out HRB5.out (by decide) 0 _) (blk_put HRB5.out 0 _ rfl) (by decide) 1 _) (fun _ _=>trivial),(HW5.out.setCell (p:=⟨RB,0,none⟩) HRW.out _).setCell (p:=⟨RB,1,none⟩) HRW.out _⟩
def slices_Clone_int_int.f (l0:List Int):Option (List Int):=if l0.length≤1000000000 then some l0 else none
theorem slices_Clone_int_int.calls (A0:Option Addr) (c0:Nat) (l0:List Int) (r:List Int) (w:World) (hr0:Kd.C (Kd.int .i64) w A0 l0.length l0) (hc0:l0.length≤c0) (h:slices_Clone_int_int.f l0=some r):
 Calls Try.prog 34 #[.slice A0 l0.length c0] w fun e w'=>∃v0_:Value,e= .returned (v0_)∧Kd.R (Kd.int .i64) 3 w' w.heap.size (fun _=>True) v0_ r∧Below w.heap.size w w':=by
 unfold slices_Clone_int_int.f at h
 split at h
 case isFalse=>simp at h
 obtain rfl:=Option.some.inj h
 rename_i hl
 exact cloneInt_any A0 c0 l0 w hr0 hl
end Go.Proofs.Ytapjfnfengefpaa.P
end

section
namespace Go.Proofs.Ytapjfnfengefpaa.P
open Go.RowKit Go.Proofs.YtapjfnfengefpaaW.PrintWords Go.Proofs.YtapjfnfengefpaaW.PrintLast Go.Proofs.YtapjfnfengefpaaW.PrintMore
attribute [local go_sem] max2_int min2_int max_two min_two max_three min_three max_four min_four   -- for this text's walks alone
set_option linter.unusedVariables false
set_option linter.unusedSimpArgs false
mutual
def machine_Run.l0:Nat→List (List Int)→List Int→List Int→List Int→Int→Int→List ByteArray→List (S72)→Int→Int→List (S35)→List (S43)→Bool→Option (List Int×Int×Int)
 |0,_,_,_,_,_,_,_,_,_,_,_,_,_=>none
 |k+1,x1,x2,x6,x22,x23,x24,x116000,x116001,x116002,x116003,x116004,x121000,x121001=>if x24<x23 then(if 0≤x24 then(if x24<(x22.length:Int) then(if x24<(x2.length:Int) then(machine_Run.j1 k x1 x2 x6 x24 (rd x22 x24) x22 x23 x24 ((rd x22 x24)==(x116001.length:Int)) x116000 x116001 x116002 x116003 x116004 x121000 x121001) else(machine_Run.j1 k x1 x2 x6 x24 (rd x22 x24) x22 x23 x24 false x116000 x116001 x116002 x116003 x116004 x121000 x121001)) else(none)) else(none)) else(some (x6,0,0))
def machine_Run.j1:Nat→List (List Int)→List Int→List Int→Int→Int→List Int→Int→Int→Bool→List ByteArray→List (S72)→Int→Int→List (S35)→List (S43)→Bool→Option (List Int×Int×Int)
 |0,_,_,_,_,_,_,_,_,_,_,_,_,_,_,_,_=>none
 |k+1,x1,x2,x6,x10,x11,x22,x23,x24,x39,x116000,x116001,x116002,x116003,x116004,x121000,x121001=>if x39=true then(some (([]:List Int),1,x10)) else((machine_Feed.f x116000 x116001 x116002 x116003 x116004 x1 x121000 x121001 x11).bind fun mY=>(if mY.2.2.2=0 then(if x6.length+mY.2.2.1.length<17592186044416 then(machine_Run.l0 k x1 x2 (x6++mY.2.2.1) x22 x23 (wrap64 (x24+1)) x116000 x116001 x116002 x116003 x116004 mY.1 mY.2.1) else(none)) else(some (([]:List Int),mY.2.2.2,x10))))
end
def machine_Run.f (k:Nat) (aU:List ByteArray) (aX:List (S72)) (bB:Int) (bK:Int) (aQ:List (S35)) (l1:List (List Int)) (l2:List Int):Option (List Int×Int×Int):=(machine_Start.f).bind fun Bt=>((slices_Clone_int_int.f l2).bind fun t121=>((some (([(aX.length:Int)]:List Int):List Int)).bind fun y124=>(if t121.length+y124.length<17592186044416 then((some (t121++y124:List Int)).bind fun y127=>(machine_Run.l0 k l1 l2 ([]:List Int) y127 (y127.length:Int) 0 aU aX bB bK aQ Bt.1 Bt.2)) else(none))))
theorem machine_Run.mono_l:∀k,(∀y0 y1 y2 y3 y4 y5 y6 y7 y8 y9 y10 y11 y12,LeO (machine_Run.l0 k y0 y1 y2 y3 y4 y5 y6 y7 y8 y9 y10 y11 y12) (machine_Run.l0 (k+1) y0 y1 y2 y3 y4 y5 y6 y7 y8 y9 y10 y11 y12))∧(∀y0 y1 y2 y3 y4 y5 y6 y7 y8 y9 y10 y11 y12 y13 y14 y15,LeO (machine_Run.j1 k y0 y1 y2 y3 y4 y5 y6 y7 y8 y9 y10 y11 y12 y13 y14 y15) (machine_Run.j1 (k+1) y0 y1 y2 y3 y4 y5 y6 y7 y8 y9 y10 y11 y12 y13 y14 y15))
 |0=>⟨fun _ _ _ _ _ _ _ _ _ _ _ _ _ r h=>by simp [machine_Run.l0] at h,fun _ _ _ _ _ _ _ _ _ _ _ _ _ _ _ _ r h=>by simp [machine_Run.j1] at h⟩
 |k+1=>by
  obtain⟨ih0,ih1⟩:=machine_Run.mono_l k;refine⟨?_,?_⟩
  ·intro y0 y1 y2 y3 y4 y5 y6 y7 y8 y9 y10 y11 y12
   unfold machine_Run.l0
   repeat' first
   |(with_reducible exact ih0 _ _ _ _ _ _ _ _ _ _ _ _ _)
   |(with_reducible exact ih1 _ _ _ _ _ _ _ _ _ _ _ _ _ _ _ _)
   |(with_reducible exact LeO.refl _)
   |(with_reducible exact LeO.none _)
   |(with_reducible refine LeO.ite ?_ ?_)
   |(with_reducible refine LeO.bind ?_ (fun _=>?_))
   |exact ih0 _ _ _ _ _ _ _ _ _ _ _ _ _
   |exact ih1 _ _ _ _ _ _ _ _ _ _ _ _ _ _ _ _
   |exact LeO.none _
   |refine LeO.ite ?_ ?_
   |refine LeO.bind ?_ (fun _=>?_)
  ·intro y0 y1 y2 y3 y4 y5 y6 y7 y8 y9 y10 y11 y12 y13 y14 y15
   unfold machine_Run.j1
   repeat' first
   |(with_reducible exact ih0 _ _ _ _ _ _ _ _ _ _ _ _ _)
   |(with_reducible exact ih1 _ _ _ _ _ _ _ _ _ _ _ _ _ _ _ _)
   |(with_reducible exact LeO.refl _)
   |(with_reducible exact LeO.none _)
   |(with_reducible refine LeO.ite ?_ ?_)
   |(with_reducible refine LeO.bind ?_ (fun _=>?_))
   |exact ih0 _ _ _ _ _ _ _ _ _ _ _ _ _
   |exact ih1 _ _ _ _ _ _ _ _ _ _ _ _ _ _ _ _
   |exact LeO.none _
   |refine LeO.ite ?_ ?_
   |refine LeO.bind ?_ (fun _=>?_)
theorem machine_Run.mono:∀a0 a1 a2 a3 a4 a5 a6 k,LeO (machine_Run.f k a0 a1 a2 a3 a4 a5 a6) (machine_Run.f (k+1) a0 a1 a2 a3 a4 a5 a6):=by
 intro a0 a1 a2 a3 a4 a5 a6 k;obtain⟨ih0,ih1⟩:=machine_Run.mono_l k
 unfold machine_Run.f
 repeat' first
  |(with_reducible exact ih0 _ _ _ _ _ _ _ _ _ _ _ _ _)
  |(with_reducible exact ih1 _ _ _ _ _ _ _ _ _ _ _ _ _ _ _ _)
  |(with_reducible exact LeO.refl _)
  |(with_reducible exact LeO.none _)
  |(with_reducible refine LeO.ite ?_ ?_)
  |(with_reducible refine LeO.bind ?_ (fun _=>?_))
  |exact ih0 _ _ _ _ _ _ _ _ _ _ _ _ _
  |exact ih1 _ _ _ _ _ _ _ _ _ _ _ _ _ _ _ _
  |exact LeO.none _
  |refine LeO.ite ?_ ?_
  |refine LeO.bind ?_ (fun _=>?_)
def machine_Run.T2:Bool×List (List Nat×List Nat):=(true,[([],[]),([0],[0]),([],[]),([2],[2]),([3],[3]),([4],[4]),([1,5,1],[1,5]),([6],[6]),([],[])])
def machine_Run.B2:List Nat:= [0,1,0,4,12,28,63,127,0]
theorem machine_Run.tab2:rtab .any (opsOf Try.f22 2)=machine_Run.T2:=by kernel_rfl
theorem machine_Run.bits2:waitsOk machine_Run.T2.2 machine_Run.B2=true:=by kernel_rfl
set_option maxHeartbeats 8000000 in
set_option maxRecDepth 100000 in
theorem machine_Run.calls (k:Nat) (bR:Option Addr) (bS:Nat) (aU:List ByteArray) (bU:Option Addr) (bV:Nat) (aX:List (S72)) (bB:Int) (bK:Int) (cC:Option Addr) (bX:Nat) (aQ:List (S35)) (A1:Option Addr) (c1:Nat) (l1:List (List Int)) (A2:Option Addr) (c2:Nat) (l2:List Int) (r1:List Int) (r2:Int) (r3:Int) (w:World) (dX:Kd.C Kd.string w bR aU.length aU) (dZ:aU.length≤bS) (eB:Kd.C k72 w bU aX.length aX) (eH:aX.length≤bV) (dY:Kd.C k35 w cC aQ.length aQ) (eJ:aQ.length≤bX) (hr1:Kd.C (Kd.slice 3 (Kd.int .i64)) w A1 l1.length l1) (hc1:l1.length≤c1) (hr2:Kd.C (Kd.int .i64) w A2 l2.length l2) (hc2:l2.length≤c2) (h:machine_Run.f k aU aX bB bK aQ l1 l2=some (r1,r2,r3)):
 Calls Try.prog 22 #[.agg #[.slice bR aU.length bS,.slice bU aX.length bV,.int .i64 bB,.int .i64 bK,.slice cC aQ.length bX],.slice A1 l1.length c1,.slice A2 l2.length c2] w fun e w'=>∃v0_:Value,e= .returned (.tuple #[v0_,.int .i64 r2,.int .i64 r3])∧Kd.R (Kd.int .i64) 3 w' w.heap.size (fun _=>True) v0_ r1∧Below w.heap.size w w':=by
 have hu26:=Try.underlying26;have hu31:=Try.underlying31;have jA:=aM dX;have jV:=aM dZ;clear dX dZ;have kL:=aM eB;have kM:=aM eH;clear eB eH;have fP:=aM dY;have kN:=aM eJ;clear dY eJ;have HR1:=aM hr1;have HC1:=aM hc1;clear hr1 hc1;have HR2:=aM hr2;have HC2:=aM hc2;clear hr2 hc2;have HB:=aM (Below.refl w.heap.size w);have H:((machine_Start.f).bind fun Bt=>((slices_Clone_int_int.f l2).bind fun t121=>((some (([(aX.length:Int)]:List Int):List Int)).bind fun y124=>(if t121.length+y124.length<17592186044416 then((some (t121++y124:List Int)).bind fun y127=>(machine_Run.l0 k l1 l2 ([]:List Int) y127 (y127.length:Int) 0 aU aX bB bK aQ Bt.1 Bt.2)) else(none)))))=some (r1,r2,r3):=h;clear h;replace H:=Option.bind_eq_some_iff.mp H;obtain⟨⟨t116,t119⟩,A40,H⟩:=H;replace H:((slices_Clone_int_int.f l2).bind fun t121=>((some (([(aX.length:Int)]:List Int):List Int)).bind fun y124=>(if t121.length+y124.length<17592186044416 then((some (t121++y124:List Int)).bind fun y127=>(machine_Run.l0 k l1 l2 ([]:List Int) y127 (y127.length:Int) 0 aU aX bB bK aQ t116 t119)) else(none))))=some (r1,r2,r3):=H;have A4:=aM A40;clear A40;replace H:=Option.bind_eq_some_iff.mp H;obtain⟨t121,A50,H⟩:=H;replace H:((some (([(aX.length:Int)]:List Int):List Int)).bind fun y124=>(if t121.length+y124.length<17592186044416 then((some (t121++y124:List Int)).bind fun y127=>(machine_Run.l0 k l1 l2 ([]:List Int) y127 (y127.length:Int) 0 aU aX bB bK aQ t116 t119)) else(none)))=some (r1,r2,r3):=H;have A5:=aM A50;clear A50;obtain⟨y124,Bu⟩:∃y_:List Int,y_=(([(aX.length:Int)]:List Int)):=⟨_,rfl⟩;replace H:(if t121.length+y124.length<17592186044416 then((some (t121++y124:List Int)).bind fun y127=>(machine_Run.l0 k l1 l2 ([]:List Int) y127 (y127.length:Int) 0 aU aX bB bK aQ t116 t119)) else(none))=some (r1,r2,r3):=by first|(rw [Bu];with_reducible exact H)|(have H2_:=(Option.bind_some _ _).symm.trans H;rw [Bu];with_reducible exact H2_)|(have H2_:=(Option.bind_some _ _).symm.trans H;with_reducible exact H2_)|with_reducible exact H|(rw [Bu];exact H)|exact H
 have Gy:=aM Bu;clear Bu
 by_cases c6:t121.length+y124.length<17592186044416
 rotate_left
 ·rw [if_neg c6] at H
  exact absurd H (by simp)
 rw [if_pos c6] at H;have Ri:=aM c6;clear c6;obtain⟨y127,Bv⟩:∃y_:List Int,y_=(t121++y124):=⟨_,rfl⟩;replace H:(machine_Run.l0 k l1 l2 ([]:List Int) y127 (y127.length:Int) 0 aU aX bB bK aQ t116 t119)=some (r1,r2,r3):=by first|(rw [Bv];with_reducible exact H)|(have H2_:=(Option.bind_some _ _).symm.trans H;rw [Bv];with_reducible exact H2_)|(have H2_:=(Option.bind_some _ _).symm.trans H;with_reducible exact H2_)|with_reducible exact H|(rw [Bv];exact H)|exact H
 have Xe:=aM Bv;clear Bv;have H':=aM H;clear H;go_enter Try.func22,Try.ntmps22
 try go_wp2_with (first|((with_reducible refine bJ (N:=3) rfl ?_);(try(refine gate_guard (by rfl) ?_;dsimp only));refine box_event ?hg (N:=3) ?hd (cs:=#[.slice bR aU.length bS,.slice bU aX.length bV,.int .i64 bB,.int .i64 bK,.slice cC aQ.length bX]) (t:=26) ?hr ?_;(case hd=>rfl);(case hg=>rfl);(case hr=>first|(go_simp;done)|(go_simp;rfl));intro eK hg w7 hbox hb;have cH:=aM (bG (gW HB.out) hb);have cI:=aM (hbox);have cK:=aM ((by rw [hg];exact(bH (gW HB.out)):w.heap.size≤eK));have cQ:=aM ((by rw [hg];exact(bH (gW HB.out)):w.heap.size≤eK));clear HB;have HB:=cH;have cJ:=cI;have GW115:=cK;have Gz:=cQ;clear cH cI cK cQ;clear hb hbox hg)|((with_reducible refine bI (f:=17) rfl ?_);refine goesL_ (some 15) rfl rfl Try.func17 (by kernel_rfl) rfl #[] rfl (by(try simp only [List.map_toArray,List.map_cons,List.map_nil]);first|done|rfl|(simp only [List.length_drop,List.length_take];rfl)) ?_;(with_reducible refine(machine_Start.calls  t116 t119 _ A4.out).mono ?_);rintro e w8 ⟨v117,rfl,ho0,hb⟩;refine⟨_,rfl,?_⟩;have cH:=aM (bL ho0 (bH (gW HB.out)));have cI:=aM (bF (gB cJ.out) hb);have cK:=aM (bG (gW HB.out) hb);clear cJ;clear HB;have gA:=cH;have cJ:=cI;have HB:=cK;clear cH cI cK;(try clear hb);(try clear hb2);(try clear hk);(try clear hi);(try clear ho0))|((with_reducible refine bJ (N:=9) rfl ?_);(try(refine gate_guard (by rfl) ?_;dsimp only));refine box_event ?hg (N:=9) ?hd (cs:=#[.slice none 0 0,.bool false]) (t:=31) ?hr ?_;(case hd=>rfl);(case hg=>rfl);(case hr=>first|(go_simp;done)|(go_simp;rfl));intro eP hg w9 hbox hb;have cH:=aM (aD (gR gA.out) hb);have cI:=aM (bF (gB cJ.out) hb);have cK:=aM (bG (gW HB.out) hb);have cQ:=aM (hbox);have dI:=aM ((by rw [hg];exact(bH (gW HB.out)):w.heap.size≤eP));have dR:=aM ((by rw [hg];exact(bH (gW HB.out)):w.heap.size≤eP));have dV:=aM ((by rw [hg];exact Nat.ne_of_lt (bN (g:=eK) (o:= .cells #[.slice bR aU.length bS,.slice bU aX.length bV,.int .i64 bB,.int .i64 bK,.slice cC aQ.length bX] 26 (0,0)) (gB cJ.out)):eK≠eP));have eV:=aM ((by rw [hg];exact Nat.ne_of_gt (bN (g:=eK) (o:= .cells #[.slice bR aU.length bS,.slice bU aX.length bV,.int .i64 bB,.int .i64 bK,.slice cC aQ.length bX] 26 (0,0)) (gB cJ.out)):eP≠eK));clear gA;clear cJ;clear HB;have gA:=cH;have cJ:=cI;have HB:=cK;have dG:=cQ;have GW120:=dI;have Ha:=dR;have iE:=dV;have lQ:=eV;clear cH cI cK cQ dI dR dV eV;clear hb hbox hg;obtain⟨nE,nF,Rn⟩:=Kd.R_slice gA.out;subst Rn;have hnb11:=lQ.out;have hnc11:=iE.out;have jD:w9.cell? ⟨eP,0,none⟩=some (.slice none 0 0):=(aG dG.out 0).trans rfl;have jE:w9.cell? ⟨eP,1,none⟩=some (.bool false):=(aG dG.out 1).trans rfl;have jF:=aH dG.out 0;have jG:=aH dG.out 1))
 have cH:Aside0 (Kd.R k43 43 ((w9.setCell ⟨eP,0,none⟩ (.slice nE t116.length nF)).setCell ⟨eP,1,none⟩ (.bool t119)) w.heap.size (fun _=>True) (.slice nE t116.length nF) t116):=⟨by(with_reducible repeat(first|apply aA|apply aB|apply aC));exact Kd.R_mono (aE (p:=⟨eP,1,none⟩) (aE (p:=⟨eP,0,none⟩) (Kd.R_types gA.out dG.out (by decide)) (fun _ hk=>hk.2) (.slice nE t116.length nF)) (fun _ hk=>hk.2) (.bool t119)) (fun _ hk=>trivial)⟩;have cI:Aside0 (((w9.setCell ⟨eP,0,none⟩ (.slice nE t116.length nF)).setCell ⟨eP,1,none⟩ (.bool t119)).heap[eK]?=some (.cells #[.slice bR aU.length bS,.slice bU aX.length bV,.int .i64 bB,.int .i64 bK,.slice cC aQ.length bX] 26 (0,0))):=⟨by(with_reducible repeat(first|refine aJ ?_ _|refine aK ?_|refine aI ?_ _));refine blk_far ?_ iE.out _;(with_reducible repeat(first|refine aJ ?_ _|refine aK ?_|refine aI ?_ _));refine blk_far ?_ iE.out _;(with_reducible repeat(first|refine aJ ?_ _|refine aK ?_|refine aI ?_ _));exact cJ.out⟩;have cK:Aside0 (((w9.setCell ⟨eP,0,none⟩ (.slice nE t116.length nF)).setCell ⟨eP,1,none⟩ (.bool t119)).heap[eP]?=some (.cells #[.slice nE t116.length nF,.bool t119] 31 (0,0))):=⟨by(with_reducible repeat(first|refine aJ ?_ _|refine aK ?_|refine aI ?_ _));refine blk_put (cs:=#[.slice nE t116.length nF,.bool false]) ?_ 1 _ rfl;(with_reducible repeat(first|refine aJ ?_ _|refine aK ?_|refine aI ?_ _));refine blk_put (cs:=#[.slice none 0 0,.bool false]) ?_ 0 _ rfl;(with_reducible repeat(first|refine aJ ?_ _|refine aK ?_|refine aI ?_ _));exact dG.out⟩;have cQ:Aside0 (Below w.heap.size w ((w9.setCell ⟨eP,0,none⟩ (.slice nE t116.length nF)).setCell ⟨eP,1,none⟩ (.bool t119))):=⟨by repeat(first|(with_reducible first|exact HB.out|apply aN|apply aP|apply aO|refine aL ?_ Gz.out|refine aL ?_ Ha.out)|exact HB.out)⟩
 (try clear gA);(try clear cJ);(try clear dG);(try clear HB)
 generalize ((w9.setCell ⟨eP,0,none⟩ (.slice nE t116.length nF)).setCell ⟨eP,1,none⟩ (.bool t119))=w13 at cH cI cK cQ ⊢;have gA:=cH;have cJ:=cI;have dG:=cK;have HB:=cQ;clear cH cI cK cQ;have cH:=aM (aC gA.out);have cI:=aM (aK cJ.out);have cK:=aM (aK dG.out);have cQ:=aM (aO HB.out);clear gA cJ dG HB;have gA:=cH;have cJ:=cI;have dG:=cK;have HB:=cQ;clear cH cI cK cQ;refine start_ (n:=9) (S:=fun w'=>w'.cell? ⟨eK,0,none⟩=some (.slice bR aU.length bS)∧w'.cell? ⟨eK,1,none⟩=some (.slice bU aX.length bV)∧w'.cell? ⟨eK,2,none⟩=some (.int .i64 bB)∧w'.cell? ⟨eK,3,none⟩=some (.int .i64 bK)∧w'.cell? ⟨eK,4,none⟩=some (.slice cC aQ.length bX)) (ds:= []) #[F,F,F,F,F,F,F,F,F] (by kernel_rfl) rfl rfl ⟨(aG cJ.out 0).trans rfl,(aG cJ.out 1).trans rfl,(aG cJ.out 2).trans rfl,(aG cJ.out 3).trans rfl,(aG cJ.out 4).trans rfl⟩ (fun hHeld=>?_);refine with_tabW machine_Run.tab2 machine_Run.bits2 (fun HT_ HW_=>?_)
 generalize w13.drew=w14 at gA cJ dG HB hHeld ⊢;refine pure_ (i:=0) (N:=some 16) (v:=?_) (a':=?_) #[T,F,F,F,F,F,F,F,F] rfl rfl (any_of HT_.out (by kernel_rfl)) (fun _ _ _ h=>h) (Or.inl ⟨by rfl,?_⟩) ?_ ?_
 rotate_left;(intro w';go_simp;with_reducible rfl);rotate_left;(simp only [pq];rfl)
 refine pure_ (i:=2) (N:=some 18) (v:=?_) (a':=?_) #[T,F,T,F,F,F,F,F,F] rfl rfl (any_of HT_.out (by kernel_rfl)) (fun _ _ _ h=>h) (Or.inl ⟨by rfl,?_⟩) ?_ ?_
 rotate_left;(intro w';go_simp;with_reducible rfl);rotate_left;(simp only [pq];rfl)
 refine pure_ (i:=8) (N:=some 24) (v:=?_) (a':=?_) #[T,F,T,F,F,F,F,F,T] rfl rfl (any_of HT_.out (by kernel_rfl)) (fun _ _ _ h=>h) (Or.inl ⟨by rfl,?_⟩) ?_ ?_
 rotate_left;(intro w';go_simp;with_reducible rfl);rotate_left;(simp only [pq];rfl)
 refine take_ (i:=3) (N:=some 19) (v:=?_) (a':=?_) #[T,F,T,T,F,F,F,F,T] rfl rfl (take_ofW HT_.out HW_.out (by kernel_rfl)) (fun _ _ _ h=>h) (Or.inl ⟨by rfl,?_⟩) hHeld ?_ ?_
 rotate_left
 ·rintro w' ⟨s0,s1,s2,s3,s4⟩
  go_simp
  with_reducible rfl
 rotate_left
 ·simp only [pq]
  rfl
 refine pure_ (i:=4) (N:=some 20) (v:=?_) (a':=?_) #[T,F,T,T,T,F,F,F,T] rfl rfl (any_of HT_.out (by kernel_rfl)) (fun _ _ _ h=>h) (Or.inl ⟨by rfl,?_⟩) ?_ ?_
 rotate_left;(intro w';go_simp;with_reducible rfl);rotate_left;(simp only [pq];rfl)
 refine join_ (σ:=Value×Value) 2 #[T,T,T,T,T,T,F,F,T] (fun s_=> [(17,s_.1),(21,s_.2)]) (fun s_ w'=>(w'.cell? ⟨eK,0,none⟩=some (.slice bR aU.length bS)∧w'.cell? ⟨eK,1,none⟩=some (.slice bU aX.length bV)∧w'.cell? ⟨eK,2,none⟩=some (.int .i64 bB)∧w'.cell? ⟨eK,3,none⟩=some (.int .i64 bK)∧w'.cell? ⟨eK,4,none⟩=some (.slice cC aQ.length bX))∧(Kd.R k43 43 w' w.heap.size (fun _=>True) (.slice nE t116.length nF) t116)∧(Kd.R (Kd.int .i64) 3 w' w.heap.size (fun k_=>some k_≠(s_.2:Value).ownBlock) s_.1 t121)∧(Kd.R (Kd.int .i64) 3 w' w.heap.size (fun k_=>some k_≠(s_.1:Value).ownBlock) s_.2 y124)∧(w'.heap[eK]?=some (.cells #[.slice bR aU.length bS,.slice bU aX.length bV,.int .i64 bB,.int .i64 bK,.slice cC aQ.length bX] 26 (0,0)))∧(w'.heap[eP]?=some (.cells #[.slice nE t116.length nF,.bool t119] 31 (0,0)))∧(Below w.heap.size w w')) ?_ ?_
 rotate_left
 ·intro hCont
  refine two_ (i:=1) (j:=5) (Ni:=some 17) (Nj:=some 21) #[T,T,T,T,T,F,F,F,T] #[T,F,T,T,T,T,F,F,T] rfl rfl rfl rfl (two_of HT_.out (by kernel_rfl)) (by decide) (by decide) (fun K hK=>?_) (fun K hK=>?_)
  ·skip
   refine goes_ Try.func34 (by kernel_rfl) rfl #[.slice A2 l2.length c2] (by rfl) rfl rfl (by(try simp only [List.map_toArray,List.map_cons,List.map_nil]);first|done|rfl|(simp only [List.length_drop,List.length_take];rfl)) ?_
   with_reducible refine(slices_Clone_int_int.calls _ _ l2 t121 _ ?side1 ?side2 A5.out).mono ?_
   (case side1=>exact gC (bD HR2.out HB.out))
   (case side2=>exact HC2.out)
   rintro e w15 ⟨v122,rfl,ho0,hb⟩
   refine⟨_,rfl,?_⟩
   have cH:=aM (aD (gR gA.out) hb);have cI:=aM (bL ho0 (bH (gW HB.out)));have cK:=aM (bF (gB cJ.out) hb);have cQ:=aM (bF (gB dG.out) hb);have dI:=aM (bG (gW HB.out) hb);clear gA cJ dG HB;have gA:=cH;have mZ:=cI;have cJ:=cK;have dG:=cQ;have HB:=dI;clear cH cI cK cQ dI
   (try clear hb);(try clear hb2);(try clear hk);(try clear hi);(try clear ho0)
   refine hK.out _ _ ⟨(aG cJ.out 0).trans rfl,(aG cJ.out 1).trans rfl,(aG cJ.out 2).trans rfl,(aG cJ.out 3).trans rfl,(aG cJ.out 4).trans rfl⟩ (fun hHeld=>?_)
   clear hK K;refine norm_ (a':=?_) ?_ ?_
   rotate_left
   ·show Act.put _ (some 17) _=_
    simp only [pq];rfl
   refine one_ (i:=5) (N:=some 21) #[T,T,T,T,T,T,F,F,T] rfl rfl (one_of HT_.out (by kernel_rfl)) (by decide) (fun K hK=>?_)
   refine Kd.R_lit_step (Kd.int .i64) _ 3 ?hg (N:=21) ?hd (xs:=([(aX.length:Int)]:List Int)) (inner:= [.int .i64 (aX.length:Int)]) (ok:=fun _=>True) (okp:=fun _=>True) ?hr ?hp (fun _ hk=>hk) trivial (Below.refl _ _) (Nat.le_refl _) (by simp) ?_;(case hd=>rfl);(case hg=>rfl);(case hr=>first|(go_simp;done)|(go_simp;rfl));(case hp=>exact(Reps.one (show Kd.M (Kd.int .i64) _ _ _ (aX.length:Int) [.int .i64 (aX.length:Int)] from rfl) (Reps.none _ _)))
   intro v125 w16 ho17 hb hg_ hnew_;clear hg_ hnew_
   (first|rw [←Gy.out] at ho17|(simp only [Int.reduceToNat] at ho17;rw [←Gy.out] at ho17))
   have cH:=aM (aD (gR gA.out) hb);have cI:=aM (bE (gR mZ.out) (Kd.R_base ho17) hb);have cK:=aM (bL (Kd.R_new' ho17 (Kd.R_lt (gR mZ.out))) (bH (gW HB.out)));have cQ:=aM (bF (gB cJ.out) hb);have dI:=aM (bF (gB dG.out) hb);have dR:=aM (bG (gW HB.out) hb);clear gA mZ cJ dG HB;have gA:=cH;have mZ:=cI;have mR:=cK;have cJ:=cQ;have dG:=dI;have HB:=dR;clear cH cI cK cQ dI dR hb ho17;refine hK.out _ _ ⟨(aG cJ.out 0).trans rfl,(aG cJ.out 1).trans rfl,(aG cJ.out 2).trans rfl,(aG cJ.out 3).trans rfl,(aG cJ.out 4).trans rfl⟩ (fun hHeld=>?_)
   clear hK K;refine norm_ (a':=?_) ?_ ?_
   rotate_left
   ·show Act.put _ (some 21) _=_
    simp only [pq];rfl
   exact norm_ (by simp only [putAll,Act.put,List.setIfInBounds_toArray,List.set_cons_zero,List.set_cons_succ]) (hCont (v122,v125) _ ⟨hHeld,(gR gA.out),(by(with_reducible repeat(first|apply aA|apply aB|apply aC));exact Kd.R_mono mZ.out (fun _ hk=>hk.2)),(by(with_reducible repeat(first|apply aA|apply aB|apply aC));exact Kd.R_mono mR.out (fun _ hk=>hk.2)),(gB cJ.out),(gB dG.out),(gW HB.out)⟩)
  ·skip
   refine Kd.R_lit_step (Kd.int .i64) _ 3 ?hg (N:=21) ?hd (xs:=([(aX.length:Int)]:List Int)) (inner:= [.int .i64 (aX.length:Int)]) (ok:=fun _=>True) (okp:=fun _=>True) ?hr ?hp (fun _ hk=>hk) trivial (Below.refl _ _) (Nat.le_refl _) (by simp) ?_;(case hd=>rfl);(case hg=>rfl);(case hr=>first|(go_simp;done)|(go_simp;rfl));(case hp=>exact(Reps.one (show Kd.M (Kd.int .i64) _ _ _ (aX.length:Int) [.int .i64 (aX.length:Int)] from rfl) (Reps.none _ _)))
   intro v125 w15 ho16 hb hg_ hnew_;clear hg_ hnew_
   (first|rw [←Gy.out] at ho16|(simp only [Int.reduceToNat] at ho16;rw [←Gy.out] at ho16))
   have cH:=aM (aD (gR gA.out) hb);have cI:=aM (bL ho16 (bH (gW HB.out)));have cK:=aM (bF (gB cJ.out) hb);have cQ:=aM (bF (gB dG.out) hb);have dI:=aM (bG (gW HB.out) hb);clear gA cJ dG HB;have gA:=cH;have mR:=cI;have cJ:=cK;have dG:=cQ;have HB:=dI;clear cH cI cK cQ dI hb ho16;refine hK.out _ _ ⟨(aG cJ.out 0).trans rfl,(aG cJ.out 1).trans rfl,(aG cJ.out 2).trans rfl,(aG cJ.out 3).trans rfl,(aG cJ.out 4).trans rfl⟩ (fun hHeld=>?_)
   clear hK K;refine norm_ (a':=?_) ?_ ?_
   rotate_left
   ·show Act.put _ (some 21) _=_
    simp only [pq];rfl
   refine one_ (i:=1) (N:=some 17) #[T,T,T,T,T,T,F,F,T] rfl rfl (one_of HT_.out (by kernel_rfl)) (by decide) (fun K hK=>?_)
   refine goes_ Try.func34 (by kernel_rfl) rfl #[.slice A2 l2.length c2] (by rfl) rfl rfl (by(try simp only [List.map_toArray,List.map_cons,List.map_nil]);first|done|rfl|(simp only [List.length_drop,List.length_take];rfl)) ?_
   with_reducible refine(slices_Clone_int_int.calls _ _ l2 t121 _ ?side1 ?side2 A5.out).mono ?_
   (case side1=>exact gC (bD HR2.out HB.out))
   (case side2=>exact HC2.out)
   rintro e w17 ⟨v122,rfl,ho0,hb⟩
   refine⟨_,rfl,?_⟩
   have cH:=aM (aD (gR gA.out) hb);have cI:=aM (bE (gR mR.out) (Kd.R_base ho0) hb);have cK:=aM (bL (Kd.R_new' ho0 (Kd.R_lt (gR mR.out))) (bH (gW HB.out)));have cQ:=aM (bF (gB cJ.out) hb);have dI:=aM (bF (gB dG.out) hb);have dR:=aM (bG (gW HB.out) hb);clear gA mR cJ dG HB;have gA:=cH;have mR:=cI;have mZ:=cK;have cJ:=cQ;have dG:=dI;have HB:=dR;clear cH cI cK cQ dI dR
   (try clear hb);(try clear hb2);(try clear hk);(try clear hi);(try clear ho0)
   refine hK.out _ _ ⟨(aG cJ.out 0).trans rfl,(aG cJ.out 1).trans rfl,(aG cJ.out 2).trans rfl,(aG cJ.out 3).trans rfl,(aG cJ.out 4).trans rfl⟩ (fun hHeld=>?_)
   clear hK K;refine norm_ (a':=?_) ?_ ?_
   rotate_left
   ·show Act.put _ (some 17) _=_
    simp only [pq];rfl
   exact norm_ (by simp only [putAll,Act.put,List.setIfInBounds_toArray,List.set_cons_zero,List.set_cons_succ]) (hCont (v122,v125) _ ⟨hHeld,(gR gA.out),(by(with_reducible repeat(first|apply aA|apply aB|apply aC));exact Kd.R_mono mZ.out (fun _ hk=>hk.2)),(by(with_reducible repeat(first|apply aA|apply aB|apply aC));exact Kd.R_mono mR.out (fun _ hk=>hk.2)),(gB cJ.out),(gB dG.out),(gW HB.out)⟩)
 rintro⟨v122,v125⟩ w18 ⟨hS_,h0_,h1_,h2_,h3_,h4_,h5_⟩
 have cH:Aside0 (Kd.R k43 43 w18 w.heap.size (fun _=>True) (.slice nE t116.length nF) t116):=⟨h0_⟩;have cI:Aside0 (Kd.R (Kd.int .i64) 3 w18 w.heap.size (fun k_=>some k_≠(v125:Value).ownBlock) v122 t121):=⟨h1_⟩;have cK:Aside0 (Kd.R (Kd.int .i64) 3 w18 w.heap.size (fun k_=>some k_≠(v122:Value).ownBlock) v125 y124):=⟨h2_⟩;have cQ:Aside0 (w18.heap[eK]?=some (.cells #[.slice bR aU.length bS,.slice bU aX.length bV,.int .i64 bB,.int .i64 bK,.slice cC aQ.length bX] 26 (0,0))):=⟨h3_⟩;have dI:Aside0 (w18.heap[eP]?=some (.cells #[.slice nE t116.length nF,.bool t119] 31 (0,0))):=⟨h4_⟩;have dR:Aside0 (Below w.heap.size w w18):=⟨h5_⟩;clear gA cJ dG HB h0_ h1_ h2_ h3_ h4_ h5_;have gA:=cH;have mZ:=cI;have mR:=cK;have cJ:=cQ;have dG:=dI;have HB:=dR;clear cH cI cK cQ dI dR;have hHeld:w18.cell? ⟨eK,0,none⟩=some (.slice bR aU.length bS)∧w18.cell? ⟨eK,1,none⟩=some (.slice bU aX.length bV)∧w18.cell? ⟨eK,2,none⟩=some (.int .i64 bB)∧w18.cell? ⟨eK,3,none⟩=some (.int .i64 bK)∧w18.cell? ⟨eK,4,none⟩=some (.slice cC aQ.length bX):=hS_;obtain⟨jN,jH,zR⟩:=Kd.R_slice mR.out
 (first|subst zR|(injection zR with f1_ f2_ f3_;have f4_:=f1_.symm;have f5_:=f3_.symm;clear f1_ f2_ f3_;subst f4_;subst f5_))
 refine norm_ (a':=?_) ?_ ?_
 rotate_left
 ·simp only [putAll,Act.put,List.setIfInBounds_toArray,List.set_cons_zero,List.set_cons_succ]
  rfl
 refine one_ (i:=6) (N:=some 22) #[T,T,T,T,T,T,T,F,T] rfl rfl (one_of HT_.out (by kernel_rfl)) (by decide) (fun K hK=>?_)
 refine Kd.R_append_rows_step (Kd.int .i64) (w0:=w) w.heap.size (by rfl) (.tmp 17) (.tmp 21) 32 3 (.int .i64 0) 8 rfl Try.underlying32 info3 rfl (by decide) (by omega) v122 t121 y124 _ _ _ (fun k_=>some k_≠(.slice jN y124.length jH:Value).ownBlock) (fun _=>False) rfl rfl ?aO ?aR (fun _ _ h=>h) (fun _ h=>h.elim) ?aF ?aB ?aS ?aL ?_
 (case aR=>exact gC (aF mR.out).2.2)
 (case aB=>exact(gW HB.out))
 (case aF=>exact(fun k_ hk=>Kd.fresh' (Kd.R_lt (gR mR.out)) k_ hk))
 (case aO=>exact(gR mZ.out))
 (case aS=>exact(bH (gW HB.out)))
 (case aL=>have:=Ri.out;omega)
 intro v128 w19 ho hb hg hat;rw [←Xe.out] at ho;have cH:=aM (blk_grown (gB cJ.out) hg (Kd.R_ne mZ.out cJ.out (by decide)));have cI:=aM (Kd.R_over' (gR gA.out) (Kd.R_typed (gR mZ.out)) (by decide) hg);have cK:=aM (blk_grown (gB dG.out) hg (Kd.R_ne mZ.out dG.out (by decide)));have cQ:=aM (Kd.R_after (ok:=(fun _=>True)) (by(with_reducible repeat(first|apply aA|apply aB|apply aC));exact Kd.R_mono mR.out (fun _ hk=>⟨trivial,hk⟩)) hg hat);have dI:=aM (hb);have dR:=aM (ho);clear cJ gA dG mR HB mZ;have cJ:=cH;have gA:=cI;have dG:=cK;have mR:=cQ;have HB:=dI;have Qq:=dR;clear cH cI cK cQ dI dR ho hb hg hat;obtain⟨Dh,sE,Ox⟩:=Kd.R_slice Qq.out
 (first|subst Ox|(injection Ox with f1_ f2_ f3_;have f4_:=f1_.symm;have f5_:=f3_.symm;clear f1_ f2_ f3_;subst f4_;subst f5_))
 refine hK.out _ _ ⟨(aG cJ.out 0).trans rfl,(aG cJ.out 1).trans rfl,(aG cJ.out 2).trans rfl,(aG cJ.out 3).trans rfl,(aG cJ.out 4).trans rfl⟩ (fun hHeld=>?_)
 clear hK K;refine norm_ (a':=?_) ?_ ?_
 rotate_left
 ·show Act.put _ (some 22) _=_
  simp only [pq];rfl
 refine pure_ (i:=7) (N:=some 23) (v:=?_) (a':=?_) #[T,T,T,T,T,T,T,T,T] rfl rfl (any_of HT_.out (by kernel_rfl)) (fun _ _ _ h=>h) (Or.inl ⟨by rfl,?_⟩) ?_ ?_
 rotate_left;(intro w';go_simp;with_reducible rfl);rotate_left;(simp only [pq];rfl)
 refine done_ (done_of HT_.out (by kernel_rfl)) ?_
 try go_wp2
 go_loopg [6,24] k (fun kq v6 v24 w'=>∃(bW:List Int) (fX:Int) (eQ:List (S43)) (eR:Bool) (u121000:Value),v24= .int .i64 fX∧Aside0 (machine_Run.l0 kq l1 l2 bW y127 (y127.length:Int) fX aU aX bB bK aQ eQ eR=some (r1,r2,r3))∧Aside0 (kq≤k)∧Aside0 (Kd.R (Kd.int .i64) 3 w' w.heap.size (fun k_=>some k_≠((.slice Dh y127.length sE):Value).ownBlock) v6 bW)∧Aside0 (Kd.R (Kd.int .i64) 3 w' w.heap.size (fun k_=>some k_≠(v6:Value).ownBlock) (.slice Dh y127.length sE) y127)∧Aside0 (Kd.R k43 43 w' w.heap.size (fun _=>True) u121000 eQ)∧Aside0 (w'.heap[eK]?=some (.cells #[(.slice bR aU.length bS),(.slice bU aX.length bV),.int .i64 bB,.int .i64 bK,(.slice cC aQ.length bX)] 26 (0,0)))∧Aside0 (w'.heap[eP]?=some (.cells #[u121000,.bool eR] 31 (0,0)))∧Aside0 (Below w.heap.size w w'))
 case atStart=>exact⟨(([]:List Int)),(0),(t116),(t119),(.slice nE t116.length nF),(by first|rfl|(simp;done)|(simp [*];done)),H',⟨Nat.le_refl _⟩,⟨by first|exact Kd.R_nil _ _ _ _ _|exact Kd.N_nil _ _ _ _ _|exact Kd.V_nil _ _ _ _ _|exact Kd.Q_nil _ _ _ _ _|exact Kd.S_nil _ _ _ _ _⟩,⟨by(with_reducible repeat(first|apply aA|apply aB|apply aC));exact Kd.R_mono Qq.out (fun _ hk=>(by simp [Value.ownBlock]))⟩,⟨gR gA.out⟩,⟨gB cJ.out⟩,⟨gB dG.out⟩,⟨gW HB.out⟩⟩
 case round=>
  clear H'
  (try clear c1);(try clear c2);(try clear p2);(try clear c3);(try clear c6);(try clear c11);(try clear c17);(try clear jD);(try clear jE);(try clear jF);(try clear jG)
  obtain⟨bW,fX,eQ,eR,u121000,rfl,HA,HK1,jC,gG,dL,cJ,dG,HB⟩:=hrel
  cases gk with
  |zero=>exact absurd HA.out (by simp [machine_Run.l0])
  |succ k1=>
   have H:=HA.out;clear HA;simp only [machine_Run.l0] at H
   by_cases c22:fX<(y127.length:Int)
   ·rw [if_pos c22] at H
    have wI:decide (fX<(y127.length:Int))=true:=decide_eq_true c22;clear c22
    by_cases c23:0≤fX
    rotate_left
    ·rw [if_neg c23] at H
     exact absurd H (by simp)
    rw [if_pos c23] at H;have Dn:decide (0≤fX)=true:=decide_eq_true c23;clear c23
    by_cases c24:fX<(y127.length:Int)
    rotate_left
    ·rw [if_neg c24] at H
     exact absurd H (by simp)
    rw [if_pos c24] at H;have wJ:decide (fX<(y127.length:Int))=true:=decide_eq_true c24;clear c24;have HC25:=aM H;clear H;have p130:0≤(fX:Int):=of_decide_eq_true (by first|(with_reducible assumption)|assumption);have q130:fX<(y127.length:Int):=of_decide_eq_true (by first|(with_reducible assumption)|assumption);obtain⟨vX,e130,Oy⟩:=Kd.at_int (aF gG.out).2.2 fX p130 q130
    cases e130;replace p130:=eq_true p130;replace q130:=eq_true q130
    go_upto_region 5 with(fail)
    go_cut [39] (fun v39 wc=>∃(kq:Nat) (yM:Bool),v39= .bool yM∧Aside0 (machine_Run.j1 kq l1 l2 bW fX (rd y127 fX) y127 (y127.length:Int) fX yM aU aX bB bK aQ eQ eR=some (r1,r2,r3))∧Aside0 (kq≤k1)∧Aside0 (Kd.R (Kd.int .i64) 3 wc w.heap.size (fun k_=>some k_≠((.slice (some vX) y127.length sE):Value).ownBlock) u6 bW)∧Aside0 (Kd.R (Kd.int .i64) 3 wc w.heap.size (fun k_=>some k_≠(u6:Value).ownBlock) (.slice (some vX) y127.length sE) y127)∧Aside0 (Kd.R k43 43 wc w.heap.size (fun _=>True) u121000 eQ)∧Aside0 (wc.heap[eK]?=some (.cells #[(.slice bR aU.length bS),(.slice bU aX.length bV),.int .i64 bB,.int .i64 bK,(.slice cC aQ.length bX)] 26 (0,0)))∧Aside0 (wc.heap[eP]?=some (.cells #[u121000,.bool eR] 31 (0,0)))∧Aside0 (Below w.heap.size w wc))
    case first=>
     have H:=HC25.out;clear HC25
     by_cases c26:fX<(l2.length:Int)
     ·rw [if_pos c26] at H
      have vQ:decide (fX<(l2.length:Int))=true:=decide_eq_true c26;clear c26
      (first|rw [vQ]|(simp only [i64_w,i32_w];rw [vQ])|skip)
      have H':=aM H;clear H;have hnb27:=iE.out;have hnc27:=lQ.out;have xM:wr.cell? ⟨eK,0,none⟩=some (.slice bR aU.length bS):=(aG cJ.out 0).trans rfl;have xN:wr.cell? ⟨eK,1,none⟩=some (.slice bU aX.length bV):=(aG cJ.out 1).trans rfl;have xO:wr.cell? ⟨eK,2,none⟩=some (.int .i64 bB):=(aG cJ.out 2).trans rfl;have xP:wr.cell? ⟨eK,3,none⟩=some (.int .i64 bK):=(aG cJ.out 3).trans rfl;have xQ:wr.cell? ⟨eK,4,none⟩=some (.slice cC aQ.length bX):=(aG cJ.out 4).trans rfl;have xR:=aH cJ.out 0;have xS:=aH cJ.out 1;have xT:=aH cJ.out 2;have xU:=aH cJ.out 3;have xV:=aH cJ.out 4;go_wp2
      go_meet
      case rel=>exact⟨_,(((rd y127 fX)==(aX.length:Int))),(by first|rfl|(simp;done)|(simp [*];done)),H',⟨by have:=HK1.out;first|omega|exact Nat.le_refl _⟩,⟨gR jC.out⟩,⟨gR gG.out⟩,⟨gR dL.out⟩,⟨gB cJ.out⟩,⟨gB dG.out⟩,⟨gW HB.out⟩⟩
     ·rw [if_neg c26] at H
      have vQ:decide (fX<(l2.length:Int))=false:=decide_eq_false c26;clear c26
      (first|rw [vQ]|(simp only [i64_w,i32_w];rw [vQ])|skip)
      have H':=aM H;clear H;go_wp2
      go_meet
      case rel=>exact⟨_,(false),(by first|rfl|(simp;done)|(simp [*];done)),H',⟨by have:=HK1.out;first|omega|exact Nat.le_refl _⟩,⟨gR jC.out⟩,⟨gR gG.out⟩,⟨gR dL.out⟩,⟨gB cJ.out⟩,⟨gB dG.out⟩,⟨gW HB.out⟩⟩
    case rest=>
     clear HC25
     (try clear c1);(try clear p1);(try clear q1);(try clear hx1);(try clear c2);(try clear p2);(try clear c3);(try clear c6);(try clear c11);(try clear p13);(try clear q13);(try clear hx13);(try clear c17);(try clear c22);(try clear wI);(try clear c23);(try clear Dn);(try clear c24);(try clear wJ);(try clear c26);(try clear vQ);(try clear c27);(try clear jD);(try clear jE);(try clear xM)
     (try clear xN);(try clear xO);(try clear xP);(try clear xQ);(try clear jF);(try clear jG);(try clear xR);(try clear xS);(try clear xT);(try clear xU);(try clear xV);(try clear Oy);(try clear p130);(try clear p2);(try clear q130)
     obtain⟨kq,yM,rfl,HA,HJ24,jC,gG,dL,cJ,dG,HB⟩:=hcut
     cases kq with
     |zero=>exact absurd HA.out (by simp [machine_Run.j1])
     |succ Oz=>
      have H:=HA.out;clear HA;simp only [machine_Run.j1] at H
      by_cases c29:yM=true
      ·subst c29
       have H1:(some (([]:List Int),1,fX))=some (r1,r2,r3):=by rw [if_pos rfl] at H;exact H
       clear H;have H:=H1;clear H1;simp only [Option.some.injEq,Prod.mk.injEq] at H;obtain⟨rfl,rfl,rfl⟩:=H;go_wp2
       go_ret3
       exact⟨_,by first|rfl|(simp [errW_none,errW_some]<;>rfl)|(simp [*,errW_none,errW_some]<;>rfl),by first|exact Kd.R_nil _ _ _ _ _|exact Kd.N_nil _ _ _ _ _|exact Kd.V_nil _ _ _ _ _|exact Kd.Q_nil _ _ _ _ _|exact Kd.S_nil _ _ _ _ _,gW HB.out⟩
      ·replace c29:=Bool.eq_false_iff.mpr c29
       subst c29;have H1:((machine_Feed.f aU aX bB bK aQ l1 eQ eR (rd y127 fX)).bind fun mY=>(if mY.2.2.2=0 then(if bW.length+mY.2.2.1.length<17592186044416 then(machine_Run.l0 Oz l1 l2 (bW++mY.2.2.1) y127 (y127.length:Int) (wrap64 (fX+1)) aU aX bB bK aQ mY.1 mY.2.1) else(none)) else(some (([]:List Int),mY.2.2.2,fX))))=some (r1,r2,r3):=by rw [if_neg (show ¬(false=true) by decide)] at H;exact H
       clear H;have H:=H1;clear H1;replace H:=Option.bind_eq_some_iff.mp H;obtain⟨⟨t131,t134,t135,t138⟩,A300,H⟩:=H;replace H:(if t138=0 then(if bW.length+t135.length<17592186044416 then(machine_Run.l0 Oz l1 l2 (bW++t135) y127 (y127.length:Int) (wrap64 (fX+1)) aU aX bB bK aQ t131 t134) else(none)) else(some (([]:List Int),t138,fX)))=some (r1,r2,r3):=H;have A30:=aM A300;clear A300
       by_cases c31:t138=0
       ·rw [if_pos c31] at H
        have Xf:(t138==0)=true:=beq_iff_eq.mpr c31;have Xg:(t138 !=0)=false:=bne_eq_false_iff_eq.mpr c31;clear c31
        by_cases c32:bW.length+t135.length<17592186044416
        rotate_left
        ·rw [if_neg c32] at H
         exact absurd H (by simp)
        rw [if_pos c32] at H;have Xh:=aM c32;clear c32;obtain⟨y140,Bw⟩:∃y_:List Int,y_=(bW++t135):=⟨_,rfl⟩;replace H:(machine_Run.l0 Oz l1 l2 y140 y127 (y127.length:Int) (wrap64 (fX+1)) aU aX bB bK aQ t131 t134)=some (r1,r2,r3):=by first|(rw [Bw];with_reducible exact H)|(have H2_:=(Option.bind_some _ _).symm.trans H;rw [Bw];with_reducible exact H2_)|(have H2_:=(Option.bind_some _ _).symm.trans H;with_reducible exact H2_)|with_reducible exact H|(rw [Bw];exact H)|exact H
        have Xi:=aM Bw;clear Bw;have H':=aM H;clear H;have hnb33:=iE.out;have hnc33:=lQ.out;have qW:wc.cell? ⟨eK,0,none⟩=some (.slice bR aU.length bS):=(aG cJ.out 0).trans rfl;have qX:wc.cell? ⟨eK,1,none⟩=some (.slice bU aX.length bV):=(aG cJ.out 1).trans rfl;have uR:wc.cell? ⟨eK,2,none⟩=some (.int .i64 bB):=(aG cJ.out 2).trans rfl;have uS:wc.cell? ⟨eK,3,none⟩=some (.int .i64 bK):=(aG cJ.out 3).trans rfl;have uT:wc.cell? ⟨eK,4,none⟩=some (.slice cC aQ.length bX):=(aG cJ.out 4).trans rfl;have qY:=aH cJ.out 0;have qZ:=aH cJ.out 1;have uU:=aH cJ.out 2;have uV:=aH cJ.out 3;have uW:=aH cJ.out 4;have tA:wc.cell? ⟨eP,0,none⟩=some (u121000):=(aG dG.out 0).trans rfl;have qC:wc.cell? ⟨eP,1,none⟩=some (.bool eR):=(aG dG.out 1).trans rfl;have tB:=aH dG.out 0;have tC:=aH dG.out 1;obtain⟨vY,vZ,St⟩:=Kd.R_slice dL.out;subst St
        try go_wp2_with (first|((with_reducible refine bI (f:=23) rfl ?_);refine goesL_ (some 46) rfl rfl Try.func23 (by kernel_rfl) rfl #[.agg #[.slice bR aU.length bS,.slice bU aX.length bV,.int .i64 bB,.int .i64 bK,.slice cC aQ.length bX],.slice A1 l1.length c1,.agg #[.slice vY eQ.length vZ,.bool eR],.int .i64 (rd y127 fX)] rfl (by(try simp only [List.map_toArray,List.map_cons,List.map_nil]);first|done|rfl|(simp only [List.length_drop,List.length_take];rfl)) ?_;(with_reducible refine(machine_Feed.calls _ _ aU _ _ aX bB bK _ _ aQ _ _ l1 _ _ eQ eR (rd y127 fX) t131 t134 t135 t138 _ ?side1 ?side2 ?side3 ?side4 ?side5 ?side6 ?side7 ?side8 ?side9 ?side10 A30.out).mono ?_);(case side1=>exact gC (bD jA.out HB.out));(case side2=>exact jV.out);(case side3=>exact gC (bD kL.out HB.out));(case side4=>exact kM.out);(case side5=>exact gC (bD fP.out HB.out));(case side6=>exact kN.out);(case side7=>exact gC (bD HR1.out HB.out));(case side8=>exact HC1.out);(case side9=>exact gC (aF dL.out).2.2);(case side10=>exact(aF dL.out).2.1);rintro e w37 ⟨v132,v136,rfl,ho0,ho1,hb⟩;refine⟨_,rfl,?_⟩;have cH:=aM (bE (gR jC.out) (Kd.R_base ho1) hb);have cI:=aM (bE (gR gG.out) (Kd.R_base ho1) hb);have cK:=aM (bE (gR dL.out) (Kd.R_base ho0) hb);have cQ:=aM (bL (Kd.R_new' ho0 (Kd.R_lt (gR dL.out))) (bH (gW HB.out)));have dI:=aM (bL (Kd.R_new' (Kd.R_new' ho1 (Kd.R_lt (gR jC.out))) (Kd.R_lt (gR gG.out))) (bH (gW HB.out)));have dR:=aM (bF (gB cJ.out) hb);have dV:=aM (bF (gB dG.out) hb);have eV:=aM (bG (gW HB.out) hb);clear jC;clear gG;clear dL;clear cJ;clear dG;clear HB;have jC:=cH;have gG:=cI;have dL:=cK;have jL:=cQ;have jM:=dI;have cJ:=dR;have dG:=dV;have HB:=eV;clear cH cI cK cQ dI dR dV eV;(try clear hb);(try clear hb2);(try clear hk);(try clear hi);(try clear ho0);(try clear ho1))|((with_reducible refine bJ (N:=12) rfl ?_);(try(refine gate_guard (by rfl) ?_;dsimp only));refine box_event ?hg (N:=12) ?hd (cs:=#[.slice none 0 0,.bool false]) (t:=31) ?hr ?_;(case hd=>rfl);(case hg=>rfl);(case hr=>first|(go_simp;done)|(go_simp;rfl));intro eL hg w38 hbox hb;have cH:=aM (aD (gR jC.out) hb);have cI:=aM (aD (gR gG.out) hb);have cK:=aM (aD (gR dL.out) hb);have cQ:=aM (aD (gR jL.out) hb);have dI:=aM (aD (gR jM.out) hb);have dR:=aM (bF (gB cJ.out) hb);have dV:=aM (bF (gB dG.out) hb);have eV:=aM (bG (gW HB.out) hb);have fV:=aM (hbox);have gQ:=aM ((by rw [hg];exact(bH (gW HB.out)):w.heap.size≤eL));have eS:=aM ((by rw [hg];exact(bH (gW HB.out)):w.heap.size≤eL));have fG:=aM ((by rw [hg];exact Nat.ne_of_lt (bN (g:=eK) (o:= .cells #[.slice bR aU.length bS,.slice bU aX.length bV,.int .i64 bB,.int .i64 bK,.slice cC aQ.length bX] 26 (0,0)) (gB cJ.out)):eK≠eL));have fQ:=aM ((by rw [hg];exact Nat.ne_of_gt (bN (g:=eK) (o:= .cells #[.slice bR aU.length bS,.slice bU aX.length bV,.int .i64 bB,.int .i64 bK,.slice cC aQ.length bX] 26 (0,0)) (gB cJ.out)):eL≠eK));have gK:=aM ((by rw [hg];exact Nat.ne_of_lt (bN (g:=eP) (o:= .cells #[.slice vY eQ.length vZ,.bool eR] 31 (0,0)) (gB dG.out)):eP≠eL));have iO:=aM ((by rw [hg];exact Nat.ne_of_gt (bN (g:=eP) (o:= .cells #[.slice vY eQ.length vZ,.bool eR] 31 (0,0)) (gB dG.out)):eL≠eP));clear jC;clear gG;clear dL;clear jL;clear jM;clear cJ;clear dG;clear HB;have jC:=cH;have gG:=cI;have dL:=cK;have jL:=cQ;have jM:=dI;have cJ:=dR;have dG:=dV;have HB:=eV;have gO:=fV;have GW139:=gQ;have Hb:=eS;have nA:=fG;have sM:=fQ;have kQ:=gK;have iU:=iO;clear cH cI cK cQ dI dR dV eV fV gQ eS fG fQ gK iO;clear hb hbox hg;obtain⟨kW,kX,GV⟩:=Kd.R_slice jL.out;subst GV;have hnb40:=sM.out;have hnc40:=nA.out;have hnb41:=iU.out;have hnc41:=kQ.out;have Fl:w38.cell? ⟨eL,0,none⟩=some (.slice none 0 0):=(aG gO.out 0).trans rfl;have Fm:w38.cell? ⟨eL,1,none⟩=some (.bool false):=(aG gO.out 1).trans rfl;have Fn:=aH gO.out 0;have Fo:=aH gO.out 1))
        have cH:Aside0 (Kd.R (Kd.int .i64) 3 ((w38.setCell ⟨eL,0,none⟩ (.slice kW t131.length kX)).setCell ⟨eL,1,none⟩ (.bool t134)) w.heap.size (fun k_=>some k_≠(.slice (some vX) y127.length sE:Value).ownBlock∧some k_≠(v136:Value).ownBlock) u6 bW):=⟨by(with_reducible repeat(first|apply aA|apply aB|apply aC));exact Kd.R_mono (aE (p:=⟨eL,1,none⟩) (aE (p:=⟨eL,0,none⟩) (Kd.R_types jC.out gO.out (by decide)) (fun _ hk=>hk.2) (.slice kW t131.length kX)) (fun _ hk=>hk.2) (.bool t134)) (fun _ hk=>⟨hk.1.1,hk.1.2⟩)⟩;have cI:Aside0 (Kd.R (Kd.int .i64) 3 ((w38.setCell ⟨eL,0,none⟩ (.slice kW t131.length kX)).setCell ⟨eL,1,none⟩ (.bool t134)) w.heap.size (fun k_=>some k_≠(u6:Value).ownBlock∧some k_≠(v136:Value).ownBlock) (.slice (some vX) y127.length sE) y127):=⟨by(with_reducible repeat(first|apply aA|apply aB|apply aC));exact Kd.R_mono (aE (p:=⟨eL,1,none⟩) (aE (p:=⟨eL,0,none⟩) (Kd.R_types gG.out gO.out (by decide)) (fun _ hk=>hk.2) (.slice kW t131.length kX)) (fun _ hk=>hk.2) (.bool t134)) (fun _ hk=>⟨hk.1.1,hk.1.2⟩)⟩;have cK:Aside0 (Kd.R k43 43 ((w38.setCell ⟨eL,0,none⟩ (.slice kW t131.length kX)).setCell ⟨eL,1,none⟩ (.bool t134)) w.heap.size (fun k_=>some k_≠(.slice kW t131.length kX:Value).ownBlock) (.slice vY eQ.length vZ) eQ):=⟨by(with_reducible repeat(first|apply aA|apply aB|apply aC));exact Kd.R_mono (aE (p:=⟨eL,1,none⟩) (aE (p:=⟨eL,0,none⟩) (Kd.R_types dL.out gO.out (by decide)) (fun _ hk=>hk.2) (.slice kW t131.length kX)) (fun _ hk=>hk.2) (.bool t134)) (fun _ hk=>hk.1.2)⟩;have cQ:Aside0 (Kd.R k43 43 ((w38.setCell ⟨eL,0,none⟩ (.slice kW t131.length kX)).setCell ⟨eL,1,none⟩ (.bool t134)) w.heap.size (fun k_=>some k_≠(.slice vY eQ.length vZ:Value).ownBlock) (.slice kW t131.length kX) t131):=⟨by(with_reducible repeat(first|apply aA|apply aB|apply aC));exact Kd.R_mono (aE (p:=⟨eL,1,none⟩) (aE (p:=⟨eL,0,none⟩) (Kd.R_types jL.out gO.out (by decide)) (fun _ hk=>hk.2) (.slice kW t131.length kX)) (fun _ hk=>hk.2) (.bool t134)) (fun _ hk=>hk.1.2)⟩;have dI:Aside0 (Kd.R (Kd.int .i64) 3 ((w38.setCell ⟨eL,0,none⟩ (.slice kW t131.length kX)).setCell ⟨eL,1,none⟩ (.bool t134)) w.heap.size (fun k_=>some k_≠(u6:Value).ownBlock∧some k_≠(.slice (some vX) y127.length sE:Value).ownBlock) v136 t135):=⟨by(with_reducible repeat(first|apply aA|apply aB|apply aC));exact Kd.R_mono (aE (p:=⟨eL,1,none⟩) (aE (p:=⟨eL,0,none⟩) (Kd.R_types jM.out gO.out (by decide)) (fun _ hk=>hk.2) (.slice kW t131.length kX)) (fun _ hk=>hk.2) (.bool t134)) (fun _ hk=>⟨hk.1.1.2,hk.1.2⟩)⟩;have dR:Aside0 (((w38.setCell ⟨eL,0,none⟩ (.slice kW t131.length kX)).setCell ⟨eL,1,none⟩ (.bool t134)).heap[eK]?=some (.cells #[.slice bR aU.length bS,.slice bU aX.length bV,.int .i64 bB,.int .i64 bK,.slice cC aQ.length bX] 26 (0,0))):=⟨by(with_reducible repeat(first|refine aJ ?_ _|refine aK ?_|refine aI ?_ _));refine blk_far ?_ nA.out _;(with_reducible repeat(first|refine aJ ?_ _|refine aK ?_|refine aI ?_ _));refine blk_far ?_ nA.out _;(with_reducible repeat(first|refine aJ ?_ _|refine aK ?_|refine aI ?_ _));exact cJ.out⟩;have dV:Aside0 (((w38.setCell ⟨eL,0,none⟩ (.slice kW t131.length kX)).setCell ⟨eL,1,none⟩ (.bool t134)).heap[eP]?=some (.cells #[.slice vY eQ.length vZ,.bool eR] 31 (0,0))):=⟨by(with_reducible repeat(first|refine aJ ?_ _|refine aK ?_|refine aI ?_ _));refine blk_far ?_ kQ.out _;(with_reducible repeat(first|refine aJ ?_ _|refine aK ?_|refine aI ?_ _));refine blk_far ?_ kQ.out _;(with_reducible repeat(first|refine aJ ?_ _|refine aK ?_|refine aI ?_ _));exact dG.out⟩;have eV:Aside0 (((w38.setCell ⟨eL,0,none⟩ (.slice kW t131.length kX)).setCell ⟨eL,1,none⟩ (.bool t134)).heap[eL]?=some (.cells #[.slice kW t131.length kX,.bool t134] 31 (0,0))):=⟨by(with_reducible repeat(first|refine aJ ?_ _|refine aK ?_|refine aI ?_ _));refine blk_put (cs:=#[.slice kW t131.length kX,.bool false]) ?_ 1 _ rfl;(with_reducible repeat(first|refine aJ ?_ _|refine aK ?_|refine aI ?_ _));refine blk_put (cs:=#[.slice none 0 0,.bool false]) ?_ 0 _ rfl;(with_reducible repeat(first|refine aJ ?_ _|refine aK ?_|refine aI ?_ _));exact gO.out⟩;have fV:Aside0 (Below w.heap.size w ((w38.setCell ⟨eL,0,none⟩ (.slice kW t131.length kX)).setCell ⟨eL,1,none⟩ (.bool t134))):=⟨by repeat(first|(with_reducible first|exact HB.out|apply aN|apply aP|apply aO|refine aL ?_ Gz.out|refine aL ?_ Ha.out|refine aL ?_ Hb.out)|exact HB.out)⟩
        (try clear jC);(try clear gG);(try clear dL);(try clear jL);(try clear jM);(try clear cJ);(try clear dG);(try clear gO);(try clear HB)
        generalize ((w38.setCell ⟨eL,0,none⟩ (.slice kW t131.length kX)).setCell ⟨eL,1,none⟩ (.bool t134))=w43 at cH cI cK cQ dI dR dV eV fV ⊢;have jC:=cH;have gG:=cI;have dL:=cK;have jL:=cQ;have jM:=dI;have cJ:=dR;have dG:=dV;have gO:=eV;have HB:=fV;clear cH cI cK cQ dI dR dV eV fV;have cH:=aM (aC jC.out);have cI:=aM (aC gG.out);have cK:=aM (aC dL.out);have cQ:=aM (aC jL.out);have dI:=aM (aC jM.out);have dR:=aM (aK cJ.out);have dV:=aM (aK dG.out);have eV:=aM (aK gO.out);have fV:=aM (aO HB.out);clear jC gG dL jL jM cJ dG gO HB;have jC:=cH;have gG:=cI;have dL:=cK;have jL:=cQ;have jM:=dI;have cJ:=dR;have dG:=dV;have gO:=eV;have HB:=fV;clear cH cI cK cQ dI dR dV eV fV;obtain⟨Sk,Mt,Mu⟩:=Kd.R_slice jM.out
        (first|subst Mu|(injection Mu with f1_ f2_ f3_;have f4_:=f1_.symm;have f5_:=f3_.symm;clear f1_ f2_ f3_;subst f4_;subst f5_))
        refine start_ (n:=6) (S:=fun w'=>w'.cell? ⟨eL,0,none⟩=some (.slice kW t131.length kX)∧w'.cell? ⟨eL,1,none⟩=some (.bool t134)) (ds:= []) #[false,false,false,false,false,false] (by kernel_rfl) rfl rfl ⟨(aG gO.out 0).trans rfl,(aG gO.out 1).trans rfl⟩ (fun hHeld=>?_)
        generalize w43.drew=w44 at jC gG dL jL jM cJ dG gO HB hHeld ⊢;refine pure_ (i:=1) (N:=some 55) (v:=?_) (a':=?_) #[false,true,false,false,false,false] rfl rfl (by kernel_rfl) (fun _ _ _ h=>h) (Or.inl ⟨by rfl,?_⟩) ?_ ?_
        rotate_left;(intro w';go_simp;with_reducible rfl);rotate_left;(simp only [pq];rfl)
        refine pure_ (i:=2) (N:=some 56) (v:=?_) (a':=?_) #[false,true,true,false,false,false] rfl rfl (by kernel_rfl) (fun _ _ _ h=>h) (Or.inl ⟨by rfl,?_⟩) ?_ ?_
        rotate_left;(intro w';go_simp;with_reducible rfl);rotate_left;(simp only [pq];rfl)
        refine take_ (i:=0) (N:=some 54) (v:=?_) (a':=?_) #[true,true,true,false,false,false] rfl rfl (by kernel_rfl) (fun _ _ _ h=>h) (Or.inl ⟨by rfl,?_⟩) hHeld ?_ ?_
        rotate_left
        ·rintro w' ⟨s0,s1⟩
         go_simp
         with_reducible rfl
        rotate_left
        ·simp only [pq]
         rfl
        refine one_ (i:=3) (N:=some 57) #[true,true,true,true,false,false] rfl rfl (by kernel_rfl) (by decide) (fun K hK=>?_)
        refine Kd.R_append_rows_step (Kd.int .i64) (w0:=w) w.heap.size (by rfl) (.tmp 55) (.tmp 56) 32 3 (.int .i64 0) 8 rfl Try.underlying32 info3 rfl (by decide) (by omega) u6 bW t135 _ _ _ (fun k_=>some k_≠(.slice (some vX) y127.length sE:Value).ownBlock∧some k_≠(.slice Sk t135.length Mt:Value).ownBlock) (fun _=>False) rfl rfl ?aO ?aR (fun _ _ h=>h) (fun _ h=>h.elim) ?aF ?aB ?aS ?aL ?_
        (case aR=>exact gC (aF jM.out).2.2)
        (case aB=>exact(gW HB.out))
        (case aF=>exact(fun k_ hk=>⟨Kd.fresh' (Kd.R_lt (gR gG.out)) k_ hk,Kd.fresh' (Kd.R_lt (gR jM.out)) k_ hk⟩))
        (case aO=>exact(gR jC.out))
        (case aS=>exact(bH (gW HB.out)))
        (case aL=>have:=Xh.out;omega)
        intro v141 w45 ho hb hg hat;rw [←Xi.out] at ho;have cH:=aM (Kd.R_after (ok:=(fun k_=>some k_≠(.slice Sk t135.length Mt:Value).ownBlock)) (by(with_reducible repeat(first|apply aA|apply aB|apply aC));exact Kd.R_mono gG.out (fun _ hk=>⟨hk.2,hk.1⟩)) hg hat);have cI:=aM (Kd.R_over' (gR dL.out) (Kd.R_typed (gR jC.out)) (by decide) hg);have cK:=aM (blk_grown (gB cJ.out) hg (Kd.R_ne jC.out cJ.out (by decide)));have cQ:=aM (blk_grown (gB dG.out) hg (Kd.R_ne jC.out dG.out (by decide)));have dI:=aM (Kd.R_over' (gR jL.out) (Kd.R_typed (gR jC.out)) (by decide) hg);have dR:=aM (Kd.R_after (ok:=(fun k_=>some k_≠(.slice (some vX) y127.length sE:Value).ownBlock)) (by(with_reducible repeat(first|apply aA|apply aB|apply aC));exact Kd.R_mono jM.out (fun _ hk=>⟨hk.2,hk.1⟩)) hg hat);have dV:=aM (blk_grown (gB gO.out) hg (Kd.R_ne jC.out gO.out (by decide)));have eV:=aM (hb);have fV:=aM (ho);clear gG dL cJ dG jL jM gO HB jC;have gG:=cH;have dL:=cI;have cJ:=cK;have dG:=cQ;have jL:=dI;have jM:=dR;have gO:=dV;have HB:=eV;have Xj:=fV;clear cH cI cK cQ dI dR dV eV fV ho hb hg hat;refine hK.out _ _ ⟨(aG gO.out 0).trans rfl,(aG gO.out 1).trans rfl⟩ (fun hHeld=>?_)
        clear hK K;refine norm_ (a':=?_) ?_ ?_
        rotate_left
        ·show Act.put _ (some 57) _=_
         simp only [pq];rfl
        refine one_ (i:=4) (N:=none) #[true,true,true,true,true,false] rfl rfl (by kernel_rfl) (by decide) (fun K hK=>?_)
        have hs47:w45.cell? ⟨eP,0,none⟩=some (.slice vY eQ.length vZ):=(aG dG.out 0).trans rfl;have hfs47:=aH dG.out 0;have hns47_0:=iE.out;have hns47_2:=iU.out;have hms47_0:=lQ.out;have hms47_2:=kQ.out;have hs48:w45.cell? ⟨eP,1,none⟩=some (.bool eR):=(aG dG.out 1).trans rfl;have hfs48:=aH dG.out 1;have hns48_0:=iE.out;have hns48_2:=iU.out;have hms48_0:=lQ.out;have hms48_2:=kQ.out;refine skip_ (w1:=?_) (by rfl) rfl ?_ ?_
        rotate_left
        ·go_simp
         rfl
        refine hK.out _ _ ⟨((cell_far (p:=⟨eP,_,none⟩) iU.out _).trans (((cell_far (p:=⟨eP,_,none⟩) iU.out _).trans (hHeld.1)))),((cell_far (p:=⟨eP,_,none⟩) iU.out _).trans (((cell_far (p:=⟨eP,_,none⟩) iU.out _).trans (hHeld.2))))⟩ (fun hHeld=>?_)
        clear hK K;refine pure_ (i:=5) (N:=some 6) (v:=?_) (a':=?_) #[true,true,true,true,true,true] rfl rfl (by kernel_rfl) (fun _ _ _ h=>h) (Or.inl ⟨by rfl,?_⟩) ?_ ?_
        rotate_left;(intro w';go_simp;with_reducible rfl);rotate_left;(simp only [pq];rfl)
        refine done_ (by kernel_rfl) ?_
        try go_wp2
        go_roundg Oz
        case measure=>have:=HK1.out;have:=HJ24.out;omega
        case rel=>exact⟨(y140),(wrap64 (fX+1)),(t131),(t134),(.slice kW t131.length kX),(by first|rfl|(simp;done)|(simp [*];done)),H',⟨by have:=HK1.out;have:=HJ24.out;omega⟩,⟨by(with_reducible repeat(first|apply aA|apply aB|apply aC));exact Kd.R_mono (aE (p:=⟨eP,1,none⟩) (aE (p:=⟨eP,0,none⟩) (Kd.R_types Xj.out dG.out (by decide)) (fun _ hk=>hk.2) (.slice kW t131.length kX)) (fun _ hk=>hk.2) (.bool t134)) (fun _ hk=>hk.1.1)⟩,⟨by(with_reducible repeat(first|apply aA|apply aB|apply aC));exact Kd.R_mono (aE (p:=⟨eP,1,none⟩) (aE (p:=⟨eP,0,none⟩) (Kd.R_types gG.out dG.out (by decide)) (fun _ hk=>hk.2) (.slice kW t131.length kX)) (fun _ hk=>hk.2) (.bool t134)) (fun _ hk=>hk.1.2)⟩,⟨by(with_reducible repeat(first|apply aA|apply aB|apply aC));exact Kd.R_mono (aE (p:=⟨eP,1,none⟩) (aE (p:=⟨eP,0,none⟩) (Kd.R_types jL.out dG.out (by decide)) (fun _ hk=>hk.2) (.slice kW t131.length kX)) (fun _ hk=>hk.2) (.bool t134)) (fun _ hk=>trivial)⟩,⟨by(with_reducible repeat(first|refine aJ ?_ _|refine aK ?_|refine aI ?_ _));refine blk_far ?_ iE.out _;(with_reducible repeat(first|refine aJ ?_ _|refine aK ?_|refine aI ?_ _));refine blk_far ?_ iE.out _;(with_reducible repeat(first|refine aJ ?_ _|refine aK ?_|refine aI ?_ _));exact cJ.out⟩,⟨by(with_reducible repeat(first|refine aJ ?_ _|refine aK ?_|refine aI ?_ _));refine blk_put (cs:=#[.slice kW t131.length kX,.bool eR]) ?_ 1 _ rfl;(with_reducible repeat(first|refine aJ ?_ _|refine aK ?_|refine aI ?_ _));refine blk_put (cs:=#[.slice vY eQ.length vZ,.bool eR]) ?_ 0 _ rfl;(with_reducible repeat(first|refine aJ ?_ _|refine aK ?_|refine aI ?_ _));exact dG.out⟩,⟨by repeat(first|(with_reducible first|exact HB.out|apply aN|apply aP|apply aO|refine aL ?_ Gz.out|refine aL ?_ Ha.out|refine aL ?_ Hb.out)|exact HB.out)⟩⟩
       ·rw [if_neg c31] at H
        have Xf:(t138==0)=false:=beq_eq_false_iff_ne.mpr c31;have Xg:(t138 !=0)=true:=bne_iff_ne.mpr c31;simp only [Option.some.injEq,Prod.mk.injEq] at H;obtain⟨rfl,rfl,rfl⟩:=H;have hnb49:=iE.out;have hnc49:=lQ.out;have Mv:wc.cell? ⟨eK,0,none⟩=some (.slice bR aU.length bS):=(aG cJ.out 0).trans rfl;have Mw:wc.cell? ⟨eK,1,none⟩=some (.slice bU aX.length bV):=(aG cJ.out 1).trans rfl;have Mx:wc.cell? ⟨eK,2,none⟩=some (.int .i64 bB):=(aG cJ.out 2).trans rfl;have My:wc.cell? ⟨eK,3,none⟩=some (.int .i64 bK):=(aG cJ.out 3).trans rfl;have Mz:wc.cell? ⟨eK,4,none⟩=some (.slice cC aQ.length bX):=(aG cJ.out 4).trans rfl;have Na:=aH cJ.out 0;have Nb:=aH cJ.out 1;have Nc:=aH cJ.out 2;have Nd:=aH cJ.out 3;have Nf:=aH cJ.out 4;have wQ:wc.cell? ⟨eP,0,none⟩=some (u121000):=(aG dG.out 0).trans rfl;have wR:wc.cell? ⟨eP,1,none⟩=some (.bool eR):=(aG dG.out 1).trans rfl;have wS:=aH dG.out 0;have wT:=aH dG.out 1;obtain⟨Jz,oM,Rq⟩:=Kd.R_slice dL.out;subst Rq
        go_wp2_with (first|((with_reducible refine bI (f:=23) rfl ?_);refine goesL_ (some 46) rfl rfl Try.func23 (by kernel_rfl) rfl #[.agg #[.slice bR aU.length bS,.slice bU aX.length bV,.int .i64 bB,.int .i64 bK,.slice cC aQ.length bX],.slice A1 l1.length c1,.agg #[.slice Jz eQ.length oM,.bool eR],.int .i64 (rd y127 fX)] rfl (by(try simp only [List.map_toArray,List.map_cons,List.map_nil]);first|done|rfl|(simp only [List.length_drop,List.length_take];rfl)) ?_;(with_reducible refine(machine_Feed.calls _ _ aU _ _ aX bB bK _ _ aQ _ _ l1 _ _ eQ eR (rd y127 fX) t131 t134 t135 t138 _ ?side1 ?side2 ?side3 ?side4 ?side5 ?side6 ?side7 ?side8 ?side9 ?side10 A30.out).mono ?_);(case side1=>exact gC (bD jA.out HB.out));(case side2=>exact jV.out);(case side3=>exact gC (bD kL.out HB.out));(case side4=>exact kM.out);(case side5=>exact gC (bD fP.out HB.out));(case side6=>exact kN.out);(case side7=>exact gC (bD HR1.out HB.out));(case side8=>exact HC1.out);(case side9=>exact gC (aF dL.out).2.2);(case side10=>exact(aF dL.out).2.1);rintro e w53 ⟨v132,v136,rfl,ho0,ho1,hb⟩;refine⟨_,rfl,?_⟩;have cH:=aM (bE (gR jC.out) (Kd.R_base ho1) hb);have cI:=aM (bE (gR gG.out) (Kd.R_base ho1) hb);have cK:=aM (bE (gR dL.out) (Kd.R_base ho0) hb);have cQ:=aM (bL (Kd.R_new' ho0 (Kd.R_lt (gR dL.out))) (bH (gW HB.out)));have dI:=aM (bL (Kd.R_new' (Kd.R_new' ho1 (Kd.R_lt (gR jC.out))) (Kd.R_lt (gR gG.out))) (bH (gW HB.out)));have dR:=aM (bF (gB cJ.out) hb);have dV:=aM (bF (gB dG.out) hb);have eV:=aM (bG (gW HB.out) hb);clear jC;clear gG;clear dL;clear cJ;clear dG;clear HB;have jC:=cH;have gG:=cI;have dL:=cK;have jL:=cQ;have jM:=dI;have cJ:=dR;have dG:=dV;have HB:=eV;clear cH cI cK cQ dI dR dV eV;(try clear hb);(try clear hb2);(try clear hk);(try clear hi);(try clear ho0);(try clear ho1))|((with_reducible refine bJ (N:=12) rfl ?_);(try(refine gate_guard (by rfl) ?_;dsimp only));refine box_event ?hg (N:=12) ?hd (cs:=#[.slice none 0 0,.bool false]) (t:=31) ?hr ?_;(case hd=>rfl);(case hg=>rfl);(case hr=>first|(go_simp;done)|(go_simp;rfl));intro eL hg w54 hbox hb;have cH:=aM (aD (gR jC.out) hb);have cI:=aM (aD (gR gG.out) hb);have cK:=aM (aD (gR dL.out) hb);have cQ:=aM (aD (gR jL.out) hb);have dI:=aM (aD (gR jM.out) hb);have dR:=aM (bF (gB cJ.out) hb);have dV:=aM (bF (gB dG.out) hb);have eV:=aM (bG (gW HB.out) hb);have fV:=aM (hbox);have gQ:=aM ((by rw [hg];exact(bH (gW HB.out)):w.heap.size≤eL));have eS:=aM ((by rw [hg];exact(bH (gW HB.out)):w.heap.size≤eL));have fG:=aM ((by rw [hg];exact Nat.ne_of_lt (bN (g:=eK) (o:= .cells #[.slice bR aU.length bS,.slice bU aX.length bV,.int .i64 bB,.int .i64 bK,.slice cC aQ.length bX] 26 (0,0)) (gB cJ.out)):eK≠eL));have fQ:=aM ((by rw [hg];exact Nat.ne_of_gt (bN (g:=eK) (o:= .cells #[.slice bR aU.length bS,.slice bU aX.length bV,.int .i64 bB,.int .i64 bK,.slice cC aQ.length bX] 26 (0,0)) (gB cJ.out)):eL≠eK));have gK:=aM ((by rw [hg];exact Nat.ne_of_lt (bN (g:=eP) (o:= .cells #[.slice Jz eQ.length oM,.bool eR] 31 (0,0)) (gB dG.out)):eP≠eL));have iO:=aM ((by rw [hg];exact Nat.ne_of_gt (bN (g:=eP) (o:= .cells #[.slice Jz eQ.length oM,.bool eR] 31 (0,0)) (gB dG.out)):eL≠eP));clear jC;clear gG;clear dL;clear jL;clear jM;clear cJ;clear dG;clear HB;have jC:=cH;have gG:=cI;have dL:=cK;have jL:=cQ;have jM:=dI;have cJ:=dR;have dG:=dV;have HB:=eV;have gO:=fV;have GW139:=gQ;have Hb:=eS;have nA:=fG;have sM:=fQ;have kQ:=gK;have iU:=iO;clear cH cI cK cQ dI dR dV eV fV gQ eS fG fQ gK iO;clear hb hbox hg;obtain⟨KX,KY,GW⟩:=Kd.R_slice jL.out;subst GW;have hnb56:=sM.out;have hnc56:=nA.out;have hnb57:=iU.out;have hnc57:=kQ.out;have On:w54.cell? ⟨eL,0,none⟩=some (.slice none 0 0):=(aG gO.out 0).trans rfl;have Oo:w54.cell? ⟨eL,1,none⟩=some (.bool false):=(aG gO.out 1).trans rfl;have Oq:=aH gO.out 0;have Ot:=aH gO.out 1))
        go_ret3
        exact⟨_,by first|rfl|(simp [errW_none,errW_some]<;>rfl)|(simp [*,errW_none,errW_some]<;>rfl),by first|exact Kd.R_nil _ _ _ _ _|exact Kd.N_nil _ _ _ _ _|exact Kd.V_nil _ _ _ _ _|exact Kd.Q_nil _ _ _ _ _|exact Kd.S_nil _ _ _ _ _,by repeat(first|(with_reducible first|exact HB.out|apply aN|apply aP|apply aO|refine aL ?_ Gz.out|refine aL ?_ Ha.out|refine aL ?_ Hb.out)|exact HB.out)⟩
   ·rw [if_neg c22] at H
    have wI:decide (fX<(y127.length:Int))=false:=decide_eq_false c22;clear c22;simp only [Option.some.injEq,Prod.mk.injEq] at H;obtain⟨rfl,rfl,rfl⟩:=H;go_wp2
    go_ret3
    exact⟨_,by first|rfl|(simp [errW_none,errW_some]<;>rfl)|(simp [*,errW_none,errW_some]<;>rfl),by(with_reducible repeat(first|apply aA|apply aB|apply aC));exact Kd.R_mono jC.out (fun _ hk=>trivial),gW HB.out⟩
end Go.Proofs.Ytapjfnfengefpaa.P
end
