/- Packed texts of this claim: the walks of the functions, and their plain laws; see the claim's last text. -/
import Derived.Test.YtapjfnfengefpaaKMachineMade4
section
namespace Go.Proofs.Ytapjfnfengefpaa.P
open Go.RowKit Go.Shelf Go.Proofs.YtapjfnfengefpaaW.PrintWords Go.Proofs.YtapjfnfengefpaaW.PrintLast Go.Proofs.YtapjfnfengefpaaW.PrintMore
set_option linter.unusedVariables false
set_option linter.unusedSimpArgs false
attribute [local go_sem] Oper.semAt_some
def Keeps (bad:Nat→Prop) (W W':World):Prop:=∀k o,bad k→W.heap[k]?=some o→o.isCells=true→W'.heap[k]?=some o
theorem Keeps.refl (bad:Nat→Prop) (W:World):Keeps bad W W:=fun _ _ _ h _=>h
theorem Keeps.trans {bad:Nat→Prop}{A B C:World}(h:Keeps bad A B) (k:Keeps bad B C):Keeps bad A C:=fun i o hb ho hc=>k i o hb (h i o hb ho hc) hc
theorem Keeps.mono {bad bad':Nat→Prop}{A B:World}(h:Keeps bad A B) (hm:∀k,bad' k→bad k):Keeps bad' A B:=fun i o hb ho hc=>h i o (hm i hb) ho hc
theorem Keeps.below {bad:Nat→Prop}{A B:World}(h:Below A.heap.size A B):Keeps bad A B:=fun i o _ ho _=>bF ho h
theorem Keeps.grown {bad:Nat→Prop}{A B:World}{row:Option Nat}(hg:A.grownBy B row) (h:∀k,bad k→some k≠row):Keeps bad A B:=fun i o hb ho _=>(hg.block i (bN ho) (h i hb)).trans ho
theorem Keeps.set {bad:Nat→Prop}{A:World}{p:Addr}(h:¬bad p.block) (u:Value):Keeps bad A (A.setCell p u):=fun i o hb ho _=>(Below.heap_setCell A p u i (fun e=>h (e ▸ hb))).trans ho
theorem Keeps.kept {bad:Nat→Prop}{A B:World}{S:Nat→Prop}(h:Kept A B S) (hb:∀k,bad k→¬S k):Keeps bad A B:=fun i o hi ho _=>(h.2 i (bN ho) (hb i hi)).trans ho
theorem PS.other {bad:Nat→Prop}{W W':World}{base PB:Nat}{st:List S43}{sp:List Int}(h:PS bad W base PB st sp) {row:Option Nat}(hg:W.grownBy W' row) (hr:∀r,row=some r→∃o:Obj,W.heap[r]?=some o∧o.isCells=false):PS bad W' base PB st sp:=by
 obtain⟨vs,vt,h0,h1,h2,h3⟩:=h
 have hne:∀k cells q,W.heap[k]?=some (.cells cells q (0,0))→some k≠row:=fun k cells q hk e=>by
  obtain⟨o,ho,hc⟩:=hr k e.symm
  rw [hk] at ho
  cases ho
  cases hc
 refine⟨vs,vt,blk_grown h0 hg (hne _ _ _ h0),h1,?_,?_⟩
 ·exact Kd.R_mono (Kd.R_grown (Kd.R_bound h2) hg (fun k hk=>by obtain⟨_,_,_,q,_,cells,hc⟩:=hk;exact hne _ _ _ hc)) (fun k hk=>hk.1)
 ·exact Kd.R_mono (Kd.R_grown (Kd.R_bound h3) hg (fun k hk=>by obtain⟨_,_,_,q,_,cells,hc⟩:=hk;exact hne _ _ _ hc)) (fun k hk=>hk.1)
theorem Keeps.other {bad:Nat→Prop}{A W W':World}(h:Keeps bad A W) {row:Option Nat}(hg:W.grownBy W' row) (hr:∀r,row=some r→∃o:Obj,W.heap[r]?=some o∧o.isCells=false):Keeps bad A W':=fun i o hb ho hc=>by
 have hX:=h i o hb ho hc
 refine(hg.block i (bN hX) (fun e=>?_)).trans hX
 obtain⟨o',ho',hc'⟩:=hr i e.symm
 rw [hX] at ho'
 cases ho'
 rw [hc] at hc'
 cases hc'
def noPanic (Q:Exit→Act→World→Prop):Exit→Act→World→Prop
 | .panic _,_,_=>False
 |e,a,w=>Q e a w
theorem noPanic_imp {Q:Exit→Act→World→Prop}:∀(e:Exit) (a:Act) (w:World),noPanic Q e a w→Q e a w
 | .panic _,_,_,h=>h.elim
 | .normal,_,_,h=>h
 | .ret,_,_,h=>h
 | .exit _,_,_,h=>h
 | .goto _,_,_,h=>h
 | .outgrown,_,_,h=>h
set_option maxHeartbeats 4000000 in
set_option maxRecDepth 100000 in
theorem expand_any (bad:Nat→Prop) (bC:Option Addr) (bK:Nat) (aU:List ByteArray) (bM:Option Addr) (bO:Nat) (aX:List (S72)) (bA:Int) (bB:Int) (bQ:Option Addr) (bP:Nat) (aQ:List (S35)) (prod:Int) (st:List S43) (sp:List Int) (PB:Nat) (w0 W:World)
 (hPS:PS bad W w0.heap.size PB st sp) (hw:Below w0.heap.size w0 W) (hbad:∀k,bad k→k<W.heap.size) (hPB:¬bad PB) (hr4:Kd.C k35 w0 bQ aQ.length aQ) (h0:0≤prod) (h1:prod<(aQ.length:Int))
 (hr:(rd_T35 aQ prod).f1.length≤1000000) (hst:st.length≤1000000) (hsp:sp.length≤1000000):
 Calls Try.prog 53 #[.pointer (some ⟨PB,0,none⟩),.agg #[.slice bC aU.length bK,.slice bM aX.length bO,.int .i64 bA,.int .i64 bB,.slice bQ aQ.length bP],.int .i64 prod] W fun e w'=>
  e= .returned (.bool (decide (((rd_T35 aQ prod).f1++st).length≤10000) && decide ((sp++ [prod]).length≤10000)))∧PS bad w' w0.heap.size PB ((rd_T35 aQ prod).f1++st) (sp++ [prod])∧Below w0.heap.size w0 w'∧Keeps bad W w'∧W.heap.size≤w'.heap.size:=by
 obtain⟨ad,A5,c5,ea,_,e1,_,hC5⟩:=at_T35 hr4 prod h0 h1
 generalize (rd_T35 aQ prod).f1=r at e1 hC5 hr ⊢
 subst ea
 have HW:=aM hw
 have HBAD:Aside0 (∀k,(bad k∨k=W.heap.size∨k=W.heap.size+1)→k<W.heap.size+2):=⟨fun k hk=>by rcases hk with h|h|h;have:=hbad k h;omega;omega;omega⟩
 have HP1:Aside0 (PS (fun k=>bad k∨k=W.heap.size∨k=W.heap.size+1) ((W.alloc (.cells #[.pointer (some ⟨PB,0,none⟩)] 81)).alloc (.cells #[.slice bC aU.length bK,.slice bM aX.length bO,.int .i64 bA,.int .i64 bB,.slice (some ad) aQ.length bP] 26)) w0.heap.size PB st sp):=⟨((PS.mono hPS.bound (fun k hk=>by rcases hk with h|h|h;exact .inl h;exact .inr (by omega);exact .inr (by omega))).alloc _).alloc _⟩
 have hBW:Below W.heap.size W ((W.alloc (.cells #[.pointer (some ⟨PB,0,none⟩)] 81)).alloc (.cells #[.slice bC aU.length bK,.slice bM aX.length bO,.int .i64 bA,.int .i64 bB,.slice (some ad) aQ.length bP] 26)):=((Below.refl _ W).alloc (Nat.le_refl _) _).alloc (by simp) _
 have HK1:Aside0 (Keeps bad W ((W.alloc (.cells #[.pointer (some ⟨PB,0,none⟩)] 81)).alloc (.cells #[.slice bC aU.length bK,.slice bM aX.length bO,.int .i64 bA,.int .i64 bB,.slice (some ad) aQ.length bP] 26))):=⟨Keeps.below hBW⟩
 have HB1:Aside0 (Below w0.heap.size w0 ((W.alloc (.cells #[.pointer (some ⟨PB,0,none⟩)] 81)).alloc (.cells #[.slice bC aU.length bK,.slice bM aX.length bO,.int .i64 bA,.int .i64 bB,.slice (some ad) aQ.length bP] 26))):=⟨hw.trans (hBW.mono hw.size)⟩
 have HTB:Aside0 (((W.alloc (.cells #[.pointer (some ⟨PB,0,none⟩)] 81)).alloc (.cells #[.slice bC aU.length bK,.slice bM aX.length bO,.int .i64 bA,.int .i64 bB,.slice (some ad) aQ.length bP] 26)).heap[W.heap.size]?=some (.cells #[.pointer (some ⟨PB,0,none⟩)] 81 (0,0))):=⟨aI (blk_new _ _) _⟩
 have HSB:Aside0 (((W.alloc (.cells #[.pointer (some ⟨PB,0,none⟩)] 81)).alloc (.cells #[.slice bC aU.length bK,.slice bM aX.length bO,.int .i64 bA,.int .i64 bB,.slice (some ad) aQ.length bP] 26)).heap[W.heap.size+1]?=some (.cells #[.slice bC aU.length bK,.slice bM aX.length bO,.int .i64 bA,.int .i64 bB,.slice (some ad) aQ.length bP] 26 (0,0))):=⟨by have h:=blk_new (W.alloc (.cells #[.pointer (some ⟨PB,0,none⟩)] 81)) (.cells #[.slice bC aU.length bK,.slice bM aX.length bO,.int .i64 bA,.int .i64 bB,.slice (some ad) aQ.length bP] 26);rw [World.size_alloc] at h;exact h⟩
 have HSZ1:Aside0 (W.heap.size+2≤((W.alloc (.cells #[.pointer (some ⟨PB,0,none⟩)] 81)).alloc (.cells #[.slice bC aU.length bK,.slice bM aX.length bO,.int .i64 bA,.int .i64 bB,.slice (some ad) aQ.length bP] 26)).heap.size):=⟨by simp⟩
 have HPBN:Aside0 (¬(bad PB∨PB=W.heap.size∨PB=W.heap.size+1)):=⟨by obtain⟨_,_,hb,_⟩:=hPS;have:=bN hb;rintro(h|h|h);exact hPB h;omega;omega⟩
 have E1:=aM e1
 have HC5:=aM hC5
 have HR:=aM hr
 have HST:=aM hst
 have HSP:=aM hsp
 have HPR:=aM (And.intro h0 h1)
 clear hPS hw hbad hPB hr4 h0 h1 hr hst hsp e1 hC5 hBW
 refine(callsIn_wide (n:=5)).1 (callsIn_of_wp_marks Try.func53 rfl trivial (wpIn_mono (wpIn_wide.2 ?_) noPanic_imp) rfl)
 simp only [Try.ntmps53,List.size_toArray,List.length_cons,List.length_nil,Nat.reduceAdd,Nat.reduceSub,Array.replicate_succ,Array.replicate_zero,List.push_toArray,List.append_toArray,List.nil_append,List.cons_append]
 obtain⟨Q',hQ'⟩:∃Q',Q'=bodyPostM Fence.wide 5 Try.prog Try.f53 fun e w'=>
  e= .returned (.bool (decide ((r++st).length≤10000) && decide ((sp++ [prod]).length≤10000)))∧PS bad w' w0.heap.size PB (r++st) (sp++ [prod])∧Below w0.heap.size w0 w'∧Keeps bad W w'∧W.heap.size≤w'.heap.size:=⟨_,rfl⟩
 rw [←hQ']
 have HQ':=aM hQ'
 clear hQ'
 go_upto_region 1 with fail
 have HZ1:Aside0 (W.heap.size≤((W.alloc (.cells #[.pointer (some ⟨PB,0,none⟩)] 81)).alloc (.cells #[.slice bC aU.length bK,.slice bM aX.length bO,.int .i64 bA,.int .i64 bB,.slice (some ad) aQ.length bP] 26)).heap.size):=⟨by have:=HSZ1.out;omega⟩
 generalize ((W.alloc (.cells #[.pointer (some ⟨PB,0,none⟩)] 81)).alloc (.cells #[.slice bC aU.length bK,.slice bM aX.length bO,.int .i64 bA,.int .i64 bB,.slice (some ad) aQ.length bP] 26))=w1 at HP1 HK1 HB1 HTB HSB HSZ1 HZ1 ⊢
 generalize hSBn:W.heap.size+1=SB at HP1 HSB HBAD HPBN ⊢
 generalize hTBn:W.heap.size=TB at HP1 HTB HBAD HSZ1 HPBN ⊢
 have HNE:Aside0 (TB≠SB):=⟨by omega⟩
 clear hSBn hTBn
 have hbad1:∀k,w1.heap.size≤k→¬(bad k∨k=TB∨k=SB):=fun k hk h=>by have:=HBAD.out k h;have:=HSZ1.out;omega
 have HBN:=aM hbad1
 clear hbad1
 obtain⟨vs,vt,h0,h1,h2,h3⟩:=HP1.out
 have H0:=aM h0
 have H1:=aM h1
 have H2:=aM h2
 have H3:=aM h3
 clear h0 h1 h2 h3 HP1
 refine start_ (n:=11) (S:=fun w'=>w'.cell? ⟨TB,0,none⟩=some (.pointer (some ⟨PB,0,none⟩))∧w'.cell? ⟨PB,1,none⟩=some vt) (ds:= [10]) #[false,false,false,false,false,false,false,false,false,false,false] (by kernel_rfl) rfl rfl ⟨(aG HTB.out 0).trans rfl,(aG H0.out 1).trans rfl⟩ (fun hHeld=>?_)
 refine pure_ (i:=5) (N:=some 14) (v:=?_) (a':=?_) #[false,false,false,false,false,true,false,false,false,false,false] rfl rfl (by kernel_rfl) (fun _ _ _ h=>h) (Or.inl ⟨by rfl,?_⟩) ?_ ?_
 rotate_left;(intro w';go_simp;with_reducible rfl);rotate_left;(simp only [pq];rfl)
 refine take_ (i:=0) (N:=some 9) (v:=?_) (a':=?_) #[true,false,false,false,false,true,false,false,false,false,false] rfl rfl (by kernel_rfl) (fun _ _ _ h=>h) (Or.inl ⟨by rfl,?_⟩) hHeld ?_ ?_
 rotate_left
 ·rintro w' ⟨s0,s1⟩
  go_simp
  with_reducible rfl
 rotate_left
 ·simp only [pq]
  rfl
 refine take_ (i:=1) (N:=some 10) (v:=?_) (a':=?_) #[true,true,false,false,false,true,false,false,false,false,false] rfl rfl (by kernel_rfl) (fun _ _ _ h=>h) (Or.inl ⟨by rfl,?_⟩) hHeld ?_ ?_
 rotate_left
 ·rintro w' ⟨s0,s1⟩
  go_simp
  with_reducible rfl
 rotate_left
 ·simp only [pq]
  rfl
 refine pure_ (i:=2) (N:=some 11) (v:=?_) (a':=?_) #[true,true,true,false,false,true,false,false,false,false,false] rfl rfl (by kernel_rfl) (fun _ _ _ h=>h) (Or.inl ⟨by rfl,?_⟩) ?_ ?_
 rotate_left;(intro w';go_simp;with_reducible rfl);rotate_left;(simp only [pq];rfl)
 refine pure_ (i:=3) (N:=some 12) (v:=?_) (a':=?_) #[true,true,true,true,false,true,false,false,false,false,false] rfl rfl (by kernel_rfl) (fun _ _ _ h=>h) (Or.inl ⟨by rfl,?_⟩) ?_ ?_
 rotate_left;(intro w';go_simp;with_reducible rfl);rotate_left;(simp only [pq];rfl)
 refine take_ (i:=4) (N:=some 13) (v:=?_) (a':=?_) #[true,true,true,true,true,true,false,false,false,false,false] rfl rfl (by kernel_rfl) (fun _ _ _ h=>h) (Or.inl ⟨by rfl,?_⟩) hHeld ?_ ?_
 rotate_left
 ·rintro w' ⟨s0,s1⟩
  go_simp
  with_reducible rfl
 rotate_left
 ·simp only [pq]
  rfl
 refine one_ (i:=6) (N:=some 15) #[true,true,true,true,true,true,true,false,false,false,false] rfl rfl (by kernel_rfl) (by decide) (fun K hK=>?_)
 refine value_ (w1:=?_) (v:=?_) (by rfl) rfl ?_ ?_
 rotate_left 2
 ·go_simp
  constructor
  ·rfl
  ·rfl
 refine hK.out _ _ ⟨(aG (aI HTB.out _) 0).trans rfl,(aG (aI H0.out _) 1).trans rfl⟩ (fun hHeld=>?_)
 clear hK K
 refine norm_ (a':=?_) ?_ ?_
 rotate_left
 ·show Act.put _ (some 15) _=_
  simp only [pq]
  rfl
 refine one_ (i:=7) (N:=some 16) #[true,true,true,true,true,true,true,true,false,false,false] rfl rfl (by kernel_rfl) (by decide) (fun K hK=>?_)
 rw [show(w1.alloc (.cells #[.int .i64 prod] 3)).drew=w1.drew.alloc (.cells #[.int .i64 prod] 3) from rfl]
 refine Kd.R_append_step (Kd.int .i64) (w0:=w1.drew) w0.heap.size (by rfl) (.tmp 13) (.tmp 15) 32 3 (.int .i64 0) 8 rfl Try.underlying32 miInt rfl (by decide) (by omega) vt sp prod [.int .i64 prod] (fun k=>¬(bad k∨k=TB∨k=SB)) (fun _=>False) rfl rfl rfl (fun _ hk=>hk.elim) HBN.out (aC H3.out) (Below.refl _ _) HB1.out.size (by have:=HSP.out;omega) ?_
 intro v1 w2 ho hb hg hat
 obtain⟨As,ls,cs_,rfl⟩:∃An ln cn,v1= .slice An ln cn:=by obtain⟨An,cn,e⟩:=Kd.R_slice ho;exact⟨An,_,cn,e⟩
 have H02:=aM (blk_grown (aK H0.out) hg (Kd.R_ne H3.out H0.out (by decide)))
 have HTB2:=aM (blk_grown (aK HTB.out) hg (Kd.R_away H3.out (fun k hk e=>hk (.inr (.inl e)))))
 have HSB2:=aM (blk_grown (aK HSB.out) hg (Kd.R_away H3.out (fun k hk e=>hk (.inr (.inr e)))))
 have H22:=aM (Kd.R_over (aC H2.out) (aC H3.out) (by decide) hg)
 have PT:=aM ho
 have HB2:Aside0 (Below w0.heap.size w0 w2):=⟨(aO HB1.out).trans hb⟩
 have HK2:Aside0 (Keeps bad W w2):=⟨(show Keeps bad W w1.drew from HK1.out).trans (Keeps.grown hg (fun k hk=>Kd.R_away H3.out (fun j hj e=>hj (.inl (e ▸ hk)))))⟩
 have HS2:=aM hg.size
 have f3:=aH H02.out 1
 clear ho hb hg hat
 refine hK.out _ _ ⟨(aG HTB2.out 0).trans rfl,(aG H02.out 1).trans rfl⟩ (fun hHeld=>?_)
 clear hK K
 refine norm_ (a':=?_) ?_ ?_
 rotate_left
 ·show Act.put _ (some 16) _=_
  simp only [pq]
  rfl
 refine pure_ (i:=8) (N:=some 17) (v:=?_) (a':=?_) #[true,true,true,true,true,true,true,true,true,false,false] rfl rfl (by kernel_rfl) (fun _ _ _ h=>h) (Or.inl ⟨by rfl,?_⟩) ?_ ?_
 rotate_left;(intro w';go_simp;with_reducible rfl);rotate_left;(simp only [pq];rfl)
 refine pure_ (i:=9) (N:=some 18) (v:=?_) (a':=?_) #[true,true,true,true,true,true,true,true,true,true,false] rfl rfl (by kernel_rfl) (fun _ _ _ h=>h) (Or.inl ⟨by rfl,?_⟩) ?_ ?_
 rotate_left;(intro w';go_simp;with_reducible rfl);rotate_left;(simp only [pq];rfl)
 refine last_ (i:=10) (N:=none) #[true,true,true,true,true,true,true,true,true,true,true] rfl rfl (by kernel_rfl) (by decide) (fun K hK=>?_)
 refine skip_ (w1:=?_) (by rfl) rfl ?_ ?_
 rotate_left
 ·go_simp
  rfl
 refine hK.out _ _ ?_
 clear hK K
 refine done_ (by kernel_rfl) ?_
 have HP3:Aside0 (PS (fun k=>bad k∨k=TB∨k=SB) (w2.setCell ⟨PB,1,none⟩ (.slice As ls cs_)) w0.heap.size PB st (sp++ [prod])):=⟨PS.steps H02.out H1.out H22.out PT.out⟩
 have HTB3:=aM (blk_far HTB2.out (p:=⟨PB,1,none⟩) (fun e=>HPBN.out (.inr (.inl e.symm))) (.slice As ls cs_))
 have HSB3:=aM (blk_far HSB2.out (p:=⟨PB,1,none⟩) (fun e=>HPBN.out (.inr (.inr e.symm))) (.slice As ls cs_))
 have HB3:Aside0 (Below w0.heap.size w0 (w2.setCell ⟨PB,1,none⟩ (.slice As ls cs_))):=⟨HB2.out.setCell H1.out _⟩
 have HK3:Aside0 (Keeps bad W (w2.setCell ⟨PB,1,none⟩ (.slice As ls cs_))):=⟨HK2.out.trans (Keeps.set (p:=⟨PB,1,none⟩) (fun h=>HPBN.out (.inl h)) _)⟩
 have HBN3:Aside0 (∀k,(w2.setCell ⟨PB,1,none⟩ (.slice As ls cs_)).heap.size≤k→¬(bad k∨k=TB∨k=SB)):=⟨fun k hk=>HBN.out k (Nat.le_trans HS2.out (by simpa [World.setCell] using hk))⟩
 have HZ3:Aside0 (W.heap.size≤(w2.setCell ⟨PB,1,none⟩ (.slice As ls cs_)).heap.size):=⟨Nat.le_trans (Nat.le_trans HZ1.out HS2.out) (by simp [World.setCell])⟩
 generalize w2.setCell ⟨PB,1,none⟩ (.slice As ls cs_)=w3 at HZ3 HP3 HTB3 HSB3 HB3 HK3 HBN3 ⊢
 clear f3 H0 HTB HSB H2 H3 H02 HTB2 HSB2 H22 PT HB2 HK2 HS2 HBN HBAD HSZ1 HK1 HB1
 have q4:w3.cell? ⟨SB,4,none⟩=some (.slice (some ad) aQ.length bP):=(aG HSB3.out 4).trans rfl
 have e1:=(HB3.out.cell (World.block_lt_of_cell? _ _ E1.out)).trans E1.out
 have b0:(0≤prod)=True:=eq_true HPR.out.1
 have b1:(prod<(aQ.length:Int))=True:=eq_true HPR.out.2
 have hcb:=(callsIn_wide (n:=5)).1 (back_in 5 A5 r.length c5 w3)
 have PB5:=aM hcb
 clear hcb
 go_wp2_with (first|(go_at_call 59;(with_reducible refine PB5.out.mono ?_);rintro e w4 ⟨rfl,rfl⟩;clear q4 e1))
 have HBW4:Aside0 (Below w3.heap.size w3 (w3.alloc (.cells #[.slice A5 r.length c5] 29))):=⟨aN (Below.refl _ w3) _⟩
 have HBS4:Aside0 ((w3.alloc (.cells #[.slice A5 r.length c5] 29)).heap[w3.heap.size]?=some (.cells #[.slice A5 r.length c5] 29 (0,0))):=⟨heap_alloc_new w3 _⟩
 have HP4:Aside0 (PS (fun k=>(bad k∨k=TB∨k=SB)∨k=w3.heap.size) (w3.alloc (.cells #[.slice A5 r.length c5] 29)) w0.heap.size PB st (sp++ [prod])):=⟨(PS.mono HP3.out.bound (fun k hk=>hk.imp id (fun e=>by omega))).alloc _⟩
 have HSZ4:Aside0 (w3.heap.size<(w3.alloc (.cells #[.slice A5 r.length c5] 29)).heap.size):=⟨by simp⟩
 have HPB4:Aside0 (¬((bad PB∨PB=TB∨PB=SB)∨PB=w3.heap.size)):=⟨by obtain⟨_,_,hb,_⟩:=HP3.out;have:=bN hb;rintro(h|h);exact HPBN.out h;omega⟩
 have HTB4:=aM (bF HTB3.out HBW4.out)
 have HB4:Aside0 (Below w0.heap.size w0 (w3.alloc (.cells #[.slice A5 r.length c5] 29))):=⟨HB3.out.trans (HBW4.out.mono HB3.out.size)⟩
 have HK4:Aside0 (Keeps bad W (w3.alloc (.cells #[.slice A5 r.length c5] 29))):=⟨HK3.out.trans (Keeps.below HBW4.out)⟩
 have HBN4:Aside0 (∀k,(w3.alloc (.cells #[.slice A5 r.length c5] 29)).heap.size≤k→¬((bad k∨k=TB∨k=SB)∨k=w3.heap.size)):=⟨fun k hk h=>by
  have h2:=HSZ4.out
  rcases h with h|h
  ·exact HBN3.out k (by omega) h
  ·omega⟩
 have HZ4:Aside0 (W.heap.size≤(w3.alloc (.cells #[.slice A5 r.length c5] 29)).heap.size):=⟨by rw [World.size_alloc];have:=HZ3.out;omega⟩
 generalize (w3.alloc (.cells #[.slice A5 r.length c5] 29))=w4 at HZ4 HBW4 HBS4 HP4 HSZ4 HTB4 HB4 HK4 HBN4 ⊢
 generalize w3.heap.size=BS at HBS4 HP4 HSZ4 HPB4 HBN4 ⊢
 clear HBW4 HP3 HTB3 HSB3 HB3 HK3 HBN3 PB5 b0 b1
 have h4n:w0.heap.size≤w4.heap.size:=HB4.out.size
 refine(wpIn_wide (n:=5)).1 ?_
 refine wpIn_rangeFunc_ownH (F:=Fence.wide) (n:=5) rfl (by omega) (gf:=62) (lb:=#[.pointer (some ⟨BS,0,none⟩)]) rfl trivial (enters_of Try.func62 (by kernel_rfl) rfl)
  (back_stops 4 (by omega) BS w0.heap.size A5 c5 r w0 w4 rfl HC5.out (by have:=HR.out;omega) HB4.out HBS4.out) (fun h k=>backK_t h k)
  (fun Wx l o o' hl ho hc hw=>⟨belowK_b h4n Wx l o o' hl ho hc hw,fun ob hob=>(World.putObj_heap_other (by have:=HSZ4.out;omega)).trans hob⟩) (Below.refl _ _) (fun _=>rfl)
  (fun pre Wx=>(PS (fun k=>(bad k∨k=TB∨k=SB)∨k=BS) Wx w0.heap.size PB ((pre.map Prod.snd).reverse++st) (sp++ [prod])∧Keeps (fun k=>(bad k∨k=TB∨k=SB)∨k=BS) w4 Wx)∧(Below w0.heap.size w0 Wx∧w4.heap.size≤Wx.heap.size))
  (fun _ _ _=>False)
  (OwnFrom.and (fun pre X Y row hs hg hrow=>⟨PS.other hs.1 hg (fun r e=>(hrow r e).2),Keeps.other hs.2 hg (fun r e=>(hrow r e).2)⟩) (OwnFrom.and (ownFrom_below (Nat.le_refl _) h4n) (fun _ X Y row hs hg _=>Nat.le_trans hs hg.size)))
  (fun _ _ _ _ _ hs _ _=>hs)
  ⟨⟨HP4.out,Keeps.refl _ _⟩,HB4.out,Nat.le_refl _⟩
  (fun x a' Wx=>∃Bx st',PS (fun k=>((bad k∨k=TB∨k=SB)∨k=BS)∨k=Bx) Wx w0.heap.size PB st' (sp++ [prod])∧Wx.heap[Bx]?=some (.cells #[.bool x.2.f0,.int .i64 x.2.f1] 43 (0,0))∧a'={tmps:=#[.pointer (some ⟨PB,0,none⟩),.agg #[.slice bC aU.length bK,.slice bM aX.length bO,.int .i64 bA,.int .i64 bB,.slice (some ad) aQ.length bP],.int .i64 prod,.pointer (some ⟨TB,0,none⟩),.pointer (some ⟨SB,0,none⟩),undef,.bool false,undef,.pointer (some ⟨Bx,0,none⟩),.pointer (some ⟨PB,0,none⟩),.pointer (some ⟨PB,0,none⟩),.pointer (some ⟨PB,0,none⟩),.pointer (some ⟨PB,1,none⟩),vt,.int .i64 prod,.slice (some ⟨w1.heap.size,0,none⟩) 1 1,.slice As ls cs_,.pointer (some ⟨PB,0,none⟩),.pointer (some ⟨PB,1,none⟩),.pointer (some ⟨SB,4,none⟩),.slice (some ad) aQ.length bP,.int .i64 prod,.pointer (some (ad.add (prod.toNat * 2))),.pointer (some ⟨(ad.add (prod.toNat * 2)).block,(ad.add (prod.toNat * 2)).off+1,none⟩),.slice A5 r.length c5,.func (.func 62) #[] #[.pointer (some ⟨BS,0,none⟩)],.int .i64 (x.1:Int),.agg #[.bool x.2.f0,.int .i64 x.2.f1],undef,undef,undef,undef,undef,undef,undef,undef,undef,undef,undef,undef,undef,undef,undef,undef,undef,undef,undef,undef,undef,undef,undef,undef],defers:= []})
  (fun x a' _ X Y row hs hg hrow=>by
   obtain⟨Bx,st',hps,hb,e⟩:=hs
   refine⟨Bx,st',PS.other hps hg (fun r e=>(hrow r e).2),blk_grown hb hg (fun e'=>?_),e⟩
   obtain⟨_,o,ho,hc⟩:=hrow Bx e'.symm
   rw [hb] at ho
   cases ho
   cases hc) ?assign ?body ?done ?stop
 case assign=>
  rintro l pre x Wx K ⟨⟨hP,hKp⟩,hB,hsz⟩ hK
  have HSZx:=aM hsz
  clear hsz
  have HPx:=aM hP
  have HKx:=aM hKp
  have HBx:=aM hB
  clear hP hKp hB
  dsimp only [backEncs]
  gi_wp2
  exact hK _ _ ((KeepsOthers.alloc _ _).from _) ⟨(Below.refl _ Wx).alloc HBx.out.size _,fun o ho=>aI ho _⟩ ⟨⟨HPx.out.alloc _,HKx.out.trans (Keeps.below (aN (Below.refl _ Wx) _))⟩,HBx.out.alloc HBx.out.size _,by rw [World.size_alloc];have:=HSZx.out;omega⟩ ⟨Wx.heap.size,_,(PS.mono HPx.out.bound (fun k hk=>hk.imp id (fun e=>by omega))).alloc _,heap_alloc_new Wx _,rfl⟩
 case body=>
  rintro l pre x a' Wx hl ⟨rl,hrl⟩ ⟨⟨hP,hKp⟩,hB,hsz⟩ ⟨Bx,st',hP',hBx,rfl⟩ hlen
  have hT:=hKp TB _ (.inl (.inr (.inl rfl))) HTB4.out rfl
  obtain⟨vs,vt',h0,h1,h2,h3⟩:=hP
  have hnB:some Bx≠vs.ownBlock:=by
   obtain⟨vs2,vt2,h0',_,h2',_⟩:=hP'
   rw [h0] at h0'
   injection h0' with h0'
   injection h0' with h0'
   injection h0' with h0'
   injection h0' with e1 _
   subst e1
   exact Kd.R_away h2' (fun k hk e=>hk (.inr e))
  have HNB:=aM hnB
  clear hnB hP'
  have t0:Wx.cell? ⟨TB,0,none⟩=some (.pointer (some ⟨PB,0,none⟩)):=(aG hT 0).trans rfl
  have p0:Wx.cell? ⟨PB,0,none⟩=some vs:=(aG h0 0).trans rfl
  have x0:Wx.cell? ⟨Bx,0,none⟩=some (.bool x.2.f0):=(aG hBx 0).trans rfl
  have x1:Wx.cell? ⟨Bx,1,none⟩=some (.int .i64 x.2.f1):=(aG hBx 1).trans rfl
  have HKp:=aM hKp
  have HBx:=aM hB
  have H0:=aM h0
  have H1x:=aM h1
  have H2:=aM h2
  have H3:=aM h3
  have HT:=aM hT
  have HLEN:=aM hlen
  have HSZx:Aside0 (w4.heap.size≤Wx.heap.size):=⟨hsz⟩
  clear hsz hKp hB h0 h1 h2 h3 hT hlen hl hrl t0 p0 x0 x1
  have HBxx:=aM hBx
  clear hBx
  refine wpIn_block ?_
  refine startR_ (n:=11) (S:=fun w'=>w'.cell? ⟨TB,0,none⟩=some (.pointer (some ⟨PB,0,none⟩))∧w'.cell? ⟨PB,0,none⟩=some vs∧w'.cell? ⟨Bx,0,none⟩=some (.bool x.2.f0)∧w'.cell? ⟨Bx,1,none⟩=some (.int .i64 x.2.f1)) (ds:= [10]) #[false,false,false,false,false,false,false,false,false,false,false] (fun h=>by obtain⟨_,_,h⟩:=h;exact h) (by kernel_rfl) (by kernel_rfl) rfl rfl ⟨(aG HT.out 0).trans rfl,(aG H0.out 0).trans rfl,(aG HBxx.out 0).trans rfl,(aG HBxx.out 1).trans rfl⟩ (fun hHeld=>?_)
  refine take_ (i:=0) (N:=some 28) (v:=?_) (a':=?_) #[true,false,false,false,false,false,false,false,false,false,false] rfl rfl (by kernel_rfl) (fun _ _ _ h=>h) (Or.inl ⟨by rfl,?_⟩) hHeld ?_ ?_
  rotate_left
  ·rintro w' ⟨s0,s1,s2,s3⟩
   go_simp
   with_reducible rfl
  rotate_left
  ·simp only [pq]
   rfl
  refine take_ (i:=1) (N:=some 29) (v:=?_) (a':=?_) #[true,true,false,false,false,false,false,false,false,false,false] rfl rfl (by kernel_rfl) (fun _ _ _ h=>h) (Or.inl ⟨by rfl,?_⟩) hHeld ?_ ?_
  rotate_left
  ·rintro w' ⟨s0,s1,s2,s3⟩
   go_simp
   with_reducible rfl
  rotate_left
  ·simp only [pq]
   rfl
  refine pure_ (i:=2) (N:=some 30) (v:=?_) (a':=?_) #[true,true,true,false,false,false,false,false,false,false,false] rfl rfl (by kernel_rfl) (fun _ _ _ h=>h) (Or.inl ⟨by rfl,?_⟩) ?_ ?_
  rotate_left;(intro w';go_simp;with_reducible rfl);rotate_left;(simp only [pq];rfl)
  refine pure_ (i:=3) (N:=some 31) (v:=?_) (a':=?_) #[true,true,true,true,false,false,false,false,false,false,false] rfl rfl (by kernel_rfl) (fun _ _ _ h=>h) (Or.inl ⟨by rfl,?_⟩) ?_ ?_
  rotate_left;(intro w';go_simp;with_reducible rfl);rotate_left;(simp only [pq];rfl)
  refine take_ (i:=4) (N:=some 32) (v:=?_) (a':=?_) #[true,true,true,true,true,false,false,false,false,false,false] rfl rfl (by kernel_rfl) (fun _ _ _ h=>h) (Or.inl ⟨by rfl,?_⟩) hHeld ?_ ?_
  rotate_left
  ·rintro w' ⟨s0,s1,s2,s3⟩
   go_simp
   with_reducible rfl
  rotate_left
  ·simp only [pq]
   rfl
  refine take_ (i:=5) (N:=some 33) (v:=?_) (a':=?_) #[true,true,true,true,true,true,false,false,false,false,false] rfl rfl (by kernel_rfl) (fun _ _ _ h=>h) (Or.inl ⟨by rfl,?_⟩) hHeld ?_ ?_
  rotate_left
  ·rintro w' ⟨s0,s1,s2,s3⟩
   go_simp
   with_reducible rfl
  rotate_left
  ·simp only [pq]
   rfl
  refine one_ (i:=6) (N:=some 34) #[true,true,true,true,true,true,true,false,false,false,false] rfl rfl (by kernel_rfl) (by decide) (fun K hK=>?_)
  refine value_ (w1:=?_) (v:=?_) (by rfl) rfl ?_ ?_
  rotate_left 2
  ·go_simp
   constructor
   ·rfl
   ·rfl
  refine hK.out _ _ ⟨(aG (aI HT.out _) 0).trans rfl,(aG (aI H0.out _) 0).trans rfl,(aG (aI HBxx.out _) 0).trans rfl,(aG (aI HBxx.out _) 1).trans rfl⟩ (fun hHeld=>?_)
  clear hK K
  refine norm_ (a':=?_) ?_ ?_
  rotate_left
  ·show Act.put _ (some 34) _=_
   simp only [pq]
   rfl
  refine one_ (i:=7) (N:=some 35) #[true,true,true,true,true,true,true,true,false,false,false] rfl rfl (by kernel_rfl) (by decide) (fun K hK=>?_)
  rw [show(Wx.alloc (.cells #[.bool x.2.f0,.int .i64 x.2.f1] 43)).drew=Wx.drew.alloc (.cells #[.bool x.2.f0,.int .i64 x.2.f1] 43) from rfl]
  refine Kd.R_append_step k43 (w0:=Wx.drew) w0.heap.size (by rfl) (.tmp 32) (.tmp 34) 29 43 (.agg #[.bool false,.int .i64 0]) 16 rfl Try.underlying29 info43 rfl (by decide) (by omega) vs _ x.2 [.bool x.2.f0,.int .i64 x.2.f1] (fun k=>¬((bad k∨k=TB∨k=SB)∨k=BS)) (fun _=>False) rfl rfl (k43_mkM _ _ _ x.2) (fun _ hk=>hk.elim) (fun k hk=>HBN4.out k (Nat.le_trans HSZx.out hk)) (aC H2.out) (Below.refl _ _) HBx.out.size (by have:=HR.out;have:=HST.out;have:=HLEN.out;simp only [List.length_reverse,List.length_append,List.length_map];omega) ?_
  intro v1 w5 ho hb hg hat
  obtain⟨Aq,lq,cq,rfl⟩:∃An ln cn,v1= .slice An ln cn:=by obtain⟨An,cn,e⟩:=Kd.R_slice ho;exact⟨An,_,cn,e⟩
  have H05:=aM (blk_grown (aK H0.out) hg (Kd.R_ne H2.out H0.out (by decide)))
  have H35:=aM (Kd.R_over (aC H3.out) (aC H2.out) (by decide) hg)
  have MW:=aM ho
  have HB5:Aside0 (Below w0.heap.size Wx w5):=⟨(aO (Below.refl _ Wx)).trans hb⟩
  have HK5:Aside0 (Keeps (fun k=>(bad k∨k=TB∨k=SB)∨k=BS) Wx w5):=⟨(show Keeps _ Wx Wx.drew from Keeps.refl _ _).trans (Keeps.grown hg (fun k hk=>Kd.R_away H2.out (fun j hj e=>hj (e ▸ hk))))⟩
  have HG5:Aside0 (KeepsOthers Wx w5):=⟨(KeepsOthers.drew Wx).trans (KeepsOthers.of_grownBy hg (fun j o hj ho'=>by obtain⟨cells,hc⟩:=Kd.R_typed H2.out j hj;rw [show Wx.drew.heap[j]?=Wx.heap[j]? from rfl,hc] at ho';cases ho';rfl))⟩
  have HT5:=aM (blk_grown (aK HT.out) hg (Kd.R_away H2.out (fun k hk e=>hk (.inl (.inr (.inl e))))))
  have HBx5:=aM (blk_grown (aK HBxx.out) hg HNB.out)
  have f5:=aH H05.out 0
  clear ho hb hg hat
  refine hK.out _ _ ⟨(aG HT5.out 0).trans rfl,(aG H05.out 0).trans rfl,(aG HBx5.out 0).trans rfl,(aG HBx5.out 1).trans rfl⟩ (fun hHeld=>?_)
  clear hK K
  refine norm_ (a':=?_) ?_ ?_
  rotate_left
  ·show Act.put _ (some 35) _=_
   simp only [pq]
   rfl
  refine pure_ (i:=8) (N:=some 36) (v:=?_) (a':=?_) #[true,true,true,true,true,true,true,true,true,false,false] rfl rfl (by kernel_rfl) (fun _ _ _ h=>h) (Or.inl ⟨by rfl,?_⟩) ?_ ?_
  rotate_left;(intro w';go_simp;with_reducible rfl);rotate_left;(simp only [pq];rfl)
  refine pure_ (i:=9) (N:=some 37) (v:=?_) (a':=?_) #[true,true,true,true,true,true,true,true,true,true,false] rfl rfl (by kernel_rfl) (fun _ _ _ h=>h) (Or.inl ⟨by rfl,?_⟩) ?_ ?_
  rotate_left;(intro w';go_simp;with_reducible rfl);rotate_left;(simp only [pq];rfl)
  refine last_ (i:=10) (N:=none) #[true,true,true,true,true,true,true,true,true,true,true] rfl rfl (by kernel_rfl) (by decide) (fun K hK=>?_)
  refine skip_ (w1:=?_) (by rfl) rfl ?_ ?_
  rotate_left
  ·go_simp
   rfl
  refine hK.out _ _ ?_
  clear hK K
  refine done_ (by kernel_rfl) ?_
  have hBS:=HKp.out BS _ (.inr rfl) HBS4.out rfl
  have hst2:Kd.R k43 43 w5 w0.heap.size (fun k=>¬((bad k∨k=TB∨k=SB)∨k=BS)) (.slice Aq lq cq) (((pre++ [x]).map Prod.snd).reverse++st).reverse:=by
   have h:=MW.out
   have e:(((pre++ [x]).map Prod.snd).reverse++st).reverse=(((pre.map Prod.snd).reverse++st).reverse)++ [x.2]:=by simp
   rw [e]
   exact h
  exact⟨(HG5.out.trans (KeepsOthers.setCell _ _ _)).from _,⟨HB5.out.setCell (p:=⟨PB,0,none⟩) H1x.out _,fun o ho=>by
   rw [hBS] at ho
   cases ho
   exact(HK5.out.trans (Keeps.set (p:=⟨PB,0,none⟩) HPB4.out _)) BS _ (.inr rfl) hBS rfl⟩,⟨PS.stack H05.out H1x.out hst2 H35.out,HKp.out.trans (HK5.out.trans (Keeps.set (p:=⟨PB,0,none⟩) HPB4.out _))⟩,(HBx.out.trans HB5.out).setCell (p:=⟨PB,0,none⟩) H1x.out _,by have h1:=HSZx.out;have h2:=HG5.out.size;have h3:w5.heap.size≤(w5.setCell ⟨PB,0,none⟩ (.slice Aq lq cq)).heap.size:=(by simp [World.setCell]);omega⟩
 case done=>
  rintro D ys Wd hD hys ⟨⟨hP,hKp⟩,hB,hsz⟩ hK
  have hT:=hKp TB _ (.inl (.inr (.inl rfl))) HTB4.out rfl
  obtain⟨vs,vt',h0,h1,h2,h3⟩:=hP
  rw [hys,List.reverse_reverse] at h2
  obtain⟨Av,cv,rfl⟩:=Kd.R_slice h2
  obtain⟨Au,cu,rfl⟩:=Kd.R_slice h3
  have t0:Wd.cell? ⟨TB,0,none⟩=some (.pointer (some ⟨PB,0,none⟩)):=(aG hT 0).trans rfl
  have p0:=(aG h0 0)
  have p1:=(aG h0 1)
  have hrow:∀q,(some D:Option Nat)=some q→∃o:Obj,Wd.heap[q]?=some o∧o.isCells=false:=fun q e=>by
   injection e with e
   subst e
   exact⟨_,hK,rfl⟩
  have HPd:=aM (PS.mono (PS.other ⟨_,_,h0,h1,h2,h3⟩ (grownBy_putObj' Wd D (.deferred none)) hrow) (fun k (hk:bad k)=> .inl (.inl hk)))
  have HBd:=aM (hB.trans (belowK_b (w:=w4) h4n Wd D _ (.deferred none) hD hK rfl rfl))
  have HKd:=aM (HK4.out.trans (Keeps.mono (Keeps.other hKp (grownBy_putObj' Wd D (.deferred none)) hrow) (fun k (hk:bad k)=> .inl (.inl hk))))
  have HD:=aM hK
  have HZd:Aside0 (W.heap.size≤(Wd.putObj D (.deferred none)).heap.size):=⟨Nat.le_trans (Nat.le_trans HZ4.out hsz) (grownBy_putObj' Wd D (.deferred none)).size⟩
  have HL1:Aside0 ((r++st).length=r.length+st.length):=⟨List.length_append⟩
  have HL2:Aside0 ((sp++ [prod]).length=sp.length+1):=⟨by simp⟩
  clear hK hrow hB hKp h0 h1 h2 h3 hT hsz hys hD
  go_wp2
  ·show Q' .ret _ _
   rw [HQ'.out]
   refine⟨by simp,.inl ⟨_,_,rfl,run_takeDeferred HD.out,_,results_tmp rfl _ _ _,?_,HPd.out,HBd.out,HKd.out,HZd.out⟩⟩
   rename_i hl
   rw [HL1.out,decide_eq_true (by omega:r.length+st.length≤10000)]
   simp
   omega
  ·show Q' .ret _ _
   rw [HQ'.out]
   refine⟨by simp,.inl ⟨_,_,rfl,run_takeDeferred HD.out,_,results_tmp rfl _ _ _,?_,HPd.out,HBd.out,HKd.out,HZd.out⟩⟩
   rename_i hl
   rw [HL1.out,decide_eq_false (by omega:¬r.length+st.length≤10000)]
   rfl
 case stop=>
  rintro D c pre Wx _ _ h _
  exact h.elim
end Go.Proofs.Ytapjfnfengefpaa.P
end

section
namespace Go.Proofs.Ytapjfnfengefpaa.P
open Go.RowKit Go.Proofs.YtapjfnfengefpaaW.PrintWords Go.Proofs.YtapjfnfengefpaaW.PrintLast Go.Proofs.YtapjfnfengefpaaW.PrintMore
set_option linter.unusedVariables false
set_option linter.unusedSimpArgs false
def mEnt (tb:List (List Int)) (x look:Int):Int:=(tb.getD x.toNat []).getD look.toNat 0
def mFeed (nt:Nat) (ps:List S35) (tb:List (List Int)) (look:Int):Nat→List S43→List Int→Option (Int×List S43×List Int)
 |0,_,_=>none
 |k+1,[],sp=>some (if look<(nt:Int) then 80 else 0,[],sp)
 |k+1,x::st,sp=>
  if x.f0=true∧x.f1=look then some (0,st,sp)
  else if x.f0=true∨mEnt tb x.f1 look<0 then some (80,st,sp)
  else if decide (((rd_T35 ps (mEnt tb x.f1 look)).f1++st).length≤10000) && decide ((sp++ [mEnt tb x.f1 look]).length≤10000) then mFeed nt ps tb look k ((rd_T35 ps (mEnt tb x.f1 look)).f1++st) (sp++ [mEnt tb x.f1 look])
  else some (2,(rd_T35 ps (mEnt tb x.f1 look)).f1++st,[])
def TabOk (nn nt:Nat) (ps:List S35) (tb:List (List Int)):Prop:=tb.length=nn∧∀i,i<tb.length→(tb.getD i []).length=nt+1∧∀q∈tb.getD i [],q<(ps.length:Int)
theorem rowsOk_spec {nt:Nat}{ps:List S35}:∀(tb:List (List Int)) (r:Nat),rowsOk nt ps r tb=true→∀i,i<tb.length→(tb.getD i []).length=nt+1∧∀q∈tb.getD i [],okEnt ps ((r+i:Nat):Int) q=true
 | [],_,_,i,h=>by simp at h
 |row::tb,r,h,i,hi=>by
  simp only [rowsOk,Bool.and_eq_true,decide_eq_true_eq] at h
  obtain⟨⟨h1,h2⟩,h3⟩:=h
  cases i with
  |zero=>exact⟨by simpa using h1,fun q hq=>by rw [Nat.add_zero];exact List.all_eq_true.1 h2 q (by simpa using hq)⟩
  |succ i=>
   have:=rowsOk_spec tb (r+1) h3 i (by simp at hi;omega)
   rw [show r+1+i=r+(i+1) by omega] at this
   simpa using this
theorem tbRight_tab {nn nt:Nat}{ps:List S35}{tb:List (List Int)}(h:tbRight nn nt ps tb=true):TabOk nn nt ps tb:=by
 simp only [tbRight,Bool.and_eq_true,decide_eq_true_eq] at h
 obtain⟨_,_,h1,h2⟩:=h
 refine⟨h1,fun i hi=>?_⟩
 obtain⟨h3,h4⟩:=rowsOk_spec tb 0 h2 i hi
 refine⟨h3,fun q hq=>?_⟩
 have h5:=h4 q hq
 simp only [okEnt,Bool.and_eq_true,decide_eq_true_eq] at h5
 exact h5.1.2
theorem tbRight_prods {nn nt:Nat}{ps:List S35}{tb:List (List Int)}(h:tbRight nn nt ps tb=true):ps.all (okProd nn nt)=true:=by
 simp only [tbRight,Bool.and_eq_true] at h
 exact h.1
set_option maxHeartbeats 4000000 in
set_option maxRecDepth 100000 in
theorem feed_any (bad:Nat→Prop) (bC:Option Addr) (bK:Nat) (aU:List ByteArray) (bM:Option Addr) (bO:Nat) (aX:List (S72)) (bA:Int) (bB:Int) (bQ:Option Addr) (bP:Nat) (aQ:List (S35)) (A1:Option Addr) (c1:Nat) (tb:List (List Int)) (look:Int) (st:List S43) (sp:List Int) (PB:Nat) (w0 W:World) (k:Nat) (R:Int×List S43×List Int)
 (hPS:PS bad W w0.heap.size PB st sp) (hbad:∀k,bad k→k<W.heap.size) (hPB:¬bad PB) (hw:Below w0.heap.size w0 W) (hr4:Kd.C k35 w0 bQ aQ.length aQ) (ht:Kd.C (Kd.slice 3 (Kd.int .i64)) w0 A1 tb.length tb)
 (hps:aQ.all (okProd aU.length aX.length)=true) (htab:TabOk aU.length aX.length aQ tb) (hst:st.all (okSym aU.length aX.length)=true) (h0:0≤look) (h1:look≤(aX.length:Int)) (hsz:∀p∈aQ,p.f1.length≤1000000) (hl:st.length≤10000) (hs:sp.length≤10000)
 (h:mFeed aX.length aQ tb look k st sp=some R):
 Calls Try.prog 38 #[.pointer (some ⟨PB,0,none⟩),.agg #[.slice bC aU.length bK,.slice bM aX.length bO,.int .i64 bA,.int .i64 bB,.slice bQ aQ.length bP],.slice A1 tb.length c1,.int .i64 look] W fun e w'=>
  e= .returned (.int .i64 R.1)∧PS bad w' w0.heap.size PB R.2.1 R.2.2∧Below w0.heap.size w0 w'∧Keeps bad W w':=by
 have HR4:=aM hr4
 have HT:=aM ht
 have HPS:=aM hps
 have HTAB:=aM htab
 have HLK:=aM (And.intro h0 h1)
 have HSZ:=aM hsz
 have HP1:Aside0 (PS (fun k=>bad k∨k=W.heap.size) (W.alloc (.cells #[.slice bC aU.length bK,.slice bM aX.length bO,.int .i64 bA,.int .i64 bB,.slice bQ aQ.length bP] 26)) w0.heap.size PB st sp):=⟨(PS.mono hPS.bound (fun k hk=>hk.imp id (fun e=>by omega))).alloc _⟩
 have HB1:Aside0 (Below w0.heap.size w0 (W.alloc (.cells #[.slice bC aU.length bK,.slice bM aX.length bO,.int .i64 bA,.int .i64 bB,.slice bQ aQ.length bP] 26))):=⟨hw.trans ((aN (Below.refl _ W) _).mono hw.size)⟩
 have HSB:Aside0 ((W.alloc (.cells #[.slice bC aU.length bK,.slice bM aX.length bO,.int .i64 bA,.int .i64 bB,.slice bQ aQ.length bP] 26)).heap[W.heap.size]?=some (.cells #[.slice bC aU.length bK,.slice bM aX.length bO,.int .i64 bA,.int .i64 bB,.slice bQ aQ.length bP] 26 (0,0))):=⟨heap_alloc_new W _⟩
 have HPBN:Aside0 (¬(bad PB∨PB=W.heap.size)):=⟨by obtain⟨_,_,hb,_⟩:=hPS;have:=bN hb;rintro(h|h);exact hPB h;omega⟩
 have HKW:Aside0 (Keeps bad W (W.alloc (.cells #[.slice bC aU.length bK,.slice bM aX.length bO,.int .i64 bA,.int .i64 bB,.slice bQ aQ.length bP] 26))):=⟨Keeps.below (aN (Below.refl _ W) _)⟩
 have HBAD:=aM hbad
 have HALL:=aM hst
 have HL:=aM (And.intro hl hs)
 have HF:=aM h
 clear hPS hbad hPB hw hr4 ht hps htab hst h0 h1 hsz hl hs h
 go_enter Try.func38,Try.ntmps38
 go_wp2
 generalize W.alloc (.cells #[.slice bC aU.length bK,.slice bM aX.length bO,.int .i64 bA,.int .i64 bB,.slice bQ aQ.length bP] 26)=w1 at HP1 HB1 HSB HKW ⊢
 have HSBW:Aside0 (∀k,bad k∨k=W.heap.size→k<w1.heap.size):=⟨fun k hk=>by have:=bN HSB.out;rcases hk with h|h;have:=HBAD.out k h;omega;omega⟩
 generalize W.heap.size=SB at HP1 HSB HPBN HSBW ⊢
 go_loopg [9] k (fun kq v9 wr=>∃(st:List S43) (sp:List Int),Aside0 (mFeed aX.length aQ tb look kq st sp=some R)∧Aside0 (PS (fun k=>bad k∨k=SB) wr w0.heap.size PB st sp)∧Aside0 (Keeps (fun k=>bad k∨k=SB) w1 wr)∧Aside0 (Below w0.heap.size w0 wr∧w1.heap.size≤wr.heap.size)∧Aside0 (st.all (okSym aU.length aX.length)=true)∧Aside0 (st.length≤10000∧sp.length≤10000))
 case atStart=>exact⟨st,sp,HF,HP1,⟨Keeps.refl _ _⟩,⟨HB1.out,Nat.le_refl _⟩,HALL,HL⟩
 case round=>
  clear HF HP1 HB1 HALL HL
  obtain⟨st,sp,HF,HP,HK,HBZ,HALL,HL⟩:=hrel
  have HB:=aM HBZ.out.1
  have HW1r:=aM HBZ.out.2
  clear HBZ
  cases gk with
  |zero=>exact absurd HF.out (by simp [mFeed])
  |succ gk=>
   obtain⟨vs,vt,g0,g1,g2,g3⟩:=HP.out
   obtain⟨Av,cv,rfl⟩:=Kd.R_slice g2
   obtain⟨Au,cu,rfl⟩:=Kd.R_slice g3
   cases st with
   |nil=>
    have p0:wr.cell? ⟨PB,0,none⟩=some (.slice Av 0 cv):=(aG g0 0).trans rfl
    have hS:=HK.out SB _ (.inr rfl) HSB.out rfl
    have q1:wr.cell? ⟨SB,1,none⟩=some (.slice bM aX.length bO):=(aG hS 1).trans rfl
    have hf:=HF.out
    rw [mFeed] at hf
    have HF2:=aM (Option.some.inj hf).symm
    clear hf hS g0 g1 g2 g3 HF
    by_cases hlk:look<(aX.length:Int)
    ·have d1:decide (look<(aX.length:Int))=true:=decide_eq_true hlk
     have HQ:=aM (if_pos hlk:(if look<(aX.length:Int) then(80:Int) else 0)=80)
     clear d1
     go_wp2
     go_ret
     exact⟨by rw [HF2.out,HQ.out];rfl,by rw [HF2.out];exact PS.mono HP.out (fun _ h=> .inl h),HB.out,HKW.out.trans (Keeps.mono HK.out (fun _ h=> .inl h))⟩
    ·have HQ:=aM (if_neg hlk:(if look<(aX.length:Int) then(80:Int) else 0)=0)
     go_wp2
     go_ret
     exact⟨by rw [HF2.out,HQ.out];rfl,by rw [HF2.out];exact PS.mono HP.out (fun _ h=> .inl h),HB.out,HKW.out.trans (Keeps.mono HK.out (fun _ h=> .inl h))⟩
   |cons x st=>
    have p0:wr.cell? ⟨PB,0,none⟩=some (.slice Av (x::st).reverse.length cv):=(aG g0 0).trans rfl
    have hlen:(x::st).reverse.length=st.length+1:=by simp
    rw [hlen] at p0
    have PP:=aM (pop_any (fun k=>bad k∨k=SB) x st sp w0.heap.size PB wr HP.out (by have:=HL.out.1;simp only [List.length_cons] at this;omega))
    have H1:=aM g1
    obtain⟨n,hn⟩:∃n,n=st.length:=⟨_,rfl⟩
    rw [←hn] at p0
    have hn0:decide ((0:Int)<(n:Int)+1)=true:=decide_eq_true (by omega)
    clear g0 g1 g2 g3 hlen HP hn
    go_upto_region 3 with(first|(go_at_call 52;(with_reducible refine PP.out.mono ?_);rintro e w2 ⟨rfl,hp2,hk2,hb2⟩;have HP2:=aM hp2;have HK2:Aside0 (Keeps (fun k=>bad k∨k=SB) w1 w2):=⟨HK.out.trans (Keeps.kept hk2 (fun k hk e=>HPBN.out (by rw [←e];exact hk)))⟩;have HB2:=aM (hb2 _ _ H1.out HB.out);have HW12:Aside0 (w1.heap.size≤w2.heap.size):=⟨Nat.le_trans HW1r.out hk2.1⟩;clear hp2 hk2 hb2 PP))
    have HXB:Aside0 ((w2.alloc (.cells #[.bool x.f0,.int .i64 x.f1] 43)).heap[w2.heap.size]?=some (.cells #[.bool x.f0,.int .i64 x.f1] 43 (0,0))):=⟨heap_alloc_new w2 _⟩
    have HP3:=aM (HP2.out.alloc (.cells #[.bool x.f0,.int .i64 x.f1] 43))
    have HK3:Aside0 (Keeps (fun k=>bad k∨k=SB) w1 (w2.alloc (.cells #[.bool x.f0,.int .i64 x.f1] 43))):=⟨HK2.out.trans (Keeps.below (aN (Below.refl _ w2) _))⟩
    have HB3:Aside0 (Below w0.heap.size w0 (w2.alloc (.cells #[.bool x.f0,.int .i64 x.f1] 43))):=⟨HB2.out.trans ((aN (Below.refl _ w2) _).mono HB2.out.size)⟩
    have HW13:Aside0 (w1.heap.size≤(w2.alloc (.cells #[.bool x.f0,.int .i64 x.f1] 43)).heap.size):=⟨by rw [World.size_alloc];have:=HW12.out;omega⟩
    generalize w2.alloc (.cells #[.bool x.f0,.int .i64 x.f1] 43)=w3 at HXB HP3 HK3 HB3 HW13 ⊢
    generalize w2.heap.size=XB at HXB ⊢
    have x0:w3.cell? ⟨XB,0,none⟩=some (.bool x.f0):=(aG HXB.out 0).trans rfl
    have x1:w3.cell? ⟨XB,1,none⟩=some (.int .i64 x.f1):=(aG HXB.out 1).trans rfl
    clear p0 hn0 HP2 HK2 HB2 HK HB
    have hf:=HF.out
    rw [mFeed] at hf
    have hxok:=List.all_eq_true.1 HALL.out x List.mem_cons_self
    have HALL2:Aside0 (st.all (okSym aU.length aX.length)=true):=⟨by have:=HALL.out;rw [List.all_cons,Bool.and_eq_true] at this;exact this.2⟩
    have HL2:Aside0 (st.length+1≤10000∧sp.length≤10000):=⟨by have:=HL.out;simpa using this⟩
    obtain⟨xf,xn⟩:=x
    simp only at x0 x1 hf hxok
    have HXOK:=aM hxok
    cases xf with
    |true=>
     by_cases hxl:xn=look
     ·rw [if_pos ⟨rfl,hxl⟩] at hf
      have HF2:=aM (Option.some.inj hf).symm
      subst hxl
      clear hf hxok HF HALL HL
      go_wp2
      go_ret
      exact⟨by rw [HF2.out];rfl,by rw [HF2.out];exact PS.mono HP3.out (fun _ h=> .inl h),HB3.out,HKW.out.trans (Keeps.mono HK3.out (fun _ h=> .inl h))⟩
     ·rw [if_neg (fun h=>hxl h.2),if_pos (.inl rfl)] at hf
      have HF2:=aM (Option.some.inj hf).symm
      have y1:(xn==look)=false:=by simp [hxl]
      have y2:decide (xn=look)=false:=decide_eq_false hxl
      clear hf hxok HF HALL HL
      go_wp2
      go_ret
      exact⟨by rw [HF2.out];rfl,by rw [HF2.out];exact PS.mono HP3.out (fun _ h=> .inl h),HB3.out,HKW.out.trans (Keeps.mono HK3.out (fun _ h=> .inl h))⟩
    |false=>
     rw [if_neg (fun h=>by cases h.1)] at hf
     obtain⟨hx0,hx1⟩:0≤xn∧xn<(aU.length:Int):=by simpa [okSym] using hxok
     have htl:=HTAB.out.1
     obtain⟨hrl,hrq⟩:=HTAB.out.2 xn.toNat (by omega)
     obtain⟨adt,A9,c9,eat,ht0,_,hC9⟩:=at_rowi (bD HT.out HB3.out) xn hx0 (by omega)
     obtain⟨adr,ear,hr0⟩:=Kd.at_int hC9 look HLK.out.1 (by have:=HLK.out.2;omega)
     rw [show rd (tb.getD xn.toNat []) look=mEnt tb xn look from rfl] at hr0
     have hrm:mEnt tb xn look<(aQ.length:Int):=hrq _ (by
      unfold mEnt
      generalize tb.getD xn.toNat []=row at hrl ⊢
      rw [List.getD_eq_getElem?_getD,List.getElem?_eq_getElem (by have:=HLK.out;omega)]
      exact List.getElem_mem _)
     generalize mEnt tb xn look=q at hf hr0 hrm
     obtain⟨n9,hn9⟩:∃n9,n9=(tb.getD xn.toNat []).length:=⟨_,rfl⟩
     rw [←hn9] at ht0 hrl
     subst eat
     subst ear
     have b4:(0≤xn)=True:=eq_true hx0
     have b5:(xn<(tb.length:Int))=True:=eq_true (by omega)
     have b6:(0≤look)=True:=eq_true HLK.out.1
     have b7:(look<(n9:Int))=True:=eq_true (by have:=HLK.out.2;omega)
     have HT0:=aM ht0
     have HR0:=aM hr0
     have HRM:=aM hrm
     by_cases hq:q<0
     ·rw [if_pos (.inr hq)] at hf
      have HF2:=aM (Option.some.inj hf).symm
      have y1:decide (q<0)=true:=decide_eq_true hq
      clear hf hxok HF HALL HL hrm hn9 hrl hrq htl hx0 hx1 hC9 hq
      go_wp2
      go_ret
      exact⟨by rw [HF2.out];rfl,by rw [HF2.out];exact PS.mono HP3.out (fun _ h=> .inl h),HB3.out,HKW.out.trans (Keeps.mono HK3.out (fun _ h=> .inl h))⟩
     ·rw [if_neg (fun h=>by rcases h with h|h;cases h;exact hq h)] at hf
      have y1:decide (q<0)=false:=decide_eq_false hq
      have HF2:=aM hf
      have HQ:=aM (by omega:0≤q)
      clear hf hxok HF HALL HL hrm hn9 hrl hrq htl hx0 hx1 hC9 hq
      go_upto_region 7 with fail
      have HSX:=aM (HK3.out SB _ (.inr rfl) HSB.out rfl)
      have X1:=aM x1
      have hpl:(rd_T35 aQ q).f1.length≤1000000∧okProd aU.length aX.length (rd_T35 aQ q)=true:=by
       have hm:rd_T35 aQ q∈aQ:=by
        rw [rd_T35,List.getD_eq_getElem?_getD,List.getElem?_eq_getElem (by have:=HQ.out;have:=HRM.out;omega)]
        exact List.getElem_mem _
       exact⟨HSZ.out _ hm,List.all_eq_true.1 HPS.out _ hm⟩
      have PE:=aM (expand_any (fun k=>bad k∨k=SB) bC bK aU bM bO aX bA bB bQ bP aQ q st sp PB w0 w3.drew HP3.out.drew (aO HB3.out) (fun k hk=>Nat.lt_of_lt_of_le (HSBW.out k hk) (by have:=HW13.out;exact this)) HPBN.out HR4.out HQ.out HRM.out hpl.1 (by have:=HL2.out;omega) (by have:=HL2.out;omega))
      have HPL:=aM hpl
      generalize hbb:(decide (((rd_T35 aQ q).f1++st).length≤10000) && decide ((sp++ [q]).length≤10000))=tt at HF2 PE
      have HBB:=aM hbb
      clear hbb
      clear x0 x1 hpl
      refine start_ (n:=12) (S:=fun w'=>w'.cell? ⟨SB,0,none⟩=some (.slice bC aU.length bK)∧w'.cell? ⟨SB,1,none⟩=some (.slice bM aX.length bO)∧w'.cell? ⟨SB,2,none⟩=some (.int .i64 bA)∧w'.cell? ⟨SB,3,none⟩=some (.int .i64 bB)∧w'.cell? ⟨SB,4,none⟩=some (.slice bQ aQ.length bP)∧w'.cell? ⟨XB,1,none⟩=some (.int .i64 xn)∧w'.cell? (adt.add xn.toNat)=some (.slice (some adr) n9 c9)∧w'.cell? (adr.add look.toNat)=some (.int .i64 q)) (ds:= [10]) #[F,F,F,F,F,F,F,F,F,F,F,F] (by kernel_rfl) rfl rfl ⟨(aG HSX.out 0).trans rfl,(aG HSX.out 1).trans rfl,(aG HSX.out 2).trans rfl,(aG HSX.out 3).trans rfl,(aG HSX.out 4).trans rfl,X1.out,HT0.out,HR0.out⟩ (fun hHeld=>?_)
      refine pure_ (i:=0) (N:=some 35) (v:=?_) (a':=?_) #[T,F,F,F,F,F,F,F,F,F,F,F] rfl rfl (by kernel_rfl) (fun _ _ _ h=>h) (Or.inl ⟨by rfl,?_⟩) ?_ ?_
      rotate_left;(intro w';go_simp;with_reducible rfl);rotate_left;(simp only [pq];rfl)
      refine pure_ (i:=2) (N:=some 37) (v:=?_) (a':=?_) #[T,F,T,F,F,F,F,F,F,F,F,F] rfl rfl (by kernel_rfl) (fun _ _ _ h=>h) (Or.inl ⟨by rfl,?_⟩) ?_ ?_
      rotate_left;(intro w';go_simp;with_reducible rfl);rotate_left;(simp only [pq];rfl)
      refine pure_ (i:=3) (N:=some 38) (v:=?_) (a':=?_) #[T,F,T,T,F,F,F,F,F,F,F,F] rfl rfl (by kernel_rfl) (fun _ _ _ h=>h) (Or.inl ⟨by rfl,?_⟩) ?_ ?_
      rotate_left;(intro w';go_simp;with_reducible rfl);rotate_left;(simp only [pq];rfl)
      refine pure_ (i:=7) (N:=some 42) (v:=?_) (a':=?_) #[T,F,T,T,F,F,F,T,F,F,F,F] rfl rfl (by kernel_rfl) (fun _ _ _ h=>h) (Or.inl ⟨by rfl,?_⟩) ?_ ?_
      rotate_left;(intro w';go_simp;with_reducible rfl);rotate_left;(simp only [pq];rfl)
      refine take_ (i:=1) (N:=some 36) (v:=?_) (a':=?_) #[T,T,T,T,F,F,F,T,F,F,F,F] rfl rfl (by kernel_rfl) (fun _ _ _ h=>h) (Or.inl ⟨by rfl,?_⟩) hHeld ?_ ?_
      rotate_left
      ·rintro w' ⟨s0,s1,s2,s3,s4,s5,s6,s7⟩
       go_simp
       with_reducible rfl
      rotate_left
      ·simp only [pq]
       rfl
      refine take_ (i:=4) (N:=some 39) (v:=?_) (a':=?_) #[T,T,T,T,T,F,F,T,F,F,F,F] rfl rfl (by kernel_rfl) (fun _ _ _ h=>h) (Or.inl ⟨by rfl,?_⟩) hHeld ?_ ?_
      rotate_left
      ·rintro w' ⟨s0,s1,s2,s3,s4,s5,s6,s7⟩
       go_simp
       with_reducible rfl
      rotate_left
      ·simp only [pq]
       rfl
      refine pure_ (i:=5) (N:=some 40) (v:=?_) (a':=?_) #[T,T,T,T,T,T,F,T,F,F,F,F] rfl rfl (by kernel_rfl) (fun _ _ _ h=>h) (Or.inl ⟨by rfl,?_⟩) ?_ ?_
      rotate_left;(intro w';go_simp;with_reducible rfl);rotate_left;(simp only [pq];rfl)
      refine take_ (i:=6) (N:=some 41) (v:=?_) (a':=?_) #[T,T,T,T,T,T,T,T,F,F,F,F] rfl rfl (by kernel_rfl) (fun _ _ _ h=>h) (Or.inl ⟨by rfl,?_⟩) hHeld ?_ ?_
      rotate_left
      ·rintro w' ⟨s0,s1,s2,s3,s4,s5,s6,s7⟩
       go_simp
       with_reducible rfl
      rotate_left
      ·simp only [pq]
       rfl
      refine pure_ (i:=8) (N:=some 43) (v:=?_) (a':=?_) #[T,T,T,T,T,T,T,T,T,F,F,F] rfl rfl (by kernel_rfl) (fun _ _ _ h=>h) (Or.inl ⟨by rfl,?_⟩) ?_ ?_
      rotate_left;(intro w';go_simp;with_reducible rfl);rotate_left;(simp only [pq];rfl)
      refine take_ (i:=9) (N:=some 44) (v:=?_) (a':=?_) #[T,T,T,T,T,T,T,T,T,T,F,F] rfl rfl (by kernel_rfl) (fun _ _ _ h=>h) (Or.inl ⟨by rfl,?_⟩) hHeld ?_ ?_
      rotate_left
      ·rintro w' ⟨s0,s1,s2,s3,s4,s5,s6,s7⟩
       go_simp
       with_reducible rfl
      rotate_left
      ·simp only [pq]
       rfl
      refine last_ (i:=10) (N:=some 45) #[T,T,T,T,T,T,T,T,T,T,T,F] rfl rfl (by kernel_rfl) (by decide) (fun K hK=>?_)
      refine goes_ Try.func53 (by kernel_rfl) rfl #[.pointer (some ⟨PB,0,none⟩),.agg #[.slice bC aU.length bK,.slice bM aX.length bO,.int .i64 bA,.int .i64 bB,.slice bQ aQ.length bP],.int .i64 q] (by rfl) rfl rfl (by simp only [List.map_toArray,List.map_cons,List.map_nil];rfl) ?_
      with_reducible refine(PE.out).mono ?_
      rintro e w4 ⟨rfl,hp4,hb4,hk4,hz4⟩
      refine⟨_,rfl,?_⟩
      have HP4:=aM hp4
      have HB4:=aM hb4
      have HW14:Aside0 (w1.heap.size≤w4.heap.size):=⟨Nat.le_trans HW13.out hz4⟩
      have HK4:Aside0 (Keeps (fun k=>bad k∨k=SB) w1 w4):=⟨(show Keeps _ w1 w3.drew from HK3.out).trans hk4⟩
      clear hp4 hb4 hk4 hz4
      refine hK.out _ _ ?_
      clear hK K
      refine norm_ (a':=?_) ?_ ?_
      rotate_left
      ·show Act.put _ (some 45) _=_
       simp only [pq]
       rfl
      refine pure_ (i:=11) (N:=some 46) (v:=?_) (a':=?_) #[T,T,T,T,T,T,T,T,T,T,T,T] rfl rfl (by kernel_rfl) (fun _ _ _ h=>h) (Or.inl ⟨by rfl,?_⟩) ?_ ?_
      rotate_left;(intro w';go_simp;with_reducible rfl);rotate_left;(simp only [pq];rfl)
      refine done_ (by kernel_rfl) ?_
      have HALL3:Aside0 (((rd_T35 aQ q).f1++st).all (okSym aU.length aX.length)=true):=⟨by
       rw [List.all_append,Bool.and_eq_true]
       refine⟨?_,HALL2.out⟩
       have:=HPL.out.2
       simp only [okProd,Bool.and_eq_true] at this
       exact this.2⟩
      generalize (rd_T35 aQ q).f1=pr at HF2 HP4 HALL3 HBB
      clear b4 b5 b6 b7
      cases tt with
      |true=>
       have HL3:Aside0 ((pr++st).length≤10000∧(sp++ [q]).length≤10000):=⟨by have:=HBB.out;simpa only [Bool.and_eq_true,decide_eq_true_eq] using this⟩
       have HF3:Aside0 (mFeed aX.length aQ tb look gk (pr++st) (sp++ [q])=some R):=⟨by have:=HF2.out;rwa [if_pos rfl] at this⟩
       clear HF2 HBB
       go_wp2
       go_roundg gk
       case measure=>omega
       case rel=>exact⟨pr++st,sp++ [q],HF3,HP4,HK4,⟨HB4.out,HW14.out⟩,HALL3,HL3⟩
      |false=>
       have HF3:Aside0 (R=(2,pr++st,[])):=⟨by have:=HF2.out;rw [if_neg (by simp)] at this;exact(Option.some.inj this).symm⟩
       obtain⟨vs4,vt4,g0,g1,g2,g3⟩:=HP4.out
       obtain⟨Au4,cu4,rfl⟩:=Kd.R_slice g3
       have p1:=aG g0 1
       have f1:=aH g0 1
       have G0:=aM g0
       have G1:=aM g1
       have G2:=aM g2
       clear HF2 HBB g0 g1 g2 g3
       go_wp2
       go_ret
       exact⟨by rw [HF3.out];rfl,by rw [HF3.out];exact PS.mono (PS.steps G0.out G1.out G2.out (Kd.R_nil _ _ _ _ _)) (fun _ h=> .inl h),HB4.out.setCell (p:=⟨PB,1,none⟩) G1.out _,HKW.out.trans ((Keeps.mono HK4.out (fun _ h=> .inl h)).trans (Keeps.set (p:=⟨PB,1,none⟩) (fun h=>HPBN.out (.inl h)) _))⟩
def mOut:Option (Int×List S43×List Int)→List S43×Bool×List Int×Int
 |none=>([],true,[],2)
 |some (e,st,sp)=>if e=0 then(st.reverse,false,sp,0) else([],true,sp,e)
def mFeedAll (nn nt:Nat) (ps:List S35) (tb:List (List Int)) (stack:List S43) (dead:Bool) (look:Int):List S43×Bool×List Int×Int:=
 if tbRight nn nt ps tb=true∧stAwaits nn nt stack=true∧0≤look∧look≤(nt:Int) then
  if dead=true then([],true,[],80) else mOut (mFeed nt ps tb look 10002 stack.reverse [])
 else([],true,[],1)
theorem mFeed_some {nt:Nat}{ps:List S35}{tb:List (List Int)}{look:Int}:∀(k:Nat) (st:List S43) (sp:List Int),10001≤k+sp.length→sp.length≤10000→∃R,mFeed nt ps tb look k st sp=some R
 |0,_,_,h,h'=>by omega
 |k+1,[],sp,_,_=>⟨_,rfl⟩
 |k+1,x::st,sp,h,_=>by
  rw [mFeed]
  split
  ·exact⟨_,rfl⟩
  ·split
   ·exact⟨_,rfl⟩
   ·split
    ·rename_i hc
     simp only [Bool.and_eq_true,decide_eq_true_eq] at hc
     exact mFeed_some k _ _ (by simp only [List.length_append,List.length_singleton];omega) hc.2
    ·exact⟨_,rfl⟩
def machine_Feed.f (aU:List ByteArray) (aX:List (S72)) (bA:Int) (bB:Int) (aQ:List (S35)) (l1:List (List Int)) (dF:List (S43)) (fD:Bool) (a3:Int):Option (List (S43)×Bool×List Int×Int):=
 if aX.length≤1000000000∧l1.length≤1000000000∧aQ.length≤1000000000∧aQ.all (fun p=>decide (p.f1.length≤1000000))=true∧l1.all (fun p=>decide (p.length≤9223372036854775807))=true then some (mFeedAll aU.length aX.length aQ l1 dF fD a3) else none
set_option maxHeartbeats 4000000 in
set_option maxRecDepth 100000 in
theorem machine_Feed.calls (bC:Option Addr) (bK:Nat) (aU:List ByteArray) (bM:Option Addr) (bO:Nat) (aX:List (S72)) (bA:Int) (bB:Int) (bQ:Option Addr) (bP:Nat) (aQ:List (S35)) (A1:Option Addr) (c1:Nat) (l1:List (List Int)) (gQ:Option Addr) (gT:Nat) (dF:List (S43)) (fD:Bool) (a3:Int) (r1:List (S43)) (r2:Bool) (r3:List Int) (r4:Int) (w:World)
 (dM:Kd.C Kd.string w bC aU.length aU) (dT:aU.length≤bK) (dU:Kd.C k72 w bM aX.length aX) (dY:aX.length≤bO) (dR:Kd.C k35 w bQ aQ.length aQ) (eB:aQ.length≤bP) (hr1:Kd.C (Kd.slice 3 (Kd.int .i64)) w A1 l1.length l1) (hc1:l1.length≤c1) (yL:Kd.C k43 w gQ dF.length dF) (yM:dF.length≤gT)
 (h:machine_Feed.f aU aX bA bB aQ l1 dF fD a3=some (r1,r2,r3,r4)):
 Calls Try.prog 23 #[.agg #[.slice bC aU.length bK,.slice bM aX.length bO,.int .i64 bA,.int .i64 bB,.slice bQ aQ.length bP],.slice A1 l1.length c1,.agg #[.slice gQ dF.length gT,.bool fD],.int .i64 a3] w fun e w'=>∃v0_ v1_:Value,e= .returned (.tuple #[.agg #[v0_,.bool r2],v1_,.int .i64 r4])∧Kd.R k43 43 w' w.heap.size (fun _=>True) v0_ r1∧Kd.R (Kd.int .i64) 3 w' w.heap.size (fun _=>True) v1_ r3∧Below w.heap.size w w':=by
 unfold machine_Feed.f at h
 split at h
 case isFalse=>simp at h
 rename_i hbig
 obtain⟨hb1,hb2,hb3,hb4,hb5⟩:=hbig
 have he:=Option.some.inj h
 clear h
 have hmr:machine_Right.f aU aX bA bB aQ l1=some (tbRight aU.length aX.length aQ l1):=by
  unfold machine_Right.f
  rw [if_pos ⟨hb1,hb2,hb3,List.all_eq_true.2 (fun p hp=>decide_eq_true (by have:=of_decide_eq_true (List.all_eq_true.1 hb4 p hp);omega)),hb5⟩]
 have hp1:∀p∈aQ,p.f1.length≤1000000:=fun p hp=>of_decide_eq_true (List.all_eq_true.1 hb4 p hp)
 have HE:=aM he
 have HP1:=aM hp1
 have HMR:=aM hmr
 have HBIG:=aM hb1
 have H00:=aM (And.intro dM dT)
 have H01:=aM (And.intro dU dY)
 have H04:=aM (And.intro dR eB)
 have H1:=aM (And.intro hr1 hc1)
 have H2:=aM (And.intro yL yM)
 clear he hp1 hmr hb1 hb2 hb3 hb4 hb5 dM dT dU dY dR eB hr1 hc1 yL yM
 go_enter Try.func23,Try.ntmps23
 go_upto_region 1 with fail
 have HW1:Aside0 (Below w.heap.size w (((w.alloc (.cells #[.slice bC aU.length bK,.slice bM aX.length bO,.int .i64 bA,.int .i64 bB,.slice bQ aQ.length bP] 26)).alloc (.cells #[.slice gQ dF.length gT,.bool fD] 31)).alloc (.cells #[.slice none 0 0,.bool false] 31))):=⟨(((Below.refl _ w).alloc (Nat.le_refl _) _).alloc (by simp) _).alloc (by simp;omega) _⟩
 have HS1:Aside0 ((((w.alloc (.cells #[.slice bC aU.length bK,.slice bM aX.length bO,.int .i64 bA,.int .i64 bB,.slice bQ aQ.length bP] 26)).alloc (.cells #[.slice gQ dF.length gT,.bool fD] 31)).alloc (.cells #[.slice none 0 0,.bool false] 31)).heap[w.heap.size]?=some (.cells #[.slice bC aU.length bK,.slice bM aX.length bO,.int .i64 bA,.int .i64 bB,.slice bQ aQ.length bP] 26 (0,0))):=⟨aI (aI (blk_new _ _) _) _⟩
 have HM1:Aside0 ((((w.alloc (.cells #[.slice bC aU.length bK,.slice bM aX.length bO,.int .i64 bA,.int .i64 bB,.slice bQ aQ.length bP] 26)).alloc (.cells #[.slice gQ dF.length gT,.bool fD] 31)).alloc (.cells #[.slice none 0 0,.bool false] 31)).heap[w.heap.size+1]?=some (.cells #[.slice gQ dF.length gT,.bool fD] 31 (0,0))):=⟨by have h:=aI (blk_new (w.alloc (.cells #[.slice bC aU.length bK,.slice bM aX.length bO,.int .i64 bA,.int .i64 bB,.slice bQ aQ.length bP] 26)) (.cells #[.slice gQ dF.length gT,.bool fD] 31)) (.cells #[.slice none 0 0,.bool false] 31);rw [World.size_alloc] at h;exact h⟩
 have HR1:Aside0 ((((w.alloc (.cells #[.slice bC aU.length bK,.slice bM aX.length bO,.int .i64 bA,.int .i64 bB,.slice bQ aQ.length bP] 26)).alloc (.cells #[.slice gQ dF.length gT,.bool fD] 31)).alloc (.cells #[.slice none 0 0,.bool false] 31)).heap[w.heap.size+1+1]?=some (.cells #[.slice none 0 0,.bool false] 31 (0,0))):=⟨by have h:=blk_new ((w.alloc (.cells #[.slice bC aU.length bK,.slice bM aX.length bO,.int .i64 bA,.int .i64 bB,.slice bQ aQ.length bP] 26)).alloc (.cells #[.slice gQ dF.length gT,.bool fD] 31)) (.cells #[.slice none 0 0,.bool false] 31);rw [World.size_alloc,World.size_alloc] at h;exact h⟩
 generalize (((w.alloc (.cells #[.slice bC aU.length bK,.slice bM aX.length bO,.int .i64 bA,.int .i64 bB,.slice bQ aQ.length bP] 26)).alloc (.cells #[.slice gQ dF.length gT,.bool fD] 31)).alloc (.cells #[.slice none 0 0,.bool false] 31))=w1 at HW1 HS1 HM1 HR1 ⊢
 have HSZ:Aside0 (w.heap.size≤w.heap.size):=⟨Nat.le_refl _⟩
 have HRW:Aside0 (w.heap.size≤w.heap.size+1+1):=⟨by omega⟩
 generalize w.heap.size+1+1=RB at HR1 HRW ⊢
 generalize w.heap.size+1=MB at HM1 ⊢
 have HBLK:Aside0 (∀W,Below w1.heap.size w1 W→(W.cell? ⟨w.heap.size,0,none⟩=some (.slice bC aU.length bK)∧W.cell? ⟨w.heap.size,1,none⟩=some (.slice bM aX.length bO)∧W.cell? ⟨w.heap.size,2,none⟩=some (.int .i64 bA)∧W.cell? ⟨w.heap.size,3,none⟩=some (.int .i64 bB)∧W.cell? ⟨w.heap.size,4,none⟩=some (.slice bQ aQ.length bP))∧W.cell? ⟨MB,0,none⟩=some (.slice gQ dF.length gT)∧W.cell? ⟨MB,1,none⟩=some (.bool fD)∧W.heap[RB]?=some (.cells #[.slice none 0 0,.bool false] 31 (0,0))):=⟨fun W hW=>by
  have hb:=bF HS1.out hW
  have hm:=bF HM1.out hW
  exact⟨⟨(aG hb 0).trans rfl,(aG hb 1).trans rfl,(aG hb 2).trans rfl,(aG hb 3).trans rfl,(aG hb 4).trans rfl⟩,(aG hm 0).trans rfl,(aG hm 1).trans rfl,bF HR1.out hW⟩⟩
 have PR:=aM (machine_Right.calls bC bK aU bM bO aX bA bB bQ bP aQ A1 c1 l1 _ w1 (bD H00.out.1 HW1.out) H00.out.2 (bD H01.out.1 HW1.out) H01.out.2 (bD H04.out.1 HW1.out) H04.out.2 (bD H1.out.1 HW1.out) H1.out.2 HMR.out)
 have PA:Aside0 (∀W,Below w1.heap.size w1 W→Calls Try.prog 35 #[.agg #[.slice bC aU.length bK,.slice bM aX.length bO,.int .i64 bA,.int .i64 bB,.slice bQ aQ.length bP],.slice gQ dF.length gT] W fun e w'=>e= .returned (.bool (stAwaits aU.length aX.length dF))∧Below W.heap.size W w'):=⟨fun W hW=>awaits_any bC bK aU bM bO aX bA bB bQ bP aQ gQ gT dF W (bD H2.out.1 (HW1.out.trans (hW.mono HW1.out.size)))⟩
 obtain⟨⟨q0,q1,q2,q3,q4⟩,_,_,_⟩:=HBLK.out w1 (Below.refl _ _)
 have hsum:mFeedAll aU.length aX.length aQ l1 dF fD a3=if(tbRight aU.length aX.length aQ l1 && (stAwaits aU.length aX.length dF && (decide (0≤a3) && decide (a3≤(aX.length:Int)))))=true then(if fD=true then([],true,[],80) else mOut (mFeed aX.length aQ l1 a3 10002 dF.reverse [])) else([],true,[],1):=by simp [mFeedAll]
 have HSUM:=aM hsum
 have HTAB:Aside0 (tbRight aU.length aX.length aQ l1=true→TabOk aU.length aX.length aQ l1∧aQ.all (okProd aU.length aX.length)=true):=⟨fun h=>⟨tbRight_tab h,tbRight_prods h⟩⟩
 have HAW:Aside0 (stAwaits aU.length aX.length dF=true→dF.length≤10000∧dF.all (okSym aU.length aX.length)=true):=⟨fun h=>by simpa [stAwaits] using h⟩
 clear hsum
 generalize tbRight aU.length aX.length aQ l1=g1 at PR HSUM HTAB
 generalize stAwaits aU.length aX.length dF=g2 at PA HSUM HAW
 generalize hok:(g1 && (g2 && (decide (0≤a3) && decide (a3≤(aX.length:Int)))))=ok at HSUM
 have HOK:=aM hok
 clear hok
 go_cut [13] (fun s13 wc=>s13= .bool (!ok)∧Aside0 (Below w1.heap.size w1 wc))
 case first=>
  cases g1 with
  |false=>
   have ho:ok=false:=by rw [←HOK.out];rfl
   subst ho
   go_wp2_with (first|(go_at_call 25;(with_reducible refine PR.out.mono ?_);rintro e w2 ⟨rfl,hb2⟩;have HB2:=aM hb2;clear hb2 PR q0 q1 q2 q3 q4))
   go_meet
   case rel=>exact⟨rfl,HB2⟩
  |true=>
   cases g2 with
   |false=>
    have ho:ok=false:=by rw [←HOK.out];rfl
    subst ho
    go_wp2_with (first|(go_at_call 25;(with_reducible refine PR.out.mono ?_);rintro e w2 ⟨rfl,hb2⟩;have HB2:=aM hb2;have P2:=aM (PA.out w2 hb2);clear hb2 PR q0 q1 q2 q3 q4;obtain⟨⟨q0,q1,q2,q3,q4⟩,m0,_,_⟩:=HBLK.out w2 HB2.out)|(go_at_call 35;(with_reducible refine P2.out.mono ?_);rintro e w3 ⟨rfl,hb3⟩;have HB3:Aside0 (Below w1.heap.size w1 w3):=⟨HB2.out.trans (hb3.mono HB2.out.size)⟩;clear hb3 P2 q0 q1 q2 q3 q4 m0))
    go_meet
    case rel=>exact⟨rfl,HB3⟩
   |true=>
    by_cases ha:a3<0
    ·have ho:ok=false:=by rw [←HOK.out,decide_eq_false (by omega:¬0≤a3)];rfl
     subst ho
     have HA:=aM (decide_eq_true ha)
     clear ha
     go_wp2_with (first|(go_at_call 25;(with_reducible refine PR.out.mono ?_);rintro e w2 ⟨rfl,hb2⟩;have HB2:=aM hb2;have P2:=aM (PA.out w2 hb2);clear hb2 PR q0 q1 q2 q3 q4;obtain⟨⟨q0,q1,q2,q3,q4⟩,m0,_,_⟩:=HBLK.out w2 HB2.out)|(go_at_call 35;(with_reducible refine P2.out.mono ?_);rintro e w3 ⟨rfl,hb3⟩;have HB3:Aside0 (Below w1.heap.size w1 w3):=⟨HB2.out.trans (hb3.mono HB2.out.size)⟩;clear hb3 P2 q0 q1 q2 q3 q4 m0;have ha:=HA.out))
     go_meet
     case rel=>exact⟨rfl,HB3⟩
    ·by_cases hl:a3≤(aX.length:Int)
     ·have ho:ok=true:=by rw [←HOK.out,decide_eq_true (by omega:0≤a3),decide_eq_true hl];rfl
      subst ho
      have HA:=aM (And.intro (decide_eq_false ha) (decide_eq_false (by omega:¬(aX.length:Int)<a3)))
      clear ha hl
      go_wp2_with (first|(go_at_call 25;(with_reducible refine PR.out.mono ?_);rintro e w2 ⟨rfl,hb2⟩;have HB2:=aM hb2;have P2:=aM (PA.out w2 hb2);clear hb2 PR q0 q1 q2 q3 q4;obtain⟨⟨q0,q1,q2,q3,q4⟩,m0,_,_⟩:=HBLK.out w2 HB2.out)|(go_at_call 35;(with_reducible refine P2.out.mono ?_);rintro e w3 ⟨rfl,hb3⟩;have HB3:Aside0 (Below w1.heap.size w1 w3):=⟨HB2.out.trans (hb3.mono HB2.out.size)⟩;clear hb3 P2 q0 q1 q2 q3 q4 m0;obtain⟨⟨q0,q1,q2,q3,q4⟩,m0,_,_⟩:=HBLK.out w3 HB3.out;have ha:=HA.out.1;have hl:=HA.out.2))
      go_meet
      case rel=>exact⟨rfl,HB3⟩
     ·have ho:ok=false:=by rw [←HOK.out,decide_eq_false hl];simp
      subst ho
      have HA:=aM (And.intro (decide_eq_false ha) (decide_eq_true (by omega:(aX.length:Int)<a3)))
      clear ha hl
      go_wp2_with (first|(go_at_call 25;(with_reducible refine PR.out.mono ?_);rintro e w2 ⟨rfl,hb2⟩;have HB2:=aM hb2;have P2:=aM (PA.out w2 hb2);clear hb2 PR q0 q1 q2 q3 q4;obtain⟨⟨q0,q1,q2,q3,q4⟩,m0,_,_⟩:=HBLK.out w2 HB2.out)|(go_at_call 35;(with_reducible refine P2.out.mono ?_);rintro e w3 ⟨rfl,hb3⟩;have HB3:Aside0 (Below w1.heap.size w1 w3):=⟨HB2.out.trans (hb3.mono HB2.out.size)⟩;clear hb3 P2 q0 q1 q2 q3 q4 m0;obtain⟨⟨q0,q1,q2,q3,q4⟩,m0,_,_⟩:=HBLK.out w3 HB3.out;have ha:=HA.out.1;have hl:=HA.out.2))
      go_meet
      case rel=>exact⟨rfl,HB3⟩
 case rest=>
  clear q0 q1 q2 q3 q4 PR PA
  obtain⟨rfl,HBC⟩:=hcut
  cases ok with
  |false=>
   have HE2:Aside0 ((([]:List S43),true,([]:List Int),(1:Int))=(r1,r2,r3,r4)):=⟨by rw [←HE.out,HSUM.out];simp⟩
   injection HE2.out with e1 e2
   injection e2 with e2 e3
   injection e3 with e3 e4
   subst e1 e2 e3 e4
   go_wp2_with (first|(go_at_call 36;(with_reducible refine(machine_dead.calls [] true wc rfl).mono ?_);rintro e w2 ⟨v0,rfl,ho,hb2⟩;obtain⟨Av,cv,rfl⟩:=Kd.R_slice ho;have HO:=aM ho;have HB2:Aside0 (Below w1.heap.size w1 w2):=⟨HBC.out.trans (hb2.mono HBC.out.size)⟩;clear ho hb2;obtain⟨_,_,_,hrb⟩:=HBLK.out w2 HB2.out;have HRB2:=aM hrb;have s0:=aG hrb 0;have s1:=aG hrb 1;have f0:=aH hrb 0;have f1:=aH hrb 1;clear hrb))
   refine bodyPost_ret (results_ctt rfl _ _ RB 31 #[.slice Av 0 cv,.bool true] (0,0) _ rfl (blk_put (blk_put HRB2.out 0 _ rfl) 1 _ rfl) Try.underlying31 rfl (by kernel_rfl)) rfl ?_
   exact⟨_,_,rfl,bL (Kd.R_set (Kd.R_set HO.out HRB2.out (by decide) 0 _) (blk_put HRB2.out 0 _ rfl) (by decide) 1 _) (Nat.le_trans HW1.out.size HBC.out.size),Kd.R_nil _ _ _ _ _,((HW1.out.trans (HB2.out.mono HW1.out.size)).setCell (p:=⟨RB,0,none⟩) HRW.out _).setCell (p:=⟨RB,1,none⟩) HRW.out _⟩
  |true=>
   obtain⟨⟨q0,q1,q2,q3,q4⟩,m0,m1,_⟩:=HBLK.out wc HBC.out
   have hg:g1=true∧g2=true∧0≤a3∧a3≤(aX.length:Int):=by have:=HOK.out;simpa only [Bool.and_eq_true,decide_eq_true_eq] using this
   have HG:=aM hg
   clear hg
   cases fD with
   |true=>
    have HE2:Aside0 ((([]:List S43),true,([]:List Int),(80:Int))=(r1,r2,r3,r4)):=⟨by rw [←HE.out,HSUM.out];simp⟩
    injection HE2.out with e1 e2
    injection e2 with e2 e3
    injection e3 with e3 e4
    subst e1 e2 e3 e4
    go_wp2_with (first|(go_at_call 36;(with_reducible refine(machine_dead.calls [] true wc rfl).mono ?_);rintro e w2 ⟨v0,rfl,ho,hb2⟩;obtain⟨Av,cv,rfl⟩:=Kd.R_slice ho;have HO:=aM ho;have HB2:Aside0 (Below w1.heap.size w1 w2):=⟨HBC.out.trans (hb2.mono HBC.out.size)⟩;clear ho hb2;obtain⟨_,_,_,hrb⟩:=HBLK.out w2 HB2.out;have HRB2:=aM hrb;have s0:=aG hrb 0;have s1:=aG hrb 1;have f0:=aH hrb 0;have f1:=aH hrb 1;clear hrb))
    refine bodyPost_ret (results_ctt rfl _ _ RB 31 #[.slice Av 0 cv,.bool true] (0,0) _ rfl (blk_put (blk_put HRB2.out 0 _ rfl) 1 _ rfl) Try.underlying31 rfl (by kernel_rfl)) rfl ?_
    exact⟨_,_,rfl,bL (Kd.R_set (Kd.R_set HO.out HRB2.out (by decide) 0 _) (blk_put HRB2.out 0 _ rfl) (by decide) 1 _) (Nat.le_trans HW1.out.size HBC.out.size),Kd.R_nil _ _ _ _ _,((HW1.out.trans (HB2.out.mono HW1.out.size)).setCell (p:=⟨RB,0,none⟩) HRW.out _).setCell (p:=⟨RB,1,none⟩) HRW.out _⟩
   |false=>
    have PC:=aM (cloneSym_any gQ gT dF wc (bD H2.out.1 (HW1.out.trans (HBC.out.mono HW1.out.size))) (by have:=(HAW.out HG.out.2.1).1;omega))
    clear q0 q1 q2 q3 q4
    go_upto_region 6 with(first|(go_at_call 37;(with_reducible refine PC.out.mono ?_);rintro e w2 ⟨v0,rfl,ho,hb2⟩;obtain⟨Av,cv,rfl⟩:=Kd.R_slice ho;have HO:=aM ho;have HB2:Aside0 (Below w1.heap.size w1 w2):=⟨HBC.out.trans (hb2.mono HBC.out.size)⟩;clear ho hb2 m0 m1 PC))
    have HPB:Aside0 ((w2.alloc (.cells #[.slice Av dF.length cv,.slice none 0 0] 84)).heap[w2.heap.size]?=some (.cells #[.slice Av dF.length cv,.slice none 0 0] 84 (0,0))):=⟨heap_alloc_new w2 _⟩
    have hle2:w.heap.size≤w2.heap.size:=Nat.le_trans HW1.out.size HB2.out.size
    have HRLT:Aside0 (RB<w1.heap.size):=⟨bN HR1.out⟩
    have HPS:Aside0 (PS (fun k=>k=RB) (w2.alloc (.cells #[.slice Av dF.length cv,.slice none 0 0] 84)) w.heap.size w2.heap.size dF.reverse []):=⟨⟨_,_,HPB.out,hle2,by rw [List.reverse_reverse];exact aA (bL (Kd.R_mono (Kd.R_bound HO.out) (fun k hk e=>by have h1:=hk.2.1;have h2:=HRLT.out;have h3:=HBC.out.size;omega)) (Nat.le_trans HW1.out.size HBC.out.size)) _,Kd.R_nil _ _ _ _ _⟩⟩
    have HPRB:Aside0 (RB<w2.heap.size):=⟨Nat.lt_of_lt_of_le HRLT.out HB2.out.size⟩
    have HB3:Aside0 (Below w1.heap.size w1 (w2.alloc (.cells #[.slice Av dF.length cv,.slice none 0 0] 84))):=⟨HB2.out.trans ((aN (Below.refl _ w2) _).mono HB2.out.size)⟩
    generalize w2.alloc (.cells #[.slice Av dF.length cv,.slice none 0 0] 84)=w3 at HPB HPS HB3 ⊢
    have HPW:Aside0 (w.heap.size≤w2.heap.size):=⟨hle2⟩
    generalize w2.heap.size=PB at HPB HPS HPW HPRB ⊢
    obtain⟨⟨q0,q1,q2,q3,q4⟩,_,_,_⟩:=HBLK.out w3 HB3.out
    obtain⟨R,hR⟩:=mFeed_some (nt:=aX.length) (ps:=aQ) (tb:=l1) (look:=a3) 10002 dF.reverse [] (by omega) (by simp)
    have HS:Aside0 (mOut (some R)=(r1,r2,r3,r4)):=⟨by have h:=HSUM.out.symm.trans HE.out;simpa [hR] using h⟩
    have PF:=aM (feed_any (fun k=>k=RB) bC bK aU bM bO aX bA bB bQ bP aQ A1 c1 l1 a3 dF.reverse [] PB w w3 10002 R HPS.out (fun k hk=>by rw [hk];exact Nat.lt_of_lt_of_le HRLT.out HB3.out.size) (fun e=>by have:=HPRB.out;omega) (HW1.out.trans (HB3.out.mono HW1.out.size)) H04.out.1 H1.out.1 (HTAB.out HG.out.1).2 (HTAB.out HG.out.1).1 (by rw [List.all_reverse];exact(HAW.out HG.out.2.1).2) HG.out.2.2.1 HG.out.2.2.2 HP1.out (by rw [List.length_reverse];exact(HAW.out HG.out.2.1).1) (by simp) hR)
    clear hR hle2
    obtain⟨e,st,sp⟩:=R
    go_upto_if 52 with(first|(go_at_call 38;(with_reducible refine PF.out.mono ?_);rintro e_ w4 ⟨rfl,hp4,hb4,hk4⟩;have HP4:=aM hp4;have HW4:=aM hb4;have HRB4:=aM (hk4 RB _ rfl (HBLK.out w3 HB3.out).2.2.2 rfl);clear hp4 hb4 hk4 PF q0 q1 q2 q3 q4))
    obtain⟨vs,vt,g0,g1,g2,g3⟩:=HP4.out
    simp only at g2 g3
    obtain⟨As,cs_,rfl⟩:=Kd.R_slice g2
    obtain⟨Au,cu,rfl⟩:=Kd.R_slice g3
    rw [List.length_reverse] at g0 g2
    have G0:=aM g0
    have G2:=aM g2
    have G3:=aM g3
    clear g0 g1 g2 g3
    have HPNR:Aside0 (PB≠RB):=⟨by have:=HPRB.out;omega⟩
    by_cases he0:e=0
    ·subst he0
     have HS2:Aside0 ((st.reverse,false,sp,(0:Int))=(r1,r2,r3,r4)):=⟨by have:=HS.out;rwa [mOut,if_pos rfl] at this⟩
     injection HS2.out with e1 e2
     injection e2 with e2 e3
     injection e3 with e3 e4
     subst e1 e2 e3 e4
     have y1:((0:Int) !=0)=false:=by simp
     go_upto_region 9 with fail
     have s0:=aG HRB4.out 0
     have s1:=aG HRB4.out 1
     have f0:=aH HRB4.out 0
     have f1:=aH HRB4.out 1
     refine start_ (n:=12) (S:=fun w'=>w'.cell? ⟨PB,0,none⟩=some (.slice As st.length cs_)∧w'.cell? ⟨PB,1,none⟩=some (.slice Au sp.length cu)) (ds:= []) #[F,F,F,F,F,F,F,F,F,F,F,F] (by kernel_rfl) rfl rfl ⟨(aG G0.out 0).trans rfl,(aG G0.out 1).trans rfl⟩ (fun hHeld=>?_)
     refine pure_ (i:=0) (N:=some 59) (v:=?_) (a':=?_) #[T,F,F,F,F,F,F,F,F,F,F,F] rfl rfl (by kernel_rfl) (fun _ _ _ h=>h) (Or.inl ⟨by rfl,?_⟩) ?_ ?_
     rotate_left;(intro w';go_simp;with_reducible rfl);rotate_left;(simp only [pq];rfl)
     refine pure_ (i:=1) (N:=some 60) (v:=?_) (a':=?_) #[T,T,F,F,F,F,F,F,F,F,F,F] rfl rfl (by kernel_rfl) (fun _ _ _ h=>h) (Or.inl ⟨by rfl,?_⟩) ?_ ?_
     rotate_left;(intro w';go_simp;with_reducible rfl);rotate_left;(simp only [pq];rfl)
     refine pure_ (i:=2) (N:=some 61) (v:=?_) (a':=?_) #[T,T,T,F,F,F,F,F,F,F,F,F] rfl rfl (by kernel_rfl) (fun _ _ _ h=>h) (Or.inl ⟨by rfl,?_⟩) ?_ ?_
     rotate_left;(intro w';go_simp;with_reducible rfl);rotate_left;(simp only [pq];rfl)
     refine pure_ (i:=5) (N:=some 64) (v:=?_) (a':=?_) #[T,T,T,F,F,T,F,F,F,F,F,F] rfl rfl (by kernel_rfl) (fun _ _ _ h=>h) (Or.inl ⟨by rfl,?_⟩) ?_ ?_
     rotate_left;(intro w';go_simp;with_reducible rfl);rotate_left;(simp only [pq];rfl)
     refine pure_ (i:=6) (N:=some 65) (v:=?_) (a':=?_) #[T,T,T,F,F,T,T,F,F,F,F,F] rfl rfl (by kernel_rfl) (fun _ _ _ h=>h) (Or.inl ⟨by rfl,?_⟩) ?_ ?_
     rotate_left;(intro w';go_simp;with_reducible rfl);rotate_left;(simp only [pq];rfl)
     refine pure_ (i:=7) (N:=some 66) (v:=?_) (a':=?_) #[T,T,T,F,F,T,T,T,F,F,F,F] rfl rfl (by kernel_rfl) (fun _ _ _ h=>h) (Or.inl ⟨by rfl,?_⟩) ?_ ?_
     rotate_left;(intro w';go_simp;with_reducible rfl);rotate_left;(simp only [pq];rfl)
     refine take_ (i:=3) (N:=some 62) (v:=?_) (a':=?_) #[T,T,T,T,F,T,T,T,F,F,F,F] rfl rfl (by kernel_rfl) (fun _ _ _ h=>h) (Or.inl ⟨by rfl,?_⟩) hHeld ?_ ?_
     rotate_left
     ·rintro w' ⟨s0,s1⟩
      go_simp
      with_reducible rfl
     rotate_left
     ·simp only [pq]
      rfl
     refine pure_ (i:=4) (N:=some 63) (v:=?_) (a':=?_) #[T,T,T,T,T,T,T,T,F,F,F,F] rfl rfl (by kernel_rfl) (fun _ _ _ h=>h) (Or.inl ⟨by rfl,?_⟩) ?_ ?_
     rotate_left;(intro w';go_simp;with_reducible rfl);rotate_left;(simp only [pq];rfl)
     refine take_ (i:=8) (N:=some 67) (v:=?_) (a':=?_) #[T,T,T,T,T,T,T,T,T,F,F,F] rfl rfl (by kernel_rfl) (fun _ _ _ h=>h) (Or.inl ⟨by rfl,?_⟩) hHeld ?_ ?_
     rotate_left
     ·rintro w' ⟨s0,s1⟩
      go_simp
      with_reducible rfl
     rotate_left
     ·simp only [pq]
      rfl
     refine one_ (i:=9) (N:=none) #[T,T,T,T,T,T,T,T,T,T,F,F] rfl rfl (by kernel_rfl) (by decide) (fun K hK=>?_)
     refine skip_ (w1:=?_) (by rfl) rfl ?_ ?_
     rotate_left
     ·go_simp
      rfl
     refine hK.out _ _ ⟨(aG (blk_far (blk_far (aK G0.out) (p:=⟨RB,0,none⟩) HPNR.out _) (p:=⟨RB,1,none⟩) HPNR.out _) 0).trans rfl,(aG (blk_far (blk_far (aK G0.out) (p:=⟨RB,0,none⟩) HPNR.out _) (p:=⟨RB,1,none⟩) HPNR.out _) 1).trans rfl⟩ (fun hHeld=>?_)
     clear hK K
     refine pure_ (i:=10) (N:=some 9) (v:=?_) (a':=?_) #[T,T,T,T,T,T,T,T,T,T,T,F] rfl rfl (by kernel_rfl) (fun _ _ _ h=>h) (Or.inl ⟨by rfl,?_⟩) ?_ ?_
     rotate_left;(intro w';go_simp;with_reducible rfl);rotate_left;(simp only [pq];rfl)
     refine pure_ (i:=11) (N:=some 10) (v:=?_) (a':=?_) #[T,T,T,T,T,T,T,T,T,T,T,T] rfl rfl (by kernel_rfl) (fun _ _ _ h=>h) (Or.inl ⟨by rfl,?_⟩) ?_ ?_
     rotate_left;(intro w';go_simp;with_reducible rfl);rotate_left;(simp only [pq];rfl)
     refine done_ (by kernel_rfl) ?_
     go_wp2
     refine bodyPost_ret (results_ctt rfl _ _ RB 31 #[.slice As st.length cs_,.bool false] (0,0) _ rfl (blk_put (blk_put (aK HRB4.out) 0 _ rfl) 1 _ rfl) Try.underlying31 rfl (by kernel_rfl)) rfl ?_
     exact⟨_,_,rfl,Kd.R_mono (Kd.R_set (Kd.R_set (aC G2.out) (aK HRB4.out) (by decide) 0 _) (blk_put (aK HRB4.out) 0 _ rfl) (by decide) 1 _) (fun _ _=>trivial),Kd.R_mono (Kd.R_set (Kd.R_set (aC G3.out) (aK HRB4.out) (by decide) 0 _) (blk_put (aK HRB4.out) 0 _ rfl) (by decide) 1 _) (fun _ _=>trivial),((aO HW4.out).setCell (p:=⟨RB,0,none⟩) HRW.out _).setCell (p:=⟨RB,1,none⟩) HRW.out _⟩
    ·have HS2:Aside0 ((([]:List S43),true,sp,e)=(r1,r2,r3,r4)):=⟨by have:=HS.out;rwa [mOut,if_neg he0] at this⟩
     injection HS2.out with e1 e2
     injection e2 with e2 e3
     injection e3 with e3 e4
     subst e1 e2 e3 e4
     have y1:(e !=0)=true:=by simp [he0]
     go_upto_region 8 with fail
     refine start_ (n:=9) (S:=fun w'=>w'.cell? ⟨PB,1,none⟩=some (.slice Au sp.length cu)) (ds:= []) #[F,F,F,F,F,F,F,F,F] (by kernel_rfl) rfl rfl ((aG G0.out 1).trans rfl) (fun hHeld=>?_)
     refine pure_ (i:=1) (N:=some 54) (v:=?_) (a':=?_) #[F,T,F,F,F,F,F,F,F] rfl rfl (by kernel_rfl) (fun _ _ _ h=>h) (Or.inl ⟨by rfl,?_⟩) ?_ ?_
     rotate_left;(intro w';go_simp;with_reducible rfl);rotate_left;(simp only [pq];rfl)
     refine pure_ (i:=2) (N:=some 55) (v:=?_) (a':=?_) #[F,T,T,F,F,F,F,F,F] rfl rfl (by kernel_rfl) (fun _ _ _ h=>h) (Or.inl ⟨by rfl,?_⟩) ?_ ?_
     rotate_left;(intro w';go_simp;with_reducible rfl);rotate_left;(simp only [pq];rfl)
     refine pure_ (i:=3) (N:=some 56) (v:=?_) (a':=?_) #[F,T,T,T,F,F,F,F,F] rfl rfl (by kernel_rfl) (fun _ _ _ h=>h) (Or.inl ⟨by rfl,?_⟩) ?_ ?_
     rotate_left;(intro w';go_simp;with_reducible rfl);rotate_left;(simp only [pq];rfl)
     refine pure_ (i:=5) (N:=some 58) (v:=?_) (a':=?_) #[F,T,T,T,F,T,F,F,F] rfl rfl (by kernel_rfl) (fun _ _ _ h=>h) (Or.inl ⟨by rfl,?_⟩) ?_ ?_
     rotate_left;(intro w';go_simp;with_reducible rfl);rotate_left;(simp only [pq];rfl)
     refine take_ (i:=4) (N:=some 57) (v:=?_) (a':=?_) #[F,T,T,T,T,T,F,F,F] rfl rfl (by kernel_rfl) (fun _ _ _ h=>h) (Or.inl ⟨by rfl,?_⟩) hHeld ?_ ?_
     rotate_left
     ·intro w' s0
      go_simp
      with_reducible rfl
     rotate_left
     ·simp only [pq]
      rfl
     refine one_ (i:=0) (N:=some 53) #[T,T,T,T,T,T,F,F,F] rfl rfl (by kernel_rfl) (by decide) (fun K hK=>?_)
     refine goes_ Try.func36 (by kernel_rfl) rfl #[] (by rfl) rfl rfl (by simp only [List.map_toArray,List.map_cons,List.map_nil]) ?_
     with_reducible refine(machine_dead.calls [] true w4.drew rfl).mono ?_
     rintro e w5 ⟨v0,rfl,ho,hb5⟩
     refine⟨_,rfl,?_⟩
     obtain⟨Aq,cq,rfl⟩:=Kd.R_slice ho
     have MW:=aM ho
     have HW5:Aside0 (Below w.heap.size w w5):=⟨(aO HW4.out).trans (hb5.mono (aO HW4.out).size)⟩
     have HP5:=aM (bF (aK G0.out) hb5)
     have HRB5:=aM (bF (aK HRB4.out) hb5)
     have HG35:=aM (aD (aC G3.out) hb5)
     have s0:=aG HRB5.out 0
     have s1:=aG HRB5.out 1
     have f0:=aH HRB5.out 0
     have f1:=aH HRB5.out 1
     clear ho hb5
     refine hK.out _ _ ((aG HP5.out 1).trans rfl) (fun hHeld=>?_)
     clear hK K
     refine norm_ (a':=?_) ?_ ?_
     rotate_left
     ·show Act.put _ (some 53) _=_
      simp only [pq]
      rfl
     refine one_ (i:=6) (N:=none) #[T,T,T,T,T,T,T,F,F] rfl rfl (by kernel_rfl) (by decide) (fun K hK=>?_)
     refine skip_ (w1:=?_) (by rfl) rfl ?_ ?_
     rotate_left
     ·go_simp
      rfl
     refine hK.out _ _ ((aG (blk_far (blk_far HP5.out (p:=⟨RB,0,none⟩) HPNR.out _) (p:=⟨RB,1,none⟩) HPNR.out _) 1).trans rfl) (fun hHeld=>?_)
     clear hK K
     refine pure_ (i:=7) (N:=some 9) (v:=?_) (a':=?_) #[T,T,T,T,T,T,T,T,F] rfl rfl (by kernel_rfl) (fun _ _ _ h=>h) (Or.inl ⟨by rfl,?_⟩) ?_ ?_
     rotate_left;(intro w';go_simp;with_reducible rfl);rotate_left;(simp only [pq];rfl)
     refine pure_ (i:=8) (N:=some 10) (v:=?_) (a':=?_) #[T,T,T,T,T,T,T,T,T] rfl rfl (by kernel_rfl) (fun _ _ _ h=>h) (Or.inl ⟨by rfl,?_⟩) ?_ ?_
     rotate_left;(intro w';go_simp;with_reducible rfl);rotate_left;(simp only [pq];rfl)
     refine done_ (by kernel_rfl) ?_
     go_wp2
     refine bodyPost_ret (results_ctt rfl _ _ RB 31 #[.slice Aq 0 cq,.bool true] (0,0) _ rfl (blk_put (blk_put HRB5.out 0 _ rfl) 1 _ rfl) Try.underlying31 rfl (by kernel_rfl)) rfl ?_
     exact⟨_,_,rfl,Kd.R_mono (bL (Kd.R_set (Kd.R_set MW.out HRB5.out (by decide) 0 _) (blk_put HRB5.out 0 _ rfl) (by decide) 1 _) (aO HW4.out).size) (fun _ _=>trivial),Kd.R_mono (Kd.R_set (Kd.R_set HG35.out HRB5.out (by decide) 0 _) (blk_put HRB5.out 0 _ rfl) (by decide) 1 _) (fun _ _=>trivial),(HW5.out.setCell (p:=⟨RB,0,none⟩) HRW.out _).setCell (p:=⟨RB,1,none⟩) HRW.out _⟩
end Go.Proofs.Ytapjfnfengefpaa.P
end

section
namespace Go.Proofs.Ytapjfnfengefpaa.P
open Go.RowKit Go.Proofs.YtapjfnfengefpaaW.PrintWords Go.Proofs.YtapjfnfengefpaaW.PrintLast Go.Proofs.YtapjfnfengefpaaW.PrintMore
attribute [local go_sem] max2_int min2_int max_two min_two max_three min_three max_four min_four   -- for this text's walks alone
set_option linter.unusedVariables false
set_option linter.unusedSimpArgs false
def regletlaw16_fed.f (k:Nat) (aU:List ByteArray) (aX:List (S72)) (bA:Int) (bB:Int) (aQ:List (S35)) (l1:List (List Int)) (dF:List (S43)) (fD:Bool) (a3:Int):Option (Bool):=(machine_Feed.f aU aX bA bB aQ l1 dF fD a3).bind fun xM=>((regletref16_Feed.f k aU aX bA bB aQ l1 dF fD a3).bind fun oI=>((regletref16_Same.f k xM.1 xM.2.1 oI.1 oI.2.1).bind fun t273=>(if t273=true then((regletref13_SameInts.f k xM.2.2.1 oI.2.2.1).bind fun t274=>(if t274=true then(if xM.2.2.2=oI.2.2.2 then((machine_Right.f aU aX bA bB aQ l1).bind fun t275=>((regletref16_Right.f k aU aX bA bB aQ l1).bind fun t276=>(some (t275==t276)))) else(none)) else(none))) else(none))))
def regletlaw16_fed.T3:Bool×List (List Nat×List Nat):=(true,[([],[]),([],[]),([0,1],[0,1]),([2,2],[2]),([3],[3]),([3],[3]),([4,5,3,3],[3,4,5]),([3,6],[3,6]),([7,6],[7]),([8],[8]),([8],[8]),([9,10,8],[8,9,10]),([8,11],[8,11]),([12,8],[12]),([13],[13]),([13],[13]),([14,15,13,13],[13,14,15]),([13],[13]),([13],[13]),([17,18,16,13],[13,17,18]),([16,19,13],[13,16,19]),([13,20],[13,20]),([21,19,0,1,2,3,4,5,6,7,8,9,10,11,12,13,14,15,16,17,18,19,20,21],[21])])
def regletlaw16_fed.B3:List Nat:= [0,0,3,7,15,15,63,127,255,511,511,2047,4095,8191,16383,16383,65535,16383,16383,524287,1048575,2097151,4194303]
theorem regletlaw16_fed.tab3:rtab .any (opsOf Try.f11 3)=regletlaw16_fed.T3:=by kernel_rfl
theorem regletlaw16_fed.bits3:waitsOk regletlaw16_fed.T3.2 regletlaw16_fed.B3=true:=by kernel_rfl
set_option maxHeartbeats 8000000 in
set_option maxRecDepth 100000 in
theorem regletlaw16_fed.calls (k:Nat) (bC:Option Addr) (bK:Nat) (aU:List ByteArray) (bM:Option Addr) (bO:Nat) (aX:List (S72)) (bA:Int) (bB:Int) (bQ:Option Addr) (bP:Nat) (aQ:List (S35)) (A1:Option Addr) (c1:Nat) (l1:List (List Int)) (gQ:Option Addr) (gT:Nat) (dF:List (S43)) (fD:Bool) (a3:Int) (r:Bool) (w:World) (dM:Kd.C Kd.string w bC aU.length aU) (dT:aU.length≤bK) (dU:Kd.C k72 w bM aX.length aX) (dY:aX.length≤bO) (dR:Kd.C k35 w bQ aQ.length aQ) (eB:aQ.length≤bP) (hr1:Kd.C (Kd.slice 3 (Kd.int .i64)) w A1 l1.length l1) (hc1:l1.length≤c1) (yL:Kd.C k43 w gQ dF.length dF) (yM:dF.length≤gT) (h:regletlaw16_fed.f k aU aX bA bB aQ l1 dF fD a3=some r):
 Calls Try.prog 11 #[.agg #[.slice bC aU.length bK,.slice bM aX.length bO,.int .i64 bA,.int .i64 bB,.slice bQ aQ.length bP],.slice A1 l1.length c1,.agg #[.slice gQ dF.length gT,.bool fD],.int .i64 a3] w fun e w'=>e= .returned (.bool r)∧Below w.heap.size w w':=by
 have hu26:=Try.underlying26
 have hu31:=Try.underlying31
 have eS:=aM dM
 have eU:=aM dT
 clear dM dT
 have eX:=aM dU
 have eY:=aM dY
 clear dU dY
 have dW:=aM dR
 have eZ:=aM eB
 clear dR eB
 have HR1:=aM hr1
 have HC1:=aM hc1
 clear hr1 hc1
 have Bi:=aM yL
 have Bw:=aM yM
 clear yL yM
 have HB:=aM (Below.refl w.heap.size w)
 have H:((machine_Feed.f aU aX bA bB aQ l1 dF fD a3).bind fun xM=>((regletref16_Feed.f k aU aX bA bB aQ l1 dF fD a3).bind fun oI=>((regletref16_Same.f k xM.1 xM.2.1 oI.1 oI.2.1).bind fun t273=>(if t273=true then((regletref13_SameInts.f k xM.2.2.1 oI.2.2.1).bind fun t274=>(if t274=true then(if xM.2.2.2=oI.2.2.2 then((machine_Right.f aU aX bA bB aQ l1).bind fun t275=>((regletref16_Right.f k aU aX bA bB aQ l1).bind fun t276=>(some (t275==t276)))) else(none)) else(none))) else(none)))))=some r:=h
 clear h
 replace H:=Option.bind_eq_some_iff.mp H
 obtain⟨⟨t255,t258,t259,t262⟩,A50,H⟩:=H
 replace H:((regletref16_Feed.f k aU aX bA bB aQ l1 dF fD a3).bind fun oI=>((regletref16_Same.f k t255 t258 oI.1 oI.2.1).bind fun t273=>(if t273=true then((regletref13_SameInts.f k t259 oI.2.2.1).bind fun t274=>(if t274=true then(if t262=oI.2.2.2 then((machine_Right.f aU aX bA bB aQ l1).bind fun t275=>((regletref16_Right.f k aU aX bA bB aQ l1).bind fun t276=>(some (t275==t276)))) else(none)) else(none))) else(none))))=some r:=H
 have A5:=aM A50
 clear A50
 replace H:=Option.bind_eq_some_iff.mp H
 obtain⟨⟨t264,t267,t268,t271⟩,A60,H⟩:=H
 replace H:((regletref16_Same.f k t255 t258 t264 t267).bind fun t273=>(if t273=true then((regletref13_SameInts.f k t259 t268).bind fun t274=>(if t274=true then(if t262=t271 then((machine_Right.f aU aX bA bB aQ l1).bind fun t275=>((regletref16_Right.f k aU aX bA bB aQ l1).bind fun t276=>(some (t275==t276)))) else(none)) else(none))) else(none)))=some r:=H
 have A6:=aM A60
 clear A60
 replace H:=Option.bind_eq_some_iff.mp H
 obtain⟨t273,A70,H⟩:=H
 replace H:(if t273=true then((regletref13_SameInts.f k t259 t268).bind fun t274=>(if t274=true then(if t262=t271 then((machine_Right.f aU aX bA bB aQ l1).bind fun t275=>((regletref16_Right.f k aU aX bA bB aQ l1).bind fun t276=>(some (t275==t276)))) else(none)) else(none))) else(none))=some r:=H
 have A7:=aM A70
 clear A70
 by_cases c8:t273=true
 ·subst c8
  have H1:((regletref13_SameInts.f k t259 t268).bind fun t274=>(if t274=true then(if t262=t271 then((machine_Right.f aU aX bA bB aQ l1).bind fun t275=>((regletref16_Right.f k aU aX bA bB aQ l1).bind fun t276=>(some (t275==t276)))) else(none)) else(none)))=some r:=by rw [if_pos rfl] at H;exact H
  clear H
  have H:=H1
  clear H1
  replace H:=Option.bind_eq_some_iff.mp H
  obtain⟨t274,A90,H⟩:=H
  replace H:(if t274=true then(if t262=t271 then((machine_Right.f aU aX bA bB aQ l1).bind fun t275=>((regletref16_Right.f k aU aX bA bB aQ l1).bind fun t276=>(some (t275==t276)))) else(none)) else(none))=some r:=H
  have A9:=aM A90
  clear A90
  by_cases c10:t274=true
  ·subst c10
   have H1:(if t262=t271 then((machine_Right.f aU aX bA bB aQ l1).bind fun t275=>((regletref16_Right.f k aU aX bA bB aQ l1).bind fun t276=>(some (t275==t276)))) else(none))=some r:=by rw [if_pos rfl] at H;exact H
   clear H
   have H:=H1
   clear H1
   by_cases c11:t262=t271
   ·rw [if_pos c11] at H
    have tI:(t262==t271)=true:=beq_iff_eq.mpr c11
    have Vc:(t262 !=t271)=false:=bne_eq_false_iff_eq.mpr c11
    clear c11
    replace H:=Option.bind_eq_some_iff.mp H
    obtain⟨t275,A120,H⟩:=H
    replace H:((regletref16_Right.f k aU aX bA bB aQ l1).bind fun t276=>(some (t275==t276)))=some r:=H
    have A12:=aM A120
    clear A120
    replace H:=Option.bind_eq_some_iff.mp H
    obtain⟨t276,A130,H⟩:=H
    replace H:(some (t275==t276))=some r:=H
    have A13:=aM A130
    clear A130
    obtain rfl:=Option.some.inj H
    go_enter Try.func11,Try.ntmps11
    try go_wp2_with (first|((with_reducible refine bJ (N:=4) rfl ?_);refine box_event ?hg (N:=4) ?hd (cs:=#[.slice bC aU.length bK,.slice bM aX.length bO,.int .i64 bA,.int .i64 bB,.slice bQ aQ.length bP]) (t:=26) ?hr ?_;(case hd=>rfl);(case hg=>rfl);(case hr=>first|(go_simp;done)|(go_simp;rfl));intro iE hg w14 hbox hb;have bY:=aM (bG (gW HB.out) hb);have bZ:=aM (hbox);have cA:=aM ((by rw [hg];exact(bH (gW HB.out)):w.heap.size≤iE));have cC:=aM ((by rw [hg];exact(bH (gW HB.out)):w.heap.size≤iE));clear HB;have HB:=bY;have dG:=bZ;have GW253:=cA;have xN:=cC;clear bY bZ cA cC;clear hb hbox hg)|((with_reducible refine bJ (N:=6) rfl ?_);refine box_event ?hg (N:=6) ?hd (cs:=#[.slice gQ dF.length gT,.bool fD]) (t:=31) ?hr ?_;(case hd=>rfl);(case hg=>rfl);(case hr=>first|(go_simp;done)|(go_simp;rfl));intro lS hg w15 hbox hb;have bY:=aM (bF (gB dG.out) hb);have bZ:=aM (bG (gW HB.out) hb);have cA:=aM (hbox);have cC:=aM ((by rw [hg];exact(bH (gW HB.out)):w.heap.size≤lS));have cQ:=aM ((by rw [hg];exact(bH (gW HB.out)):w.heap.size≤lS));have dA:=aM ((by rw [hg];exact Nat.ne_of_lt (bN (g:=iE) (o:= .cells #[.slice bC aU.length bK,.slice bM aX.length bO,.int .i64 bA,.int .i64 bB,.slice bQ aQ.length bP] 26 (0,0)) (gB dG.out)):iE≠lS));have dH:=aM ((by rw [hg];exact Nat.ne_of_gt (bN (g:=iE) (o:= .cells #[.slice bC aU.length bK,.slice bM aX.length bO,.int .i64 bA,.int .i64 bB,.slice bQ aQ.length bP] 26 (0,0)) (gB dG.out)):lS≠iE));clear dG;clear HB;have dG:=bY;have HB:=bZ;have gF:=cA;have GW254:=cC;have xO:=cQ;have Ll:=dA;have Lm:=dH;clear bY bZ cA cC cQ dA dH;clear hb hbox hg;have hnb16:=Ll.out;have hnc16:=Lm.out;have JE:w15.cell? ⟨iE,0,none⟩=some (.slice bC aU.length bK):=(aG dG.out 0).trans rfl;have JF:w15.cell? ⟨iE,1,none⟩=some (.slice bM aX.length bO):=(aG dG.out 1).trans rfl;have JG:w15.cell? ⟨iE,2,none⟩=some (.int .i64 bA):=(aG dG.out 2).trans rfl;have JH:w15.cell? ⟨iE,3,none⟩=some (.int .i64 bB):=(aG dG.out 3).trans rfl;have JI:w15.cell? ⟨iE,4,none⟩=some (.slice bQ aQ.length bP):=(aG dG.out 4).trans rfl;have JJ:=aH dG.out 0;have JK:=aH dG.out 1;have JL:=aH dG.out 2;have JM:=aH dG.out 3;have JN:=aH dG.out 4;have kE:w15.cell? ⟨lS,0,none⟩=some (.slice gQ dF.length gT):=(aG gF.out 0).trans rfl;have kF:w15.cell? ⟨lS,1,none⟩=some (.bool fD):=(aG gF.out 1).trans rfl;have kG:=aH gF.out 0;have kH:=aH gF.out 1)|((with_reducible refine bI (f:=23) rfl ?_);refine goesL_ (some 20) rfl rfl Try.func23 (by kernel_rfl) rfl #[.agg #[.slice bC aU.length bK,.slice bM aX.length bO,.int .i64 bA,.int .i64 bB,.slice bQ aQ.length bP],.slice A1 l1.length c1,.agg #[.slice gQ dF.length gT,.bool fD],.int .i64 a3] rfl (by(try simp only [List.map_toArray,List.map_cons,List.map_nil]);first|done|rfl|(simp only [List.length_drop,List.length_take];rfl)) ?_;(with_reducible refine(machine_Feed.calls _ _ aU _ _ aX bA bB _ _ aQ _ _ l1 _ _ dF fD a3 t255 t258 t259 t262 _ ?side1 ?side2 ?side3 ?side4 ?side5 ?side6 ?side7 ?side8 ?side9 ?side10 A5.out).mono ?_);(case side1=>exact gC (bD eS.out HB.out));(case side2=>exact eU.out);(case side3=>exact gC (bD eX.out HB.out));(case side4=>exact eY.out);(case side5=>exact gC (bD dW.out HB.out));(case side6=>exact eZ.out);(case side7=>exact gC (bD HR1.out HB.out));(case side8=>exact HC1.out);(case side9=>exact gC (bD Bi.out HB.out));(case side10=>exact Bw.out);rintro e w19 ⟨v256,v260,rfl,ho0,ho1,hb⟩;refine⟨_,rfl,?_⟩;have bY:=aM (bL ho0 (bH (gW HB.out)));have bZ:=aM (bL ho1 (bH (gW HB.out)));have cA:=aM (bF (gB dG.out) hb);have cC:=aM (bF (gB gF.out) hb);have cQ:=aM (bG (gW HB.out) hb);clear dG;clear gF;clear HB;have iR:=bY;have iS:=bZ;have dG:=cA;have gF:=cC;have HB:=cQ;clear bY bZ cA cC cQ;(try clear hb);(try clear hb2);(try clear hk);(try clear hi);(try clear ho0);(try clear ho1))|((with_reducible refine bJ (N:=9) rfl ?_);refine box_event ?hg (N:=9) ?hd (cs:=#[.slice none 0 0,.bool false]) (t:=31) ?hr ?_;(case hd=>rfl);(case hg=>rfl);(case hr=>first|(go_simp;done)|(go_simp;rfl));intro jX hg w20 hbox hb;have bY:=aM (aD (gR iR.out) hb);have bZ:=aM (aD (gR iS.out) hb);have cA:=aM (bF (gB dG.out) hb);have cC:=aM (bF (gB gF.out) hb);have cQ:=aM (bG (gW HB.out) hb);have dA:=aM (hbox);have dH:=aM ((by rw [hg];exact(bH (gW HB.out)):w.heap.size≤jX));have eG:=aM ((by rw [hg];exact(bH (gW HB.out)):w.heap.size≤jX));have fK:=aM ((by rw [hg];exact Nat.ne_of_lt (bN (g:=iE) (o:= .cells #[.slice bC aU.length bK,.slice bM aX.length bO,.int .i64 bA,.int .i64 bB,.slice bQ aQ.length bP] 26 (0,0)) (gB dG.out)):iE≠jX));have hF:=aM ((by rw [hg];exact Nat.ne_of_gt (bN (g:=iE) (o:= .cells #[.slice bC aU.length bK,.slice bM aX.length bO,.int .i64 bA,.int .i64 bB,.slice bQ aQ.length bP] 26 (0,0)) (gB dG.out)):jX≠iE));have eH:=aM ((by rw [hg];exact Nat.ne_of_lt (bN (g:=lS) (o:= .cells #[.slice gQ dF.length gT,.bool fD] 31 (0,0)) (gB gF.out)):lS≠jX));have eR:=aM ((by rw [hg];exact Nat.ne_of_gt (bN (g:=lS) (o:= .cells #[.slice gQ dF.length gT,.bool fD] 31 (0,0)) (gB gF.out)):jX≠lS));clear iR;clear iS;clear dG;clear gF;clear HB;have iR:=bY;have iS:=bZ;have dG:=cA;have gF:=cC;have HB:=cQ;have fS:=dA;have GW263:=dH;have xP:=eG;have xY:=fK;have Ln:=hF;have xZ:=eH;have Lo:=eR;clear bY bZ cA cC cQ dA dH eG fK hF eH eR;clear hb hbox hg;obtain⟨tF,nH,Ts⟩:=Kd.R_slice iR.out;subst Ts;have hnb22:=Ln.out;have hnc22:=xY.out;have hnb23:=Lo.out;have hnc23:=xZ.out;have tR:w20.cell? ⟨jX,0,none⟩=some (.slice none 0 0):=(aG fS.out 0).trans rfl;have tS:w20.cell? ⟨jX,1,none⟩=some (.bool false):=(aG fS.out 1).trans rfl;have tT:=aH fS.out 0;have tU:=aH fS.out 1;have yQ:w20.cell? ⟨iE,0,none⟩=some (.slice bC aU.length bK):=(aG dG.out 0).trans rfl;have yR:w20.cell? ⟨iE,1,none⟩=some (.slice bM aX.length bO):=(aG dG.out 1).trans rfl;have Kf:w20.cell? ⟨iE,2,none⟩=some (.int .i64 bA):=(aG dG.out 2).trans rfl;have Kg:w20.cell? ⟨iE,3,none⟩=some (.int .i64 bB):=(aG dG.out 3).trans rfl;have Kh:w20.cell? ⟨iE,4,none⟩=some (.slice bQ aQ.length bP):=(aG dG.out 4).trans rfl;have yS:=aH dG.out 0;have yT:=aH dG.out 1;have Ki:=aH dG.out 2;have Kj:=aH dG.out 3;have Kk:=aH dG.out 4;have xF:w20.cell? ⟨lS,0,none⟩=some (.slice gQ dF.length gT):=(aG gF.out 0).trans rfl;have xG:w20.cell? ⟨lS,1,none⟩=some (.bool fD):=(aG gF.out 1).trans rfl;have xH:=aH gF.out 0;have xI:=aH gF.out 1)|((with_reducible refine bI (f:=26) rfl ?_);refine goesL_ (some 29) rfl rfl Try.func26 (by kernel_rfl) rfl #[.agg #[.slice bC aU.length bK,.slice bM aX.length bO,.int .i64 bA,.int .i64 bB,.slice bQ aQ.length bP],.slice A1 l1.length c1,.agg #[.slice gQ dF.length gT,.bool fD],.int .i64 a3] rfl (by(try simp only [List.map_toArray,List.map_cons,List.map_nil]);first|done|rfl|(simp only [List.length_drop,List.length_take];rfl)) ?_;(with_reducible refine(regletref16_Feed.calls k _ _ aU _ _ aX bA bB _ _ aQ _ _ l1 _ _ dF fD a3 t264 t267 t268 t271 _ ?side1 ?side2 ?side3 ?side4 ?side5 ?side6 ?side7 ?side8 ?side9 ?side10 A6.out).mono ?_);(case side1=>exact bD eS.out (by repeat(first|(with_reducible first|exact HB.out|apply aN|apply aP|apply aO|refine aL ?_ xN.out|refine aL ?_ xO.out|refine aL ?_ xP.out)|exact HB.out)));(case side2=>exact eU.out);(case side3=>exact bD eX.out (by repeat(first|(with_reducible first|exact HB.out|apply aN|apply aP|apply aO|refine aL ?_ xN.out|refine aL ?_ xO.out|refine aL ?_ xP.out)|exact HB.out)));(case side4=>exact eY.out);(case side5=>exact bD dW.out (by repeat(first|(with_reducible first|exact HB.out|apply aN|apply aP|apply aO|refine aL ?_ xN.out|refine aL ?_ xO.out|refine aL ?_ xP.out)|exact HB.out)));(case side6=>exact eZ.out);(case side7=>exact bD HR1.out (by repeat(first|(with_reducible first|exact HB.out|apply aN|apply aP|apply aO|refine aL ?_ xN.out|refine aL ?_ xO.out|refine aL ?_ xP.out)|exact HB.out)));(case side8=>exact HC1.out);(case side9=>exact bD Bi.out (by repeat(first|(with_reducible first|exact HB.out|apply aN|apply aP|apply aO|refine aL ?_ xN.out|refine aL ?_ xO.out|refine aL ?_ xP.out)|exact HB.out)));(case side10=>exact Bw.out);rintro e w27 ⟨v265,v269,rfl,ho0,ho1,hb⟩;refine⟨_,rfl,?_⟩;have bY:=aM (bE (by(with_reducible repeat(first|apply aA|apply aB|apply aC));exact(Kd.R_mono (aE (p:=⟨jX,1,none⟩) (aE (p:=⟨jX,0,none⟩) (Kd.R_types iR.out fS.out (by decide)) (fun _ hk=>hk.2) (.slice tF t255.length nH)) (fun _ hk=>hk.2) (.bool t258)) (fun _ h_=>h_.1))) (Kd.R_base ho0) hb);have bZ:=aM (bE (by(with_reducible repeat(first|apply aA|apply aB|apply aC));exact(Kd.R_mono (aE (p:=⟨jX,1,none⟩) (aE (p:=⟨jX,0,none⟩) (Kd.R_types iS.out fS.out (by decide)) (fun _ hk=>hk.2) (.slice tF t255.length nH)) (fun _ hk=>hk.2) (.bool t258)) (fun _ h_=>h_.1))) (Kd.R_base ho1) hb);have cA:=aM (bL (Kd.R_new' ho0 (Kd.R_lt (by(with_reducible repeat(first|apply aA|apply aB|apply aC));exact(Kd.R_mono (aE (p:=⟨jX,1,none⟩) (aE (p:=⟨jX,0,none⟩) (Kd.R_types iR.out fS.out (by decide)) (fun _ hk=>hk.2) (.slice tF t255.length nH)) (fun _ hk=>hk.2) (.bool t258)) (fun _ h_=>h_.1))))) (bH (by repeat(first|(with_reducible first|exact HB.out|apply aN|apply aP|apply aO|refine aL ?_ xN.out|refine aL ?_ xO.out|refine aL ?_ xP.out)|exact HB.out))));have cC:=aM (bL (Kd.R_new' ho1 (Kd.R_lt (by(with_reducible repeat(first|apply aA|apply aB|apply aC));exact(Kd.R_mono (aE (p:=⟨jX,1,none⟩) (aE (p:=⟨jX,0,none⟩) (Kd.R_types iS.out fS.out (by decide)) (fun _ hk=>hk.2) (.slice tF t255.length nH)) (fun _ hk=>hk.2) (.bool t258)) (fun _ h_=>h_.1))))) (bH (by repeat(first|(with_reducible first|exact HB.out|apply aN|apply aP|apply aO|refine aL ?_ xN.out|refine aL ?_ xO.out|refine aL ?_ xP.out)|exact HB.out))));have cQ:=aM (bF (g:=iE) (o:= .cells #[.slice bC aU.length bK,.slice bM aX.length bO,.int .i64 bA,.int .i64 bB,.slice bQ aQ.length bP] 26 (0,0)) (by(with_reducible repeat(first|refine aJ ?_ _|refine aK ?_|refine aI ?_ _));refine blk_far ?_ xY.out _;(with_reducible repeat(first|refine aJ ?_ _|refine aK ?_|refine aI ?_ _));refine blk_far ?_ xY.out _;(with_reducible repeat(first|refine aJ ?_ _|refine aK ?_|refine aI ?_ _));exact dG.out) hb);have dA:=aM (bF (g:=lS) (o:= .cells #[.slice gQ dF.length gT,.bool fD] 31 (0,0)) (by(with_reducible repeat(first|refine aJ ?_ _|refine aK ?_|refine aI ?_ _));refine blk_far ?_ xZ.out _;(with_reducible repeat(first|refine aJ ?_ _|refine aK ?_|refine aI ?_ _));refine blk_far ?_ xZ.out _;(with_reducible repeat(first|refine aJ ?_ _|refine aK ?_|refine aI ?_ _));exact gF.out) hb);have dH:=aM (bF (g:=jX) (o:= .cells #[.slice tF t255.length nH,.bool t258] 31 (0,0)) (by(with_reducible repeat(first|refine aJ ?_ _|refine aK ?_|refine aI ?_ _));refine blk_put (cs:=#[.slice tF t255.length nH,.bool false]) ?_ 1 _ rfl;(with_reducible repeat(first|refine aJ ?_ _|refine aK ?_|refine aI ?_ _));refine blk_put (cs:=#[.slice none 0 0,.bool false]) ?_ 0 _ rfl;(with_reducible repeat(first|refine aJ ?_ _|refine aK ?_|refine aI ?_ _));exact fS.out) hb);have eG:=aM (bG (by repeat(first|(with_reducible first|exact HB.out|apply aN|apply aP|apply aO|refine aL ?_ xN.out|refine aL ?_ xO.out|refine aL ?_ xP.out)|exact HB.out)) hb);clear iR;clear iS;clear dG;clear gF;clear fS;clear HB;have iR:=bY;have iS:=bZ;have kM:=cA;have kN:=cC;have dG:=cQ;have gF:=dA;have fS:=dH;have HB:=eG;clear bY bZ cA cC cQ dA dH eG;(try clear hb);(try clear hb2);(try clear hk);(try clear hi);(try clear ho0);(try clear ho1))|((with_reducible refine bJ (N:=12) rfl ?_);refine box_event ?hg (N:=12) ?hd (cs:=#[.slice none 0 0,.bool false]) (t:=31) ?hr ?_;(case hd=>rfl);(case hg=>rfl);(case hr=>first|(go_simp;done)|(go_simp;rfl));intro fX hg w28 hbox hb;have bY:=aM (aD (gR iR.out) hb);have bZ:=aM (aD (gR iS.out) hb);have cA:=aM (aD (gR kM.out) hb);have cC:=aM (aD (gR kN.out) hb);have cQ:=aM (bF (gB dG.out) hb);have dA:=aM (bF (gB gF.out) hb);have dH:=aM (bF (gB fS.out) hb);have eG:=aM (bG (gW HB.out) hb);have fK:=aM (hbox);have hF:=aM ((by rw [hg];exact(bH (gW HB.out)):w.heap.size≤fX));have eH:=aM ((by rw [hg];exact(bH (gW HB.out)):w.heap.size≤fX));have eR:=aM ((by rw [hg];exact Nat.ne_of_lt (bN (g:=iE) (o:= .cells #[.slice bC aU.length bK,.slice bM aX.length bO,.int .i64 bA,.int .i64 bB,.slice bQ aQ.length bP] 26 (0,0)) (gB dG.out)):iE≠fX));have fJ:=aM ((by rw [hg];exact Nat.ne_of_gt (bN (g:=iE) (o:= .cells #[.slice bC aU.length bK,.slice bM aX.length bO,.int .i64 bA,.int .i64 bB,.slice bQ aQ.length bP] 26 (0,0)) (gB dG.out)):fX≠iE));have fQ:=aM ((by rw [hg];exact Nat.ne_of_lt (bN (g:=lS) (o:= .cells #[.slice gQ dF.length gT,.bool fD] 31 (0,0)) (gB gF.out)):lS≠fX));have iQ:=aM ((by rw [hg];exact Nat.ne_of_gt (bN (g:=lS) (o:= .cells #[.slice gQ dF.length gT,.bool fD] 31 (0,0)) (gB gF.out)):fX≠lS));have nI:=aM ((by rw [hg];exact Nat.ne_of_lt (bN (g:=jX) (o:= .cells #[.slice tF t255.length nH,.bool t258] 31 (0,0)) (gB fS.out)):jX≠fX));have xQ:=aM ((by rw [hg];exact Nat.ne_of_gt (bN (g:=jX) (o:= .cells #[.slice tF t255.length nH,.bool t258] 31 (0,0)) (gB fS.out)):fX≠jX));clear iR;clear iS;clear kM;clear kN;clear dG;clear gF;clear fS;clear HB;have iR:=bY;have iS:=bZ;have kM:=cA;have kN:=cC;have dG:=cQ;have gF:=dA;have fS:=dH;have HB:=eG;have gV:=fK;have GW272:=hF;have FC:=eH;have yA:=eR;have Lp:=fJ;have yB:=fQ;have Lq:=iQ;have yC:=nI;have Lr:=xQ;clear bY bZ cA cC cQ dA dH eG fK hF eH eR fJ fQ iQ nI xQ;clear hb hbox hg;obtain⟨fT,fU,Mf⟩:=Kd.R_slice kM.out;subst Mf;have hnb30:=Lp.out;have hnc30:=yA.out;have hnb31:=Lq.out;have hnc31:=yB.out;have hnb32:=Lr.out;have hnc32:=yC.out;have nV:w28.cell? ⟨fX,0,none⟩=some (.slice none 0 0):=(aG gV.out 0).trans rfl;have nW:w28.cell? ⟨fX,1,none⟩=some (.bool false):=(aG gV.out 1).trans rfl;have nX:=aH gV.out 0;have nY:=aH gV.out 1))
    have bY:Aside0 (Kd.R k43 43 ((w28.setCell ⟨fX,0,none⟩ (.slice fT t264.length fU)).setCell ⟨fX,1,none⟩ (.bool t267)) w.heap.size (fun k_=>some k_≠(.slice fT t264.length fU:Value).ownBlock) (.slice tF t255.length nH) t255):=⟨by(with_reducible repeat(first|apply aA|apply aB|apply aC));exact Kd.R_mono (aE (p:=⟨fX,1,none⟩) (aE (p:=⟨fX,0,none⟩) (Kd.R_types iR.out gV.out (by decide)) (fun _ hk=>hk.2) (.slice fT t264.length fU)) (fun _ hk=>hk.2) (.bool t267)) (fun _ hk=>hk.1.2)⟩
    have bZ:Aside0 (Kd.R (Kd.int .i64) 3 ((w28.setCell ⟨fX,0,none⟩ (.slice fT t264.length fU)).setCell ⟨fX,1,none⟩ (.bool t267)) w.heap.size (fun k_=>some k_≠(v269:Value).ownBlock) v260 t259):=⟨by(with_reducible repeat(first|apply aA|apply aB|apply aC));exact Kd.R_mono (aE (p:=⟨fX,1,none⟩) (aE (p:=⟨fX,0,none⟩) (Kd.R_types iS.out gV.out (by decide)) (fun _ hk=>hk.2) (.slice fT t264.length fU)) (fun _ hk=>hk.2) (.bool t267)) (fun _ hk=>hk.1.2)⟩
    have cA:Aside0 (Kd.R k43 43 ((w28.setCell ⟨fX,0,none⟩ (.slice fT t264.length fU)).setCell ⟨fX,1,none⟩ (.bool t267)) w.heap.size (fun k_=>some k_≠(.slice tF t255.length nH:Value).ownBlock) (.slice fT t264.length fU) t264):=⟨by(with_reducible repeat(first|apply aA|apply aB|apply aC));exact Kd.R_mono (aE (p:=⟨fX,1,none⟩) (aE (p:=⟨fX,0,none⟩) (Kd.R_types kM.out gV.out (by decide)) (fun _ hk=>hk.2) (.slice fT t264.length fU)) (fun _ hk=>hk.2) (.bool t267)) (fun _ hk=>hk.1.2)⟩
    have cC:Aside0 (Kd.R (Kd.int .i64) 3 ((w28.setCell ⟨fX,0,none⟩ (.slice fT t264.length fU)).setCell ⟨fX,1,none⟩ (.bool t267)) w.heap.size (fun k_=>some k_≠(v260:Value).ownBlock) v269 t268):=⟨by(with_reducible repeat(first|apply aA|apply aB|apply aC));exact Kd.R_mono (aE (p:=⟨fX,1,none⟩) (aE (p:=⟨fX,0,none⟩) (Kd.R_types kN.out gV.out (by decide)) (fun _ hk=>hk.2) (.slice fT t264.length fU)) (fun _ hk=>hk.2) (.bool t267)) (fun _ hk=>hk.1.2)⟩
    have cQ:Aside0 (((w28.setCell ⟨fX,0,none⟩ (.slice fT t264.length fU)).setCell ⟨fX,1,none⟩ (.bool t267)).heap[iE]?=some (.cells #[.slice bC aU.length bK,.slice bM aX.length bO,.int .i64 bA,.int .i64 bB,.slice bQ aQ.length bP] 26 (0,0))):=⟨by(with_reducible repeat(first|refine aJ ?_ _|refine aK ?_|refine aI ?_ _));refine blk_far ?_ yA.out _;(with_reducible repeat(first|refine aJ ?_ _|refine aK ?_|refine aI ?_ _));refine blk_far ?_ yA.out _;(with_reducible repeat(first|refine aJ ?_ _|refine aK ?_|refine aI ?_ _));exact dG.out⟩
    have dA:Aside0 (((w28.setCell ⟨fX,0,none⟩ (.slice fT t264.length fU)).setCell ⟨fX,1,none⟩ (.bool t267)).heap[lS]?=some (.cells #[.slice gQ dF.length gT,.bool fD] 31 (0,0))):=⟨by(with_reducible repeat(first|refine aJ ?_ _|refine aK ?_|refine aI ?_ _));refine blk_far ?_ yB.out _;(with_reducible repeat(first|refine aJ ?_ _|refine aK ?_|refine aI ?_ _));refine blk_far ?_ yB.out _;(with_reducible repeat(first|refine aJ ?_ _|refine aK ?_|refine aI ?_ _));exact gF.out⟩
    have dH:Aside0 (((w28.setCell ⟨fX,0,none⟩ (.slice fT t264.length fU)).setCell ⟨fX,1,none⟩ (.bool t267)).heap[jX]?=some (.cells #[.slice tF t255.length nH,.bool t258] 31 (0,0))):=⟨by(with_reducible repeat(first|refine aJ ?_ _|refine aK ?_|refine aI ?_ _));refine blk_far ?_ yC.out _;(with_reducible repeat(first|refine aJ ?_ _|refine aK ?_|refine aI ?_ _));refine blk_far ?_ yC.out _;(with_reducible repeat(first|refine aJ ?_ _|refine aK ?_|refine aI ?_ _));exact fS.out⟩
    have eG:Aside0 (((w28.setCell ⟨fX,0,none⟩ (.slice fT t264.length fU)).setCell ⟨fX,1,none⟩ (.bool t267)).heap[fX]?=some (.cells #[.slice fT t264.length fU,.bool t267] 31 (0,0))):=⟨by(with_reducible repeat(first|refine aJ ?_ _|refine aK ?_|refine aI ?_ _));refine blk_put (cs:=#[.slice fT t264.length fU,.bool false]) ?_ 1 _ rfl;(with_reducible repeat(first|refine aJ ?_ _|refine aK ?_|refine aI ?_ _));refine blk_put (cs:=#[.slice none 0 0,.bool false]) ?_ 0 _ rfl;(with_reducible repeat(first|refine aJ ?_ _|refine aK ?_|refine aI ?_ _));exact gV.out⟩
    have fK:Aside0 (Below w.heap.size w ((w28.setCell ⟨fX,0,none⟩ (.slice fT t264.length fU)).setCell ⟨fX,1,none⟩ (.bool t267))):=⟨by repeat(first|(with_reducible first|exact HB.out|apply aN|apply aP|apply aO|refine aL ?_ xN.out|refine aL ?_ xO.out|refine aL ?_ xP.out|refine aL ?_ FC.out)|exact HB.out)⟩
    (try clear iR);(try clear iS);(try clear kM);(try clear kN);(try clear dG);(try clear gF);(try clear fS);(try clear gV);(try clear HB)
    generalize ((w28.setCell ⟨fX,0,none⟩ (.slice fT t264.length fU)).setCell ⟨fX,1,none⟩ (.bool t267))=w34 at bY bZ cA cC cQ dA dH eG fK ⊢
    have iR:=bY
    have iS:=bZ
    have kM:=cA
    have kN:=cC
    have dG:=cQ
    have gF:=dA
    have fS:=dH
    have gV:=eG
    have HB:=fK
    clear bY bZ cA cC cQ dA dH eG fK
    have bY:=aM (aC iR.out)
    have bZ:=aM (aC iS.out)
    have cA:=aM (aC kM.out)
    have cC:=aM (aC kN.out)
    have cQ:=aM (aK dG.out)
    have dA:=aM (aK gF.out)
    have dH:=aM (aK fS.out)
    have eG:=aM (aK gV.out)
    have fK:=aM (aO HB.out)
    clear iR
    clear iS
    clear kM
    clear kN
    clear dG
    clear gF
    clear fS
    clear gV
    clear HB
    have iR:=bY
    have iS:=bZ
    have kM:=cA
    have kN:=cC
    have dG:=cQ
    have gF:=dA
    have fS:=dH
    have gV:=eG
    have HB:=fK
    clear bY bZ cA cC cQ dA dH eG fK
    refine start_ (n:=23) (S:=fun w'=>w'.cell? ⟨jX,0,none⟩=some (.slice tF t255.length nH)∧w'.cell? ⟨jX,1,none⟩=some (.bool t258)∧w'.cell? ⟨fX,0,none⟩=some (.slice fT t264.length fU)∧w'.cell? ⟨fX,1,none⟩=some (.bool t267)∧w'.cell? ⟨iE,0,none⟩=some (.slice bC aU.length bK)∧w'.cell? ⟨iE,1,none⟩=some (.slice bM aX.length bO)∧w'.cell? ⟨iE,2,none⟩=some (.int .i64 bA)∧w'.cell? ⟨iE,3,none⟩=some (.int .i64 bB)∧w'.cell? ⟨iE,4,none⟩=some (.slice bQ aQ.length bP)) (ds:= []) #[F,F,F,F,F,F,F,F,F,F,F,F,F,F,F,F,F,F,F,F,F,F,F] (by kernel_rfl) rfl rfl ⟨(aG fS.out 0).trans rfl,(aG fS.out 1).trans rfl,(aG gV.out 0).trans rfl,(aG gV.out 1).trans rfl,(aG dG.out 0).trans rfl,(aG dG.out 1).trans rfl,(aG dG.out 2).trans rfl,(aG dG.out 3).trans rfl,(aG dG.out 4).trans rfl⟩ (fun hHeld=>?_);refine with_tabW regletlaw16_fed.tab3 regletlaw16_fed.bits3 (fun HT_ HW_=>?_)
    generalize w34.drew=w35 at iR iS kM kN dG gF fS gV HB hHeld ⊢
    refine take_ (i:=0) (N:=some 33) (v:=?_) (a':=?_) #[T,F,F,F,F,F,F,F,F,F,F,F,F,F,F,F,F,F,F,F,F,F,F] rfl rfl (take_ofW HT_.out HW_.out (by kernel_rfl)) (fun _ _ _ h=>h) (Or.inl ⟨by rfl,?_⟩) hHeld ?_ ?_
    rotate_left
    ·rintro w' ⟨s0,s1,s2,s3,s4,s5,s6,s7,s8⟩
     go_simp
     with_reducible rfl
    rotate_left
    ·simp only [pq]
     rfl
    refine take_ (i:=1) (N:=some 34) (v:=?_) (a':=?_) #[T,T,F,F,F,F,F,F,F,F,F,F,F,F,F,F,F,F,F,F,F,F,F] rfl rfl (take_ofW HT_.out HW_.out (by kernel_rfl)) (fun _ _ _ h=>h) (Or.inl ⟨by rfl,?_⟩) hHeld ?_ ?_
    rotate_left
    ·rintro w' ⟨s0,s1,s2,s3,s4,s5,s6,s7,s8⟩
     go_simp
     with_reducible rfl
    rotate_left
    ·simp only [pq]
     rfl
    refine one_ (i:=2) (N:=some 35) #[T,T,T,F,F,F,F,F,F,F,F,F,F,F,F,F,F,F,F,F,F,F,F] rfl rfl (one_of HT_.out (by kernel_rfl)) (by decide) (fun K hK=>?_)
    refine goes_ Try.func16 (by kernel_rfl) rfl #[.agg #[.slice tF t255.length nH,.bool t258],.agg #[.slice fT t264.length fU,.bool t267]] (by rfl) rfl rfl (by(try simp only [List.map_toArray,List.map_cons,List.map_nil]);first|done|rfl|(simp only [List.length_drop,List.length_take];rfl)) ?_
    with_reducible refine(regletref16_Same.calls k _ _ t255 t258 _ _ t264 t267 true _ ?side1 ?side2 ?side3 ?side4 A7.out).mono ?_
    (case side1=>exact gC (aF iR.out).2.2)
    (case side2=>exact(aF iR.out).2.1)
    (case side3=>exact gC (aF kM.out).2.2)
    (case side4=>exact(aF kM.out).2.1)
    rintro e w36 ⟨rfl,hb⟩
    refine⟨_,rfl,?_⟩
    have bY:=aM (aD (gR iR.out) hb)
    have bZ:=aM (aD (gR iS.out) hb)
    have cA:=aM (aD (gR kM.out) hb)
    have cC:=aM (aD (gR kN.out) hb)
    have cQ:=aM (bF (gB dG.out) hb)
    have dA:=aM (bF (gB gF.out) hb)
    have dH:=aM (bF (gB fS.out) hb)
    have eG:=aM (bF (gB gV.out) hb)
    have fK:=aM (bG (gW HB.out) hb)
    clear iR
    clear iS
    clear kM
    clear kN
    clear dG
    clear gF
    clear fS
    clear gV
    clear HB
    have iR:=bY
    have iS:=bZ
    have kM:=cA
    have kN:=cC
    have dG:=cQ
    have gF:=dA
    have fS:=dH
    have gV:=eG
    have HB:=fK
    clear bY bZ cA cC cQ dA dH eG fK
    (try clear hb);(try clear hb2);(try clear hk);(try clear hi)
    obtain⟨MX,Zw,Ma⟩:=Kd.R_slice iS.out
    (first|subst Ma|(injection Ma with f1_ f2_ f3_;have f4_:=f1_.symm;have f5_:=f3_.symm;clear f1_ f2_ f3_;subst f4_;subst f5_))
    obtain⟨Zu,Wt,Qb⟩:=Kd.R_slice kN.out
    (first|subst Qb|(injection Qb with f1_ f2_ f3_;have f4_:=f1_.symm;have f5_:=f3_.symm;clear f1_ f2_ f3_;subst f4_;subst f5_))
    refine hK.out _ _ ⟨(aG fS.out 0).trans rfl,(aG fS.out 1).trans rfl,(aG gV.out 0).trans rfl,(aG gV.out 1).trans rfl,(aG dG.out 0).trans rfl,(aG dG.out 1).trans rfl,(aG dG.out 2).trans rfl,(aG dG.out 3).trans rfl,(aG dG.out 4).trans rfl⟩ (fun hHeld=>?_)
    clear hK K
    refine norm_ (a':=?_) ?_ ?_
    rotate_left
    ·show Act.put _ (some 35) _=_
     simp only [pq]
     rfl
    refine pure_ (i:=3) (N:=some 36) (v:=?_) (a':=?_) #[T,T,T,T,F,F,F,F,F,F,F,F,F,F,F,F,F,F,F,F,F,F,F] rfl rfl (any_of HT_.out (by kernel_rfl)) (fun _ _ _ h=>h) (Or.inl ⟨by rfl,?_⟩) ?_ ?_
    rotate_left;(intro w';go_simp;with_reducible rfl);rotate_left;(simp only [pq];rfl)
    refine pure_ (i:=4) (N:=some 37) (v:=?_) (a':=?_) #[T,T,T,T,T,F,F,F,F,F,F,F,F,F,F,F,F,F,F,F,F,F,F] rfl rfl (any_of HT_.out (by kernel_rfl)) (fun _ _ _ h=>h) (Or.inl ⟨by rfl,?_⟩) ?_ ?_
    rotate_left;(intro w';go_simp;with_reducible rfl);rotate_left;(simp only [pq];rfl)
    refine pure_ (i:=5) (N:=some 38) (v:=?_) (a':=?_) #[T,T,T,T,T,T,F,F,F,F,F,F,F,F,F,F,F,F,F,F,F,F,F] rfl rfl (any_of HT_.out (by kernel_rfl)) (fun _ _ _ h=>h) (Or.inl ⟨by rfl,?_⟩) ?_ ?_
    rotate_left;(intro w';go_simp;with_reducible rfl);rotate_left;(simp only [pq];rfl)
    refine one_ (i:=6) (N:=some 39) #[T,T,T,T,T,T,T,F,F,F,F,F,F,F,F,F,F,F,F,F,F,F,F] rfl rfl (one_of HT_.out (by kernel_rfl)) (by decide) (fun K hK=>?_)
    refine goes_ Try.func24 (by kernel_rfl) rfl #[.slice MX t259.length Zw,.slice Zu t268.length Wt] (by rfl) rfl rfl (by(try simp only [List.map_toArray,List.map_cons,List.map_nil]);first|done|rfl|(simp only [List.length_drop,List.length_take];rfl)) ?_
    with_reducible refine(regletref13_SameInts.calls k _ _ t259 _ _ t268 true _ ?side1 ?side2 ?side3 ?side4 A9.out).mono ?_
    (case side1=>exact gC (aF iS.out).2.2)
    (case side2=>exact(aF iS.out).2.1)
    (case side3=>exact gC (aF kN.out).2.2)
    (case side4=>exact(aF kN.out).2.1)
    rintro e w' ⟨rfl,⟨nd,rfl⟩⟩
    refine⟨_,rfl,?_⟩
    refine hK.out _ _ ⟨(aG fS.out 0).trans rfl,(aG fS.out 1).trans rfl,(aG gV.out 0).trans rfl,(aG gV.out 1).trans rfl,(aG dG.out 0).trans rfl,(aG dG.out 1).trans rfl,(aG dG.out 2).trans rfl,(aG dG.out 3).trans rfl,(aG dG.out 4).trans rfl⟩ (fun hHeld=>?_)
    clear hK K
    refine norm_ (a':=?_) ?_ ?_
    rotate_left
    ·show Act.put _ (some 39) _=_
     simp only [pq]
     rfl
    refine pure_ (i:=7) (N:=some 40) (v:=?_) (a':=?_) #[T,T,T,T,T,T,T,T,F,F,F,F,F,F,F,F,F,F,F,F,F,F,F] rfl rfl (any_of HT_.out (by kernel_rfl)) (fun _ _ _ h=>h) (Or.inl ⟨by rfl,?_⟩) ?_ ?_
    rotate_left;(intro w';go_simp;with_reducible rfl);rotate_left;(simp only [pq];rfl)
    refine pure_ (i:=8) (N:=some 41) (v:=?_) (a':=?_) #[T,T,T,T,T,T,T,T,T,F,F,F,F,F,F,F,F,F,F,F,F,F,F] rfl rfl (any_of HT_.out (by kernel_rfl)) (fun _ _ _ h=>h) (Or.inl ⟨by rfl,?_⟩) ?_ ?_
    rotate_left;(intro w';go_simp;with_reducible rfl);rotate_left;(simp only [pq];rfl)
    refine pure_ (i:=9) (N:=some 42) (v:=?_) (a':=?_) #[T,T,T,T,T,T,T,T,T,T,F,F,F,F,F,F,F,F,F,F,F,F,F] rfl rfl (any_of HT_.out (by kernel_rfl)) (fun _ _ _ h=>h) (Or.inl ⟨by rfl,?_⟩) ?_ ?_
    rotate_left;(intro w';go_simp;with_reducible rfl);rotate_left;(simp only [pq];rfl)
    refine pure_ (i:=10) (N:=some 43) (v:=?_) (a':=?_) #[T,T,T,T,T,T,T,T,T,T,T,F,F,F,F,F,F,F,F,F,F,F,F] rfl rfl (any_of HT_.out (by kernel_rfl)) (fun _ _ _ h=>h) (Or.inl ⟨by rfl,?_⟩) ?_ ?_
    rotate_left;(intro w';go_simp;with_reducible rfl);rotate_left;(simp only [pq];rfl)
    refine pure_ (i:=11) (N:=some 44) (v:=?_) (a':=?_) #[T,T,T,T,T,T,T,T,T,T,T,T,F,F,F,F,F,F,F,F,F,F,F] rfl rfl (any_of HT_.out (by kernel_rfl)) (fun _ _ _ h=>h) (Or.inl ⟨by rfl,?_⟩) ?_ ?_
    rotate_left;(intro w';go_simp;with_reducible rfl);rotate_left;(simp only [pq];rfl)
    refine pure_ (i:=12) (N:=some 45) (v:=?_) (a':=?_) #[T,T,T,T,T,T,T,T,T,T,T,T,T,F,F,F,F,F,F,F,F,F,F] rfl rfl (any_of HT_.out (by kernel_rfl)) (fun _ _ _ h=>h) (Or.inl ⟨by rfl,?_⟩) ?_ ?_
    rotate_left;(intro w';go_simp;with_reducible rfl);rotate_left;(simp only [pq];rfl)
    refine pure_ (i:=13) (N:=some 46) (v:=?_) (a':=?_) #[T,T,T,T,T,T,T,T,T,T,T,T,T,T,F,F,F,F,F,F,F,F,F] rfl rfl (any_of HT_.out (by kernel_rfl)) (fun _ _ _ h=>h) (Or.inl ⟨by rfl,?_⟩) ?_ ?_
    rotate_left;(intro w';go_simp;with_reducible rfl);rotate_left;(simp only [pq];rfl)
    refine pure_ (i:=15) (N:=some 48) (v:=?_) (a':=?_) #[T,T,T,T,T,T,T,T,T,T,T,T,T,T,F,T,F,F,F,F,F,F,F] rfl rfl (any_of HT_.out (by kernel_rfl)) (fun _ _ _ h=>h) (Or.inl ⟨by rfl,?_⟩) ?_ ?_
    rotate_left;(intro w';go_simp;with_reducible rfl);rotate_left;(simp only [pq];rfl)
    refine pure_ (i:=18) (N:=some 51) (v:=?_) (a':=?_) #[T,T,T,T,T,T,T,T,T,T,T,T,T,T,F,T,F,F,T,F,F,F,F] rfl rfl (any_of HT_.out (by kernel_rfl)) (fun _ _ _ h=>h) (Or.inl ⟨by rfl,?_⟩) ?_ ?_
    rotate_left;(intro w';go_simp;with_reducible rfl);rotate_left;(simp only [pq];rfl)
    refine take_ (i:=14) (N:=some 47) (v:=?_) (a':=?_) #[T,T,T,T,T,T,T,T,T,T,T,T,T,T,T,T,F,F,T,F,F,F,F] rfl rfl (take_ofW HT_.out HW_.out (by kernel_rfl)) (fun _ _ _ h=>h) (Or.inl ⟨by rfl,?_⟩) hHeld ?_ ?_
    rotate_left
    ·rintro w' ⟨s0,s1,s2,s3,s4,s5,s6,s7,s8⟩
     go_simp
     with_reducible rfl
    rotate_left
    ·simp only [pq]
     rfl
    refine take_ (i:=17) (N:=some 50) (v:=?_) (a':=?_) #[T,T,T,T,T,T,T,T,T,T,T,T,T,T,T,T,F,T,T,F,F,F,F] rfl rfl (take_ofW HT_.out HW_.out (by kernel_rfl)) (fun _ _ _ h=>h) (Or.inl ⟨by rfl,?_⟩) hHeld ?_ ?_
    rotate_left
    ·rintro w' ⟨s0,s1,s2,s3,s4,s5,s6,s7,s8⟩
     go_simp
     with_reducible rfl
    rotate_left
    ·simp only [pq]
     rfl
    refine one_ (i:=16) (N:=some 49) #[T,T,T,T,T,T,T,T,T,T,T,T,T,T,T,T,T,T,T,F,F,F,F] rfl rfl (one_of HT_.out (by kernel_rfl)) (by decide) (fun K hK=>?_)
    refine goes_ Try.func25 (by kernel_rfl) rfl #[.agg #[.slice bC aU.length bK,.slice bM aX.length bO,.int .i64 bA,.int .i64 bB,.slice bQ aQ.length bP],.slice A1 l1.length c1] (by rfl) rfl rfl (by(try simp only [List.map_toArray,List.map_cons,List.map_nil]);first|done|rfl|(simp only [List.length_drop,List.length_take];rfl)) ?_
    with_reducible refine(machine_Right.calls _ _ aU _ _ aX bA bB _ _ aQ _ _ l1 t275 _ ?side1 ?side2 ?side3 ?side4 ?side5 ?side6 ?side7 ?side8 A12.out).mono ?_
    (case side1=>repeat(first|exact(bD eS.out (gW HB.out))|(with_reducible refine Kd.C_alloc ?_ _)|(with_reducible refine Kd.C_drewN ?_ _)|(with_reducible refine Kd.C_drew ?_)))
    (case side2=>exact eU.out)
    (case side3=>repeat(first|exact(bD eX.out (gW HB.out))|(with_reducible refine Kd.C_alloc ?_ _)|(with_reducible refine Kd.C_drewN ?_ _)|(with_reducible refine Kd.C_drew ?_)))
    (case side4=>exact eY.out)
    (case side5=>repeat(first|exact(bD dW.out (gW HB.out))|(with_reducible refine Kd.C_alloc ?_ _)|(with_reducible refine Kd.C_drewN ?_ _)|(with_reducible refine Kd.C_drew ?_)))
    (case side6=>exact eZ.out)
    (case side7=>repeat(first|exact(bD HR1.out (gW HB.out))|(with_reducible refine Kd.C_alloc ?_ _)|(with_reducible refine Kd.C_drewN ?_ _)|(with_reducible refine Kd.C_drew ?_)))
    (case side8=>exact HC1.out)
    rintro e w39 ⟨rfl,hb⟩
    refine⟨_,rfl,?_⟩
    have bY:=aM (aD (gR iR.out) hb)
    have bZ:=aM (aD (gR iS.out) hb)
    have cA:=aM (aD (gR kM.out) hb)
    have cC:=aM (aD (gR kN.out) hb)
    have cQ:=aM (bF (gB dG.out) hb)
    have dA:=aM (bF (gB gF.out) hb)
    have dH:=aM (bF (gB fS.out) hb)
    have eG:=aM (bF (gB gV.out) hb)
    have fK:=aM (bG (gW HB.out) hb)
    clear iR
    clear iS
    clear kM
    clear kN
    clear dG
    clear gF
    clear fS
    clear gV
    clear HB
    have iR:=bY
    have iS:=bZ
    have kM:=cA
    have kN:=cC
    have dG:=cQ
    have gF:=dA
    have fS:=dH
    have gV:=eG
    have HB:=fK
    clear bY bZ cA cC cQ dA dH eG fK
    (try clear hb);(try clear hb2);(try clear hk);(try clear hi)
    refine hK.out _ _ ⟨(aG fS.out 0).trans rfl,(aG fS.out 1).trans rfl,(aG gV.out 0).trans rfl,(aG gV.out 1).trans rfl,(aG dG.out 0).trans rfl,(aG dG.out 1).trans rfl,(aG dG.out 2).trans rfl,(aG dG.out 3).trans rfl,(aG dG.out 4).trans rfl⟩ (fun hHeld=>?_)
    clear hK K
    refine norm_ (a':=?_) ?_ ?_
    rotate_left
    ·show Act.put _ (some 49) _=_
     simp only [pq]
     rfl
    refine one_ (i:=19) (N:=some 52) #[T,T,T,T,T,T,T,T,T,T,T,T,T,T,T,T,T,T,T,T,F,F,F] rfl rfl (one_of HT_.out (by kernel_rfl)) (by decide) (fun K hK=>?_)
    refine goes_ Try.func27 (by kernel_rfl) rfl #[.agg #[.slice bC aU.length bK,.slice bM aX.length bO,.int .i64 bA,.int .i64 bB,.slice bQ aQ.length bP],.slice A1 l1.length c1] (by rfl) rfl rfl (by(try simp only [List.map_toArray,List.map_cons,List.map_nil]);first|done|rfl|(simp only [List.length_drop,List.length_take];rfl)) ?_
    with_reducible refine(regletref16_Right.calls k _ _ aU _ _ aX bA bB _ _ aQ _ _ l1 t276 _ ?side1 ?side2 ?side3 ?side4 ?side5 ?side6 ?side7 ?side8 A13.out).mono ?_
    (case side1=>exact gC (bD eS.out HB.out))
    (case side2=>exact eU.out)
    (case side3=>exact gC (bD eX.out HB.out))
    (case side4=>exact eY.out)
    (case side5=>exact gC (bD dW.out HB.out))
    (case side6=>exact eZ.out)
    (case side7=>exact gC (bD HR1.out HB.out))
    (case side8=>exact HC1.out)
    rintro e w40 ⟨rfl,hb⟩
    refine⟨_,rfl,?_⟩
    have bY:=aM (aD (gR iR.out) hb)
    have bZ:=aM (aD (gR iS.out) hb)
    have cA:=aM (aD (gR kM.out) hb)
    have cC:=aM (aD (gR kN.out) hb)
    have cQ:=aM (bF (gB dG.out) hb)
    have dA:=aM (bF (gB gF.out) hb)
    have dH:=aM (bF (gB fS.out) hb)
    have eG:=aM (bF (gB gV.out) hb)
    have fK:=aM (bG (gW HB.out) hb)
    clear iR
    clear iS
    clear kM
    clear kN
    clear dG
    clear gF
    clear fS
    clear gV
    clear HB
    have iR:=bY
    have iS:=bZ
    have kM:=cA
    have kN:=cC
    have dG:=cQ
    have gF:=dA
    have fS:=dH
    have gV:=eG
    have HB:=fK
    clear bY bZ cA cC cQ dA dH eG fK
    (try clear hb);(try clear hb2);(try clear hk);(try clear hi)
    refine hK.out _ _ ⟨(aG fS.out 0).trans rfl,(aG fS.out 1).trans rfl,(aG gV.out 0).trans rfl,(aG gV.out 1).trans rfl,(aG dG.out 0).trans rfl,(aG dG.out 1).trans rfl,(aG dG.out 2).trans rfl,(aG dG.out 3).trans rfl,(aG dG.out 4).trans rfl⟩ (fun hHeld=>?_)
    clear hK K
    refine norm_ (a':=?_) ?_ ?_
    rotate_left
    ·show Act.put _ (some 52) _=_
     simp only [pq]
     rfl
    refine pure_ (i:=20) (N:=some 53) (v:=?_) (a':=?_) #[T,T,T,T,T,T,T,T,T,T,T,T,T,T,T,T,T,T,T,T,T,F,F] rfl rfl (any_of HT_.out (by kernel_rfl)) (fun _ _ _ h=>h) (Or.inl ⟨by rfl,?_⟩) ?_ ?_
    rotate_left;(intro w';go_simp;with_reducible rfl);rotate_left;(simp only [pq];rfl)
    refine pure_ (i:=21) (N:=some 54) (v:=?_) (a':=?_) #[T,T,T,T,T,T,T,T,T,T,T,T,T,T,T,T,T,T,T,T,T,T,F] rfl rfl (any_of HT_.out (by kernel_rfl)) (fun _ _ _ h=>h) (Or.inl ⟨by rfl,?_⟩) ?_ ?_
    rotate_left;(intro w';go_simp;with_reducible rfl);rotate_left;(simp only [pq];rfl)
    refine pure_ (i:=22) (N:=some 8) (v:=?_) (a':=?_) #[T,T,T,T,T,T,T,T,T,T,T,T,T,T,T,T,T,T,T,T,T,T,T] rfl rfl (any_of HT_.out (by kernel_rfl)) (fun _ _ _ h=>h) (Or.inl ⟨by rfl,?_⟩) ?_ ?_
    rotate_left;(intro w';go_simp;with_reducible rfl);rotate_left;(simp only [pq];rfl)
    refine done_ (done_of HT_.out (by kernel_rfl)) ?_
    try go_wp2
    go_ret
    exact⟨by first|rfl|(simp [errW_none,errW_some]<;>rfl)|(simp [*,errW_none,errW_some]<;>rfl),gW HB.out⟩
   ·rw [if_neg c11] at H
    have tI:(t262==t271)=false:=beq_eq_false_iff_ne.mpr c11
    have Vc:(t262 !=t271)=true:=bne_iff_ne.mpr c11
    exact absurd H (by simp)
  ·replace c10:=Bool.eq_false_iff.mpr c10
   subst c10
   have H1:(none)=some r:=by rw [if_neg (show ¬(false=true) by decide)] at H;exact H
   clear H
   have H:=H1
   clear H1
   exact absurd H (by simp)
 ·replace c8:=Bool.eq_false_iff.mpr c8
  subst c8
  have H1:(none)=some r:=by rw [if_neg (show ¬(false=true) by decide)] at H;exact H
  clear H
  have H:=H1
  clear H1
  exact absurd H (by simp)
attribute [local go_sem] max2_int min2_int max_two min_two max_three min_three max_four min_four   -- for this text's walks alone
set_option linter.unusedVariables false
set_option linter.unusedSimpArgs false
mutual
def machine_Run.l0:Nat→List (List Int)→List Int→List Int→List Int→Int→Int→List ByteArray→List (S72)→Int→Int→List (S35)→List (S43)→Bool→Option (List Int×Int×Int)
 |0,_,_,_,_,_,_,_,_,_,_,_,_,_=>none
 |k+1,x1,x2,x6,x22,x23,x24,x116000,x116001,x116002,x116003,x116004,x121000,x121001=>if x24<x23 then(if 0≤x24 then(if x24<(x22.length:Int) then(if x24<(x2.length:Int) then(machine_Run.j1 k x1 x2 x6 x24 (rd x22 x24) x22 x23 x24 ((rd x22 x24)==(x116001.length:Int)) x116000 x116001 x116002 x116003 x116004 x121000 x121001) else(machine_Run.j1 k x1 x2 x6 x24 (rd x22 x24) x22 x23 x24 false x116000 x116001 x116002 x116003 x116004 x121000 x121001)) else(none)) else(none)) else(some (x6,0,0))
def machine_Run.j1:Nat→List (List Int)→List Int→List Int→Int→Int→List Int→Int→Int→Bool→List ByteArray→List (S72)→Int→Int→List (S35)→List (S43)→Bool→Option (List Int×Int×Int)
 |0,_,_,_,_,_,_,_,_,_,_,_,_,_,_,_,_=>none
 |k+1,x1,x2,x6,x10,x11,x22,x23,x24,x39,x116000,x116001,x116002,x116003,x116004,x121000,x121001=>if x39=true then(some (([]:List Int),1,x10)) else((machine_Feed.f x116000 x116001 x116002 x116003 x116004 x1 x121000 x121001 x11).bind fun pA=>(if pA.2.2.2=0 then(if x6.length+pA.2.2.1.length<17592186044416 then(machine_Run.l0 k x1 x2 (x6++pA.2.2.1) x22 x23 (wrap64 (x24+1)) x116000 x116001 x116002 x116003 x116004 pA.1 pA.2.1) else(none)) else(some (([]:List Int),pA.2.2.2,x10))))
end
def machine_Run.f (k:Nat) (aU:List ByteArray) (aX:List (S72)) (bA:Int) (bB:Int) (aQ:List (S35)) (l1:List (List Int)) (l2:List Int):Option (List Int×Int×Int):=(machine_Start.f).bind fun Gh=>((slices_Clone_int_int.f l2).bind fun t121=>((some (([(aX.length:Int)]:List Int):List Int)).bind fun y124=>(if t121.length+y124.length<17592186044416 then((some (t121++y124:List Int)).bind fun y127=>(machine_Run.l0 k l1 l2 ([]:List Int) y127 (y127.length:Int) 0 aU aX bA bB aQ Gh.1 Gh.2)) else(none))))
theorem machine_Run.mono_l:∀k,(∀y0 y1 y2 y3 y4 y5 y6 y7 y8 y9 y10 y11 y12,LeO (machine_Run.l0 k y0 y1 y2 y3 y4 y5 y6 y7 y8 y9 y10 y11 y12) (machine_Run.l0 (k+1) y0 y1 y2 y3 y4 y5 y6 y7 y8 y9 y10 y11 y12))∧(∀y0 y1 y2 y3 y4 y5 y6 y7 y8 y9 y10 y11 y12 y13 y14 y15,LeO (machine_Run.j1 k y0 y1 y2 y3 y4 y5 y6 y7 y8 y9 y10 y11 y12 y13 y14 y15) (machine_Run.j1 (k+1) y0 y1 y2 y3 y4 y5 y6 y7 y8 y9 y10 y11 y12 y13 y14 y15))
 |0=>⟨fun _ _ _ _ _ _ _ _ _ _ _ _ _ r h=>by simp [machine_Run.l0] at h,fun _ _ _ _ _ _ _ _ _ _ _ _ _ _ _ _ r h=>by simp [machine_Run.j1] at h⟩
 |k+1=>by
  obtain⟨ih0,ih1⟩:=machine_Run.mono_l k
  refine⟨?_,?_⟩
  ·intro y0 y1 y2 y3 y4 y5 y6 y7 y8 y9 y10 y11 y12
   unfold machine_Run.l0
   repeat' first
   |(with_reducible exact ih0 _ _ _ _ _ _ _ _ _ _ _ _ _)
   |(with_reducible exact ih1 _ _ _ _ _ _ _ _ _ _ _ _ _ _ _ _)
   |(with_reducible exact LeO.refl _)
   |(with_reducible exact LeO.none _)
   |(with_reducible refine LeO.ite ?_ ?_)
   |(with_reducible refine LeO.bind ?_ (fun _=>?_))
   |exact ih0 _ _ _ _ _ _ _ _ _ _ _ _ _
   |exact ih1 _ _ _ _ _ _ _ _ _ _ _ _ _ _ _ _
   |exact LeO.none _
   |refine LeO.ite ?_ ?_
   |refine LeO.bind ?_ (fun _=>?_)
  ·intro y0 y1 y2 y3 y4 y5 y6 y7 y8 y9 y10 y11 y12 y13 y14 y15
   unfold machine_Run.j1
   repeat' first
   |(with_reducible exact ih0 _ _ _ _ _ _ _ _ _ _ _ _ _)
   |(with_reducible exact ih1 _ _ _ _ _ _ _ _ _ _ _ _ _ _ _ _)
   |(with_reducible exact LeO.refl _)
   |(with_reducible exact LeO.none _)
   |(with_reducible refine LeO.ite ?_ ?_)
   |(with_reducible refine LeO.bind ?_ (fun _=>?_))
   |exact ih0 _ _ _ _ _ _ _ _ _ _ _ _ _
   |exact ih1 _ _ _ _ _ _ _ _ _ _ _ _ _ _ _ _
   |exact LeO.none _
   |refine LeO.ite ?_ ?_
   |refine LeO.bind ?_ (fun _=>?_)
theorem machine_Run.mono:∀a0 a1 a2 a3 a4 a5 a6 k,LeO (machine_Run.f k a0 a1 a2 a3 a4 a5 a6) (machine_Run.f (k+1) a0 a1 a2 a3 a4 a5 a6):=by
 intro a0 a1 a2 a3 a4 a5 a6 k
 obtain⟨ih0,ih1⟩:=machine_Run.mono_l k
 unfold machine_Run.f
 repeat' first
  |(with_reducible exact ih0 _ _ _ _ _ _ _ _ _ _ _ _ _)
  |(with_reducible exact ih1 _ _ _ _ _ _ _ _ _ _ _ _ _ _ _ _)
  |(with_reducible exact LeO.refl _)
  |(with_reducible exact LeO.none _)
  |(with_reducible refine LeO.ite ?_ ?_)
  |(with_reducible refine LeO.bind ?_ (fun _=>?_))
  |exact ih0 _ _ _ _ _ _ _ _ _ _ _ _ _
  |exact ih1 _ _ _ _ _ _ _ _ _ _ _ _ _ _ _ _
  |exact LeO.none _
  |refine LeO.ite ?_ ?_
  |refine LeO.bind ?_ (fun _=>?_)
def machine_Run.T2:Bool×List (List Nat×List Nat):=(true,[([],[]),([0],[0]),([],[]),([2],[2]),([3],[3]),([4],[4]),([1,5,1],[1,5]),([6],[6]),([],[])])
def machine_Run.B2:List Nat:= [0,1,0,4,12,28,63,127,0]
theorem machine_Run.tab2:rtab .any (opsOf Try.f22 2)=machine_Run.T2:=by kernel_rfl
theorem machine_Run.bits2:waitsOk machine_Run.T2.2 machine_Run.B2=true:=by kernel_rfl
set_option maxHeartbeats 8000000 in
set_option maxRecDepth 100000 in
theorem machine_Run.calls (k:Nat) (bC:Option Addr) (bK:Nat) (aU:List ByteArray) (bM:Option Addr) (bO:Nat) (aX:List (S72)) (bA:Int) (bB:Int) (bQ:Option Addr) (bP:Nat) (aQ:List (S35)) (A1:Option Addr) (c1:Nat) (l1:List (List Int)) (A2:Option Addr) (c2:Nat) (l2:List Int) (r1:List Int) (r2:Int) (r3:Int) (w:World) (dM:Kd.C Kd.string w bC aU.length aU) (dT:aU.length≤bK) (dU:Kd.C k72 w bM aX.length aX) (dY:aX.length≤bO) (dR:Kd.C k35 w bQ aQ.length aQ) (eB:aQ.length≤bP) (hr1:Kd.C (Kd.slice 3 (Kd.int .i64)) w A1 l1.length l1) (hc1:l1.length≤c1) (hr2:Kd.C (Kd.int .i64) w A2 l2.length l2) (hc2:l2.length≤c2) (h:machine_Run.f k aU aX bA bB aQ l1 l2=some (r1,r2,r3)):
 Calls Try.prog 22 #[.agg #[.slice bC aU.length bK,.slice bM aX.length bO,.int .i64 bA,.int .i64 bB,.slice bQ aQ.length bP],.slice A1 l1.length c1,.slice A2 l2.length c2] w fun e w'=>∃v0_:Value,e= .returned (.tuple #[v0_,.int .i64 r2,.int .i64 r3])∧Kd.R (Kd.int .i64) 3 w' w.heap.size (fun _=>True) v0_ r1∧Below w.heap.size w w':=by
 have hu26:=Try.underlying26
 have hu31:=Try.underlying31
 have eS:=aM dM
 have eU:=aM dT
 clear dM dT
 have eX:=aM dU
 have eY:=aM dY
 clear dU dY
 have dW:=aM dR
 have eZ:=aM eB
 clear dR eB
 have HR1:=aM hr1
 have HC1:=aM hc1
 clear hr1 hc1
 have HR2:=aM hr2
 have HC2:=aM hc2
 clear hr2 hc2
 have HB:=aM (Below.refl w.heap.size w)
 have H:((machine_Start.f).bind fun Gh=>((slices_Clone_int_int.f l2).bind fun t121=>((some (([(aX.length:Int)]:List Int):List Int)).bind fun y124=>(if t121.length+y124.length<17592186044416 then((some (t121++y124:List Int)).bind fun y127=>(machine_Run.l0 k l1 l2 ([]:List Int) y127 (y127.length:Int) 0 aU aX bA bB aQ Gh.1 Gh.2)) else(none)))))=some (r1,r2,r3):=h
 clear h
 replace H:=Option.bind_eq_some_iff.mp H
 obtain⟨⟨t116,t119⟩,A40,H⟩:=H
 replace H:((slices_Clone_int_int.f l2).bind fun t121=>((some (([(aX.length:Int)]:List Int):List Int)).bind fun y124=>(if t121.length+y124.length<17592186044416 then((some (t121++y124:List Int)).bind fun y127=>(machine_Run.l0 k l1 l2 ([]:List Int) y127 (y127.length:Int) 0 aU aX bA bB aQ t116 t119)) else(none))))=some (r1,r2,r3):=H
 have A4:=aM A40
 clear A40
 replace H:=Option.bind_eq_some_iff.mp H
 obtain⟨t121,A50,H⟩:=H
 replace H:((some (([(aX.length:Int)]:List Int):List Int)).bind fun y124=>(if t121.length+y124.length<17592186044416 then((some (t121++y124:List Int)).bind fun y127=>(machine_Run.l0 k l1 l2 ([]:List Int) y127 (y127.length:Int) 0 aU aX bA bB aQ t116 t119)) else(none)))=some (r1,r2,r3):=H
 have A5:=aM A50
 clear A50
 obtain⟨y124,Gi⟩:∃y_:List Int,y_=(([(aX.length:Int)]:List Int)):=⟨_,rfl⟩
 replace H:(if t121.length+y124.length<17592186044416 then((some (t121++y124:List Int)).bind fun y127=>(machine_Run.l0 k l1 l2 ([]:List Int) y127 (y127.length:Int) 0 aU aX bA bB aQ t116 t119)) else(none))=some (r1,r2,r3):=by first|(rw [Gi];with_reducible exact H)|(have H2_:=(Option.bind_some _ _).symm.trans H;rw [Gi];with_reducible exact H2_)|(have H2_:=(Option.bind_some _ _).symm.trans H;with_reducible exact H2_)|with_reducible exact H|(rw [Gi];exact H)|exact H
 have Kx:=aM Gi
 clear Gi
 by_cases c6:t121.length+y124.length<17592186044416
 rotate_left
 ·rw [if_neg c6] at H
  exact absurd H (by simp)
 rw [if_pos c6] at H
 have Wp:=aM c6
 clear c6
 obtain⟨y127,Gj⟩:∃y_:List Int,y_=(t121++y124):=⟨_,rfl⟩
 replace H:(machine_Run.l0 k l1 l2 ([]:List Int) y127 (y127.length:Int) 0 aU aX bA bB aQ t116 t119)=some (r1,r2,r3):=by first|(rw [Gj];with_reducible exact H)|(have H2_:=(Option.bind_some _ _).symm.trans H;rw [Gj];with_reducible exact H2_)|(have H2_:=(Option.bind_some _ _).symm.trans H;with_reducible exact H2_)|with_reducible exact H|(rw [Gj];exact H)|exact H
 have FD:=aM Gj
 clear Gj
 have H':=aM H
 clear H
 go_enter Try.func22,Try.ntmps22
 try go_wp2_with (first|((with_reducible refine bJ (N:=3) rfl ?_);(try(refine gate_guard (by rfl) ?_;dsimp only));refine box_event ?hg (N:=3) ?hd (cs:=#[.slice bC aU.length bK,.slice bM aX.length bO,.int .i64 bA,.int .i64 bB,.slice bQ aQ.length bP]) (t:=26) ?hr ?_;(case hd=>rfl);(case hg=>rfl);(case hr=>first|(go_simp;done)|(go_simp;rfl));intro eV hg w7 hbox hb;have bY:=aM (bG (gW HB.out) hb);have bZ:=aM (hbox);have cA:=aM ((by rw [hg];exact(bH (gW HB.out)):w.heap.size≤eV));have cC:=aM ((by rw [hg];exact(bH (gW HB.out)):w.heap.size≤eV));clear HB;have HB:=bY;have cD:=bZ;have GW115:=cA;have Ky:=cC;clear bY bZ cA cC;clear hb hbox hg)|((with_reducible refine bI (f:=17) rfl ?_);refine goesL_ (some 15) rfl rfl Try.func17 (by kernel_rfl) rfl #[] rfl (by(try simp only [List.map_toArray,List.map_cons,List.map_nil]);first|done|rfl|(simp only [List.length_drop,List.length_take];rfl)) ?_;(with_reducible refine(machine_Start.calls  t116 t119 _ A4.out).mono ?_);rintro e w8 ⟨v117,rfl,ho0,hb⟩;refine⟨_,rfl,?_⟩;have bY:=aM (bL ho0 (bH (gW HB.out)));have bZ:=aM (bF (gB cD.out) hb);have cA:=aM (bG (gW HB.out) hb);clear cD;clear HB;have iF:=bY;have cD:=bZ;have HB:=cA;clear bY bZ cA;(try clear hb);(try clear hb2);(try clear hk);(try clear hi);(try clear ho0))|((with_reducible refine bJ (N:=9) rfl ?_);(try(refine gate_guard (by rfl) ?_;dsimp only));refine box_event ?hg (N:=9) ?hd (cs:=#[.slice none 0 0,.bool false]) (t:=31) ?hr ?_;(case hd=>rfl);(case hg=>rfl);(case hr=>first|(go_simp;done)|(go_simp;rfl));intro fF hg w9 hbox hb;have bY:=aM (aD (gR iF.out) hb);have bZ:=aM (bF (gB cD.out) hb);have cA:=aM (bG (gW HB.out) hb);have cC:=aM (hbox);have cQ:=aM ((by rw [hg];exact(bH (gW HB.out)):w.heap.size≤fF));have dA:=aM ((by rw [hg];exact(bH (gW HB.out)):w.heap.size≤fF));have dH:=aM ((by rw [hg];exact Nat.ne_of_lt (bN (g:=eV) (o:= .cells #[.slice bC aU.length bK,.slice bM aX.length bO,.int .i64 bA,.int .i64 bB,.slice bQ aQ.length bP] 26 (0,0)) (gB cD.out)):eV≠fF));have eG:=aM ((by rw [hg];exact Nat.ne_of_gt (bN (g:=eV) (o:= .cells #[.slice bC aU.length bK,.slice bM aX.length bO,.int .i64 bA,.int .i64 bB,.slice bQ aQ.length bP] 26 (0,0)) (gB cD.out)):fF≠eV));clear iF;clear cD;clear HB;have iF:=bY;have cD:=bZ;have HB:=cA;have dI:=cC;have GW120:=cQ;have Kz:=dA;have jN:=dH;have nA:=eG;clear bY bZ cA cC cQ dA dH eG;clear hb hbox hg;obtain⟨xR,xS,MY⟩:=Kd.R_slice iF.out;subst MY;have hnb11:=nA.out;have hnc11:=jN.out;have kU:w9.cell? ⟨fF,0,none⟩=some (.slice none 0 0):=(aG dI.out 0).trans rfl;have kV:w9.cell? ⟨fF,1,none⟩=some (.bool false):=(aG dI.out 1).trans rfl;have kW:=aH dI.out 0;have kX:=aH dI.out 1))
 have bY:Aside0 (Kd.R k43 43 ((w9.setCell ⟨fF,0,none⟩ (.slice xR t116.length xS)).setCell ⟨fF,1,none⟩ (.bool t119)) w.heap.size (fun _=>True) (.slice xR t116.length xS) t116):=⟨by(with_reducible repeat(first|apply aA|apply aB|apply aC));exact Kd.R_mono (aE (p:=⟨fF,1,none⟩) (aE (p:=⟨fF,0,none⟩) (Kd.R_types iF.out dI.out (by decide)) (fun _ hk=>hk.2) (.slice xR t116.length xS)) (fun _ hk=>hk.2) (.bool t119)) (fun _ hk=>trivial)⟩
 have bZ:Aside0 (((w9.setCell ⟨fF,0,none⟩ (.slice xR t116.length xS)).setCell ⟨fF,1,none⟩ (.bool t119)).heap[eV]?=some (.cells #[.slice bC aU.length bK,.slice bM aX.length bO,.int .i64 bA,.int .i64 bB,.slice bQ aQ.length bP] 26 (0,0))):=⟨by(with_reducible repeat(first|refine aJ ?_ _|refine aK ?_|refine aI ?_ _));refine blk_far ?_ jN.out _;(with_reducible repeat(first|refine aJ ?_ _|refine aK ?_|refine aI ?_ _));refine blk_far ?_ jN.out _;(with_reducible repeat(first|refine aJ ?_ _|refine aK ?_|refine aI ?_ _));exact cD.out⟩
 have cA:Aside0 (((w9.setCell ⟨fF,0,none⟩ (.slice xR t116.length xS)).setCell ⟨fF,1,none⟩ (.bool t119)).heap[fF]?=some (.cells #[.slice xR t116.length xS,.bool t119] 31 (0,0))):=⟨by(with_reducible repeat(first|refine aJ ?_ _|refine aK ?_|refine aI ?_ _));refine blk_put (cs:=#[.slice xR t116.length xS,.bool false]) ?_ 1 _ rfl;(with_reducible repeat(first|refine aJ ?_ _|refine aK ?_|refine aI ?_ _));refine blk_put (cs:=#[.slice none 0 0,.bool false]) ?_ 0 _ rfl;(with_reducible repeat(first|refine aJ ?_ _|refine aK ?_|refine aI ?_ _));exact dI.out⟩
 have cC:Aside0 (Below w.heap.size w ((w9.setCell ⟨fF,0,none⟩ (.slice xR t116.length xS)).setCell ⟨fF,1,none⟩ (.bool t119))):=⟨by repeat(first|(with_reducible first|exact HB.out|apply aN|apply aP|apply aO|refine aL ?_ Ky.out|refine aL ?_ Kz.out)|exact HB.out)⟩
 (try clear iF);(try clear cD);(try clear dI);(try clear HB)
 generalize ((w9.setCell ⟨fF,0,none⟩ (.slice xR t116.length xS)).setCell ⟨fF,1,none⟩ (.bool t119))=w13 at bY bZ cA cC ⊢
 have iF:=bY
 have cD:=bZ
 have dI:=cA
 have HB:=cC
 clear bY bZ cA cC
 have bY:=aM (aC iF.out)
 have bZ:=aM (aK cD.out)
 have cA:=aM (aK dI.out)
 have cC:=aM (aO HB.out)
 clear iF
 clear cD
 clear dI
 clear HB
 have iF:=bY
 have cD:=bZ
 have dI:=cA
 have HB:=cC
 clear bY bZ cA cC
 refine start_ (n:=9) (S:=fun w'=>w'.cell? ⟨eV,0,none⟩=some (.slice bC aU.length bK)∧w'.cell? ⟨eV,1,none⟩=some (.slice bM aX.length bO)∧w'.cell? ⟨eV,2,none⟩=some (.int .i64 bA)∧w'.cell? ⟨eV,3,none⟩=some (.int .i64 bB)∧w'.cell? ⟨eV,4,none⟩=some (.slice bQ aQ.length bP)) (ds:= []) #[F,F,F,F,F,F,F,F,F] (by kernel_rfl) rfl rfl ⟨(aG cD.out 0).trans rfl,(aG cD.out 1).trans rfl,(aG cD.out 2).trans rfl,(aG cD.out 3).trans rfl,(aG cD.out 4).trans rfl⟩ (fun hHeld=>?_);refine with_tabW machine_Run.tab2 machine_Run.bits2 (fun HT_ HW_=>?_)
 generalize w13.drew=w14 at iF cD dI HB hHeld ⊢
 refine pure_ (i:=0) (N:=some 16) (v:=?_) (a':=?_) #[T,F,F,F,F,F,F,F,F] rfl rfl (any_of HT_.out (by kernel_rfl)) (fun _ _ _ h=>h) (Or.inl ⟨by rfl,?_⟩) ?_ ?_
 rotate_left;(intro w';go_simp;with_reducible rfl);rotate_left;(simp only [pq];rfl)
 refine pure_ (i:=2) (N:=some 18) (v:=?_) (a':=?_) #[T,F,T,F,F,F,F,F,F] rfl rfl (any_of HT_.out (by kernel_rfl)) (fun _ _ _ h=>h) (Or.inl ⟨by rfl,?_⟩) ?_ ?_
 rotate_left;(intro w';go_simp;with_reducible rfl);rotate_left;(simp only [pq];rfl)
 refine pure_ (i:=8) (N:=some 24) (v:=?_) (a':=?_) #[T,F,T,F,F,F,F,F,T] rfl rfl (any_of HT_.out (by kernel_rfl)) (fun _ _ _ h=>h) (Or.inl ⟨by rfl,?_⟩) ?_ ?_
 rotate_left;(intro w';go_simp;with_reducible rfl);rotate_left;(simp only [pq];rfl)
 refine take_ (i:=3) (N:=some 19) (v:=?_) (a':=?_) #[T,F,T,T,F,F,F,F,T] rfl rfl (take_ofW HT_.out HW_.out (by kernel_rfl)) (fun _ _ _ h=>h) (Or.inl ⟨by rfl,?_⟩) hHeld ?_ ?_
 rotate_left
 ·rintro w' ⟨s0,s1,s2,s3,s4⟩
  go_simp
  with_reducible rfl
 rotate_left
 ·simp only [pq]
  rfl
 refine pure_ (i:=4) (N:=some 20) (v:=?_) (a':=?_) #[T,F,T,T,T,F,F,F,T] rfl rfl (any_of HT_.out (by kernel_rfl)) (fun _ _ _ h=>h) (Or.inl ⟨by rfl,?_⟩) ?_ ?_
 rotate_left;(intro w';go_simp;with_reducible rfl);rotate_left;(simp only [pq];rfl)
 refine join_ (σ:=Value×Value) 2 #[T,T,T,T,T,T,F,F,T] (fun s_=> [(17,s_.1),(21,s_.2)]) (fun s_ w'=>(w'.cell? ⟨eV,0,none⟩=some (.slice bC aU.length bK)∧w'.cell? ⟨eV,1,none⟩=some (.slice bM aX.length bO)∧w'.cell? ⟨eV,2,none⟩=some (.int .i64 bA)∧w'.cell? ⟨eV,3,none⟩=some (.int .i64 bB)∧w'.cell? ⟨eV,4,none⟩=some (.slice bQ aQ.length bP))∧(Kd.R k43 43 w' w.heap.size (fun _=>True) (.slice xR t116.length xS) t116)∧(Kd.R (Kd.int .i64) 3 w' w.heap.size (fun k_=>some k_≠(s_.2:Value).ownBlock) s_.1 t121)∧(Kd.R (Kd.int .i64) 3 w' w.heap.size (fun k_=>some k_≠(s_.1:Value).ownBlock) s_.2 y124)∧(w'.heap[eV]?=some (.cells #[.slice bC aU.length bK,.slice bM aX.length bO,.int .i64 bA,.int .i64 bB,.slice bQ aQ.length bP] 26 (0,0)))∧(w'.heap[fF]?=some (.cells #[.slice xR t116.length xS,.bool t119] 31 (0,0)))∧(Below w.heap.size w w')) ?_ ?_
 rotate_left
 ·intro hCont
  refine two_ (i:=1) (j:=5) (Ni:=some 17) (Nj:=some 21) #[T,T,T,T,T,F,F,F,T] #[T,F,T,T,T,T,F,F,T] rfl rfl rfl rfl (two_of HT_.out (by kernel_rfl)) (by decide) (by decide) (fun K hK=>?_) (fun K hK=>?_)
  ·skip
   refine goes_ Try.func34 (by kernel_rfl) rfl #[.slice A2 l2.length c2] (by rfl) rfl rfl (by(try simp only [List.map_toArray,List.map_cons,List.map_nil]);first|done|rfl|(simp only [List.length_drop,List.length_take];rfl)) ?_
   with_reducible refine(slices_Clone_int_int.calls _ _ l2 t121 _ ?side1 ?side2 A5.out).mono ?_
   (case side1=>exact gC (bD HR2.out HB.out))
   (case side2=>exact HC2.out)
   rintro e w15 ⟨v122,rfl,ho0,hb⟩
   refine⟨_,rfl,?_⟩
   have bY:=aM (aD (gR iF.out) hb)
   have bZ:=aM (bL ho0 (bH (gW HB.out)))
   have cA:=aM (bF (gB cD.out) hb)
   have cC:=aM (bF (gB dI.out) hb)
   have cQ:=aM (bG (gW HB.out) hb)
   clear iF
   clear cD
   clear dI
   clear HB
   have iF:=bY
   have pB:=bZ
   have cD:=cA
   have dI:=cC
   have HB:=cQ
   clear bY bZ cA cC cQ
   (try clear hb);(try clear hb2);(try clear hk);(try clear hi);(try clear ho0)
   refine hK.out _ _ ⟨(aG cD.out 0).trans rfl,(aG cD.out 1).trans rfl,(aG cD.out 2).trans rfl,(aG cD.out 3).trans rfl,(aG cD.out 4).trans rfl⟩ (fun hHeld=>?_)
   clear hK K
   refine norm_ (a':=?_) ?_ ?_
   rotate_left
   ·show Act.put _ (some 17) _=_
    simp only [pq]
    rfl
   refine one_ (i:=5) (N:=some 21) #[T,T,T,T,T,T,F,F,T] rfl rfl (one_of HT_.out (by kernel_rfl)) (by decide) (fun K hK=>?_)
   refine Kd.R_lit_step (Kd.int .i64) _ 3 ?hg (N:=21) ?hd (xs:=([(aX.length:Int)]:List Int)) (inner:= [.int .i64 (aX.length:Int)]) (ok:=fun _=>True) (okp:=fun _=>True) ?hr ?hp (fun _ hk=>hk) trivial (Below.refl _ _) (Nat.le_refl _) (by simp) ?_;(case hd=>rfl);(case hg=>rfl);(case hr=>first|(go_simp;done)|(go_simp;rfl));(case hp=>exact(Reps.one (show Kd.M (Kd.int .i64) _ _ _ (aX.length:Int) [.int .i64 (aX.length:Int)] from rfl) (Reps.none _ _)))
   intro v125 w16 ho17 hb hg_ hnew_
   clear hg_ hnew_
   (first|rw [←Kx.out] at ho17|(simp only [Int.reduceToNat] at ho17;rw [←Kx.out] at ho17))
   have bY:=aM (aD (gR iF.out) hb)
   have bZ:=aM (bE (gR pB.out) (Kd.R_base ho17) hb)
   have cA:=aM (bL (Kd.R_new' ho17 (Kd.R_lt (gR pB.out))) (bH (gW HB.out)))
   have cC:=aM (bF (gB cD.out) hb)
   have cQ:=aM (bF (gB dI.out) hb)
   have dA:=aM (bG (gW HB.out) hb)
   clear iF
   clear pB
   clear cD
   clear dI
   clear HB
   have iF:=bY
   have pB:=bZ
   have oJ:=cA
   have cD:=cC
   have dI:=cQ
   have HB:=dA
   clear bY bZ cA cC cQ dA
   clear hb ho17
   refine hK.out _ _ ⟨(aG cD.out 0).trans rfl,(aG cD.out 1).trans rfl,(aG cD.out 2).trans rfl,(aG cD.out 3).trans rfl,(aG cD.out 4).trans rfl⟩ (fun hHeld=>?_)
   clear hK K
   refine norm_ (a':=?_) ?_ ?_
   rotate_left
   ·show Act.put _ (some 21) _=_
    simp only [pq]
    rfl
   exact norm_ (by simp only [putAll,Act.put,List.setIfInBounds_toArray,List.set_cons_zero,List.set_cons_succ]) (hCont (v122,v125) _ ⟨hHeld,(gR iF.out),(by(with_reducible repeat(first|apply aA|apply aB|apply aC));exact Kd.R_mono pB.out (fun _ hk=>hk.2)),(by(with_reducible repeat(first|apply aA|apply aB|apply aC));exact Kd.R_mono oJ.out (fun _ hk=>hk.2)),(gB cD.out),(gB dI.out),(gW HB.out)⟩)
  ·skip
   refine Kd.R_lit_step (Kd.int .i64) _ 3 ?hg (N:=21) ?hd (xs:=([(aX.length:Int)]:List Int)) (inner:= [.int .i64 (aX.length:Int)]) (ok:=fun _=>True) (okp:=fun _=>True) ?hr ?hp (fun _ hk=>hk) trivial (Below.refl _ _) (Nat.le_refl _) (by simp) ?_;(case hd=>rfl);(case hg=>rfl);(case hr=>first|(go_simp;done)|(go_simp;rfl));(case hp=>exact(Reps.one (show Kd.M (Kd.int .i64) _ _ _ (aX.length:Int) [.int .i64 (aX.length:Int)] from rfl) (Reps.none _ _)))
   intro v125 w15 ho16 hb hg_ hnew_
   clear hg_ hnew_
   (first|rw [←Kx.out] at ho16|(simp only [Int.reduceToNat] at ho16;rw [←Kx.out] at ho16))
   have bY:=aM (aD (gR iF.out) hb)
   have bZ:=aM (bL ho16 (bH (gW HB.out)))
   have cA:=aM (bF (gB cD.out) hb)
   have cC:=aM (bF (gB dI.out) hb)
   have cQ:=aM (bG (gW HB.out) hb)
   clear iF
   clear cD
   clear dI
   clear HB
   have iF:=bY
   have oJ:=bZ
   have cD:=cA
   have dI:=cC
   have HB:=cQ
   clear bY bZ cA cC cQ
   clear hb ho16
   refine hK.out _ _ ⟨(aG cD.out 0).trans rfl,(aG cD.out 1).trans rfl,(aG cD.out 2).trans rfl,(aG cD.out 3).trans rfl,(aG cD.out 4).trans rfl⟩ (fun hHeld=>?_)
   clear hK K
   refine norm_ (a':=?_) ?_ ?_
   rotate_left
   ·show Act.put _ (some 21) _=_
    simp only [pq]
    rfl
   refine one_ (i:=1) (N:=some 17) #[T,T,T,T,T,T,F,F,T] rfl rfl (one_of HT_.out (by kernel_rfl)) (by decide) (fun K hK=>?_)
   refine goes_ Try.func34 (by kernel_rfl) rfl #[.slice A2 l2.length c2] (by rfl) rfl rfl (by(try simp only [List.map_toArray,List.map_cons,List.map_nil]);first|done|rfl|(simp only [List.length_drop,List.length_take];rfl)) ?_
   with_reducible refine(slices_Clone_int_int.calls _ _ l2 t121 _ ?side1 ?side2 A5.out).mono ?_
   (case side1=>exact gC (bD HR2.out HB.out))
   (case side2=>exact HC2.out)
   rintro e w17 ⟨v122,rfl,ho0,hb⟩
   refine⟨_,rfl,?_⟩
   have bY:=aM (aD (gR iF.out) hb)
   have bZ:=aM (bE (gR oJ.out) (Kd.R_base ho0) hb)
   have cA:=aM (bL (Kd.R_new' ho0 (Kd.R_lt (gR oJ.out))) (bH (gW HB.out)))
   have cC:=aM (bF (gB cD.out) hb)
   have cQ:=aM (bF (gB dI.out) hb)
   have dA:=aM (bG (gW HB.out) hb)
   clear iF
   clear oJ
   clear cD
   clear dI
   clear HB
   have iF:=bY
   have oJ:=bZ
   have pB:=cA
   have cD:=cC
   have dI:=cQ
   have HB:=dA
   clear bY bZ cA cC cQ dA
   (try clear hb);(try clear hb2);(try clear hk);(try clear hi);(try clear ho0)
   refine hK.out _ _ ⟨(aG cD.out 0).trans rfl,(aG cD.out 1).trans rfl,(aG cD.out 2).trans rfl,(aG cD.out 3).trans rfl,(aG cD.out 4).trans rfl⟩ (fun hHeld=>?_)
   clear hK K
   refine norm_ (a':=?_) ?_ ?_
   rotate_left
   ·show Act.put _ (some 17) _=_
    simp only [pq]
    rfl
   exact norm_ (by simp only [putAll,Act.put,List.setIfInBounds_toArray,List.set_cons_zero,List.set_cons_succ]) (hCont (v122,v125) _ ⟨hHeld,(gR iF.out),(by(with_reducible repeat(first|apply aA|apply aB|apply aC));exact Kd.R_mono pB.out (fun _ hk=>hk.2)),(by(with_reducible repeat(first|apply aA|apply aB|apply aC));exact Kd.R_mono oJ.out (fun _ hk=>hk.2)),(gB cD.out),(gB dI.out),(gW HB.out)⟩)
 rintro⟨v122,v125⟩ w18 ⟨hS_,h0_,h1_,h2_,h3_,h4_,h5_⟩
 have bY:Aside0 (Kd.R k43 43 w18 w.heap.size (fun _=>True) (.slice xR t116.length xS) t116):=⟨h0_⟩
 have bZ:Aside0 (Kd.R (Kd.int .i64) 3 w18 w.heap.size (fun k_=>some k_≠(v125:Value).ownBlock) v122 t121):=⟨h1_⟩
 have cA:Aside0 (Kd.R (Kd.int .i64) 3 w18 w.heap.size (fun k_=>some k_≠(v122:Value).ownBlock) v125 y124):=⟨h2_⟩
 have cC:Aside0 (w18.heap[eV]?=some (.cells #[.slice bC aU.length bK,.slice bM aX.length bO,.int .i64 bA,.int .i64 bB,.slice bQ aQ.length bP] 26 (0,0))):=⟨h3_⟩
 have cQ:Aside0 (w18.heap[fF]?=some (.cells #[.slice xR t116.length xS,.bool t119] 31 (0,0))):=⟨h4_⟩
 have dA:Aside0 (Below w.heap.size w w18):=⟨h5_⟩
 clear iF
 clear cD
 clear dI
 clear HB
 clear h0_ h1_ h2_ h3_ h4_ h5_
 have iF:=bY
 have pB:=bZ
 have oJ:=cA
 have cD:=cC
 have dI:=cQ
 have HB:=dA
 clear bY bZ cA cC cQ dA
 have hHeld:w18.cell? ⟨eV,0,none⟩=some (.slice bC aU.length bK)∧w18.cell? ⟨eV,1,none⟩=some (.slice bM aX.length bO)∧w18.cell? ⟨eV,2,none⟩=some (.int .i64 bA)∧w18.cell? ⟨eV,3,none⟩=some (.int .i64 bB)∧w18.cell? ⟨eV,4,none⟩=some (.slice bQ aQ.length bP):=hS_
 obtain⟨BO,Xh,Se⟩:=Kd.R_slice oJ.out
 (first|subst Se|(injection Se with f1_ f2_ f3_;have f4_:=f1_.symm;have f5_:=f3_.symm;clear f1_ f2_ f3_;subst f4_;subst f5_))
 refine norm_ (a':=?_) ?_ ?_
 rotate_left
 ·simp only [putAll,Act.put,List.setIfInBounds_toArray,List.set_cons_zero,List.set_cons_succ]
  rfl
 refine one_ (i:=6) (N:=some 22) #[T,T,T,T,T,T,T,F,T] rfl rfl (one_of HT_.out (by kernel_rfl)) (by decide) (fun K hK=>?_)
 refine Kd.R_append_rows_step (Kd.int .i64) (w0:=w) w.heap.size (by rfl) (.tmp 17) (.tmp 21) 32 3 (.int .i64 0) 8 rfl Try.underlying32 info3 rfl (by decide) (by omega) v122 t121 y124 _ _ _ (fun k_=>some k_≠(.slice BO y124.length Xh:Value).ownBlock) (fun _=>False) rfl rfl ?aO ?aR (fun _ _ h=>h) (fun _ h=>h.elim) ?aF ?aB ?aS ?aL ?_
 (case aR=>exact gC (aF oJ.out).2.2)
 (case aB=>exact(gW HB.out))
 (case aF=>exact(fun k_ hk=>Kd.fresh' (Kd.R_lt (gR oJ.out)) k_ hk))
 (case aO=>exact(gR pB.out))
 (case aS=>exact(bH (gW HB.out)))
 (case aL=>have:=Wp.out;omega)
 intro v128 w19 ho hb hg hat
 rw [←FD.out] at ho
 have bY:=aM (blk_grown (gB cD.out) hg (Kd.R_ne pB.out cD.out (by decide)))
 have bZ:=aM (Kd.R_over' (gR iF.out) (Kd.R_typed (gR pB.out)) (by decide) hg)
 have cA:=aM (blk_grown (gB dI.out) hg (Kd.R_ne pB.out dI.out (by decide)))
 have cC:=aM (Kd.R_after (ok:=(fun _=>True)) (by(with_reducible repeat(first|apply aA|apply aB|apply aC));exact Kd.R_mono oJ.out (fun _ hk=>⟨trivial,hk⟩)) hg hat)
 have cQ:=aM (hb)
 have dA:=aM (ho)
 clear cD
 clear iF
 clear dI
 clear oJ
 clear HB
 clear pB
 have cD:=bY
 have iF:=bZ
 have dI:=cA
 have oJ:=cC
 have HB:=cQ
 have Vp:=dA
 clear bY bZ cA cC cQ dA
 clear ho hb hg hat
 obtain⟨tF,nH,Ts⟩:=Kd.R_slice Vp.out
 (first|subst Ts|(injection Ts with f1_ f2_ f3_;have f4_:=f1_.symm;have f5_:=f3_.symm;clear f1_ f2_ f3_;subst f4_;subst f5_))
 refine hK.out _ _ ⟨(aG cD.out 0).trans rfl,(aG cD.out 1).trans rfl,(aG cD.out 2).trans rfl,(aG cD.out 3).trans rfl,(aG cD.out 4).trans rfl⟩ (fun hHeld=>?_)
 clear hK K
 refine norm_ (a':=?_) ?_ ?_
 rotate_left
 ·show Act.put _ (some 22) _=_
  simp only [pq]
  rfl
 refine pure_ (i:=7) (N:=some 23) (v:=?_) (a':=?_) #[T,T,T,T,T,T,T,T,T] rfl rfl (any_of HT_.out (by kernel_rfl)) (fun _ _ _ h=>h) (Or.inl ⟨by rfl,?_⟩) ?_ ?_
 rotate_left;(intro w';go_simp;with_reducible rfl);rotate_left;(simp only [pq];rfl)
 refine done_ (done_of HT_.out (by kernel_rfl)) ?_
 try go_wp2
 go_loopg [6,24] k (fun kq v6 v24 w'=>∃(bV:List Int) (hU:Int) (fG:List (S43)) (fH:Bool) (u121000:Value),v24= .int .i64 hU∧Aside0 (machine_Run.l0 kq l1 l2 bV y127 (y127.length:Int) hU aU aX bA bB aQ fG fH=some (r1,r2,r3))∧Aside0 (kq≤k)∧Aside0 (Kd.R (Kd.int .i64) 3 w' w.heap.size (fun k_=>some k_≠((.slice tF y127.length nH):Value).ownBlock) v6 bV)∧Aside0 (Kd.R (Kd.int .i64) 3 w' w.heap.size (fun k_=>some k_≠(v6:Value).ownBlock) (.slice tF y127.length nH) y127)∧Aside0 (Kd.R k43 43 w' w.heap.size (fun _=>True) u121000 fG)∧Aside0 (w'.heap[eV]?=some (.cells #[(.slice bC aU.length bK),(.slice bM aX.length bO),.int .i64 bA,.int .i64 bB,(.slice bQ aQ.length bP)] 26 (0,0)))∧Aside0 (w'.heap[fF]?=some (.cells #[u121000,.bool fH] 31 (0,0)))∧Aside0 (Below w.heap.size w w'))
 case atStart=>exact⟨(([]:List Int)),(0),(t116),(t119),(.slice xR t116.length xS),(by first|rfl|(simp;done)|(simp [*];done)),H',⟨Nat.le_refl _⟩,⟨by first|exact Kd.R_nil _ _ _ _ _|exact Kd.N_nil _ _ _ _ _|exact Kd.V_nil _ _ _ _ _|exact Kd.Q_nil _ _ _ _ _|exact Kd.S_nil _ _ _ _ _⟩,⟨by(with_reducible repeat(first|apply aA|apply aB|apply aC));exact Kd.R_mono Vp.out (fun _ hk=>(by simp [Value.ownBlock]))⟩,⟨gR iF.out⟩,⟨gB cD.out⟩,⟨gB dI.out⟩,⟨gW HB.out⟩⟩
 case round=>
  clear H'
  (try clear c1);(try clear c2);(try clear p2);(try clear c3);(try clear c6);(try clear c11);(try clear c17);(try clear kU);(try clear kV);(try clear kW);(try clear kX)
  obtain⟨bV,hU,fG,fH,u121000,rfl,HA,HK1,kQ,iL,dK,cD,dI,HB⟩:=hrel
  cases gk with
  |zero=>exact absurd HA.out (by simp [machine_Run.l0])
  |succ k1=>
   have H:=HA.out
   clear HA
   simp only [machine_Run.l0] at H
   by_cases c22:hU<(y127.length:Int)
   ·rw [if_pos c22] at H
    have Bt:decide (hU<(y127.length:Int))=true:=decide_eq_true c22
    clear c22
    by_cases c23:0≤hU
    rotate_left
    ·rw [if_neg c23] at H
     exact absurd H (by simp)
    rw [if_pos c23] at H
    have Mq:decide (0≤hU)=true:=decide_eq_true c23
    clear c23
    by_cases c24:hU<(y127.length:Int)
    rotate_left
    ·rw [if_neg c24] at H
     exact absurd H (by simp)
    rw [if_pos c24] at H
    have Mc:decide (hU<(y127.length:Int))=true:=decide_eq_true c24
    clear c24
    have HC25:=aM H
    clear H
    have p130:0≤(hU:Int):=of_decide_eq_true (by first|(with_reducible assumption)|assumption)
    have q130:hU<(y127.length:Int):=of_decide_eq_true (by first|(with_reducible assumption)|assumption)
    obtain⟨Bj,e130,Tt⟩:=Kd.at_int (aF iL.out).2.2 hU p130 q130
    cases e130
    replace p130:=eq_true p130
    replace q130:=eq_true q130
    go_upto_region 5 with(fail)
    go_cut [39] (fun v39 wc=>∃(kq:Nat) (Ek:Bool),v39= .bool Ek∧Aside0 (machine_Run.j1 kq l1 l2 bV hU (rd y127 hU) y127 (y127.length:Int) hU Ek aU aX bA bB aQ fG fH=some (r1,r2,r3))∧Aside0 (kq≤k1)∧Aside0 (Kd.R (Kd.int .i64) 3 wc w.heap.size (fun k_=>some k_≠((.slice (some Bj) y127.length nH):Value).ownBlock) u6 bV)∧Aside0 (Kd.R (Kd.int .i64) 3 wc w.heap.size (fun k_=>some k_≠(u6:Value).ownBlock) (.slice (some Bj) y127.length nH) y127)∧Aside0 (Kd.R k43 43 wc w.heap.size (fun _=>True) u121000 fG)∧Aside0 (wc.heap[eV]?=some (.cells #[(.slice bC aU.length bK),(.slice bM aX.length bO),.int .i64 bA,.int .i64 bB,(.slice bQ aQ.length bP)] 26 (0,0)))∧Aside0 (wc.heap[fF]?=some (.cells #[u121000,.bool fH] 31 (0,0)))∧Aside0 (Below w.heap.size w wc))
    case first=>
     have H:=HC25.out
     clear HC25
     by_cases c26:hU<(l2.length:Int)
     ·rw [if_pos c26] at H
      have uN:decide (hU<(l2.length:Int))=true:=decide_eq_true c26
      clear c26
      (first|rw [uN]|(simp only [i64_w,i32_w];rw [uN])|skip)
      have H':=aM H
      clear H
      have hnb27:=jN.out
      have hnc27:=nA.out
      have pZ:wr.cell? ⟨eV,0,none⟩=some (.slice bC aU.length bK):=(aG cD.out 0).trans rfl
      have qA:wr.cell? ⟨eV,1,none⟩=some (.slice bM aX.length bO):=(aG cD.out 1).trans rfl
      have Ce:wr.cell? ⟨eV,2,none⟩=some (.int .i64 bA):=(aG cD.out 2).trans rfl
      have Cf:wr.cell? ⟨eV,3,none⟩=some (.int .i64 bB):=(aG cD.out 3).trans rfl
      have Cg:wr.cell? ⟨eV,4,none⟩=some (.slice bQ aQ.length bP):=(aG cD.out 4).trans rfl
      have qB:=aH cD.out 0
      have qC:=aH cD.out 1
      have Ch:=aH cD.out 2
      have Ci:=aH cD.out 3
      have Cj:=aH cD.out 4
      go_wp2
      go_meet
      case rel=>exact⟨_,(((rd y127 hU)==(aX.length:Int))),(by first|rfl|(simp;done)|(simp [*];done)),H',⟨by have:=HK1.out;first|omega|exact Nat.le_refl _⟩,⟨gR kQ.out⟩,⟨gR iL.out⟩,⟨gR dK.out⟩,⟨gB cD.out⟩,⟨gB dI.out⟩,⟨gW HB.out⟩⟩
     ·rw [if_neg c26] at H
      have uN:decide (hU<(l2.length:Int))=false:=decide_eq_false c26
      clear c26
      (first|rw [uN]|(simp only [i64_w,i32_w];rw [uN])|skip)
      have H':=aM H
      clear H
      go_wp2
      go_meet
      case rel=>exact⟨_,(false),(by first|rfl|(simp;done)|(simp [*];done)),H',⟨by have:=HK1.out;first|omega|exact Nat.le_refl _⟩,⟨gR kQ.out⟩,⟨gR iL.out⟩,⟨gR dK.out⟩,⟨gB cD.out⟩,⟨gB dI.out⟩,⟨gW HB.out⟩⟩
    case rest=>
     clear HC25
     (try clear c1);(try clear p1);(try clear q1);(try clear hx1);(try clear c2);(try clear p2);(try clear c3);(try clear c6);(try clear c11);(try clear p13);(try clear q13);(try clear hx13);(try clear c17);(try clear c22);(try clear Bt);(try clear c23);(try clear Mq);(try clear c24);(try clear Mc);(try clear c26);(try clear uN);(try clear c27);(try clear kU);(try clear kV);(try clear pZ)
     (try clear qA);(try clear Ce);(try clear Cf);(try clear Cg);(try clear kW);(try clear kX);(try clear qB);(try clear qC);(try clear Ch);(try clear Ci);(try clear Cj);(try clear Tt);(try clear p130);(try clear p2);(try clear q130)
     obtain⟨kq,Ek,rfl,HA,HJ24,kQ,iL,dK,cD,dI,HB⟩:=hcut
     cases kq with
     |zero=>exact absurd HA.out (by simp [machine_Run.j1])
     |succ Tu=>
      have H:=HA.out
      clear HA
      simp only [machine_Run.j1] at H
      by_cases c29:Ek=true
      ·subst c29
       have H1:(some (([]:List Int),1,hU))=some (r1,r2,r3):=by rw [if_pos rfl] at H;exact H
       clear H
       have H:=H1
       clear H1
       simp only [Option.some.injEq,Prod.mk.injEq] at H
       obtain⟨rfl,rfl,rfl⟩:=H
       go_wp2
       go_ret3
       exact⟨_,by first|rfl|(simp [errW_none,errW_some]<;>rfl)|(simp [*,errW_none,errW_some]<;>rfl),by first|exact Kd.R_nil _ _ _ _ _|exact Kd.N_nil _ _ _ _ _|exact Kd.V_nil _ _ _ _ _|exact Kd.Q_nil _ _ _ _ _|exact Kd.S_nil _ _ _ _ _,gW HB.out⟩
      ·replace c29:=Bool.eq_false_iff.mpr c29
       subst c29
       have H1:((machine_Feed.f aU aX bA bB aQ l1 fG fH (rd y127 hU)).bind fun pA=>(if pA.2.2.2=0 then(if bV.length+pA.2.2.1.length<17592186044416 then(machine_Run.l0 Tu l1 l2 (bV++pA.2.2.1) y127 (y127.length:Int) (wrap64 (hU+1)) aU aX bA bB aQ pA.1 pA.2.1) else(none)) else(some (([]:List Int),pA.2.2.2,hU))))=some (r1,r2,r3):=by rw [if_neg (show ¬(false=true) by decide)] at H;exact H
       clear H
       have H:=H1
       clear H1
       replace H:=Option.bind_eq_some_iff.mp H
       obtain⟨⟨t131,t134,t135,t138⟩,A300,H⟩:=H
       replace H:(if t138=0 then(if bV.length+t135.length<17592186044416 then(machine_Run.l0 Tu l1 l2 (bV++t135) y127 (y127.length:Int) (wrap64 (hU+1)) aU aX bA bB aQ t131 t134) else(none)) else(some (([]:List Int),t138,hU)))=some (r1,r2,r3):=H
       have A30:=aM A300
       clear A300
       by_cases c31:t138=0
       ·rw [if_pos c31] at H
        have Ms:(t138==0)=true:=beq_iff_eq.mpr c31
        have Mt:(t138 !=0)=false:=bne_eq_false_iff_eq.mpr c31
        clear c31
        by_cases c32:bV.length+t135.length<17592186044416
        rotate_left
        ·rw [if_neg c32] at H
         exact absurd H (by simp)
        rw [if_pos c32] at H
        have FE:=aM c32
        clear c32
        obtain⟨y140,Gk⟩:∃y_:List Int,y_=(bV++t135):=⟨_,rfl⟩
        replace H:(machine_Run.l0 Tu l1 l2 y140 y127 (y127.length:Int) (wrap64 (hU+1)) aU aX bA bB aQ t131 t134)=some (r1,r2,r3):=by first|(rw [Gk];with_reducible exact H)|(have H2_:=(Option.bind_some _ _).symm.trans H;rw [Gk];with_reducible exact H2_)|(have H2_:=(Option.bind_some _ _).symm.trans H;with_reducible exact H2_)|with_reducible exact H|(rw [Gk];exact H)|exact H
        have FF:=aM Gk
        clear Gk
        have H':=aM H
        clear H
        have hnb33:=jN.out
        have hnc33:=nA.out
        have qE:wc.cell? ⟨eV,0,none⟩=some (.slice bC aU.length bK):=(aG cD.out 0).trans rfl
        have qF:wc.cell? ⟨eV,1,none⟩=some (.slice bM aX.length bO):=(aG cD.out 1).trans rfl
        have vY:wc.cell? ⟨eV,2,none⟩=some (.int .i64 bA):=(aG cD.out 2).trans rfl
        have vZ:wc.cell? ⟨eV,3,none⟩=some (.int .i64 bB):=(aG cD.out 3).trans rfl
        have wA:wc.cell? ⟨eV,4,none⟩=some (.slice bQ aQ.length bP):=(aG cD.out 4).trans rfl
        have qG:=aH cD.out 0
        have qH:=aH cD.out 1
        have wB:=aH cD.out 2
        have wC:=aH cD.out 3
        have wD:=aH cD.out 4
        have sM:wc.cell? ⟨fF,0,none⟩=some (u121000):=(aG dI.out 0).trans rfl
        have sN:wc.cell? ⟨fF,1,none⟩=some (.bool fH):=(aG dI.out 1).trans rfl
        have sO:=aH dI.out 0
        have sP:=aH dI.out 1
        obtain⟨yD,xT,Of⟩:=Kd.R_slice dK.out
        subst Of
        try go_wp2_with (first|((with_reducible refine bI (f:=23) rfl ?_);refine goesL_ (some 46) rfl rfl Try.func23 (by kernel_rfl) rfl #[.agg #[.slice bC aU.length bK,.slice bM aX.length bO,.int .i64 bA,.int .i64 bB,.slice bQ aQ.length bP],.slice A1 l1.length c1,.agg #[.slice yD fG.length xT,.bool fH],.int .i64 (rd y127 hU)] rfl (by(try simp only [List.map_toArray,List.map_cons,List.map_nil]);first|done|rfl|(simp only [List.length_drop,List.length_take];rfl)) ?_;(with_reducible refine(machine_Feed.calls _ _ aU _ _ aX bA bB _ _ aQ _ _ l1 _ _ fG fH (rd y127 hU) t131 t134 t135 t138 _ ?side1 ?side2 ?side3 ?side4 ?side5 ?side6 ?side7 ?side8 ?side9 ?side10 A30.out).mono ?_);(case side1=>exact gC (bD eS.out HB.out));(case side2=>exact eU.out);(case side3=>exact gC (bD eX.out HB.out));(case side4=>exact eY.out);(case side5=>exact gC (bD dW.out HB.out));(case side6=>exact eZ.out);(case side7=>exact gC (bD HR1.out HB.out));(case side8=>exact HC1.out);(case side9=>exact gC (aF dK.out).2.2);(case side10=>exact(aF dK.out).2.1);rintro e w37 ⟨v132,v136,rfl,ho0,ho1,hb⟩;refine⟨_,rfl,?_⟩;have bY:=aM (bE (gR kQ.out) (Kd.R_base ho1) hb);have bZ:=aM (bE (gR iL.out) (Kd.R_base ho1) hb);have cA:=aM (bE (gR dK.out) (Kd.R_base ho0) hb);have cC:=aM (bL (Kd.R_new' ho0 (Kd.R_lt (gR dK.out))) (bH (gW HB.out)));have cQ:=aM (bL (Kd.R_new' (Kd.R_new' ho1 (Kd.R_lt (gR kQ.out))) (Kd.R_lt (gR iL.out))) (bH (gW HB.out)));have dA:=aM (bF (gB cD.out) hb);have dH:=aM (bF (gB dI.out) hb);have eG:=aM (bG (gW HB.out) hb);clear kQ;clear iL;clear dK;clear cD;clear dI;clear HB;have kQ:=bY;have iL:=bZ;have dK:=cA;have lA:=cC;have lB:=cQ;have cD:=dA;have dI:=dH;have HB:=eG;clear bY bZ cA cC cQ dA dH eG;(try clear hb);(try clear hb2);(try clear hk);(try clear hi);(try clear ho0);(try clear ho1))|((with_reducible refine bJ (N:=12) rfl ?_);(try(refine gate_guard (by rfl) ?_;dsimp only));refine box_event ?hg (N:=12) ?hd (cs:=#[.slice none 0 0,.bool false]) (t:=31) ?hr ?_;(case hd=>rfl);(case hg=>rfl);(case hr=>first|(go_simp;done)|(go_simp;rfl));intro eW hg w38 hbox hb;have bY:=aM (aD (gR kQ.out) hb);have bZ:=aM (aD (gR iL.out) hb);have cA:=aM (aD (gR dK.out) hb);have cC:=aM (aD (gR lA.out) hb);have cQ:=aM (aD (gR lB.out) hb);have dA:=aM (bF (gB cD.out) hb);have dH:=aM (bF (gB dI.out) hb);have eG:=aM (bG (gW HB.out) hb);have fK:=aM (hbox);have hF:=aM ((by rw [hg];exact(bH (gW HB.out)):w.heap.size≤eW));have eH:=aM ((by rw [hg];exact(bH (gW HB.out)):w.heap.size≤eW));have eR:=aM ((by rw [hg];exact Nat.ne_of_lt (bN (g:=eV) (o:= .cells #[.slice bC aU.length bK,.slice bM aX.length bO,.int .i64 bA,.int .i64 bB,.slice bQ aQ.length bP] 26 (0,0)) (gB cD.out)):eV≠eW));have fJ:=aM ((by rw [hg];exact Nat.ne_of_gt (bN (g:=eV) (o:= .cells #[.slice bC aU.length bK,.slice bM aX.length bO,.int .i64 bA,.int .i64 bB,.slice bQ aQ.length bP] 26 (0,0)) (gB cD.out)):eW≠eV));have fQ:=aM ((by rw [hg];exact Nat.ne_of_lt (bN (g:=fF) (o:= .cells #[.slice yD fG.length xT,.bool fH] 31 (0,0)) (gB dI.out)):fF≠eW));have iQ:=aM ((by rw [hg];exact Nat.ne_of_gt (bN (g:=fF) (o:= .cells #[.slice yD fG.length xT,.bool fH] 31 (0,0)) (gB dI.out)):eW≠fF));clear kQ;clear iL;clear dK;clear lA;clear lB;clear cD;clear dI;clear HB;have kQ:=bY;have iL:=bZ;have dK:=cA;have lA:=cC;have lB:=cQ;have cD:=dA;have dI:=dH;have HB:=eG;have iT:=fK;have GW139:=hF;have La:=eH;have pC:=eR;have yE:=fJ;have mB:=fQ;have kJ:=iQ;clear bY bZ cA cC cQ dA dH eG fK hF eH eR fJ fQ iQ;clear hb hbox hg;obtain⟨mG,mH,MZ⟩:=Kd.R_slice lA.out;subst MZ;have hnb40:=yE.out;have hnc40:=pC.out;have hnb41:=kJ.out;have hnc41:=mB.out;have Ir:w38.cell? ⟨eW,0,none⟩=some (.slice none 0 0):=(aG iT.out 0).trans rfl;have Is:w38.cell? ⟨eW,1,none⟩=some (.bool false):=(aG iT.out 1).trans rfl;have It:=aH iT.out 0;have Iu:=aH iT.out 1))
        have bY:Aside0 (Kd.R (Kd.int .i64) 3 ((w38.setCell ⟨eW,0,none⟩ (.slice mG t131.length mH)).setCell ⟨eW,1,none⟩ (.bool t134)) w.heap.size (fun k_=>some k_≠(.slice (some Bj) y127.length nH:Value).ownBlock∧some k_≠(v136:Value).ownBlock) u6 bV):=⟨by(with_reducible repeat(first|apply aA|apply aB|apply aC));exact Kd.R_mono (aE (p:=⟨eW,1,none⟩) (aE (p:=⟨eW,0,none⟩) (Kd.R_types kQ.out iT.out (by decide)) (fun _ hk=>hk.2) (.slice mG t131.length mH)) (fun _ hk=>hk.2) (.bool t134)) (fun _ hk=>⟨hk.1.1,hk.1.2⟩)⟩
        have bZ:Aside0 (Kd.R (Kd.int .i64) 3 ((w38.setCell ⟨eW,0,none⟩ (.slice mG t131.length mH)).setCell ⟨eW,1,none⟩ (.bool t134)) w.heap.size (fun k_=>some k_≠(u6:Value).ownBlock∧some k_≠(v136:Value).ownBlock) (.slice (some Bj) y127.length nH) y127):=⟨by(with_reducible repeat(first|apply aA|apply aB|apply aC));exact Kd.R_mono (aE (p:=⟨eW,1,none⟩) (aE (p:=⟨eW,0,none⟩) (Kd.R_types iL.out iT.out (by decide)) (fun _ hk=>hk.2) (.slice mG t131.length mH)) (fun _ hk=>hk.2) (.bool t134)) (fun _ hk=>⟨hk.1.1,hk.1.2⟩)⟩
        have cA:Aside0 (Kd.R k43 43 ((w38.setCell ⟨eW,0,none⟩ (.slice mG t131.length mH)).setCell ⟨eW,1,none⟩ (.bool t134)) w.heap.size (fun k_=>some k_≠(.slice mG t131.length mH:Value).ownBlock) (.slice yD fG.length xT) fG):=⟨by(with_reducible repeat(first|apply aA|apply aB|apply aC));exact Kd.R_mono (aE (p:=⟨eW,1,none⟩) (aE (p:=⟨eW,0,none⟩) (Kd.R_types dK.out iT.out (by decide)) (fun _ hk=>hk.2) (.slice mG t131.length mH)) (fun _ hk=>hk.2) (.bool t134)) (fun _ hk=>hk.1.2)⟩
        have cC:Aside0 (Kd.R k43 43 ((w38.setCell ⟨eW,0,none⟩ (.slice mG t131.length mH)).setCell ⟨eW,1,none⟩ (.bool t134)) w.heap.size (fun k_=>some k_≠(.slice yD fG.length xT:Value).ownBlock) (.slice mG t131.length mH) t131):=⟨by(with_reducible repeat(first|apply aA|apply aB|apply aC));exact Kd.R_mono (aE (p:=⟨eW,1,none⟩) (aE (p:=⟨eW,0,none⟩) (Kd.R_types lA.out iT.out (by decide)) (fun _ hk=>hk.2) (.slice mG t131.length mH)) (fun _ hk=>hk.2) (.bool t134)) (fun _ hk=>hk.1.2)⟩
        have cQ:Aside0 (Kd.R (Kd.int .i64) 3 ((w38.setCell ⟨eW,0,none⟩ (.slice mG t131.length mH)).setCell ⟨eW,1,none⟩ (.bool t134)) w.heap.size (fun k_=>some k_≠(u6:Value).ownBlock∧some k_≠(.slice (some Bj) y127.length nH:Value).ownBlock) v136 t135):=⟨by(with_reducible repeat(first|apply aA|apply aB|apply aC));exact Kd.R_mono (aE (p:=⟨eW,1,none⟩) (aE (p:=⟨eW,0,none⟩) (Kd.R_types lB.out iT.out (by decide)) (fun _ hk=>hk.2) (.slice mG t131.length mH)) (fun _ hk=>hk.2) (.bool t134)) (fun _ hk=>⟨hk.1.1.2,hk.1.2⟩)⟩
        have dA:Aside0 (((w38.setCell ⟨eW,0,none⟩ (.slice mG t131.length mH)).setCell ⟨eW,1,none⟩ (.bool t134)).heap[eV]?=some (.cells #[.slice bC aU.length bK,.slice bM aX.length bO,.int .i64 bA,.int .i64 bB,.slice bQ aQ.length bP] 26 (0,0))):=⟨by(with_reducible repeat(first|refine aJ ?_ _|refine aK ?_|refine aI ?_ _));refine blk_far ?_ pC.out _;(with_reducible repeat(first|refine aJ ?_ _|refine aK ?_|refine aI ?_ _));refine blk_far ?_ pC.out _;(with_reducible repeat(first|refine aJ ?_ _|refine aK ?_|refine aI ?_ _));exact cD.out⟩
        have dH:Aside0 (((w38.setCell ⟨eW,0,none⟩ (.slice mG t131.length mH)).setCell ⟨eW,1,none⟩ (.bool t134)).heap[fF]?=some (.cells #[.slice yD fG.length xT,.bool fH] 31 (0,0))):=⟨by(with_reducible repeat(first|refine aJ ?_ _|refine aK ?_|refine aI ?_ _));refine blk_far ?_ mB.out _;(with_reducible repeat(first|refine aJ ?_ _|refine aK ?_|refine aI ?_ _));refine blk_far ?_ mB.out _;(with_reducible repeat(first|refine aJ ?_ _|refine aK ?_|refine aI ?_ _));exact dI.out⟩
        have eG:Aside0 (((w38.setCell ⟨eW,0,none⟩ (.slice mG t131.length mH)).setCell ⟨eW,1,none⟩ (.bool t134)).heap[eW]?=some (.cells #[.slice mG t131.length mH,.bool t134] 31 (0,0))):=⟨by(with_reducible repeat(first|refine aJ ?_ _|refine aK ?_|refine aI ?_ _));refine blk_put (cs:=#[.slice mG t131.length mH,.bool false]) ?_ 1 _ rfl;(with_reducible repeat(first|refine aJ ?_ _|refine aK ?_|refine aI ?_ _));refine blk_put (cs:=#[.slice none 0 0,.bool false]) ?_ 0 _ rfl;(with_reducible repeat(first|refine aJ ?_ _|refine aK ?_|refine aI ?_ _));exact iT.out⟩
        have fK:Aside0 (Below w.heap.size w ((w38.setCell ⟨eW,0,none⟩ (.slice mG t131.length mH)).setCell ⟨eW,1,none⟩ (.bool t134))):=⟨by repeat(first|(with_reducible first|exact HB.out|apply aN|apply aP|apply aO|refine aL ?_ Ky.out|refine aL ?_ Kz.out|refine aL ?_ La.out)|exact HB.out)⟩
        (try clear kQ);(try clear iL);(try clear dK);(try clear lA);(try clear lB);(try clear cD);(try clear dI);(try clear iT);(try clear HB)
        generalize ((w38.setCell ⟨eW,0,none⟩ (.slice mG t131.length mH)).setCell ⟨eW,1,none⟩ (.bool t134))=w43 at bY bZ cA cC cQ dA dH eG fK ⊢
        have kQ:=bY
        have iL:=bZ
        have dK:=cA
        have lA:=cC
        have lB:=cQ
        have cD:=dA
        have dI:=dH
        have iT:=eG
        have HB:=fK
        clear bY bZ cA cC cQ dA dH eG fK
        have bY:=aM (aC kQ.out)
        have bZ:=aM (aC iL.out)
        have cA:=aM (aC dK.out)
        have cC:=aM (aC lA.out)
        have cQ:=aM (aC lB.out)
        have dA:=aM (aK cD.out)
        have dH:=aM (aK dI.out)
        have eG:=aM (aK iT.out)
        have fK:=aM (aO HB.out)
        clear kQ
        clear iL
        clear dK
        clear lA
        clear lB
        clear cD
        clear dI
        clear iT
        clear HB
        have kQ:=bY
        have iL:=bZ
        have dK:=cA
        have lA:=cC
        have lB:=cQ
        have cD:=dA
        have dI:=dH
        have iT:=eG
        have HB:=fK
        clear bY bZ cA cC cQ dA dH eG fK
        obtain⟨Xa,Qf,Qg⟩:=Kd.R_slice lB.out
        (first|subst Qg|(injection Qg with f1_ f2_ f3_;have f4_:=f1_.symm;have f5_:=f3_.symm;clear f1_ f2_ f3_;subst f4_;subst f5_))
        refine start_ (n:=6) (S:=fun w'=>w'.cell? ⟨eW,0,none⟩=some (.slice mG t131.length mH)∧w'.cell? ⟨eW,1,none⟩=some (.bool t134)) (ds:= []) #[false,false,false,false,false,false] (by kernel_rfl) rfl rfl ⟨(aG iT.out 0).trans rfl,(aG iT.out 1).trans rfl⟩ (fun hHeld=>?_)
        generalize w43.drew=w44 at kQ iL dK lA lB cD dI iT HB hHeld ⊢
        refine pure_ (i:=1) (N:=some 55) (v:=?_) (a':=?_) #[false,true,false,false,false,false] rfl rfl (by kernel_rfl) (fun _ _ _ h=>h) (Or.inl ⟨by rfl,?_⟩) ?_ ?_
        rotate_left;(intro w';go_simp;with_reducible rfl);rotate_left;(simp only [pq];rfl)
        refine pure_ (i:=2) (N:=some 56) (v:=?_) (a':=?_) #[false,true,true,false,false,false] rfl rfl (by kernel_rfl) (fun _ _ _ h=>h) (Or.inl ⟨by rfl,?_⟩) ?_ ?_
        rotate_left;(intro w';go_simp;with_reducible rfl);rotate_left;(simp only [pq];rfl)
        refine take_ (i:=0) (N:=some 54) (v:=?_) (a':=?_) #[true,true,true,false,false,false] rfl rfl (by kernel_rfl) (fun _ _ _ h=>h) (Or.inl ⟨by rfl,?_⟩) hHeld ?_ ?_
        rotate_left
        ·rintro w' ⟨s0,s1⟩
         go_simp
         with_reducible rfl
        rotate_left
        ·simp only [pq]
         rfl
        refine one_ (i:=3) (N:=some 57) #[true,true,true,true,false,false] rfl rfl (by kernel_rfl) (by decide) (fun K hK=>?_)
        refine Kd.R_append_rows_step (Kd.int .i64) (w0:=w) w.heap.size (by rfl) (.tmp 55) (.tmp 56) 32 3 (.int .i64 0) 8 rfl Try.underlying32 info3 rfl (by decide) (by omega) u6 bV t135 _ _ _ (fun k_=>some k_≠(.slice (some Bj) y127.length nH:Value).ownBlock∧some k_≠(.slice Xa t135.length Qf:Value).ownBlock) (fun _=>False) rfl rfl ?aO ?aR (fun _ _ h=>h) (fun _ h=>h.elim) ?aF ?aB ?aS ?aL ?_
        (case aR=>exact gC (aF lB.out).2.2)
        (case aB=>exact(gW HB.out))
        (case aF=>exact(fun k_ hk=>⟨Kd.fresh' (Kd.R_lt (gR iL.out)) k_ hk,Kd.fresh' (Kd.R_lt (gR lB.out)) k_ hk⟩))
        (case aO=>exact(gR kQ.out))
        (case aS=>exact(bH (gW HB.out)))
        (case aL=>have:=FE.out;omega)
        intro v141 w45 ho hb hg hat
        rw [←FF.out] at ho
        have bY:=aM (Kd.R_after (ok:=(fun k_=>some k_≠(.slice Xa t135.length Qf:Value).ownBlock)) (by(with_reducible repeat(first|apply aA|apply aB|apply aC));exact Kd.R_mono iL.out (fun _ hk=>⟨hk.2,hk.1⟩)) hg hat)
        have bZ:=aM (Kd.R_over' (gR dK.out) (Kd.R_typed (gR kQ.out)) (by decide) hg)
        have cA:=aM (blk_grown (gB cD.out) hg (Kd.R_ne kQ.out cD.out (by decide)))
        have cC:=aM (blk_grown (gB dI.out) hg (Kd.R_ne kQ.out dI.out (by decide)))
        have cQ:=aM (Kd.R_over' (gR lA.out) (Kd.R_typed (gR kQ.out)) (by decide) hg)
        have dA:=aM (Kd.R_after (ok:=(fun k_=>some k_≠(.slice (some Bj) y127.length nH:Value).ownBlock)) (by(with_reducible repeat(first|apply aA|apply aB|apply aC));exact Kd.R_mono lB.out (fun _ hk=>⟨hk.2,hk.1⟩)) hg hat)
        have dH:=aM (blk_grown (gB iT.out) hg (Kd.R_ne kQ.out iT.out (by decide)))
        have eG:=aM (hb)
        have fK:=aM (ho)
        clear iL
        clear dK
        clear cD
        clear dI
        clear lA
        clear lB
        clear iT
        clear HB
        clear kQ
        have iL:=bY
        have dK:=bZ
        have cD:=cA
        have dI:=cC
        have lA:=cQ
        have lB:=dA
        have iT:=dH
        have HB:=eG
        have FG:=fK
        clear bY bZ cA cC cQ dA dH eG fK
        clear ho hb hg hat
        refine hK.out _ _ ⟨(aG iT.out 0).trans rfl,(aG iT.out 1).trans rfl⟩ (fun hHeld=>?_)
        clear hK K
        refine norm_ (a':=?_) ?_ ?_
        rotate_left
        ·show Act.put _ (some 57) _=_
         simp only [pq]
         rfl
        refine one_ (i:=4) (N:=none) #[true,true,true,true,true,false] rfl rfl (by kernel_rfl) (by decide) (fun K hK=>?_)
        have hs47:w45.cell? ⟨fF,0,none⟩=some (.slice yD fG.length xT):=(aG dI.out 0).trans rfl
        have hfs47:=aH dI.out 0
        have hns47_0:=jN.out
        have hns47_2:=kJ.out
        have hms47_0:=nA.out
        have hms47_2:=mB.out
        have hs48:w45.cell? ⟨fF,1,none⟩=some (.bool fH):=(aG dI.out 1).trans rfl
        have hfs48:=aH dI.out 1
        have hns48_0:=jN.out
        have hns48_2:=kJ.out
        have hms48_0:=nA.out
        have hms48_2:=mB.out
        refine skip_ (w1:=?_) (by rfl) rfl ?_ ?_
        rotate_left
        ·go_simp
         rfl
        refine hK.out _ _ ⟨((cell_far (p:=⟨fF,_,none⟩) kJ.out _).trans (((cell_far (p:=⟨fF,_,none⟩) kJ.out _).trans (hHeld.1)))),((cell_far (p:=⟨fF,_,none⟩) kJ.out _).trans (((cell_far (p:=⟨fF,_,none⟩) kJ.out _).trans (hHeld.2))))⟩ (fun hHeld=>?_)
        clear hK K
        refine pure_ (i:=5) (N:=some 6) (v:=?_) (a':=?_) #[true,true,true,true,true,true] rfl rfl (by kernel_rfl) (fun _ _ _ h=>h) (Or.inl ⟨by rfl,?_⟩) ?_ ?_
        rotate_left;(intro w';go_simp;with_reducible rfl);rotate_left;(simp only [pq];rfl)
        refine done_ (by kernel_rfl) ?_
        try go_wp2
        go_roundg Tu
        case measure=>have:=HK1.out;have:=HJ24.out;omega
        case rel=>exact⟨(y140),(wrap64 (hU+1)),(t131),(t134),(.slice mG t131.length mH),(by first|rfl|(simp;done)|(simp [*];done)),H',⟨by have:=HK1.out;have:=HJ24.out;omega⟩,⟨by(with_reducible repeat(first|apply aA|apply aB|apply aC));exact Kd.R_mono (aE (p:=⟨fF,1,none⟩) (aE (p:=⟨fF,0,none⟩) (Kd.R_types FG.out dI.out (by decide)) (fun _ hk=>hk.2) (.slice mG t131.length mH)) (fun _ hk=>hk.2) (.bool t134)) (fun _ hk=>hk.1.1)⟩,⟨by(with_reducible repeat(first|apply aA|apply aB|apply aC));exact Kd.R_mono (aE (p:=⟨fF,1,none⟩) (aE (p:=⟨fF,0,none⟩) (Kd.R_types iL.out dI.out (by decide)) (fun _ hk=>hk.2) (.slice mG t131.length mH)) (fun _ hk=>hk.2) (.bool t134)) (fun _ hk=>hk.1.2)⟩,⟨by(with_reducible repeat(first|apply aA|apply aB|apply aC));exact Kd.R_mono (aE (p:=⟨fF,1,none⟩) (aE (p:=⟨fF,0,none⟩) (Kd.R_types lA.out dI.out (by decide)) (fun _ hk=>hk.2) (.slice mG t131.length mH)) (fun _ hk=>hk.2) (.bool t134)) (fun _ hk=>trivial)⟩,⟨by(with_reducible repeat(first|refine aJ ?_ _|refine aK ?_|refine aI ?_ _));refine blk_far ?_ jN.out _;(with_reducible repeat(first|refine aJ ?_ _|refine aK ?_|refine aI ?_ _));refine blk_far ?_ jN.out _;(with_reducible repeat(first|refine aJ ?_ _|refine aK ?_|refine aI ?_ _));exact cD.out⟩,⟨by(with_reducible repeat(first|refine aJ ?_ _|refine aK ?_|refine aI ?_ _));refine blk_put (cs:=#[.slice mG t131.length mH,.bool fH]) ?_ 1 _ rfl;(with_reducible repeat(first|refine aJ ?_ _|refine aK ?_|refine aI ?_ _));refine blk_put (cs:=#[.slice yD fG.length xT,.bool fH]) ?_ 0 _ rfl;(with_reducible repeat(first|refine aJ ?_ _|refine aK ?_|refine aI ?_ _));exact dI.out⟩,⟨by repeat(first|(with_reducible first|exact HB.out|apply aN|apply aP|apply aO|refine aL ?_ Ky.out|refine aL ?_ Kz.out|refine aL ?_ La.out)|exact HB.out)⟩⟩
       ·rw [if_neg c31] at H
        have Ms:(t138==0)=false:=beq_eq_false_iff_ne.mpr c31
        have Mt:(t138 !=0)=true:=bne_iff_ne.mpr c31
        simp only [Option.some.injEq,Prod.mk.injEq] at H
        obtain⟨rfl,rfl,rfl⟩:=H
        have hnb49:=jN.out
        have hnc49:=nA.out
        have zP:wc.cell? ⟨eV,0,none⟩=some (.slice bC aU.length bK):=(aG cD.out 0).trans rfl
        have zQ:wc.cell? ⟨eV,1,none⟩=some (.slice bM aX.length bO):=(aG cD.out 1).trans rfl
        have Qh:wc.cell? ⟨eV,2,none⟩=some (.int .i64 bA):=(aG cD.out 2).trans rfl
        have Qi:wc.cell? ⟨eV,3,none⟩=some (.int .i64 bB):=(aG cD.out 3).trans rfl
        have Qj:wc.cell? ⟨eV,4,none⟩=some (.slice bQ aQ.length bP):=(aG cD.out 4).trans rfl
        have zR:=aH cD.out 0
        have zS:=aH cD.out 1
        have Qk:=aH cD.out 2
        have Ql:=aH cD.out 3
        have Qm:=aH cD.out 4
        have Tv:wc.cell? ⟨fF,0,none⟩=some (u121000):=(aG dI.out 0).trans rfl
        have Tw:wc.cell? ⟨fF,1,none⟩=some (.bool fH):=(aG dI.out 1).trans rfl
        have Tx:=aH dI.out 0
        have Ty:=aH dI.out 1
        obtain⟨Yb,Yc,NA⟩:=Kd.R_slice dK.out
        subst NA
        go_wp2_with (first|((with_reducible refine bI (f:=23) rfl ?_);refine goesL_ (some 46) rfl rfl Try.func23 (by kernel_rfl) rfl #[.agg #[.slice bC aU.length bK,.slice bM aX.length bO,.int .i64 bA,.int .i64 bB,.slice bQ aQ.length bP],.slice A1 l1.length c1,.agg #[.slice Yb fG.length Yc,.bool fH],.int .i64 (rd y127 hU)] rfl (by(try simp only [List.map_toArray,List.map_cons,List.map_nil]);first|done|rfl|(simp only [List.length_drop,List.length_take];rfl)) ?_;(with_reducible refine(machine_Feed.calls _ _ aU _ _ aX bA bB _ _ aQ _ _ l1 _ _ fG fH (rd y127 hU) t131 t134 t135 t138 _ ?side1 ?side2 ?side3 ?side4 ?side5 ?side6 ?side7 ?side8 ?side9 ?side10 A30.out).mono ?_);(case side1=>exact gC (bD eS.out HB.out));(case side2=>exact eU.out);(case side3=>exact gC (bD eX.out HB.out));(case side4=>exact eY.out);(case side5=>exact gC (bD dW.out HB.out));(case side6=>exact eZ.out);(case side7=>exact gC (bD HR1.out HB.out));(case side8=>exact HC1.out);(case side9=>exact gC (aF dK.out).2.2);(case side10=>exact(aF dK.out).2.1);rintro e w53 ⟨v132,v136,rfl,ho0,ho1,hb⟩;refine⟨_,rfl,?_⟩;have bY:=aM (bE (gR kQ.out) (Kd.R_base ho1) hb);have bZ:=aM (bE (gR iL.out) (Kd.R_base ho1) hb);have cA:=aM (bE (gR dK.out) (Kd.R_base ho0) hb);have cC:=aM (bL (Kd.R_new' ho0 (Kd.R_lt (gR dK.out))) (bH (gW HB.out)));have cQ:=aM (bL (Kd.R_new' (Kd.R_new' ho1 (Kd.R_lt (gR kQ.out))) (Kd.R_lt (gR iL.out))) (bH (gW HB.out)));have dA:=aM (bF (gB cD.out) hb);have dH:=aM (bF (gB dI.out) hb);have eG:=aM (bG (gW HB.out) hb);clear kQ;clear iL;clear dK;clear cD;clear dI;clear HB;have kQ:=bY;have iL:=bZ;have dK:=cA;have lA:=cC;have lB:=cQ;have cD:=dA;have dI:=dH;have HB:=eG;clear bY bZ cA cC cQ dA dH eG;(try clear hb);(try clear hb2);(try clear hk);(try clear hi);(try clear ho0);(try clear ho1))|((with_reducible refine bJ (N:=12) rfl ?_);(try(refine gate_guard (by rfl) ?_;dsimp only));refine box_event ?hg (N:=12) ?hd (cs:=#[.slice none 0 0,.bool false]) (t:=31) ?hr ?_;(case hd=>rfl);(case hg=>rfl);(case hr=>first|(go_simp;done)|(go_simp;rfl));intro eW hg w54 hbox hb;have bY:=aM (aD (gR kQ.out) hb);have bZ:=aM (aD (gR iL.out) hb);have cA:=aM (aD (gR dK.out) hb);have cC:=aM (aD (gR lA.out) hb);have cQ:=aM (aD (gR lB.out) hb);have dA:=aM (bF (gB cD.out) hb);have dH:=aM (bF (gB dI.out) hb);have eG:=aM (bG (gW HB.out) hb);have fK:=aM (hbox);have hF:=aM ((by rw [hg];exact(bH (gW HB.out)):w.heap.size≤eW));have eH:=aM ((by rw [hg];exact(bH (gW HB.out)):w.heap.size≤eW));have eR:=aM ((by rw [hg];exact Nat.ne_of_lt (bN (g:=eV) (o:= .cells #[.slice bC aU.length bK,.slice bM aX.length bO,.int .i64 bA,.int .i64 bB,.slice bQ aQ.length bP] 26 (0,0)) (gB cD.out)):eV≠eW));have fJ:=aM ((by rw [hg];exact Nat.ne_of_gt (bN (g:=eV) (o:= .cells #[.slice bC aU.length bK,.slice bM aX.length bO,.int .i64 bA,.int .i64 bB,.slice bQ aQ.length bP] 26 (0,0)) (gB cD.out)):eW≠eV));have fQ:=aM ((by rw [hg];exact Nat.ne_of_lt (bN (g:=fF) (o:= .cells #[.slice Yb fG.length Yc,.bool fH] 31 (0,0)) (gB dI.out)):fF≠eW));have iQ:=aM ((by rw [hg];exact Nat.ne_of_gt (bN (g:=fF) (o:= .cells #[.slice Yb fG.length Yc,.bool fH] 31 (0,0)) (gB dI.out)):eW≠fF));clear kQ;clear iL;clear dK;clear lA;clear lB;clear cD;clear dI;clear HB;have kQ:=bY;have iL:=bZ;have dK:=cA;have lA:=cC;have lB:=cQ;have cD:=dA;have dI:=dH;have HB:=eG;have iT:=fK;have GW139:=hF;have La:=eH;have pC:=eR;have yE:=fJ;have mB:=fQ;have kJ:=iQ;clear bY bZ cA cC cQ dA dH eG fK hF eH eR fJ fQ iQ;clear hb hbox hg;obtain⟨QR,QS,NB⟩:=Kd.R_slice lA.out;subst NB;have hnb56:=yE.out;have hnc56:=pC.out;have hnb57:=kJ.out;have hnc57:=mB.out;have Ru:w54.cell? ⟨eW,0,none⟩=some (.slice none 0 0):=(aG iT.out 0).trans rfl;have Rv:w54.cell? ⟨eW,1,none⟩=some (.bool false):=(aG iT.out 1).trans rfl;have Rw:=aH iT.out 0;have Rx:=aH iT.out 1))
        go_ret3
        exact⟨_,by first|rfl|(simp [errW_none,errW_some]<;>rfl)|(simp [*,errW_none,errW_some]<;>rfl),by first|exact Kd.R_nil _ _ _ _ _|exact Kd.N_nil _ _ _ _ _|exact Kd.V_nil _ _ _ _ _|exact Kd.Q_nil _ _ _ _ _|exact Kd.S_nil _ _ _ _ _,by repeat(first|(with_reducible first|exact HB.out|apply aN|apply aP|apply aO|refine aL ?_ Ky.out|refine aL ?_ Kz.out|refine aL ?_ La.out)|exact HB.out)⟩
   ·rw [if_neg c22] at H
    have Bt:decide (hU<(y127.length:Int))=false:=decide_eq_false c22
    clear c22
    simp only [Option.some.injEq,Prod.mk.injEq] at H
    obtain⟨rfl,rfl,rfl⟩:=H
    go_wp2
    go_ret3
    exact⟨_,by first|rfl|(simp [errW_none,errW_some]<;>rfl)|(simp [*,errW_none,errW_some]<;>rfl),by(with_reducible repeat(first|apply aA|apply aB|apply aC));exact Kd.R_mono kQ.out (fun _ hk=>trivial),gW HB.out⟩
end Go.Proofs.Ytapjfnfengefpaa.P
end
