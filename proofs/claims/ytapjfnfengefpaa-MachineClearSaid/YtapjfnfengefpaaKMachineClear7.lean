/- Packed texts of this claim: the walks of the functions, and their plain laws; see the claim's last text. -/
import Derived.WalkMore
import Derived.Deep.AppendLies
import Derived.Deep.Cut
import Derived.Deep.CutRange
import Derived.Shelf.Abstract
import Derived.Test.YtapjfnfengefpaaKMachineClear6
section
namespace Go.Proofs.Ytapjfnfengefpaa.M
open Go.RowKit Go.Proofs.YtapjfnfengefpaaW.PrintWords Go.Proofs.YtapjfnfengefpaaW.PrintLast Go.Proofs.YtapjfnfengefpaaW.PrintMore Go.Proofs.Ytapjfnfengefpaa.P Go.Proofs.Ytapjfnfengefpaa.H
set_option linter.unusedVariables false
set_option linter.unusedSimpArgs false
def fol0 (nn nt:Nat):List (List Bool):=if 0<nn then(rows0 nn nt).set 0 ((none0 nt).set nt true) else []
theorem fol0_sh (nn nt:Nat):Sh nn nt (fol0 nn nt):=by
 unfold fol0
 split
 ·exact(rows0_sh nn nt).set 0 (by simp [none0_length])
 ·obtain rfl:nn=0:=by omega
  exact⟨rfl,fun r hr=>by simp at hr⟩
def fol (nn nt:Nat) (em:List Bool) (first:List (List Bool)) (ps:List Prod):List (List Bool):=gOut (fStep nt em first) ps (cfs (fol0 nn nt)) (fol0 nn nt)
theorem fol_sh {nn nt:Nat}(em:List Bool) {first:List (List Bool)}(hf:Sh nn nt first) {ps:List Prod}(hps:ps.all (okProd nn nt)=true):Sh nn nt (fol nn nt em first ps):=
 gOut_I (fStep_good em hf hps) _ _ (fol0_sh nn nt)
theorem refFollowIn_ev (l0:List ByteArray) (l1:List Tok) (a2 a3:Int) (l4:List Prod) {em:List Bool}(he:em.length=l0.length) (hnt:l1.length≤1000) {first:List (List Bool)}(hf:Sh l0.length l1.length first) {left:Int}(hl0:0≤left) (hl1:left<(l0.length:Int)):∀(ys:List Sym) (g:Bool) (out:List (List Bool)),ys.all (okSym l0.length l1.length)=true→ys.length≤1000000→Sh l0.length l1.length out→Ev (fun k=>rFollowIn k l0 l1 a2 a3 l4 first em left ys g out) (fIn l1.length em first left.toNat ys g out)
 | [],g,out,_,_,hs=>Ev.congr (fun k=>by rw [rFollowIn]) (Ev.some (by rw [fIn]))
 |y::ys,g,out,hok,h3,hs=>by
  simp only [List.all_cons,Bool.and_eq_true] at hok;simp only [List.length_cons] at h3;refine Ev.congr (fun k=>by rw [rFollowIn]) ?_
  unfold fIn
  cases hy:y.f0 with
  |true=>rw [if_pos rfl];exact Ev.pos rfl (refFollowIn_ev l0 l1 a2 a3 l4 he hnt hf hl0 hl1 ys g out hok.2 (by omega) hs)
  |false=>
   rw [if_neg (by simp)];have hb:=okSym_rule hok.1 hy;have hbl:=bg_length em hf ys _ hok.2 (none0_length l1.length);have hn:y.f1.toNat<l0.length:=by omega
   have hrow:=hs.get hn;have hs1:=hs.1;have hfl:=fAdd_length em hf hs (left:=left.toNat) (by omega) hok.2;obtain⟨h1a,_,_⟩:=row_step hs hn hfl;have hlr:=hs.get (i:=left.toNat) (by omega);refine Ev.neg (by simp) (Ev.bind (refBegins_ev l0 l1 a2 a3 l4 hf he hnt ys hok.2 (by omega)) ?_)
   refine Ev.bind (a:=fAdd l1.length em first left.toNat ys out) ?_ ?_
   ·refine Ev.congr (fun k=>by rw [rJoinFrom]) ?_
    unfold fAdd
    cases hem:(bg em first ys (none0 l1.length)).2 with
    |false=>exact Ev.neg (by simp) (Ev.some (by simp))
    |true=>
     refine Ev.pos rfl (Ev.pos hl0 (Ev.pos (by omega) ?_))
     exact Ev.bind (join_ev _ _ (by rw [hbl,hlr]) (by omega)) (Ev.some (by simp))
   ·refine Ev.bind (a:=(moreL (out.getD y.f1.toNat []) (fAdd l1.length em first left.toNat ys out),out.set y.f1.toNat (orL (out.getD y.f1.toNat []) (fAdd l1.length em first left.toNat ys out)))) ?_ ?_
    ·refine Ev.congr (fun k=>by rw [rJoinRow]) (Ev.pos hb.1 (Ev.pos (by omega) ?_))
     exact Ev.bind (join_ev _ _ (by rw [hrow,hfl]) (by omega)) (Ev.some rfl)
    ·refine Ev.val (refFollowIn_ev l0 l1 a2 a3 l4 he hnt hf hl0 hl1 ys _ _ hok.2 (by omega) h1a) ?_
     congr 1
     cases moreL (out.getD y.f1.toNat []) (fAdd l1.length em first left.toNat ys out)<;>rfl
theorem fIn_more (nt:Nat) (em:List Bool) (first:List (List Bool)) (left:Nat):∀(ys:List Sym) (g:Bool) (out:List (List Bool)),fIn nt em first left ys g out=((fIn nt em first left ys false out).1||g,(fIn nt em first left ys false out).2)
 | [],g,out=>by simp [fIn]
 |y::ys,g,out=>by
  unfold fIn
  split
  ·exact fIn_more nt em first left ys g out
  ·rw [fIn_more nt em first left ys (_||g),fIn_more nt em first left ys (_||false)]
   simp [Bool.or_assoc]
theorem refFollowPs_ev (l0:List ByteArray) (l1:List Tok) (a2 a3:Int) (l4:List Prod) {em:List Bool}(he:em.length=l0.length) (hnt:l1.length≤1000) {first:List (List Bool)}(hf:Sh l0.length l1.length first):∀(qs:List Prod) (g:Bool) (out:List (List Bool)),qs.all (okProd l0.length l1.length)=true→(∀p∈qs,p.f1.length≤1000000)→Sh l0.length l1.length out→Ev (fun k=>rFollowPs k l0 l1 a2 a3 l4 first em qs g out) (gIn (fStep l1.length em first) qs g out)
 | [],g,out,_,_,hs=>Ev.congr (fun k=>by rw [rFollowPs]) (Ev.some (by rw [gIn]))
 |p::qs,g,out,hok,h3,hs=>by
  simp only [List.all_cons,Bool.and_eq_true] at hok;have hl:=okProd_left hok.1;have hg:=fIn_good em hf (left:=p.f0.toNat) (by omega) p.f1 g out (okProd_right hok.1) hs;refine Ev.congr (fun k=>by rw [rFollowPs]) (Ev.bind (refFollowIn_ev l0 l1 a2 a3 l4 he hnt hf hl.1 hl.2 p.f1 g out (okProd_right hok.1) (h3 p List.mem_cons_self) hs) ?_)
  refine Ev.val (refFollowPs_ev l0 l1 a2 a3 l4 he hnt hf qs _ _ hok.2 (fun p hp=>h3 p (List.mem_cons_of_mem _ hp)) hg.1) ?_
  rw [gIn,fStep,fIn_more]
theorem refFollowOut_ev (l0:List ByteArray) (l1:List Tok) (a2 a3:Int) (l4:List Prod) (h:Small l4) {em:List Bool}(he:em.length=l0.length) (hnt:l1.length≤1000) {first:List (List Bool)}(hf:Sh l0.length l1.length first) (hok:l4.all (okProd l0.length l1.length)=true):∀(n:Nat) (out:List (List Bool)),Sh l0.length l1.length out→cfs out≤n→∃K,∀kk,K≤kk→∀k,K≤k→rFollowOut kk l0 l1 a2 a3 l4 first em k out true=some (gOut (fStep l1.length em first) l4 n out)
 |n,out,hs,hn=>by
  obtain⟨g1,g2,g3⟩:=gIn_good (fStep_good em hf hok) false out hs;obtain⟨K1,hK1⟩:=refFollowPs_ev l0 l1 a2 a3 l4 he hnt hf l4 false out hok h.2 hs;have hK1':∀k,K1≤k→rFollowPs k l0 l1 a2 a3 l4 first em l4 false out=some (gIn (fStep l1.length em first) l4 false out):=hK1
  cases hr:(gIn (fStep l1.length em first) l4 false out).1 with
  |false=>
   refine⟨K1+2,fun kk hkk k hk=>?_⟩
   obtain⟨k',rfl⟩:∃k',k=k'+2:=⟨k - 2,by omega⟩;rw [rFollowOut,if_pos rfl,hK1' kk (by omega)];simp only [Option.bind_some,hr];rw [rFollowOut,if_neg (by simp)]
   cases n<;>simp [gOut,hr]
  |true=>
   have hlt:=(g3 hr).resolve_left (by simp)
   cases n with
   |zero=>omega
   |succ n=>
    obtain⟨K2,hK2⟩:=refFollowOut_ev l0 l1 a2 a3 l4 h he hnt hf hok n _ g1 (by omega);refine⟨max K1 K2+1,fun kk hkk k hk=>?_⟩
    obtain⟨k',rfl⟩:∃k',k=k'+1:=⟨k - 1,by omega⟩;rw [rFollowOut,if_pos rfl,hK1' kk (by omega)];simp only [Option.bind_some,hr];rw [hK2 kk (by omega) k' (by omega),gOut,if_pos hr]
theorem Sh.small {nn nt:Nat}{m:List (List Bool)}(h:Sh nn nt m) (h1:nt≤1000):∀r∈m,r.length≤1000000:=fun r hr=>by rw [h.2 r hr];omega
section
variable (l0:List ByteArray) (l1:List Tok) (a2 a3:Int) (l4:List Prod)
def dFollow (nn nt:Nat) (ps:List Prod):List (List Int):=if ps.all (okProd nn nt)=true then idxs (fol nn nt (clo false nn ps) (fst nn nt (clo false nn ps) ps) ps) else []
def dOf (nn nt:Nat) (ps:List Prod) (l:List Sym):List Int×Bool:=if ps.all (okProd nn nt)=true∧nn≠0∧l.all (okSym nn nt)=true then
 (idx 0 (bg (clo false nn ps) (fst nn nt (clo false nn ps) ps) l (none0 nt)).1,(bg (clo false nn ps) (fst nn nt (clo false nn ps) ps) l (none0 nt)).2) else([],false)
variable (h:Small l4) (h0:l0.length≤1000000) (h1:l1.length≤1000)
include h h0 h1
theorem refFollow_ev:Ev (fun k=>regletref13_Follow.f k l0 l1 a2 a3 l4) (dFollow l0.length l1.length l4):=by
 refine Ev.congr (fun k=>by rw [regletref13_Follow.f,if_pos ⟨by have:=h.1;omega,by rw [List.all_eq_true];intro p hp;have:=h.2 p hp;exact decide_eq_true (by omega)⟩]) (Ev.bind (refRight_ev l0 l1 a2 a3 l4 h) ?_)
 unfold dFollow
 cases hr:l4.all (okProd l0.length l1.length) with
 |false=>exact Ev.neg (by simp) (Ev.some (by simp))
 |true=>
  have hs:=fst_sh l0.length l1.length (clo false l0.length l4) hr;have hs2:=fol_sh (clo false l0.length l4) hs hr;have he:=clo_length l0.length l1.length false hr;rw [if_pos rfl];refine Ev.pos rfl (Ev.bind (marks_ev l0 l1 a2 a3 l4 h0 (by omega)) (Ev.bind (refFirst_ev l0 l1 a2 a3 l4 h h0 h1 hr) (Ev.bind (Ev.val (refEmpty_ev l0 l1 a2 a3 l4 h h0) (if_pos hr)) (Ev.bind (a:=fol0 l0.length l1.length) ?_ (Ev.bind (a:=fol l0.length l1.length (clo false l0.length l4) (fst l0.length l1.length (clo false l0.length l4) l4) l4) ?_ (lists_ev _ (by have:=hs2.1;exact Nat.le_trans (Nat.le_of_eq this) h0) (hs2.small h1)))))))
  ·refine Ev.some' ?_
   unfold rFollow0 fol0
   by_cases hn:0<l0.length
   rotate_left
   ·rw [if_neg (by rw [(rows0_sh _ _).1];exact hn),if_neg hn]
    have:l0.length=0:=by omega
    rw [this];rfl
   have hrow:(rows0 l0.length l1.length).getD 0 []=none0 l1.length:=by
    obtain⟨n,hn'⟩:∃n,l0.length=n+1:=⟨l0.length - 1,by omega⟩;rw [hn',rows0,List.replicate_succ];rfl
   rw [if_pos (by rw [(rows0_sh _ _).1];exact hn),hrow,if_pos (by rw [none0_length];omega),if_pos hn]
  ·obtain⟨K,hK⟩:=refFollowOut_ev l0 l1 a2 a3 l4 h he h1 hs hr (cfs (fol0 l0.length l1.length)) (fol0 l0.length l1.length) (fol0_sh _ _) (Nat.le_refl _)
   exact⟨K,fun k hk=>hK k hk k hk⟩
theorem refOf_ev (l:List Sym) (hl:l.length≤1000000):Ev (fun k=>regletref13_Of.f k l0 l1 a2 a3 l4 l) (dOf l0.length l1.length l4 l):=by
 refine Ev.congr (fun k=>by rw [regletref13_Of.f]) (Ev.bind (refRight_ev l0 l1 a2 a3 l4 h) ?_)
 unfold dOf
 cases hr:l4.all (okProd l0.length l1.length) with
 |false=>exact Ev.neg (by simp) (Ev.some (by simp))
 |true=>
  refine Ev.pos rfl ?_
  by_cases hn:(l0.length:Int)=0
  ·exact Ev.pos hn (Ev.some (if_neg (fun hc=>hc.2.1 (Int.ofNat_eq_zero.1 hn))).symm)
  refine Ev.neg hn (Ev.bind (Ev.val (refRight_ev l0 l1 a2 a3 [⟨0,l⟩] ⟨by simp,by simpa using hl⟩) (s:=l.all (okSym l0.length l1.length)) ?_) ?_)
  ·simp [okProd];intro _;omega
  cases hs:l.all (okSym l0.length l1.length) with
  |false=>exact Ev.neg (by simp) (Ev.some (by simp))
  |true=>
   have hsh:=fst_sh l0.length l1.length (clo false l0.length l4) hr;have hb:=bg_length (clo false l0.length l4) hsh l _ hs (none0_length l1.length);refine Ev.pos rfl (Ev.bind (refFirst_ev l0 l1 a2 a3 l4 h h0 h1 hr) (Ev.bind (Ev.val (refEmpty_ev l0 l1 a2 a3 l4 h h0) (if_pos hr)) ?_))
   refine Ev.bind (refBegins_ev l0 l1 a2 a3 l4 hsh (clo_length l0.length l1.length false hr) h1 l hs hl) (Ev.bind (list_ev _ (by rw [hb];omega)) (Ev.some ?_))
   have hc:true=true∧l0.length≠0∧true=true:=⟨rfl,by omega,rfl⟩;rw [if_pos hc]
end
end Go.Proofs.Ytapjfnfengefpaa.M
end

section
namespace Go.Proofs.Ytapjfnfengefpaa.P
open Go.RowKit Go.Proofs.YtapjfnfengefpaaW.PrintWords Go.Proofs.YtapjfnfengefpaaW.PrintLast Go.Proofs.YtapjfnfengefpaaW.PrintMore Go.Proofs.Ytapjfnfengefpaa.R
set_option linter.unusedVariables false
set_option linter.unusedSimpArgs false
def prStep (b:List (List Bool)) (r look i:Nat) (p:S35) (st:Int×List (S78)):Int×List (S78):=
 if p.f0=(r:Int)∧(b.getD i []).getD look false=true then(if st.1<0 then((i:Int),st.2) else(st.1,st.2++ [⟨(r:Int),(look:Int),st.1,(i:Int)⟩])) else st
def prIn (b:List (List Bool)) (r look:Nat):Nat→List (S35)→Int×List (S78)→Int×List (S78)
 |_,[],st=>st
 |i,p::ps,st=>prIn b r look (i+1) ps (prStep b r look i p st)
theorem prStep_le (b:List (List Bool)) (r look i:Nat) (p:S35) (st:Int×List (S78)):st.2.length≤(prStep b r look i p st).2.length:=by
 unfold prStep;split
 ·split<;>simp
 ·exact Nat.le_refl _
theorem prIn_le (b:List (List Bool)) (r look:Nat):∀(ps:List (S35)) (i:Nat) (st:Int×List (S78)),st.2.length≤(prIn b r look i ps st).2.length
 | [],_,_=>Nat.le_refl _
 |p::ps,i,st=>Nat.le_trans (prStep_le b r look i p st) (prIn_le b r look ps (i+1) _)
theorem get_set {α:Type}{l:List α}{i:Nat}(x d:α) (h:i<l.length):(l.set i x).getD i d=x:=by
 rw [List.getD_eq_getElem?_getD,List.getElem?_set_self h];rfl
end Go.Proofs.Ytapjfnfengefpaa.P
end

section
namespace Go.Proofs.Ytapjfnfengefpaa.P
open Go.RowKit Go.Proofs.YtapjfnfengefpaaW.PrintWords Go.Proofs.YtapjfnfengefpaaW.PrintLast Go.Proofs.YtapjfnfengefpaaW.PrintMore
attribute [local go_sem] max2_int min2_int max_two min_two max_three min_three max_four min_four   -- for this text's walks alone
set_option linter.unusedVariables false
set_option linter.unusedSimpArgs false
mutual
def regletref14_Predict.l0:Nat→List (List Int)→List (List Int)→Int→List ByteArray→List (S72)→Int→Int→List (S35)→Option ((List (List Int))×(List (S78)))
 |0,_,_,_,_,_,_,_,_=>none
 |k+1,x4,x5,x6,x397000,x397001,x397002,x397003,x397004=>if x6<(x397004.length:Int) then(if 0≤x6 then((regletref13_Of.f k x397000 x397001 x397002 x397003 x397004 ((rd_T35 x397004 x6).f1)).bind fun Ms=>(if Ms.2=true then(if 0≤((rd_T35 x397004 x6).f0) then(if((rd_T35 x397004 x6).f0)<(x5.length:Int) then(if Ms.1.length+(rd_L5 x5 ((rd_T35 x397004 x6).f0)).length<17592186044416 then(if x4.length<5864062014805 then(regletref14_Predict.l0 k (x4++ [(Ms.1++(rd_L5 x5 ((rd_T35 x397004 x6).f0)))]) x5 (wrap64 (x6+1)) x397000 x397001 x397002 x397003 x397004) else(none)) else(none)) else(none)) else(none)) else(if x4.length<5864062014805 then(regletref14_Predict.l0 k (x4++ [Ms.1]) x5 (wrap64 (x6+1)) x397000 x397001 x397002 x397003 x397004) else(none)))) else(none)) else(regletref14_Predict.l1 k x4 ([]:List (List Int)) ([]:List (S78)) 0 x397000 x397001 x397002 x397003 x397004)
def regletref14_Predict.l1:Nat→List (List Int)→List (List Int)→List (S78)→Int→List ByteArray→List (S72)→Int→Int→List (S35)→Option ((List (List Int))×(List (S78)))
 |0,_,_,_,_,_,_,_,_,_=>none
 |k+1,x4,x9,x10,x11,x397000,x397001,x397002,x397003,x397004=>if x11<(x397000.length:Int) then(regletref14_Predict.l2 k x4 x9 x10 x11 ([]:List Int) 0 x397000 x397001 x397002 x397003 x397004) else(some (x9,x10))
def regletref14_Predict.l2:Nat→List (List Int)→List (List Int)→List (S78)→Int→List Int→Int→List ByteArray→List (S72)→Int→Int→List (S35)→Option ((List (List Int))×(List (S78)))
 |0,_,_,_,_,_,_,_,_,_,_,_=>none
 |k+1,x4,x9,x10,x11,x12,x13,x397000,x397001,x397002,x397003,x397004=>if x13≤(x397001.length:Int) then(regletref14_Predict.l3 k x4 x9 x10 x11 x12 x13 (-1) 0 x397000 x397001 x397002 x397003 x397004) else(if x9.length<5864062014805 then(regletref14_Predict.l1 k x4 (x9++ [x12]) x10 (wrap64 (x11+1)) x397000 x397001 x397002 x397003 x397004) else(none))
def regletref14_Predict.l3:Nat→List (List Int)→List (List Int)→List (S78)→Int→List Int→Int→Int→Int→List ByteArray→List (S72)→Int→Int→List (S35)→Option ((List (List Int))×(List (S78)))
 |0,_,_,_,_,_,_,_,_,_,_,_,_,_=>none
 |k+1,x4,x9,x10,x11,x12,x13,x14,x15,x397000,x397001,x397002,x397003,x397004=>if x15<(x397004.length:Int) then(if 0≤x15 then(if((rd_T35 x397004 x15).f0)=x11 then(if x15<(x4.length:Int) then((regletref14_has.f k (rd_L5 x4 x15) x13).bind fun t425=>(regletref14_Predict.j4 k x4 x9 x10 x11 x12 x13 x14 x15 (!t425) x397000 x397001 x397002 x397003 x397004)) else(none)) else(regletref14_Predict.j4 k x4 x9 x10 x11 x12 x13 x14 x15 true x397000 x397001 x397002 x397003 x397004)) else(none)) else(if x12.length<17592186044416 then(regletref14_Predict.l2 k x4 x9 x10 x11 (x12++ [x14]) (wrap64 (x13+1)) x397000 x397001 x397002 x397003 x397004) else(none))
def regletref14_Predict.j4:Nat→List (List Int)→List (List Int)→List (S78)→Int→List Int→Int→Int→Int→Bool→List ByteArray→List (S72)→Int→Int→List (S35)→Option ((List (List Int))×(List (S78)))
 |0,_,_,_,_,_,_,_,_,_,_,_,_,_,_=>none
 |k+1,x4,x9,x10,x11,x12,x13,x14,x15,x92,x397000,x397001,x397002,x397003,x397004=>if x92=true then(regletref14_Predict.l3 k x4 x9 x10 x11 x12 x13 x14 (wrap64 (x15+1)) x397000 x397001 x397002 x397003 x397004) else(if x14<0 then(regletref14_Predict.l3 k x4 x9 x10 x11 x12 x13 x15 (wrap64 (x15+1)) x397000 x397001 x397002 x397003 x397004) else(if x10.length<4398046511104 then(regletref14_Predict.l3 k x4 x9 (x10++ [(⟨x11,x13,x14,x15⟩:S78)]) x11 x12 x13 x14 (wrap64 (x15+1)) x397000 x397001 x397002 x397003 x397004) else(none)))
end
def regletref14_Predict.f (k:Nat) (aU:List ByteArray) (aX:List (S72)) (bA:Int) (bB:Int) (aQ:List (S35)):Option ((List (List Int))×(List (S78))):=(regletref13_Right.f k aU aX bA bB aQ).bind fun t397=>(if t397=true then((regletref13_Follow.f k aU aX bA bB aQ).bind fun t398=>(regletref14_Predict.l0 k ([]:List (List Int)) t398 0 aU aX bA bB aQ)) else(some (([]:List (List Int)),([]:List (S78)))))
def regletref14_Predict.T8:Bool×List (List Nat×List Nat):=(true,[([],[]),([],[]),([1],[1]),([],[]),([2,3],[2,3]),([4],[4]),([5],[5]),([0,6],[0,6]),([7],[7]),([8],[8]),([8],[8]),([9,7,0,1,2,3,4,5,6,7,8,9],[9]),([10,11,0,1,2,3,4,5,6,7,8,9,10,11],[10])])
def regletref14_Predict.B8:List Nat:= [0,0,2,0,14,30,62,127,255,511,511,1023,4095]
theorem regletref14_Predict.tab8:rtab .any (opsOf Try.f20 8)=regletref14_Predict.T8:=by kernel_rfl
theorem regletref14_Predict.bits8:waitsOk regletref14_Predict.T8.2 regletref14_Predict.B8=true:=by kernel_rfl
set_option maxHeartbeats 8000000 in
set_option maxRecDepth 100000 in
theorem regletref14_Predict.calls (k:Nat) (bM:Option Addr) (bO:Nat) (aU:List ByteArray) (bQ:Option Addr) (bR:Nat) (aX:List (S72)) (bA:Int) (bB:Int) (bV:Option Addr) (bS:Nat) (aQ:List (S35)) (r1:List (List Int)) (r2:List (S78)) (w:World) (dX:Kd.C Kd.string w bM aU.length aU) (eE:aU.length≤bO) (eF:Kd.C k72 w bQ aX.length aX) (eG:aX.length≤bR) (dZ:Kd.C k35 w bV aQ.length aQ) (eM:aQ.length≤bS) (h:regletref14_Predict.f k aU aX bA bB aQ=some (r1,r2)):
 Calls Try.prog 20 #[.agg #[.slice bM aU.length bO,.slice bQ aX.length bR,.int .i64 bA,.int .i64 bB,.slice bV aQ.length bS]] w fun e w'=>∃v0_ v1_:Value,e= .returned (.tuple #[v0_,v1_])∧Kd.S (Kd.slice 3 (Kd.int .i64)) 32 w' w.heap.size (fun _=>True) v0_ r1∧Kd.R k78 78 w' w.heap.size (fun _=>True) v1_ r2∧Below w.heap.size w w':=by
 have hu26:=Try.underlying26;have hu78:=Try.underlying78;have fN:=aM dX;have fS:=aM eE;clear dX eE;have gA:=aM eF;have gD:=aM eG;clear eF eG;have eJ:=aM dZ;have gE:=aM eM;clear dZ eM;have HB:=aM (Below.refl w.heap.size w);have H:((regletref13_Right.f k aU aX bA bB aQ).bind fun t397=>(if t397=true then((regletref13_Follow.f k aU aX bA bB aQ).bind fun t398=>(regletref14_Predict.l0 k ([]:List (List Int)) t398 0 aU aX bA bB aQ)) else(some (([]:List (List Int)),([]:List (S78))))))=some (r1,r2):=h;clear h;replace H:=Option.bind_eq_some_iff.mp H;obtain⟨t397,A20,H⟩:=H;replace H:(if t397=true then((regletref13_Follow.f k aU aX bA bB aQ).bind fun t398=>(regletref14_Predict.l0 k ([]:List (List Int)) t398 0 aU aX bA bB aQ)) else(some (([]:List (List Int)),([]:List (S78)))))=some (r1,r2):=H;have A2:=aM A20;clear A20
 by_cases c3:t397=true
 ·subst c3
  have H1:((regletref13_Follow.f k aU aX bA bB aQ).bind fun t398=>(regletref14_Predict.l0 k ([]:List (List Int)) t398 0 aU aX bA bB aQ))=some (r1,r2):=by rw [if_pos rfl] at H;exact H
  clear H;have H:=H1;clear H1;replace H:=Option.bind_eq_some_iff.mp H;obtain⟨t398,A40,H⟩:=H;replace H:(regletref14_Predict.l0 k ([]:List (List Int)) t398 0 aU aX bA bB aQ)=some (r1,r2):=H;have A4:=aM A40;clear A40;have H':=aM H;clear H;go_enter Try.func20,Try.ntmps20
  go_wp2_with (first|((with_reducible refine bJ (N:=1) rfl ?_);refine box_event ?hg (N:=1) ?hd (cs:=#[.slice bM aU.length bO,.slice bQ aX.length bR,.int .i64 bA,.int .i64 bB,.slice bV aQ.length bS]) (t:=26) ?hr ?_;(case hd=>rfl);(case hg=>rfl);(case hr=>first|(go_simp;done)|(go_simp;rfl));intro cZ hg w5 hbox hb;have cE:=aM (bG (gW HB.out) hb);have cF:=aM (hbox);have cH:=aM ((by rw [hg];exact(bH (gW HB.out)):w.heap.size≤cZ));have cM:=aM ((by rw [hg];exact(bH (gW HB.out)):w.heap.size≤cZ));clear HB;have HB:=cE;have bT:=cF;have GW396:=cH;have JI:=cM;clear cE cF cH cM;clear hb hbox hg;have sE:w5.cell? ⟨cZ,0,none⟩=some (.slice bM aU.length bO):=(aG bT.out 0).trans rfl;have sF:w5.cell? ⟨cZ,1,none⟩=some (.slice bQ aX.length bR):=(aG bT.out 1).trans rfl;have sG:w5.cell? ⟨cZ,2,none⟩=some (.int .i64 bA):=(aG bT.out 2).trans rfl;have sH:w5.cell? ⟨cZ,3,none⟩=some (.int .i64 bB):=(aG bT.out 3).trans rfl;have sI:w5.cell? ⟨cZ,4,none⟩=some (.slice bV aQ.length bS):=(aG bT.out 4).trans rfl;have sJ:=aH bT.out 0;have sK:=aH bT.out 1;have sL:=aH bT.out 2;have sM:=aH bT.out 3;have sN:=aH bT.out 4)|((with_reducible refine bI (f:=30) rfl ?_);refine goesL_ (some 17) rfl rfl Try.func30 (by kernel_rfl) rfl #[.agg #[.slice bM aU.length bO,.slice bQ aX.length bR,.int .i64 bA,.int .i64 bB,.slice bV aQ.length bS]] rfl (by(try simp only [List.map_toArray,List.map_cons,List.map_nil]);first|done|rfl|(simp only [List.length_drop,List.length_take];rfl)) ?_;(with_reducible refine(regletref13_Right.calls k _ _ aU _ _ aX bA bB _ _ aQ true _ ?side1 ?side2 ?side3 ?side4 ?side5 ?side6 A2.out).mono ?_);(case side1=>exact gC (bD fN.out HB.out));(case side2=>exact fS.out);(case side3=>exact gC (bD gA.out HB.out));(case side4=>exact gD.out);(case side5=>exact gC (bD eJ.out HB.out));(case side6=>exact gE.out);rintro e w7 ⟨rfl,hb⟩;refine⟨_,rfl,?_⟩;have cE:=aM (bF (gB bT.out) hb);have cF:=aM (bG (gW HB.out) hb);clear bT;clear HB;have bT:=cE;have HB:=cF;clear cE cF;(try clear hb);(try clear hb2);(try clear hk);(try clear hi);have jP:w7.cell? ⟨cZ,0,none⟩=some (.slice bM aU.length bO):=(aG bT.out 0).trans rfl;have jQ:w7.cell? ⟨cZ,1,none⟩=some (.slice bQ aX.length bR):=(aG bT.out 1).trans rfl;have lA:w7.cell? ⟨cZ,2,none⟩=some (.int .i64 bA):=(aG bT.out 2).trans rfl;have lB:w7.cell? ⟨cZ,3,none⟩=some (.int .i64 bB):=(aG bT.out 3).trans rfl;have lC:w7.cell? ⟨cZ,4,none⟩=some (.slice bV aQ.length bS):=(aG bT.out 4).trans rfl;have jR:=aH bT.out 0;have jS:=aH bT.out 1;have lD:=aH bT.out 2;have lE:=aH bT.out 3;have lF:=aH bT.out 4)|((with_reducible refine bI (f:=31) rfl ?_);refine goesL_ (some 20) rfl rfl Try.func31 (by kernel_rfl) rfl #[.agg #[.slice bM aU.length bO,.slice bQ aX.length bR,.int .i64 bA,.int .i64 bB,.slice bV aQ.length bS]] rfl (by(try simp only [List.map_toArray,List.map_cons,List.map_nil]);first|done|rfl|(simp only [List.length_drop,List.length_take];rfl)) ?_;(with_reducible refine(regletref13_Follow.calls k _ _ aU _ _ aX bA bB _ _ aQ t398 _ ?side1 ?side2 ?side3 ?side4 ?side5 ?side6 A4.out).mono ?_);(case side1=>exact gC (bD fN.out HB.out));(case side2=>exact fS.out);(case side3=>exact gC (bD gA.out HB.out));(case side4=>exact gD.out);(case side5=>exact gC (bD eJ.out HB.out));(case side6=>exact gE.out);rintro e w9 ⟨v399,rfl,ho0,hb⟩;refine⟨_,rfl,?_⟩;have cE:=aM (Kd.S_lower ho0 (bH (gW HB.out)));have cF:=aM (bF (gB bT.out) hb);have cH:=aM (bG (gW HB.out) hb);clear bT;clear HB;have JJ:=cE;have bT:=cF;have HB:=cH;clear cE cF cH;(try clear hb);(try clear hb2);(try clear hk);(try clear hi);(try clear ho0)))
  go_loopg [4,6] k (fun kq v4 v6 w'=>∃(cC:List (List Int)) (cB:Int),v6= .int .i64 cB∧Aside0 (regletref14_Predict.l0 kq cC t398 cB aU aX bA bB aQ=some (r1,r2))∧Aside0 (kq≤k)∧Aside0 (Kd.S (Kd.slice 3 (Kd.int .i64)) 32 w' w.heap.size (fun k_=>some k_≠(v399:Value).ownBlock) v4 cC)∧Aside0 (Kd.S (Kd.slice 3 (Kd.int .i64)) 32 w' w.heap.size (fun k_=>some k_≠(v4:Value).ownBlock) v399 t398)∧Aside0 (w'.heap[cZ]?=some (.cells #[(.slice bM aU.length bO),(.slice bQ aX.length bR),.int .i64 bA,.int .i64 bB,(.slice bV aQ.length bS)] 26 (0,0)))∧Aside0 (Below w.heap.size w w'))
  case atStart=>exact⟨(([]:List (List Int))),(0),(by first|rfl|(simp;done)|(simp [*];done)),H',⟨Nat.le_refl _⟩,⟨by first|exact Kd.S_nil _ _ _ _ _|exact Kd.N_nil _ _ _ _ _|exact Kd.V_nil _ _ _ _ _|exact Kd.Q_nil _ _ _ _ _|exact Kd.R_nil _ _ _ _ _⟩,⟨by(with_reducible repeat(first|apply Kd.S_alloc|apply aV|apply aW));exact Kd.S_mono JJ.out (fun _ hk=>(by simp [Value.ownBlock]))⟩,⟨gB bT.out⟩,⟨gW HB.out⟩⟩
  case round=>
   clear H'
   (try clear c2);(try clear p2);(try clear c3);(try clear sE);(try clear sF);(try clear sG);(try clear sH);(try clear sI);(try clear jP);(try clear jQ);(try clear lA);(try clear lB);(try clear lC);(try clear sJ);(try clear sK);(try clear sL);(try clear sM);(try clear sN);(try clear jR);(try clear jS);(try clear lD);(try clear lE)
   (try clear lF)
   obtain⟨cC,cB,rfl,HA,HK1,gM,eX,bT,HB⟩:=hrel
   cases gk with
   |zero=>exact absurd HA.out (by simp [regletref14_Predict.l0])
   |succ k1=>
    have H:=HA.out;clear HA;simp only [regletref14_Predict.l0] at H
    by_cases c10:cB<(aQ.length:Int)
    ·rw [if_pos c10] at H
     have pS:decide (cB<(aQ.length:Int))=true:=decide_eq_true c10;clear c10
     by_cases c11:0≤cB
     rotate_left
     ·rw [if_neg c11] at H
      exact absurd H (by simp)
     rw [if_pos c11] at H;have rZ:decide (0≤cB)=true:=decide_eq_true c11;clear c11;replace H:=Option.bind_eq_some_iff.mp H;obtain⟨⟨t402,t405⟩,A120,H⟩:=H;replace H:(if t405=true then(if 0≤((rd_T35 aQ cB).f0) then(if((rd_T35 aQ cB).f0)<(t398.length:Int) then(if t402.length+(rd_L5 t398 ((rd_T35 aQ cB).f0)).length<17592186044416 then(if cC.length<5864062014805 then(regletref14_Predict.l0 k1 (cC++ [(t402++(rd_L5 t398 ((rd_T35 aQ cB).f0)))]) t398 (wrap64 (cB+1)) aU aX bA bB aQ) else(none)) else(none)) else(none)) else(none)) else(if cC.length<5864062014805 then(regletref14_Predict.l0 k1 (cC++ [t402]) t398 (wrap64 (cB+1)) aU aX bA bB aQ) else(none)))=some (r1,r2):=H;have A12:=aM A120;clear A120
     by_cases c13:t405=true
     ·subst c13
      have H1:(if 0≤((rd_T35 aQ cB).f0) then(if((rd_T35 aQ cB).f0)<(t398.length:Int) then(if t402.length+(rd_L5 t398 ((rd_T35 aQ cB).f0)).length<17592186044416 then(if cC.length<5864062014805 then(regletref14_Predict.l0 k1 (cC++ [(t402++(rd_L5 t398 ((rd_T35 aQ cB).f0)))]) t398 (wrap64 (cB+1)) aU aX bA bB aQ) else(none)) else(none)) else(none)) else(none))=some (r1,r2):=by rw [if_pos rfl] at H;exact H
      clear H;have H:=H1;clear H1
      by_cases c14:0≤((rd_T35 aQ cB).f0)
      rotate_left
      ·rw [if_neg c14] at H
       exact absurd H (by simp)
      rw [if_pos c14] at H;have Cz:decide (0≤((rd_T35 aQ cB).f0))=true:=decide_eq_true c14;clear c14
      by_cases c15:((rd_T35 aQ cB).f0)<(t398.length:Int)
      rotate_left
      ·rw [if_neg c15] at H
       exact absurd H (by simp)
      rw [if_pos c15] at H;have Ce:decide (((rd_T35 aQ cB).f0)<(t398.length:Int))=true:=decide_eq_true c15;clear c15
      by_cases c16:t402.length+(rd_L5 t398 ((rd_T35 aQ cB).f0)).length<17592186044416
      rotate_left
      ·rw [if_neg c16] at H
       exact absurd H (by simp)
      rw [if_pos c16] at H;have JK:=aM c16;clear c16;obtain⟨y408,Is⟩:∃y_:List Int,y_=(t402++(rd_L5 t398 ((rd_T35 aQ cB).f0))):=⟨_,rfl⟩;replace H:(if cC.length<5864062014805 then(regletref14_Predict.l0 k1 (cC++ [y408]) t398 (wrap64 (cB+1)) aU aX bA bB aQ) else(none))=some (r1,r2):=by first|(rw [Is];with_reducible exact H)|(have H2_:=(Option.bind_some _ _).symm.trans H;rw [Is];with_reducible exact H2_)|(have H2_:=(Option.bind_some _ _).symm.trans H;with_reducible exact H2_)|with_reducible exact H|(rw [Is];exact H)|exact H
      have JL:=aM Is;clear Is
      by_cases c17:cC.length<5864062014805
      rotate_left
      ·rw [if_neg c17] at H
       exact absurd H (by simp)
      rw [if_pos c17] at H;have JM:=aM c17;clear c17;obtain⟨y411,It⟩:∃y_:List (List Int),y_=(cC++ [y408]):=⟨_,rfl⟩;replace H:(regletref14_Predict.l0 k1 y411 t398 (wrap64 (cB+1)) aU aX bA bB aQ)=some (r1,r2):=by first|(rw [It];with_reducible exact H)|(have H2_:=(Option.bind_some _ _).symm.trans H;rw [It];with_reducible exact H2_)|(have H2_:=(Option.bind_some _ _).symm.trans H;with_reducible exact H2_)|with_reducible exact H|(rw [It];exact H)|exact H
      have JN:=aM It;clear It;have H':=aM H;clear H;have oL:wr.cell? ⟨cZ,0,none⟩=some (.slice bM aU.length bO):=(aG bT.out 0).trans rfl;have oM:wr.cell? ⟨cZ,1,none⟩=some (.slice bQ aX.length bR):=(aG bT.out 1).trans rfl;have oN:wr.cell? ⟨cZ,2,none⟩=some (.int .i64 bA):=(aG bT.out 2).trans rfl;have oO:wr.cell? ⟨cZ,3,none⟩=some (.int .i64 bB):=(aG bT.out 3).trans rfl;have oP:wr.cell? ⟨cZ,4,none⟩=some (.slice bV aQ.length bS):=(aG bT.out 4).trans rfl;have oQ:=aH bT.out 0;have oR:=aH bT.out 1;have oS:=aH bT.out 2;have oT:=aH bT.out 3;have oU:=aH bT.out 4
      try go_wp2
      have cE:=aM (aW gM.out);have cF:=aM (aW eX.out);have cH:=aM (aK bT.out);have cM:=aM (aO HB.out);clear gM eX bT HB;have gM:=cE;have eX:=cF;have bT:=cH;have HB:=cM;clear cE cF cH cM;have p401:0≤(cB:Int):=of_decide_eq_true (by first|(with_reducible assumption)|assumption);have q401:cB<(aQ.length:Int):=of_decide_eq_true (by first|(with_reducible assumption)|assumption);obtain⟨qL,Cs,Ct,e401,jJ,jK,xM,xN⟩:=at_T35 eJ.out cB p401 q401;have hw401_1:=jK;have hw401_0:=jJ
      cases e401;replace jJ:=(HB.out.cell (World.block_lt_of_cell? w _ jJ)).trans jJ;replace jK:=(HB.out.cell (World.block_lt_of_cell? w _ jK)).trans jK;have nS:=aM xN;have Gb:=aM xM;clear xN xM;replace p401:=eq_true p401;replace q401:=eq_true q401;refine start_ (n:=13) (S:=fun w'=>w'.cell? ⟨cZ,0,none⟩=some (.slice bM aU.length bO)∧w'.cell? ⟨cZ,1,none⟩=some (.slice bQ aX.length bR)∧w'.cell? ⟨cZ,2,none⟩=some (.int .i64 bA)∧w'.cell? ⟨cZ,3,none⟩=some (.int .i64 bB)∧w'.cell? ⟨cZ,4,none⟩=some (.slice (some qL) aQ.length bS)∧w'.cell? (qL.add ((cB).toNat * 2))=some (.int .i64 ((rd_T35 aQ cB).f0))∧w'.cell? ⟨(qL.add ((cB).toNat * 2)).block,(qL.add ((cB).toNat * 2)).off+1,none⟩=some (.slice Cs ((rd_T35 aQ cB).f1).length Ct)) (ds:= []) #[F,F,F,F,F,F,F,F,F,F,F,F,F] (by kernel_rfl) rfl rfl ⟨(aG bT.out 0).trans rfl,(aG bT.out 1).trans rfl,(aG bT.out 2).trans rfl,(aG bT.out 3).trans rfl,(aG bT.out 4).trans rfl,((HB.out.cell (World.block_lt_of_cell? w _ hw401_0)).trans hw401_0),((HB.out.cell (World.block_lt_of_cell? w _ hw401_1)).trans hw401_1)⟩ (fun hHeld=>?_);refine with_tabW regletref14_Predict.tab8 regletref14_Predict.bits8 (fun HT_ HW_=>?_)
      generalize wr.drew=w19 at gM eX bT HB nS jJ jK hHeld ⊢;refine pure_ (i:=1) (N:=some 30) (v:=?_) (a':=?_) #[F,T,F,F,F,F,F,F,F,F,F,F,F] rfl rfl (any_of HT_.out (by kernel_rfl)) (fun _ _ _ h=>h) (Or.inl ⟨by rfl,?_⟩) ?_ ?_
      rotate_left;(intro w';go_simp;with_reducible rfl);rotate_left;(simp only [pq];rfl)
      refine pure_ (i:=3) (N:=some 32) (v:=?_) (a':=?_) #[F,T,F,T,F,F,F,F,F,F,F,F,F] rfl rfl (any_of HT_.out (by kernel_rfl)) (fun _ _ _ h=>h) (Or.inl ⟨by rfl,?_⟩) ?_ ?_
      rotate_left;(intro w';go_simp;with_reducible rfl);rotate_left;(simp only [pq];rfl)
      refine take_ (i:=0) (N:=some 29) (v:=?_) (a':=?_) #[T,T,F,T,F,F,F,F,F,F,F,F,F] rfl rfl (take_ofW HT_.out HW_.out (by kernel_rfl)) (fun _ _ _ h=>h) (Or.inl ⟨by rfl,?_⟩) hHeld ?_ ?_
      rotate_left
      ·rintro w' ⟨s0,s1,s2,s3,s4,s5,s6⟩
       go_simp
       with_reducible rfl
      rotate_left
      ·simp only [pq]
       rfl
      refine take_ (i:=2) (N:=some 31) (v:=?_) (a':=?_) #[T,T,T,T,F,F,F,F,F,F,F,F,F] rfl rfl (take_ofW HT_.out HW_.out (by kernel_rfl)) (fun _ _ _ h=>h) (Or.inl ⟨by rfl,?_⟩) hHeld ?_ ?_
      rotate_left
      ·rintro w' ⟨s0,s1,s2,s3,s4,s5,s6⟩
       go_simp
       with_reducible rfl
      rotate_left
      ·simp only [pq]
       rfl
      refine pure_ (i:=4) (N:=some 33) (v:=?_) (a':=?_) #[T,T,T,T,T,F,F,F,F,F,F,F,F] rfl rfl (any_of HT_.out (by kernel_rfl)) (fun _ _ _ h=>h) (Or.inl ⟨by rfl,?_⟩) ?_ ?_
      rotate_left;(intro w';go_simp;with_reducible rfl);rotate_left;(simp only [pq];rfl)
      refine pure_ (i:=5) (N:=some 34) (v:=?_) (a':=?_) #[T,T,T,T,T,T,F,F,F,F,F,F,F] rfl rfl (any_of HT_.out (by kernel_rfl)) (fun _ _ _ h=>h) (Or.inl ⟨by rfl,?_⟩) ?_ ?_
      rotate_left;(intro w';go_simp;with_reducible rfl);rotate_left;(simp only [pq];rfl)
      refine take_ (i:=6) (N:=some 35) (v:=?_) (a':=?_) #[T,T,T,T,T,T,T,F,F,F,F,F,F] rfl rfl (take_ofW HT_.out HW_.out (by kernel_rfl)) (fun _ _ _ h=>h) (Or.inl ⟨by rfl,?_⟩) hHeld ?_ ?_
      rotate_left
      ·rintro w' ⟨s0,s1,s2,s3,s4,s5,s6⟩
       go_simp
       with_reducible rfl
      rotate_left
      ·simp only [pq]
       rfl
      refine one_ (i:=7) (N:=some 36) #[T,T,T,T,T,T,T,T,F,F,F,F,F] rfl rfl (one_of HT_.out (by kernel_rfl)) (by decide) (fun K hK=>?_)
      refine goes_ Try.func32 (by kernel_rfl) rfl #[.agg #[.slice bM aU.length bO,.slice bQ aX.length bR,.int .i64 bA,.int .i64 bB,.slice (some qL) aQ.length bS],.slice Cs ((rd_T35 aQ cB).f1).length Ct] (by rfl) rfl rfl (by(try simp only [List.map_toArray,List.map_cons,List.map_nil]);first|done|rfl|(simp only [List.length_drop,List.length_take];rfl)) ?_
      with_reducible refine(regletref13_Of.calls k1 _ _ aU _ _ aX bA bB _ _ aQ _ _ ((rd_T35 aQ cB).f1) t402 true _ ?side1 ?side2 ?side3 ?side4 ?side5 ?side6 ?side7 ?side8 A12.out).mono ?_
      (case side1=>exact gC (bD fN.out HB.out))
      (case side2=>exact fS.out)
      (case side3=>exact gC (bD gA.out HB.out))
      (case side4=>exact gD.out)
      (case side5=>exact gC (bD eJ.out HB.out))
      (case side6=>exact gE.out)
      (case side7=>exact gC (bD nS.out HB.out))
      (case side8=>exact Gb.out)
      rintro e w20 ⟨v403,rfl,ho0,hb⟩
      refine⟨_,rfl,?_⟩
      have cE:=aM (Kd.S_elder' (gS gM.out) (Kd.R_base ho0) hb);have cF:=aM (Kd.S_elder' (gS eX.out) (Kd.R_base ho0) hb);have cH:=aM (bL ho0 (bH (gW HB.out)));have cM:=aM (bF (gB bT.out) hb);have dH:=aM (bG (gW HB.out) hb);clear gM eX bT HB;have gM:=cE;have eX:=cF;have yQ:=cH;have bT:=cM;have HB:=dH;clear cE cF cH cM dH
      (try have nS:=aM (bD nS.out hb))
      (try clear hb);(try clear hb2);(try clear hk);(try clear hi);(try clear ho0)
      refine hK.out _ _ ⟨(aG bT.out 0).trans rfl,(aG bT.out 1).trans rfl,(aG bT.out 2).trans rfl,(aG bT.out 3).trans rfl,(aG bT.out 4).trans rfl,((HB.out.cell (World.block_lt_of_cell? w _ hw401_0)).trans hw401_0),((HB.out.cell (World.block_lt_of_cell? w _ hw401_1)).trans hw401_1)⟩ (fun hHeld=>?_)
      clear hK K;refine norm_ (a':=?_) ?_ ?_
      rotate_left
      ·show Act.put _ (some 36) _=_
       simp only [pq];rfl
      refine pure_ (i:=8) (N:=some 28) (v:=?_) (a':=?_) #[T,T,T,T,T,T,T,T,T,F,F,F,F] rfl rfl (any_of HT_.out (by kernel_rfl)) (fun _ _ _ h=>h) (Or.inl ⟨by rfl,?_⟩) ?_ ?_
      rotate_left;(intro w';go_simp;with_reducible rfl);rotate_left;(simp only [pq];rfl)
      refine pure_ (i:=9) (N:=some 37) (v:=?_) (a':=?_) #[T,T,T,T,T,T,T,T,T,T,F,F,F] rfl rfl (any_of HT_.out (by kernel_rfl)) (fun _ _ _ h=>h) (Or.inl ⟨by rfl,?_⟩) ?_ ?_
      rotate_left;(intro w';go_simp;with_reducible rfl);rotate_left;(simp only [pq];rfl)
      refine pure_ (i:=10) (N:=some 38) (v:=?_) (a':=?_) #[T,T,T,T,T,T,T,T,T,T,T,F,F] rfl rfl (any_of HT_.out (by kernel_rfl)) (fun _ _ _ h=>h) (Or.inl ⟨by rfl,?_⟩) ?_ ?_
      rotate_left;(intro w';go_simp;with_reducible rfl);rotate_left;(simp only [pq];rfl)
      refine pure_ (i:=11) (N:=some 7) (v:=?_) (a':=?_) #[T,T,T,T,T,T,T,T,T,T,T,T,F] rfl rfl (any_of HT_.out (by kernel_rfl)) (fun _ _ _ h=>h) (Or.inl ⟨by rfl,?_⟩) ?_ ?_
      rotate_left;(intro w';go_simp;with_reducible rfl);rotate_left;(simp only [pq];rfl)
      refine pure_ (i:=12) (N:=some 8) (v:=?_) (a':=?_) #[T,T,T,T,T,T,T,T,T,T,T,T,T] rfl rfl (any_of HT_.out (by kernel_rfl)) (fun _ _ _ h=>h) (Or.inl ⟨by rfl,?_⟩) ?_ ?_
      rotate_left;(intro w';go_simp;with_reducible rfl);rotate_left;(simp only [pq];rfl)
      refine done_ (done_of HT_.out (by kernel_rfl)) ?_
      have oZ:w20.cell? ⟨cZ,0,none⟩=some (.slice bM aU.length bO):=(aG bT.out 0).trans rfl;have pA:w20.cell? ⟨cZ,1,none⟩=some (.slice bQ aX.length bR):=(aG bT.out 1).trans rfl;have pB:w20.cell? ⟨cZ,2,none⟩=some (.int .i64 bA):=(aG bT.out 2).trans rfl;have pC:w20.cell? ⟨cZ,3,none⟩=some (.int .i64 bB):=(aG bT.out 3).trans rfl;have pD:w20.cell? ⟨cZ,4,none⟩=some (.slice (some qL) aQ.length bS):=(aG bT.out 4).trans rfl;have pE:=aH bT.out 0;have pF:=aH bT.out 1;have pG:=aH bT.out 2;have pH:=aH bT.out 3;have pI:=aH bT.out 4;have p406:0≤(cB:Int):=of_decide_eq_true (by first|(with_reducible assumption)|assumption);have q406:cB<(aQ.length:Int):=of_decide_eq_true (by first|(with_reducible assumption)|assumption);obtain⟨JO,SO,SP,e406,rT,rU,Mt,Mu⟩:=at_T35 eJ.out cB p406 q406;obtain rfl:qL=JO:=(by injection e406);replace rT:=(HB.out.cell (World.block_lt_of_cell? w _ rT)).trans rT;replace rU:=(HB.out.cell (World.block_lt_of_cell? w _ rU)).trans rU;have NM:=aM Mu;have NN:=aM Mt;clear Mu Mt;replace p406:=eq_true p406;replace q406:=eq_true q406;obtain⟨WG,Om,SQ⟩:=Kd.S_slice eX.out;subst SQ;have p407:0≤(((rd_T35 aQ cB).f0):Int):=of_decide_eq_true (by first|(with_reducible assumption)|assumption);have q407:((rd_T35 aQ cB).f0)<(t398.length:Int):=of_decide_eq_true (by first|(with_reducible assumption)|assumption);obtain⟨Dc,SR,SS,e407,xO,Mv,Mw⟩:=at_L5 (Kd.S_reads' eX.out).2.2 ((rd_T35 aQ cB).f0) p407 q407
      cases e407;obtain⟨ce407,hce407,hMe407,hcc407⟩:=Kd.S_get eX.out [] ((rd_T35 aQ cB).f0) p407 (by first|exact q407|exact of_decide_eq_true (by first|(with_reducible assumption)|assumption)|(have e_:=(Kd.S_reads' eX.out).1;omega));obtain⟨ve407_0,rfl,ge407_0⟩:=hMe407;have hv407_0:=hcc407 0 _ rfl;rw [Nat.add_zero,show((Kd.slice 3 (Kd.int .i64))).sz=1 from rfl,Nat.mul_one] at hv407_0;replace hv407_0:=Option.some.inj (hv407_0.symm.trans xO);rw [hv407_0] at ge407_0;have HL407_0:=aM (show Kd.R (Kd.int .i64) 3 _ _ _ _ (rd_L5 t398 ((rd_T35 aQ cB).f0)) from ge407_0);clear hv407_0 ge407_0 hcc407 hce407;have Mx:=aM Mw;have NO:=aM Mv;clear Mw Mv;replace p407:=eq_true p407;replace q407:=eq_true q407
      try go_wp2_with (first|((with_reducible refine gate_builtin (b:= .append) (xs:=#[.tmp 40,.tmp 49]) rfl ?_);at_builtin;refine Kd.R_append_rows (Kd.int .i64) (w0:=w) w.heap.size rfl (.tmp 40) (.tmp 49) 32 3 (.int .i64 0) 8 rfl Try.underlying32 info3 rfl (by decide) (by omega) v403 t402 (rd_L5 t398 ((rd_T35 aQ cB).f0)) _ _ _ (fun _=>True) (fun _=>False) rfl rfl ?aO ?aR (fun _ _ h=>h) (fun _ h=>h.elim) ?aF ?aB ?aS ?aL ?_;(case aR=>exact gC (by repeat(first|(with_reducible exact Mx.out)|(with_reducible refine Kd.C_alloc ?_ _)|(with_reducible refine Kd.C_drewN ?_ _)|(with_reducible refine bC ?_)|exact Mx.out)));(case aB=>exact(gW HB.out));(case aF=>exact(fun _ _=>trivial));(case aO=>exact(gR yQ.out));(case aS=>exact(bH (gW HB.out)));(case aL=>have:=JK.out;omega);intro v409 w23 ho hb hg hat;rw [←JL.out] at ho;have cE:=aM (Kd.S_after (ok:=(fun k_=>some k_≠(.slice (some Dc) t398.length Om:Value).ownBlock)) (gS gM.out) hg hat);have cF:=aM (Kd.S_after (ok:=(fun k_=>some k_≠(u4:Value).ownBlock)) (gS eX.out) hg hat);have cH:=aM (blk_grown (gB bT.out) hg (Kd.R_ne yQ.out bT.out (by decide)));have cM:=aM (Kd.R_after (ok:=(fun k_=>some k_≠(u4:Value).ownBlock∧some k_≠(.slice (some Dc) t398.length Om:Value).ownBlock)) (by(with_reducible repeat(first|apply aA|apply aB|apply aC));exact Kd.R_mono HL407_0.out (fun _ hk=>⟨⟨hk.1.1,hk.2⟩,hk.1.2⟩)) hg hat);have dH:=aM (hb);have dN:=aM (ho);clear gM;clear eX;clear bT;clear HL407_0;clear HB;clear yQ;have gM:=cE;have eX:=cF;have bT:=cH;have HL407_0:=cM;have HB:=dH;have My:=dN;clear cE cF cH cM dH dN;clear ho hb hg hat;obtain⟨Vu,Vv,ST⟩:=Kd.R_slice My.out;subst ST)|((with_reducible refine gate_builtin (b:= .append) (xs:=#[.tmp 51,.tmp 53]) rfl ?_);at_builtin;refine Kd.S_append (Kd.slice 3 (Kd.int .i64)) (w0:=w) w.heap.size rfl (.tmp 51) (.tmp 53) 27 32 (.slice none 0 0) 24 rfl Try.underlying27 info32 rfl (by decide) (by omega) u4 cC y408 [.slice Vu y408.length Vv] (fun k_=>some k_≠(.slice (some Dc) t398.length Om:Value).ownBlock) (fun k_=>some k_=(.slice Vu y408.length Vv:Value).ownBlock) rfl rfl ?aP (fun k_ hk_=>((Kd.R_mono (ok':=fun k_=>((fun k_=>some k_≠(.slice (some Dc) t398.length Om:Value).ownBlock)) k_∧some k_≠(u4:Value).ownBlock) (Kd.R_apart' (Kd.R_apart' (My.out) (Kd.S_typed eX.out) (by decide)) (Kd.S_typed gM.out) (by decide)) (fun k_ hk=>⟨hk.1.2,hk.2⟩))).1 k_ hk_.symm) ?aF ?aO ?aB ?aS ?aL ?_;(case aP=>exact Kd.M_row (Kd.R_mono (Kd.R_tight rfl (Kd.R_mono (ok':=fun k_=>((fun k_=>some k_≠(.slice (some Dc) t398.length Om:Value).ownBlock)) k_∧some k_≠(u4:Value).ownBlock) (Kd.R_apart' (Kd.R_apart' (My.out) (Kd.S_typed eX.out) (by decide)) (Kd.S_typed gM.out) (by decide)) (fun k_ hk=>⟨hk.1.2,hk.2⟩))) (fun _ h_=>h_)));(case aB=>exact(gW HB.out));(case aF=>exact(fun k_ hk=>Kd.fresh' (Kd.S_lt (gS eX.out)) k_ hk));(case aO=>exact(by(with_reducible repeat(first|apply Kd.S_alloc|apply aV|apply aW));exact Kd.S_mono gM.out (fun k_ hk=>⟨hk.1,fun e_=>hk.2 e_⟩)));(case aS=>exact(bH (gW HB.out)));(case aL=>have:=JM.out;omega);intro v412 w24 ho hb hg hat;rw [←JN.out] at ho;have cE:=aM (Kd.S_after (ok:=(fun k_=>some k_≠(.slice Vu y408.length Vv:Value).ownBlock)) (by(with_reducible repeat(first|apply Kd.S_alloc|apply aV|apply aW));exact Kd.S_mono eX.out (fun _ hk=>⟨hk.2,hk.1⟩)) hg hat);have cF:=aM (blk_grown (gB bT.out) hg (Kd.S_ne gM.out bT.out (by decide)));have cH:=aM (Kd.R_after (ok:=(fun k_=>some k_≠(.slice (some Dc) t398.length Om:Value).ownBlock∧some k_≠(.slice Vu y408.length Vv:Value).ownBlock)) (by(with_reducible repeat(first|apply aA|apply aB|apply aC));exact Kd.R_mono HL407_0.out (fun _ hk=>⟨⟨hk.1.2,hk.2⟩,hk.1.1⟩)) hg hat);have cM:=aM (hb);have dH:=aM (ho);clear eX;clear bT;clear HL407_0;clear HB;clear gM;clear My;have eX:=cE;have bT:=cF;have HL407_0:=cH;have HB:=cM;have JP:=dH;clear cE cF cH cM dH;clear ho hb hg hat))
      go_roundg k1
      case measure=>have:=HK1.out;omega
      case rel=>exact⟨(y411),(wrap64 (cB+1)),(by first|rfl|(simp;done)|(simp [*];done)),H',⟨by have:=HK1.out;omega⟩,⟨gS JP.out⟩,⟨by(with_reducible repeat(first|apply Kd.S_alloc|apply aV|apply aW));exact Kd.S_mono eX.out (fun _ hk=>hk.2)⟩,⟨gB bT.out⟩,⟨gW HB.out⟩⟩
     ·replace c13:=Bool.eq_false_iff.mpr c13
      subst c13;have H1:(if cC.length<5864062014805 then(regletref14_Predict.l0 k1 (cC++ [t402]) t398 (wrap64 (cB+1)) aU aX bA bB aQ) else(none))=some (r1,r2):=by rw [if_neg (show ¬(false=true) by decide)] at H;exact H
      clear H;have H:=H1;clear H1
      by_cases c26:cC.length<5864062014805
      rotate_left
      ·rw [if_neg c26] at H
       exact absurd H (by simp)
      rw [if_pos c26] at H;have JQ:=aM c26;clear c26;obtain⟨y414,Iu⟩:∃y_:List (List Int),y_=(cC++ [t402]):=⟨_,rfl⟩;replace H:(regletref14_Predict.l0 k1 y414 t398 (wrap64 (cB+1)) aU aX bA bB aQ)=some (r1,r2):=by first|(rw [Iu];with_reducible exact H)|(have H2_:=(Option.bind_some _ _).symm.trans H;rw [Iu];with_reducible exact H2_)|(have H2_:=(Option.bind_some _ _).symm.trans H;with_reducible exact H2_)|with_reducible exact H|(rw [Iu];exact H)|exact H
      have JR:=aM Iu;clear Iu;have H':=aM H;clear H;have tD:wr.cell? ⟨cZ,0,none⟩=some (.slice bM aU.length bO):=(aG bT.out 0).trans rfl;have tE:wr.cell? ⟨cZ,1,none⟩=some (.slice bQ aX.length bR):=(aG bT.out 1).trans rfl;have vT:wr.cell? ⟨cZ,2,none⟩=some (.int .i64 bA):=(aG bT.out 2).trans rfl;have vU:wr.cell? ⟨cZ,3,none⟩=some (.int .i64 bB):=(aG bT.out 3).trans rfl;have vV:wr.cell? ⟨cZ,4,none⟩=some (.slice bV aQ.length bS):=(aG bT.out 4).trans rfl;have tF:=aH bT.out 0;have tG:=aH bT.out 1;have vW:=aH bT.out 2;have vX:=aH bT.out 3;have vY:=aH bT.out 4
      try go_wp2
      have cE:=aM (aW gM.out);have cF:=aM (aW eX.out);have cH:=aM (aK bT.out);have cM:=aM (aO HB.out);clear gM eX bT HB;have gM:=cE;have eX:=cF;have bT:=cH;have HB:=cM;clear cE cF cH cM;have p401:0≤(cB:Int):=of_decide_eq_true (by first|(with_reducible assumption)|assumption);have q401:cB<(aQ.length:Int):=of_decide_eq_true (by first|(with_reducible assumption)|assumption);obtain⟨qL,Cs,Ct,e401,jJ,jK,xM,xN⟩:=at_T35 eJ.out cB p401 q401;have hw401_1:=jK;have hw401_0:=jJ
      cases e401;replace jJ:=(HB.out.cell (World.block_lt_of_cell? w _ jJ)).trans jJ;replace jK:=(HB.out.cell (World.block_lt_of_cell? w _ jK)).trans jK;have nS:=aM xN;have Gb:=aM xM;clear xN xM;replace p401:=eq_true p401;replace q401:=eq_true q401;refine start_ (n:=13) (S:=fun w'=>w'.cell? ⟨cZ,0,none⟩=some (.slice bM aU.length bO)∧w'.cell? ⟨cZ,1,none⟩=some (.slice bQ aX.length bR)∧w'.cell? ⟨cZ,2,none⟩=some (.int .i64 bA)∧w'.cell? ⟨cZ,3,none⟩=some (.int .i64 bB)∧w'.cell? ⟨cZ,4,none⟩=some (.slice (some qL) aQ.length bS)∧w'.cell? (qL.add ((cB).toNat * 2))=some (.int .i64 ((rd_T35 aQ cB).f0))∧w'.cell? ⟨(qL.add ((cB).toNat * 2)).block,(qL.add ((cB).toNat * 2)).off+1,none⟩=some (.slice Cs ((rd_T35 aQ cB).f1).length Ct)) (ds:= []) #[F,F,F,F,F,F,F,F,F,F,F,F,F] (by kernel_rfl) rfl rfl ⟨(aG bT.out 0).trans rfl,(aG bT.out 1).trans rfl,(aG bT.out 2).trans rfl,(aG bT.out 3).trans rfl,(aG bT.out 4).trans rfl,((HB.out.cell (World.block_lt_of_cell? w _ hw401_0)).trans hw401_0),((HB.out.cell (World.block_lt_of_cell? w _ hw401_1)).trans hw401_1)⟩ (fun hHeld=>?_);refine with_tabW regletref14_Predict.tab8 regletref14_Predict.bits8 (fun HT_ HW_=>?_)
      generalize wr.drew=w28 at gM eX bT HB nS jJ jK hHeld ⊢;refine pure_ (i:=1) (N:=some 30) (v:=?_) (a':=?_) #[F,T,F,F,F,F,F,F,F,F,F,F,F] rfl rfl (any_of HT_.out (by kernel_rfl)) (fun _ _ _ h=>h) (Or.inl ⟨by rfl,?_⟩) ?_ ?_
      rotate_left;(intro w';go_simp;with_reducible rfl);rotate_left;(simp only [pq];rfl)
      refine pure_ (i:=3) (N:=some 32) (v:=?_) (a':=?_) #[F,T,F,T,F,F,F,F,F,F,F,F,F] rfl rfl (any_of HT_.out (by kernel_rfl)) (fun _ _ _ h=>h) (Or.inl ⟨by rfl,?_⟩) ?_ ?_
      rotate_left;(intro w';go_simp;with_reducible rfl);rotate_left;(simp only [pq];rfl)
      refine take_ (i:=0) (N:=some 29) (v:=?_) (a':=?_) #[T,T,F,T,F,F,F,F,F,F,F,F,F] rfl rfl (take_ofW HT_.out HW_.out (by kernel_rfl)) (fun _ _ _ h=>h) (Or.inl ⟨by rfl,?_⟩) hHeld ?_ ?_
      rotate_left
      ·rintro w' ⟨s0,s1,s2,s3,s4,s5,s6⟩
       go_simp
       with_reducible rfl
      rotate_left
      ·simp only [pq]
       rfl
      refine take_ (i:=2) (N:=some 31) (v:=?_) (a':=?_) #[T,T,T,T,F,F,F,F,F,F,F,F,F] rfl rfl (take_ofW HT_.out HW_.out (by kernel_rfl)) (fun _ _ _ h=>h) (Or.inl ⟨by rfl,?_⟩) hHeld ?_ ?_
      rotate_left
      ·rintro w' ⟨s0,s1,s2,s3,s4,s5,s6⟩
       go_simp
       with_reducible rfl
      rotate_left
      ·simp only [pq]
       rfl
      refine pure_ (i:=4) (N:=some 33) (v:=?_) (a':=?_) #[T,T,T,T,T,F,F,F,F,F,F,F,F] rfl rfl (any_of HT_.out (by kernel_rfl)) (fun _ _ _ h=>h) (Or.inl ⟨by rfl,?_⟩) ?_ ?_
      rotate_left;(intro w';go_simp;with_reducible rfl);rotate_left;(simp only [pq];rfl)
      refine pure_ (i:=5) (N:=some 34) (v:=?_) (a':=?_) #[T,T,T,T,T,T,F,F,F,F,F,F,F] rfl rfl (any_of HT_.out (by kernel_rfl)) (fun _ _ _ h=>h) (Or.inl ⟨by rfl,?_⟩) ?_ ?_
      rotate_left;(intro w';go_simp;with_reducible rfl);rotate_left;(simp only [pq];rfl)
      refine take_ (i:=6) (N:=some 35) (v:=?_) (a':=?_) #[T,T,T,T,T,T,T,F,F,F,F,F,F] rfl rfl (take_ofW HT_.out HW_.out (by kernel_rfl)) (fun _ _ _ h=>h) (Or.inl ⟨by rfl,?_⟩) hHeld ?_ ?_
      rotate_left
      ·rintro w' ⟨s0,s1,s2,s3,s4,s5,s6⟩
       go_simp
       with_reducible rfl
      rotate_left
      ·simp only [pq]
       rfl
      refine one_ (i:=7) (N:=some 36) #[T,T,T,T,T,T,T,T,F,F,F,F,F] rfl rfl (one_of HT_.out (by kernel_rfl)) (by decide) (fun K hK=>?_)
      refine goes_ Try.func32 (by kernel_rfl) rfl #[.agg #[.slice bM aU.length bO,.slice bQ aX.length bR,.int .i64 bA,.int .i64 bB,.slice (some qL) aQ.length bS],.slice Cs ((rd_T35 aQ cB).f1).length Ct] (by rfl) rfl rfl (by(try simp only [List.map_toArray,List.map_cons,List.map_nil]);first|done|rfl|(simp only [List.length_drop,List.length_take];rfl)) ?_
      with_reducible refine(regletref13_Of.calls k1 _ _ aU _ _ aX bA bB _ _ aQ _ _ ((rd_T35 aQ cB).f1) t402 false _ ?side1 ?side2 ?side3 ?side4 ?side5 ?side6 ?side7 ?side8 A12.out).mono ?_
      (case side1=>exact gC (bD fN.out HB.out))
      (case side2=>exact fS.out)
      (case side3=>exact gC (bD gA.out HB.out))
      (case side4=>exact gD.out)
      (case side5=>exact gC (bD eJ.out HB.out))
      (case side6=>exact gE.out)
      (case side7=>exact gC (bD nS.out HB.out))
      (case side8=>exact Gb.out)
      rintro e w29 ⟨v403,rfl,ho0,hb⟩
      refine⟨_,rfl,?_⟩
      have cE:=aM (Kd.S_elder' (gS gM.out) (Kd.R_base ho0) hb);have cF:=aM (Kd.S_elder' (gS eX.out) (Kd.R_base ho0) hb);have cH:=aM (bL ho0 (bH (gW HB.out)));have cM:=aM (bF (gB bT.out) hb);have dH:=aM (bG (gW HB.out) hb);clear gM eX bT HB;have gM:=cE;have eX:=cF;have yQ:=cH;have bT:=cM;have HB:=dH;clear cE cF cH cM dH
      (try have nS:=aM (bD nS.out hb))
      (try clear hb);(try clear hb2);(try clear hk);(try clear hi);(try clear ho0)
      refine hK.out _ _ ⟨(aG bT.out 0).trans rfl,(aG bT.out 1).trans rfl,(aG bT.out 2).trans rfl,(aG bT.out 3).trans rfl,(aG bT.out 4).trans rfl,((HB.out.cell (World.block_lt_of_cell? w _ hw401_0)).trans hw401_0),((HB.out.cell (World.block_lt_of_cell? w _ hw401_1)).trans hw401_1)⟩ (fun hHeld=>?_)
      clear hK K;refine norm_ (a':=?_) ?_ ?_
      rotate_left
      ·show Act.put _ (some 36) _=_
       simp only [pq];rfl
      refine pure_ (i:=8) (N:=some 28) (v:=?_) (a':=?_) #[T,T,T,T,T,T,T,T,T,F,F,F,F] rfl rfl (any_of HT_.out (by kernel_rfl)) (fun _ _ _ h=>h) (Or.inl ⟨by rfl,?_⟩) ?_ ?_
      rotate_left;(intro w';go_simp;with_reducible rfl);rotate_left;(simp only [pq];rfl)
      refine pure_ (i:=9) (N:=some 37) (v:=?_) (a':=?_) #[T,T,T,T,T,T,T,T,T,T,F,F,F] rfl rfl (any_of HT_.out (by kernel_rfl)) (fun _ _ _ h=>h) (Or.inl ⟨by rfl,?_⟩) ?_ ?_
      rotate_left;(intro w';go_simp;with_reducible rfl);rotate_left;(simp only [pq];rfl)
      refine pure_ (i:=10) (N:=some 38) (v:=?_) (a':=?_) #[T,T,T,T,T,T,T,T,T,T,T,F,F] rfl rfl (any_of HT_.out (by kernel_rfl)) (fun _ _ _ h=>h) (Or.inl ⟨by rfl,?_⟩) ?_ ?_
      rotate_left;(intro w';go_simp;with_reducible rfl);rotate_left;(simp only [pq];rfl)
      refine pure_ (i:=11) (N:=some 7) (v:=?_) (a':=?_) #[T,T,T,T,T,T,T,T,T,T,T,T,F] rfl rfl (any_of HT_.out (by kernel_rfl)) (fun _ _ _ h=>h) (Or.inl ⟨by rfl,?_⟩) ?_ ?_
      rotate_left;(intro w';go_simp;with_reducible rfl);rotate_left;(simp only [pq];rfl)
      refine pure_ (i:=12) (N:=some 8) (v:=?_) (a':=?_) #[T,T,T,T,T,T,T,T,T,T,T,T,T] rfl rfl (any_of HT_.out (by kernel_rfl)) (fun _ _ _ h=>h) (Or.inl ⟨by rfl,?_⟩) ?_ ?_
      rotate_left;(intro w';go_simp;with_reducible rfl);rotate_left;(simp only [pq];rfl)
      refine done_ (done_of HT_.out (by kernel_rfl)) ?_
      obtain⟨iG,iH,BF⟩:=Kd.R_slice yQ.out;subst BF
      try go_wp2_with (first|((with_reducible refine gate_builtin (b:= .append) (xs:=#[.tmp 51,.tmp 53]) rfl ?_);at_builtin;refine Kd.S_append (Kd.slice 3 (Kd.int .i64)) (w0:=w) w.heap.size rfl (.tmp 51) (.tmp 53) 27 32 (.slice none 0 0) 24 rfl Try.underlying27 info32 rfl (by decide) (by omega) u4 cC t402 [.slice iG t402.length iH] (fun k_=>some k_≠(v399:Value).ownBlock) (fun k_=>some k_=(.slice iG t402.length iH:Value).ownBlock) rfl rfl ?aP (fun k_ hk_=>((Kd.R_mono (ok':=fun k_=>((fun k_=>some k_≠(v399:Value).ownBlock)) k_∧some k_≠(u4:Value).ownBlock) (Kd.R_apart' (Kd.R_apart' (yQ.out) (Kd.S_typed eX.out) (by decide)) (Kd.S_typed gM.out) (by decide)) (fun k_ hk=>⟨hk.1.2,hk.2⟩))).1 k_ hk_.symm) ?aF ?aO ?aB ?aS ?aL ?_;(case aP=>exact Kd.M_row (Kd.R_mono (Kd.R_tight rfl (Kd.R_mono (ok':=fun k_=>((fun k_=>some k_≠(v399:Value).ownBlock)) k_∧some k_≠(u4:Value).ownBlock) (Kd.R_apart' (Kd.R_apart' (yQ.out) (Kd.S_typed eX.out) (by decide)) (Kd.S_typed gM.out) (by decide)) (fun k_ hk=>⟨hk.1.2,hk.2⟩))) (fun _ h_=>h_)));(case aB=>exact(gW HB.out));(case aF=>exact(fun k_ hk=>Kd.fresh' (Kd.S_lt (gS eX.out)) k_ hk));(case aO=>exact(by(with_reducible repeat(first|apply Kd.S_alloc|apply aV|apply aW));exact Kd.S_mono gM.out (fun k_ hk=>⟨hk.1,fun e_=>hk.2 e_⟩)));(case aS=>exact(bH (gW HB.out)));(case aL=>have:=JQ.out;omega);intro v415 w30 ho hb hg hat;rw [←JR.out] at ho;have cE:=aM (Kd.S_after (ok:=(fun k_=>some k_≠(.slice iG t402.length iH:Value).ownBlock)) (by(with_reducible repeat(first|apply Kd.S_alloc|apply aV|apply aW));exact Kd.S_mono eX.out (fun _ hk=>⟨hk.2,hk.1⟩)) hg hat);have cF:=aM (blk_grown (gB bT.out) hg (Kd.S_ne gM.out bT.out (by decide)));have cH:=aM (hb);have cM:=aM (ho);clear eX;clear bT;clear HB;clear gM;clear yQ;have eX:=cE;have bT:=cF;have HB:=cH;have JS:=cM;clear cE cF cH cM;clear ho hb hg hat))
      go_roundg k1
      case measure=>have:=HK1.out;omega
      case rel=>exact⟨(y414),(wrap64 (cB+1)),(by first|rfl|(simp;done)|(simp [*];done)),H',⟨by have:=HK1.out;omega⟩,⟨gS JS.out⟩,⟨by(with_reducible repeat(first|apply Kd.S_alloc|apply aV|apply aW));exact Kd.S_mono eX.out (fun _ hk=>hk.2)⟩,⟨gB bT.out⟩,⟨gW HB.out⟩⟩
    ·rw [if_neg c10] at H
     have pS:decide (cB<(aQ.length:Int))=false:=decide_eq_false c10;clear c10;have H':=aM H;clear H;have vZ:wr.cell? ⟨cZ,0,none⟩=some (.slice bM aU.length bO):=(aG bT.out 0).trans rfl;have wA:wr.cell? ⟨cZ,1,none⟩=some (.slice bQ aX.length bR):=(aG bT.out 1).trans rfl;have wB:wr.cell? ⟨cZ,2,none⟩=some (.int .i64 bA):=(aG bT.out 2).trans rfl;have wC:wr.cell? ⟨cZ,3,none⟩=some (.int .i64 bB):=(aG bT.out 3).trans rfl;have wD:wr.cell? ⟨cZ,4,none⟩=some (.slice bV aQ.length bS):=(aG bT.out 4).trans rfl;have wE:=aH bT.out 0;have wF:=aH bT.out 1;have wG:=aH bT.out 2;have wH:=aH bT.out 3;have wI:=aH bT.out 4;go_wp2
     go_loopg [9,10,11] k1 (fun kq v9 v10 v11 w'=>∃(sD:List (List Int)) (Mz:List (S78)) (cA:Int),v11= .int .i64 cA∧Aside0 (regletref14_Predict.l1 kq cC sD Mz cA aU aX bA bB aQ=some (r1,r2))∧Aside0 (kq≤k1)∧Aside0 (Kd.S (Kd.slice 3 (Kd.int .i64)) 32 w' w.heap.size (fun k_=>some k_≠(v9:Value).ownBlock) u4 cC)∧Aside0 (Kd.S (Kd.slice 3 (Kd.int .i64)) 32 w' w.heap.size (fun k_=>some k_≠(u4:Value).ownBlock) v9 sD)∧Aside0 (Kd.R k78 78 w' w.heap.size (fun _=>True) v10 Mz)∧Aside0 (w'.heap[cZ]?=some (.cells #[(.slice bM aU.length bO),(.slice bQ aX.length bR),.int .i64 bA,.int .i64 bB,(.slice bV aQ.length bS)] 26 (0,0)))∧Aside0 (Below w.heap.size w w'))
     case atStart=>exact⟨(([]:List (List Int))),(([]:List (S78))),(0),(by first|rfl|(simp;done)|(simp [*];done)),H',⟨Nat.le_refl _⟩,⟨by(with_reducible repeat(first|apply Kd.S_alloc|apply aV|apply aW));exact Kd.S_mono gM.out (fun _ hk=>(by simp [Value.ownBlock]))⟩,⟨by first|exact Kd.S_nil _ _ _ _ _|exact Kd.N_nil _ _ _ _ _|exact Kd.V_nil _ _ _ _ _|exact Kd.Q_nil _ _ _ _ _|exact Kd.R_nil _ _ _ _ _⟩,⟨by first|exact Kd.R_nil _ _ _ _ _|exact Kd.N_nil _ _ _ _ _|exact Kd.V_nil _ _ _ _ _|exact Kd.Q_nil _ _ _ _ _|exact Kd.S_nil _ _ _ _ _⟩,⟨gB bT.out⟩,⟨gW HB.out⟩⟩
     case round=>
      clear H'
      (try clear c1);(try clear c2);(try clear p2);(try clear c3);(try clear c4);(try clear p4);(try clear q4);(try clear hx4);(try clear p6);(try clear c10);(try clear pS);(try clear c11);(try clear rZ);(try clear c13);(try clear c14);(try clear Cz);(try clear c15);(try clear Ce);(try clear c16);(try clear c17);(try clear c20);(try clear c26);(try clear c30);(try clear c31);(try clear c32);(try clear oL)
      (try clear oM);(try clear oN);(try clear oO);(try clear oP);(try clear oZ);(try clear pA);(try clear pB);(try clear pC);(try clear pD);(try clear tD);(try clear tE);(try clear vT);(try clear vU);(try clear vV);(try clear vZ);(try clear wA);(try clear wB);(try clear wC);(try clear wD);(try clear sE);(try clear sF)
      (try clear sG);(try clear sH);(try clear sI);(try clear jP);(try clear jQ);(try clear lA);(try clear lB);(try clear lC);(try clear oQ);(try clear oR);(try clear oS);(try clear oT);(try clear oU);(try clear pE);(try clear pF);(try clear pG);(try clear pH);(try clear pI);(try clear tF);(try clear tG);(try clear vW)
      (try clear vX);(try clear vY);(try clear wE);(try clear wF);(try clear wG);(try clear wH);(try clear wI);(try clear sJ);(try clear sK);(try clear sL);(try clear sM);(try clear sN);(try clear jR);(try clear jS);(try clear lD);(try clear lE);(try clear lF);(try clear jJ);(try clear jK);(try clear rT);(try clear rU)
      (try clear xO);(try clear p2);(try clear p401);(try clear p406);(try clear p407);(try clear q401);(try clear q406);(try clear q407)
      obtain⟨sD,Mz,cA,rfl,HA,HK2,gM,nT,cY,bT,HB⟩:=hrel
      cases gk with
      |zero=>exact absurd HA.out (by simp [regletref14_Predict.l1])
      |succ k2=>
       have H:=HA.out;clear HA;simp only [regletref14_Predict.l1] at H
       by_cases c33:cA<(aU.length:Int)
       ·rw [if_pos c33] at H
        have Na:decide (cA<(aU.length:Int))=true:=decide_eq_true c33;clear c33;have H':=aM H;clear H;have qZ:wr.cell? ⟨cZ,0,none⟩=some (.slice bM aU.length bO):=(aG bT.out 0).trans rfl;have rA:wr.cell? ⟨cZ,1,none⟩=some (.slice bQ aX.length bR):=(aG bT.out 1).trans rfl;have wO:wr.cell? ⟨cZ,2,none⟩=some (.int .i64 bA):=(aG bT.out 2).trans rfl;have wP:wr.cell? ⟨cZ,3,none⟩=some (.int .i64 bB):=(aG bT.out 3).trans rfl;have wQ:wr.cell? ⟨cZ,4,none⟩=some (.slice bV aQ.length bS):=(aG bT.out 4).trans rfl;have rB:=aH bT.out 0;have rC:=aH bT.out 1;have wR:=aH bT.out 2;have wS:=aH bT.out 3;have wT:=aH bT.out 4;go_wp2
        go_loopg [10,12,13] k2 (fun kq v10 v12 v13 w'=>∃(Dd:List (S78)) (lJ:List Int) (kU:Int),v13= .int .i64 kU∧Aside0 (regletref14_Predict.l2 kq cC sD Dd cA lJ kU aU aX bA bB aQ=some (r1,r2))∧Aside0 (kq≤k2)∧Aside0 (Kd.S (Kd.slice 3 (Kd.int .i64)) 32 w' w.heap.size (fun k_=>some k_≠(u9:Value).ownBlock∧some k_≠(v12:Value).ownBlock) u4 cC)∧Aside0 (Kd.S (Kd.slice 3 (Kd.int .i64)) 32 w' w.heap.size (fun k_=>some k_≠(u4:Value).ownBlock∧some k_≠(v12:Value).ownBlock) u9 sD)∧Aside0 (Kd.R k78 78 w' w.heap.size (fun _=>True) v10 Dd)∧Aside0 (Kd.R (Kd.int .i64) 3 w' w.heap.size (fun _=>True) v12 lJ)∧Aside0 (w'.heap[cZ]?=some (.cells #[(.slice bM aU.length bO),(.slice bQ aX.length bR),.int .i64 bA,.int .i64 bB,(.slice bV aQ.length bS)] 26 (0,0)))∧Aside0 (Below w.heap.size w w'))
        case atStart=>exact⟨(Mz),(([]:List Int)),(0),(by first|rfl|(simp;done)|(simp [*];done)),H',⟨Nat.le_refl _⟩,⟨by(with_reducible repeat(first|apply Kd.S_alloc|apply aV|apply aW));exact Kd.S_mono gM.out (fun _ hk=>⟨hk,(by simp [Value.ownBlock])⟩)⟩,⟨by(with_reducible repeat(first|apply Kd.S_alloc|apply aV|apply aW));exact Kd.S_mono nT.out (fun _ hk=>⟨hk,(by simp [Value.ownBlock])⟩)⟩,⟨gR cY.out⟩,⟨by first|exact Kd.R_nil _ _ _ _ _|exact Kd.N_nil _ _ _ _ _|exact Kd.V_nil _ _ _ _ _|exact Kd.Q_nil _ _ _ _ _|exact Kd.S_nil _ _ _ _ _⟩,⟨gB bT.out⟩,⟨gW HB.out⟩⟩
        case round=>
         clear H'
         (try clear c1);(try clear c2);(try clear p2);(try clear c3);(try clear c4);(try clear p4);(try clear q4);(try clear hx4);(try clear p6);(try clear c10);(try clear pS);(try clear c11);(try clear rZ);(try clear c13);(try clear c14);(try clear Cz);(try clear c15);(try clear Ce);(try clear c16);(try clear c17);(try clear c20);(try clear c26);(try clear c30);(try clear c31);(try clear c32);(try clear c33)
         (try clear Na);(try clear oL);(try clear oM);(try clear oN);(try clear oO);(try clear oP);(try clear oZ);(try clear pA);(try clear pB);(try clear pC);(try clear pD);(try clear tD);(try clear tE);(try clear vT);(try clear vU);(try clear vV);(try clear vZ);(try clear wA);(try clear wB);(try clear wC);(try clear wD)
         (try clear qZ);(try clear rA);(try clear wO);(try clear wP);(try clear wQ);(try clear sE);(try clear sF);(try clear sG);(try clear sH);(try clear sI);(try clear jP);(try clear jQ);(try clear lA);(try clear lB);(try clear lC);(try clear oQ);(try clear oR);(try clear oS);(try clear oT);(try clear oU);(try clear pE)
         (try clear pF);(try clear pG);(try clear pH);(try clear pI);(try clear tF);(try clear tG);(try clear vW);(try clear vX);(try clear vY);(try clear wE);(try clear wF);(try clear wG);(try clear wH);(try clear wI);(try clear rB);(try clear rC);(try clear wR);(try clear wS);(try clear wT);(try clear sJ);(try clear sK)
         (try clear sL);(try clear sM);(try clear sN);(try clear jR);(try clear jS);(try clear lD);(try clear lE);(try clear lF);(try clear jJ);(try clear jK);(try clear rT);(try clear rU);(try clear xO);(try clear p2);(try clear p4);(try clear p401);(try clear p406);(try clear p407);(try clear p6);(try clear q4);(try clear q401);(try clear q406);(try clear q407)
         obtain⟨Dd,lJ,kU,rfl,HA,HK3,gM,nT,cY,eH,bT,HB⟩:=hrel
         cases gk with
         |zero=>exact absurd HA.out (by simp [regletref14_Predict.l2])
         |succ k3=>
          have H:=HA.out;clear HA;simp only [regletref14_Predict.l2] at H
          by_cases c35:kU≤(aX.length:Int)
          ·rw [if_pos c35] at H
           have Qy:decide (kU≤(aX.length:Int))=true:=decide_eq_true c35;clear c35;have H':=aM H;clear H;have tO:wr.cell? ⟨cZ,0,none⟩=some (.slice bM aU.length bO):=(aG bT.out 0).trans rfl;have tP:wr.cell? ⟨cZ,1,none⟩=some (.slice bQ aX.length bR):=(aG bT.out 1).trans rfl;have xP:wr.cell? ⟨cZ,2,none⟩=some (.int .i64 bA):=(aG bT.out 2).trans rfl;have xQ:wr.cell? ⟨cZ,3,none⟩=some (.int .i64 bB):=(aG bT.out 3).trans rfl;have xR:wr.cell? ⟨cZ,4,none⟩=some (.slice bV aQ.length bS):=(aG bT.out 4).trans rfl;have tQ:=aH bT.out 0;have tR:=aH bT.out 1;have xS:=aH bT.out 2;have xT:=aH bT.out 3;have xU:=aH bT.out 4;go_wp2
           go_loopg [10,14,15] k3 (fun kq v10 v14 v15 w'=>∃(mQ:List (S78)) (kN:Int) (fP:Int),v14= .int .i64 kN∧v15= .int .i64 fP∧Aside0 (regletref14_Predict.l3 kq cC sD mQ cA lJ kU kN fP aU aX bA bB aQ=some (r1,r2))∧Aside0 (kq≤k3)∧Aside0 (Kd.S (Kd.slice 3 (Kd.int .i64)) 32 w' w.heap.size (fun k_=>some k_≠(u9:Value).ownBlock∧some k_≠(u12:Value).ownBlock) u4 cC)∧Aside0 (Kd.S (Kd.slice 3 (Kd.int .i64)) 32 w' w.heap.size (fun k_=>some k_≠(u4:Value).ownBlock∧some k_≠(u12:Value).ownBlock) u9 sD)∧Aside0 (Kd.R k78 78 w' w.heap.size (fun _=>True) v10 mQ)∧Aside0 (Kd.R (Kd.int .i64) 3 w' w.heap.size (fun _=>True) u12 lJ)∧Aside0 (w'.heap[cZ]?=some (.cells #[(.slice bM aU.length bO),(.slice bQ aX.length bR),.int .i64 bA,.int .i64 bB,(.slice bV aQ.length bS)] 26 (0,0)))∧Aside0 (Below w.heap.size w w'))
           case atStart=>exact⟨(Dd),((-1)),(0),(by first|rfl|(simp;done)|(simp [*];done)),(by first|rfl|(simp;done)|(simp [*];done)),H',⟨Nat.le_refl _⟩,⟨gS gM.out⟩,⟨gS nT.out⟩,⟨gR cY.out⟩,⟨gR eH.out⟩,⟨gB bT.out⟩,⟨gW HB.out⟩⟩
           case round=>
            clear H'
            (try clear c1);(try clear c2);(try clear p2);(try clear c3);(try clear c4);(try clear p4);(try clear q4);(try clear hx4);(try clear p6);(try clear c10);(try clear pS);(try clear c11);(try clear rZ);(try clear c13);(try clear c14);(try clear Cz);(try clear c15);(try clear Ce);(try clear c16);(try clear c17);(try clear c20);(try clear c26);(try clear c30);(try clear c31);(try clear c32);(try clear c33)
            (try clear Na);(try clear c35);(try clear Qy);(try clear oL);(try clear oM);(try clear oN);(try clear oO);(try clear oP);(try clear oZ);(try clear pA);(try clear pB);(try clear pC);(try clear pD);(try clear tD);(try clear tE);(try clear vT);(try clear vU);(try clear vV);(try clear vZ);(try clear wA);(try clear wB)
            (try clear wC);(try clear wD);(try clear qZ);(try clear rA);(try clear wO);(try clear wP);(try clear wQ);(try clear tO);(try clear tP);(try clear xP);(try clear xQ);(try clear xR);(try clear sE);(try clear sF);(try clear sG);(try clear sH);(try clear sI);(try clear jP);(try clear jQ);(try clear lA);(try clear lB)
            (try clear lC);(try clear oQ);(try clear oR);(try clear oS);(try clear oT);(try clear oU);(try clear pE);(try clear pF);(try clear pG);(try clear pH);(try clear pI);(try clear tF);(try clear tG);(try clear vW);(try clear vX);(try clear vY);(try clear wE);(try clear wF);(try clear wG);(try clear wH);(try clear wI)
            (try clear rB);(try clear rC);(try clear wR);(try clear wS);(try clear wT);(try clear tQ);(try clear tR);(try clear xS);(try clear xT);(try clear xU);(try clear sJ);(try clear sK);(try clear sL);(try clear sM);(try clear sN);(try clear jR);(try clear jS);(try clear lD);(try clear lE);(try clear lF);(try clear jJ)
            (try clear jK);(try clear rT);(try clear rU);(try clear xO);(try clear p2);(try clear p4);(try clear p401);(try clear p406);(try clear p407);(try clear p6);(try clear q4);(try clear q401);(try clear q406);(try clear q407)
            obtain⟨mQ,kN,fP,rfl,rfl,HA,HK4,gM,nT,cY,eH,bT,HB⟩:=hrel
            cases gk with
            |zero=>exact absurd HA.out (by simp [regletref14_Predict.l3])
            |succ k4=>
             have H:=HA.out;clear HA;simp only [regletref14_Predict.l3] at H
             by_cases c37:fP<(aQ.length:Int)
             ·rw [if_pos c37] at H
              have Yu:decide (fP<(aQ.length:Int))=true:=decide_eq_true c37;clear c37;have HC38:=aM H;clear H;have zR:wr.cell? ⟨cZ,0,none⟩=some (.slice bM aU.length bO):=(aG bT.out 0).trans rfl;have zS:wr.cell? ⟨cZ,1,none⟩=some (.slice bQ aX.length bR):=(aG bT.out 1).trans rfl;have Dv:wr.cell? ⟨cZ,2,none⟩=some (.int .i64 bA):=(aG bT.out 2).trans rfl;have Dw:wr.cell? ⟨cZ,3,none⟩=some (.int .i64 bB):=(aG bT.out 3).trans rfl;have Dx:wr.cell? ⟨cZ,4,none⟩=some (.slice bV aQ.length bS):=(aG bT.out 4).trans rfl;have zT:=aH bT.out 0;have zU:=aH bT.out 1;have Dy:=aH bT.out 2;have Dz:=aH bT.out 3;have Ea:=aH bT.out 4
              go_upto_region 25 with(fail)
              go_cut [92] (fun v92 wc=>∃(kq:Nat) (Gc:Bool),v92= .bool Gc∧Aside0 (regletref14_Predict.j4 kq cC sD mQ cA lJ kU kN fP Gc aU aX bA bB aQ=some (r1,r2))∧Aside0 (kq≤k4)∧Aside0 (Kd.S (Kd.slice 3 (Kd.int .i64)) 32 wc w.heap.size (fun k_=>some k_≠(u9:Value).ownBlock∧some k_≠(u12:Value).ownBlock) u4 cC)∧Aside0 (Kd.S (Kd.slice 3 (Kd.int .i64)) 32 wc w.heap.size (fun k_=>some k_≠(u4:Value).ownBlock∧some k_≠(u12:Value).ownBlock) u9 sD)∧Aside0 (Kd.R k78 78 wc w.heap.size (fun _=>True) u10 mQ)∧Aside0 (Kd.R (Kd.int .i64) 3 wc w.heap.size (fun _=>True) u12 lJ)∧Aside0 (wc.heap[cZ]?=some (.cells #[(.slice bM aU.length bO),(.slice bQ aX.length bR),.int .i64 bA,.int .i64 bB,(.slice bV aQ.length bS)] 26 (0,0)))∧Aside0 (Below w.heap.size w wc))
              case first=>
               have H:=HC38.out;clear HC38
               by_cases c40:0≤fP
               rotate_left
               ·rw [if_neg c40] at H
                exact absurd H (by simp)
               rw [if_pos c40] at H;have Qz:decide (0≤fP)=true:=decide_eq_true c40;clear c40
               (first|rw [Qz]|(simp only [i64_w,i32_w];rw [Qz])|skip)
               by_cases c41:((rd_T35 aQ fP).f0)=cA
               ·rw [if_pos c41] at H
                have Yv:(((rd_T35 aQ fP).f0)==cA)=true:=beq_iff_eq.mpr c41;have Yw:(((rd_T35 aQ fP).f0) !=cA)=false:=bne_eq_false_iff_eq.mpr c41;clear c41
                by_cases c42:fP<(cC.length:Int)
                rotate_left
                ·rw [if_neg c42] at H
                 exact absurd H (by simp)
                rw [if_pos c42] at H;have JT:decide (fP<(cC.length:Int))=true:=decide_eq_true c42;clear c42;replace H:=Option.bind_eq_some_iff.mp H;obtain⟨t425,A430,H⟩:=H;replace H:(regletref14_Predict.j4 k4 cC sD mQ cA lJ kU kN fP (!t425) aU aX bA bB aQ)=some (r1,r2):=H;have A43:=aM A430;clear A430;have H':=aM H;clear H;have uZ:wr.cell? ⟨cZ,0,none⟩=some (.slice bM aU.length bO):=(aG bT.out 0).trans rfl;have tH:wr.cell? ⟨cZ,1,none⟩=some (.slice bQ aX.length bR):=(aG bT.out 1).trans rfl;have Vw:wr.cell? ⟨cZ,2,none⟩=some (.int .i64 bA):=(aG bT.out 2).trans rfl;have Vx:wr.cell? ⟨cZ,3,none⟩=some (.int .i64 bB):=(aG bT.out 3).trans rfl;have Vy:wr.cell? ⟨cZ,4,none⟩=some (.slice bV aQ.length bS):=(aG bT.out 4).trans rfl;have vA:=aH bT.out 0;have vB:=aH bT.out 1;have Vz:=aH bT.out 2;have Wa:=aH bT.out 3;have Wb:=aH bT.out 4;have p423:0≤(fP:Int):=of_decide_eq_true (by first|(with_reducible assumption)|assumption);have q423:fP<(aQ.length:Int):=of_decide_eq_true (by first|(with_reducible assumption)|assumption);obtain⟨JU,BJ,BM,e423,pJ,pK,xV,xW⟩:=at_T35 eJ.out fP p423 q423
                cases e423;replace pJ:=(HB.out.cell (World.block_lt_of_cell? w _ pJ)).trans pJ;replace pK:=(HB.out.cell (World.block_lt_of_cell? w _ pK)).trans pK;have Wc:=aM xW;have We:=aM xV;clear xW xV;replace p423:=eq_true p423;replace q423:=eq_true q423;obtain⟨WH,WI,SU⟩:=Kd.S_slice gM.out;subst SU;have p424:0≤(fP:Int):=of_decide_eq_true (by first|(with_reducible assumption)|assumption);have q424:fP<(cC.length:Int):=of_decide_eq_true (by first|(with_reducible assumption)|assumption);obtain⟨UV,SV,SW,e424,Nb,Nc,Nd⟩:=at_L5 (Kd.S_reads' gM.out).2.2 fP p424 q424
                cases e424;obtain⟨ce424,hce424,hMe424,hcc424⟩:=Kd.S_get gM.out [] fP p424 (by first|exact q424|exact of_decide_eq_true (by first|(with_reducible assumption)|assumption)|(have e_:=(Kd.S_reads' gM.out).1;omega));obtain⟨ve424_0,rfl,ge424_0⟩:=hMe424;have hv424_0:=hcc424 0 _ rfl;rw [Nat.add_zero,show((Kd.slice 3 (Kd.int .i64))).sz=1 from rfl,Nat.mul_one] at hv424_0;replace hv424_0:=Option.some.inj (hv424_0.symm.trans Nb);rw [hv424_0] at ge424_0;have HL424_0:=aM (show Kd.R (Kd.int .i64) 3 _ _ _ _ (rd_L5 cC fP) from ge424_0);clear hv424_0 ge424_0 hcc424 hce424;have Nf:=aM Nd;have Wf:=aM Nc;clear Nd Nc;replace p424:=eq_true p424;replace q424:=eq_true q424
                go_wp2_with (first|(go_at_call 33;(with_reducible refine(regletref14_has.calls k4 _ _ (rd_L5 cC fP) kU t425 _ ?side1 ?side2 A43.out).mono ?_);(case side1=>exact gC (by repeat(first|(with_reducible exact Nf.out)|(with_reducible refine Kd.C_alloc ?_ _)|(with_reducible refine Kd.C_drewN ?_ _)|(with_reducible refine bC ?_)|exact Nf.out)));(case side2=>exact Wf.out);rintro e w' ⟨rfl,⟨nd,rfl⟩⟩))
                go_meet
                case rel=>exact⟨_,(!t425),(by first|rfl|(simp;done)|(simp [*];done)),H',⟨by have:=HK1.out;have:=HK2.out;have:=HK3.out;have:=HK4.out;first|omega|exact Nat.le_refl _⟩,⟨gS gM.out⟩,⟨gS nT.out⟩,⟨gR cY.out⟩,⟨gR eH.out⟩,⟨gB bT.out⟩,⟨gW HB.out⟩⟩
               ·rw [if_neg c41] at H
                have Yv:(((rd_T35 aQ fP).f0)==cA)=false:=beq_eq_false_iff_ne.mpr c41;have Yw:(((rd_T35 aQ fP).f0) !=cA)=true:=bne_iff_ne.mpr c41;have H':=aM H;clear H;have xE:wr.cell? ⟨cZ,0,none⟩=some (.slice bM aU.length bO):=(aG bT.out 0).trans rfl;have xF:wr.cell? ⟨cZ,1,none⟩=some (.slice bQ aX.length bR):=(aG bT.out 1).trans rfl;have Wg:wr.cell? ⟨cZ,2,none⟩=some (.int .i64 bA):=(aG bT.out 2).trans rfl;have Wh:wr.cell? ⟨cZ,3,none⟩=some (.int .i64 bB):=(aG bT.out 3).trans rfl;have Wi:wr.cell? ⟨cZ,4,none⟩=some (.slice bV aQ.length bS):=(aG bT.out 4).trans rfl;have xG:=aH bT.out 0;have xH:=aH bT.out 1;have Wj:=aH bT.out 2;have Wk:=aH bT.out 3;have Wl:=aH bT.out 4;have p423:0≤(fP:Int):=of_decide_eq_true (by first|(with_reducible assumption)|assumption);have q423:fP<(aQ.length:Int):=of_decide_eq_true (by first|(with_reducible assumption)|assumption);obtain⟨JU,BJ,BM,e423,pJ,pK,xV,xW⟩:=at_T35 eJ.out fP p423 q423
                cases e423;replace pJ:=(HB.out.cell (World.block_lt_of_cell? w _ pJ)).trans pJ;replace pK:=(HB.out.cell (World.block_lt_of_cell? w _ pK)).trans pK;have Wc:=aM xW;have We:=aM xV;clear xW xV;replace p423:=eq_true p423;replace q423:=eq_true q423;go_wp2
                go_meet
                case rel=>exact⟨_,(true),(by first|rfl|(simp;done)|(simp [*];done)),H',⟨by have:=HK1.out;have:=HK2.out;have:=HK3.out;have:=HK4.out;first|omega|exact Nat.le_refl _⟩,⟨gS gM.out⟩,⟨gS nT.out⟩,⟨gR cY.out⟩,⟨gR eH.out⟩,⟨gB bT.out⟩,⟨gW HB.out⟩⟩
              case rest=>
               clear HC38
               (try clear c1);(try clear c2);(try clear p2);(try clear c3);(try clear c4);(try clear p4);(try clear q4);(try clear hx4);(try clear p6);(try clear c10);(try clear pS);(try clear c11);(try clear rZ);(try clear c13);(try clear c14);(try clear Cz);(try clear c15);(try clear Ce);(try clear c16);(try clear c17);(try clear c20);(try clear c26);(try clear c30);(try clear c31);(try clear c32);(try clear c33)
               (try clear Na);(try clear c35);(try clear Qy);(try clear c37);(try clear Yu);(try clear c40);(try clear Qz);(try clear p40);(try clear q40);(try clear hx40);(try clear c41);(try clear Yv);(try clear Yw);(try clear c42);(try clear JT);(try clear p42);(try clear q42);(try clear hx42);(try clear oL);(try clear oM);(try clear oN);(try clear oO);(try clear oP)
               (try clear oZ);(try clear pA);(try clear pB);(try clear pC);(try clear pD);(try clear tD);(try clear tE);(try clear vT);(try clear vU);(try clear vV);(try clear vZ);(try clear wA);(try clear wB);(try clear wC);(try clear wD);(try clear qZ);(try clear rA);(try clear wO);(try clear wP);(try clear wQ);(try clear tO)
               (try clear tP);(try clear xP);(try clear xQ);(try clear xR);(try clear zR);(try clear zS);(try clear Dv);(try clear Dw);(try clear Dx);(try clear uZ);(try clear tH);(try clear Vw);(try clear Vx);(try clear Vy);(try clear xE);(try clear xF);(try clear Wg);(try clear Wh);(try clear Wi);(try clear sE);(try clear sF)
               (try clear sG);(try clear sH);(try clear sI);(try clear jP);(try clear jQ);(try clear lA);(try clear lB);(try clear lC);(try clear oQ);(try clear oR);(try clear oS);(try clear oT);(try clear oU);(try clear pE);(try clear pF);(try clear pG);(try clear pH);(try clear pI);(try clear tF);(try clear tG);(try clear vW)
               (try clear vX);(try clear vY);(try clear wE);(try clear wF);(try clear wG);(try clear wH);(try clear wI);(try clear rB);(try clear rC);(try clear wR);(try clear wS);(try clear wT);(try clear tQ);(try clear tR);(try clear xS);(try clear xT);(try clear xU);(try clear zT);(try clear zU);(try clear Dy);(try clear Dz)
               (try clear Ea);(try clear vA);(try clear vB);(try clear Vz);(try clear Wa);(try clear Wb);(try clear xG);(try clear xH);(try clear Wj);(try clear Wk);(try clear Wl);(try clear sJ);(try clear sK);(try clear sL);(try clear sM);(try clear sN);(try clear jR);(try clear jS);(try clear lD);(try clear lE);(try clear lF)
               (try clear jJ);(try clear jK);(try clear rT);(try clear rU);(try clear xO);(try clear pJ);(try clear pK);(try clear Nb);(try clear p2);(try clear p4);(try clear p401);(try clear p406);(try clear p407);(try clear p423);(try clear p424);(try clear p6);(try clear q4);(try clear q401);(try clear q406);(try clear q407);(try clear q423);(try clear q424)
               obtain⟨kq,Gc,rfl,HA,HJ37,gM,nT,cY,eH,bT,HB⟩:=hcut
               cases kq with
               |zero=>exact absurd HA.out (by simp [regletref14_Predict.j4])
               |succ Kb=>
                have H:=HA.out;clear HA;simp only [regletref14_Predict.j4] at H
                by_cases c47:Gc=true
                ·subst c47
                 have H1:(regletref14_Predict.l3 Kb cC sD mQ cA lJ kU kN (wrap64 (fP+1)) aU aX bA bB aQ)=some (r1,r2):=by rw [if_pos rfl] at H;exact H
                 clear H;have H:=H1;clear H1;have H':=aM H;clear H;go_wp2
                 go_roundg Kb
                 case measure=>have:=HK1.out;have:=HK2.out;have:=HK3.out;have:=HK4.out;have:=HJ37.out;omega
                 case rel=>exact⟨(mQ),(kN),(wrap64 (fP+1)),(by first|rfl|(simp;done)|(simp [*];done)),(by first|rfl|(simp;done)|(simp [*];done)),H',⟨by have:=HK1.out;have:=HK2.out;have:=HK3.out;have:=HK4.out;have:=HJ37.out;omega⟩,⟨gS gM.out⟩,⟨gS nT.out⟩,⟨gR cY.out⟩,⟨gR eH.out⟩,⟨gB bT.out⟩,⟨gW HB.out⟩⟩
                ·replace c47:=Bool.eq_false_iff.mpr c47
                 subst c47;have H1:(if kN<0 then(regletref14_Predict.l3 Kb cC sD mQ cA lJ kU fP (wrap64 (fP+1)) aU aX bA bB aQ) else(if mQ.length<4398046511104 then(regletref14_Predict.l3 Kb cC sD (mQ++ [(⟨cA,kU,kN,fP⟩:S78)]) cA lJ kU kN (wrap64 (fP+1)) aU aX bA bB aQ) else(none)))=some (r1,r2):=by rw [if_neg (show ¬(false=true) by decide)] at H;exact H
                 clear H;have H:=H1;clear H1
                 by_cases c48:kN<0
                 ·rw [if_pos c48] at H
                  have Qs:decide (kN<0)=true:=decide_eq_true c48;clear c48;have H':=aM H;clear H;go_wp2
                  go_roundg Kb
                  case measure=>have:=HK1.out;have:=HK2.out;have:=HK3.out;have:=HK4.out;have:=HJ37.out;omega
                  case rel=>exact⟨(mQ),(fP),(wrap64 (fP+1)),(by first|rfl|(simp;done)|(simp [*];done)),(by first|rfl|(simp;done)|(simp [*];done)),H',⟨by have:=HK1.out;have:=HK2.out;have:=HK3.out;have:=HK4.out;have:=HJ37.out;omega⟩,⟨gS gM.out⟩,⟨gS nT.out⟩,⟨gR cY.out⟩,⟨gR eH.out⟩,⟨gB bT.out⟩,⟨gW HB.out⟩⟩
                 ·rw [if_neg c48] at H
                  have Qs:decide (kN<0)=false:=decide_eq_false c48;clear c48
                  by_cases c49:mQ.length<4398046511104
                  rotate_left
                  ·rw [if_neg c49] at H
                   exact absurd H (by simp)
                  rw [if_pos c49] at H;have Qt:=aM c49;clear c49;obtain⟨y426,Iv⟩:∃y_:List (S78),y_=(mQ++ [(⟨cA,kU,kN,fP⟩:S78)]):=⟨_,rfl⟩;replace H:(regletref14_Predict.l3 Kb cC sD y426 cA lJ kU kN (wrap64 (fP+1)) aU aX bA bB aQ)=some (r1,r2):=by first|(rw [Iv];with_reducible exact H)|(have H2_:=(Option.bind_some _ _).symm.trans H;rw [Iv];with_reducible exact H2_)|(have H2_:=(Option.bind_some _ _).symm.trans H;with_reducible exact H2_)|with_reducible exact H|(rw [Iv];exact H)|exact H
                  have JV:=aM Iv;clear Iv;have H':=aM H;clear H
                  go_wp2_with (first|((with_reducible refine gate_builtin (b:= .append) (xs:=#[.tmp 96,.tmp 102]) rfl ?_);at_builtin;refine Kd.R_append k78 (w0:=w) w.heap.size rfl (.tmp 96) (.tmp 102) 48 78 (.agg #[(.int .i64 0),(.int .i64 0),(.int .i64 0),(.int .i64 0)]) 32 rfl Try.underlying48 info78 rfl (by decide) (by omega) u10 mQ (⟨cA,kU,kN,fP⟩:S78) [.int .i64 cA,.int .i64 kU,.int .i64 kN,.int .i64 fP] (fun _=>True) (fun _=>False) rfl rfl ?aP (fun _ hk=>hk.elim) ?aF ?aO ?aB ?aS ?aL ?_;(case aP=>exact k78_mkM _ _ _ (⟨cA,kU,kN,fP⟩:S78));(case aB=>exact(gW HB.out));(case aF=>exact(fun _ _=>trivial));(case aO=>exact(gR cY.out));(case aS=>exact(bH (gW HB.out)));(case aL=>have:=Qt.out;omega);intro v427 w50 ho hb hg hat;rw [←JV.out] at ho;have cE:=aM (Kd.S_over' (gS gM.out) (Kd.R_typed (gR cY.out)) (by decide) hg);have cF:=aM (Kd.S_over' (gS nT.out) (Kd.R_typed (gR cY.out)) (by decide) hg);have cH:=aM (Kd.R_over' (gR eH.out) (Kd.R_typed (gR cY.out)) (by decide) hg);have cM:=aM (blk_grown (gB bT.out) hg (Kd.R_ne cY.out bT.out (by decide)));have dH:=aM (hb);have dN:=aM (ho);clear gM;clear nT;clear eH;clear bT;clear HB;clear cY;have gM:=cE;have nT:=cF;have eH:=cH;have bT:=cM;have HB:=dH;have JW:=dN;clear cE cF cH cM dH dN;clear ho hb hg hat))
                  go_roundg Kb
                  case measure=>have:=HK1.out;have:=HK2.out;have:=HK3.out;have:=HK4.out;have:=HJ37.out;omega
                  case rel=>exact⟨(y426),(kN),(wrap64 (fP+1)),(by first|rfl|(simp;done)|(simp [*];done)),(by first|rfl|(simp;done)|(simp [*];done)),H',⟨by have:=HK1.out;have:=HK2.out;have:=HK3.out;have:=HK4.out;have:=HJ37.out;omega⟩,⟨gS gM.out⟩,⟨gS nT.out⟩,⟨gR JW.out⟩,⟨gR eH.out⟩,⟨gB bT.out⟩,⟨gW HB.out⟩⟩
             ·rw [if_neg c37] at H
              have Yu:decide (fP<(aQ.length:Int))=false:=decide_eq_false c37;clear c37
              by_cases c51:lJ.length<17592186044416
              rotate_left
              ·rw [if_neg c51] at H
               exact absurd H (by simp)
              rw [if_pos c51] at H;have JX:=aM c51;clear c51;obtain⟨y420,Iw⟩:∃y_:List Int,y_=(lJ++ [kN]):=⟨_,rfl⟩;replace H:(regletref14_Predict.l2 k4 cC sD mQ cA y420 (wrap64 (kU+1)) aU aX bA bB aQ)=some (r1,r2):=by first|(rw [Iw];with_reducible exact H)|(have H2_:=(Option.bind_some _ _).symm.trans H;rw [Iw];with_reducible exact H2_)|(have H2_:=(Option.bind_some _ _).symm.trans H;with_reducible exact H2_)|with_reducible exact H|(rw [Iw];exact H)|exact H
              have JY:=aM Iw;clear Iw;have H':=aM H;clear H;have vJ:wr.cell? ⟨cZ,0,none⟩=some (.slice bM aU.length bO):=(aG bT.out 0).trans rfl;have vK:wr.cell? ⟨cZ,1,none⟩=some (.slice bQ aX.length bR):=(aG bT.out 1).trans rfl;have Th:wr.cell? ⟨cZ,2,none⟩=some (.int .i64 bA):=(aG bT.out 2).trans rfl;have Ti:wr.cell? ⟨cZ,3,none⟩=some (.int .i64 bB):=(aG bT.out 3).trans rfl;have Tj:wr.cell? ⟨cZ,4,none⟩=some (.slice bV aQ.length bS):=(aG bT.out 4).trans rfl;have vL:=aH bT.out 0;have vM:=aH bT.out 1;have Tk:=aH bT.out 2;have Tl:=aH bT.out 3;have Tm:=aH bT.out 4
              go_wp2_with (first|((with_reducible refine gate_builtin (b:= .append) (xs:=#[.tmp 104,.tmp 106]) rfl ?_);at_builtin;refine Kd.R_append (Kd.int .i64) (w0:=w) w.heap.size rfl (.tmp 104) (.tmp 106) 32 3 (.int .i64 0) 8 rfl Try.underlying32 info3 rfl (by decide) (by omega) u12 lJ kN [.int .i64 kN] (fun _=>True) (fun _=>False) rfl rfl ?aP (fun _ hk=>hk.elim) ?aF ?aO ?aB ?aS ?aL ?_;(case aP=>exact rfl);(case aB=>exact(gW HB.out));(case aF=>exact(fun _ _=>trivial));(case aO=>exact(gR eH.out));(case aS=>exact(bH (gW HB.out)));(case aL=>have:=JX.out;omega);intro v421 w53 ho hb hg hat;rw [←JY.out] at ho;have cE:=aM (Kd.S_after (ok:=(fun k_=>some k_≠(u9:Value).ownBlock)) (gS gM.out) hg hat);have cF:=aM (Kd.S_after (ok:=(fun k_=>some k_≠(u4:Value).ownBlock)) (gS nT.out) hg hat);have cH:=aM (Kd.R_over' (gR cY.out) (Kd.R_typed (gR eH.out)) (by decide) hg);have cM:=aM (blk_grown (gB bT.out) hg (Kd.R_ne eH.out bT.out (by decide)));have dH:=aM (hb);have dN:=aM (ho);clear gM;clear nT;clear cY;clear bT;clear HB;clear eH;have gM:=cE;have nT:=cF;have cY:=cH;have bT:=cM;have HB:=dH;have JZ:=dN;clear cE cF cH cM dH dN;clear ho hb hg hat))
              go_roundg k4
              case measure=>have:=HK1.out;have:=HK2.out;have:=HK3.out;have:=HK4.out;omega
              case rel=>exact⟨(mQ),(y420),(wrap64 (kU+1)),(by first|rfl|(simp;done)|(simp [*];done)),H',⟨by have:=HK1.out;have:=HK2.out;have:=HK3.out;have:=HK4.out;omega⟩,⟨gS gM.out⟩,⟨gS nT.out⟩,⟨gR cY.out⟩,⟨gR JZ.out⟩,⟨gB bT.out⟩,⟨gW HB.out⟩⟩
          ·rw [if_neg c35] at H
           have Qy:decide (kU≤(aX.length:Int))=false:=decide_eq_false c35;clear c35
           by_cases c54:sD.length<5864062014805
           rotate_left
           ·rw [if_neg c54] at H
            exact absurd H (by simp)
           rw [if_pos c54] at H;have KA:=aM c54;clear c54;obtain⟨y417,Ix⟩:∃y_:List (List Int),y_=(sD++ [lJ]):=⟨_,rfl⟩;replace H:(regletref14_Predict.l1 k3 cC y417 Dd (wrap64 (cA+1)) aU aX bA bB aQ)=some (r1,r2):=by first|(rw [Ix];with_reducible exact H)|(have H2_:=(Option.bind_some _ _).symm.trans H;rw [Ix];with_reducible exact H2_)|(have H2_:=(Option.bind_some _ _).symm.trans H;with_reducible exact H2_)|with_reducible exact H|(rw [Ix];exact H)|exact H
           have KC:=aM Ix;clear Ix;have H':=aM H;clear H;have Bh:wr.cell? ⟨cZ,0,none⟩=some (.slice bM aU.length bO):=(aG bT.out 0).trans rfl;have Bi:wr.cell? ⟨cZ,1,none⟩=some (.slice bQ aX.length bR):=(aG bT.out 1).trans rfl;have Bj:wr.cell? ⟨cZ,2,none⟩=some (.int .i64 bA):=(aG bT.out 2).trans rfl;have Bk:wr.cell? ⟨cZ,3,none⟩=some (.int .i64 bB):=(aG bT.out 3).trans rfl;have Bl:wr.cell? ⟨cZ,4,none⟩=some (.slice bV aQ.length bS):=(aG bT.out 4).trans rfl;have Bm:=aH bT.out 0;have Bn:=aH bT.out 1;have Bo:=aH bT.out 2;have Bp:=aH bT.out 3;have Bq:=aH bT.out 4;obtain⟨BN,BO,SX⟩:=Kd.R_slice eH.out;subst SX
           go_wp2_with (first|((with_reducible refine gate_builtin (b:= .append) (xs:=#[.tmp 108,.tmp 110]) rfl ?_);at_builtin;refine Kd.S_append (Kd.slice 3 (Kd.int .i64)) (w0:=w) w.heap.size rfl (.tmp 108) (.tmp 110) 28 32 (.slice none 0 0) 24 rfl Try.underlying28 info32 rfl (by decide) (by omega) u9 sD lJ [.slice BN lJ.length BO] (fun k_=>some k_≠(u4:Value).ownBlock) (fun k_=>some k_=(.slice BN lJ.length BO:Value).ownBlock) rfl rfl ?aP (fun k_ hk_=>((Kd.R_mono (ok':=fun k_=>((fun k_=>some k_≠(u4:Value).ownBlock)) k_∧some k_≠(u9:Value).ownBlock) (Kd.R_apart' (Kd.R_apart' (eH.out) (Kd.S_typed gM.out) (by decide)) (Kd.S_typed nT.out) (by decide)) (fun k_ hk=>⟨hk.1.2,hk.2⟩))).1 k_ hk_.symm) ?aF ?aO ?aB ?aS ?aL ?_;(case aP=>exact Kd.M_row (Kd.R_mono (Kd.R_tight rfl (Kd.R_mono (ok':=fun k_=>((fun k_=>some k_≠(u4:Value).ownBlock)) k_∧some k_≠(u9:Value).ownBlock) (Kd.R_apart' (Kd.R_apart' (eH.out) (Kd.S_typed gM.out) (by decide)) (Kd.S_typed nT.out) (by decide)) (fun k_ hk=>⟨hk.1.2,hk.2⟩))) (fun _ h_=>h_)));(case aB=>exact(gW HB.out));(case aF=>exact(fun k_ hk=>Kd.fresh' (Kd.S_lt (gS gM.out)) k_ hk));(case aO=>exact(by(with_reducible repeat(first|apply Kd.S_alloc|apply aV|apply aW));exact Kd.S_mono nT.out (fun k_ hk=>⟨hk.1,fun e_=>hk.2 e_⟩)));(case aS=>exact(bH (gW HB.out)));(case aL=>have:=KA.out;omega);intro v418 w56 ho hb hg hat;rw [←KC.out] at ho;have cE:=aM (Kd.S_after (ok:=(fun k_=>some k_≠(.slice BN lJ.length BO:Value).ownBlock)) (by(with_reducible repeat(first|apply Kd.S_alloc|apply aV|apply aW));exact Kd.S_mono gM.out (fun _ hk=>⟨hk.2,hk.1⟩)) hg hat);have cF:=aM (Kd.R_over' (gR cY.out) (Kd.S_typed (gS nT.out)) (by decide) hg);have cH:=aM (blk_grown (gB bT.out) hg (Kd.S_ne nT.out bT.out (by decide)));have cM:=aM (hb);have dH:=aM (ho);clear gM;clear cY;clear bT;clear HB;clear nT;clear eH;have gM:=cE;have cY:=cF;have bT:=cH;have HB:=cM;have KD:=dH;clear cE cF cH cM dH;clear ho hb hg hat))
           go_roundg k3
           case measure=>have:=HK1.out;have:=HK2.out;have:=HK3.out;omega
           case rel=>exact⟨(y417),(Dd),(wrap64 (cA+1)),(by first|rfl|(simp;done)|(simp [*];done)),H',⟨by have:=HK1.out;have:=HK2.out;have:=HK3.out;omega⟩,⟨by(with_reducible repeat(first|apply Kd.S_alloc|apply aV|apply aW));exact Kd.S_mono gM.out (fun _ hk=>hk.2)⟩,⟨gS KD.out⟩,⟨gR cY.out⟩,⟨gB bT.out⟩,⟨gW HB.out⟩⟩
       ·rw [if_neg c33] at H
        have Na:decide (cA<(aU.length:Int))=false:=decide_eq_false c33;clear c33;simp only [Option.some.injEq,Prod.mk.injEq] at H;obtain⟨rfl,rfl⟩:=H;have Vo:wr.cell? ⟨cZ,0,none⟩=some (.slice bM aU.length bO):=(aG bT.out 0).trans rfl;have Vp:wr.cell? ⟨cZ,1,none⟩=some (.slice bQ aX.length bR):=(aG bT.out 1).trans rfl;have NP:wr.cell? ⟨cZ,2,none⟩=some (.int .i64 bA):=(aG bT.out 2).trans rfl;have NQ:wr.cell? ⟨cZ,3,none⟩=some (.int .i64 bB):=(aG bT.out 3).trans rfl;have NR:wr.cell? ⟨cZ,4,none⟩=some (.slice bV aQ.length bS):=(aG bT.out 4).trans rfl;have Vq:=aH bT.out 0;have Vr:=aH bT.out 1;have NS:=aH bT.out 2;have NT:=aH bT.out 3;have NU:=aH bT.out 4;go_wp2
        go_ret2
        exact⟨_,_,by first|rfl|(simp [errW_none,errW_some]<;>rfl)|(simp [*,errW_none,errW_some]<;>rfl),by(with_reducible repeat(first|apply Kd.S_alloc|apply aV|apply aW));exact Kd.S_mono nT.out (fun _ hk=>trivial),gR cY.out,gW HB.out⟩
 ·replace c3:=Bool.eq_false_iff.mpr c3
  subst c3;have H1:(some (([]:List (List Int)),([]:List (S78))))=some (r1,r2):=by rw [if_neg (show ¬(false=true) by decide)] at H;exact H
  clear H;have H:=H1;clear H1;simp only [Option.some.injEq,Prod.mk.injEq] at H;obtain⟨rfl,rfl⟩:=H;go_enter Try.func20,Try.ntmps20
  go_wp2_with (first|((with_reducible refine bJ (N:=1) rfl ?_);refine box_event ?hg (N:=1) ?hd (cs:=#[.slice bM aU.length bO,.slice bQ aX.length bR,.int .i64 bA,.int .i64 bB,.slice bV aQ.length bS]) (t:=26) ?hr ?_;(case hd=>rfl);(case hg=>rfl);(case hr=>first|(go_simp;done)|(go_simp;rfl));intro cZ hg w59 hbox hb;have cE:=aM (bG (gW HB.out) hb);have cF:=aM (hbox);have cH:=aM ((by rw [hg];exact(bH (gW HB.out)):w.heap.size≤cZ));have cM:=aM ((by rw [hg];exact(bH (gW HB.out)):w.heap.size≤cZ));clear HB;have HB:=cE;have bT:=cF;have GW396:=cH;have JI:=cM;clear cE cF cH cM;clear hb hbox hg;have Bd:w59.cell? ⟨cZ,0,none⟩=some (.slice bM aU.length bO):=(aG bT.out 0).trans rfl;have Be:w59.cell? ⟨cZ,1,none⟩=some (.slice bQ aX.length bR):=(aG bT.out 1).trans rfl;have Gd:w59.cell? ⟨cZ,2,none⟩=some (.int .i64 bA):=(aG bT.out 2).trans rfl;have Ge:w59.cell? ⟨cZ,3,none⟩=some (.int .i64 bB):=(aG bT.out 3).trans rfl;have Gf:w59.cell? ⟨cZ,4,none⟩=some (.slice bV aQ.length bS):=(aG bT.out 4).trans rfl;have Bf:=aH bT.out 0;have Bg:=aH bT.out 1;have Gg:=aH bT.out 2;have Gh:=aH bT.out 3;have Gi:=aH bT.out 4)|((with_reducible refine bI (f:=30) rfl ?_);refine goesL_ (some 17) rfl rfl Try.func30 (by kernel_rfl) rfl #[.agg #[.slice bM aU.length bO,.slice bQ aX.length bR,.int .i64 bA,.int .i64 bB,.slice bV aQ.length bS]] rfl (by(try simp only [List.map_toArray,List.map_cons,List.map_nil]);first|done|rfl|(simp only [List.length_drop,List.length_take];rfl)) ?_;(with_reducible refine(regletref13_Right.calls k _ _ aU _ _ aX bA bB _ _ aQ false _ ?side1 ?side2 ?side3 ?side4 ?side5 ?side6 A2.out).mono ?_);(case side1=>exact gC (bD fN.out HB.out));(case side2=>exact fS.out);(case side3=>exact gC (bD gA.out HB.out));(case side4=>exact gD.out);(case side5=>exact gC (bD eJ.out HB.out));(case side6=>exact gE.out);rintro e w61 ⟨rfl,hb⟩;refine⟨_,rfl,?_⟩;have cE:=aM (bF (gB bT.out) hb);have cF:=aM (bG (gW HB.out) hb);clear bT;clear HB;have bT:=cE;have HB:=cF;clear cE cF;(try clear hb);(try clear hb2);(try clear hk);(try clear hi)))
  go_ret2
  exact⟨_,_,by first|rfl|(simp [errW_none,errW_some]<;>rfl)|(simp [*,errW_none,errW_some]<;>rfl),by first|exact Kd.S_nil _ _ _ _ _|exact Kd.N_nil _ _ _ _ _|exact Kd.V_nil _ _ _ _ _|exact Kd.Q_nil _ _ _ _ _|exact Kd.R_nil _ _ _ _ _,by first|exact Kd.R_nil _ _ _ _ _|exact Kd.N_nil _ _ _ _ _|exact Kd.V_nil _ _ _ _ _|exact Kd.Q_nil _ _ _ _ _|exact Kd.S_nil _ _ _ _ _,gW HB.out⟩
end Go.Proofs.Ytapjfnfengefpaa.P
end

section
namespace Go.Proofs.Ytapjfnfengefpaa.M
open Go.RowKit Go.Proofs.YtapjfnfengefpaaW.PrintWords Go.Proofs.YtapjfnfengefpaaW.PrintLast Go.Proofs.YtapjfnfengefpaaW.PrintMore Go.Proofs.Ytapjfnfengefpaa.P Go.Proofs.Ytapjfnfengefpaa.H
set_option linter.unusedVariables false
set_option linter.unusedSimpArgs false
abbrev Clash:=S78
def markOn (l:List Int) (row:List Bool):List Bool:=l.foldl (fun row t=>row.set t.toNat true) row
theorem markOn_getD:∀(l:List Int) (row:List Bool),(∀t∈l,0≤t∧t.toNat<row.length)→∀look:Nat,(markOn l row).getD look false=(row.getD look false||decide ((look:Int)∈l))
 | [],_,_,_=>by simp [markOn]
 |t::l,row,h,look=>by
  obtain⟨h0,h1⟩:=h t List.mem_cons_self;rw [markOn,List.foldl_cons,←markOn,markOn_getD l _ (fun x hx=>by rw [List.length_set];exact h x (List.mem_cons_of_mem _ hx)) look]
  by_cases he:t.toNat=look
  ·subst he
   rw [get_set _ _ h1];have:((t.toNat:Nat):Int)=t:=by omega
   simp [this]
  ·rw [List.getD_eq_getElem?_getD,List.getElem?_set_ne he,←List.getD_eq_getElem?_getD]
   have:¬(look:Int)=t:=by omega
   simp [this]
theorem idx_range:∀(a:List Bool) (n:Nat),∀x∈idx n a,(n:Int)≤x∧x<((n+a.length:Nat):Int)
 | [],_,x,hx=>by simp [idx] at hx
 |b::a,n,x,hx=>by
  have ih:=idx_range a (n+1)
  unfold idx at hx
  split at hx
  ·rcases List.mem_cons.1 hx with rfl|h
   ·simp;omega
   ·have:=ih x h;simp at this ⊢;omega
  ·have:=ih x hx;simp at this ⊢;omega
section
variable (l0:List ByteArray) (l1:List Tok) (a2 a3:Int) (l4:List Prod)
def sel (nn nt:Nat) (ps:List Prod) (p:Prod):List Int:=(dOf nn nt ps p.f1).1++(if(dOf nn nt ps p.f1).2=true then(dFollow nn nt ps).getD p.f0.toNat [] else [])
def chRow (nn nt:Nat) (ps:List Prod) (p:Prod):List Bool:=markOn (sel nn nt ps p) (none0 nt)
theorem of_range {nn nt:Nat}{ps:List Prod}(hps:ps.all (okProd nn nt)=true) (l:List Sym):(dOf nn nt ps l).1.length≤nt+1∧∀x∈(dOf nn nt ps l).1,0≤x∧x<((nt+1:Nat):Int):=by
 unfold dOf
 split
 ·rename_i hc
  have hb:=bg_length (clo false nn ps) (fst_sh nn nt (clo false nn ps) hps) l _ hc.2.2 (none0_length nt);refine⟨by have:=idx_length 0 (bg (clo false nn ps) (fst nn nt (clo false nn ps) ps) l (none0 nt)).1;simp only;omega,fun x hx=>?_⟩
  have:=idx_range _ 0 x hx;rw [hb] at this
  simpa using this
 ·simp
theorem follow_range {nn nt:Nat}{ps:List Prod}(hps:ps.all (okProd nn nt)=true):(dFollow nn nt ps).length=nn∧∀i,((dFollow nn nt ps).getD i []).length≤nt+1∧∀x∈(dFollow nn nt ps).getD i [],0≤x∧x<((nt+1:Nat):Int):=by
 unfold dFollow
 rw [if_pos hps];have hs:=fol_sh (clo false nn ps) (fst_sh nn nt (clo false nn ps) hps) hps;refine⟨by rw [idxs,List.length_map,hs.1],fun i=>?_⟩
 by_cases hi:i<nn
 rotate_left
 ·rw [List.getD_eq_getElem?_getD,List.getElem?_eq_none (by rw [idxs,List.length_map,hs.1];omega)]
  simp
 have e:(idxs (fol nn nt (clo false nn ps) (fst nn nt (clo false nn ps) ps) ps)).getD i []=idx 0 ((fol nn nt (clo false nn ps) (fst nn nt (clo false nn ps) ps) ps).getD i []):=by
  have hlt:i<(fol nn nt (clo false nn ps) (fst nn nt (clo false nn ps) ps) ps).length:=by rw [hs.1];exact hi
  rw [idxs,List.getD_eq_getElem?_getD,List.getElem?_map,List.getD_eq_getElem?_getD,List.getElem?_eq_getElem hlt];rfl
 rw [e];have hl:=hs.get hi;refine⟨by have:=idx_length 0 ((fol nn nt (clo false nn ps) (fst nn nt (clo false nn ps) ps) ps).getD i []);omega,fun x hx=>?_⟩
 have:=idx_range _ 0 x hx;rw [hl] at this
 simpa using this
theorem sel_range {nn nt:Nat}{ps:List Prod}(hps:ps.all (okProd nn nt)=true) (p:Prod):(sel nn nt ps p).length≤2 * (nt+1)∧∀x∈sel nn nt ps p,0≤x∧x<((nt+1:Nat):Int):=by
 have h1:=of_range hps p.f1;have h2:=(follow_range hps).2 p.f0.toNat
 unfold sel
 refine⟨?_,fun x hx=>?_⟩
 ·rw [List.length_append]
  split
  ·omega
  ·simp;omega
 ·rcases List.mem_append.1 hx with h|h
  ·exact h1.2 x h
  ·split at h
   ·exact h2.2 x h
   ·simp at h
theorem chRow_getD {nn nt:Nat}{ps:List Prod}(hps:ps.all (okProd nn nt)=true) (p:Prod) (look:Nat):(chRow nn nt ps p).getD look false=decide ((look:Int)∈sel nn nt ps p):=by
 rw [chRow,markOn_getD _ _ (fun t ht=>by have:=(sel_range hps p).2 t ht;rw [none0_length];omega)];simp [none0,List.getElem?_replicate]
 intro h
 by_cases hl:look<nt+1
 rotate_left
 ·rw [if_neg hl] at h;simp at h
 rw [if_pos hl] at h;simp at h
variable {l0 l1 a2 a3 l4}
end
theorem has14_l0_ev (n:Int):∀(a pre:List Int),pre.length+a.length≤1000000→Ev (fun k=>regletref14_has.l0 k (pre++a) n (pre.length:Int)) (decide (n∈a))
 | [],pre,_=>Ev.step (fun k=>by rw [regletref14_has.l0]) (Ev.neg (by simp) (Ev.some (by simp)))
 |x::a,pre,h3=>by
  simp only [List.length_cons] at h3;have ih:=has14_l0_ev n a (pre++ [x]) (by simp;omega);simp only [←wrap_next pre _ (show pre.length≤1000000 by omega),List.append_assoc,List.singleton_append] at ih;refine Ev.step (fun k=>by rw [regletref14_has.l0]) (Ev.pos (by simp;omega) (Ev.pos (by omega) ?_))
  rw [show rd (pre++x::a) (pre.length:Int)=x from getD_mid _ pre x a _ rfl]
  by_cases h:x=n
  ·exact Ev.pos h (Ev.some (by simp [h]))
  ·exact Ev.neg h (Ev.val ih (by simp [Ne.symm h]))
theorem has14_ev (a:List Int) (n:Int) (h:a.length≤1000000):Ev (fun k=>regletref14_has.f k a n) (decide (n∈a)):=
 Ev.congr (fun k=>by rw [regletref14_has.f]) (by simpa using has14_l0_ev n a [] (by simpa using h))
def pRow (b:List (List Bool)) (ps:List Prod) (r:Nat):Nat→Nat→List Clash→List Int×List Clash
 |0,_,bad=>([],bad)
 |n+1,look,bad=>((prIn b r look 0 ps (-1,bad)).1::(pRow b ps r n (look+1) (prIn b r look 0 ps (-1,bad)).2).1,(pRow b ps r n (look+1) (prIn b r look 0 ps (-1,bad)).2).2)
def pAll (b:List (List Bool)) (ps:List Prod) (w:Nat):Nat→Nat→List Clash→List (List Int)×List Clash
 |0,_,bad=>([],bad)
 |n+1,r,bad=>((pRow b ps r w 0 bad).1::(pAll b ps w n (r+1) (pRow b ps r w 0 bad).2).1,(pAll b ps w n (r+1) (pRow b ps r w 0 bad).2).2)
theorem prIn_max (b:List (List Bool)) (r look:Nat):∀(ps:List Prod) (i:Nat) (st:Int×List Clash),(prIn b r look i ps st).2.length≤st.2.length+ps.length
 | [],_,_=>Nat.le_refl _
 |p::ps,i,st=>by
  have:=prIn_max b r look ps (i+1) (prStep b r look i p st)
  have:(prStep b r look i p st).2.length≤st.2.length+1:=by
   unfold prStep;split
   ·split<;>simp
   ·simp
  rw [prIn,List.length_cons];omega
theorem pRow_max (b:List (List Bool)) (ps:List Prod) (r:Nat):∀(n look:Nat) (bad:List Clash),(pRow b ps r n look bad).1.length=n∧(pRow b ps r n look bad).2.length≤bad.length+n * ps.length
 |0,_,_=>by simp [pRow]
 |n+1,look,bad=>by
  have h1:=pRow_max b ps r n (look+1) (prIn b r look 0 ps (-1,bad)).2;have h2:=prIn_max b r look ps 0 (-1,bad);rw [pRow,Nat.succ_mul];simp only [List.length_cons] at h2 ⊢;exact⟨by rw [h1.1],by omega⟩
theorem pAll_max (b:List (List Bool)) (ps:List Prod) (w:Nat):∀(n r:Nat) (bad:List Clash),(pAll b ps w n r bad).1.length=n∧(∀x∈(pAll b ps w n r bad).1,x.length=w)∧(pAll b ps w n r bad).2.length≤bad.length+n * (w * ps.length)
 |0,_,_=>by simp [pAll]
 |n+1,r,bad=>by
  have h1:=pAll_max b ps w n (r+1) (pRow b ps r w 0 bad).2;have h2:=pRow_max b ps r w 0 bad;rw [pAll,Nat.succ_mul];refine⟨by simp only [List.length_cons];rw [h1.1],fun x hx=>?_,by simp only;omega⟩
  rcases List.mem_cons.1 hx with rfl|h
  ·exact h2.1
  ·exact h1.2.1 x h
section
variable {l0:List ByteArray}{l1:List Tok}{a2 a3:Int}{l4:List Prod}{b:List (List Bool)}{all:List (List Int)}
theorem ref_l3_ev (h:Small l4) (hb:∀(i look:Nat),i<l4.length→(b.getD i []).getD look false=decide ((look:Int)∈all.getD i [])) (ha:all.length=l4.length) (hs:∀i,(all.getD i []).length≤1000000) (r look:Nat) {x9:List (List Int)}{x12:List Int}(h12:x12.length≤1000000) {R:List (List Int)×List Clash}:∀(qs pre:List Prod) (st:Int×List Clash),pre++qs=l4→st.2.length+qs.length≤1000000→
 Ev (fun k=>regletref14_Predict.l2 k all x9 (prIn b r look pre.length qs st).2 (r:Int) (x12++ [(prIn b r look pre.length qs st).1]) (wrap64 ((look:Int)+1)) l0 l1 a2 a3 l4) R→Ev (fun k=>regletref14_Predict.l3 k all x9 st.2 (r:Int) x12 (look:Int) st.1 (pre.length:Int) l0 l1 a2 a3 l4) R
 | [],pre,st,e,_,hk=>by
  have hz:¬(pre.length:Int)<(l4.length:Int):=by rw [←e];simp
  refine Ev.step (fun k=>by rw [regletref14_Predict.l3]) (Ev.neg hz (Ev.pos (by omega) ?_))
  exact hk
 |p::qs,pre,st,e,hm,hk=>by
  have hlen:l4.length=pre.length+(qs.length+1):=by rw [←e];simp
  have hp0:pre.length≤1000000:=by have:=h.1;omega
  simp only [List.length_cons] at hm;have hrd:rd_T35 l4 (pre.length:Int)=p:=by rw [←e];exact getD_mid _ pre p qs _ rfl
  have hst:(prStep b r look pre.length p st).2.length≤st.2.length+1:=by
   unfold prStep;split
   ·split<;>simp
   ·simp
  have ih:=ref_l3_ev h hb ha hs r look (x9:=x9) h12 (R:=R) qs (pre++ [p]) (prStep b r look pre.length p st) (by rw [←e];simp) (by omega) (by rw [List.length_append,List.length_singleton];exact hk);rw [←wrap_next pre _ hp0] at ih;refine Ev.step (fun k=>by rw [regletref14_Predict.l3]) (Ev.pos (by omega) (Ev.pos (by omega) ?_))
  rw [hrd]
  by_cases hl:p.f0=(r:Int)
  ·refine Ev.pos hl (Ev.pos (by omega) ?_)
   rw [show rd_L5 all (pre.length:Int)=all.getD pre.length [] from by rw [rd_L5,Int.toNat_natCast]];refine Ev.bind (has14_ev _ _ (hs _)) (Ev.step (fun k=>by rw [regletref14_Predict.j4]) ?_)
   have hbb:=hb pre.length look (by omega)
   by_cases hh:(look:Int)∈all.getD pre.length []
   ·rw [decide_eq_true hh] at hbb ⊢
    refine Ev.neg (by simp) ?_
    by_cases hx:st.1<0
    ·refine Ev.pos hx ?_
     rw [prStep,if_pos ⟨hl,hbb⟩,if_pos hx] at ih;exact ih
    ·refine Ev.neg hx (Ev.pos (by omega) ?_)
     rw [prStep,if_pos ⟨hl,hbb⟩,if_neg hx] at ih;exact ih
   ·rw [decide_eq_false hh] at hbb ⊢
    refine Ev.pos (by simp) ?_
    rw [prStep,if_neg (by rw [hbb];simp)] at ih;exact ih
  ·refine Ev.neg hl (Ev.step (fun k=>by rw [regletref14_Predict.j4]) (Ev.pos rfl ?_))
   rw [prStep,if_neg (fun hc=>hl hc.1)] at ih;exact ih
theorem ref_l2_ev (h:Small l4) (h1:l1.length≤1000) (hb:∀(i look:Nat),i<l4.length→(b.getD i []).getD look false=decide ((look:Int)∈all.getD i [])) (ha:all.length=l4.length) (hs:∀i,(all.getD i []).length≤1000000) (r:Nat) {x9:List (List Int)}(h9:x9.length≤1000000) {R:List (List Int)×List Clash}:∀(n:Nat) (row:List Int) (bad:List Clash),row.length+n=l1.length+1→bad.length+n * l4.length≤900000→l4.length≤100000→
 Ev (fun k=>regletref14_Predict.l1 k all (x9++ [row++(pRow b l4 r n row.length bad).1]) (pRow b l4 r n row.length bad).2 (wrap64 ((r:Int)+1)) l0 l1 a2 a3 l4) R→Ev (fun k=>regletref14_Predict.l2 k all x9 bad (r:Int) row (row.length:Int) l0 l1 a2 a3 l4) R
 |0,row,bad,e,_,_,hk=>Ev.step (fun k=>by rw [regletref14_Predict.l2]) (Ev.neg (by omega) (Ev.pos (by omega) (by simpa [pRow] using hk)))
 |n+1,row,bad,e,hm,h4,hk=>by
  rw [Nat.succ_mul] at hm;have hx:=prIn_max b r row.length l4 0 (-1,bad);simp only at hx
  have ih:=ref_l2_ev h h1 hb ha hs r (x9:=x9) h9 (R:=R) n (row++ [(prIn b r row.length 0 l4 (-1,bad)).1]) (prIn b r row.length 0 l4 (-1,bad)).2 (by simp;omega) (by omega) h4 (by
   rw [List.length_append,List.length_singleton,List.append_assoc];exact hk)
  rw [←wrap_next row _ (by omega)] at ih;refine Ev.step (fun k=>by rw [regletref14_Predict.l2]) (Ev.pos (by omega) ?_)
  have h3:=ref_l3_ev (l0:=l0) (l1:=l1) (a2:=a2) (a3:=a3) (l4:=l4) (b:=b) (all:=all) h hb ha hs r row.length (x9:=x9) (x12:=row) (by omega) (R:=R) l4 [] (-1,bad) rfl (by simp only;omega) ih;exact h3
theorem ref_l1_ev (h:Small l4) (h0:l0.length≤1000) (h1:l1.length≤1000) (hb:∀(i look:Nat),i<l4.length→(b.getD i []).getD look false=decide ((look:Int)∈all.getD i [])) (ha:all.length=l4.length) (hs:∀i,(all.getD i []).length≤1000000):∀(n:Nat) (out:List (List Int)) (bad:List Clash),out.length+n=l0.length→bad.length+n * ((l1.length+1) * l4.length)≤900000→l4.length≤100000→
 Ev (fun k=>regletref14_Predict.l1 k all out bad (out.length:Int) l0 l1 a2 a3 l4) (out++(pAll b l4 (l1.length+1) n out.length bad).1,(pAll b l4 (l1.length+1) n out.length bad).2)
 |0,out,bad,e,_,_=>Ev.step (fun k=>by rw [regletref14_Predict.l1]) (Ev.neg (by omega) (Ev.some (by simp [pAll])))
 |n+1,out,bad,e,hm,h4=>by
  rw [Nat.succ_mul] at hm;have hx:=pRow_max b l4 out.length (l1.length+1) 0 bad;have ih:=ref_l1_ev h h0 h1 hb ha hs n (out++ [(pRow b l4 out.length (l1.length+1) 0 bad).1]) (pRow b l4 out.length (l1.length+1) 0 bad).2 (by simp;omega) (by omega) h4;rw [←wrap_next out _ (by omega)] at ih;refine Ev.step (fun k=>by rw [regletref14_Predict.l1]) (Ev.pos (by omega) ?_)
  have h2:=ref_l2_ev (l0:=l0) (a2:=a2) (a3:=a3) h h1 hb ha hs out.length (x9:=out) (by omega) (R:=(out++(pAll b l4 (l1.length+1) (n+1) out.length bad).1,(pAll b l4 (l1.length+1) (n+1) out.length bad).2)) (l1.length+1) [] bad (by simp) (by omega) h4 (by
   refine Ev.val ih ?_
   rw [List.length_append,List.length_singleton,List.append_assoc];rfl)
  exact h2
theorem ref_l0_ev (h:Small l4) (h0:l0.length≤1000) (h1:l1.length≤1000) (hok:l4.all (okProd l0.length l1.length)=true) {R:List (List Int)×List Clash}:∀(qs pre:List Prod),pre++qs=l4→
 Ev (fun k=>regletref14_Predict.l1 k (l4.map (sel l0.length l1.length l4)) [] [] 0 l0 l1 a2 a3 l4) R→Ev (fun k=>regletref14_Predict.l0 k (pre.map (sel l0.length l1.length l4)) (dFollow l0.length l1.length l4) (pre.length:Int) l0 l1 a2 a3 l4) R
 | [],pre,e,hk=>Ev.step (fun k=>by rw [regletref14_Predict.l0]) (Ev.neg (by rw [←e];simp) (by rw [←e] at hk ⊢;simpa using hk))
 |p::qs,pre,e,hk=>by
  have hlen:l4.length=pre.length+(qs.length+1):=by rw [←e];simp
  have hp0:pre.length≤1000000:=by have:=h.1;omega
  have hmem:p∈l4:=by rw [←e];simp
  have hokp:=List.all_eq_true.1 hok p hmem;have hl:=okProd_left hokp;have hrd:rd_T35 l4 (pre.length:Int)=p:=by rw [←e];exact getD_mid _ pre p qs _ rfl
  have ih:=ref_l0_ev h h0 h1 hok (R:=R) qs (pre++ [p]) (by rw [←e];simp) hk;rw [←wrap_next pre _ hp0,List.map_append,List.map_cons,List.map_nil] at ih;refine Ev.step (fun k=>by rw [regletref14_Predict.l0]) (Ev.pos (by omega) (Ev.pos (by omega) ?_))
  rw [hrd];refine Ev.bind (refOf_ev l0 l1 a2 a3 l4 h (by omega) h1 p.f1 (h.2 p hmem)) ?_
  have hfl:=follow_range hok;have hsel:sel l0.length l1.length l4 p=(dOf l0.length l1.length l4 p.f1).1++(if(dOf l0.length l1.length l4 p.f1).2=true then(dFollow l0.length l1.length l4).getD p.f0.toNat [] else []):=rfl
  by_cases he:(dOf l0.length l1.length l4 p.f1).2=true
  ·refine Ev.pos he (Ev.pos hl.1 (Ev.pos (by rw [hfl.1];exact hl.2) (Ev.pos ?_ (Ev.pos (by simp;omega) ?_))))
   ·have h2:=(of_range hok p.f1).1
    have h4:(rd_L5 (dFollow l0.length l1.length l4) p.f0).length≤l1.length+1:=(hfl.2 p.f0.toNat).1;omega
   ·rw [hsel,if_pos he] at ih
    exact ih
  ·refine Ev.neg he (Ev.pos (by simp;omega) ?_)
   rw [hsel,if_neg he,List.append_nil] at ih;exact ih
end
section
variable (l0:List ByteArray) (l1:List Tok) (a2 a3:Int) (l4:List Prod)
def dPredict (nn nt:Nat) (ps:List Prod):List (List Int)×List Clash:=if ps.all (okProd nn nt)=true then pAll (ps.map (chRow nn nt ps)) ps (nt+1) nn 0 [] else([],[])
variable (h:Small l4) (h0:l0.length≤30) (h1:l1.length≤30) (h4:l4.length≤30)
include h h0 h1 h4
theorem refPredict_ev:Ev (fun k=>regletref14_Predict.f k l0 l1 a2 a3 l4) (dPredict l0.length l1.length l4):=by
 refine Ev.congr (fun k=>by rw [regletref14_Predict.f]) (Ev.bind (refRight_ev l0 l1 a2 a3 l4 h) ?_)
 unfold dPredict
 cases hr:l4.all (okProd l0.length l1.length) with
 |false=>exact Ev.neg (by simp) (Ev.some (by simp))
 |true=>
  refine Ev.pos rfl (Ev.bind (refFollow_ev l0 l1 a2 a3 l4 h (by omega) (by omega)) ?_)
  have hx:=ref_l1_ev (l0:=l0) (l1:=l1) (a2:=a2) (a3:=a3) (l4:=l4) (b:=l4.map (chRow l0.length l1.length l4)) (all:=l4.map (sel l0.length l1.length l4)) h (by omega) (by omega) (fun i look hi=>?_) (by simp) (fun i=>?_) l0.length [] [] (by simp) (by
   have h3:l0.length * ((l1.length+1) * l4.length)≤30 * (31 * 30):=Nat.mul_le_mul h0 (Nat.mul_le_mul (by omega) h4);simp only [List.length_nil];omega) (by omega)
  ·refine Ev.val (ref_l0_ev (a2:=a2) (a3:=a3) h (by omega) (by omega) hr l4 [] rfl hx) (by simp)
  ·have e1:(l4.map (chRow l0.length l1.length l4)).getD i []=chRow l0.length l1.length l4 l4[i]:=by rw [List.getD_eq_getElem?_getD,List.getElem?_map,List.getElem?_eq_getElem hi];rfl
   have e2:(l4.map (sel l0.length l1.length l4)).getD i []=sel l0.length l1.length l4 l4[i]:=by rw [List.getD_eq_getElem?_getD,List.getElem?_map,List.getElem?_eq_getElem hi];rfl
   rw [e1,e2];exact chRow_getD hr _ look
  ·by_cases hi:i<l4.length
   rotate_left
   ·rw [List.getD_eq_getElem?_getD,List.getElem?_map,List.getElem?_eq_none (by omega)]
    simp
   rw [List.getD_eq_getElem?_getD,List.getElem?_map,List.getElem?_eq_getElem hi];have:=(sel_range hr (l4[i])).1;simp only [Option.map_some,Option.getD_some];omega
end
theorem mRight_ok {l:List Int}(hu:∀x∈l,0≤x∧x≤255) {n t:Nat}(hn:0<n) (ht:0<t):∀(c at_:Nat) (acc:List Sym),acc.all (okSym n t)=true→(mRight l n t c at_ acc).1.all (okSym n t)=true∧(mRight l n t c at_ acc).1.length=acc.length+c
 |0,at_,acc,h=>⟨h,rfl⟩
 |c+1,at_,acc,h=>by
  unfold mRight
  obtain⟨h1,h2⟩:=mRight_ok hu hn ht c (at_+2) (acc++ [if mPick l at_ 2=0 then⟨true,mPick l (at_+1) t⟩ else⟨false,mPick l (at_+1) n⟩]) (by
   rw [List.all_append,h,Bool.true_and];have h3:=mPick_lt hu (at_+1) (n:=(t:Int)) (by omega);have h4:=mPick_lt hu (at_+1) (n:=(n:Int)) (by omega)
   split
   ·simp only [List.all_cons,List.all_nil,Bool.and_true,okSym,if_true,Bool.and_eq_true,decide_eq_true_eq]
    exact h3
   ·simp only [List.all_cons,List.all_nil,Bool.and_true,okSym,Bool.and_eq_true,decide_eq_true_eq]
    exact⟨h4.1,by simpa using h4.2⟩)
  exact⟨h1,by rw [h2];simp;omega⟩
theorem mProds_ok {l:List Int}(hu:∀x∈l,0≤x∧x≤255) {n t:Nat}(hn:0<n) (ht:0<t):∀(i at_:Nat) (acc:List Prod),acc.all (okProd n t)=true→(∀p∈acc,p.f1.length≤3)→(mProds l n t i at_ acc).all (okProd n t)=true∧(mProds l n t i at_ acc).length=acc.length+i∧∀p∈mProds l n t i at_ acc,p.f1.length≤3
 |0,at_,acc,h,h3=>⟨h,rfl,h3⟩
 |i+1,at_,acc,h,h3=>by
  unfold mProds
  obtain⟨h1,h2⟩:=mRight_ok hu hn ht (mPick l (at_+1) 4).toNat (at_+2) [] rfl;have h4:=mPick_lt hu at_ (n:=(n:Int)) (by omega);have h5:=mPick_lt hu (at_+1) (n:=4) (by omega)
  obtain⟨h6,h7,h8⟩:=mProds_ok hu hn ht i (mRight l n t (mPick l (at_+1) 4).toNat (at_+2) []).2 (acc++ [⟨mPick l at_ n,(mRight l n t (mPick l (at_+1) 4).toNat (at_+2) []).1⟩]) (by
   rw [List.all_append,h,Bool.true_and];simp only [List.all_cons,List.all_nil,Bool.and_true,okProd,Bool.and_eq_true,decide_eq_true_eq];exact⟨h4,h1⟩) (by
   intro p hp;rcases List.mem_append.1 hp with hp|hp
   ·exact h3 p hp
   ·obtain rfl:=List.mem_singleton.1 hp
    simp only;rw [h2];simp;omega)
  exact⟨h6,by rw [h7];simp;omega,h8⟩
structure MadeOk (ns:List ByteArray) (ts:List Tok) (ps:List Prod):Prop where
 n1:0<ns.length
 n5:ns.length≤5
 t1:0<ts.length
 t4:ts.length≤4
 p1:0<ps.length
 p10:ps.length≤10
 ok:ps.all (okProd ns.length ts.length)=true
 r3:∀p∈ps,p.f1.length≤3
theorem made_ev {l:List Int}(hw:∀x∈l,(Lit.int .u8 x).wf=true):∃ns ts ps,MadeOk ns ts ps∧Ev (fun k=>regletlaw13_Made.f k l) (ns,ts,0,0,ps):=by
 have hu:∀x∈l,0≤x∧x≤255:=fun x hx=>wf_u8 (hw x hx)
 have h0:=mPick_lt hu 0 (n:=5) (by decide);have h1:=mPick_lt hu 1 (n:=4) (by decide);have h2:=mPick_lt hu 2 (n:=10) (by decide);obtain⟨n,en⟩:∃n:Nat,1+mPick l 0 5=(n:Int):=⟨(1+mPick l 0 5).toNat,by omega⟩;obtain⟨t,et⟩:∃n:Nat,1+mPick l 1 4=(n:Int):=⟨(1+mPick l 1 4).toNat,by omega⟩;obtain⟨c,ec⟩:∃n:Nat,1+mPick l 2 10=(n:Int):=⟨(1+mPick l 2 10).toNat,by omega⟩;obtain⟨h3,h4,h5⟩:=mProds_ok hu (n:=n) (t:=t) (by omega) (by omega) c 3 [] rfl (fun p hp=>by simp at hp);have ln:(mNames.take n).length=n:=by rw [List.length_take];show min n 5=n;omega
 have lt:((mTexts.map mTok).take t).length=t:=by rw [List.length_take];show min t 4=t;omega
 refine⟨mNames.take n,(mTexts.map mTok).take t,mProds l n t c 3 [],⟨by omega,by omega,by omega,by omega,by simp at h4;omega,by simp at h4;omega,by rw [ln,lt];exact h3,h5⟩,Ev.some' ?_⟩
 have h7:l.all (fun x=>decide (0≤x∧x≤255))=true:=List.all_eq_true.2 (fun x hx=>decide_eq_true (hu x hx))
 show(if l.all (fun x=>decide (0≤x∧x≤255))=true then _ else none)=_
 rw [if_pos h7,en,et,ec];rfl
theorem made_ev0 {l:List Int}(hw:∀x∈l,(Lit.int .u8 x).wf=true):∃ns ts ps,MadeOk ns ts ps∧∀k,regletlaw13_Made.f k l=some (ns,ts,0,0,ps):=by
 obtain⟨ns,ts,ps,h,K,hK⟩:=made_ev hw;exact⟨ns,ts,ps,h,fun k=>hK K (Nat.le_refl _)⟩
end Go.Proofs.Ytapjfnfengefpaa.M
end
