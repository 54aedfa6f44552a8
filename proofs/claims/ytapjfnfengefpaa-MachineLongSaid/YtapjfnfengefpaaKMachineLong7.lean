/- Packed texts of this claim: the walks of the functions, and their plain laws; see the claim's last text. -/
import Derived.Test.YtapjfnfengefpaaKMachineLong6
section
namespace Go.Proofs.Ytapjfnfengefpaa.M
open Go.RowKit Go.Proofs.YtapjfnfengefpaaW.PrintWords Go.Proofs.YtapjfnfengefpaaW.PrintLast Go.Proofs.YtapjfnfengefpaaW.PrintMore Go.Proofs.Ytapjfnfengefpaa.P Go.Proofs.Ytapjfnfengefpaa.H
set_option linter.unusedVariables false
set_option linter.unusedSimpArgs false
abbrev Sym:=S43
abbrev Prod:=S35
abbrev Tok:=S72
theorem getD_mid {α:Type}(d:α) (p:List α) (x:α) (a:List α) (n:Int) (h:n=p.length):(p++x::a).getD n.toNat d=x:=by
 subst h;simp
theorem wrap_next {α:Type}(p:List α) (v:α) (h:p.length≤1000000):wrap64 ((p.length:Int)+1)=((p++ [v]).length:Int):=by
 rw [wrap64_id (by omega) (by omega)];simp
theorem sameInts_l0_ev:∀(a pre:List Int),pre.length+a.length≤1000000→Ev (fun k=>regletref13_SameInts.l0 k (pre++a) (pre++a) (pre.length:Int)) true
 | [],pre,_=>Ev.step (fun k=>by rw [regletref13_SameInts.l0]) (Ev.neg (by simp) (Ev.some rfl))
 |x::a,pre,h3=>by
  simp only [List.length_cons] at h3;have ih:=sameInts_l0_ev a (pre++ [x]) (by simp;omega);simp only [←wrap_next pre _ (show pre.length≤1000000 by omega),List.append_assoc,List.singleton_append] at ih;exact Ev.step (fun k=>by rw [regletref13_SameInts.l0]) (Ev.pos (by simp;omega) (Ev.pos (by omega) (Ev.pos (by simp;omega) (Ev.pos rfl ih))))
theorem sameInts_ev (a:List Int) (h:a.length≤1000000):Ev (fun k=>regletref13_SameInts.f k a a) true:=
 Ev.congr (fun k=>by rw [regletref13_SameInts.f,if_pos rfl]) (by simpa using sameInts_l0_ev a [] (by simpa using h):Ev (fun k=>regletref13_SameInts.l0 k a a 0) _)
def Small (ps:List Prod):Prop:=ps.length≤1000000∧∀p∈ps,p.f1.length≤1000000
theorem refRight_l1_ev (l0:List ByteArray) (l1:List Tok) (a2 a3:Int) (l4:List Prod) (x3 left:Int) (r:Bool):∀(l pre:List Sym),pre.length+l.length≤1000000→(l.all (okSym l0.length l1.length)=true→Ev (fun k=>regletref13_Right.l0 k (wrap64 (x3+1)) l0 l1 a2 a3 l4) r)→(l.all (okSym l0.length l1.length)=false→r=false)→Ev (fun k=>regletref13_Right.l1 k x3 (pre.length:Int) l0 l1 a2 a3 l4 left (pre++l)) r
 | [],pre,_,h1,_=>Ev.step (fun k=>by rw [regletref13_Right.l1]) (Ev.neg (by simp) (h1 rfl))
 |x::l,pre,h3,h1,h2=>by
  simp only [List.length_cons] at h3;have ih:=refRight_l1_ev l0 l1 a2 a3 l4 x3 left r l (pre++ [x]) (by simp;omega);simp only [←wrap_next pre _ (show pre.length≤1000000 by omega),List.append_assoc,List.singleton_append] at ih;have e:rd_T43 (pre++x::l) (pre.length:Int)=x:=getD_mid _ pre x l _ rfl;refine Ev.step (fun k=>by rw [regletref13_Right.l1]) ?_
  rw [e];refine Ev.pos (by simp;omega) (Ev.pos (by omega) ?_)
  cases hx:x.f0 with
  |true=>
   refine Ev.pos rfl ?_
   by_cases h0:x.f1<0
   ·exact Ev.pos h0 (Ev.some (h2 (by simp [okSym,hx];omega)).symm)
   ·refine Ev.neg h0 ?_
    by_cases h5:x.f1≥(l1.length:Int)
    ·exact Ev.pos h5 (Ev.some (h2 (by simp [okSym,hx];omega)).symm)
    ·refine Ev.neg h5 (ih (fun h=>h1 ?_) (fun h=>h2 ?_))
     ·simp [okSym,hx, -List.all_eq_true];exact⟨by omega,h⟩
     ·rw [List.all_cons,h,Bool.and_false]
  |false=>
   refine Ev.neg (by simp) ?_
   by_cases h0:x.f1<0
   ·exact Ev.pos h0 (Ev.some (h2 (by simp [okSym,hx];omega)).symm)
   ·refine Ev.neg h0 ?_
    by_cases h5:x.f1≥(l0.length:Int)
    ·exact Ev.pos h5 (Ev.some (h2 (by simp [okSym,hx];omega)).symm)
    ·refine Ev.neg h5 (ih (fun h=>h1 ?_) (fun h=>h2 ?_))
     ·simp [okSym,hx, -List.all_eq_true];exact⟨by omega,h⟩
     ·rw [List.all_cons,h,Bool.and_false]
theorem refRight_l0_ev (l0:List ByteArray) (l1:List Tok) (a2 a3:Int):∀(qs pre:List Prod),pre.length+qs.length≤1000000→(∀p∈qs,p.f1.length≤1000000)→Ev (fun k=>regletref13_Right.l0 k (pre.length:Int) l0 l1 a2 a3 (pre++qs)) (qs.all (okProd l0.length l1.length))
 | [],pre,_,_=>Ev.step (fun k=>by rw [regletref13_Right.l0]) (Ev.neg (by simp) (Ev.some (by simp)))
 |p::qs,pre,h3,h4=>by
  simp only [List.length_cons] at h3;have ih:=refRight_l0_ev l0 l1 a2 a3 qs (pre++ [p]) (by simp;omega) (fun p hp=>h4 p (List.mem_cons_of_mem _ hp));simp only [←wrap_next pre _ (show pre.length≤1000000 by omega),List.append_assoc,List.singleton_append] at ih;have e:rd_T35 (pre++p::qs) (pre.length:Int)=p:=getD_mid _ pre p qs _ rfl;refine Ev.step (fun k=>by rw [regletref13_Right.l0]) ?_
  rw [e];refine Ev.pos (by simp;omega) (Ev.pos (by omega) ?_)
  by_cases h0:p.f0<0
  ·refine Ev.pos h0 (Ev.step (fun k=>by rw [regletref13_Right.j1]) (Ev.pos rfl (Ev.some ?_)))
   simp [okProd];omega
  ·refine Ev.neg h0 (Ev.step (fun k=>by rw [regletref13_Right.j1]) ?_)
   by_cases h5:p.f0≥(l0.length:Int)
   ·refine Ev.pos (decide_eq_true h5) (Ev.some ?_)
    simp [okProd];omega
   ·refine Ev.neg (by simpa using h5) ?_
    have h:=refRight_l1_ev l0 l1 a2 a3 (pre++p::qs) (pre.length:Int) p.f0 ((p::qs).all (okProd l0.length l1.length)) p.f1 [] (by have:=h4 p List.mem_cons_self;simpa using this) (fun h=>Ev.val ih (by
     have:okProd l0.length l1.length p=true:=by simp only [okProd,h,Bool.and_true,Bool.and_eq_true,decide_eq_true_eq];omega
     rw [List.all_cons,this,Bool.true_and])) (fun h=>by
     have:okProd l0.length l1.length p=false:=by simp only [okProd,h,Bool.and_false]
     rw [List.all_cons,this,Bool.false_and])
    simpa only [List.nil_append,List.length_nil,Int.natCast_zero] using h
theorem refRight_ev (l0:List ByteArray) (l1:List Tok) (a2 a3:Int) (l4:List Prod) (h:Small l4):Ev (fun k=>regletref13_Right.f k l0 l1 a2 a3 l4) (l4.all (okProd l0.length l1.length)):=
 Ev.congr (fun k=>by rw [regletref13_Right.f]) (by simpa only [List.nil_append,List.length_nil,Int.natCast_zero] using refRight_l0_ev l0 l1 a2 a3 l4 [] (by have:=h.1;simpa using this) h.2)
theorem wrapNext {α:Type}(p:List α) (v:α) (h:p.length≤1000000000000):wrap64 ((p.length:Int)+1)=((p++ [v]).length:Int):=by
 rw [wrap64_id (by omega) (by omega)];simp
section
variable {l0:List ByteArray}{l1:List Tok}{a2 a3:Int}{ps:List Prod}
theorem r16_l1_ev {tb:List (List Int)}{pre:List (List Int)}{row:List Int}{rest:List (List Int)}(et:tb=pre++row::rest) (hn:row.length≤1000000000) {rn:Bool}(hk:Ev (fun k=>regletref16_Right.l0 k tb (wrap64 ((pre.length:Int)+1)) l0 l1 a2 a3 ps) rn):∀(b a:List Int),row=a++b→
 Ev (fun k=>regletref16_Right.l1 k tb (pre.length:Int) (a.length:Int) l0 l1 a2 a3 ps) (b.all (okEnt ps (pre.length:Int)) && rn)
 | [],a,e=>by
  have er:rd_L5 tb (pre.length:Int)=row:=by rw [et];exact getD_mid _ pre row rest _ rfl
  have hl:(pre.length:Int)<(tb.length:Int):=by rw [et];simp;omega
  refine Ev.step (fun k=>by rw [regletref16_Right.l1]) (Ev.pos (by omega) (Ev.pos hl ?_))
  rw [er];exact Ev.neg (by rw [e];simp) hk
 |q::b,a,e=>by
  have er:rd_L5 tb (pre.length:Int)=row:=by rw [et];exact getD_mid _ pre row rest _ rfl
  have hl:(pre.length:Int)<(tb.length:Int):=by rw [et];simp;omega
  have eq_:rd row (a.length:Int)=q:=by rw [e];exact getD_mid _ a q b _ rfl
  have ha:a.length<row.length:=by rw [e];simp
  have ih:=r16_l1_ev et hn hk b (a++ [q]) (by rw [List.append_assoc];exact e);rw [←wrapNext a q (by omega)] at ih;refine Ev.step (fun k=>by rw [regletref16_Right.l1]) (Ev.pos (by omega) (Ev.pos hl ?_))
  rw [er,eq_];refine Ev.pos (by omega) (Ev.pos (by omega) ?_)
  rw [List.all_cons]
  by_cases h1:q< -1
  ·refine Ev.pos h1 (Ev.some ?_)
   simp only [okEnt,decide_eq_false (show ¬ -1≤q by omega),Bool.false_and]
  ·refine Ev.neg h1 ?_
   by_cases h2:q≥(ps.length:Int)
   ·refine Ev.pos h2 (Ev.some ?_)
    simp only [okEnt,decide_eq_false (show ¬q<(ps.length:Int) by omega),Bool.and_false,Bool.false_and]
   ·refine Ev.neg h2 ?_
    by_cases h3:q≥0
    ·refine Ev.pos h3 (Ev.pos h3 (Ev.pos (by omega) ?_))
     by_cases h4:(rd_T35 ps q).f0=(pre.length:Int)
     ·refine Ev.pos h4 (Ev.val ih ?_)
      simp only [okEnt,decide_eq_true (show -1≤q by omega),decide_eq_true (show q<(ps.length:Int) by omega),decide_eq_true h4,Bool.or_true,Bool.and_true,Bool.true_and]
     ·refine Ev.neg h4 (Ev.some ?_)
      simp only [okEnt,decide_eq_false (show ¬q<0 by omega),decide_eq_false h4,Bool.or_false,Bool.and_false,Bool.false_and]
    ·refine Ev.neg h3 (Ev.val ih ?_)
     simp only [okEnt,decide_eq_true (show -1≤q by omega),decide_eq_true (show q<(ps.length:Int) by omega),decide_eq_true (show q<0 by omega),Bool.true_or,Bool.and_true,Bool.true_and]
theorem r16_l0_ev {tb:List (List Int)}(hl1:l1.length≤1000000000) (hbig:tb.length≤1000000000) (hrow:∀r∈tb,r.length≤1000000000):∀(rest pre:List (List Int)),tb=pre++rest→
 Ev (fun k=>regletref16_Right.l0 k tb (pre.length:Int) l0 l1 a2 a3 ps) (rowsOk l1.length ps pre.length rest)
 | [],pre,e=>by
  refine Ev.step (fun k=>by rw [regletref16_Right.l0]) ?_
  exact Ev.neg (by rw [e];simp) (Ev.some rfl)
 |row::rest,pre,e=>by
  have er:rd_L5 tb (pre.length:Int)=row:=by rw [e];exact getD_mid _ pre row rest _ rfl
  have hl:pre.length<tb.length:=by rw [e];simp
  have ih:=r16_l0_ev hl1 hbig hrow rest (pre++ [row]) (by rw [List.append_assoc];exact e);rw [←wrapNext pre row (by omega)] at ih;refine Ev.step (fun k=>by rw [regletref16_Right.l0]) (Ev.pos (by omega) (Ev.pos (by omega) ?_))
  rw [er,wrap64_id (by omega) (by omega)]
  by_cases h:(row.length:Int)=(l1.length:Int)+1
  ·refine Ev.pos h (Ev.val (r16_l1_ev e (hrow row (by rw [e];simp)) ih row [] rfl) ?_)
   rw [rowsOk,decide_eq_true (by omega:row.length=l1.length+1),Bool.true_and];simp
  ·refine Ev.neg h (Ev.some ?_)
   rw [rowsOk,decide_eq_false (by omega:¬row.length=l1.length+1),Bool.false_and,Bool.false_and]
theorem refRight16_ev {tb:List (List Int)}(hs:Small ps) (hl1:l1.length≤1000000000) (hbig:tb.length≤1000000000) (hrow:∀r∈tb,r.length≤1000000000):Ev (fun k=>regletref16_Right.f k l0 l1 a2 a3 ps tb) (tbRight l0.length l1.length ps tb):=by
 refine Ev.congr (fun k=>by rw [regletref16_Right.f]) (Ev.bind (refRight_ev l0 l1 a2 a3 ps hs) ?_)
 have hno:Ev (fun k=>regletref16_Right.j0 k tb true l0 l1 a2 a3 ps) false:=Ev.step (fun k=>by rw [regletref16_Right.j0]) (Ev.pos rfl (Ev.some rfl))
 unfold tbRight
 cases hr:ps.all (okProd l0.length l1.length) with
 |false=>exact Ev.neg (by simp) (Ev.val hno (by simp))
 |true=>
  refine Ev.pos rfl ?_
  by_cases h0:(l0.length:Int)=0
  ·exact Ev.pos h0 (Ev.val hno (by simp [show l0.length=0 by omega]))
  refine Ev.neg h0 ?_
  by_cases ht:tb.length=l0.length
  rotate_left
  ·have e1:((tb.length:Int) !=(l0.length:Int))=true:=by simp;omega
   rw [e1];exact Ev.val hno (by rw [decide_eq_false ht];simp)
  have e1:((tb.length:Int) !=(l0.length:Int))=false:=by simp [ht]
  rw [e1];refine Ev.step (fun k=>by rw [regletref16_Right.j0]) ?_
  refine Ev.neg (by simp) (Ev.val (r16_l0_ev hl1 hbig hrow tb [] rfl) ?_)
  rw [decide_eq_false (by omega:¬l0.length=0),decide_eq_true ht];simp
theorem stack_ev {st:List Sym}(h0:l0.length≠0) (hst:st.length≤1000000):Ev (fun k=>regletref16_stack.f k l0 l1 a2 a3 ps st) (stAwaits l0.length l1.length st):=by
 refine Ev.congr (fun k=>by rw [regletref16_stack.f]) (Ev.bind (refRight_ev l0 l1 a2 a3 [(⟨0,st⟩:Prod)] ⟨by simp,fun p hp=>by rw [List.mem_singleton.1 hp];exact hst⟩) ?_)
 refine Ev.some ?_
 have h1:(0:Int)<(l0.length:Int):=by omega
 have h2:0<l0.length:=by omega
 simp [stAwaits,okProd,h1,h2,Bool.and_comm]
theorem push_ev {tb:List (List Int)}{look q:Int}{sp:List Int}{base r:List Sym}(hq0:0≤q) (hq1:q<(ps.length:Int)) (hr:(rd_T35 ps q).f1=r) (hrl:r.length≤1000000) (hb:base.length≤1000000) {X:List Sym×Bool×List Int×Int}
 (hk:Ev (fun k=>if((base++r.reverse).length:Int)>10000 then(some (([]:List Sym),true,([]:List Int),2)) else(if(sp.length:Int)>10000 then(some (([]:List Sym),true,([]:List Int),2)) else(regletref16_Feed.l0 k tb look (base++r.reverse) sp l0 l1 a2 a3 ps))) X):∀j:Nat,j≤r.length→
 Ev (fun k=>regletref16_Feed.l1 k tb look (base++(r.drop j).reverse) sp q ((j:Int) - 1) l0 l1 a2 a3 ps) X
 |0,_=>by
  refine Ev.step (fun k=>by rw [regletref16_Feed.l1]) (Ev.neg (by omega) ?_)
  rw [List.drop_zero];exact hk
 |j+1,hj=>by
  have ih:=push_ev hq0 hq1 hr hrl hb hk j (by omega);have e0:((j+1:Nat):Int) - 1=(j:Int):=by push_cast;omega
  have e1:wrap64 ((j:Int) - 1)=(j:Int) - 1:=wrap64_id (by omega) (by omega);have e2:r.drop j=r[j]::r.drop (j+1):=List.drop_eq_getElem_cons (by omega)
  have e3:rd_T43 r (j:Int)=r[j]:=by
   rw [rd_T43,Int.toNat_natCast,List.getD_eq_getElem?_getD,List.getElem?_eq_getElem (by omega)];rfl
  rw [e0];refine Ev.step (fun k=>by rw [regletref16_Feed.l1]) (Ev.pos (by omega) (Ev.pos hq0 (Ev.pos hq1 (Ev.pos (by omega) ?_))))
  rw [hr,e1,e3];refine Ev.pos (by omega) (Ev.pos (by simp only [List.length_append,List.length_reverse,List.length_drop];omega) ?_)
  rw [e2,List.reverse_cons,←List.append_assoc] at ih;exact ih
theorem feed_l0_ev {tb:List (List Int)}{look:Int}(hps:ps.all (okProd l0.length l1.length)=true) (htab:TabOk l0.length l1.length ps tb) (hl0:0≤look) (hl1:look≤(l1.length:Int)) (hsz:∀p∈ps,p.f1.length≤1000000):∀(m:Nat) (st:List Sym) (sp:List Int) (R:Int×List Sym×List Int),mFeed l1.length ps tb look m st sp=some R→st.all (okSym l0.length l1.length)=true→st.length≤1000000→sp.length≤10000→
 Ev (fun k=>regletref16_Feed.l0 k tb look st.reverse sp l0 l1 a2 a3 ps) (mOut (some R))
 |0,_,_,_,h,_,_,_=>by simp [mFeed] at h
 |m+1,[],sp,R,h,_,_,_=>by
  rw [mFeed] at h;have h:=(Option.some.inj h).symm;subst h;refine Ev.step (fun k=>by rw [regletref16_Feed.l0]) (Ev.neg (by simp) ?_)
  by_cases hk:look<(l1.length:Int)
  ·refine Ev.pos hk (Ev.some ?_)
   rw [if_pos hk];rfl
  ·refine Ev.neg hk (Ev.some ?_)
   rw [if_neg hk];rfl
 |m+1,x::st,sp,R,h,hok,hst,hsp=>by
  rw [mFeed] at h;simp only [List.length_cons] at hst;rw [List.all_cons,Bool.and_eq_true] at hok;obtain⟨hx,hok⟩:=hok;have hlen:((x::st).reverse.length:Int)=(st.length:Int)+1:=by simp
  have e1:wrap64 (((x::st).reverse.length:Int) - 1)=(st.length:Int):=by rw [hlen,wrap64_id (by omega) (by omega)];omega
  have e2:rd_T43 (x::st).reverse (st.length:Int)=x:=by rw [rd_T43,Int.toNat_natCast];simp
  have e3:(x::st).reverse.take (st.length:Int).toNat=st.reverse:=by rw [Int.toNat_natCast];simp
  refine Ev.step (fun k=>by rw [regletref16_Feed.l0]) (Ev.pos (by omega) ?_)
  rw [e1,e2,e3];refine Ev.pos (by omega) (Ev.pos (by omega) (Ev.pos (by omega) (Ev.bind0 rfl ?_)))
  cases hxf:x.f0 with
  |true=>
   refine Ev.pos rfl ?_
   by_cases hxl:x.f1=look
   ·rw [if_pos ⟨hxf,hxl⟩] at h
    have h:=(Option.some.inj h).symm;subst h;exact Ev.pos hxl (Ev.some (by simp [mOut]))
   ·rw [if_neg (fun h=>hxl h.2),if_pos (.inl hxf)] at h
    have h:=(Option.some.inj h).symm;subst h;exact Ev.neg hxl (Ev.some (by simp [mOut]))
  |false=>
   rw [if_neg (fun h=>by rw [hxf] at h;cases h.1)] at h;refine Ev.neg (by simp) ?_
   obtain⟨hx0,hx1⟩:0≤x.f1∧x.f1<(l0.length:Int):=by simpa [okSym,hxf] using hx
   have htl:=htab.1;obtain⟨hrl,hrq⟩:=htab.2 x.f1.toNat (by omega);have er:rd_L5 tb x.f1=tb.getD x.f1.toNat []:=rfl;have eq_:rd (tb.getD x.f1.toNat []) look=mEnt tb x.f1 look:=rfl
   have hrm:mEnt tb x.f1 look<(ps.length:Int):=hrq _ (by
    unfold mEnt
    generalize tb.getD x.f1.toNat []=row at hrl ⊢;rw [List.getD_eq_getElem?_getD,List.getElem?_eq_getElem (by omega)];exact List.getElem_mem _)
   rw [er,eq_];refine Ev.pos hx0 (Ev.pos (by omega) (Ev.pos hl0 (Ev.pos (by omega) ?_)))
   generalize mEnt tb x.f1 look=q at h hrm ⊢
   by_cases hq:q<0
   ·rw [if_pos (.inr hq)] at h
    have h:=(Option.some.inj h).symm;subst h;exact Ev.pos hq (Ev.some (by simp [mOut]))
   ·rw [if_neg (fun h=>by rcases h with h|h;rw [hxf] at h;cases h;exact hq h)] at h
    have hm:rd_T35 ps q∈ps:=by
     rw [rd_T35,List.getD_eq_getElem?_getD,List.getElem?_eq_getElem (by omega)];exact List.getElem_mem _
    have hpl:=hsz _ hm;have hpo:=List.all_eq_true.1 hps _ hm;generalize hr:(rd_T35 ps q).f1=r at h hpl ⊢
    have hro:r.all (okSym l0.length l1.length)=true:=by
     rw [←hr];simp only [okProd,Bool.and_eq_true] at hpo;exact hpo.2
    refine Ev.neg hq (Ev.pos (by omega) (Ev.pos (by omega) (Ev.pos hrm ?_)))
    have e4:wrap64 ((r.length:Int) - 1)=(r.length:Int) - 1:=wrap64_id (by omega) (by omega);rw [e4];have hpush:=push_ev (l0:=l0) (l1:=l1) (a2:=a2) (a3:=a3) (ps:=ps) (tb:=tb) (look:=look) (q:=q) (sp:=sp++ [q]) (base:=st.reverse) (r:=r) (X:=mOut (some R)) (by omega) hrm hr hpl (by rw [List.length_reverse];omega) ?_ r.length (Nat.le_refl _)
    ·rw [List.drop_length,List.reverse_nil,List.append_nil] at hpush
     exact hpush
    ·rw [←List.reverse_append,List.length_reverse]
     by_cases hc:(decide ((r++st).length≤10000) && decide ((sp++ [q]).length≤10000))=true
     ·rw [if_pos hc] at h
      simp only [Bool.and_eq_true,decide_eq_true_eq] at hc;exact Ev.neg (by omega) (Ev.neg (by omega) (feed_l0_ev hps htab hl0 hl1 hsz m (r++st) (sp++ [q]) R h (by rw [List.all_append,hro,hok];rfl) (by omega) hc.2))
     ·rw [if_neg hc] at h
      have h:=(Option.some.inj h).symm;subst h;have e5:mOut (some ((2:Int),r++st,([]:List Int)))=([],true,[],2):=by simp [mOut]
      rw [e5]
      by_cases h1:(r++st).length≤10000
      ·have h2:¬(sp++ [q]).length≤10000:=fun h2=>hc (by simp only [Bool.and_eq_true,decide_eq_true_eq];exact⟨h1,h2⟩)
       exact Ev.neg (by omega) (Ev.pos (by omega) (Ev.some rfl))
      ·exact Ev.pos (by omega) (Ev.some rfl)
variable {tb:List (List Int)}
structure Fit (l1:List Tok) (ps:List Prod) (tb:List (List Int)):Prop where
 small:Small ps
 toks:l1.length≤1000000
 rows:tb.length≤100000000
 row:∀r∈tb,r.length≤100000000
theorem machFeed_val (hf:Fit l1 ps tb) (st:List Sym) (d:Bool) (look:Int):machine_Feed.f l0 l1 a2 a3 ps tb st d look=some (mFeedAll l0.length l1.length ps tb st d look):=by
 unfold machine_Feed.f
 rw [if_pos ⟨by have:=hf.toks;omega,by have:=hf.rows;omega,by have:=hf.small.1;omega,List.all_eq_true.2 (fun p hp=>decide_eq_true (hf.small.2 p hp)),List.all_eq_true.2 (fun r hr=>decide_eq_true (by have:=hf.row r hr;omega))⟩]
theorem machRight_val (hf:Fit l1 ps tb):machine_Right.f l0 l1 a2 a3 ps tb=some (tbRight l0.length l1.length ps tb):=by
 unfold machine_Right.f
 rw [if_pos ⟨by have:=hf.toks;omega,by have:=hf.rows;omega,by have:=hf.small.1;omega,List.all_eq_true.2 (fun p hp=>decide_eq_true (by have:=hf.small.2 p hp;omega)),List.all_eq_true.2 (fun r hr=>decide_eq_true (by have:=hf.row r hr;omega))⟩]
theorem refRight16_ev' (hf:Fit l1 ps tb):Ev (fun k=>regletref16_Right.f k l0 l1 a2 a3 ps tb) (tbRight l0.length l1.length ps tb):=
 refRight16_ev hf.small (by have:=hf.toks;omega) (by have:=hf.rows;omega) (fun r hr=>by have:=hf.row r hr;omega)
theorem tbRight_nn {nn nt:Nat}{ps:List Prod}{tb:List (List Int)}(h:tbRight nn nt ps tb=true):nn≠0:=by
 simp only [tbRight,Bool.and_eq_true,Bool.not_eq_true',decide_eq_false_iff_not] at h;exact h.2.1
theorem refFeed_ev (hf:Fit l1 ps tb) (st:List Sym) (d:Bool) (look:Int) (hst:st.length≤1000000):Ev (fun k=>regletref16_Feed.f k l0 l1 a2 a3 ps tb st d look) (mFeedAll l0.length l1.length ps tb st d look):=by
 refine Ev.congr (fun k=>by rw [regletref16_Feed.f]) (Ev.bind (refRight16_ev' hf) ?_)
 have hno:Ev (fun k=>regletref16_Feed.j0 k tb look true l0 l1 a2 a3 ps st d) ([],true,[],1):=Ev.step (fun k=>by rw [regletref16_Feed.j0]) (Ev.pos rfl (Ev.some rfl))
 unfold mFeedAll
 cases hr:tbRight l0.length l1.length ps tb with
 |false=>
  refine Ev.neg (by simp) (Ev.val hno ?_)
  rw [if_neg (fun h=>by cases h.1)]
 |true=>
  refine Ev.pos rfl (Ev.bind (stack_ev (tbRight_nn hr) hst) ?_)
  cases ha:stAwaits l0.length l1.length st with
  |false=>
   refine Ev.neg (by simp) (Ev.val hno ?_)
   rw [if_neg (fun h=>by cases h.2.1)]
  |true=>
   refine Ev.pos rfl ?_
   by_cases h0:look<0
   ·refine Ev.pos h0 (Ev.val hno ?_)
    rw [if_neg (fun h=>by omega)]
   refine Ev.neg h0 ?_
   by_cases h1:look>(l1.length:Int)
   ·rw [decide_eq_true h1]
    refine Ev.val hno ?_
    rw [if_neg (fun h=>by omega)]
   rw [decide_eq_false h1];rw [if_pos ⟨rfl,rfl,by omega,by omega⟩];refine Ev.step (fun k=>by rw [regletref16_Feed.j0]) ?_
   refine Ev.neg (by simp) ?_
   cases d with
   |true=>exact Ev.pos rfl (Ev.some (by rw [if_pos rfl]))
   |false=>
    refine Ev.neg (by simp) (Ev.pos (by simp only [List.length_nil];omega) ?_)
    rw [if_neg (by simp),List.nil_append];obtain⟨R,hR⟩:=mFeed_some (nt:=l1.length) (ps:=ps) (tb:=tb) (look:=look) 10002 st.reverse [] (by omega) (by simp);rw [hR];have h:=feed_l0_ev (l0:=l0) (l1:=l1) (a2:=a2) (a3:=a3) (tbRight_prods hr) (tbRight_tab hr) (by omega) (by omega) hf.small.2 10002 st.reverse [] R hR (by rw [List.all_reverse];simp only [stAwaits,Bool.and_eq_true] at ha;exact ha.2) (by rw [List.length_reverse];exact hst) (by simp);rw [List.reverse_reverse] at h;exact h
end
section
theorem same16_l0_ev (d:Bool):∀(a pre:List Sym),pre.length+a.length≤1000000→Ev (fun k=>regletref16_Same.l0 k (pre.length:Int) (pre++a) d (pre++a) d) true
 | [],pre,_=>by
  refine Ev.step (fun k=>by rw [regletref16_Same.l0]) ?_
  exact Ev.neg (by simp) (Ev.some rfl)
 |x::a,pre,h=>by
  simp only [List.length_cons] at h;have ih:=same16_l0_ev d a (pre++ [x]) (by simp;omega);simp only [←wrap_next pre _ (show pre.length≤1000000 by omega),List.append_assoc,List.singleton_append] at ih;refine Ev.step (fun k=>by rw [regletref16_Same.l0]) ?_
  exact Ev.pos (by simp;omega) (Ev.pos (by omega) (Ev.pos (by simp;omega) (Ev.neg (by simp) ih)))
theorem same16_ev (d:Bool) (a:List Sym) (h:a.length≤1000000):Ev (fun k=>regletref16_Same.f k a d a d) true:=by
 have h0:Ev (fun k=>regletref16_Same.j0 k false a d a d) true:=by
  refine Ev.step (fun k=>by rw [regletref16_Same.j0]) ?_
  exact Ev.neg (by simp) (by simpa using same16_l0_ev d a [] (by simpa using h):Ev (fun k=>regletref16_Same.l0 k 0 a d a d) _)
 refine Ev.congr (fun k=>by rw [regletref16_Same.f]) (Ev.neg (by simp) ?_)
 have e:((a.length:Int) !=(a.length:Int))=false:=by simp
 rw [e];exact h0
variable {l0:List ByteArray}{l1:List Tok}{a2 a3:Int}{ps:List Prod}{tb:List (List Int)}
theorem mFeed_len {nt:Nat}{ps:List Prod}{tb:List (List Int)}{look:Int}:∀(k:Nat) (st:List Sym) (sp:List Int) (R:Int×List Sym×List Int),mFeed nt ps tb look k st sp=some R→st.length≤10000→sp.length≤10000→R.2.2.length≤10000∧(R.1=0→R.2.1.length≤10000)
 |0,_,_,_,h,_,_=>by simp [mFeed] at h
 |k+1,[],sp,R,h,_,hs=>by
  rw [mFeed] at h;have h:=(Option.some.inj h).symm;subst h;exact⟨hs,fun _=>by simp⟩
 |k+1,x::st,sp,R,h,hl,hs=>by
  rw [mFeed] at h;simp only [List.length_cons] at hl
  split at h
  ·have h:=(Option.some.inj h).symm
   subst h;exact⟨hs,fun _=>by simp only;omega⟩
  ·split at h
   ·have h:=(Option.some.inj h).symm
    subst h;exact⟨hs,fun h=>by simp at h⟩
   ·split at h
    ·rename_i hc
     simp only [Bool.and_eq_true,decide_eq_true_eq] at hc;exact mFeed_len k _ _ R h hc.1 hc.2
    ·have h:=(Option.some.inj h).symm
     subst h;exact⟨by simp,fun h=>by simp at h⟩
theorem mFeedAll_len {nn nt:Nat}{ps:List Prod}{tb:List (List Int)}(st:List Sym) (d:Bool) (look:Int):(mFeedAll nn nt ps tb st d look).1.length≤10000∧(mFeedAll nn nt ps tb st d look).2.2.1.length≤10000:=by
 unfold mFeedAll
 split
 ·rename_i h
  split
  ·simp
  ·obtain⟨R,hR⟩:=mFeed_some (nt:=nt) (ps:=ps) (tb:=tb) (look:=look) 10002 st.reverse [] (by omega) (by simp)
   rw [hR];have ha:st.length≤10000:=by have:=h.2.1;simp only [stAwaits,Bool.and_eq_true,decide_eq_true_eq] at this;exact this.1
   have hl:=mFeed_len 10002 st.reverse [] R hR (by rw [List.length_reverse];exact ha) (by simp);obtain⟨e,s,p⟩:=R;have em:mOut (some (e,s,p))=if e=0 then(s.reverse,false,p,0) else([],true,p,e):=rfl
   rw [em]
   split
   ·rename_i he
    exact⟨by rw [List.length_reverse];exact hl.2 he,hl.1⟩
   ·exact⟨by simp,hl.1⟩
 ·simp
theorem fed_ev (hf:Fit l1 ps tb) (st:List Sym) (d:Bool) (look:Int) (hst:st.length≤1000000):Ev (fun k=>regletlaw16_fed.f k l0 l1 a2 a3 ps tb st d look) true:=by
 have hl:=mFeedAll_len (nn:=l0.length) (nt:=l1.length) (ps:=ps) (tb:=tb) st d look;refine Ev.congr (fun k=>by rw [regletlaw16_fed.f]) (Ev.bind0 (machFeed_val hf st d look) (Ev.bind (refFeed_ev hf st d look hst) ?_))
 generalize mFeedAll l0.length l1.length ps tb st d look=r at hl ⊢;refine Ev.bind (same16_ev _ _ (by omega)) (Ev.pos rfl (Ev.bind (sameInts_ev _ (by omega)) (Ev.pos rfl (Ev.pos rfl (Ev.bind0 (machRight_val hf) (Ev.bind (refRight16_ev' hf) ?_))))))
 exact Ev.some (by simp)
end
end Go.Proofs.Ytapjfnfengefpaa.M
end

section
namespace Go.Proofs.Ytapjfnfengefpaa.M
open Go.RowKit Go.Proofs.YtapjfnfengefpaaW.PrintWords Go.Proofs.YtapjfnfengefpaaW.PrintLast Go.Proofs.YtapjfnfengefpaaW.PrintMore Go.Proofs.Ytapjfnfengefpaa.P Go.Proofs.Ytapjfnfengefpaa.H
theorem awake16_some:regletlaw16_awake.f 40=some true:=by kernel_rfl
theorem awake16_ev:Ev (fun k=>regletlaw16_awake.f k) true:=Ev.of regletlaw16_awake.mono awake16_some
end Go.Proofs.Ytapjfnfengefpaa.M
end

section
namespace Go.Proofs.Ytapjfnfengefpaa.Pure
open Go.RowKit Go.Proofs.Ytapjfnfengefpaa.P Go.Proofs.YtapjfnfengefpaaW.PrintWords Go.Proofs.YtapjfnfengefpaaW.PrintLast Go.Proofs.YtapjfnfengefpaaW.PrintMore Go.Proofs.Ytapjfnfengefpaa.H Go.Proofs.Ytapjfnfengefpaa.M
set_option linter.unusedVariables false
theorem long_fit {ts:List M.Tok}{r:List M.Sym}{a b:Int}(ht:ts.length=1) (hr:r.length≤10):Fit ts ([⟨0,r⟩,⟨0,[]⟩]:List M.Prod) [[a,b]]:=by
 refine⟨⟨by simp,fun p hp=>?_⟩,by omega,by simp,fun r hr=>?_⟩
 ·simp only [List.mem_cons,List.not_mem_nil,or_false] at hp
  rcases hp with rfl|rfl
  ·show r.length≤1000000
   omega
  ·simp
 ·rw [List.mem_singleton.1 hr]
  simp
theorem long_l0_ev {a0 a1:Int}(h1:0≤a1∧a1≤255):∀(m n:Nat) (r:List M.Sym),m+n=4→r.length=n+1→Ev (fun k=>regletlaw16_MachineLong.l0 k a0 a1 (n:Int) 0 r) true
 |m,n,r,hm,hr=>by
  refine Ev.step (fun k=>by rw [regletlaw16_MachineLong.l0]) ?_
  by_cases h:(n:Int)<Int.tmod (wrap64 a0) 4
  ·have h4:Int.tmod (wrap64 a0) 4<4:=Int.tmod_lt_of_pos _ (by omega)
   refine Ev.pos h (Ev.pos (by omega) ?_)
   match m,hm with
   |m+1,hm=>
    have ih:=long_l0_ev (a0:=a0) h1 m (n+1) (r++ [⟨true,0⟩]) (by omega) (by simp [hr]);have e:wrap64 ((n:Int)+1)=((n+1:Nat):Int):=by rw [wrap64_id (by omega) (by omega)];omega
    rw [←e] at ih;exact ih
   |0,hm=>omega
  ·refine Ev.neg h (Ev.bind0 rfl (Ev.pos (by omega) (Ev.bind0 rfl (Ev.bind0 rfl ?_))))
   have t0:0≤Int.tmod (wrap64 a1) 5:=Int.tmod_nonneg _ (by rw [wrap64_id (by omega) (by omega)];exact h1.1);have t1:Int.tmod (wrap64 a1) 5<5:=Int.tmod_lt_of_pos _ (by omega);generalize Int.tmod (wrap64 a1) 5=c at t0 t1;have e:wrap64 (9998+c)=9998+c:=wrap64_id (by omega) (by omega);rw [e];have hn:(9998+c).toNat≤1000000:=by omega
   have hn2:(9998+c).toNat≤17592186044416:=by omega
   refine Ev.pos (by omega) (Ev.pos hn2 ?_)
   generalize (9998+c).toNat=N at hn;refine Ev.bind0 (a:=List.replicate N z43) rfl (Ev.bind awake16_ev (Ev.pos rfl (Ev.bind0 (a:=([(⟨false,0⟩:M.Sym)],false)) rfl ?_)))
   have hs:(List.replicate N z43).length≤1000000:=by rw [List.length_replicate];exact hn
   refine Ev.bind (fed_ev (long_fit (by simp) (by omega)) _ _ _ (by simp)) (Ev.pos rfl ?_)
   refine Ev.bind (fed_ev (long_fit (by simp) (by omega)) _ _ _ hs) (Ev.pos rfl ?_)
   exact Ev.bind (fed_ev (long_fit (by simp) (by omega)) _ _ _ hs) (Ev.some rfl)
theorem MachineLong:regletlaw16_MachineLong.Pure:=by
 intro a0 a1 hw0 hw1;have h1:=wf_u8 hw1;apply Ev.rounds
 unfold regletlaw16_MachineLong.f
 exact long_l0_ev h1 4 0 [⟨false,0⟩] rfl rfl
end Go.Proofs.Ytapjfnfengefpaa.Pure
end
