/- Packed texts of this claim: the walks of the functions, and their plain laws; see the claim's last text. -/
import Derived.Test.YtapjfnfengefpaaKMachineDerives7
section
namespace Go.Proofs.Ytapjfnfengefpaa.Pure
open Go.RowKit Go.Proofs.Ytapjfnfengefpaa.P Go.Proofs.YtapjfnfengefpaaW.PrintWords Go.Proofs.YtapjfnfengefpaaW.PrintLast Go.Proofs.YtapjfnfengefpaaW.PrintMore Go.Proofs.Ytapjfnfengefpaa.H Go.Proofs.Ytapjfnfengefpaa.M
set_option linter.unusedVariables false
variable {nn nt:Nat}{ps:List M.Prod}{tb:List (List Int)}
def dr (ps:List M.Prod):List Int→List M.Sym→List M.Sym→Prop
 | [],f,g=>f=g
 |q::qs,f,g=>∃(pre:List M.Sym) (x:M.Sym) (post:List M.Sym),f=pre++x::post∧(∀y∈pre,y.f0=true)∧x.f0=false∧0≤q∧q<(ps.length:Int)∧(rd_T35 ps q).f0=x.f1∧(pre++(rd_T35 ps q).f1++post).length≤20000∧dr ps qs (pre++(rd_T35 ps q).f1++post) g
theorem dr_append:∀{a b:List Int}{f g h:List M.Sym},dr ps a f g→dr ps b g h→dr ps (a++b) f h
 | [],b,f,g,h,h1,h2=>by
  have h1:f=g:=h1;subst h1;exact h2
 |q::a,b,f,g,h,h1,h2=>by
  obtain⟨pre,x,post,e,hp,hx,h3,h4,h5,h6,h7⟩:=h1;exact⟨pre,x,post,e,hp,hx,h3,h4,h5,h6,dr_append h7 h2⟩
def toks (l:List Int):List M.Sym:=l.map (fun n=>⟨true,n⟩)
theorem toks_all (l:List Int):∀y∈toks l,y.f0=true:=by
 intro y hy;obtain⟨n,_,e⟩:=List.mem_map.1 hy;rw [←e]
theorem toks_append (a b:List Int):toks (a++b)=toks a++toks b:=List.map_append
theorem toks_length (a:List Int):(toks a).length=a.length:=List.length_map ..
set_option maxRecDepth 100000 in
theorem le_sum {a b c:Nat}(h:b+c≤10000) (h1:a≤10):a+b+c≤20000:=by omega
theorem mFeed_dr {look:Int}(hT:TabR nn nt ps tb) (h0:0≤look) (h1:look≤(nt:Int)) {p:List Int}(hp:p.length≤10):∀(k:Nat) (st:List M.Sym) (sp:List Int) (R:Int×List M.Sym×List Int),mFeed nt ps tb look k st sp=some R→st.all (okSym nn nt)=true→R.1=0→
 ∃qs,R.2.2=sp++qs∧((look<(nt:Int)∧dr ps qs (toks p++st) (toks (p++ [look])++R.2.1))∨(look=(nt:Int)∧R.2.1= []∧dr ps qs (toks p++st) (toks p)))
 |0,_,_,_,h,_,_=>by simp [mFeed] at h
 |k+1,[],sp,R,h,_,hR=>by
  rw [mFeed] at h;have h:=(Option.some.inj h).symm;subst h;simp only at hR
  split at hR
  ·omega
  ·exact⟨[],by simp,.inr ⟨by omega,rfl,by simp [dr]⟩⟩
 |k+1,x::st,sp,R,h,hok,hR=>by
  rw [mFeed] at h;rw [List.all_cons,Bool.and_eq_true] at hok;obtain⟨hx,hok⟩:=hok
  split at h
  ·rename_i hc
   have h:=(Option.some.inj h).symm;subst h
   have:x.f1<(nt:Int):=by
    have:=hx;simp [okSym,hc.1] at this
    exact this.2
   have ex:x=⟨true,look⟩:=by
    obtain⟨a,b⟩:=x;simp only at hc;rw [hc.1,hc.2]
   refine⟨[],by simp,.inl ⟨by omega,?_⟩⟩
   simp only [dr];rw [ex,toks_append,List.append_assoc];rfl
  ·split at h
   ·have h:=(Option.some.inj h).symm
    subst h;simp at hR
   ·rename_i hc1 hc2
    have hxf:x.f0=false:=by
     cases hb:x.f0 with
     |true=>exact absurd (.inl hb) hc2
     |false=>rfl
    obtain⟨hx0,hx1⟩:0≤x.f1∧x.f1<(nn:Int):=by simpa [okSym,hxf] using hx
    obtain⟨hm,he,hlt⟩:=ent_prod (hT.ent x.f1 look hx0 hx1 h0 h1) (fun h=>hc2 (.inr h));have hro:=List.all_eq_true.1 hT.prods _ hm;simp only [okProd,Bool.and_eq_true] at hro
    split at h
    ·rename_i hc
     simp only [Bool.and_eq_true,decide_eq_true_eq] at hc;obtain⟨qs,e,ih⟩:=mFeed_dr hT h0 h1 hp k _ _ R h (by rw [List.all_append,hro.2,hok];rfl) hR
     have hst:∀g,dr ps qs (toks p++((rd_T35 ps (mEnt tb x.f1 look)).f1++st)) g→dr ps (mEnt tb x.f1 look::qs) (toks p++x::st) g:=fun g hg=>
      ⟨toks p,x,st,rfl,toks_all p,hxf,Int.not_lt.1 (fun h=>hc2 (.inr h)),hlt,he,by
       have:=hc.1;rw [List.length_append] at this;rw [List.length_append,List.length_append,toks_length];exact le_sum this hp,by rw [List.append_assoc];exact hg⟩
     refine⟨mEnt tb x.f1 look::qs,by rw [e,List.append_assoc];rfl,?_⟩
     rcases ih with⟨h2,h3⟩|⟨h2,h3,h4⟩
     ·exact .inl ⟨h2,hst _ h3⟩
     ·exact .inr ⟨h2,h3,hst _ h4⟩
    ·have h:=(Option.some.inj h).symm
     subst h;simp at hR
theorem feed_dr (hr:tbRight nn nt ps tb=true) {st:List M.Sym}{d:Bool}{look:Int}(hg:Goes nn nt st d) (h0:0≤look) (h1:look≤(nt:Int)) {p:List Int}(hp:p.length≤10) (he:(mFeedAll nn nt ps tb st d look).2.2.2=0):
 (look<(nt:Int)∧dr ps (mFeedAll nn nt ps tb st d look).2.2.1 (toks p++st.reverse) (toks (p++ [look])++(mFeedAll nn nt ps tb st d look).1.reverse))∨(look=(nt:Int)∧dr ps (mFeedAll nn nt ps tb st d look).2.2.1 (toks p++st.reverse) (toks p)):=by
 obtain⟨R,hR,e⟩:=mFeedAll_eq hr hg h0 h1;rw [e] at he ⊢;obtain⟨er,s,q⟩:=R;have em:mOut (some (er,s,q))=if er=0 then(s.reverse,false,q,0) else([],true,q,er):=rfl
 rw [em] at he ⊢;have ha:=hg.2;simp only [stAwaits,Bool.and_eq_true,decide_eq_true_eq] at ha
 by_cases h:er=0
 rotate_left
 ·rw [if_neg h] at he
  exact absurd he h
 rw [if_pos h];obtain⟨qs,e2,h2⟩:=mFeed_dr (tabR hr) h0 h1 hp 10002 st.reverse [] _ hR (by rw [List.all_reverse];exact ha.2) h;simp only [List.nil_append] at e2 h2;subst e2;simp only [List.reverse_reverse];rcases h2 with h2|⟨h2,_,h3⟩
 ·exact .inl h2
 ·exact .inr ⟨h2,h3⟩
theorem run_dr (hr:tbRight nn nt ps tb=true):∀(rest pre:List Int) (i:Nat) (st:List M.Sym) (d:Bool) (out:List Int),(∀y∈rest,0≤y∧y<(nt:Int))→(pre++rest).length≤10→Goes nn nt st d→(mRun nn nt ps tb rest i st d out).2.1=0→
 ∃qs,(mRun nn nt ps tb rest i st d out).1=out++qs∧dr ps qs (toks pre++st.reverse) (toks (pre++rest))
 | [],pre,i,st,d,out,hx,hl,hg,hR=>by
  rw [mRun] at hR ⊢;rw [List.append_nil] at hl ⊢
  by_cases h:(mFeedAll nn nt ps tb st d (nt:Int)).2.2.2=0
  ·rw [if_pos h]
   rcases feed_dr hr hg (by omega) (Int.le_refl _) hl h with⟨h1,_⟩|⟨_,h2⟩
   ·omega
   ·exact⟨_,rfl,h2⟩
  ·rw [if_neg h] at hR
   exact absurd hR h
 |x::rest,pre,i,st,d,out,hx,hl,hg,hR=>by
  have hxx:=hx x (by simp);rw [mRun,if_neg (by omega)] at hR ⊢
  by_cases h:(mFeedAll nn nt ps tb st d x).2.2.2=0
  ·rw [if_pos h] at hR ⊢
   obtain⟨hg2,_⟩:=feed_goes hr hg hxx.1 (by omega) h;have hlp:pre.length≤10:=by rw [List.length_append] at hl;omega
   obtain⟨qs,e,h2⟩:=run_dr hr rest (pre++ [x]) (i+1) _ _ _ (fun y hy=>hx y (by simp [hy])) (by rw [List.append_assoc];exact hl) hg2 hR;rcases feed_dr hr hg hxx.1 (by omega) hlp h with⟨_,h3⟩|⟨h3,_⟩
   ·refine⟨(mFeedAll nn nt ps tb st d x).2.2.1++qs,by rw [e,List.append_assoc],?_⟩
    rw [List.append_assoc] at h2;exact dr_append h3 h2
   ·omega
  ·rw [if_neg h] at hR
   exact absurd hR h
variable {ns:List ByteArray}{ts:List M.Tok}
theorem derives_l2_ev:∀(b a:List Int),(a++b).length≤1000→Ev (fun k=>regletlaw16_MachineDerives.l2 k true (a++b) (toks (a++b)) (a.length:Int)) true
 | [],a,h=>by
  refine Ev.step (fun k=>by rw [regletlaw16_MachineDerives.l2]) (Ev.neg (by simp) (Ev.some rfl))
 |y::b,a,h=>by
  have hl:a.length≤1000:=by rw [List.length_append] at h;omega
  have ih:=derives_l2_ev b (a++ [y]) (by rw [List.append_assoc];exact h);rw [←wrap_next a y (by omega),List.append_assoc,List.singleton_append] at ih;have er:rd (a++y::b) (a.length:Int)=y:=getD_mid _ a y b _ rfl
  have et:rd_T43 (toks (a++y::b)) (a.length:Int)=⟨true,y⟩:=by
   have:=getD_mid (⟨false,0⟩:M.Sym) (toks a) ⟨true,y⟩ (toks b) (a.length:Int) (by rw [toks_length]);rw [toks_append];exact this
  refine Ev.step (fun k=>by rw [regletlaw16_MachineDerives.l2]) (Ev.pos (by simp;omega) (Ev.pos (by omega) (Ev.pos (by rw [toks_length];simp;omega) ?_)))
  rw [er,et];exact Ev.pos rfl (Ev.pos rfl ih)
section
variable {x steps:List Int}
set_option maxRecDepth 100000 in
theorem dl_facts {p f r o:Nat}(hfl:f=p+(o+1)) (hl0:p+r+o≤20000):(p:Int)<(f:Int)∧¬((p:Int)=(f:Int))∧(p:Int)≤(f:Int)∧0+p<8796093022208∧p+r<8796093022208∧0≤(p:Int)+1∧(p:Int)+1≤(f:Int)∧p+r+o<8796093022208:=by
 subst hfl;refine⟨by omega,by omega,by omega,by omega,by omega,by omega,by omega,by omega⟩
set_option maxRecDepth 100000 in
theorem wrapN {p:Nat}(h:p+1≤20000):wrap64 ((p:Int)+1)=(p:Int)+1:=wrap64_id (by omega) (by omega)
theorem derives_l0_ev (hx:x.length≤10) (hs:steps.length≤1000000):∀(qs done:List Int) (f:List M.Sym),steps=done++qs→dr ps qs f (toks x)→f.length≤20000→
 Ev (fun k=>regletlaw16_MachineDerives.l0 k true x steps f (done.length:Int) ns ts 0 0 ps) true
 | [],done,f,e,hd,hf=>by
  rw [List.append_nil] at e;subst e;have hd:f=toks x:=hd;subst hd;refine Ev.step (fun k=>by rw [regletlaw16_MachineDerives.l0]) (Ev.neg (by omega) (Ev.pos (by rw [toks_length]) ?_))
  exact derives_l2_ev x [] (by simp;omega)
 |q::qs,done,f,e,hd,hf=>by
  obtain⟨pre,s,post,ef,hp,hsf,hq0,hq1,hq2,hlen,hd⟩:=hd;have hlt:done.length<steps.length:=by rw [e];simp
  have er:rd steps (done.length:Int)=q:=by rw [e];exact getD_mid _ done q _ _ rfl
  have ih:=derives_l0_ev hx hs qs (done++ [q]) _ (by rw [List.append_assoc];exact e) hd hlen;rw [←wrap_next done q (by omega)] at ih;have hfl:f.length=pre.length+(post.length+1):=by rw [ef];simp
  have hpl:pre.length+1≤20000:=by rw [hfl] at hf;omega
  have hl0:pre.length+(rd_T35 ps q).f1.length+post.length≤20000:=by simpa [Nat.add_assoc] using hlen
  clear hlen
  have l1:∀(b a:List M.Sym),pre=a++b→Ev (fun k=>regletlaw16_MachineDerives.l1 k true x steps f (done.length:Int) (a.length:Int) ns ts 0 0 ps) true:=by
   intro b
   induction b with
   |nil=>
    intro a ea;rw [List.append_nil] at ea;subst ea;have es:rd_T43 f (pre.length:Int)=s:=by rw [ef];exact getD_mid _ pre s post _ rfl
    have ew:wrap64 ((pre.length:Int)+1)=(pre.length:Int)+1:=wrapN hpl;have et:f.take ((pre.length:Int)).toNat=pre:=by rw [ef,Int.toNat_natCast,List.take_left'];rfl
    have ed:f.drop ((pre.length:Int)+1).toNat=post:=by
     rw [ef,show((pre.length:Int)+1).toNat=(pre++ [s]).length by simp,show pre++s::post=(pre++ [s])++post by simp];exact List.drop_left
    refine Ev.step (fun k=>by rw [regletlaw16_MachineDerives.l1]) ?_
    rw [es,er,ew,et,ed];clear es er ew et ed ef hp;obtain⟨b1,b2,b3,b4,b5,b6,b7,b8⟩:=dl_facts hfl hl0;refine Ev.pos b1 (Ev.pos (Int.natCast_nonneg _) (Ev.neg (by rw [hsf];exact Bool.false_ne_true) (Ev.neg b2 (Ev.pos (Int.natCast_nonneg _) (Ev.pos (Int.ofNat_lt.2 hlt) (Ev.neg (Int.not_lt.2 hq0) (Ev.neg (Int.not_le.2 hq1) (Ev.pos hq0 (Ev.pos hq1 (Ev.pos hq2 (Ev.pos b3 (Ev.bind0 rfl (Ev.pos b4 (Ev.bind0 rfl ?_))))))))))))))
    rw [List.nil_append];refine Ev.pos b5 (Ev.bind0 rfl (Ev.pos b6 (Ev.pos b7 (Ev.bind0 rfl (Ev.pos (by rw [List.length_append];exact b8) ?_)))))
    exact ih
   |cons y b ihb=>
    intro a ea;have es:rd_T43 f (a.length:Int)=y:=by rw [ef,ea,List.append_assoc];exact getD_mid _ a y _ _ rfl
    have hy:=hp y (by rw [ea];simp);have hal:a.length<pre.length:=by rw [ea];simp
    have h2:=ihb (a++ [y]) (by rw [ea,List.append_assoc];rfl);rw [←wrap_next a y (by omega)] at h2;refine Ev.step (fun k=>by rw [regletlaw16_MachineDerives.l1]) ?_
    rw [es];exact Ev.pos (by omega) (Ev.pos (by omega) (Ev.pos hy h2))
  refine Ev.step (fun k=>by rw [regletlaw16_MachineDerives.l0]) (Ev.pos (by omega) ?_)
  exact l1 pre [] rfl
end
theorem derives_j0_ev {ns:List ByteArray}{ts:List M.Tok}{ps:List M.Prod}(h:SynOk ns ts ps) {l1:List Int}(hu:∀x∈l1,0≤x∧x≤255):Ev (fun k=>regletlaw16_MachineDerives.j0 k l1 true ns ts 0 0 ps) true:=by
 obtain⟨tb,hT,hS,hd⟩:=table_ev h 0 0 (at_:=255) (n:=0) (by omega) (by omega);have hd:=hd (by omega);have hr:tbRight ns.length ts.length ps tb=true:=by rw [hd];exact tbRight_pred h
 have ht1:=h.t1;obtain⟨t,hK,hl,ht⟩:=tokens_ev hu (n:=(ts.length:Int)) (by omega);refine Ev.step (fun k=>by rw [regletlaw16_MachineDerives.j0]) (Ev.bind hT (Ev.bind hK (Ev.bind (machRun_ev (l:=t) (h.fit hS) (by omega)) ?_)))
 have hD:=run_dr hr t [] 0 [⟨false,0⟩] false [] ht (by simpa using hl) (goes_start h.n1);have hL:=mRun_len (nn:=ns.length) (nt:=ts.length) (ps:=ps) (tb:=tb) t 0 [⟨false,0⟩] false [];generalize mRun ns.length ts.length ps tb t 0 [⟨false,0⟩] false []=R at hD hL ⊢
 by_cases he:R.2.1=0
 rotate_left
 ·exact Ev.neg he (Ev.some rfl)
 obtain⟨qs,e,hD⟩:=hD he;rw [List.nil_append] at e;refine Ev.pos he ?_
 exact derives_l0_ev hl (len_ok hL (by omega)) qs [] _ e hD (by simp)
theorem MachineDerives:regletlaw16_MachineDerives.Pure:=by
 intro l0 l1 a2 _ _ hw0 _ _ hw1;obtain⟨ns,ts,ps,hm,hM⟩:=made_ev0 hw0;have hu:∀x∈l1,0≤x∧x≤255:=fun x hx=>wf_u8 (hw1 x hx)
 have hC:=clear_ev hm hM;have h:=synOk_clear hm;apply Ev.rounds
 unfold regletlaw16_MachineDerives.f
 refine Ev.bind awake16_ev (Ev.pos rfl ?_)
 refine Ev.bind (⟨0,fun k _=>hM k⟩:Ev (fun k=>regletlaw13_Made.f k l0) _) ?_
 cases a2 with
 |false=>exact Ev.neg (by simp) (derives_j0_ev (synOk_made hm) hu)
 |true=>exact Ev.pos rfl (Ev.bind hC (derives_j0_ev h hu))
end Go.Proofs.Ytapjfnfengefpaa.Pure
end
