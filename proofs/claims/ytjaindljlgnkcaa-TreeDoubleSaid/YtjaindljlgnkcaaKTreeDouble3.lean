/- Packed texts of this claim: the walks of the functions, and their plain laws; see the claim's last text. -/
import Derived.Test.YtjaindljlgnkcaaKTreeDouble2
section
namespace Go.Proofs.Ytjaindljlgnkcaa.P
open Go.Proofs.Ytjaindljlgnkcaa.H Go.RowKit Go.Proofs.YtjaindljlgnkcaaW.PrintWords Go.Proofs.YtjaindljlgnkcaaW.PrintLast Go.Proofs.YtjaindljlgnkcaaW.PrintMore
set_option linter.unusedVariables false
set_option linter.unusedSimpArgs false
def CloseSz (s:GSt):Prop:=s.frs.length≤1000000000000∧s.nds.length≤1000000000000∧(s.frs.map (fun f=>f.kids.length)).sum≤1000000000000
set_option maxHeartbeats 8000000 in
set_option maxRecDepth 100000 in
theorem close_one {C:GC}{w0 W:World}{G:Nat}{ns:List ByteArray}(steps:List Int) (at_:Nat) (f0:GFr) (ms:List S34) (hG:w0.heap.size≤G) (hg:GI C w0 G ⟨steps,at_,[f0],ms⟩ W) (hsz:CloseSz ⟨steps,at_,[f0],ms⟩):
 Calls Try.prog 43 #[.pointer (some ⟨G,0,none⟩)] W fun e w'=>(∃v,e= .returned v)∧GI C w0 G ⟨steps,at_,[],ms++ [⟨f0.rule,f0.kids⟩]⟩ w':=by
 have HGG:=aM hG;have HSZ:=aM hsz;obtain⟨frs,nds,As,cs,sv,nv,hb,ef,en,hst,hsc,hr,hB⟩:=hg;simp only at hb ef en hst hsc hr
 obtain⟨f,rfl,hf⟩:∃f,frs= [f]∧f.fr=f0:=by
  match frs,ef with
  | [f],ef=>exact⟨f,rfl,by simpa using ef⟩
 subst hf;obtain⟨rule,A,c,left,v,kids⟩:=f;obtain⟨Av,cv,rfl⟩:∃Av cv,v= .slice Av kids.length cv:=Kd.R_slice (hr.kd.1 (v,kids) (by simp [kidsOf]));obtain⟨g,cap,rfl,hcap,hgb,hgl,hgt,c0,c1,c2,hfz⟩:=hr.top;simp only [List.length_nil,Nat.zero_mul,Nat.zero_add] at hb hr hcap c0 c1 c2 hfz;have HB:=aM hB;have HBK:=aM hb;have HST:=aM (And.intro hst hsc);have HR:=aM hr;have HEN:=aM en;have q8:W.cell? ⟨G,8,none⟩=some (.slice (some ⟨g,0,none⟩) 1 cap):=(aG hb 8).trans rfl;have f8:=aH hb 8;obtain⟨i0,hi0,hz0⟩:=Option.map_eq_some_iff.1 infoFrame;have hcut:=cut_to (P:=Try.prog) 77 112 .i64 Try.underlying77 hi0 (some ⟨g,0,none⟩) 1 cap 0 (by omega) (by omega) hcap;have HGL:=aM hgl;rw [show(0:Int).toNat=0 from rfl] at hcut;clear hG hsz hB hb hst hsc hr en hcap hgb hgl hgt hi0 hz0 hfz ef;go_enter Try.func43,Try.ntmps43
 go_upto_region 2 with fail
 have HBE:Aside0 (Below W.heap.size W (W.alloc (.cells #[.int .i64 rule,.slice A left.length c,.slice Av kids.length cv] 112))):=⟨aN (Below.refl _ W) _⟩;have HFB:Aside0 ((W.alloc (.cells #[.int .i64 rule,.slice A left.length c,.slice Av kids.length cv] 112)).heap[W.heap.size]?=some (.cells #[.int .i64 rule,.slice A left.length c,.slice Av kids.length cv] 112 (0,0))):=⟨heap_alloc_new W _⟩;have HBK1:=aM (bF HBK.out HBE.out);have HR1:=aM ((HR.out.below HBE.out).pop);have HB1:Aside0 (Below w0.heap.size w0 (W.alloc (.cells #[.int .i64 rule,.slice A left.length c,.slice Av kids.length cv] 112))):=⟨HB.out.trans (HBE.out.mono HB.out.size)⟩;generalize W.alloc (.cells #[.int .i64 rule,.slice A left.length c,.slice Av kids.length cv] 112)=w1 at HFB HBK1 HR1 HB1 ⊢;clear HBE HBK HR c0 c1 c2 q8 f8;have q8:w1.cell? ⟨G,8,none⟩=some (.slice (some ⟨g,0,none⟩) 1 cap):=(aG HBK1.out 8).trans rfl;have f8:=aH HBK1.out 8;have HGF:Aside0 (W.heap.size≠G):=⟨blk_ne HFB.out HBK1.out (by decide)⟩
 go_upto_region 3 with fail
 have HBK2:Aside0 ((w1.setCell ⟨G,8,none⟩ (.slice (some ⟨g,0,none⟩) 0 cap)).heap[G]?=some (growObj C As steps.length cs at_ (.slice (some ⟨g,0,none⟩) 0 cap) nv)):=⟨blk_put HBK1.out 8 _ rfl⟩;have HFB2:=aM (blk_far HFB.out (p:=⟨G,8,none⟩) HGF.out (.slice (some ⟨g,0,none⟩) 0 cap));have HR2:=aM (HR1.out.set HBK1.out (by decide) 8 (.slice (some ⟨g,0,none⟩) 0 cap));have HB2:Aside0 (Below w0.heap.size w0 (w1.setCell ⟨G,8,none⟩ (.slice (some ⟨g,0,none⟩) 0 cap))):=⟨aL HB1.out HGG.out⟩;generalize w1.setCell ⟨G,8,none⟩ (.slice (some ⟨g,0,none⟩) 0 cap)=w2 at HBK2 HFB2 HR2 HB2 ⊢;generalize W.heap.size=FB at HFB2 HGF ⊢;clear HFB HBK1 HR1 HB1 q8 f8 hcut;refine start_ (n:=14) (S:=fun w'=>True) (ds:= []) #[F,F,F,F,F,F,F,F,F,F,F,F,F,F] (by kernel_rfl) rfl rfl trivial (fun hHeld=>?_)
 refine pure_ (i:=0) (N:=some 28) (v:=?_) (a':=?_) #[T,F,F,F,F,F,F,F,F,F,F,F,F,F] rfl rfl (by kernel_rfl) (fun _ _ _ h=>h) (Or.inl ⟨by rfl,?_⟩) ?_ ?_
 rotate_left;(intro w';go_simp;with_reducible rfl);rotate_left;(simp only [pq];rfl)
 refine pure_ (i:=1) (N:=some 29) (v:=?_) (a':=?_) #[T,T,F,F,F,F,F,F,F,F,F,F,F,F] rfl rfl (by kernel_rfl) (fun _ _ _ h=>h) (Or.inl ⟨by rfl,?_⟩) ?_ ?_
 rotate_left;(intro w';go_simp;with_reducible rfl);rotate_left;(simp only [pq];rfl)
 refine pure_ (i:=2) (N:=some 30) (v:=?_) (a':=?_) #[T,T,T,F,F,F,F,F,F,F,F,F,F,F] rfl rfl (by kernel_rfl) (fun _ _ _ h=>h) (Or.inl ⟨by rfl,?_⟩) ?_ ?_
 rotate_left;(intro w';go_simp;with_reducible rfl);rotate_left;(simp only [pq];rfl)
 refine pure_ (i:=3) (N:=some 31) (v:=undef) (a':=?_) #[T,T,T,T,F,F,F,F,F,F,F,F,F,F] rfl rfl (by kernel_rfl) (fun _ _ _ h=>h) (Or.inr ⟨by rfl,rfl⟩) ?_ ?_
 rotate_left
 ·simp only [pq]
  rfl
 refine pure_ (i:=4) (N:=some 32) (v:=undef) (a':=?_) #[T,T,T,T,T,F,F,F,F,F,F,F,F,F] rfl rfl (by kernel_rfl) (fun _ _ _ h=>h) (Or.inr ⟨by rfl,rfl⟩) ?_ ?_
 rotate_left
 ·simp only [pq]
  rfl
 refine pure_ (i:=5) (N:=some 33) (v:=undef) (a':=?_) #[T,T,T,T,T,T,F,F,F,F,F,F,F,F] rfl rfl (by kernel_rfl) (fun _ _ _ h=>h) (Or.inr ⟨by rfl,rfl⟩) ?_ ?_
 rotate_left
 ·simp only [pq]
  rfl
 refine pure_ (i:=6) (N:=some 34) (v:=undef) (a':=?_) #[T,T,T,T,T,T,T,F,F,F,F,F,F,F] rfl rfl (by kernel_rfl) (fun _ _ _ h=>h) (Or.inr ⟨by rfl,rfl⟩) ?_ ?_
 rotate_left
 ·simp only [pq]
  rfl
 refine pure_ (i:=7) (N:=some 35) (v:=undef) (a':=?_) #[T,T,T,T,T,T,T,T,F,F,F,F,F,F] rfl rfl (by kernel_rfl) (fun _ _ _ h=>h) (Or.inr ⟨by rfl,rfl⟩) ?_ ?_
 rotate_left
 ·simp only [pq]
  rfl
 refine pure_ (i:=8) (N:=some 36) (v:=undef) (a':=?_) #[T,T,T,T,T,T,T,T,T,F,F,F,F,F] rfl rfl (by kernel_rfl) (fun _ _ _ h=>h) (Or.inr ⟨by rfl,rfl⟩) ?_ ?_
 rotate_left
 ·simp only [pq]
  rfl
 refine pure_ (i:=9) (N:=some 37) (v:=undef) (a':=?_) #[T,T,T,T,T,T,T,T,T,T,F,F,F,F] rfl rfl (by kernel_rfl) (fun _ _ _ h=>h) (Or.inr ⟨by rfl,rfl⟩) ?_ ?_
 rotate_left
 ·simp only [pq]
  rfl
 refine pure_ (i:=10) (N:=some 38) (v:=undef) (a':=?_) #[T,T,T,T,T,T,T,T,T,T,T,F,F,F] rfl rfl (by kernel_rfl) (fun _ _ _ h=>h) (Or.inr ⟨by rfl,rfl⟩) ?_ ?_
 rotate_left
 ·simp only [pq]
  rfl
 refine pure_ (i:=11) (N:=some 39) (v:=undef) (a':=?_) #[T,T,T,T,T,T,T,T,T,T,T,T,F,F] rfl rfl (by kernel_rfl) (fun _ _ _ h=>h) (Or.inr ⟨by rfl,rfl⟩) ?_ ?_
 rotate_left
 ·simp only [pq]
  rfl
 refine pure_ (i:=12) (N:=some 40) (v:=undef) (a':=?_) #[T,T,T,T,T,T,T,T,T,T,T,T,T,F] rfl rfl (by kernel_rfl) (fun _ _ _ h=>h) (Or.inr ⟨by rfl,rfl⟩) ?_ ?_
 rotate_left
 ·simp only [pq]
  rfl
 refine pure_ (i:=13) (N:=some 41) (v:=?_) (a':=?_) #[T,T,T,T,T,T,T,T,T,T,T,T,T,T] rfl rfl (by kernel_rfl) (fun _ _ _ h=>h) (Or.inl ⟨by rfl,?_⟩) ?_ ?_
 rotate_left;(intro w';go_simp;with_reducible rfl);rotate_left;(simp only [pq];rfl)
 refine done_ (by kernel_rfl) ?_
 clear hHeld
 go_upto_region 9 with fail
 obtain⟨An,cn,rfl⟩:=Kd.R_slice HR2.out.nd;rw [ndRows_len] at HR2 HBK2;obtain⟨nl,enl⟩:∃nl,nl=nds.length:=⟨_,rfl⟩;rw [←enl] at HR2 HBK2;have HNL:Aside0 (nds.length≤1000000000000):=⟨by have h:=HSZ.out.2.1;rw [←HEN.out,List.length_map] at h;exact h⟩;clear enl;have HBZ2:Aside0 (w0.heap.size≤w2.heap.size):=⟨HB2.out.size⟩;have HBK3:Aside0 (w2.drew.heap[G]?=some (growObj C As steps.length cs at_ (.slice (some ⟨g,0,none⟩) 0 cap) (.slice An nl cn))):=⟨aK HBK2.out⟩;have HFB3:=aM (aK HFB2.out);have HR3:=aM (HR2.out.below (aO (Below.refl _ w2)));have HB3:Aside0 (Below w0.heap.size w0 w2.drew):=⟨aO HB2.out⟩;have HBZ3:Aside0 (w0.heap.size≤w2.drew.heap.size):=⟨HB3.out.size⟩;generalize w2.drew=w3 at HBK3 HFB3 HR3 HB3 HBZ3 ⊢;clear HBK2 HFB2 HR2 HB2 HBZ2;refine start_ (n:=15) (S:=fun w'=>w'.cell? ⟨G,9,none⟩=some (.slice An nl cn)∧w'.cell? ⟨FB,0,none⟩=some (.int .i64 rule)∧w'.cell? ⟨FB,2,none⟩=some (.slice Av kids.length cv)) (ds:= [14]) #[F,F,F,F,F,F,F,F,F,F,F,F,F,F,F] (by kernel_rfl) rfl rfl ⟨(aG HBK3.out 9).trans rfl,(aG HFB3.out 0).trans rfl,(aG HFB3.out 2).trans rfl⟩ (fun hHeld=>?_)
 refine pure_ (i:=0) (N:=some 82) (v:=?_) (a':=?_) #[T,F,F,F,F,F,F,F,F,F,F,F,F,F,F] rfl rfl (by kernel_rfl) (fun _ _ _ h=>h) (Or.inl ⟨by rfl,?_⟩) ?_ ?_
 rotate_left;(intro w';go_simp;with_reducible rfl);rotate_left;(simp only [pq];rfl)
 refine pure_ (i:=1) (N:=some 83) (v:=?_) (a':=?_) #[T,T,F,F,F,F,F,F,F,F,F,F,F,F,F] rfl rfl (by kernel_rfl) (fun _ _ _ h=>h) (Or.inl ⟨by rfl,?_⟩) ?_ ?_
 rotate_left;(intro w';go_simp;with_reducible rfl);rotate_left;(simp only [pq];rfl)
 refine pure_ (i:=2) (N:=some 84) (v:=?_) (a':=?_) #[T,T,T,F,F,F,F,F,F,F,F,F,F,F,F] rfl rfl (by kernel_rfl) (fun _ _ _ h=>h) (Or.inl ⟨by rfl,?_⟩) ?_ ?_
 rotate_left;(intro w';go_simp;with_reducible rfl);rotate_left;(simp only [pq];rfl)
 refine pure_ (i:=3) (N:=some 85) (v:=?_) (a':=?_) #[T,T,T,T,F,F,F,F,F,F,F,F,F,F,F] rfl rfl (by kernel_rfl) (fun _ _ _ h=>h) (Or.inl ⟨by rfl,?_⟩) ?_ ?_
 rotate_left;(intro w';go_simp;with_reducible rfl);rotate_left;(simp only [pq];rfl)
 refine pure_ (i:=5) (N:=some 87) (v:=?_) (a':=?_) #[T,T,T,T,F,T,F,F,F,F,F,F,F,F,F] rfl rfl (by kernel_rfl) (fun _ _ _ h=>h) (Or.inl ⟨by rfl,?_⟩) ?_ ?_
 rotate_left;(intro w';go_simp;with_reducible rfl);rotate_left;(simp only [pq];rfl)
 refine pure_ (i:=7) (N:=some 89) (v:=?_) (a':=?_) #[T,T,T,T,F,T,F,T,F,F,F,F,F,F,F] rfl rfl (by kernel_rfl) (fun _ _ _ h=>h) (Or.inl ⟨by rfl,?_⟩) ?_ ?_
 rotate_left;(intro w';go_simp;with_reducible rfl);rotate_left;(simp only [pq];rfl)
 refine take_ (i:=4) (N:=some 86) (v:=?_) (a':=?_) #[T,T,T,T,T,T,F,T,F,F,F,F,F,F,F] rfl rfl (by kernel_rfl) (fun _ _ _ h=>h) (Or.inl ⟨by rfl,?_⟩) hHeld ?_ ?_
 rotate_left
 ·rintro w' ⟨s0,s1,s2⟩
  go_simp
  with_reducible rfl
 rotate_left
 ·simp only [pq]
  rfl
 refine take_ (i:=6) (N:=some 88) (v:=?_) (a':=?_) #[T,T,T,T,T,T,T,T,F,F,F,F,F,F,F] rfl rfl (by kernel_rfl) (fun _ _ _ h=>h) (Or.inl ⟨by rfl,?_⟩) hHeld ?_ ?_
 rotate_left
 ·rintro w' ⟨s0,s1,s2⟩
  go_simp
  with_reducible rfl
 rotate_left
 ·simp only [pq]
  rfl
 refine take_ (i:=8) (N:=some 90) (v:=?_) (a':=?_) #[T,T,T,T,T,T,T,T,T,F,F,F,F,F,F] rfl rfl (by kernel_rfl) (fun _ _ _ h=>h) (Or.inl ⟨by rfl,?_⟩) hHeld ?_ ?_
 rotate_left
 ·rintro w' ⟨s0,s1,s2⟩
  go_simp
  with_reducible rfl
 rotate_left
 ·simp only [pq]
  rfl
 refine pure_ (i:=9) (N:=some 91) (v:=?_) (a':=?_) #[T,T,T,T,T,T,T,T,T,T,F,F,F,F,F] rfl rfl (by kernel_rfl) (fun _ _ _ h=>h) (Or.inl ⟨by rfl,?_⟩) ?_ ?_
 rotate_left;(intro w';go_simp;with_reducible rfl);rotate_left;(simp only [pq];rfl)
 refine one_ (i:=10) (N:=some 92) #[T,T,T,T,T,T,T,T,T,T,T,F,F,F,F] rfl rfl (by kernel_rfl) (by decide) (fun K hK=>?_)
 refine value_ (w1:=?_) (v:=?_) (by rfl) rfl ?_ ?_
 rotate_left 2
 ·go_simp
  constructor
  ·rfl
  ·rfl
 refine hK.out _ _ ⟨(aG (aI HBK3.out _) 9).trans rfl,(aG (aI HFB3.out _) 0).trans rfl,(aG (aI HFB3.out _) 2).trans rfl⟩ (fun hHeld=>?_)
 clear hK K;refine norm_ (a':=?_) ?_ ?_
 rotate_left
 ·show Act.put _ (some 92) _=_
  simp only [pq];rfl
 refine one_ (i:=11) (N:=some 93) #[T,T,T,T,T,T,T,T,T,T,T,T,F,F,F] rfl rfl (by kernel_rfl) (by decide) (fun K hK=>?_)
 rw [show(w3.alloc (.cells #[.int .i64 rule,.slice Av kids.length cv] 34)).drew=w3.drew.alloc (.cells #[.int .i64 rule,.slice Av kids.length cv] 34) from rfl];refine Kd.R_append_step (Kd.raw 2) (w0:=w3.drew) w0.heap.size (by rfl) (.tmp 86) (.tmp 92) 29 34 (.agg #[.int .i64 0,.slice none 0 0]) 32 rfl Try.underlying29 infoNode17 rfl (by decide) (by omega) (.slice An nl cn) (ndRows nds) [.int .i64 rule,.slice Av kids.length cv] [.int .i64 rule,.slice Av kids.length cv] (fun _=>True) (fun _=>False) rfl rfl ⟨rfl,rfl,by simp [Value.oneCell']⟩ (fun _ hk=>hk.elim) (fun _ _=>trivial) (aC HR3.out.nd) (Below.refl _ _) HBZ3.out (by have:=HNL.out;rw [ndRows_len];omega) ?_
 intro v1 w4 ho hb hg hat;obtain⟨A1,n1,c1,rfl⟩:∃An ln cn,v1= .slice An ln cn:=by obtain⟨An,cn,e⟩:=Kd.R_slice ho;exact⟨An,_,cn,e⟩
 have HBK4:=aM (blk_grown (aK HBK3.out) hg (Kd.R_ne HR3.out.nd HBK3.out (by decide)));have HFB4:=aM (blk_grown (aK HFB3.out) hg (Kd.R_ne HR3.out.nd HFB3.out (by decide)));have HR4:=aM ((HR3.out.below (aO (Below.refl _ w3))).node ho hg);have HB4:Aside0 (Below w0.heap.size w0 w4):=⟨(aO HB3.out).trans hb⟩;have f9:=aH HBK4.out 9;clear ho hb hg hat;refine hK.out _ _ ⟨(aG HBK4.out 9).trans rfl,(aG HFB4.out 0).trans rfl,(aG HFB4.out 2).trans rfl⟩ (fun hHeld=>?_)
 clear hK K;refine norm_ (a':=?_) ?_ ?_
 rotate_left
 ·show Act.put _ (some 93) _=_
  simp only [pq];rfl
 refine pure_ (i:=12) (N:=some 94) (v:=?_) (a':=?_) #[T,T,T,T,T,T,T,T,T,T,T,T,T,F,F] rfl rfl (by kernel_rfl) (fun _ _ _ h=>h) (Or.inl ⟨by rfl,?_⟩) ?_ ?_
 rotate_left;(intro w';go_simp;with_reducible rfl);rotate_left;(simp only [pq];rfl)
 refine pure_ (i:=13) (N:=some 95) (v:=?_) (a':=?_) #[T,T,T,T,T,T,T,T,T,T,T,T,T,T,F] rfl rfl (by kernel_rfl) (fun _ _ _ h=>h) (Or.inl ⟨by rfl,?_⟩) ?_ ?_
 rotate_left;(intro w';go_simp;with_reducible rfl);rotate_left;(simp only [pq];rfl)
 refine last_ (i:=14) (N:=none) #[T,T,T,T,T,T,T,T,T,T,T,T,T,T,T] rfl rfl (by kernel_rfl) (by decide) (fun K hK=>?_)
 refine skip_ (w1:=?_) (by rfl) rfl ?_ ?_
 rotate_left
 ·go_simp
  rfl
 refine hK.out _ _ ?_
 clear hK K;refine done_ (by kernel_rfl) ?_
 clear hHeld;have HBK5:Aside0 ((w4.setCell ⟨G,9,none⟩ (.slice A1 n1 c1)).heap[G]?=some (growObj C As steps.length cs at_ (.slice (some ⟨g,0,none⟩) 0 cap) (.slice A1 n1 c1))):=⟨blk_put HBK4.out 9 _ rfl⟩;have HR5:=aM (HR4.out.set HBK4.out (by decide) 9 (.slice A1 n1 c1));have HB5:Aside0 (Below w0.heap.size w0 (w4.setCell ⟨G,9,none⟩ (.slice A1 n1 c1))):=⟨aL HB4.out HGG.out⟩;have HGIF:Aside0 (GI C w0 G ⟨steps,at_,[],ms++ [⟨rule,kids⟩]⟩ (w4.setCell ⟨G,9,none⟩ (.slice A1 n1 c1))):=⟨⟨[],_,As,cs,_,_,HBK5.out,rfl,by rw [List.map_append,HEN.out];rfl,HST.out.1,HST.out.2,HR5.out,HB5.out⟩⟩;clear HBK5 HR5 HB5;generalize w4.setCell ⟨G,9,none⟩ (.slice A1 n1 c1)=w5 at HGIF ⊢;go_wp2
 go_end0
 exact⟨⟨_,rfl⟩,HGIF.out⟩
set_option maxHeartbeats 8000000 in
set_option maxRecDepth 100000 in
theorem close_more {C:GC}{w0 W:World}{G:Nat}{ns:List ByteArray}{ps:List S55}{ls:List S59}(steps:List Int) (at_:Nat) (f0 u0:GFr) (fs0:List GFr) (ms:List S34) (hG:w0.heap.size≤G) (hin:GIn C w0 ns ps ls) (hg:GI C w0 G ⟨steps,at_,f0::u0::fs0,ms⟩ W) (hsz:CloseSz ⟨steps,at_,f0::u0::fs0,ms⟩) (hr0:0≤f0.rule∧f0.rule<(ns.length:Int)):
 Calls Try.prog 43 #[.pointer (some ⟨G,0,none⟩)] W fun e w'=>(∃v,e= .returned v)∧GI C w0 G (gClose ns ⟨steps,at_,f0::u0::fs0,ms⟩) w':=by
 have HGG:=aM hG;have HSZ:=aM hsz;have HIN:=aM hin;obtain⟨frs,nds,As,cs,sv,nv,hb,ef,en,hst,hsc,hr,hB⟩:=hg;simp only at hb ef en hst hsc hr
 obtain⟨f,u,fs,rfl,hf,hu,hfs⟩:∃f u fs,frs=f::u::fs∧f.fr=f0∧u.fr=u0∧fs.map FrM.fr=fs0:=by
  match frs,ef with
  |f::u::fs,ef=>simp only [List.map_cons,List.cons.injEq] at ef;exact⟨f,u,fs,rfl,ef.1,ef.2.1,ef.2.2⟩
 subst hf;subst hu;subst hfs;obtain⟨rule,A,c,left,v,kids⟩:=f;obtain⟨urule,uA,uc,uleft,uv,ukids⟩:=u;obtain⟨Av,cv,rfl⟩:∃Av cv,v= .slice Av kids.length cv:=Kd.R_slice (hr.kd.1 (v,kids) (by simp [kidsOf]));obtain⟨Au,cu,rfl⟩:∃Av cv,uv= .slice Av ukids.length cv:=Kd.R_slice (hr.kd.1 (uv,ukids) (by simp [kidsOf]));obtain⟨g,cap,rfl,hcap,hgb,hgl,hgt,c0,c1,c2,hfz⟩:=hr.top;obtain⟨m,em⟩:∃m,m=fs.length+1:=⟨_,rfl⟩;simp only [List.length_cons] at hb hr hcap c0 c1 c2 hfz;rw [←em] at hb hr hcap c0 c1 c2;have HB:=aM hB;have HBK:=aM hb;have HST:=aM (And.intro hst hsc);have HR:=aM hr;have HEN:=aM en;have HGL:=aM hgl;have HEM:=aM em;have HR0:=aM hr0;have q8:W.cell? ⟨G,8,none⟩=some (.slice (some ⟨g,0,none⟩) (m+1) cap):=(aG hb 8).trans rfl;have hm12:m≤1000000000000:=by have h:=hsz.1;simp only [List.length_cons,List.length_map] at h;omega
 have hx1:((m:Int)<(m:Int)+1)=True:=eq_true (by omega);have hm3:(m:Int)≤1000000000000:=by omega
 have HCAP:=aM hcap;have HKS:Aside0 (ukids.length+kids.length≤1000000000000):=⟨by have h:=HSZ.out.2.2;simp only [List.map_cons,List.sum_cons,FrM.fr] at h;omega⟩;have HGCL:Aside0 (gClose ns ⟨steps,at_,(⟨rule,A,c,left,.slice Av kids.length cv,kids⟩:FrM).fr::(⟨urule,uA,uc,uleft,.slice Au ukids.length cu,ukids⟩:FrM).fr::fs.map FrM.fr,ms⟩=if dotted (rdOf ByteArray.empty ns rule)=true then⟨steps,at_,⟨urule,uleft,ukids++kids⟩::fs.map FrM.fr,ms⟩ else⟨steps,at_,⟨urule,uleft,ukids++ [(ms.length:Int)]⟩::fs.map FrM.fr,ms++ [⟨rule,kids⟩]⟩):=⟨rfl⟩;have CD:Aside0 (∀W',Calls Try.prog 58 #[.string (rdOf ByteArray.empty ns rule),.string ⟨#[46]⟩] W' fun e w'=>e= .returned (.bool (dotted (rdOf ByteArray.empty ns rule)))∧W'=w'):=⟨fun W'=>contains_dot _ W'⟩;rw [HGCL.out];clear HGCL;obtain⟨nm,enm⟩:∃nm,rdOf ByteArray.empty ns rule=nm:=⟨_,rfl⟩;rw [enm] at CD ⊢;have HNME:=aM enm;generalize dotted nm=b at CD ⊢;obtain⟨R,hRR⟩:∃R,(if b=true then(⟨steps,at_,⟨urule,uleft,ukids++kids⟩::fs.map FrM.fr,ms⟩:GSt) else⟨steps,at_,⟨urule,uleft,ukids++ [(ms.length:Int)]⟩::fs.map FrM.fr,ms++ [⟨rule,kids⟩]⟩)=R:=⟨_,rfl⟩;rw [hRR];have HRR:=aM hRR;clear hRR enm hG hsz hB hb hst hsc hr en hcap hgb hgl hgt hfz ef em hin hr0 hm12;go_enter Try.func43,Try.ntmps43
 go_upto_region 2 with fail
 have HBE:Aside0 (Below W.heap.size W (W.alloc (.cells #[.int .i64 rule,.slice A left.length c,.slice Av kids.length cv] 112))):=⟨aN (Below.refl _ W) _⟩;have HFB:Aside0 ((W.alloc (.cells #[.int .i64 rule,.slice A left.length c,.slice Av kids.length cv] 112)).heap[W.heap.size]?=some (.cells #[.int .i64 rule,.slice A left.length c,.slice Av kids.length cv] 112 (0,0))):=⟨heap_alloc_new W _⟩;have HBK1:=aM (bF HBK.out HBE.out);have HR1:=aM ((HR.out.below HBE.out).pop);have HB1:Aside0 (Below w0.heap.size w0 (W.alloc (.cells #[.int .i64 rule,.slice A left.length c,.slice Av kids.length cv] 112))):=⟨HB.out.trans (HBE.out.mono HB.out.size)⟩;have HGFB:Aside0 (g≠W.heap.size):=⟨by have:=HGL.out;omega⟩;generalize W.alloc (.cells #[.int .i64 rule,.slice A left.length c,.slice Av kids.length cv] 112)=w1 at HFB HBK1 HR1 HB1 ⊢;clear HBE HBK HR c0 c1 c2 q8;simp only [List.length_cons] at HR1;rw [←HEM.out] at HR1;have q8:w1.cell? ⟨G,8,none⟩=some (.slice (some ⟨g,0,none⟩) (m+1) cap):=(aG HBK1.out 8).trans rfl;have f8:=aH HBK1.out 8;have HGF:Aside0 (W.heap.size≠G):=⟨blk_ne HFB.out HBK1.out (by decide)⟩;obtain⟨i0,hi0,hz0⟩:=Option.map_eq_some_iff.1 infoFrame;have hcut:=cut_to (P:=Try.prog) 77 112 .i64 Try.underlying77 hi0 (some ⟨g,0,none⟩) (m+1) cap (m:Int) (by omega) (by omega) HCAP.out;rw [Int.toNat_natCast] at hcut;clear hi0 hz0
 go_upto_region 3 with fail
 have HBK2:Aside0 ((w1.setCell ⟨G,8,none⟩ (.slice (some ⟨g,0,none⟩) m cap)).heap[G]?=some (growObj C As steps.length cs at_ (.slice (some ⟨g,0,none⟩) m cap) nv)):=⟨blk_put HBK1.out 8 _ rfl⟩;have HFB2:=aM (blk_far HFB.out (p:=⟨G,8,none⟩) HGF.out (.slice (some ⟨g,0,none⟩) m cap));have HR2:=aM (HR1.out.set HBK1.out (by decide) 8 (.slice (some ⟨g,0,none⟩) m cap));have HB2:Aside0 (Below w0.heap.size w0 (w1.setCell ⟨G,8,none⟩ (.slice (some ⟨g,0,none⟩) m cap))):=⟨aL HB1.out HGG.out⟩;generalize w1.setCell ⟨G,8,none⟩ (.slice (some ⟨g,0,none⟩) m cap)=w2 at HBK2 HFB2 HR2 HB2 ⊢;generalize W.heap.size=FB at HFB2 HGF HGFB ⊢;clear HFB HBK1 HR1 HB1 q8 f8 hcut;obtain⟨adn,eA0,hnm⟩:=Kd.at_string (bD HIN.out.r0 HB2.out) rule HR0.out.1 HR0.out.2;have H00:Aside0 (w2.cell? ⟨G,0,none⟩=some (.slice (some adn) ns.length C.c0)):=⟨by rw [←HIN.out.e0,←eA0];exact(aG HBK2.out 0).trans rfl⟩;rw [HNME.out] at hnm;have HNMc:=aM hnm;have hr1:(0≤rule)=True:=eq_true HR0.out.1;have hr2:(rule<(ns.length:Int))=True:=eq_true HR0.out.2;have d0:decide (0<m)=true:=decide_eq_true (by rw [HEM.out];omega);have d0':decide ((0:Int)<(m:Int))=true:=decide_eq_true (by have:=HEM.out;omega);clear hnm eA0;have hm4:(m:Int) - 1=(fs.length:Int):=by have:=HEM.out;omega
 have hk1:((fs.length:Int)<(m:Int))=True:=eq_true (by have:=HEM.out;omega);obtain⟨k,ek⟩:∃k,k=fs.length:=⟨_,rfl⟩;rw [←ek] at hm4 hk1;have HEK:=aM ek;have hk3:(k:Int)≤1000000000000:=by have:=HEM.out;omega
 clear ek
 cases b with
 |true=>
  have HRE:Aside0 (R=⟨steps,at_,⟨urule,uleft,ukids++kids⟩::fs.map FrM.fr,ms⟩):=⟨by rw [←HRR.out,if_pos rfl]⟩;refine start_ (n:=14) (S:=fun w'=>w'.cell? ⟨G,0,none⟩=some (.slice (some adn) ns.length C.c0)∧w'.cell? ⟨FB,0,none⟩=some (.int .i64 rule)∧w'.cell? (adn.add rule.toNat)=some (.string nm)) (ds:= []) #[F,F,F,F,F,F,F,F,F,F,F,F,F,F] (by kernel_rfl) rfl rfl ⟨H00.out,(aG HFB2.out 0).trans rfl,HNMc.out⟩ (fun hHeld=>?_)
  refine pure_ (i:=0) (N:=some 28) (v:=?_) (a':=?_) #[T,F,F,F,F,F,F,F,F,F,F,F,F,F] rfl rfl (by kernel_rfl) (fun _ _ _ h=>h) (Or.inl ⟨by rfl,?_⟩) ?_ ?_
  rotate_left;(intro w';go_simp;with_reducible rfl);rotate_left;(simp only [pq];rfl)
  refine pure_ (i:=1) (N:=some 29) (v:=?_) (a':=?_) #[T,T,F,F,F,F,F,F,F,F,F,F,F,F] rfl rfl (by kernel_rfl) (fun _ _ _ h=>h) (Or.inl ⟨by rfl,?_⟩) ?_ ?_
  rotate_left;(intro w';go_simp;with_reducible rfl);rotate_left;(simp only [pq];rfl)
  refine pure_ (i:=2) (N:=some 30) (v:=?_) (a':=?_) #[T,T,T,F,F,F,F,F,F,F,F,F,F,F] rfl rfl (by kernel_rfl) (fun _ _ _ h=>h) (Or.inl ⟨by rfl,?_⟩) ?_ ?_
  rotate_left;(intro w';go_simp;with_reducible rfl);rotate_left;(simp only [pq];rfl)
  refine pure_ (i:=3) (N:=some 31) (v:=?_) (a':=?_) #[T,T,T,T,F,F,F,F,F,F,F,F,F,F] rfl rfl (by kernel_rfl) (fun _ _ _ h=>h) (Or.inl ⟨by rfl,?_⟩) ?_ ?_
  rotate_left;(intro w';go_simp;with_reducible rfl);rotate_left;(simp only [pq];rfl)
  refine pure_ (i:=4) (N:=some 32) (v:=?_) (a':=?_) #[T,T,T,T,T,F,F,F,F,F,F,F,F,F] rfl rfl (by kernel_rfl) (fun _ _ _ h=>h) (Or.inl ⟨by rfl,?_⟩) ?_ ?_
  rotate_left;(intro w';go_simp;with_reducible rfl);rotate_left;(simp only [pq];rfl)
  refine pure_ (i:=5) (N:=some 33) (v:=?_) (a':=?_) #[T,T,T,T,T,T,F,F,F,F,F,F,F,F] rfl rfl (by kernel_rfl) (fun _ _ _ h=>h) (Or.inl ⟨by rfl,?_⟩) ?_ ?_
  rotate_left;(intro w';go_simp;with_reducible rfl);rotate_left;(simp only [pq];rfl)
  refine pure_ (i:=6) (N:=some 34) (v:=?_) (a':=?_) #[T,T,T,T,T,T,T,F,F,F,F,F,F,F] rfl rfl (by kernel_rfl) (fun _ _ _ h=>h) (Or.inl ⟨by rfl,?_⟩) ?_ ?_
  rotate_left;(intro w';go_simp;with_reducible rfl);rotate_left;(simp only [pq];rfl)
  refine pure_ (i:=8) (N:=some 36) (v:=?_) (a':=?_) #[T,T,T,T,T,T,T,F,T,F,F,F,F,F] rfl rfl (by kernel_rfl) (fun _ _ _ h=>h) (Or.inl ⟨by rfl,?_⟩) ?_ ?_
  rotate_left;(intro w';go_simp;with_reducible rfl);rotate_left;(simp only [pq];rfl)
  refine take_ (i:=7) (N:=some 35) (v:=?_) (a':=?_) #[T,T,T,T,T,T,T,T,T,F,F,F,F,F] rfl rfl (by kernel_rfl) (fun _ _ _ h=>h) (Or.inl ⟨by rfl,?_⟩) hHeld ?_ ?_
  rotate_left
  ·rintro w' ⟨s0,s1,s2⟩
   go_simp
   with_reducible rfl
  rotate_left
  ·simp only [pq]
   rfl
  refine take_ (i:=9) (N:=some 37) (v:=?_) (a':=?_) #[T,T,T,T,T,T,T,T,T,T,F,F,F,F] rfl rfl (by kernel_rfl) (fun _ _ _ h=>h) (Or.inl ⟨by rfl,?_⟩) hHeld ?_ ?_
  rotate_left
  ·rintro w' ⟨s0,s1,s2⟩
   go_simp
   with_reducible rfl
  rotate_left
  ·simp only [pq]
   rfl
  refine pure_ (i:=10) (N:=some 38) (v:=?_) (a':=?_) #[T,T,T,T,T,T,T,T,T,T,T,F,F,F] rfl rfl (by kernel_rfl) (fun _ _ _ h=>h) (Or.inl ⟨by rfl,?_⟩) ?_ ?_
  rotate_left;(intro w';go_simp;with_reducible rfl);rotate_left;(simp only [pq];rfl)
  refine take_ (i:=11) (N:=some 39) (v:=?_) (a':=?_) #[T,T,T,T,T,T,T,T,T,T,T,T,F,F] rfl rfl (by kernel_rfl) (fun _ _ _ h=>h) (Or.inl ⟨by rfl,?_⟩) hHeld ?_ ?_
  rotate_left
  ·rintro w' ⟨s0,s1,s2⟩
   go_simp
   with_reducible rfl
  rotate_left
  ·simp only [pq]
   rfl
  refine one_ (i:=12) (N:=some 40) #[T,T,T,T,T,T,T,T,T,T,T,T,T,F] rfl rfl (by kernel_rfl) (by decide) (fun K hK=>?_)
  refine goes_ Try.func58 (by kernel_rfl) rfl #[.string nm,.string ⟨#[46]⟩] (by rfl) rfl rfl (by simp only [List.map_toArray,List.map_cons,List.map_nil];rfl) ?_
  with_reducible refine(CD.out w2.drew).mono ?_
  rintro e w3 ⟨rfl,rfl⟩
  refine⟨_,rfl,?_⟩
  refine hK.out _ _ ⟨H00.out,(aG HFB2.out 0).trans rfl,HNMc.out⟩ (fun hHeld=>?_)
  clear hK K;refine norm_ (a':=?_) ?_ ?_
  rotate_left
  ·show Act.put _ (some 40) _=_
   simp only [pq];rfl
  refine pure_ (i:=13) (N:=some 41) (v:=?_) (a':=?_) #[T,T,T,T,T,T,T,T,T,T,T,T,T,T] rfl rfl (by kernel_rfl) (fun _ _ _ h=>h) (Or.inl ⟨by rfl,?_⟩) ?_ ?_
  rotate_left;(intro w';go_simp;with_reducible rfl);rotate_left;(simp only [pq];rfl)
  refine done_ (by kernel_rfl) ?_
  clear hHeld;have HBK3:Aside0 (w2.drew.heap[G]?=some (growObj C As steps.length cs at_ (.slice (some ⟨g,0,none⟩) m cap) nv)):=⟨aK HBK2.out⟩;have HFB3:=aM (aK HFB2.out);have HR3:=aM (HR2.out.below (aO (Below.refl _ w2)));have HB3:Aside0 (Below w0.heap.size w0 w2.drew):=⟨aO HB2.out⟩;have HBZ3:Aside0 (w0.heap.size≤w2.drew.heap.size):=⟨HB3.out.size⟩
  go_upto_region 4 with fail
  generalize w2.drew=w3 at HBK3 HFB3 HR3 HB3 HBZ3 ⊢;clear HBK2 HFB2 HR2 HB2 H00 HNMc;have q8:w3.cell? ⟨G,8,none⟩=some (.slice (some ⟨g,0,none⟩) m cap):=(aG HBK3.out 8).trans rfl
  go_upto_region 5 with fail
  clear q8;obtain⟨g',cap',eg,_,_,_,_,_,_,c2,_⟩:=HR3.out.top;obtain⟨rfl⟩:g=g':=by injection eg with e;injection e with e;injection e
  rw [←HEK.out] at c2;have C2:=aM c2;have HRU:=aM (HR3.out.kd.1 (.slice Au ukids.length cu,ukids) (List.mem_append_right _ (by simp [kidsOf])));have HRV:=aM (HR3.out.kd.1 (.slice Av kids.length cv,kids) (List.mem_append_left _ (by simp)));clear c2 eg;refine start_ (n:=11) (S:=fun w'=>w'.cell? ⟨g,k * 3+2,none⟩=some (.slice Au ukids.length cu)∧w'.cell? ⟨FB,2,none⟩=some (.slice Av kids.length cv)) (ds:= [10]) #[F,F,F,F,F,F,F,F,F,F,F] (by kernel_rfl) rfl rfl ⟨C2.out,(aG HFB3.out 2).trans rfl⟩ (fun hHeld=>?_)
  refine pure_ (i:=0) (N:=some 49) (v:=?_) (a':=?_) #[T,F,F,F,F,F,F,F,F,F,F] rfl rfl (by kernel_rfl) (fun _ _ _ h=>h) (Or.inl ⟨by rfl,?_⟩) ?_ ?_
  rotate_left;(intro w';go_simp;with_reducible rfl);rotate_left;(simp only [pq];rfl)
  refine pure_ (i:=1) (N:=some 50) (v:=?_) (a':=?_) #[T,T,F,F,F,F,F,F,F,F,F] rfl rfl (by kernel_rfl) (fun _ _ _ h=>h) (Or.inl ⟨by rfl,?_⟩) ?_ ?_
  rotate_left;(intro w';go_simp;with_reducible rfl);rotate_left;(simp only [pq];rfl)
  refine pure_ (i:=2) (N:=some 51) (v:=?_) (a':=?_) #[T,T,T,F,F,F,F,F,F,F,F] rfl rfl (by kernel_rfl) (fun _ _ _ h=>h) (Or.inl ⟨by rfl,?_⟩) ?_ ?_
  rotate_left;(intro w';go_simp;with_reducible rfl);rotate_left;(simp only [pq];rfl)
  refine pure_ (i:=3) (N:=some 52) (v:=?_) (a':=?_) #[T,T,T,T,F,F,F,F,F,F,F] rfl rfl (by kernel_rfl) (fun _ _ _ h=>h) (Or.inl ⟨by rfl,?_⟩) ?_ ?_
  rotate_left;(intro w';go_simp;with_reducible rfl);rotate_left;(simp only [pq];rfl)
  refine pure_ (i:=5) (N:=some 54) (v:=?_) (a':=?_) #[T,T,T,T,F,T,F,F,F,F,F] rfl rfl (by kernel_rfl) (fun _ _ _ h=>h) (Or.inl ⟨by rfl,?_⟩) ?_ ?_
  rotate_left;(intro w';go_simp;with_reducible rfl);rotate_left;(simp only [pq];rfl)
  refine take_ (i:=4) (N:=some 53) (v:=?_) (a':=?_) #[T,T,T,T,T,T,F,F,F,F,F] rfl rfl (by kernel_rfl) (fun _ _ _ h=>h) (Or.inl ⟨by rfl,?_⟩) hHeld ?_ ?_
  rotate_left
  ·rintro w' ⟨s0,s1⟩
   go_simp
   with_reducible rfl
  rotate_left
  ·simp only [pq]
   rfl
  refine take_ (i:=6) (N:=some 55) (v:=?_) (a':=?_) #[T,T,T,T,T,T,T,F,F,F,F] rfl rfl (by kernel_rfl) (fun _ _ _ h=>h) (Or.inl ⟨by rfl,?_⟩) hHeld ?_ ?_
  rotate_left
  ·rintro w' ⟨s0,s1⟩
   go_simp
   with_reducible rfl
  rotate_left
  ·simp only [pq]
   rfl
  refine one_ (i:=7) (N:=some 56) #[T,T,T,T,T,T,T,T,F,F,F] rfl rfl (by kernel_rfl) (by decide) (fun K hK=>?_)
  refine Kd.R_append_rows_step (Kd.int .i64) (Rr:=(Kd.int .i64).K w3.drew) (w0:=w3.drew) w0.heap.size (by rfl) (.tmp 53) (.tmp 55) 27 3 (.int .i64 0) 8 rfl Try.underlying27 infoInt17 rfl (by decide) (by omega) (.slice Au ukids.length cu) ukids kids Av kids.length cv (fun _=>True) (fun _=>False) rfl rfl (Kd.R_mono (aC HRU.out) (fun _ _=>trivial)) (aF (aC HRV.out)).2.2 (fun _ _ h=>h) (fun _ h=>h.elim) (fun _ _=>trivial) (Below.refl _ _) HBZ3.out (by have:=HKS.out;omega) ?_
  intro v1 w4 ho hb hg hat;obtain⟨A1,n1,c1,rfl⟩:∃An ln cn,v1= .slice An ln cn:=by obtain⟨An,cn,e⟩:=Kd.R_slice ho;exact⟨An,_,cn,e⟩
  have HBK4:=aM (blk_grown (aK HBK3.out) hg (Kd.R_ne HRU.out HBK3.out (by decide)));have HFB4:=aM (blk_grown (aK HFB3.out) hg (Kd.R_ne HRU.out HFB3.out (by decide)));obtain⟨g4,cap4,eg4,hgb4,⟨cl4,hc4⟩,k2,kf,_,HRK⟩:=(HR3.out.below (aO (Below.refl _ w3))).kid ho hg hat;obtain⟨rfl⟩:g=g4:=by injection eg4 with e;injection e with e;injection e
  rw [←HEK.out] at k2 kf HRK;have HRK4:=aM HRK;have HGB4:Aside0 (w0.heap.size≤g):=⟨hgb4⟩;have HGG4:Aside0 (G≠g):=⟨blk_ne HBK4.out hc4 (by decide)⟩;have HGX4:Aside0 (FB≠g):=⟨fun e=>HGFB.out e.symm⟩;have HB4:Aside0 (Below w0.heap.size w0 w4):=⟨(aO HB3.out).trans hb⟩;clear ho hb hg hat HRK hc4 hgb4 eg4;refine hK.out _ _ ⟨k2,(aG HFB4.out 2).trans rfl⟩ (fun hHeld=>?_)
  clear hK K;refine norm_ (a':=?_) ?_ ?_
  rotate_left
  ·show Act.put _ (some 56) _=_
   simp only [pq];rfl
  refine pure_ (i:=8) (N:=some 57) (v:=?_) (a':=?_) #[T,T,T,T,T,T,T,T,T,F,F] rfl rfl (by kernel_rfl) (fun _ _ _ h=>h) (Or.inl ⟨by rfl,?_⟩) ?_ ?_
  rotate_left;(intro w';go_simp;with_reducible rfl);rotate_left;(simp only [pq];rfl)
  refine pure_ (i:=9) (N:=some 58) (v:=?_) (a':=?_) #[T,T,T,T,T,T,T,T,T,T,F] rfl rfl (by kernel_rfl) (fun _ _ _ h=>h) (Or.inl ⟨by rfl,?_⟩) ?_ ?_
  rotate_left;(intro w';go_simp;with_reducible rfl);rotate_left;(simp only [pq];rfl)
  refine last_ (i:=10) (N:=none) #[T,T,T,T,T,T,T,T,T,T,T] rfl rfl (by kernel_rfl) (by decide) (fun K hK=>?_)
  refine skip_ (w1:=?_) (by rfl) rfl ?_ ?_
  rotate_left
  ·go_simp
   rfl
  refine hK.out _ _ ?_
  clear hK K;refine done_ (by kernel_rfl) ?_
  clear hHeld;have HBK5:Aside0 ((w4.setCell ⟨g,k * 3+2,none⟩ (.slice A1 n1 c1)).heap[G]?=some (growObj C As steps.length cs at_ (.slice (some ⟨g,0,none⟩) m cap) nv)):=⟨blk_far HBK4.out (p:=⟨g,k * 3+2,none⟩) HGG4.out (.slice A1 n1 c1)⟩;have HB5:Aside0 (Below w0.heap.size w0 (w4.setCell ⟨g,k * 3+2,none⟩ (.slice A1 n1 c1))):=⟨aL HB4.out HGB4.out⟩;have HGIF:Aside0 (GI C w0 G R (w4.setCell ⟨g,k * 3+2,none⟩ (.slice A1 n1 c1))):=⟨by rw [HRE.out];exact⟨_,nds,As,cs,_,nv,HBK5.out,rfl,HEN.out,HST.out.1,HST.out.2,HRK4.out.drop,HB5.out⟩⟩;clear HBK5 HB5 HRK4 k2 kf;generalize w4.setCell ⟨g,k * 3+2,none⟩ (.slice A1 n1 c1)=w5 at HGIF ⊢;go_wp2
  refine bodyPost_ret (results_none rfl _ _ _) rfl ?_
  exact⟨⟨_,rfl⟩,HGIF.out⟩
 |false=>
  have HRE:Aside0 (R=⟨steps,at_,⟨urule,uleft,ukids++ [(ms.length:Int)]⟩::fs.map FrM.fr,ms++ [⟨rule,kids⟩]⟩):=⟨by rw [←HRR.out,if_neg (by simp)]⟩;refine start_ (n:=14) (S:=fun w'=>w'.cell? ⟨G,0,none⟩=some (.slice (some adn) ns.length C.c0)∧w'.cell? ⟨FB,0,none⟩=some (.int .i64 rule)∧w'.cell? (adn.add rule.toNat)=some (.string nm)) (ds:= []) #[F,F,F,F,F,F,F,F,F,F,F,F,F,F] (by kernel_rfl) rfl rfl ⟨H00.out,(aG HFB2.out 0).trans rfl,HNMc.out⟩ (fun hHeld=>?_)
  refine pure_ (i:=0) (N:=some 28) (v:=?_) (a':=?_) #[T,F,F,F,F,F,F,F,F,F,F,F,F,F] rfl rfl (by kernel_rfl) (fun _ _ _ h=>h) (Or.inl ⟨by rfl,?_⟩) ?_ ?_
  rotate_left;(intro w';go_simp;with_reducible rfl);rotate_left;(simp only [pq];rfl)
  refine pure_ (i:=1) (N:=some 29) (v:=?_) (a':=?_) #[T,T,F,F,F,F,F,F,F,F,F,F,F,F] rfl rfl (by kernel_rfl) (fun _ _ _ h=>h) (Or.inl ⟨by rfl,?_⟩) ?_ ?_
  rotate_left;(intro w';go_simp;with_reducible rfl);rotate_left;(simp only [pq];rfl)
  refine pure_ (i:=2) (N:=some 30) (v:=?_) (a':=?_) #[T,T,T,F,F,F,F,F,F,F,F,F,F,F] rfl rfl (by kernel_rfl) (fun _ _ _ h=>h) (Or.inl ⟨by rfl,?_⟩) ?_ ?_
  rotate_left;(intro w';go_simp;with_reducible rfl);rotate_left;(simp only [pq];rfl)
  refine pure_ (i:=3) (N:=some 31) (v:=?_) (a':=?_) #[T,T,T,T,F,F,F,F,F,F,F,F,F,F] rfl rfl (by kernel_rfl) (fun _ _ _ h=>h) (Or.inl ⟨by rfl,?_⟩) ?_ ?_
  rotate_left;(intro w';go_simp;with_reducible rfl);rotate_left;(simp only [pq];rfl)
  refine pure_ (i:=4) (N:=some 32) (v:=?_) (a':=?_) #[T,T,T,T,T,F,F,F,F,F,F,F,F,F] rfl rfl (by kernel_rfl) (fun _ _ _ h=>h) (Or.inl ⟨by rfl,?_⟩) ?_ ?_
  rotate_left;(intro w';go_simp;with_reducible rfl);rotate_left;(simp only [pq];rfl)
  refine pure_ (i:=5) (N:=some 33) (v:=?_) (a':=?_) #[T,T,T,T,T,T,F,F,F,F,F,F,F,F] rfl rfl (by kernel_rfl) (fun _ _ _ h=>h) (Or.inl ⟨by rfl,?_⟩) ?_ ?_
  rotate_left;(intro w';go_simp;with_reducible rfl);rotate_left;(simp only [pq];rfl)
  refine pure_ (i:=6) (N:=some 34) (v:=?_) (a':=?_) #[T,T,T,T,T,T,T,F,F,F,F,F,F,F] rfl rfl (by kernel_rfl) (fun _ _ _ h=>h) (Or.inl ⟨by rfl,?_⟩) ?_ ?_
  rotate_left;(intro w';go_simp;with_reducible rfl);rotate_left;(simp only [pq];rfl)
  refine pure_ (i:=8) (N:=some 36) (v:=?_) (a':=?_) #[T,T,T,T,T,T,T,F,T,F,F,F,F,F] rfl rfl (by kernel_rfl) (fun _ _ _ h=>h) (Or.inl ⟨by rfl,?_⟩) ?_ ?_
  rotate_left;(intro w';go_simp;with_reducible rfl);rotate_left;(simp only [pq];rfl)
  refine take_ (i:=7) (N:=some 35) (v:=?_) (a':=?_) #[T,T,T,T,T,T,T,T,T,F,F,F,F,F] rfl rfl (by kernel_rfl) (fun _ _ _ h=>h) (Or.inl ⟨by rfl,?_⟩) hHeld ?_ ?_
  rotate_left
  ·rintro w' ⟨s0,s1,s2⟩
   go_simp
   with_reducible rfl
  rotate_left
  ·simp only [pq]
   rfl
  refine take_ (i:=9) (N:=some 37) (v:=?_) (a':=?_) #[T,T,T,T,T,T,T,T,T,T,F,F,F,F] rfl rfl (by kernel_rfl) (fun _ _ _ h=>h) (Or.inl ⟨by rfl,?_⟩) hHeld ?_ ?_
  rotate_left
  ·rintro w' ⟨s0,s1,s2⟩
   go_simp
   with_reducible rfl
  rotate_left
  ·simp only [pq]
   rfl
  refine pure_ (i:=10) (N:=some 38) (v:=?_) (a':=?_) #[T,T,T,T,T,T,T,T,T,T,T,F,F,F] rfl rfl (by kernel_rfl) (fun _ _ _ h=>h) (Or.inl ⟨by rfl,?_⟩) ?_ ?_
  rotate_left;(intro w';go_simp;with_reducible rfl);rotate_left;(simp only [pq];rfl)
  refine take_ (i:=11) (N:=some 39) (v:=?_) (a':=?_) #[T,T,T,T,T,T,T,T,T,T,T,T,F,F] rfl rfl (by kernel_rfl) (fun _ _ _ h=>h) (Or.inl ⟨by rfl,?_⟩) hHeld ?_ ?_
  rotate_left
  ·rintro w' ⟨s0,s1,s2⟩
   go_simp
   with_reducible rfl
  rotate_left
  ·simp only [pq]
   rfl
  refine one_ (i:=12) (N:=some 40) #[T,T,T,T,T,T,T,T,T,T,T,T,T,F] rfl rfl (by kernel_rfl) (by decide) (fun K hK=>?_)
  refine goes_ Try.func58 (by kernel_rfl) rfl #[.string nm,.string ⟨#[46]⟩] (by rfl) rfl rfl (by simp only [List.map_toArray,List.map_cons,List.map_nil];rfl) ?_
  with_reducible refine(CD.out w2.drew).mono ?_
  rintro e w3 ⟨rfl,rfl⟩
  refine⟨_,rfl,?_⟩
  refine hK.out _ _ ⟨H00.out,(aG HFB2.out 0).trans rfl,HNMc.out⟩ (fun hHeld=>?_)
  clear hK K;refine norm_ (a':=?_) ?_ ?_
  rotate_left
  ·show Act.put _ (some 40) _=_
   simp only [pq];rfl
  refine pure_ (i:=13) (N:=some 41) (v:=?_) (a':=?_) #[T,T,T,T,T,T,T,T,T,T,T,T,T,T] rfl rfl (by kernel_rfl) (fun _ _ _ h=>h) (Or.inl ⟨by rfl,?_⟩) ?_ ?_
  rotate_left;(intro w';go_simp;with_reducible rfl);rotate_left;(simp only [pq];rfl)
  refine done_ (by kernel_rfl) ?_
  clear hHeld;have HBK3:Aside0 (w2.drew.heap[G]?=some (growObj C As steps.length cs at_ (.slice (some ⟨g,0,none⟩) m cap) nv)):=⟨aK HBK2.out⟩;have HFB3:=aM (aK HFB2.out);have HR3:=aM (HR2.out.below (aO (Below.refl _ w2)));have HB3:Aside0 (Below w0.heap.size w0 w2.drew):=⟨aO HB2.out⟩;have HBZ3:Aside0 (w0.heap.size≤w2.drew.heap.size):=⟨HB3.out.size⟩
  go_upto_region 7 with fail
  generalize w2.drew=w3 at HBK3 HFB3 HR3 HB3 HBZ3 ⊢;clear HBK2 HFB2 HR2 HB2 H00 HNMc;have q8:w3.cell? ⟨G,8,none⟩=some (.slice (some ⟨g,0,none⟩) m cap):=(aG HBK3.out 8).trans rfl
  go_upto_region 8 with fail
  clear q8;obtain⟨g',cap',eg,_,_,_,_,_,_,c2,_⟩:=HR3.out.top;obtain⟨rfl⟩:g=g':=by injection eg with e;injection e with e;injection e
  rw [←HEK.out] at c2;have C2:=aM c2;have HRU:=aM (HR3.out.kd.1 (.slice Au ukids.length cu,ukids) (List.mem_append_right _ (by simp [kidsOf])));have HRV:=aM (HR3.out.kd.1 (.slice Av kids.length cv,kids) (List.mem_append_left _ (by simp)));clear c2 eg;obtain⟨An,cn,env⟩:=Kd.R_slice HR3.out.nd;subst env;rw [ndRows_len] at HR3 HBK3;obtain⟨nl,enl⟩:∃nl,nl=nds.length:=⟨_,rfl⟩;rw [←enl] at HR3 HBK3;have HNLE:Aside0 (nl=ms.length):=⟨by rw [enl,←HEN.out,List.length_map]⟩;clear enl;refine start_ (n:=15) (S:=fun w'=>w'.cell? ⟨g,k * 3+2,none⟩=some (.slice Au ukids.length cu)∧w'.cell? ⟨G,9,none⟩=some (.slice An nl cn)) (ds:= [14]) #[F,F,F,F,F,F,F,F,F,F,F,F,F,F,F] (by kernel_rfl) rfl rfl ⟨C2.out,(aG HBK3.out 9).trans rfl⟩ (fun hHeld=>?_)
  refine pure_ (i:=0) (N:=some 68) (v:=?_) (a':=?_) #[T,F,F,F,F,F,F,F,F,F,F,F,F,F,F] rfl rfl (by kernel_rfl) (fun _ _ _ h=>h) (Or.inl ⟨by rfl,?_⟩) ?_ ?_
  rotate_left;(intro w';go_simp;with_reducible rfl);rotate_left;(simp only [pq];rfl)
  refine pure_ (i:=1) (N:=some 69) (v:=?_) (a':=?_) #[T,T,F,F,F,F,F,F,F,F,F,F,F,F,F] rfl rfl (by kernel_rfl) (fun _ _ _ h=>h) (Or.inl ⟨by rfl,?_⟩) ?_ ?_
  rotate_left;(intro w';go_simp;with_reducible rfl);rotate_left;(simp only [pq];rfl)
  refine pure_ (i:=2) (N:=some 70) (v:=?_) (a':=?_) #[T,T,T,F,F,F,F,F,F,F,F,F,F,F,F] rfl rfl (by kernel_rfl) (fun _ _ _ h=>h) (Or.inl ⟨by rfl,?_⟩) ?_ ?_
  rotate_left;(intro w';go_simp;with_reducible rfl);rotate_left;(simp only [pq];rfl)
  refine pure_ (i:=3) (N:=some 71) (v:=?_) (a':=?_) #[T,T,T,T,F,F,F,F,F,F,F,F,F,F,F] rfl rfl (by kernel_rfl) (fun _ _ _ h=>h) (Or.inl ⟨by rfl,?_⟩) ?_ ?_
  rotate_left;(intro w';go_simp;with_reducible rfl);rotate_left;(simp only [pq];rfl)
  refine pure_ (i:=5) (N:=some 73) (v:=?_) (a':=?_) #[T,T,T,T,F,T,F,F,F,F,F,F,F,F,F] rfl rfl (by kernel_rfl) (fun _ _ _ h=>h) (Or.inl ⟨by rfl,?_⟩) ?_ ?_
  rotate_left;(intro w';go_simp;with_reducible rfl);rotate_left;(simp only [pq];rfl)
  refine pure_ (i:=6) (N:=some 74) (v:=?_) (a':=?_) #[T,T,T,T,F,T,T,F,F,F,F,F,F,F,F] rfl rfl (by kernel_rfl) (fun _ _ _ h=>h) (Or.inl ⟨by rfl,?_⟩) ?_ ?_
  rotate_left;(intro w';go_simp;with_reducible rfl);rotate_left;(simp only [pq];rfl)
  refine pure_ (i:=7) (N:=some 75) (v:=?_) (a':=?_) #[T,T,T,T,F,T,T,T,F,F,F,F,F,F,F] rfl rfl (by kernel_rfl) (fun _ _ _ h=>h) (Or.inl ⟨by rfl,?_⟩) ?_ ?_
  rotate_left;(intro w';go_simp;with_reducible rfl);rotate_left;(simp only [pq];rfl)
  refine take_ (i:=4) (N:=some 72) (v:=?_) (a':=?_) #[T,T,T,T,T,T,T,T,F,F,F,F,F,F,F] rfl rfl (by kernel_rfl) (fun _ _ _ h=>h) (Or.inl ⟨by rfl,?_⟩) hHeld ?_ ?_
  rotate_left
  ·rintro w' ⟨s0,s1⟩
   go_simp
   with_reducible rfl
  rotate_left
  ·simp only [pq]
   rfl
  refine take_ (i:=8) (N:=some 76) (v:=?_) (a':=?_) #[T,T,T,T,T,T,T,T,T,F,F,F,F,F,F] rfl rfl (by kernel_rfl) (fun _ _ _ h=>h) (Or.inl ⟨by rfl,?_⟩) hHeld ?_ ?_
  rotate_left
  ·rintro w' ⟨s0,s1⟩
   go_simp
   with_reducible rfl
  rotate_left
  ·simp only [pq]
   rfl
  refine pure_ (i:=9) (N:=some 77) (v:=?_) (a':=?_) #[T,T,T,T,T,T,T,T,T,T,F,F,F,F,F] rfl rfl (by kernel_rfl) (fun _ _ _ h=>h) (Or.inl ⟨by rfl,?_⟩) ?_ ?_
  rotate_left;(intro w';go_simp;with_reducible rfl);rotate_left;(simp only [pq];rfl)
  refine one_ (i:=10) (N:=some 78) #[T,T,T,T,T,T,T,T,T,T,T,F,F,F,F] rfl rfl (by kernel_rfl) (by decide) (fun K hK=>?_)
  refine value_ (w1:=?_) (v:=?_) (by rfl) rfl ?_ ?_
  rotate_left 2
  ·go_simp
   constructor
   ·rfl
   ·rfl
  refine hK.out _ _ ⟨pw_cell_below (aN (Below.refl _ _) _) C2.out,(aG (aI HBK3.out _) 9).trans rfl⟩ (fun hHeld=>?_)
  clear hK K;refine norm_ (a':=?_) ?_ ?_
  rotate_left
  ·show Act.put _ (some 78) _=_
   simp only [pq];rfl
  refine one_ (i:=11) (N:=some 79) #[T,T,T,T,T,T,T,T,T,T,T,T,F,F,F] rfl rfl (by kernel_rfl) (by decide) (fun K hK=>?_)
  rw [show(w3.alloc (.cells #[.int .i64 (nl:Int)] 3)).drew=w3.drew.alloc (.cells #[.int .i64 (nl:Int)] 3) from rfl];refine Kd.R_append_step (Kd.int .i64) (w0:=w3.drew) w0.heap.size (by rfl) (.tmp 72) (.tmp 78) 27 3 (.int .i64 0) 8 rfl Try.underlying27 infoInt17 rfl (by decide) (by omega) (.slice Au ukids.length cu) ukids (nl:Int) [.int .i64 (nl:Int)] (fun _=>True) (fun _=>False) rfl rfl rfl (fun _ hk=>hk.elim) (fun _ _=>trivial) (Kd.R_mono (aC HRU.out) (fun _ _=>trivial)) (Below.refl _ _) HBZ3.out (by have:=HKS.out;omega) ?_
  intro v1 w4 ho hb hg hat;obtain⟨A1,n1,c1,rfl⟩:∃An ln cn,v1= .slice An ln cn:=by obtain⟨An,cn,e⟩:=Kd.R_slice ho;exact⟨An,_,cn,e⟩
  have HBK4:=aM (blk_grown (aK HBK3.out) hg (Kd.R_ne HRU.out HBK3.out (by decide)));have HFB4:=aM (blk_grown (aK HFB3.out) hg (Kd.R_ne HRU.out HFB3.out (by decide)));obtain⟨g4,cap4,eg4,hgb4,⟨cl4,hc4⟩,k2,kf,_,HRK⟩:=(HR3.out.below (aO (Below.refl _ w3))).kid ho hg hat;obtain⟨rfl⟩:g=g4:=by injection eg4 with e;injection e with e;injection e
  rw [←HEK.out] at k2 kf HRK;have HRK4:=aM HRK;have HGB4:Aside0 (w0.heap.size≤g):=⟨hgb4⟩;have HGG4:Aside0 (G≠g):=⟨blk_ne HBK4.out hc4 (by decide)⟩;have HGX4:Aside0 (FB≠g):=⟨fun e=>HGFB.out e.symm⟩;have HB4:Aside0 (Below w0.heap.size w0 w4):=⟨(aO HB3.out).trans hb⟩;clear ho hb hg hat HRK hc4 hgb4 eg4;refine hK.out _ _ ⟨k2,(aG HBK4.out 9).trans rfl⟩ (fun hHeld=>?_)
  clear hK K;refine norm_ (a':=?_) ?_ ?_
  rotate_left
  ·show Act.put _ (some 79) _=_
   simp only [pq];rfl
  refine pure_ (i:=12) (N:=some 80) (v:=?_) (a':=?_) #[T,T,T,T,T,T,T,T,T,T,T,T,T,F,F] rfl rfl (by kernel_rfl) (fun _ _ _ h=>h) (Or.inl ⟨by rfl,?_⟩) ?_ ?_
  rotate_left;(intro w';go_simp;with_reducible rfl);rotate_left;(simp only [pq];rfl)
  refine pure_ (i:=13) (N:=some 81) (v:=?_) (a':=?_) #[T,T,T,T,T,T,T,T,T,T,T,T,T,T,F] rfl rfl (by kernel_rfl) (fun _ _ _ h=>h) (Or.inl ⟨by rfl,?_⟩) ?_ ?_
  rotate_left;(intro w';go_simp;with_reducible rfl);rotate_left;(simp only [pq];rfl)
  refine last_ (i:=14) (N:=none) #[T,T,T,T,T,T,T,T,T,T,T,T,T,T,T] rfl rfl (by kernel_rfl) (by decide) (fun K hK=>?_)
  refine skip_ (w1:=?_) (by rfl) rfl ?_ ?_
  rotate_left
  ·go_simp
   rfl
  refine hK.out _ _ ?_
  clear hK K;refine done_ (by kernel_rfl) ?_
  clear hHeld;have HBK5:Aside0 ((w4.setCell ⟨g,k * 3+2,none⟩ (.slice A1 n1 c1)).heap[G]?=some (growObj C As steps.length cs at_ (.slice (some ⟨g,0,none⟩) m cap) (.slice An nl cn))):=⟨blk_far HBK4.out (p:=⟨g,k * 3+2,none⟩) HGG4.out (.slice A1 n1 c1)⟩;have HB5:Aside0 (Below w0.heap.size w0 (w4.setCell ⟨g,k * 3+2,none⟩ (.slice A1 n1 c1))):=⟨aL HB4.out HGB4.out⟩;have HFB5:=aM (blk_far HFB4.out (p:=⟨g,k * 3+2,none⟩) HGX4.out (.slice A1 n1 c1));clear HBK4 HFB4 HB4 HBK3 HFB3 HB3 HBZ3 C2 HRU HRV HR3
  go_upto_region 9 with fail
  generalize w4.setCell ⟨g,k * 3+2,none⟩ (.slice A1 n1 c1)=w6 at HBK5 HFB5 HB5 HRK4 ⊢;clear k2 kf;have HBK3:=HBK5;have HFB3:=HFB5;have HB3:=HB5;have HR3:=HRK4;clear HBK5 HFB5 HB5 HRK4;have HNL:Aside0 (nds.length≤1000000000000):=⟨by have h:=HSZ.out.2.1;rw [←HEN.out,List.length_map] at h;exact h⟩;have HBZ3:Aside0 (w0.heap.size≤w6.heap.size):=⟨HB3.out.size⟩;refine start_ (n:=15) (S:=fun w'=>w'.cell? ⟨G,9,none⟩=some (.slice An nl cn)∧w'.cell? ⟨FB,0,none⟩=some (.int .i64 rule)∧w'.cell? ⟨FB,2,none⟩=some (.slice Av kids.length cv)) (ds:= [14]) #[F,F,F,F,F,F,F,F,F,F,F,F,F,F,F] (by kernel_rfl) rfl rfl ⟨(aG HBK3.out 9).trans rfl,(aG HFB3.out 0).trans rfl,(aG HFB3.out 2).trans rfl⟩ (fun hHeld=>?_)
  refine pure_ (i:=0) (N:=some 82) (v:=?_) (a':=?_) #[T,F,F,F,F,F,F,F,F,F,F,F,F,F,F] rfl rfl (by kernel_rfl) (fun _ _ _ h=>h) (Or.inl ⟨by rfl,?_⟩) ?_ ?_
  rotate_left;(intro w';go_simp;with_reducible rfl);rotate_left;(simp only [pq];rfl)
  refine pure_ (i:=1) (N:=some 83) (v:=?_) (a':=?_) #[T,T,F,F,F,F,F,F,F,F,F,F,F,F,F] rfl rfl (by kernel_rfl) (fun _ _ _ h=>h) (Or.inl ⟨by rfl,?_⟩) ?_ ?_
  rotate_left;(intro w';go_simp;with_reducible rfl);rotate_left;(simp only [pq];rfl)
  refine pure_ (i:=2) (N:=some 84) (v:=?_) (a':=?_) #[T,T,T,F,F,F,F,F,F,F,F,F,F,F,F] rfl rfl (by kernel_rfl) (fun _ _ _ h=>h) (Or.inl ⟨by rfl,?_⟩) ?_ ?_
  rotate_left;(intro w';go_simp;with_reducible rfl);rotate_left;(simp only [pq];rfl)
  refine pure_ (i:=3) (N:=some 85) (v:=?_) (a':=?_) #[T,T,T,T,F,F,F,F,F,F,F,F,F,F,F] rfl rfl (by kernel_rfl) (fun _ _ _ h=>h) (Or.inl ⟨by rfl,?_⟩) ?_ ?_
  rotate_left;(intro w';go_simp;with_reducible rfl);rotate_left;(simp only [pq];rfl)
  refine pure_ (i:=5) (N:=some 87) (v:=?_) (a':=?_) #[T,T,T,T,F,T,F,F,F,F,F,F,F,F,F] rfl rfl (by kernel_rfl) (fun _ _ _ h=>h) (Or.inl ⟨by rfl,?_⟩) ?_ ?_
  rotate_left;(intro w';go_simp;with_reducible rfl);rotate_left;(simp only [pq];rfl)
  refine pure_ (i:=7) (N:=some 89) (v:=?_) (a':=?_) #[T,T,T,T,F,T,F,T,F,F,F,F,F,F,F] rfl rfl (by kernel_rfl) (fun _ _ _ h=>h) (Or.inl ⟨by rfl,?_⟩) ?_ ?_
  rotate_left;(intro w';go_simp;with_reducible rfl);rotate_left;(simp only [pq];rfl)
  refine take_ (i:=4) (N:=some 86) (v:=?_) (a':=?_) #[T,T,T,T,T,T,F,T,F,F,F,F,F,F,F] rfl rfl (by kernel_rfl) (fun _ _ _ h=>h) (Or.inl ⟨by rfl,?_⟩) hHeld ?_ ?_
  rotate_left
  ·rintro w' ⟨s0,s1,s2⟩
   go_simp
   with_reducible rfl
  rotate_left
  ·simp only [pq]
   rfl
  refine take_ (i:=6) (N:=some 88) (v:=?_) (a':=?_) #[T,T,T,T,T,T,T,T,F,F,F,F,F,F,F] rfl rfl (by kernel_rfl) (fun _ _ _ h=>h) (Or.inl ⟨by rfl,?_⟩) hHeld ?_ ?_
  rotate_left
  ·rintro w' ⟨s0,s1,s2⟩
   go_simp
   with_reducible rfl
  rotate_left
  ·simp only [pq]
   rfl
  refine take_ (i:=8) (N:=some 90) (v:=?_) (a':=?_) #[T,T,T,T,T,T,T,T,T,F,F,F,F,F,F] rfl rfl (by kernel_rfl) (fun _ _ _ h=>h) (Or.inl ⟨by rfl,?_⟩) hHeld ?_ ?_
  rotate_left
  ·rintro w' ⟨s0,s1,s2⟩
   go_simp
   with_reducible rfl
  rotate_left
  ·simp only [pq]
   rfl
  refine pure_ (i:=9) (N:=some 91) (v:=?_) (a':=?_) #[T,T,T,T,T,T,T,T,T,T,F,F,F,F,F] rfl rfl (by kernel_rfl) (fun _ _ _ h=>h) (Or.inl ⟨by rfl,?_⟩) ?_ ?_
  rotate_left;(intro w';go_simp;with_reducible rfl);rotate_left;(simp only [pq];rfl)
  refine one_ (i:=10) (N:=some 92) #[T,T,T,T,T,T,T,T,T,T,T,F,F,F,F] rfl rfl (by kernel_rfl) (by decide) (fun K hK=>?_)
  refine value_ (w1:=?_) (v:=?_) (by rfl) rfl ?_ ?_
  rotate_left 2
  ·go_simp
   constructor
   ·rfl
   ·rfl
  refine hK.out _ _ ⟨(aG (aI HBK3.out _) 9).trans rfl,(aG (aI HFB3.out _) 0).trans rfl,(aG (aI HFB3.out _) 2).trans rfl⟩ (fun hHeld=>?_)
  clear hK K;refine norm_ (a':=?_) ?_ ?_
  rotate_left
  ·show Act.put _ (some 92) _=_
   simp only [pq];rfl
  refine one_ (i:=11) (N:=some 93) #[T,T,T,T,T,T,T,T,T,T,T,T,F,F,F] rfl rfl (by kernel_rfl) (by decide) (fun K hK=>?_)
  rw [show(w6.alloc (.cells #[.int .i64 rule,.slice Av kids.length cv] 34)).drew=w6.drew.alloc (.cells #[.int .i64 rule,.slice Av kids.length cv] 34) from rfl];refine Kd.R_append_step (Kd.raw 2) (w0:=w6.drew) w0.heap.size (by rfl) (.tmp 86) (.tmp 92) 29 34 (.agg #[.int .i64 0,.slice none 0 0]) 32 rfl Try.underlying29 infoNode17 rfl (by decide) (by omega) (.slice An nl cn) (ndRows nds) [.int .i64 rule,.slice Av kids.length cv] [.int .i64 rule,.slice Av kids.length cv] (fun _=>True) (fun _=>False) rfl rfl ⟨rfl,rfl,by simp [Value.oneCell']⟩ (fun _ hk=>hk.elim) (fun _ _=>trivial) (aC HR3.out.nd) (Below.refl _ _) HBZ3.out (by have:=HNL.out;rw [ndRows_len];omega) ?_
  intro v1 w7 ho hb hg hat;obtain⟨A2,n2,c2_,rfl⟩:∃An ln cn,v1= .slice An ln cn:=by obtain⟨An,cn,e⟩:=Kd.R_slice ho;exact⟨An,_,cn,e⟩
  have HBK4:=aM (blk_grown (aK HBK3.out) hg (Kd.R_ne HR3.out.nd HBK3.out (by decide)));have HFB4:=aM (blk_grown (aK HFB3.out) hg (Kd.R_ne HR3.out.nd HFB3.out (by decide)));have HR4:=aM ((HR3.out.below (aO (Below.refl _ w6))).node ho hg);have HB4:Aside0 (Below w0.heap.size w0 w7):=⟨(aO HB3.out).trans hb⟩;have f9:=aH HBK4.out 9;clear ho hb hg hat;refine hK.out _ _ ⟨(aG HBK4.out 9).trans rfl,(aG HFB4.out 0).trans rfl,(aG HFB4.out 2).trans rfl⟩ (fun hHeld=>?_)
  clear hK K;refine norm_ (a':=?_) ?_ ?_
  rotate_left
  ·show Act.put _ (some 93) _=_
   simp only [pq];rfl
  refine pure_ (i:=12) (N:=some 94) (v:=?_) (a':=?_) #[T,T,T,T,T,T,T,T,T,T,T,T,T,F,F] rfl rfl (by kernel_rfl) (fun _ _ _ h=>h) (Or.inl ⟨by rfl,?_⟩) ?_ ?_
  rotate_left;(intro w';go_simp;with_reducible rfl);rotate_left;(simp only [pq];rfl)
  refine pure_ (i:=13) (N:=some 95) (v:=?_) (a':=?_) #[T,T,T,T,T,T,T,T,T,T,T,T,T,T,F] rfl rfl (by kernel_rfl) (fun _ _ _ h=>h) (Or.inl ⟨by rfl,?_⟩) ?_ ?_
  rotate_left;(intro w';go_simp;with_reducible rfl);rotate_left;(simp only [pq];rfl)
  refine last_ (i:=14) (N:=none) #[T,T,T,T,T,T,T,T,T,T,T,T,T,T,T] rfl rfl (by kernel_rfl) (by decide) (fun K hK=>?_)
  refine skip_ (w1:=?_) (by rfl) rfl ?_ ?_
  rotate_left
  ·go_simp
   rfl
  refine hK.out _ _ ?_
  clear hK K;refine done_ (by kernel_rfl) ?_
  clear hHeld;have HBK5:Aside0 ((w7.setCell ⟨G,9,none⟩ (.slice A2 n2 c2_)).heap[G]?=some (growObj C As steps.length cs at_ (.slice (some ⟨g,0,none⟩) m cap) (.slice A2 n2 c2_))):=⟨blk_put HBK4.out 9 _ rfl⟩;have HR5:=aM (HR4.out.set HBK4.out (by decide) 9 (.slice A2 n2 c2_));have HB5:Aside0 (Below w0.heap.size w0 (w7.setCell ⟨G,9,none⟩ (.slice A2 n2 c2_))):=⟨aL HB4.out HGG.out⟩;have HGIF:Aside0 (GI C w0 G R (w7.setCell ⟨G,9,none⟩ (.slice A2 n2 c2_))):=⟨by rw [HRE.out,←HNLE.out];exact⟨_,_,As,cs,_,_,HBK5.out,rfl,by rw [List.map_append,HEN.out];rfl,HST.out.1,HST.out.2,HR5.out,HB5.out⟩⟩;clear HBK5 HR5 HB5;generalize w7.setCell ⟨G,9,none⟩ (.slice A2 n2 c2_)=w8 at HGIF ⊢;go_wp2
  go_end0
  exact⟨⟨_,rfl⟩,HGIF.out⟩
theorem close_any {C:GC}{w0 W:World}{G:Nat}{ns:List ByteArray}{ps:List S55}{ls:List S59}(s:GSt) (hne:s.frs≠ []) (hG:w0.heap.size≤G) (hin:GIn C w0 ns ps ls) (hg:GI C w0 G s W) (hsz:CloseSz s) (hnm:GNm ns.length s):
 Calls Try.prog 43 #[.pointer (some ⟨G,0,none⟩)] W fun e w'=>(∃v,e= .returned v)∧GI C w0 G (gClose ns s) w':=by
 obtain⟨steps,at_,frs,ms⟩:=s
 match frs with
 | []=>exact absurd rfl hne
 | [f]=>exact close_one (ns:=ns) steps at_ f ms hG hg hsz
 |f::u::fs=>exact close_more steps at_ f u fs ms hG hin hg hsz (hnm f (by simp)).1
theorem GInv.close {ls:List S59}{N:Nat}{s:GSt}(h:GInv ls N s) (hN:N≤100000000000) (hl:ls.length≤100000000000):CloseSz s:=by
 have h1:=h.h1;have h2:=h.h2;have h3:=h.h3;exact⟨by omega,by omega,by omega⟩
set_option maxHeartbeats 8000000 in
set_option maxRecDepth 100000 in
theorem step_walk {C:GC}{w0 W:World}{G:Nat}{ns:List ByteArray}{ps:List S55}{ls:List S59}{N:Nat}(steps:List Int) (at_:Nat) (f0:GFr) (fs0:List GFr) (ms:List S34) (hG:w0.heap.size≤G) (hin:GIn C w0 ns ps ls) (hg:GI C w0 G ⟨steps,at_,f0::fs0,ms⟩ W)
 (hN:N≤100000000000) (hls:ls.length≤100000000000) (hi:GInv ls N ⟨steps,at_,f0::fs0,ms⟩) (hnm:GNm ns.length ⟨steps,at_,f0::fs0,ms⟩):
 Calls Try.prog 28 #[.pointer (some ⟨G,0,none⟩)] W fun e w'=>e= .returned (.bool (gStep ns ps ls ⟨steps,at_,f0::fs0,ms⟩).2)∧GI C w0 G (gStep ns ps ls ⟨steps,at_,f0::fs0,ms⟩).1 w':=by
 have HGI:=aM hg;have HGG:=aM hG;have HIN:=aM hin;have HSZ:=aM (hi.close hN hls);have HNM:=aM hnm;have HAT:Aside0 (at_≤100000000000):=⟨Nat.le_trans hi.h1 hls⟩;have HLS:=aM hls;obtain⟨frs,nds,As,cs,sv,nv,hb,ef,en,hst,hsc,hr,hB⟩:=hg;simp only at hb ef en hst hsc hr
 obtain⟨f,fs,rfl,hf,hfs⟩:∃f fs,frs=f::fs∧f.fr=f0∧fs.map FrM.fr=fs0:=by
  match frs,ef with
  |f::fs,ef=>simp only [List.map_cons,List.cons.injEq] at ef;exact⟨f,fs,rfl,ef.1,ef.2⟩
 subst hf;subst hfs;obtain⟨rule,A,c,left,v,kids⟩:=f;obtain⟨Av,cv,rfl⟩:∃Av cv,v= .slice Av kids.length cv:=Kd.R_slice (hr.kd.1 (v,kids) (by simp [kidsOf]));obtain⟨g,cap,rfl,hcap,hgb,hgl,hgt,c0,c1,c2,hfz⟩:=hr.top;obtain⟨m,em⟩:∃m,m=fs.length:=⟨_,rfl⟩;rw [←em] at hb hr hcap c0 c1 c2 hfz;have HB:=aM hB;have HBK:=aM hb;have HST:=aM (And.intro hst hsc);have HR:=aM hr;have HEN:=aM en;have HEM:=aM em;have HC1:Aside0 (W.drew.cell? ⟨g,m * 3+1,none⟩=some (.slice A left.length c)):=⟨c1⟩;have H8:Aside0 (W.drew.cell? ⟨G,8,none⟩=some (.slice (some ⟨g,0,none⟩) (m+1) cap)):=⟨(aG hb 8).trans rfl⟩;have HKL:Aside0 (kids.length≤1000000000000):=⟨by have h:=hi.h2;have h1:=hi.h1;have h3:=hi.h3;simp only [List.map_cons,List.sum_cons,FrM.fr] at h;simp only at h1 h3;omega⟩;have hm3:(m:Int)≤1000000000000:=by have h3:=hi.h3;simp only [List.length_cons,List.length_map] at h3;omega
 have hx1:((m:Int)<(m:Int)+1)=True:=eq_true (by omega);clear hG hB hb hst hsc hr en hcap hgb hgl hgt hfz ef em hin hN hls hi hnm c0 c1 c2
 cases left with
 |nil=>
  have PC:Aside0 (Calls Try.prog 43 #[.pointer (some ⟨G,0,none⟩)] W.drew fun e w'=>(∃v,e= .returned v)∧GI C w0 G (gClose ns ⟨steps,at_,(⟨rule,A,c,[],.slice Av kids.length cv,kids⟩:FrM).fr::fs.map FrM.fr,ms⟩) w'):=⟨close_any _ (by simp) HGG.out HIN.out (HGI.out.below (aO (Below.refl _ W))) HSZ.out HNM.out⟩;have hgo:gStep ns ps ls ⟨steps,at_,(⟨rule,A,c,[],.slice Av kids.length cv,kids⟩:FrM).fr::fs.map FrM.fr,ms⟩=(gClose ns ⟨steps,at_,(⟨rule,A,c,[],.slice Av kids.length cv,kids⟩:FrM).fr::fs.map FrM.fr,ms⟩,true):=rfl;rw [hgo];clear hgo;generalize gClose ns ⟨steps,at_,(⟨rule,A,c,[],.slice Av kids.length cv,kids⟩:FrM).fr::fs.map FrM.fr,ms⟩=R at PC ⊢;go_enter Try.func28,Try.ntmps28
  go_upto_region 1 with fail
  have hm2:wrap64 (m:Int)=(m:Int):=wrap64_id (by omega) (by omega);refine start_ (n:=12) (S:=fun w'=>w'.cell? ⟨G,8,none⟩=some (.slice (some ⟨g,0,none⟩) (m+1) cap)) (ds:= []) #[F,F,F,F,F,F,F,F,F,F,F,F] (by kernel_rfl) rfl rfl (H8.out) (fun hHeld=>?_)
  refine pure_ (i:=0) (N:=some 5) (v:=?_) (a':=?_) #[T,F,F,F,F,F,F,F,F,F,F,F] rfl rfl (by kernel_rfl) (fun _ _ _ h=>h) (Or.inl ⟨by rfl,?_⟩) ?_ ?_
  rotate_left;(intro w';go_simp;with_reducible rfl);rotate_left;(simp only [pq];rfl)
  refine pure_ (i:=1) (N:=some 6) (v:=?_) (a':=?_) #[T,T,F,F,F,F,F,F,F,F,F,F] rfl rfl (by kernel_rfl) (fun _ _ _ h=>h) (Or.inl ⟨by rfl,?_⟩) ?_ ?_
  rotate_left;(intro w';go_simp;with_reducible rfl);rotate_left;(simp only [pq];rfl)
  refine pure_ (i:=2) (N:=some 7) (v:=?_) (a':=?_) #[T,T,T,F,F,F,F,F,F,F,F,F] rfl rfl (by kernel_rfl) (fun _ _ _ h=>h) (Or.inl ⟨by rfl,?_⟩) ?_ ?_
  rotate_left;(intro w';go_simp;with_reducible rfl);rotate_left;(simp only [pq];rfl)
  refine pure_ (i:=4) (N:=some 9) (v:=?_) (a':=?_) #[T,T,T,F,T,F,F,F,F,F,F,F] rfl rfl (by kernel_rfl) (fun _ _ _ h=>h) (Or.inl ⟨by rfl,?_⟩) ?_ ?_
  rotate_left;(intro w';go_simp;with_reducible rfl);rotate_left;(simp only [pq];rfl)
  refine pure_ (i:=5) (N:=some 10) (v:=?_) (a':=?_) #[T,T,T,F,T,T,F,F,F,F,F,F] rfl rfl (by kernel_rfl) (fun _ _ _ h=>h) (Or.inl ⟨by rfl,?_⟩) ?_ ?_
  rotate_left;(intro w';go_simp;with_reducible rfl);rotate_left;(simp only [pq];rfl)
  refine pure_ (i:=6) (N:=some 11) (v:=?_) (a':=?_) #[T,T,T,F,T,T,T,F,F,F,F,F] rfl rfl (by kernel_rfl) (fun _ _ _ h=>h) (Or.inl ⟨by rfl,?_⟩) ?_ ?_
  rotate_left;(intro w';go_simp;with_reducible rfl);rotate_left;(simp only [pq];rfl)
  refine take_ (i:=3) (N:=some 8) (v:=?_) (a':=?_) #[T,T,T,T,T,T,T,F,F,F,F,F] rfl rfl (by kernel_rfl) (fun _ _ _ h=>h) (Or.inl ⟨by rfl,?_⟩) hHeld ?_ ?_
  rotate_left
  ·intro w' s0
   go_simp
   with_reducible rfl
  rotate_left
  ·simp only [pq]
   rfl
  refine take_ (i:=7) (N:=some 12) (v:=?_) (a':=?_) #[T,T,T,T,T,T,T,T,F,F,F,F] rfl rfl (by kernel_rfl) (fun _ _ _ h=>h) (Or.inl ⟨by rfl,?_⟩) hHeld ?_ ?_
  rotate_left
  ·intro w' s0
   go_simp
   with_reducible rfl
  rotate_left
  ·simp only [pq]
   rfl
  refine pure_ (i:=8) (N:=some 13) (v:=?_) (a':=?_) #[T,T,T,T,T,T,T,T,T,F,F,F] rfl rfl (by kernel_rfl) (fun _ _ _ h=>h) (Or.inl ⟨by rfl,?_⟩) ?_ ?_
  rotate_left;(intro w';go_simp;with_reducible rfl);rotate_left;(simp only [pq];rfl)
  refine pure_ (i:=9) (N:=some 14) (v:=?_) (a':=?_) #[T,T,T,T,T,T,T,T,T,T,F,F] rfl rfl (by kernel_rfl) (fun _ _ _ h=>h) (Or.inl ⟨by rfl,?_⟩) ?_ ?_
  rotate_left;(intro w';go_simp;with_reducible rfl);rotate_left;(simp only [pq];rfl)
  refine pure_ (i:=10) (N:=some 15) (v:=?_) (a':=?_) #[T,T,T,T,T,T,T,T,T,T,T,F] rfl rfl (by kernel_rfl) (fun _ _ _ h=>h) (Or.inl ⟨by rfl,?_⟩) ?_ ?_
  rotate_left;(intro w';go_simp;with_reducible rfl);rotate_left;(simp only [pq];rfl)
  refine pure_ (i:=11) (N:=some 3) (v:=?_) (a':=?_) #[T,T,T,T,T,T,T,T,T,T,T,T] rfl rfl (by kernel_rfl) (fun _ _ _ h=>h) (Or.inl ⟨by rfl,?_⟩) ?_ ?_
  rotate_left;(intro w';go_simp;with_reducible rfl);rotate_left;(simp only [pq];rfl)
  refine done_ (by kernel_rfl) ?_
  clear hHeld hm2;have q1:=HC1.out
  go_upto_region 3 with fail
  clear q1
  go_wp2_with (first|(go_at_call 43;(with_reducible refine PC.out.mono ?_);rintro e w1 ⟨⟨v1,rfl⟩,hg1⟩;have HG1:=aM hg1;clear hg1 PC))
  go_ret
  exact⟨rfl,HG1.out⟩
 |cons x l=>
  go_enter Try.func28,Try.ntmps28
  go_upto_region 1 with fail
  have hm2:wrap64 (m:Int)=(m:Int):=wrap64_id (by omega) (by omega);refine start_ (n:=12) (S:=fun w'=>w'.cell? ⟨G,8,none⟩=some (.slice (some ⟨g,0,none⟩) (m+1) cap)) (ds:= []) #[F,F,F,F,F,F,F,F,F,F,F,F] (by kernel_rfl) rfl rfl (H8.out) (fun hHeld=>?_)
  refine pure_ (i:=0) (N:=some 5) (v:=?_) (a':=?_) #[T,F,F,F,F,F,F,F,F,F,F,F] rfl rfl (by kernel_rfl) (fun _ _ _ h=>h) (Or.inl ⟨by rfl,?_⟩) ?_ ?_
  rotate_left;(intro w';go_simp;with_reducible rfl);rotate_left;(simp only [pq];rfl)
  refine pure_ (i:=1) (N:=some 6) (v:=?_) (a':=?_) #[T,T,F,F,F,F,F,F,F,F,F,F] rfl rfl (by kernel_rfl) (fun _ _ _ h=>h) (Or.inl ⟨by rfl,?_⟩) ?_ ?_
  rotate_left;(intro w';go_simp;with_reducible rfl);rotate_left;(simp only [pq];rfl)
  refine pure_ (i:=2) (N:=some 7) (v:=?_) (a':=?_) #[T,T,T,F,F,F,F,F,F,F,F,F] rfl rfl (by kernel_rfl) (fun _ _ _ h=>h) (Or.inl ⟨by rfl,?_⟩) ?_ ?_
  rotate_left;(intro w';go_simp;with_reducible rfl);rotate_left;(simp only [pq];rfl)
  refine pure_ (i:=4) (N:=some 9) (v:=?_) (a':=?_) #[T,T,T,F,T,F,F,F,F,F,F,F] rfl rfl (by kernel_rfl) (fun _ _ _ h=>h) (Or.inl ⟨by rfl,?_⟩) ?_ ?_
  rotate_left;(intro w';go_simp;with_reducible rfl);rotate_left;(simp only [pq];rfl)
  refine pure_ (i:=5) (N:=some 10) (v:=?_) (a':=?_) #[T,T,T,F,T,T,F,F,F,F,F,F] rfl rfl (by kernel_rfl) (fun _ _ _ h=>h) (Or.inl ⟨by rfl,?_⟩) ?_ ?_
  rotate_left;(intro w';go_simp;with_reducible rfl);rotate_left;(simp only [pq];rfl)
  refine pure_ (i:=6) (N:=some 11) (v:=?_) (a':=?_) #[T,T,T,F,T,T,T,F,F,F,F,F] rfl rfl (by kernel_rfl) (fun _ _ _ h=>h) (Or.inl ⟨by rfl,?_⟩) ?_ ?_
  rotate_left;(intro w';go_simp;with_reducible rfl);rotate_left;(simp only [pq];rfl)
  refine take_ (i:=3) (N:=some 8) (v:=?_) (a':=?_) #[T,T,T,T,T,T,T,F,F,F,F,F] rfl rfl (by kernel_rfl) (fun _ _ _ h=>h) (Or.inl ⟨by rfl,?_⟩) hHeld ?_ ?_
  rotate_left
  ·intro w' s0
   go_simp
   with_reducible rfl
  rotate_left
  ·simp only [pq]
   rfl
  refine take_ (i:=7) (N:=some 12) (v:=?_) (a':=?_) #[T,T,T,T,T,T,T,T,F,F,F,F] rfl rfl (by kernel_rfl) (fun _ _ _ h=>h) (Or.inl ⟨by rfl,?_⟩) hHeld ?_ ?_
  rotate_left
  ·intro w' s0
   go_simp
   with_reducible rfl
  rotate_left
  ·simp only [pq]
   rfl
  refine pure_ (i:=8) (N:=some 13) (v:=?_) (a':=?_) #[T,T,T,T,T,T,T,T,T,F,F,F] rfl rfl (by kernel_rfl) (fun _ _ _ h=>h) (Or.inl ⟨by rfl,?_⟩) ?_ ?_
  rotate_left;(intro w';go_simp;with_reducible rfl);rotate_left;(simp only [pq];rfl)
  refine pure_ (i:=9) (N:=some 14) (v:=?_) (a':=?_) #[T,T,T,T,T,T,T,T,T,T,F,F] rfl rfl (by kernel_rfl) (fun _ _ _ h=>h) (Or.inl ⟨by rfl,?_⟩) ?_ ?_
  rotate_left;(intro w';go_simp;with_reducible rfl);rotate_left;(simp only [pq];rfl)
  refine pure_ (i:=10) (N:=some 15) (v:=?_) (a':=?_) #[T,T,T,T,T,T,T,T,T,T,T,F] rfl rfl (by kernel_rfl) (fun _ _ _ h=>h) (Or.inl ⟨by rfl,?_⟩) ?_ ?_
  rotate_left;(intro w';go_simp;with_reducible rfl);rotate_left;(simp only [pq];rfl)
  refine pure_ (i:=11) (N:=some 3) (v:=?_) (a':=?_) #[T,T,T,T,T,T,T,T,T,T,T,T] rfl rfl (by kernel_rfl) (fun _ _ _ h=>h) (Or.inl ⟨by rfl,?_⟩) ?_ ?_
  rotate_left;(intro w';go_simp;with_reducible rfl);rotate_left;(simp only [pq];rfl)
  refine done_ (by kernel_rfl) ?_
  clear hHeld hm2;have q1:=HC1.out
  go_upto_region 5 with fail
  have hlf:=HR.out.lf _ (List.mem_cons_self ..);simp only at hlf;have HLF:=aM hlf;obtain⟨ada,eA,e0,e1⟩:=at_T57 (bD hlf.1 HB.out) 0 (by omega) (by simp);rw [show(0:Int).toNat * 2=0 from rfl,add_zero17,show rd_T57 (x::l) 0=x from rfl] at e0 e1;subst eA;have y0:W.drew.cell? ada=some (.bool x.f0):=e0;have y1:W.drew.cell? ⟨ada.block,ada.off+1,none⟩=some (.int .i64 x.f1):=e1;clear hlf e0 e1 H8 HC1
  go_upto_region 6 with fail
  have HBE:Aside0 (Below W.heap.size W (W.alloc (.cells #[.bool x.f0,.int .i64 x.f1] 57)).drew):=⟨aO (aN (Below.refl _ W) _)⟩;have HXB:Aside0 ((W.alloc (.cells #[.bool x.f0,.int .i64 x.f1] 57)).drew.heap[W.heap.size]?=some (.cells #[.bool x.f0,.int .i64 x.f1] 57 (0,0))):=⟨heap_alloc_new W _⟩;have HBK1:=aM (bF HBK.out HBE.out);have HR1:=aM (HR.out.below HBE.out);have HB1:Aside0 (Below w0.heap.size w0 (W.alloc (.cells #[.bool x.f0,.int .i64 x.f1] 57)).drew):=⟨HB.out.trans (HBE.out.mono HB.out.size)⟩;have HSX:Aside0 (g<W.heap.size):=⟨by obtain⟨g',cap',eg,_,_,hlt,_⟩:=HR.out.top;obtain⟨rfl⟩:g=g':=(by injection eg with e;injection e with e;injection e);exact hlt⟩
  generalize (W.alloc (.cells #[.bool x.f0,.int .i64 x.f1] 57)).drew=w1 at HXB HBK1 HR1 HB1 ⊢;generalize W.heap.size=XB at HXB HSX ⊢;clear HBE HBK HR HB y0 y1;obtain⟨g',cap',eg,_,hgb,_,hgt,_,q1,_,hfz⟩:=HR1.out.top;obtain⟨rfl⟩:g=g':=by injection eg with e;injection e with e;injection e
  rw [←HEM.out] at q1 hfz;have f1:=hfz 1;have HGB:Aside0 (w0.heap.size≤g):=⟨hgb⟩;have HGT:Aside0 (G≠g):=⟨by obtain⟨cells,hc⟩:=hgt;exact blk_ne HBK1.out hc (by decide)⟩;have q1':w1.cell? ⟨g,m * 3+1,none⟩=some (.slice (some ada) (l.length+1) c):=q1;obtain⟨i0,hi0,hz0⟩:=Option.map_eq_some_iff.1 info57;simp only [Prod.mk.injEq] at hz0;obtain⟨A',hcut,hCt⟩:=cut_tail (P:=Try.prog) k57 53 57 Try.underlying53 hi0 hz0.2.1 (some ada) c x l HLF.out.2;have HLF2:Aside0 (Kd.C k57 w0 A' l.length l∧l.length≤c - 1):=⟨hCt w0 HLF.out.1,by have:=HLF.out.2;simp only [List.length_cons] at this;omega⟩;clear hCt hz0 hi0 eg hgb hgt hfz q1
  go_upto_region 7 with fail
  have HBK2:Aside0 ((w1.setCell ⟨g,m * 3+1,none⟩ (.slice A' l.length (c - 1))).heap[G]?=some (growObj C As steps.length cs at_ (.slice (some ⟨g,0,none⟩) (m+1) cap) nv)):=⟨blk_far HBK1.out (p:=⟨g,m * 3+1,none⟩) HGT.out _⟩;have HXB2:=aM (blk_far HXB.out (p:=⟨g,m * 3+1,none⟩) (by have:=HSX.out;show XB≠g;omega) (.slice A' l.length (c - 1)));have HB2:Aside0 (Below w0.heap.size w0 (w1.setCell ⟨g,m * 3+1,none⟩ (.slice A' l.length (c - 1)))):=⟨aL HB1.out HGB.out⟩;have HR2:=aM (HR1.out.left HLF2.out);rw [←HEM.out] at HR2;generalize w1.setCell ⟨g,m * 3+1,none⟩ (.slice A' l.length (c - 1))=w2 at HBK2 HXB2 HB2 HR2 ⊢;clear HBK1 HXB HB1 HR1 q1' f1 hcut;have HGI2:Aside0 (GI C w0 G ⟨steps,at_,⟨rule,l,kids⟩::fs.map FrM.fr,ms⟩ w2):=⟨⟨_,nds,As,cs,_,nv,HBK2.out,rfl,HEN.out,HST.out.1,HST.out.2,HR2.out,HB2.out⟩⟩;obtain⟨tk,xn⟩:=x
  cases tk with
  |false=>
   have hgo:gStep ns ps ls ⟨steps,at_,(⟨rule,some ada,c,⟨false,xn⟩::l,.slice Av kids.length cv,kids⟩:FrM).fr::fs.map FrM.fr,ms⟩=gOpen ps xn ⟨steps,at_,⟨rule,l,kids⟩::fs.map FrM.fr,ms⟩:=by
    simp [gStep,FrM.fr]
   have HGO:=aM hgo;clear hgo;have PO:Aside0 (Calls Try.prog 27 #[.pointer (some ⟨G,0,none⟩),.int .i64 xn] w2 fun e w'=>e= .returned (.bool (gOpen ps xn ⟨steps,at_,⟨rule,l,kids⟩::fs.map FrM.fr,ms⟩).2)∧GI C w0 G (gOpen ps xn ⟨steps,at_,⟨rule,l,kids⟩::fs.map FrM.fr,ms⟩).1 w'):=⟨open_walk (ls:=ls) xn _ HGG.out HIN.out HGI2.out HSZ.out.1⟩;have y0:w2.cell? ⟨XB,0,none⟩=some (.bool false):=(aG HXB2.out 0).trans rfl;have y1:w2.cell? ⟨XB,1,none⟩=some (.int .i64 xn):=(aG HXB2.out 1).trans rfl;generalize gOpen ps xn ⟨steps,at_,⟨rule,l,kids⟩::fs.map FrM.fr,ms⟩=R at PO HGO
   go_wp2_with (first|(go_at_call 27;(with_reducible refine PO.out.mono ?_);rintro e w3 ⟨rfl,hg3⟩;have HG3:=aM hg3;clear hg3 PO))
   go_ret
   exact⟨by rw [HGO.out];rfl,by rw [HGO.out];exact HG3.out⟩
  |true=>
   have y0:w2.cell? ⟨XB,0,none⟩=some (.bool true):=(aG HXB2.out 0).trans rfl;have H7:Aside0 (w2.drew.cell? ⟨G,7,none⟩=some (.int .i64 (at_:Int))):=⟨(aG HBK2.out 7).trans rfl⟩;have H6:Aside0 (w2.drew.cell? ⟨G,6,none⟩=some (.slice C.Al ls.length C.cl)):=⟨by rw [←HIN.out.el];exact(aG HBK2.out 6).trans rfl⟩;have HX1:Aside0 (w2.drew.cell? ⟨XB,1,none⟩=some (.int .i64 xn)):=⟨(aG HXB2.out 1).trans rfl⟩;have hstp:gStep ns ps ls ⟨steps,at_,(⟨rule,some ada,c,⟨true,xn⟩::l,.slice Av kids.length cv,kids⟩:FrM).fr::fs.map FrM.fr,ms⟩=if at_<ls.length∧(rd_T59 ls (at_:Int)).f0=xn then(⟨steps,at_+1,⟨rule,l,kids++ [-1 - (at_:Int)]⟩::fs.map FrM.fr,ms⟩,true) else(⟨steps,at_,⟨rule,l,kids⟩::fs.map FrM.fr,ms⟩,false):=by simp [gStep,FrM.fr]
   have HSTP:=aM hstp;clear hstp
   go_upto_region 9 with fail
   clear y0
   by_cases h1:ls.length≤at_
   ·have d1:decide (ls.length≤at_)=true:=decide_eq_true h1
    have d2:decide ((ls.length:Int)≤(at_:Int))=true:=decide_eq_true (by omega);have hgo:=HSTP.out;rw [if_neg (fun e=>by omega)] at hgo;have HGO:=aM hgo;clear hgo h1;refine start_ (n:=26) (S:=fun w'=>w'.cell? ⟨G,7,none⟩=some (.int .i64 (at_:Int))∧w'.cell? ⟨G,6,none⟩=some (.slice C.Al ls.length C.cl)) (ds:= []) #[F,F,F,F,F,F,F,F,F,F,F,F,F,F,F,F,F,F,F,F,F,F,F,F,F,F] (by kernel_rfl) rfl rfl ⟨H7.out,H6.out⟩ (fun hHeld=>?_)
    refine pure_ (i:=0) (N:=some 45) (v:=?_) (a':=?_) #[T,F,F,F,F,F,F,F,F,F,F,F,F,F,F,F,F,F,F,F,F,F,F,F,F,F] rfl rfl (by kernel_rfl) (fun _ _ _ h=>h) (Or.inl ⟨by rfl,?_⟩) ?_ ?_
    rotate_left;(intro w';go_simp;with_reducible rfl);rotate_left;(simp only [pq];rfl)
    refine pure_ (i:=1) (N:=some 46) (v:=?_) (a':=?_) #[T,T,F,F,F,F,F,F,F,F,F,F,F,F,F,F,F,F,F,F,F,F,F,F,F,F] rfl rfl (by kernel_rfl) (fun _ _ _ h=>h) (Or.inl ⟨by rfl,?_⟩) ?_ ?_
    rotate_left;(intro w';go_simp;with_reducible rfl);rotate_left;(simp only [pq];rfl)
    refine pure_ (i:=2) (N:=some 47) (v:=?_) (a':=?_) #[T,T,T,F,F,F,F,F,F,F,F,F,F,F,F,F,F,F,F,F,F,F,F,F,F,F] rfl rfl (by kernel_rfl) (fun _ _ _ h=>h) (Or.inl ⟨by rfl,?_⟩) ?_ ?_
    rotate_left;(intro w';go_simp;with_reducible rfl);rotate_left;(simp only [pq];rfl)
    refine pure_ (i:=4) (N:=some 49) (v:=?_) (a':=?_) #[T,T,T,F,T,F,F,F,F,F,F,F,F,F,F,F,F,F,F,F,F,F,F,F,F,F] rfl rfl (by kernel_rfl) (fun _ _ _ h=>h) (Or.inl ⟨by rfl,?_⟩) ?_ ?_
    rotate_left;(intro w';go_simp;with_reducible rfl);rotate_left;(simp only [pq];rfl)
    refine pure_ (i:=5) (N:=some 50) (v:=?_) (a':=?_) #[T,T,T,F,T,T,F,F,F,F,F,F,F,F,F,F,F,F,F,F,F,F,F,F,F,F] rfl rfl (by kernel_rfl) (fun _ _ _ h=>h) (Or.inl ⟨by rfl,?_⟩) ?_ ?_
    rotate_left;(intro w';go_simp;with_reducible rfl);rotate_left;(simp only [pq];rfl)
    refine pure_ (i:=6) (N:=some 51) (v:=?_) (a':=?_) #[T,T,T,F,T,T,T,F,F,F,F,F,F,F,F,F,F,F,F,F,F,F,F,F,F,F] rfl rfl (by kernel_rfl) (fun _ _ _ h=>h) (Or.inl ⟨by rfl,?_⟩) ?_ ?_
    rotate_left;(intro w';go_simp;with_reducible rfl);rotate_left;(simp only [pq];rfl)
    refine take_ (i:=3) (N:=some 48) (v:=?_) (a':=?_) #[T,T,T,T,T,T,T,F,F,F,F,F,F,F,F,F,F,F,F,F,F,F,F,F,F,F] rfl rfl (by kernel_rfl) (fun _ _ _ h=>h) (Or.inl ⟨by rfl,?_⟩) hHeld ?_ ?_
    rotate_left
    ·rintro w' ⟨s0,s1⟩
     go_simp
     with_reducible rfl
    rotate_left
    ·simp only [pq]
     rfl
    refine take_ (i:=7) (N:=some 52) (v:=?_) (a':=?_) #[T,T,T,T,T,T,T,T,F,F,F,F,F,F,F,F,F,F,F,F,F,F,F,F,F,F] rfl rfl (by kernel_rfl) (fun _ _ _ h=>h) (Or.inl ⟨by rfl,?_⟩) hHeld ?_ ?_
    rotate_left
    ·rintro w' ⟨s0,s1⟩
     go_simp
     with_reducible rfl
    rotate_left
    ·simp only [pq]
     rfl
    refine pure_ (i:=8) (N:=some 53) (v:=?_) (a':=?_) #[T,T,T,T,T,T,T,T,T,F,F,F,F,F,F,F,F,F,F,F,F,F,F,F,F,F] rfl rfl (by kernel_rfl) (fun _ _ _ h=>h) (Or.inl ⟨by rfl,?_⟩) ?_ ?_
    rotate_left;(intro w';go_simp;with_reducible rfl);rotate_left;(simp only [pq];rfl)
    refine pure_ (i:=9) (N:=some 54) (v:=?_) (a':=?_) #[T,T,T,T,T,T,T,T,T,T,F,F,F,F,F,F,F,F,F,F,F,F,F,F,F,F] rfl rfl (by kernel_rfl) (fun _ _ _ h=>h) (Or.inl ⟨by rfl,?_⟩) ?_ ?_
    rotate_left;(intro w';go_simp;with_reducible rfl);rotate_left;(simp only [pq];rfl)
    refine pure_ (i:=10) (N:=some 55) (v:=?_) (a':=?_) #[T,T,T,T,T,T,T,T,T,T,T,F,F,F,F,F,F,F,F,F,F,F,F,F,F,F] rfl rfl (by kernel_rfl) (fun _ _ _ h=>h) (Or.inl ⟨by rfl,?_⟩) ?_ ?_
    rotate_left;(intro w';go_simp;with_reducible rfl);rotate_left;(simp only [pq];rfl)
    refine pure_ (i:=11) (N:=some 56) (v:=undef) (a':=?_) #[T,T,T,T,T,T,T,T,T,T,T,T,F,F,F,F,F,F,F,F,F,F,F,F,F,F] rfl rfl (by kernel_rfl) (fun _ _ _ h=>h) (Or.inr ⟨by rfl,rfl⟩) ?_ ?_
    rotate_left
    ·simp only [pq]
     rfl
    refine pure_ (i:=12) (N:=some 57) (v:=undef) (a':=?_) #[T,T,T,T,T,T,T,T,T,T,T,T,T,F,F,F,F,F,F,F,F,F,F,F,F,F] rfl rfl (by kernel_rfl) (fun _ _ _ h=>h) (Or.inr ⟨by rfl,rfl⟩) ?_ ?_
    rotate_left
    ·simp only [pq]
     rfl
    refine pure_ (i:=13) (N:=some 58) (v:=undef) (a':=?_) #[T,T,T,T,T,T,T,T,T,T,T,T,T,T,F,F,F,F,F,F,F,F,F,F,F,F] rfl rfl (by kernel_rfl) (fun _ _ _ h=>h) (Or.inr ⟨by rfl,rfl⟩) ?_ ?_
    rotate_left
    ·simp only [pq]
     rfl
    refine pure_ (i:=14) (N:=some 59) (v:=undef) (a':=?_) #[T,T,T,T,T,T,T,T,T,T,T,T,T,T,T,F,F,F,F,F,F,F,F,F,F,F] rfl rfl (by kernel_rfl) (fun _ _ _ h=>h) (Or.inr ⟨by rfl,rfl⟩) ?_ ?_
    rotate_left
    ·simp only [pq]
     rfl
    refine pure_ (i:=15) (N:=some 60) (v:=undef) (a':=?_) #[T,T,T,T,T,T,T,T,T,T,T,T,T,T,T,T,F,F,F,F,F,F,F,F,F,F] rfl rfl (by kernel_rfl) (fun _ _ _ h=>h) (Or.inr ⟨by rfl,rfl⟩) ?_ ?_
    rotate_left
    ·simp only [pq]
     rfl
    refine pure_ (i:=16) (N:=some 61) (v:=undef) (a':=?_) #[T,T,T,T,T,T,T,T,T,T,T,T,T,T,T,T,T,F,F,F,F,F,F,F,F,F] rfl rfl (by kernel_rfl) (fun _ _ _ h=>h) (Or.inr ⟨by rfl,rfl⟩) ?_ ?_
    rotate_left
    ·simp only [pq]
     rfl
    refine pure_ (i:=17) (N:=some 62) (v:=undef) (a':=?_) #[T,T,T,T,T,T,T,T,T,T,T,T,T,T,T,T,T,T,F,F,F,F,F,F,F,F] rfl rfl (by kernel_rfl) (fun _ _ _ h=>h) (Or.inr ⟨by rfl,rfl⟩) ?_ ?_
    rotate_left
    ·simp only [pq]
     rfl
    refine pure_ (i:=18) (N:=some 63) (v:=undef) (a':=?_) #[T,T,T,T,T,T,T,T,T,T,T,T,T,T,T,T,T,T,T,F,F,F,F,F,F,F] rfl rfl (by kernel_rfl) (fun _ _ _ h=>h) (Or.inr ⟨by rfl,rfl⟩) ?_ ?_
    rotate_left
    ·simp only [pq]
     rfl
    refine pure_ (i:=19) (N:=some 64) (v:=undef) (a':=?_) #[T,T,T,T,T,T,T,T,T,T,T,T,T,T,T,T,T,T,T,T,F,F,F,F,F,F] rfl rfl (by kernel_rfl) (fun _ _ _ h=>h) (Or.inr ⟨by rfl,rfl⟩) ?_ ?_
    rotate_left
    ·simp only [pq]
     rfl
    refine pure_ (i:=20) (N:=some 65) (v:=undef) (a':=?_) #[T,T,T,T,T,T,T,T,T,T,T,T,T,T,T,T,T,T,T,T,T,F,F,F,F,F] rfl rfl (by kernel_rfl) (fun _ _ _ h=>h) (Or.inr ⟨by rfl,rfl⟩) ?_ ?_
    rotate_left
    ·simp only [pq]
     rfl
    refine pure_ (i:=21) (N:=some 66) (v:=undef) (a':=?_) #[T,T,T,T,T,T,T,T,T,T,T,T,T,T,T,T,T,T,T,T,T,T,F,F,F,F] rfl rfl (by kernel_rfl) (fun _ _ _ h=>h) (Or.inr ⟨by rfl,rfl⟩) ?_ ?_
    rotate_left
    ·simp only [pq]
     rfl
    refine pure_ (i:=22) (N:=some 67) (v:=undef) (a':=?_) #[T,T,T,T,T,T,T,T,T,T,T,T,T,T,T,T,T,T,T,T,T,T,T,F,F,F] rfl rfl (by kernel_rfl) (fun _ _ _ h=>h) (Or.inr ⟨by rfl,rfl⟩) ?_ ?_
    rotate_left
    ·simp only [pq]
     rfl
    refine pure_ (i:=23) (N:=some 68) (v:=undef) (a':=?_) #[T,T,T,T,T,T,T,T,T,T,T,T,T,T,T,T,T,T,T,T,T,T,T,T,F,F] rfl rfl (by kernel_rfl) (fun _ _ _ h=>h) (Or.inr ⟨by rfl,rfl⟩) ?_ ?_
    rotate_left
    ·simp only [pq]
     rfl
    refine pure_ (i:=24) (N:=some 69) (v:=undef) (a':=?_) #[T,T,T,T,T,T,T,T,T,T,T,T,T,T,T,T,T,T,T,T,T,T,T,T,T,F] rfl rfl (by kernel_rfl) (fun _ _ _ h=>h) (Or.inr ⟨by rfl,rfl⟩) ?_ ?_
    rotate_left
    ·simp only [pq]
     rfl
    refine pure_ (i:=25) (N:=some 70) (v:=?_) (a':=?_) #[T,T,T,T,T,T,T,T,T,T,T,T,T,T,T,T,T,T,T,T,T,T,T,T,T,T] rfl rfl (by kernel_rfl) (fun _ _ _ h=>h) (Or.inl ⟨by rfl,?_⟩) ?_ ?_
    rotate_left;(intro w';go_simp;with_reducible rfl);rotate_left;(simp only [pq];rfl)
    refine done_ (by kernel_rfl) ?_
    clear hHeld;go_wp2
    go_ret
    exact⟨by rw [HGO.out];rfl,by rw [HGO.out];exact HGI2.out.below (aO (Below.refl _ w2))⟩
   ·have d1:decide (ls.length≤at_)=false:=decide_eq_false h1
    have d2:decide ((ls.length:Int)≤(at_:Int))=false:=decide_eq_false (by omega);obtain⟨adl,eAl,htk,_,_⟩:=at_T59 (bD HIN.out.rl HB2.out) (at_:Int) (by omega) (by omega);rw [eAl] at H6;rw [Int.toNat_natCast] at htk;have HLT:Aside0 (at_<ls.length):=⟨by omega⟩;have z1:((at_:Int)<(ls.length:Int))=True:=eq_true (by omega);have z2:(at_<ls.length)=True:=eq_true (by omega);clear h1
    by_cases h2:(rd_T59 ls (at_:Int)).f0=xn
    ·have hgo:=HSTP.out
     rw [if_pos ⟨HLT.out,h2⟩] at hgo;rw [h2] at htk;have HGO:=aM hgo;have HTK:Aside0 (w2.drew.cell? (adl.add (at_ * 3))=some (.int .i64 xn)):=⟨htk⟩;clear hgo htk h2 eAl;refine start_ (n:=26) (S:=fun w'=>w'.cell? ⟨G,7,none⟩=some (.int .i64 (at_:Int))∧w'.cell? ⟨G,6,none⟩=some (.slice (some adl) ls.length C.cl)∧w'.cell? (adl.add (at_ * 3))=some (.int .i64 xn)∧w'.cell? ⟨XB,1,none⟩=some (.int .i64 xn)) (ds:= []) #[F,F,F,F,F,F,F,F,F,F,F,F,F,F,F,F,F,F,F,F,F,F,F,F,F,F] (by kernel_rfl) rfl rfl ⟨H7.out,H6.out,HTK.out,HX1.out⟩ (fun hHeld=>?_)
     refine pure_ (i:=0) (N:=some 45) (v:=?_) (a':=?_) #[T,F,F,F,F,F,F,F,F,F,F,F,F,F,F,F,F,F,F,F,F,F,F,F,F,F] rfl rfl (by kernel_rfl) (fun _ _ _ h=>h) (Or.inl ⟨by rfl,?_⟩) ?_ ?_
     rotate_left;(intro w';go_simp;with_reducible rfl);rotate_left;(simp only [pq];rfl)
     refine pure_ (i:=1) (N:=some 46) (v:=?_) (a':=?_) #[T,T,F,F,F,F,F,F,F,F,F,F,F,F,F,F,F,F,F,F,F,F,F,F,F,F] rfl rfl (by kernel_rfl) (fun _ _ _ h=>h) (Or.inl ⟨by rfl,?_⟩) ?_ ?_
     rotate_left;(intro w';go_simp;with_reducible rfl);rotate_left;(simp only [pq];rfl)
     refine pure_ (i:=2) (N:=some 47) (v:=?_) (a':=?_) #[T,T,T,F,F,F,F,F,F,F,F,F,F,F,F,F,F,F,F,F,F,F,F,F,F,F] rfl rfl (by kernel_rfl) (fun _ _ _ h=>h) (Or.inl ⟨by rfl,?_⟩) ?_ ?_
     rotate_left;(intro w';go_simp;with_reducible rfl);rotate_left;(simp only [pq];rfl)
     refine pure_ (i:=4) (N:=some 49) (v:=?_) (a':=?_) #[T,T,T,F,T,F,F,F,F,F,F,F,F,F,F,F,F,F,F,F,F,F,F,F,F,F] rfl rfl (by kernel_rfl) (fun _ _ _ h=>h) (Or.inl ⟨by rfl,?_⟩) ?_ ?_
     rotate_left;(intro w';go_simp;with_reducible rfl);rotate_left;(simp only [pq];rfl)
     refine pure_ (i:=5) (N:=some 50) (v:=?_) (a':=?_) #[T,T,T,F,T,T,F,F,F,F,F,F,F,F,F,F,F,F,F,F,F,F,F,F,F,F] rfl rfl (by kernel_rfl) (fun _ _ _ h=>h) (Or.inl ⟨by rfl,?_⟩) ?_ ?_
     rotate_left;(intro w';go_simp;with_reducible rfl);rotate_left;(simp only [pq];rfl)
     refine pure_ (i:=6) (N:=some 51) (v:=?_) (a':=?_) #[T,T,T,F,T,T,T,F,F,F,F,F,F,F,F,F,F,F,F,F,F,F,F,F,F,F] rfl rfl (by kernel_rfl) (fun _ _ _ h=>h) (Or.inl ⟨by rfl,?_⟩) ?_ ?_
     rotate_left;(intro w';go_simp;with_reducible rfl);rotate_left;(simp only [pq];rfl)
     refine take_ (i:=3) (N:=some 48) (v:=?_) (a':=?_) #[T,T,T,T,T,T,T,F,F,F,F,F,F,F,F,F,F,F,F,F,F,F,F,F,F,F] rfl rfl (by kernel_rfl) (fun _ _ _ h=>h) (Or.inl ⟨by rfl,?_⟩) hHeld ?_ ?_
     rotate_left
     ·rintro w' ⟨s0,s1,s2,s3⟩
      go_simp
      with_reducible rfl
     rotate_left
     ·simp only [pq]
      rfl
     refine take_ (i:=7) (N:=some 52) (v:=?_) (a':=?_) #[T,T,T,T,T,T,T,T,F,F,F,F,F,F,F,F,F,F,F,F,F,F,F,F,F,F] rfl rfl (by kernel_rfl) (fun _ _ _ h=>h) (Or.inl ⟨by rfl,?_⟩) hHeld ?_ ?_
     rotate_left
     ·rintro w' ⟨s0,s1,s2,s3⟩
      go_simp
      with_reducible rfl
     rotate_left
     ·simp only [pq]
      rfl
     refine pure_ (i:=8) (N:=some 53) (v:=?_) (a':=?_) #[T,T,T,T,T,T,T,T,T,F,F,F,F,F,F,F,F,F,F,F,F,F,F,F,F,F] rfl rfl (by kernel_rfl) (fun _ _ _ h=>h) (Or.inl ⟨by rfl,?_⟩) ?_ ?_
     rotate_left;(intro w';go_simp;with_reducible rfl);rotate_left;(simp only [pq];rfl)
     refine pure_ (i:=9) (N:=some 54) (v:=?_) (a':=?_) #[T,T,T,T,T,T,T,T,T,T,F,F,F,F,F,F,F,F,F,F,F,F,F,F,F,F] rfl rfl (by kernel_rfl) (fun _ _ _ h=>h) (Or.inl ⟨by rfl,?_⟩) ?_ ?_
     rotate_left;(intro w';go_simp;with_reducible rfl);rotate_left;(simp only [pq];rfl)
     refine pure_ (i:=10) (N:=some 55) (v:=?_) (a':=?_) #[T,T,T,T,T,T,T,T,T,T,T,F,F,F,F,F,F,F,F,F,F,F,F,F,F,F] rfl rfl (by kernel_rfl) (fun _ _ _ h=>h) (Or.inl ⟨by rfl,?_⟩) ?_ ?_
     rotate_left;(intro w';go_simp;with_reducible rfl);rotate_left;(simp only [pq];rfl)
     refine pure_ (i:=11) (N:=some 56) (v:=?_) (a':=?_) #[T,T,T,T,T,T,T,T,T,T,T,T,F,F,F,F,F,F,F,F,F,F,F,F,F,F] rfl rfl (by kernel_rfl) (fun _ _ _ h=>h) (Or.inl ⟨by rfl,?_⟩) ?_ ?_
     rotate_left;(intro w';go_simp;with_reducible rfl);rotate_left;(simp only [pq];rfl)
     refine pure_ (i:=12) (N:=some 57) (v:=?_) (a':=?_) #[T,T,T,T,T,T,T,T,T,T,T,T,T,F,F,F,F,F,F,F,F,F,F,F,F,F] rfl rfl (by kernel_rfl) (fun _ _ _ h=>h) (Or.inl ⟨by rfl,?_⟩) ?_ ?_
     rotate_left;(intro w';go_simp;with_reducible rfl);rotate_left;(simp only [pq];rfl)
     refine pure_ (i:=13) (N:=some 58) (v:=?_) (a':=?_) #[T,T,T,T,T,T,T,T,T,T,T,T,T,T,F,F,F,F,F,F,F,F,F,F,F,F] rfl rfl (by kernel_rfl) (fun _ _ _ h=>h) (Or.inl ⟨by rfl,?_⟩) ?_ ?_
     rotate_left;(intro w';go_simp;with_reducible rfl);rotate_left;(simp only [pq];rfl)
     refine pure_ (i:=15) (N:=some 60) (v:=?_) (a':=?_) #[T,T,T,T,T,T,T,T,T,T,T,T,T,T,F,T,F,F,F,F,F,F,F,F,F,F] rfl rfl (by kernel_rfl) (fun _ _ _ h=>h) (Or.inl ⟨by rfl,?_⟩) ?_ ?_
     rotate_left;(intro w';go_simp;with_reducible rfl);rotate_left;(simp only [pq];rfl)
     refine pure_ (i:=16) (N:=some 61) (v:=?_) (a':=?_) #[T,T,T,T,T,T,T,T,T,T,T,T,T,T,F,T,T,F,F,F,F,F,F,F,F,F] rfl rfl (by kernel_rfl) (fun _ _ _ h=>h) (Or.inl ⟨by rfl,?_⟩) ?_ ?_
     rotate_left;(intro w';go_simp;with_reducible rfl);rotate_left;(simp only [pq];rfl)
     refine pure_ (i:=17) (N:=some 62) (v:=?_) (a':=?_) #[T,T,T,T,T,T,T,T,T,T,T,T,T,T,F,T,T,T,F,F,F,F,F,F,F,F] rfl rfl (by kernel_rfl) (fun _ _ _ h=>h) (Or.inl ⟨by rfl,?_⟩) ?_ ?_
     rotate_left;(intro w';go_simp;with_reducible rfl);rotate_left;(simp only [pq];rfl)
     refine pure_ (i:=22) (N:=some 67) (v:=?_) (a':=?_) #[T,T,T,T,T,T,T,T,T,T,T,T,T,T,F,T,T,T,F,F,F,F,T,F,F,F] rfl rfl (by kernel_rfl) (fun _ _ _ h=>h) (Or.inl ⟨by rfl,?_⟩) ?_ ?_
     rotate_left;(intro w';go_simp;with_reducible rfl);rotate_left;(simp only [pq];rfl)
     refine take_ (i:=14) (N:=some 59) (v:=?_) (a':=?_) #[T,T,T,T,T,T,T,T,T,T,T,T,T,T,T,T,T,T,F,F,F,F,T,F,F,F] rfl rfl (by kernel_rfl) (fun _ _ _ h=>h) (Or.inl ⟨by rfl,?_⟩) hHeld ?_ ?_
     rotate_left
     ·rintro w' ⟨s0,s1,s2,s3⟩
      go_simp
      with_reducible rfl
     rotate_left
     ·simp only [pq]
      rfl
     refine take_ (i:=18) (N:=some 63) (v:=?_) (a':=?_) #[T,T,T,T,T,T,T,T,T,T,T,T,T,T,T,T,T,T,T,F,F,F,T,F,F,F] rfl rfl (by kernel_rfl) (fun _ _ _ h=>h) (Or.inl ⟨by rfl,?_⟩) hHeld ?_ ?_
     rotate_left
     ·rintro w' ⟨s0,s1,s2,s3⟩
      go_simp
      with_reducible rfl
     rotate_left
     ·simp only [pq]
      rfl
     refine pure_ (i:=19) (N:=some 64) (v:=?_) (a':=?_) #[T,T,T,T,T,T,T,T,T,T,T,T,T,T,T,T,T,T,T,T,F,F,T,F,F,F] rfl rfl (by kernel_rfl) (fun _ _ _ h=>h) (Or.inl ⟨by rfl,?_⟩) ?_ ?_
     rotate_left;(intro w';go_simp;with_reducible rfl);rotate_left;(simp only [pq];rfl)
     refine pure_ (i:=20) (N:=some 65) (v:=?_) (a':=?_) #[T,T,T,T,T,T,T,T,T,T,T,T,T,T,T,T,T,T,T,T,T,F,T,F,F,F] rfl rfl (by kernel_rfl) (fun _ _ _ h=>h) (Or.inl ⟨by rfl,?_⟩) ?_ ?_
     rotate_left;(intro w';go_simp;with_reducible rfl);rotate_left;(simp only [pq];rfl)
     refine take_ (i:=21) (N:=some 66) (v:=?_) (a':=?_) #[T,T,T,T,T,T,T,T,T,T,T,T,T,T,T,T,T,T,T,T,T,T,T,F,F,F] rfl rfl (by kernel_rfl) (fun _ _ _ h=>h) (Or.inl ⟨by rfl,?_⟩) hHeld ?_ ?_
     rotate_left
     ·rintro w' ⟨s0,s1,s2,s3⟩
      go_simp
      with_reducible rfl
     rotate_left
     ·simp only [pq]
      rfl
     refine take_ (i:=23) (N:=some 68) (v:=?_) (a':=?_) #[T,T,T,T,T,T,T,T,T,T,T,T,T,T,T,T,T,T,T,T,T,T,T,T,F,F] rfl rfl (by kernel_rfl) (fun _ _ _ h=>h) (Or.inl ⟨by rfl,?_⟩) hHeld ?_ ?_
     rotate_left
     ·rintro w' ⟨s0,s1,s2,s3⟩
      go_simp
      with_reducible rfl
     rotate_left
     ·simp only [pq]
      rfl
     refine pure_ (i:=24) (N:=some 69) (v:=?_) (a':=?_) #[T,T,T,T,T,T,T,T,T,T,T,T,T,T,T,T,T,T,T,T,T,T,T,T,T,F] rfl rfl (by kernel_rfl) (fun _ _ _ h=>h) (Or.inl ⟨by rfl,?_⟩) ?_ ?_
     rotate_left;(intro w';go_simp;with_reducible rfl);rotate_left;(simp only [pq];rfl)
     refine pure_ (i:=25) (N:=some 70) (v:=?_) (a':=?_) #[T,T,T,T,T,T,T,T,T,T,T,T,T,T,T,T,T,T,T,T,T,T,T,T,T,T] rfl rfl (by kernel_rfl) (fun _ _ _ h=>h) (Or.inl ⟨by rfl,?_⟩) ?_ ?_
     rotate_left;(intro w';go_simp;with_reducible rfl);rotate_left;(simp only [pq];rfl)
     refine done_ (by kernel_rfl) ?_
     clear hHeld
     go_upto_region 11 with fail
     have HBK3:Aside0 (w2.drew.heap[G]?=some (growObj C As steps.length cs at_ (.slice (some ⟨g,0,none⟩) (m+1) cap) nv)):=⟨aK HBK2.out⟩;have HR3:=aM (HR2.out.below (aO (Below.refl _ w2)));have HB3:Aside0 (Below w0.heap.size w0 w2.drew):=⟨aO HB2.out⟩;have HBZ3:Aside0 (w0.heap.size≤w2.drew.heap.size):=⟨HB3.out.size⟩;generalize w2.drew=w3 at HBK3 HR3 HB3 HBZ3 ⊢;clear HBK2 HXB2 HR2 HB2 HGI2 H6 H7 HX1 HTK z1 z2 d1 d2;obtain⟨g',cap',eg,_,_,_,_,_,_,c2,_⟩:=HR3.out.top;obtain⟨rfl⟩:g=g':=by injection eg with e;injection e with e;injection e
     rw [←HEM.out] at c2;have C2:=aM c2;have HRU:=aM (HR3.out.kd.1 (.slice Av kids.length cv,kids) (by simp [kidsOf]));have hwa:wrap64 (-1 - (at_:Int))= -1 - (at_:Int):=by have:=HAT.out;exact wrap64_id (by omega) (by omega)
     clear c2 eg;refine start_ (n:=15) (S:=fun w'=>w'.cell? ⟨g,m * 3+2,none⟩=some (.slice Av kids.length cv)∧w'.cell? ⟨G,7,none⟩=some (.int .i64 (at_:Int))) (ds:= [14]) #[F,F,F,F,F,F,F,F,F,F,F,F,F,F,F] (by kernel_rfl) rfl rfl ⟨C2.out,(aG HBK3.out 7).trans rfl⟩ (fun hHeld=>?_)
     refine pure_ (i:=0) (N:=some 71) (v:=?_) (a':=?_) #[T,F,F,F,F,F,F,F,F,F,F,F,F,F,F] rfl rfl (by kernel_rfl) (fun _ _ _ h=>h) (Or.inl ⟨by rfl,?_⟩) ?_ ?_
     rotate_left;(intro w';go_simp;with_reducible rfl);rotate_left;(simp only [pq];rfl)
     refine pure_ (i:=1) (N:=some 72) (v:=?_) (a':=?_) #[T,T,F,F,F,F,F,F,F,F,F,F,F,F,F] rfl rfl (by kernel_rfl) (fun _ _ _ h=>h) (Or.inl ⟨by rfl,?_⟩) ?_ ?_
     rotate_left;(intro w';go_simp;with_reducible rfl);rotate_left;(simp only [pq];rfl)
     refine pure_ (i:=2) (N:=some 73) (v:=?_) (a':=?_) #[T,T,T,F,F,F,F,F,F,F,F,F,F,F,F] rfl rfl (by kernel_rfl) (fun _ _ _ h=>h) (Or.inl ⟨by rfl,?_⟩) ?_ ?_
     rotate_left;(intro w';go_simp;with_reducible rfl);rotate_left;(simp only [pq];rfl)
     refine pure_ (i:=3) (N:=some 74) (v:=?_) (a':=?_) #[T,T,T,T,F,F,F,F,F,F,F,F,F,F,F] rfl rfl (by kernel_rfl) (fun _ _ _ h=>h) (Or.inl ⟨by rfl,?_⟩) ?_ ?_
     rotate_left;(intro w';go_simp;with_reducible rfl);rotate_left;(simp only [pq];rfl)
     refine pure_ (i:=5) (N:=some 76) (v:=?_) (a':=?_) #[T,T,T,T,F,T,F,F,F,F,F,F,F,F,F] rfl rfl (by kernel_rfl) (fun _ _ _ h=>h) (Or.inl ⟨by rfl,?_⟩) ?_ ?_
     rotate_left;(intro w';go_simp;with_reducible rfl);rotate_left;(simp only [pq];rfl)
     refine pure_ (i:=6) (N:=some 77) (v:=?_) (a':=?_) #[T,T,T,T,F,T,T,F,F,F,F,F,F,F,F] rfl rfl (by kernel_rfl) (fun _ _ _ h=>h) (Or.inl ⟨by rfl,?_⟩) ?_ ?_
     rotate_left;(intro w';go_simp;with_reducible rfl);rotate_left;(simp only [pq];rfl)
     refine pure_ (i:=7) (N:=some 78) (v:=?_) (a':=?_) #[T,T,T,T,F,T,T,T,F,F,F,F,F,F,F] rfl rfl (by kernel_rfl) (fun _ _ _ h=>h) (Or.inl ⟨by rfl,?_⟩) ?_ ?_
     rotate_left;(intro w';go_simp;with_reducible rfl);rotate_left;(simp only [pq];rfl)
     refine take_ (i:=4) (N:=some 75) (v:=?_) (a':=?_) #[T,T,T,T,T,T,T,T,F,F,F,F,F,F,F] rfl rfl (by kernel_rfl) (fun _ _ _ h=>h) (Or.inl ⟨by rfl,?_⟩) hHeld ?_ ?_
     rotate_left
     ·rintro w' ⟨s0,s1⟩
      go_simp
      with_reducible rfl
     rotate_left
     ·simp only [pq]
      rfl
     refine take_ (i:=8) (N:=some 79) (v:=?_) (a':=?_) #[T,T,T,T,T,T,T,T,T,F,F,F,F,F,F] rfl rfl (by kernel_rfl) (fun _ _ _ h=>h) (Or.inl ⟨by rfl,?_⟩) hHeld ?_ ?_
     rotate_left
     ·rintro w' ⟨s0,s1⟩
      go_simp
      with_reducible rfl
     rotate_left
     ·simp only [pq]
      rfl
     refine pure_ (i:=9) (N:=some 80) (v:=?_) (a':=?_) #[T,T,T,T,T,T,T,T,T,T,F,F,F,F,F] rfl rfl (by kernel_rfl) (fun _ _ _ h=>h) (Or.inl ⟨by rfl,?_⟩) ?_ ?_
     rotate_left;(intro w';go_simp;with_reducible rfl);rotate_left;(simp only [pq];rfl)
     refine one_ (i:=10) (N:=some 81) #[T,T,T,T,T,T,T,T,T,T,T,F,F,F,F] rfl rfl (by kernel_rfl) (by decide) (fun K hK=>?_)
     refine value_ (w1:=?_) (v:=?_) (by rfl) rfl ?_ ?_
     rotate_left 2
     ·go_simp
      constructor
      ·rfl
      ·rfl
     refine hK.out _ _ ⟨pw_cell_below (aN (Below.refl _ _) _) C2.out,(aG (aI HBK3.out _) 7).trans rfl⟩ (fun hHeld=>?_)
     clear hK K;refine norm_ (a':=?_) ?_ ?_
     rotate_left
     ·show Act.put _ (some 81) _=_
      simp only [pq];rfl
     refine one_ (i:=11) (N:=some 82) #[T,T,T,T,T,T,T,T,T,T,T,T,F,F,F] rfl rfl (by kernel_rfl) (by decide) (fun K hK=>?_)
     rw [show(w3.alloc (.cells #[.int .i64 (-1 - (at_:Int))] 3)).drew=w3.drew.alloc (.cells #[.int .i64 (-1 - (at_:Int))] 3) from rfl];refine Kd.R_append_step (Kd.int .i64) (w0:=w3.drew) w0.heap.size (by rfl) (.tmp 75) (.tmp 81) 27 3 (.int .i64 0) 8 rfl Try.underlying27 infoInt17 rfl (by decide) (by omega) (.slice Av kids.length cv) kids (-1 - (at_:Int)) [.int .i64 (-1 - (at_:Int))] (fun _=>True) (fun _=>False) rfl rfl rfl (fun _ hk=>hk.elim) (fun _ _=>trivial) (Kd.R_mono (aC HRU.out) (fun _ _=>trivial)) (Below.refl _ _) HBZ3.out (by clear hwa;have:=HKL.out;omega) ?_
     intro v1 w4 ho hb hg hat;obtain⟨A1,n1,c1,rfl⟩:∃An ln cn,v1= .slice An ln cn:=by obtain⟨An,cn,e⟩:=Kd.R_slice ho;exact⟨An,_,cn,e⟩
     have HBK4:=aM (blk_grown (aK HBK3.out) hg (Kd.R_ne HRU.out HBK3.out (by decide)));obtain⟨g4,cap4,eg4,hgb4,⟨cl4,hc4⟩,k2,kf,_,HRK⟩:=(HR3.out.below (aO (Below.refl _ w3))).kid ho hg hat;obtain⟨rfl⟩:g=g4:=by injection eg4 with e;injection e with e;injection e
     rw [←HEM.out] at k2 kf HRK;have HRK4:=aM HRK;have HGB4:Aside0 (w0.heap.size≤g):=⟨hgb4⟩;have HGG4:Aside0 (G≠g):=⟨blk_ne HBK4.out hc4 (by decide)⟩;have HB4:Aside0 (Below w0.heap.size w0 w4):=⟨(aO HB3.out).trans hb⟩;clear ho hb hg hat HRK hc4 hgb4 eg4;refine hK.out _ _ ⟨k2,(aG HBK4.out 7).trans rfl⟩ (fun hHeld=>?_)
     clear hK K;refine norm_ (a':=?_) ?_ ?_
     rotate_left
     ·show Act.put _ (some 82) _=_
      simp only [pq];rfl
     refine pure_ (i:=12) (N:=some 83) (v:=?_) (a':=?_) #[T,T,T,T,T,T,T,T,T,T,T,T,T,F,F] rfl rfl (by kernel_rfl) (fun _ _ _ h=>h) (Or.inl ⟨by rfl,?_⟩) ?_ ?_
     rotate_left;(intro w';go_simp;with_reducible rfl);rotate_left;(simp only [pq];rfl)
     refine pure_ (i:=13) (N:=some 84) (v:=?_) (a':=?_) #[T,T,T,T,T,T,T,T,T,T,T,T,T,T,F] rfl rfl (by kernel_rfl) (fun _ _ _ h=>h) (Or.inl ⟨by rfl,?_⟩) ?_ ?_
     rotate_left;(intro w';go_simp;with_reducible rfl);rotate_left;(simp only [pq];rfl)
     refine last_ (i:=14) (N:=none) #[T,T,T,T,T,T,T,T,T,T,T,T,T,T,T] rfl rfl (by kernel_rfl) (by decide) (fun K hK=>?_)
     refine skip_ (w1:=?_) (by rfl) rfl ?_ ?_
     rotate_left
     ·go_simp
      rfl
     refine hK.out _ _ ?_
     clear hK K;refine done_ (by kernel_rfl) ?_
     clear hHeld hwa
     go_upto_region 12 with fail
     have HBK5:Aside0 ((w4.setCell ⟨g,m * 3+2,none⟩ (.slice A1 n1 c1)).heap[G]?=some (growObj C As steps.length cs at_ (.slice (some ⟨g,0,none⟩) (m+1) cap) nv)):=⟨blk_far HBK4.out (p:=⟨g,m * 3+2,none⟩) HGG4.out (.slice A1 n1 c1)⟩;have HB5:Aside0 (Below w0.heap.size w0 (w4.setCell ⟨g,m * 3+2,none⟩ (.slice A1 n1 c1))):=⟨aL HB4.out HGB4.out⟩;clear k2 kf;generalize w4.setCell ⟨g,m * 3+2,none⟩ (.slice A1 n1 c1)=w5 at HBK5 HB5 HRK4 ⊢;clear HBK4 HB4 HBK3 HB3 HR3 C2 HRU;have q7:w5.cell? ⟨G,7,none⟩=some (.int .i64 (at_:Int)):=(aG HBK5.out 7).trans rfl;have f7:=aH HBK5.out 7;have hat3:(at_:Int)≤100000000000:=by have:=HAT.out;omega
     go_upto_region 13 with fail
     have HGIF:Aside0 (GI C w0 G ⟨steps,at_+1,⟨rule,l,kids++ [-1 - (at_:Int)]⟩::fs.map FrM.fr,ms⟩ (w5.setCell ⟨G,7,none⟩ (.int .i64 ((at_:Int)+1)))):=⟨⟨_,nds,As,cs,_,nv,blk_put HBK5.out 7 _ rfl,rfl,HEN.out,HST.out.1,HST.out.2,HRK4.out.set HBK5.out (by decide) 7 _,aL HB5.out HGG.out⟩⟩;clear q7 f7;generalize w5.setCell ⟨G,7,none⟩ (.int .i64 ((at_:Int)+1))=w6 at HGIF ⊢;go_wp2
     go_ret
     exact⟨by rw [HGO.out];rfl,by rw [HGO.out];exact HGIF.out⟩
    ·have hgo:=HSTP.out
     rw [if_neg (fun e=>h2 e.2)] at hgo;obtain⟨tok,etok⟩:∃tok,tok=(rd_T59 ls (at_:Int)).f0:=⟨_,rfl⟩;rw [←etok] at htk h2;have HGO:=aM hgo;have HTK:Aside0 (w2.drew.cell? (adl.add (at_ * 3))=some (.int .i64 tok)):=⟨htk⟩;have d3:(tok==xn)=false:=by simp [h2]
     have d4:(tok !=xn)=true:=by simp [h2]
     clear hgo htk h2 eAl etok;refine start_ (n:=26) (S:=fun w'=>w'.cell? ⟨G,7,none⟩=some (.int .i64 (at_:Int))∧w'.cell? ⟨G,6,none⟩=some (.slice (some adl) ls.length C.cl)∧w'.cell? (adl.add (at_ * 3))=some (.int .i64 tok)∧w'.cell? ⟨XB,1,none⟩=some (.int .i64 xn)) (ds:= []) #[F,F,F,F,F,F,F,F,F,F,F,F,F,F,F,F,F,F,F,F,F,F,F,F,F,F] (by kernel_rfl) rfl rfl ⟨H7.out,H6.out,HTK.out,HX1.out⟩ (fun hHeld=>?_)
     refine pure_ (i:=0) (N:=some 45) (v:=?_) (a':=?_) #[T,F,F,F,F,F,F,F,F,F,F,F,F,F,F,F,F,F,F,F,F,F,F,F,F,F] rfl rfl (by kernel_rfl) (fun _ _ _ h=>h) (Or.inl ⟨by rfl,?_⟩) ?_ ?_
     rotate_left;(intro w';go_simp;with_reducible rfl);rotate_left;(simp only [pq];rfl)
     refine pure_ (i:=1) (N:=some 46) (v:=?_) (a':=?_) #[T,T,F,F,F,F,F,F,F,F,F,F,F,F,F,F,F,F,F,F,F,F,F,F,F,F] rfl rfl (by kernel_rfl) (fun _ _ _ h=>h) (Or.inl ⟨by rfl,?_⟩) ?_ ?_
     rotate_left;(intro w';go_simp;with_reducible rfl);rotate_left;(simp only [pq];rfl)
     refine pure_ (i:=2) (N:=some 47) (v:=?_) (a':=?_) #[T,T,T,F,F,F,F,F,F,F,F,F,F,F,F,F,F,F,F,F,F,F,F,F,F,F] rfl rfl (by kernel_rfl) (fun _ _ _ h=>h) (Or.inl ⟨by rfl,?_⟩) ?_ ?_
     rotate_left;(intro w';go_simp;with_reducible rfl);rotate_left;(simp only [pq];rfl)
     refine pure_ (i:=4) (N:=some 49) (v:=?_) (a':=?_) #[T,T,T,F,T,F,F,F,F,F,F,F,F,F,F,F,F,F,F,F,F,F,F,F,F,F] rfl rfl (by kernel_rfl) (fun _ _ _ h=>h) (Or.inl ⟨by rfl,?_⟩) ?_ ?_
     rotate_left;(intro w';go_simp;with_reducible rfl);rotate_left;(simp only [pq];rfl)
     refine pure_ (i:=5) (N:=some 50) (v:=?_) (a':=?_) #[T,T,T,F,T,T,F,F,F,F,F,F,F,F,F,F,F,F,F,F,F,F,F,F,F,F] rfl rfl (by kernel_rfl) (fun _ _ _ h=>h) (Or.inl ⟨by rfl,?_⟩) ?_ ?_
     rotate_left;(intro w';go_simp;with_reducible rfl);rotate_left;(simp only [pq];rfl)
     refine pure_ (i:=6) (N:=some 51) (v:=?_) (a':=?_) #[T,T,T,F,T,T,T,F,F,F,F,F,F,F,F,F,F,F,F,F,F,F,F,F,F,F] rfl rfl (by kernel_rfl) (fun _ _ _ h=>h) (Or.inl ⟨by rfl,?_⟩) ?_ ?_
     rotate_left;(intro w';go_simp;with_reducible rfl);rotate_left;(simp only [pq];rfl)
     refine take_ (i:=3) (N:=some 48) (v:=?_) (a':=?_) #[T,T,T,T,T,T,T,F,F,F,F,F,F,F,F,F,F,F,F,F,F,F,F,F,F,F] rfl rfl (by kernel_rfl) (fun _ _ _ h=>h) (Or.inl ⟨by rfl,?_⟩) hHeld ?_ ?_
     rotate_left
     ·rintro w' ⟨s0,s1,s2,s3⟩
      go_simp
      with_reducible rfl
     rotate_left
     ·simp only [pq]
      rfl
     refine take_ (i:=7) (N:=some 52) (v:=?_) (a':=?_) #[T,T,T,T,T,T,T,T,F,F,F,F,F,F,F,F,F,F,F,F,F,F,F,F,F,F] rfl rfl (by kernel_rfl) (fun _ _ _ h=>h) (Or.inl ⟨by rfl,?_⟩) hHeld ?_ ?_
     rotate_left
     ·rintro w' ⟨s0,s1,s2,s3⟩
      go_simp
      with_reducible rfl
     rotate_left
     ·simp only [pq]
      rfl
     refine pure_ (i:=8) (N:=some 53) (v:=?_) (a':=?_) #[T,T,T,T,T,T,T,T,T,F,F,F,F,F,F,F,F,F,F,F,F,F,F,F,F,F] rfl rfl (by kernel_rfl) (fun _ _ _ h=>h) (Or.inl ⟨by rfl,?_⟩) ?_ ?_
     rotate_left;(intro w';go_simp;with_reducible rfl);rotate_left;(simp only [pq];rfl)
     refine pure_ (i:=9) (N:=some 54) (v:=?_) (a':=?_) #[T,T,T,T,T,T,T,T,T,T,F,F,F,F,F,F,F,F,F,F,F,F,F,F,F,F] rfl rfl (by kernel_rfl) (fun _ _ _ h=>h) (Or.inl ⟨by rfl,?_⟩) ?_ ?_
     rotate_left;(intro w';go_simp;with_reducible rfl);rotate_left;(simp only [pq];rfl)
     refine pure_ (i:=10) (N:=some 55) (v:=?_) (a':=?_) #[T,T,T,T,T,T,T,T,T,T,T,F,F,F,F,F,F,F,F,F,F,F,F,F,F,F] rfl rfl (by kernel_rfl) (fun _ _ _ h=>h) (Or.inl ⟨by rfl,?_⟩) ?_ ?_
     rotate_left;(intro w';go_simp;with_reducible rfl);rotate_left;(simp only [pq];rfl)
     refine pure_ (i:=11) (N:=some 56) (v:=?_) (a':=?_) #[T,T,T,T,T,T,T,T,T,T,T,T,F,F,F,F,F,F,F,F,F,F,F,F,F,F] rfl rfl (by kernel_rfl) (fun _ _ _ h=>h) (Or.inl ⟨by rfl,?_⟩) ?_ ?_
     rotate_left;(intro w';go_simp;with_reducible rfl);rotate_left;(simp only [pq];rfl)
     refine pure_ (i:=12) (N:=some 57) (v:=?_) (a':=?_) #[T,T,T,T,T,T,T,T,T,T,T,T,T,F,F,F,F,F,F,F,F,F,F,F,F,F] rfl rfl (by kernel_rfl) (fun _ _ _ h=>h) (Or.inl ⟨by rfl,?_⟩) ?_ ?_
     rotate_left;(intro w';go_simp;with_reducible rfl);rotate_left;(simp only [pq];rfl)
     refine pure_ (i:=13) (N:=some 58) (v:=?_) (a':=?_) #[T,T,T,T,T,T,T,T,T,T,T,T,T,T,F,F,F,F,F,F,F,F,F,F,F,F] rfl rfl (by kernel_rfl) (fun _ _ _ h=>h) (Or.inl ⟨by rfl,?_⟩) ?_ ?_
     rotate_left;(intro w';go_simp;with_reducible rfl);rotate_left;(simp only [pq];rfl)
     refine pure_ (i:=15) (N:=some 60) (v:=?_) (a':=?_) #[T,T,T,T,T,T,T,T,T,T,T,T,T,T,F,T,F,F,F,F,F,F,F,F,F,F] rfl rfl (by kernel_rfl) (fun _ _ _ h=>h) (Or.inl ⟨by rfl,?_⟩) ?_ ?_
     rotate_left;(intro w';go_simp;with_reducible rfl);rotate_left;(simp only [pq];rfl)
     refine pure_ (i:=16) (N:=some 61) (v:=?_) (a':=?_) #[T,T,T,T,T,T,T,T,T,T,T,T,T,T,F,T,T,F,F,F,F,F,F,F,F,F] rfl rfl (by kernel_rfl) (fun _ _ _ h=>h) (Or.inl ⟨by rfl,?_⟩) ?_ ?_
     rotate_left;(intro w';go_simp;with_reducible rfl);rotate_left;(simp only [pq];rfl)
     refine pure_ (i:=17) (N:=some 62) (v:=?_) (a':=?_) #[T,T,T,T,T,T,T,T,T,T,T,T,T,T,F,T,T,T,F,F,F,F,F,F,F,F] rfl rfl (by kernel_rfl) (fun _ _ _ h=>h) (Or.inl ⟨by rfl,?_⟩) ?_ ?_
     rotate_left;(intro w';go_simp;with_reducible rfl);rotate_left;(simp only [pq];rfl)
     refine pure_ (i:=22) (N:=some 67) (v:=?_) (a':=?_) #[T,T,T,T,T,T,T,T,T,T,T,T,T,T,F,T,T,T,F,F,F,F,T,F,F,F] rfl rfl (by kernel_rfl) (fun _ _ _ h=>h) (Or.inl ⟨by rfl,?_⟩) ?_ ?_
     rotate_left;(intro w';go_simp;with_reducible rfl);rotate_left;(simp only [pq];rfl)
     refine take_ (i:=14) (N:=some 59) (v:=?_) (a':=?_) #[T,T,T,T,T,T,T,T,T,T,T,T,T,T,T,T,T,T,F,F,F,F,T,F,F,F] rfl rfl (by kernel_rfl) (fun _ _ _ h=>h) (Or.inl ⟨by rfl,?_⟩) hHeld ?_ ?_
     rotate_left
     ·rintro w' ⟨s0,s1,s2,s3⟩
      go_simp
      with_reducible rfl
     rotate_left
     ·simp only [pq]
      rfl
     refine take_ (i:=18) (N:=some 63) (v:=?_) (a':=?_) #[T,T,T,T,T,T,T,T,T,T,T,T,T,T,T,T,T,T,T,F,F,F,T,F,F,F] rfl rfl (by kernel_rfl) (fun _ _ _ h=>h) (Or.inl ⟨by rfl,?_⟩) hHeld ?_ ?_
     rotate_left
     ·rintro w' ⟨s0,s1,s2,s3⟩
      go_simp
      with_reducible rfl
     rotate_left
     ·simp only [pq]
      rfl
     refine pure_ (i:=19) (N:=some 64) (v:=?_) (a':=?_) #[T,T,T,T,T,T,T,T,T,T,T,T,T,T,T,T,T,T,T,T,F,F,T,F,F,F] rfl rfl (by kernel_rfl) (fun _ _ _ h=>h) (Or.inl ⟨by rfl,?_⟩) ?_ ?_
     rotate_left;(intro w';go_simp;with_reducible rfl);rotate_left;(simp only [pq];rfl)
     refine pure_ (i:=20) (N:=some 65) (v:=?_) (a':=?_) #[T,T,T,T,T,T,T,T,T,T,T,T,T,T,T,T,T,T,T,T,T,F,T,F,F,F] rfl rfl (by kernel_rfl) (fun _ _ _ h=>h) (Or.inl ⟨by rfl,?_⟩) ?_ ?_
     rotate_left;(intro w';go_simp;with_reducible rfl);rotate_left;(simp only [pq];rfl)
     refine take_ (i:=21) (N:=some 66) (v:=?_) (a':=?_) #[T,T,T,T,T,T,T,T,T,T,T,T,T,T,T,T,T,T,T,T,T,T,T,F,F,F] rfl rfl (by kernel_rfl) (fun _ _ _ h=>h) (Or.inl ⟨by rfl,?_⟩) hHeld ?_ ?_
     rotate_left
     ·rintro w' ⟨s0,s1,s2,s3⟩
      go_simp
      with_reducible rfl
     rotate_left
     ·simp only [pq]
      rfl
     refine take_ (i:=23) (N:=some 68) (v:=?_) (a':=?_) #[T,T,T,T,T,T,T,T,T,T,T,T,T,T,T,T,T,T,T,T,T,T,T,T,F,F] rfl rfl (by kernel_rfl) (fun _ _ _ h=>h) (Or.inl ⟨by rfl,?_⟩) hHeld ?_ ?_
     rotate_left
     ·rintro w' ⟨s0,s1,s2,s3⟩
      go_simp
      with_reducible rfl
     rotate_left
     ·simp only [pq]
      rfl
     refine pure_ (i:=24) (N:=some 69) (v:=?_) (a':=?_) #[T,T,T,T,T,T,T,T,T,T,T,T,T,T,T,T,T,T,T,T,T,T,T,T,T,F] rfl rfl (by kernel_rfl) (fun _ _ _ h=>h) (Or.inl ⟨by rfl,?_⟩) ?_ ?_
     rotate_left;(intro w';go_simp;with_reducible rfl);rotate_left;(simp only [pq];rfl)
     refine pure_ (i:=25) (N:=some 70) (v:=?_) (a':=?_) #[T,T,T,T,T,T,T,T,T,T,T,T,T,T,T,T,T,T,T,T,T,T,T,T,T,T] rfl rfl (by kernel_rfl) (fun _ _ _ h=>h) (Or.inl ⟨by rfl,?_⟩) ?_ ?_
     rotate_left;(intro w';go_simp;with_reducible rfl);rotate_left;(simp only [pq];rfl)
     refine done_ (by kernel_rfl) ?_
     clear hHeld;go_wp2
     go_ret
     exact⟨by rw [HGO.out];rfl,by rw [HGO.out];exact HGI2.out.below (aO (Below.refl _ w2))⟩
theorem find_own {l:List (Value×List Int)}(hp:l.Pairwise (fun a b=>NeRow a.1 b.1)) {j k:Nat}{x:Value×List Int}(hj:l[j]?=some x) (hk:x.1.ownBlock=some k):l.findIdx (fun y=>y.1.ownBlock==some k)=j:=by
 obtain⟨hlt,e⟩:=List.getElem?_eq_some_iff.1 hj;rw [List.findIdx_eq hlt];refine⟨by rw [e,hk];simp,fun i hi=>?_⟩
 have hne:=List.pairwise_iff_getElem.1 hp i j (by omega) hlt hi;rw [e] at hne
 cases hq:(l[i].1.ownBlock==some k) with
 |false=>rfl
 |true=>exact absurd hk (hne k (by simpa using hq))
theorem nodes_S {w:World}{base:Nat}{nv:Value}{nds:List NdM}(h:(Kd.raw 2).R 34 w base (fun _=>True) nv (ndRows nds)) (hk:KidsOk w base (nds.map (fun n=>(n.v,n.kids)))):
 Kd.S k34 34 w base (fun _=>True) nv (nds.map NdM.nd):=by
 obtain⟨h0,inner,ho,hr⟩:=h;have hn:(ndRows nds).length=(nds.map NdM.nd).zipIdx.length:=by simp [ndRows]
 refine⟨fun k=>(nds.map (fun n=>(n.v,n.kids))).findIdx (fun y=>y.1.ownBlock==some k),fun _ _=>trivial,inner,by rw [←hn];exact ho,by rw [←hn];exact hr.1,fun j p hj=>?_⟩
 rw [List.getElem?_zipIdx,List.getElem?_map,Nat.zero_add] at hj
 obtain⟨n,hn1,rfl⟩:∃n,nds[j]?=some n∧(n.nd,j)=p:=by
  cases hd:nds[j]? with
  |none=>rw [hd] at hj;cases hj
  |some n=>rw [hd] at hj;exact⟨n,rfl,by simpa using hj⟩
 obtain⟨hc,_,_⟩:=hr.2 j n.cells (by rw [ndRows,List.getElem?_map,hn1];rfl);have hmem:(n.v,n.kids)∈nds.map (fun n=>(n.v,n.kids)):=List.mem_map.2 ⟨n,List.mem_of_getElem? hn1,rfl⟩;have hR:=hk.1 _ hmem
 have hgoal:k34.M w base (fun k=>(True∧some k≠nv.ownBlock)∧(nds.map (fun n=>(n.v,n.kids))).findIdx (fun y=>y.1.ownBlock==some k)=j) n.nd n.cells:=by
  refine k34_mkM w base _ n.nd (v1:=n.v) (Kd.R_mono hR (fun k hk1=>⟨⟨trivial,fun e=>?_⟩,find_own hk.2 (x:=(n.v,n.kids)) (by rw [List.getElem?_map,hn1];rfl) hk1.symm⟩))
  obtain⟨c1,e1⟩:=hk.typed hmem hk1;obtain⟨c2,e2⟩:=own_typed ho k e.symm;rw [e1] at e2;injection e2 with e2
  injection e2 with _ e2
  revert e2
  decide
 show k34.M w base _ n.nd ((inner.drop (j * 2)).take 2)
 rw [show(inner.drop (j * 2)).take 2=n.cells from hc];exact hgoal
def growRes (ls:List S59):Option (List S34)→List S34×List S59×Int
 |none=>([],[],90)
 |some nds=>(nds,ls,0)
def tree_Grow.f (k:Nat) (aA:List ByteArray) (aQ:List (S97)) (cJ:Int) (cK:Int) (bS:List (S55)) (l1:List Int) (l2:List (S59)):Option (List (S34)×(List (S59))×Int):=
 (firsts_Right.f aA aQ cJ cK bS).bind fun b=>if b=false∨aA.length=0 then some ([],[],1)
  else if l1.length≤1000000000∧l2.length≤1000000000 then(gRun aA bS l2 k (gOpen bS 0 ⟨l1,0,[],[]⟩).1 (gOpen bS 0 ⟨l1,0,[],[]⟩).2).bind fun q=>some (growRes l2 (growEnd l2 q)) else none
theorem tree_Grow.mono:∀aA aQ cJ cK bS l1 l2 k,LeO (tree_Grow.f k aA aQ cJ cK bS l1 l2) (tree_Grow.f (k+1) aA aQ cJ cK bS l1 l2):=by
 intro aA aQ cJ cK bS l1 l2 k
 unfold tree_Grow.f
 exact LeO.bind (LeO.refl _) (fun _=>LeO.ite (LeO.refl _) (LeO.ite (LeO.bind (gRun_mono _ _ _ _ _ _) (fun _=>LeO.refl _)) (LeO.refl _)))
theorem right_syms {aA:List ByteArray}{aQ:List (S97)}{cJ cK:Int}{bS:List (S55)}(h:firsts_Right.f aA aQ cJ cK bS=some true):∀p∈bS,∀x∈p.f1,symOk aA.length x:=by
 unfold firsts_Right.f at h
 split at h
 case isFalse=>simp at h
 intro p hp x hx hf;have h1:=List.all_eq_true.1 (Option.some.inj h) p hp
 unfold okProd at h1
 simp only [Bool.and_eq_true] at h1;have h2:=List.all_eq_true.1 h1.2 x hx
 unfold okSym at h2
 rw [hf] at h2;simp only [Bool.and_eq_true,decide_eq_true_eq,Bool.false_eq_true,if_false] at h2;exact h2
set_option maxHeartbeats 8000000 in
set_option maxRecDepth 100000 in
theorem tree_Grow.calls (k:Nat) (bC:Option Addr) (bE:Nat) (aA:List ByteArray) (bK:Option Addr) (bM:Nat) (aQ:List (S97)) (cJ:Int) (cK:Int) (cX:Option Addr) (cY:Nat) (bS:List (S55)) (A1:Option Addr) (c1:Nat) (l1:List Int) (P2_:Nat→Prop) (A2:Option Addr) (c2:Nat) (l2:List (S59)) (r1:List (S34)) (r2:List (S59)) (r3:Int) (w:World)
 (dC:Kd.C Kd.string w bC aA.length aA) (dV:aA.length≤bE) (dK:Kd.C k97 w bK aQ.length aQ) (dW:aQ.length≤bM) (eY:Kd.C k55 w cX bS.length bS) (gH:bS.length≤cY) (hr1:Kd.C (Kd.int .i64) w A1 l1.length l1) (hc1:l1.length≤c1) (hs2:Kd.V k59 59 w w.heap.size (fun k_=>P2_ k_) (.slice A2 l2.length c2) l2)
 (h:tree_Grow.f k aA aQ cJ cK bS l1 l2=some (r1,r2,r3)):
 Calls Try.prog 16 #[.agg #[.slice bC aA.length bE,.slice bK aQ.length bM,.int .i64 cJ,.int .i64 cK,.slice cX bS.length cY],.slice A1 l1.length c1,.slice A2 l2.length c2] w fun e w'=>∃v0_ v1_:Value,e= .returned (.tuple #[.agg #[v0_,v1_],.int .i64 r3])∧Kd.S k34 34 w' w.heap.size (fun k_=>(w.heap.size≤k_)) v0_ r1∧Kd.V k59 59 w' w.heap.size (fun k_=>(P2_ k_∨w.heap.size≤k_)∧some k_≠(v0_:Value).ownBlock) v1_ r2∧Below w.heap.size w w':=by
 obtain⟨b,hb,hq⟩:=Option.bind_eq_some_iff.1 h;have HW:Aside0 (Below w.heap.size w ((w.alloc (.cells #[.slice bC aA.length bE,.slice bK aQ.length bM,.int .i64 cJ,.int .i64 cK,.slice cX bS.length cY] 26)).alloc (.cells #[.slice none 0 0,.slice none 0 0] 31))):=⟨((Below.refl _ w).alloc (Nat.le_refl _) _).alloc (by simp) _⟩;have HSB:Aside0 (((w.alloc (.cells #[.slice bC aA.length bE,.slice bK aQ.length bM,.int .i64 cJ,.int .i64 cK,.slice cX bS.length cY] 26)).alloc (.cells #[.slice none 0 0,.slice none 0 0] 31)).heap[w.heap.size]?=some (.cells #[.slice bC aA.length bE,.slice bK aQ.length bM,.int .i64 cJ,.int .i64 cK,.slice cX bS.length cY] 26 (0,0))):=⟨aI (blk_new w _) _⟩;have HTB:Aside0 (((w.alloc (.cells #[.slice bC aA.length bE,.slice bK aQ.length bM,.int .i64 cJ,.int .i64 cK,.slice cX bS.length cY] 26)).alloc (.cells #[.slice none 0 0,.slice none 0 0] 31)).heap[w.heap.size+1]?=some (.cells #[.slice none 0 0,.slice none 0 0] 31 (0,0))):=⟨by have h:=blk_new (w.alloc (.cells #[.slice bC aA.length bE,.slice bK aQ.length bM,.int .i64 cJ,.int .i64 cK,.slice cX bS.length cY] 26)) (.cells #[.slice none 0 0,.slice none 0 0] 31);rw [World.size_alloc] at h;exact h⟩;have HIN0:=aM (And.intro dC (And.intro eY hr1));have HS2:=aM hs2;have HC1:=aM hc1;have PR:Aside0 (∀W,Below w.heap.size w W→Calls Try.prog 26 #[.agg #[.slice bC aA.length bE,.slice bK aQ.length bM,.int .i64 cJ,.int .i64 cK,.slice cX bS.length cY]] W fun e w'=>e= .returned (.bool b)∧Below W.heap.size W w'):=⟨fun W hW=>firsts_Right.calls bC bE aA bK bM aQ cJ cK cX cY bS b W (bD dC hW) dV (bD dK hW) dW (bD eY hW) gH hb⟩;have HBE:=aM hb;have HQ:=aM hq;clear h hb hq dC dV dK dW eY gH hr1 hc1 hs2;go_enter Try.func16,Try.ntmps16
 go_upto_region 1 with fail
 generalize ((w.alloc (.cells #[.slice bC aA.length bE,.slice bK aQ.length bM,.int .i64 cJ,.int .i64 cK,.slice cX bS.length cY] 26)).alloc (.cells #[.slice none 0 0,.slice none 0 0] 31))=w1 at HW HSB HTB ⊢;generalize htb:w.heap.size+1=TB at HTB ⊢;have HTBE:=aM htb;clear htb;generalize hsb:w.heap.size=SB at HSB ⊢;have HSBE:=aM hsb;clear hsb;have q0:w1.cell? ⟨SB,0,none⟩=some (.slice bC aA.length bE):=(aG HSB.out 0).trans rfl;have q1:w1.cell? ⟨SB,1,none⟩=some (.slice bK aQ.length bM):=(aG HSB.out 1).trans rfl;have q2:w1.cell? ⟨SB,2,none⟩=some (.int .i64 cJ):=(aG HSB.out 2).trans rfl;have q3:w1.cell? ⟨SB,3,none⟩=some (.int .i64 cK):=(aG HSB.out 3).trans rfl;have q4:w1.cell? ⟨SB,4,none⟩=some (.slice cX bS.length cY):=(aG HSB.out 4).trans rfl;have HTLT:Aside0 (w.heap.size≤TB∧w.heap.size≤SB∧SB≠TB):=⟨by have h1:=HSBE.out;have h2:=HTBE.out;omega⟩
 cases b with
 |false=>
  have HR:Aside0 (r1= []∧r2= []∧r3=1):=⟨by have h:=HQ.out;rw [if_pos (.inl rfl)] at h;have h:=Option.some.inj h;simp only [Prod.mk.injEq] at h;exact⟨h.1.symm,h.2.1.symm,h.2.2.symm⟩⟩
  go_wp2_with (first|(go_at_call 26;(with_reducible refine(PR.out w1 HW.out).mono ?_);rintro e w2 ⟨rfl,hb2⟩;have HB2:=aM hb2;have HTB2:=aM (bF HTB.out hb2);have HSB2:=aM (bF HSB.out hb2);clear hb2 q0 q1 q2 q3 q4;have f0:=aH HTB2.out 0;have f1:=aH HTB2.out 1;have k0:w2.cell? ⟨TB,0,none⟩=some (.slice none 0 0):=(aG HTB2.out 0).trans rfl;have k1:w2.cell? ⟨TB,1,none⟩=some (.slice none 0 0):=(aG HTB2.out 1).trans rfl;have q0:w2.cell? ⟨SB,0,none⟩=some (.slice bC aA.length bE):=(aG HSB2.out 0).trans rfl;have q1:w2.cell? ⟨SB,1,none⟩=some (.slice bK aQ.length bM):=(aG HSB2.out 1).trans rfl;have q2:w2.cell? ⟨SB,2,none⟩=some (.int .i64 cJ):=(aG HSB2.out 2).trans rfl;have q3:w2.cell? ⟨SB,3,none⟩=some (.int .i64 cK):=(aG HSB2.out 3).trans rfl;have q4:w2.cell? ⟨SB,4,none⟩=some (.slice cX bS.length cY):=(aG HSB2.out 4).trans rfl))
  refine bodyPost_ret (results_ct rfl _ _ TB 31 #[.slice none 0 0,.slice none 0 0] (0,0) _ rfl (blk_put (blk_put HTB2.out 0 _ rfl) 1 _ rfl) Try.underlying31 rfl (by kernel_rfl)) rfl ?_
  obtain⟨rfl,rfl,rfl⟩:=HR.out;exact⟨_,_,rfl,Kd.S_nil _ _ _ _ _,Kd.V_nil _ _ _ _ _,aL (aL (HW.out.trans (HB2.out.mono HW.out.size)) HTLT.out.1) HTLT.out.1⟩
 |true=>
  by_cases hn:aA.length=0
  ·have HR:Aside0 (r1= []∧r2= []∧r3=1):=⟨by have h:=HQ.out;rw [if_pos (.inr hn)] at h;have h:=Option.some.inj h;simp only [Prod.mk.injEq] at h;exact⟨h.1.symm,h.2.1.symm,h.2.2.symm⟩⟩
   have hn2:((aA.length:Int)==0)=true:=by simp [hn]
   have hn3:(aA.length==0)=true:=by simp [hn]
   clear hn
   go_wp2_with (first|(go_at_call 26;(with_reducible refine(PR.out w1 HW.out).mono ?_);rintro e w2 ⟨rfl,hb2⟩;have HB2:=aM hb2;have HTB2:=aM (bF HTB.out hb2);have HSB2:=aM (bF HSB.out hb2);clear hb2 q0 q1 q2 q3 q4;have f0:=aH HTB2.out 0;have f1:=aH HTB2.out 1;have k0:w2.cell? ⟨TB,0,none⟩=some (.slice none 0 0):=(aG HTB2.out 0).trans rfl;have k1:w2.cell? ⟨TB,1,none⟩=some (.slice none 0 0):=(aG HTB2.out 1).trans rfl;have q0:w2.cell? ⟨SB,0,none⟩=some (.slice bC aA.length bE):=(aG HSB2.out 0).trans rfl;have q1:w2.cell? ⟨SB,1,none⟩=some (.slice bK aQ.length bM):=(aG HSB2.out 1).trans rfl;have q2:w2.cell? ⟨SB,2,none⟩=some (.int .i64 cJ):=(aG HSB2.out 2).trans rfl;have q3:w2.cell? ⟨SB,3,none⟩=some (.int .i64 cK):=(aG HSB2.out 3).trans rfl;have q4:w2.cell? ⟨SB,4,none⟩=some (.slice cX bS.length cY):=(aG HSB2.out 4).trans rfl))
   refine bodyPost_ret (results_ct rfl _ _ TB 31 #[.slice none 0 0,.slice none 0 0] (0,0) _ rfl (blk_put (blk_put HTB2.out 0 _ rfl) 1 _ rfl) Try.underlying31 rfl (by kernel_rfl)) rfl ?_
   obtain⟨rfl,rfl,rfl⟩:=HR.out;exact⟨_,_,rfl,Kd.S_nil _ _ _ _ _,Kd.V_nil _ _ _ _ _,aL (aL (HW.out.trans (HB2.out.mono HW.out.size)) HTLT.out.1) HTLT.out.1⟩
  ·have hf:=HQ.out
   rw [if_neg (fun e=>e.elim (by simp) hn)] at hf;have hn2:((aA.length:Int)==0)=false:=by simp [hn]
   have hn3:(aA.length==0)=false:=by simp [hn]
   have HPOS:Aside0 (0<aA.length):=⟨by omega⟩
   split at hf
   case isFalse=>simp at hf
   rename_i hsz
   obtain⟨q,hq,hr⟩:=Option.bind_eq_some_iff.1 hf;have HSZ:=aM hsz;have HRUN:=aM hq;have HRES:=aM (Option.some.inj hr);clear hf hsz hq hr hn
   go_upto_region 3 with(first|(go_at_call 26;(with_reducible refine(PR.out w1 HW.out).mono ?_);rintro e w2 ⟨rfl,hb2⟩;have HB2:=aM hb2;have HTB2:=aM (bF HTB.out hb2);have HSB2:=aM (bF HSB.out hb2);clear hb2 q0 q1 q2 q3 q4;have f0:=aH HTB2.out 0;have f1:=aH HTB2.out 1;have k0:w2.cell? ⟨TB,0,none⟩=some (.slice none 0 0):=(aG HTB2.out 0).trans rfl;have k1:w2.cell? ⟨TB,1,none⟩=some (.slice none 0 0):=(aG HTB2.out 1).trans rfl;have q0:w2.cell? ⟨SB,0,none⟩=some (.slice bC aA.length bE):=(aG HSB2.out 0).trans rfl;have q1:w2.cell? ⟨SB,1,none⟩=some (.slice bK aQ.length bM):=(aG HSB2.out 1).trans rfl;have q2:w2.cell? ⟨SB,2,none⟩=some (.int .i64 cJ):=(aG HSB2.out 2).trans rfl;have q3:w2.cell? ⟨SB,3,none⟩=some (.int .i64 cK):=(aG HSB2.out 3).trans rfl;have q4:w2.cell? ⟨SB,4,none⟩=some (.slice cX bS.length cY):=(aG HSB2.out 4).trans rfl))
   have HBW2:Aside0 (Below w.heap.size w w2):=⟨HW.out.trans (HB2.out.mono HW.out.size)⟩;have HIN2:Aside0 (GIn ⟨bC,aA.length,bE,bK,aQ.length,bM,cJ,cK,cX,bS.length,cY,A2,l2.length,c2⟩ w2 aA bS l2):=⟨rfl,rfl,rfl,bD HIN0.out.1 HBW2.out,bD HIN0.out.2.1 HBW2.out,bD (Kd.F_now (Kd.V_at HS2.out).2.2) HBW2.out⟩;have HGI:Aside0 (GI ⟨bC,aA.length,bE,bK,aQ.length,bM,cJ,cK,cX,bS.length,cY,A2,l2.length,c2⟩ w2 w2.heap.size ⟨l1,0,[],[]⟩ (w2.alloc (.cells #[.slice bC aA.length bE,.slice bK aQ.length bM,.int .i64 cJ,.int .i64 cK,.slice cX bS.length cY,.slice A1 l1.length c1,.slice A2 l2.length c2,.int .i64 0,.slice none 0 0,.slice none 0 0] 79))):=⟨[],[],A1,c1,.slice none 0 0,.slice none 0 0,heap_alloc_new w2 _,rfl,rfl,bD HIN0.out.2.2 HBW2.out,HC1.out,⟨Kd.R_nil _ _ _ _ _,Kd.R_nil _ _ _ _ _,KidsOk.nil _ _,fun f hf=>(nomatch hf)⟩,aN (Below.refl _ w2) _⟩;have HIV:Aside0 (GInv l2 1000000001 ⟨l1,0,[],[]⟩):=⟨Nat.zero_le _,by simp,by have:=HSZ.out.1;simp;omega⟩;have HSY:=aM (right_syms HBE.out);have HNM:Aside0 (GNm aA.length ⟨l1,0,[],[]⟩):=⟨fun f hf=>(nomatch hf)⟩;generalize (⟨bC,aA.length,bE,bK,aQ.length,bM,cJ,cK,cX,bS.length,cY,A2,l2.length,c2⟩:GC)=C at HIN2 HGI
   go_upto_region 4 with fail
   generalize (w2.alloc (.cells #[.slice bC aA.length bE,.slice bK aQ.length bM,.int .i64 cJ,.int .i64 cK,.slice cX bS.length cY,.slice A1 l1.length c1,.slice A2 l2.length c2,.int .i64 0,.slice none 0 0,.slice none 0 0] 79))=w3 at HGI ⊢;clear q0 q1 q2 q3 q4 f0 f1 k0 k1;generalize hGe:w2.heap.size=G at HGI ⊢;have HGE:=aM hGe;clear hGe;have PO:Aside0 (Calls Try.prog 27 #[.pointer (some ⟨G,0,none⟩),.int .i64 0] w3 fun e w'=>e= .returned (.bool (gOpen bS 0 ⟨l1,0,[],[]⟩).2)∧GI C w2 G (gOpen bS 0 ⟨l1,0,[],[]⟩).1 w'):=⟨open_walk (ls:=l2) 0 _ (by rw [HGE.out];exact Nat.le_refl _) HIN2.out HGI.out (Nat.zero_le _)⟩;have HIV2:=aM (gOpen_inv (ps:=bS) HIV.out 0);have HNM2:=aM (gOpen_nm HSY.out HNM.out (rule:=0) (by have:=HPOS.out;omega));generalize gOpen bS 0 ⟨l1,0,[],[]⟩=R at PO HIV2 HNM2 HRUN;obtain⟨s0,ok0⟩:=R;simp only at PO HIV2 HNM2 HRUN;clear HGI HIV HNM
   go_upto_region 5 with(first|(go_at_call 27;(with_reducible refine PO.out.mono ?_);rintro e w4 ⟨rfl,hg4⟩;have HG4:=aM hg4;clear hg4 PO))
   go_loopg [9] k (fun kq v9 wr=>∃(ok:Bool) (s:GSt),v9= .bool ok∧Aside0 (gRun aA bS l2 kq s ok=some q)∧Aside0 (GI C w2 G s wr)∧Aside0 (GInv l2 1000000001 s)∧Aside0 (GNm aA.length s))
   case atStart=>exact⟨ok0,s0,rfl,HRUN,HG4,HIV2,HNM2⟩
   case round=>
    clear HRUN HG4 HIV2 HNM2;obtain⟨ok,s,rfl,HRUN,HGI,HIV,HNM⟩:=hrel;obtain⟨steps,at_,fs,ms⟩:=s
    cases gk with
    |zero=>exact absurd HRUN.out (by simp [gRun])
    |succ gk=>
     obtain⟨frs,nds,As,cs,sv,nv,hb,ef,en,hst,hsc,hr,hB⟩:=HGI.out;simp only at hb ef en hst hsc;obtain⟨Av,cv,rfl⟩:=Kd.R_slice hr.st;have hlen:frs.length=fs.length:=by rw [←ef,List.length_map]
     rw [frRows_len,hlen] at hb hr;have HBK:=aM hb;have HRW:=aM hr;have HEF:=aM ef;have HEN:=aM en;have HTB3:=aM (bF HTB2.out hB);have HBWr:Aside0 (Below w.heap.size w wr):=⟨HBW2.out.trans (hB.mono HBW2.out.size)⟩;have q8:wr.cell? ⟨G,8,none⟩=some (.slice Av fs.length cv):=(aG hb 8).trans rfl;have hrun:=HRUN.out;rw [gRun] at hrun;clear hb ef en hst hsc hr hB hlen HRUN
     cases ok with
     |false=>
      rw [if_pos rfl] at hrun;have HR:Aside0 (r1= []∧r2= []∧r3=90):=⟨by have h:=HRES.out;rw [←Option.some.inj hrun] at h;simp only [growEnd,growRes,Prod.mk.injEq] at h;exact⟨h.1.symm,h.2.1.symm,h.2.2.symm⟩⟩;clear hrun
      by_cases hz:fs.length=0
      ·have d1:decide (0<fs.length)=false:=decide_eq_false (by omega)
       have d2:decide ((0:Int)<(fs.length:Int))=false:=decide_eq_false (by omega);clear hz;have f0:=aH HTB3.out 0;have f1:=aH HTB3.out 1;have k0:wr.cell? ⟨TB,0,none⟩=some (.slice none 0 0):=(aG HTB3.out 0).trans rfl;have k1:wr.cell? ⟨TB,1,none⟩=some (.slice none 0 0):=(aG HTB3.out 1).trans rfl;go_wp2
       refine bodyPost_ret (results_ct rfl _ _ TB 31 #[.slice none 0 0,.slice none 0 0] (0,0) _ rfl (blk_put (blk_put HTB3.out 0 _ rfl) 1 _ rfl) Try.underlying31 rfl (by kernel_rfl)) rfl ?_
       obtain⟨rfl,rfl,rfl⟩:=HR.out;exact⟨_,_,rfl,Kd.S_nil _ _ _ _ _,Kd.V_nil _ _ _ _ _,aL (aL HBWr.out HTLT.out.1) HTLT.out.1⟩
      ·have d1:decide (0<fs.length)=true:=decide_eq_true (by omega)
       have d2:decide ((0:Int)<(fs.length:Int))=true:=decide_eq_true (by omega);clear hz;have f0:=aH HTB3.out 0;have f1:=aH HTB3.out 1;have k0:wr.cell? ⟨TB,0,none⟩=some (.slice none 0 0):=(aG HTB3.out 0).trans rfl;have k1:wr.cell? ⟨TB,1,none⟩=some (.slice none 0 0):=(aG HTB3.out 1).trans rfl;go_wp2
       refine bodyPost_ret (results_ct rfl _ _ TB 31 #[.slice none 0 0,.slice none 0 0] (0,0) _ rfl (blk_put (blk_put HTB3.out 0 _ rfl) 1 _ rfl) Try.underlying31 rfl (by kernel_rfl)) rfl ?_
       obtain⟨rfl,rfl,rfl⟩:=HR.out;exact⟨_,_,rfl,Kd.S_nil _ _ _ _ _,Kd.V_nil _ _ _ _ _,aL (aL HBWr.out HTLT.out.1) HTLT.out.1⟩
     |true=>
      rw [if_neg (by simp)] at hrun;simp only at hrun
      cases fs with
      |nil=>
       rw [if_pos (show([]:List GFr).length=0 from rfl)] at hrun;have HQE:=aM (Option.some.inj hrun);clear hrun;have q8':wr.cell? ⟨G,8,none⟩=some (.slice Av 0 cv):=q8;clear q8;have d1:decide ((0:Int)<0)=false:=by decide
       go_upto_region 9 with fail
       obtain⟨An,cn,rfl⟩:=Kd.R_slice HRW.out.nd;have hnl:nds.length=ms.length:=by rw [←HEN.out,List.length_map]
       rw [ndRows_len,hnl] at HBK HRW;have q5:wr.cell? ⟨G,5,none⟩=some (.slice As steps.length cs):=(aG HBK.out 5).trans rfl;have q7:wr.cell? ⟨G,7,none⟩=some (.int .i64 (at_:Int)):=(aG HBK.out 7).trans rfl;have q9:wr.cell? ⟨G,9,none⟩=some (.slice An ms.length cn):=(aG HBK.out 9).trans rfl;have f0:=aH HTB3.out 0;have f1:=aH HTB3.out 1;have k0:wr.cell? ⟨TB,0,none⟩=some (.slice none 0 0):=(aG HTB3.out 0).trans rfl;have k1:wr.cell? ⟨TB,1,none⟩=some (.slice none 0 0):=(aG HTB3.out 1).trans rfl;clear hnl q8'
       by_cases h1:0<steps.length
       ·have HR:Aside0 (r1= []∧r2= []∧r3=90):=⟨by have h:=HRES.out;rw [←HQE.out] at h;simp only [growEnd] at h;rw [if_neg (fun e=>by omega)] at h;simp only [growRes,Prod.mk.injEq] at h;exact⟨h.1.symm,h.2.1.symm,h.2.2.symm⟩⟩
        have e1:decide (0<steps.length)=true:=decide_eq_true h1;have e2:decide ((0:Int)<(steps.length:Int))=true:=decide_eq_true (by omega);clear h1;go_wp2
        refine bodyPost_ret (results_ct rfl _ _ TB 31 #[.slice none 0 0,.slice none 0 0] (0,0) _ rfl (blk_put (blk_put HTB3.out 0 _ rfl) 1 _ rfl) Try.underlying31 rfl (by kernel_rfl)) rfl ?_
        obtain⟨rfl,rfl,rfl⟩:=HR.out;exact⟨_,_,rfl,Kd.S_nil _ _ _ _ _,Kd.V_nil _ _ _ _ _,aL (aL HBWr.out HTLT.out.1) HTLT.out.1⟩
       ·have e1:decide (0<steps.length)=false:=decide_eq_false h1
        have e2:decide ((0:Int)<(steps.length:Int))=false:=decide_eq_false (by omega)
        by_cases h2:at_<l2.length
        ·have HR:Aside0 (r1= []∧r2= []∧r3=90):=⟨by have h:=HRES.out;rw [←HQE.out] at h;simp only [growEnd] at h;rw [if_neg (fun e=>by omega)] at h;simp only [growRes,Prod.mk.injEq] at h;exact⟨h.1.symm,h.2.1.symm,h.2.2.symm⟩⟩
         have e3:decide (at_<l2.length)=true:=decide_eq_true h2;have e4:decide ((at_:Int)<(l2.length:Int))=true:=decide_eq_true (by omega);clear h1 h2;go_wp2
         refine bodyPost_ret (results_ct rfl _ _ TB 31 #[.slice none 0 0,.slice none 0 0] (0,0) _ rfl (blk_put (blk_put HTB3.out 0 _ rfl) 1 _ rfl) Try.underlying31 rfl (by kernel_rfl)) rfl ?_
         obtain⟨rfl,rfl,rfl⟩:=HR.out;exact⟨_,_,rfl,Kd.S_nil _ _ _ _ _,Kd.V_nil _ _ _ _ _,aL (aL HBWr.out HTLT.out.1) HTLT.out.1⟩
        ·have HR:Aside0 (r1=ms∧r2=l2∧r3=0):=⟨by have h:=HRES.out;rw [←HQE.out] at h;simp only [growEnd] at h;rw [if_pos (by omega)] at h;simp only [growRes,Prod.mk.injEq] at h;exact⟨h.1.symm,h.2.1.symm,h.2.2.symm⟩⟩
         have e3:decide (at_<l2.length)=false:=decide_eq_false h2;have e4:decide ((at_:Int)<(l2.length:Int))=false:=decide_eq_false (by omega);clear h1 h2;go_wp2
         have hfr:frs= []:=List.map_eq_nil_iff.1 HEF.out;have HS:=nodes_S HRW.out.nd (by have h:=HRW.out.kd;rw [hfr] at h;exact h);rw [HEN.out] at HS;have HSL:=Kd.S_mono (ok':=fun k_=>w.heap.size≤k_) (Kd.S_bound (Kd.S_lower HS HBW2.out.size)) (fun k hk=>hk.2.1);have hbase:∀j,(Value.slice An ms.length cn).ownBlock=some j→w.heap.size≤j:=fun j hj=>Nat.le_trans HBW2.out.size (Kd.R_base HRW.out.nd j hj)
         have hty:∀q,q∈34::k34.E→q≠31:=by decide
         have HT1:=blk_put HTB3.out 0 (.slice An ms.length cn) rfl;have HB5:Below w.heap.size w ((wr.setCell ⟨TB,0,none⟩ (.slice An ms.length cn)).setCell ⟨TB,1,none⟩ (.slice A2 l2.length c2)):=aL (aL HBWr.out HTLT.out.1) HTLT.out.1;refine bodyPost_ret (results_ct rfl _ _ TB 31 #[.slice An ms.length cn,.slice A2 l2.length c2] (0,0) _ rfl (blk_put (blk_put HTB3.out 0 _ rfl) 1 _ rfl) Try.underlying31 rfl (by kernel_rfl)) rfl ?_
         obtain⟨rfl,rfl,rfl⟩:=HR.out;exact⟨_,_,rfl,Kd.S_set (Kd.S_set HSL HTB3.out hty 0 _) HT1 hty 1 _,Kd.V_mono (Kd.V_old HS2.out HB5) (fun j hj=>⟨.inl hj.1,fun e=>by have:=hbase j e.symm;have:=hj.2;omega⟩),HB5⟩
      |cons f0 fs0=>
       rw [if_neg (by simp)] at hrun;have HRUN:=aM hrun;clear hrun;have d1:decide (0<(f0::fs0).length)=true:=by simp
       have d2:decide ((0:Int)<((f0::fs0).length:Int))=true:=decide_eq_true (by simp only [List.length_cons];omega);have PS:Aside0 (Calls Try.prog 28 #[.pointer (some ⟨G,0,none⟩)] wr fun e w'=>e= .returned (.bool (gStep aA bS l2 ⟨steps,at_,f0::fs0,ms⟩).2)∧GI C w2 G (gStep aA bS l2 ⟨steps,at_,f0::fs0,ms⟩).1 w'):=⟨step_walk steps at_ f0 fs0 ms (by rw [HGE.out];exact Nat.le_refl _) HIN2.out HGI.out (N:=1000000001) (by omega) (by have:=HSZ.out.2;omega) HIV.out HNM.out⟩;have HIVn:=aM (gStep_inv (ns:=aA) (ps:=bS) HIV.out);have HNMn:=aM (gStep_nm (ns:=aA) (ls:=l2) HSY.out HNM.out);generalize gStep aA bS l2 ⟨steps,at_,f0::fs0,ms⟩=R at PS HIVn HNMn HRUN;obtain⟨s1,ok1⟩:=R;simp only at PS HIVn HNMn HRUN;clear HGI HIV HNM HBK HRW HEF HEN HTB3 HBWr
       go_wp2_with (first|(go_at_call 28;(with_reducible refine PS.out.mono ?_);rintro e w5 ⟨rfl,hg5⟩;have HG5:=aM hg5;clear hg5 PS q8))
       go_roundg gk
       case measure=>exact Nat.lt_succ_self _
       case rel=>exact⟨ok1,s1,rfl,HRUN,HG5,HIVn,HNMn⟩
end Go.Proofs.Ytjaindljlgnkcaa.P
end
