/- Packed texts of this claim: the walks of the functions, and their plain laws; see the claim's last text. -/
import Derived.Deep.Cut
import Derived.Shelf.Abstract
import Derived.Deep.RegionHeld3
import Derived.WalkMore
import Derived.Deep.AppendLies
import Derived.Deep.CutRange
import Derived.Test.YtapjfnfengefpaaKMachineMade6
section
namespace Go.Proofs.Ytapjfnfengefpaa.P
open Go.RowKit Go.Proofs.YtapjfnfengefpaaW.PrintWords Go.Proofs.YtapjfnfengefpaaW.PrintLast Go.Proofs.YtapjfnfengefpaaW.PrintMore
set_option linter.unusedVariables false
set_option linter.unusedSimpArgs false
theorem miStr:(Try.prog.info? 9).map (fun i=>(i.zero,i.size,i.bytes))=some (some (.string ⟨#[]⟩),1,16):=by kernel_rfl
theorem miSym:(Try.prog.info? 43).map (fun i=>(i.zero,i.size,i.bytes))=some (some (.agg #[.bool false,.int .i64 0]),2,16):=by kernel_rfl
theorem miTok:(Try.prog.info? 72).map (fun i=>(i.zero,i.size,i.bytes))=some (some (.agg #[.string ⟨#[]⟩,.int .i64 0,.string ⟨#[]⟩,.slice none 0 0,.int .i64 0,.int .i64 0,.slice none 0 0]),7,104):=by kernel_rfl
theorem miProd:(Try.prog.info? 35).map (fun i=>(i.zero,i.size,i.bytes))=some (some (.agg #[.int .i64 0,.slice none 0 0]),2,32):=by kernel_rfl
section
variable {w W W':World}{A0:Option Addr}{n0 c0 at_:Nat}{vn vt vp:Value}
theorem MadeI.below (h:MadeI w A0 n0 c0 at_ vn vt vp W) (hb:Below W.heap.size W W'):MadeI w A0 n0 c0 at_ vn vt vp W':=
 ⟨h.bel.trans (hb.mono h.bel.size),(hb.block _ (bN h.l)).trans h.l,(hb.block _ (bN h.r)).trans h.r,(hb.block _ (bN h.s)).trans h.s,(hb.block _ (bN h.a)).trans h.a⟩
theorem MadeI.below4 (h:MadeI w A0 n0 c0 at_ vn vt vp W) (hb:Below (w.heap.size+4) W W'):MadeI w A0 n0 c0 at_ vn vt vp W':=
 ⟨h.bel.trans (hb.mono (by omega)),(hb.block _ (by omega)).trans h.l,(hb.block _ (by omega)).trans h.r,(hb.block _ (by omega)).trans h.s,(hb.block _ (by omega)).trans h.a⟩
theorem MadeI.size (h:MadeI w A0 n0 c0 at_ vn vt vp W):w.heap.size+4≤W.heap.size:=bN h.a
theorem MadeI.put0 (h:MadeI w A0 n0 c0 at_ vn vt vp W) (v:Value):MadeI w A0 n0 c0 at_ v vt vp (W.setCell ⟨w.heap.size+2,0,none⟩ v):=
 ⟨aL h.bel (by simp),blk_far h.l (by simp) _,blk_far h.r (by simp) _,blk_put h.s 0 v rfl,blk_far h.a (by simp) _⟩
theorem MadeI.put1 (h:MadeI w A0 n0 c0 at_ vn vt vp W) (v:Value):MadeI w A0 n0 c0 at_ vn v vp (W.setCell ⟨w.heap.size+2,1,none⟩ v):=
 ⟨aL h.bel (by simp),blk_far h.l (by simp) _,blk_far h.r (by simp) _,blk_put h.s 1 v rfl,blk_far h.a (by simp) _⟩
theorem MadeI.put4 (h:MadeI w A0 n0 c0 at_ vn vt vp W) (v:Value):MadeI w A0 n0 c0 at_ vn vt v (W.setCell ⟨w.heap.size+2,4,none⟩ v):=
 ⟨aL h.bel (by simp),blk_far h.l (by simp) _,blk_far h.r (by simp) _,blk_put h.s 4 v rfl,blk_far h.a (by simp) _⟩
end
theorem set5_kept (W:World) (g:Nat) (v0 v1 v2 v3 v4:Value):Kept W (((((W.setCell ⟨g,0,none⟩ v0).setCell ⟨g,1,none⟩ v1).setCell ⟨g,2,none⟩ v2).setCell ⟨g,3,none⟩ v3).setCell ⟨g,4,none⟩ v4) (fun k=>k=g):=by
 have h0:=Kept.setCell (Kept.refl W (fun k=>k=g)) (p:=⟨g,0,none⟩) (.inl rfl) v0
 have h1:=Kept.setCell h0 (p:=⟨g,1,none⟩) (.inl rfl) v1
 have h2:=Kept.setCell h1 (p:=⟨g,2,none⟩) (.inl rfl) v2
 have h3:=Kept.setCell h2 (p:=⟨g,3,none⟩) (.inl rfl) v3
 exact Kept.setCell h3 (p:=⟨g,4,none⟩) (.inl rfl) v4
theorem set5_below {w W:World}{g:Nat}(h:Below w.heap.size w W) (hg:w.heap.size≤g) (v0 v1 v2 v3 v4:Value):Below w.heap.size w (((((W.setCell ⟨g,0,none⟩ v0).setCell ⟨g,1,none⟩ v1).setCell ⟨g,2,none⟩ v2).setCell ⟨g,3,none⟩ v3).setCell ⟨g,4,none⟩ v4):=by
 have h0:=aL (j:=0) (v:=v0) h hg
 have h1:=aL (j:=1) (v:=v1) h0 hg
 have h2:=aL (j:=2) (v:=v2) h1 hg
 have h3:=aL (j:=3) (v:=v3) h2 hg
 exact aL (j:=4) (v:=v4) h3 hg
theorem name_at (i:Nat) (h:i<5):([Value.string ⟨#[97]⟩,Value.string ⟨#[98]⟩,Value.string ⟨#[99]⟩,Value.string ⟨#[100]⟩,Value.string ⟨#[101]⟩]:List Value)[i]?=some (.string (mNames.getD i ⟨#[]⟩)):=by
 match i,h with
 |0,_=>rfl
 |1,_=>rfl
 |2,_=>rfl
 |3,_=>rfl
 |4,_=>rfl
theorem text_at (i:Nat) (h:i<4):([Value.string ⟨#[120]⟩,Value.string ⟨#[121]⟩,Value.string ⟨#[122]⟩,Value.string ⟨#[119]⟩]:List Value)[i]?=some (.string (mTexts.getD i ⟨#[]⟩)):=by
 match i,h with
 |0,_=>rfl
 |1,_=>rfl
 |2,_=>rfl
 |3,_=>rfl
theorem take_next {α:Type}(xs:List α) (d:α) (i:Nat) (h:i<xs.length):xs.take i++ [xs.getD i d]=xs.take (i+1):=by
 rw [List.take_add_one,List.getD_eq_getElem?_getD,List.getElem?_eq_getElem h];rfl
set_option maxHeartbeats 4000000 in
set_option maxRecDepth 100000 in
theorem regletlaw13_Made.calls (k:Nat) (A0:Option Addr) (c0:Nat) (l0:List Int) (r1:List ByteArray) (r2:List S72) (r3 r4:Int) (r5:List S35) (w:World) (hr0:Kd.C (Kd.int .u8) w A0 l0.length l0) (hc0:l0.length≤c0) (h:regletlaw13_Made.f k l0=some (r1,r2,r3,r4,r5)):
 Calls Try.prog 13 #[.slice A0 l0.length c0] w fun e w'=>∃v0_ v1_ v2_:Value,e= .returned (.agg #[v0_,v1_,.int .i64 r3,.int .i64 r4,v2_])∧Kd.R Kd.string 9 w' w.heap.size (fun _=>True) v0_ r1∧Kd.R k72 72 w' w.heap.size (fun _=>True) v1_ r2∧Kd.S k35 35 w' w.heap.size (fun _=>True) v2_ r5∧Below w.heap.size w w':=by
 unfold regletlaw13_Made.f at h
 split at h
 case isFalse=>simp at h
 rename_i hall
 have hu:∀x∈l0,0≤x∧x≤255:=fun x hx=>of_decide_eq_true (List.all_eq_true.1 hall x hx)
 obtain⟨h1,h2⟩:=Prod.mk.inj (Option.some.inj h)
 obtain⟨h2,h3⟩:=Prod.mk.inj h2
 obtain⟨h3,h4⟩:=Prod.mk.inj h3
 obtain⟨h4,h5⟩:=Prod.mk.inj h4
 subst h1 h2 h3 h4 h5
 have HU:=aM hu
 have HR0:=aM hr0
 clear h hall hu hr0 hc0
 clear h2 h3 h4
 have hI0:MadeI w A0 l0.length c0 0 (.slice none 0 0) (.slice none 0 0) (.slice none 0 0) ((((w.alloc (.cells #[.slice A0 l0.length c0] 39)).alloc (.cells #[.slice none 0 0,.slice none 0 0,.int .i64 0,.int .i64 0,.slice none 0 0] 26)).alloc (.cells #[.slice none 0 0,.slice none 0 0,.int .i64 0,.int .i64 0,.slice none 0 0] 26)).alloc (.cells #[.int .i64 0] 3)):=by
  refine⟨aN (aN (aN (aN (Below.refl _ w) _) _) _) _,?_,?_,?_,?_⟩
  ·exact aI (aI (aI (heap_alloc_new w _) _) _) _
  ·have h:=heap_alloc_new (w.alloc (.cells #[.slice A0 l0.length c0] 39)) (.cells #[.slice none 0 0,.slice none 0 0,.int .i64 0,.int .i64 0,.slice none 0 0] 26)
   rw [World.size_alloc] at h
   exact aI (aI h _) _
  ·have h:=heap_alloc_new ((w.alloc (.cells #[.slice A0 l0.length c0] 39)).alloc (.cells #[.slice none 0 0,.slice none 0 0,.int .i64 0,.int .i64 0,.slice none 0 0] 26)) (.cells #[.slice none 0 0,.slice none 0 0,.int .i64 0,.int .i64 0,.slice none 0 0] 26)
   rw [World.size_alloc,World.size_alloc] at h
   exact aI h _
  ·have h:=heap_alloc_new (((w.alloc (.cells #[.slice A0 l0.length c0] 39)).alloc (.cells #[.slice none 0 0,.slice none 0 0,.int .i64 0,.int .i64 0,.slice none 0 0] 26)).alloc (.cells #[.slice none 0 0,.slice none 0 0,.int .i64 0,.int .i64 0,.slice none 0 0] 26)) (.cells #[.int .i64 0] 3)
   rw [World.size_alloc,World.size_alloc,World.size_alloc] at h
   exact h
 have HI0:=aM hI0
 clear hI0
 have eg:∀args w,(callFunc 29 args).run Try.prog w= .ok (.enter 29 args) w:=enters_of Try.func29 (by kernel_rfl) rfl
 have hp0:=mPick_lt HU.out 0 (n:=5) (by decide)
 have hp1:=mPick_lt HU.out 1 (n:=4) (by decide)
 have hp2:=mPick_lt HU.out 2 (n:=10) (by decide)
 obtain⟨m,em,hm1,hm5⟩:∃m:Nat,1+mPick l0 0 5=(m:Int)∧1≤m∧m≤5:=⟨(1+mPick l0 0 5).toNat,by omega,by omega,by omega⟩
 obtain⟨q,eq_,hq1,hq4⟩:∃q:Nat,1+mPick l0 1 4=(q:Int)∧1≤q∧q≤4:=⟨(1+mPick l0 1 4).toNat,by omega,by omega,by omega⟩
 obtain⟨c,ec,hc1,hc10⟩:∃c:Nat,1+mPick l0 2 10=(c:Int)∧1≤c∧c≤10:=⟨(1+mPick l0 2 10).toNat,by omega,by omega,by omega⟩
 simp only [em,eq_,ec,Int.toNat_natCast]
 have EM:=aM em
 have EQ:=aM eq_
 have EC:=aM ec
 clear em eq_ ec hp0 hp1 hp2
 go_enter Try.func13,Try.ntmps13
 go_upto_region 4 with fail
 simp only [Nat.add_assoc,Nat.reduceAdd]
 generalize ((((w.alloc (.cells #[.slice A0 l0.length c0] 39)).alloc (.cells #[.slice none 0 0,.slice none 0 0,.int .i64 0,.int .i64 0,.slice none 0 0] 26)).alloc (.cells #[.slice none 0 0,.slice none 0 0,.int .i64 0,.int .i64 0,.slice none 0 0] 26)).alloc (.cells #[.int .i64 0] 3))=W0 at HI0 ⊢
 go_cut [6,7] from 14 (fun s6 s7 wc=>s6= .int .i64 (m:Int)∧s7= .int .i64 (q:Int)∧Aside0 (MadeI w A0 l0.length c0 2 (.slice none 0 0) (.slice none 0 0) (.slice none 0 0) wc))
 case first=>
  have P1:=aM (HI0.out.calls HR0.out 5 (by decide) (by decide) HU.out)
  have hw1:IntKind.i64.wrap (1+mPick l0 0 5)=1+mPick l0 0 5:=by have:=mPick_lt HU.out 0 (n:=5) (by decide);rw [IntKind.wrap_i64];omega
  have hw2:IntKind.i64.wrap (1+mPick l0 1 4)=1+mPick l0 1 4:=by have:=mPick_lt HU.out 1 (n:=4) (by decide);rw [IntKind.wrap_i64];omega
  go_wp2_with (first
   |(go_at_fn 29;(with_reducible refine P1.out.mono ?_);rintro e w1 ⟨rfl,HI1,hk1⟩;have P2:=aM (HI1.out.calls HR0.out 4 (by decide) (by decide) HU.out);clear P1)
   |(go_at_fn 29;(with_reducible refine P2.out.mono ?_);rintro e w2 ⟨rfl,HI2,hk2⟩;clear P2))
  go_meet
  case rel=>exact⟨congrArg _ EM.out,congrArg _ EQ.out,HI2⟩
 case rest=>
  obtain⟨rfl,rfl,HI2⟩:=hcut
  obtain⟨w2,ew2⟩:∃w2:World,w2=wc:=⟨_,rfl⟩
  subst ew2
  clear HI0
  have M5:=aM hm5
  have Q4:=aM hq4
  have C10:=aM hc10
  have M1:=aM hm1
  have Q1:=aM hq1
  have C1:=aM hc1
  clear hm5 hq4 hc10 hm1 hq1 hc1
  go_upto_region 5 with fail
  iterate 7 (first|go_values|go_skip|go_guarded|go_step|go_upon|go_back|(simp only [Int.not_lt,Int.not_le] at *;go_simp))
  go_cut [8] from 14 (fun s8 wc=>∃vn:Value,Aside0 (MadeI w A0 l0.length c0 2 vn (.slice none 0 0) (.slice none 0 0) wc)∧Aside0 (Kd.R Kd.string 9 wc (w.heap.size+4) (fun k=>w.heap.size+4≤k) vn (mNames.take m)))
  case first=>
   go_wp2
   go_loopg [8] m (fun kq v8 wr=>∃(i:Nat) (vn:Value),v8= .int .i64 i∧i≤m∧m - i≤kq∧Aside0 (MadeI w A0 l0.length c0 2 vn (.slice none 0 0) (.slice none 0 0) wr)∧Aside0 (Kd.R Kd.string 9 wr (w.heap.size+4) (fun k=>w.heap.size+4≤k) vn (mNames.take i)))
   case atStart=>exact⟨0,.slice none 0 0,rfl,by omega,by omega,HI2,⟨Kd.R_nil _ _ _ _ _⟩⟩
   case round=>
    clear HI2
    obtain⟨i,vn,rfl,hi,hm,HI,HN⟩:=hrel
    by_cases hlt:i<m
    ·have d0:decide (i<m)=true:=decide_eq_true hlt
     have d1:(i<m)=True:=eq_true hlt
     have HLT:=aM hlt
     have HM:=aM hm
     have p0:(0≤(i:Int))=True:=eq_true (by omega)
     have p1:((i:Int)<5)=True:=eq_true (by have:=M5.out;omega)
     have hwr:IntKind.i64.wrap ((i:Int)+1)=(i:Int)+1:=by rw [IntKind.wrap_i64];have:=M5.out;omega
     have H1:=aM (HI.out.below (aO (Below.refl _ wr)))
     have H2:=aM (H1.out.below (aN (Below.refl _ wr.drew) (.cells #[.string ⟨#[97]⟩,.string ⟨#[98]⟩,.string ⟨#[99]⟩,.string ⟨#[100]⟩,.string ⟨#[101]⟩] 9)))
     obtain⟨nm,enm⟩:∃nm:ByteArray,nm=mNames.getD i ⟨#[]⟩:=⟨_,rfl⟩
     have c8:([Value.string ⟨#[97]⟩,Value.string ⟨#[98]⟩,Value.string ⟨#[99]⟩,Value.string ⟨#[100]⟩,Value.string ⟨#[101]⟩]:List Value)[i]?=some (.string nm):=by rw [enm];exact name_at i (by have:=M5.out;omega)
     have ENM:=aM enm
     clear enm
     have HS2:=aM H2.out.size
     clear hlt hm hi
     go_wp2
     refine start_ (n:=10) (S:=fun w'=>w'.cell? ⟨w.heap.size+2,0,none⟩=some vn) (ds:= [9]) #[F,F,F,F,F,F,F,F,F,F] (by kernel_rfl) rfl rfl ((aG HI.out.s 0).trans rfl) (fun hHeld=>?_)
     refine pure_ (i:=0) (N:=some 25) (v:=?_) (a':=?_) #[T,F,F,F,F,F,F,F,F,F] rfl rfl (by kernel_rfl) (fun _ _ _ h=>h) (Or.inl ⟨by rfl,?_⟩) ?_ ?_
     rotate_left;(intro w';go_simp;with_reducible rfl);rotate_left;(simp only [pq];rfl)
     refine pure_ (i:=3) (N:=some 28) (v:=?_) (a':=?_) #[T,F,F,T,F,F,F,F,F,F] rfl rfl (by kernel_rfl) (fun _ _ _ h=>h) (Or.inl ⟨by rfl,?_⟩) ?_ ?_
     rotate_left;(intro w';go_simp;with_reducible rfl);rotate_left;(simp only [pq];rfl)
     refine take_ (i:=1) (N:=some 26) (v:=?_) (a':=?_) #[T,T,F,T,F,F,F,F,F,F] rfl rfl (by kernel_rfl) (fun _ _ _ h=>h) (Or.inl ⟨by rfl,?_⟩) hHeld ?_ ?_
     rotate_left
     ·intro w' s0
      go_simp
      with_reducible rfl
     rotate_left
     ·simp only [pq]
      rfl
     refine one_ (i:=2) (N:=some 27) #[T,T,T,T,F,F,F,F,F,F] rfl rfl (by kernel_rfl) (by decide) (fun K hK=>?_)
     refine value_ (w1:=?_) (v:=?_) (by rfl) rfl ?_ ?_
     rotate_left 2
     ·go_simp
      constructor
      ·rfl
      ·rfl
     refine hK.out _ _ ((aG H2.out.s 0).trans rfl) (fun hHeld=>?_)
     clear hK K
     refine norm_ (a':=?_) ?_ ?_
     rotate_left
     ·show Act.put _ (some 27) _=_
      simp only [pq]
      rfl
     refine pure_ (i:=4) (N:=some 29) (v:=?_) (a':=?_) #[T,T,T,T,T,F,F,F,F,F] rfl rfl (by kernel_rfl) (fun _ _ _ h=>h) (Or.inl ⟨by rfl,?_⟩) ?_ ?_
     rotate_left;(intro w';go_simp;with_reducible rfl);rotate_left;(simp only [pq];rfl)
     refine one_ (i:=5) (N:=some 30) #[T,T,T,T,T,T,F,F,F,F] rfl rfl (by kernel_rfl) (by decide) (fun K hK=>?_)
     refine value_ (w1:=?_) (v:=?_) (by rfl) rfl ?_ ?_
     rotate_left 2
     ·go_simp
      constructor
      ·rfl
      ·rfl
     refine hK.out _ _ (hHeld) (fun hHeld=>?_)
     clear hK K
     refine norm_ (a':=?_) ?_ ?_
     rotate_left
     ·show Act.put _ (some 30) _=_
      simp only [pq]
      rfl
     refine one_ (i:=6) (N:=some 31) #[T,T,T,T,T,T,T,F,F,F] rfl rfl (by kernel_rfl) (by decide) (fun K hK=>?_)
     refine value_ (w1:=?_) (v:=?_) (by rfl) rfl ?_ ?_
     rotate_left 2
     ·go_simp
      constructor
      ·rfl
      ·rfl
     refine hK.out _ _ ((aG (H2.out.below (aN (Below.refl _ _) _)).s 0).trans rfl) (fun hHeld=>?_)
     clear hK K
     refine norm_ (a':=?_) ?_ ?_
     rotate_left
     ·show Act.put _ (some 31) _=_
      simp only [pq]
      rfl
     refine one_ (i:=7) (N:=some 32) #[T,T,T,T,T,T,T,T,F,F] rfl rfl (by kernel_rfl) (by decide) (fun K hK=>?_)
     refine Kd.R_append_step Kd.string (w0:=wr.drew.alloc (.cells #[.string ⟨#[97]⟩,.string ⟨#[98]⟩,.string ⟨#[99]⟩,.string ⟨#[100]⟩,.string ⟨#[101]⟩] 9)) (w.heap.size+4) (by rfl) (.tmp 26) (.tmp 31) 22 9 (.string ⟨#[]⟩) 16 rfl Try.underlying22 miStr rfl (by decide) (by omega) vn (mNames.take i) nm [.string nm] (fun k=>w.heap.size+4≤k) (fun _=>False) rfl (by rw [World.size_alloc];rfl) rfl (fun _ hk=>hk.elim) (fun k hk=>Nat.le_trans HS2.out hk) (aA (aC HN.out) _) (Below.refl _ _) HS2.out (by have:=M5.out;have:=HLT.out;have:=List.length_take_le i mNames;omega) ?_
     intro v1 w1 ho hb hg hat
     obtain⟨An,ln,cn,rfl⟩:∃An ln cn,v1= .slice An ln cn:=by obtain⟨An,cn,e⟩:=Kd.R_slice ho;exact⟨An,_,cn,e⟩
     rw [ENM.out,take_next mNames ⟨#[]⟩ i (by have:=M5.out;have:=HLT.out;show i<5;omega)] at ho
     have H3:=aM (H2.out.below4 hb)
     have HN3:=aM ho
     have f3:=aH H3.out.s 0
     clear ho hb hg hat
     refine hK.out _ _ ((aG H3.out.s 0).trans rfl) (fun hHeld=>?_)
     clear hK K
     refine norm_ (a':=?_) ?_ ?_
     rotate_left
     ·show Act.put _ (some 32) _=_
      simp only [pq]
      rfl
     refine pure_ (i:=8) (N:=some 33) (v:=?_) (a':=?_) #[T,T,T,T,T,T,T,T,T,F] rfl rfl (by kernel_rfl) (fun _ _ _ h=>h) (Or.inl ⟨by rfl,?_⟩) ?_ ?_
     rotate_left;(intro w';go_simp;with_reducible rfl);rotate_left;(simp only [pq];rfl)
     refine last_ (i:=9) (N:=none) #[T,T,T,T,T,T,T,T,T,T] rfl rfl (by kernel_rfl) (by decide) (fun K hK=>?_)
     refine skip_ (w1:=?_) (by rfl) rfl ?_ ?_
     rotate_left
     ·go_simp
      rfl
     refine hK.out _ _ ?_
     clear hK K
     refine done_ (by kernel_rfl) ?_
     go_wp2
     go_roundg (m - (i+1))
     case measure=>have:=HM.out;have:=HLT.out;omega
     case rel=>exact⟨i+1,_,rfl,by have:=HLT.out;omega,Nat.le_refl _,⟨H3.out.put0 _⟩,⟨Kd.R_kept HN3.out (Kept.setCell (Kept.refl _ (fun k=>k=w.heap.size+2)) (.inl rfl) _) (fun k hk=>by omega)⟩⟩
    ·obtain rfl:i=m:=by omega
     have d0:decide ((i:Int)<(i:Int))=false:=decide_eq_false (by omega)
     clear hlt
     go_wp2
     go_meet
     case rel=>exact⟨vn,HI,HN⟩
  case rest=>
   obtain⟨vn,HI3,HN3⟩:=hcut
   obtain⟨w3,ew3⟩:∃w3:World,w3=wc:=⟨_,rfl⟩
   subst ew3
   clear HI2
   have HB3:=aM HI3.out.size
   have HN3b:Aside0 (Kd.R Kd.string 9 w3 (w.heap.size+4) (fun k=>w.heap.size+4≤k∧k<w3.heap.size) vn (mNames.take m)):=⟨Kd.R_mono (Kd.R_bound HN3.out) (fun k hk=>⟨hk.2.1,hk.2.2.1⟩)⟩
   clear HN3
   go_upto_region 9 with fail
   iterate 7 (first|go_values|go_skip|go_guarded|go_step|go_upon|go_back|(simp only [Int.not_lt,Int.not_le] at *;go_simp))
   go_cut [9] from 14 (fun s9 wc=>∃vt:Value,Aside0 (MadeI w A0 l0.length c0 2 vn vt (.slice none 0 0) wc)∧Aside0 (Kept w3 wc (fun k=>k<w.heap.size+4∨w3.heap.size≤k))∧Aside0 (Kd.R k72 72 wc (w.heap.size+4) (fun k=>w3.heap.size≤k) vt ((mTexts.map mTok).take q)))
   case first=>
    go_wp2
    go_loopg [9] q (fun kq v9 wr=>∃(i:Nat) (vt:Value),v9= .int .i64 i∧i≤q∧q - i≤kq∧Aside0 (MadeI w A0 l0.length c0 2 vn vt (.slice none 0 0) wr)∧Aside0 (Kept w3 wr (fun k=>k<w.heap.size+4∨w3.heap.size≤k))∧Aside0 (Kd.R k72 72 wr (w.heap.size+4) (fun k=>w3.heap.size≤k) vt ((mTexts.map mTok).take i)))
    case atStart=>exact⟨0,.slice none 0 0,rfl,by omega,by omega,HI3,⟨Kept.refl _ _⟩,⟨Kd.R_nil _ _ _ _ _⟩⟩
    case round=>
     clear HI3
     obtain⟨i,vt,rfl,hi,hm,HI,HK,HT⟩:=hrel
     by_cases hlt:i<q
     ·have d0:decide (i<q)=true:=decide_eq_true hlt
      have d1:(i<q)=True:=eq_true hlt
      have HLT:=aM hlt
      have HM:=aM hm
      have p0:(0≤(i:Int))=True:=eq_true (by omega)
      have p1:((i:Int)<4)=True:=eq_true (by have:=Q4.out;omega)
      have hwr:IntKind.i64.wrap ((i:Int)+1)=(i:Int)+1:=by rw [IntKind.wrap_i64];have:=Q4.out;omega
      have H1:=aM (HI.out.below (aO (Below.refl _ wr)))
      have H2:=aM (H1.out.below (aN (Below.refl _ wr.drew) (.cells #[.string ⟨#[120]⟩,.string ⟨#[121]⟩,.string ⟨#[122]⟩,.string ⟨#[119]⟩] 9)))
      have HK2:Aside0 (Kept w3 (wr.drew.alloc (.cells #[.string ⟨#[120]⟩,.string ⟨#[121]⟩,.string ⟨#[122]⟩,.string ⟨#[119]⟩] 9)) (fun k=>k<w.heap.size+4∨w3.heap.size≤k)):=⟨Kept.alloc (Kept.drew HK.out) _⟩
      obtain⟨tx,etx⟩:∃tx:ByteArray,tx=mTexts.getD i ⟨#[]⟩:=⟨_,rfl⟩
      have c8:([Value.string ⟨#[120]⟩,Value.string ⟨#[121]⟩,Value.string ⟨#[122]⟩,Value.string ⟨#[119]⟩]:List Value)[i]?=some (.string tx):=by rw [etx];exact text_at i (by have:=Q4.out;omega)
      have ETX:Aside0 (mTok tx=(mTexts.map mTok).getD i (mTok ⟨#[]⟩)):=⟨by rw [etx,List.getD_eq_getElem?_getD,List.getD_eq_getElem?_getD,List.getElem?_map,List.getElem?_eq_getElem (show i<mTexts.length by have:=Q4.out;show i<4;omega)];rfl⟩
      have HS2:=aM H2.out.size
      have HZ2:Aside0 (w3.heap.size≤(wr.drew.alloc (.cells #[.string ⟨#[120]⟩,.string ⟨#[121]⟩,.string ⟨#[122]⟩,.string ⟨#[119]⟩] 9)).heap.size):=⟨HK2.out.1⟩
      clear hlt hm hi etx
      go_wp2
      refine start_ (n:=12) (S:=fun w'=>w'.cell? ⟨w.heap.size+2,1,none⟩=some vt) (ds:= [11]) #[F,F,F,F,F,F,F,F,F,F,F,F] (by kernel_rfl) rfl rfl ((aG HI.out.s 1).trans rfl) (fun hHeld=>?_)
      refine pure_ (i:=0) (N:=some 39) (v:=?_) (a':=?_) #[T,F,F,F,F,F,F,F,F,F,F,F] rfl rfl (by kernel_rfl) (fun _ _ _ h=>h) (Or.inl ⟨by rfl,?_⟩) ?_ ?_
      rotate_left;(intro w';go_simp;with_reducible rfl);rotate_left;(simp only [pq];rfl)
      refine pure_ (i:=3) (N:=some 42) (v:=?_) (a':=?_) #[T,F,F,T,F,F,F,F,F,F,F,F] rfl rfl (by kernel_rfl) (fun _ _ _ h=>h) (Or.inl ⟨by rfl,?_⟩) ?_ ?_
      rotate_left;(intro w';go_simp;with_reducible rfl);rotate_left;(simp only [pq];rfl)
      refine take_ (i:=1) (N:=some 40) (v:=?_) (a':=?_) #[T,T,F,T,F,F,F,F,F,F,F,F] rfl rfl (by kernel_rfl) (fun _ _ _ h=>h) (Or.inl ⟨by rfl,?_⟩) hHeld ?_ ?_
      rotate_left
      ·intro w' s0
       go_simp
       with_reducible rfl
      rotate_left
      ·simp only [pq]
       rfl
      refine one_ (i:=2) (N:=some 41) #[T,T,T,T,F,F,F,F,F,F,F,F] rfl rfl (by kernel_rfl) (by decide) (fun K hK=>?_)
      refine value_ (w1:=?_) (v:=?_) (by rfl) rfl ?_ ?_
      rotate_left 2
      ·go_simp
       constructor
       ·rfl
       ·rfl
      refine hK.out _ _ ((aG H2.out.s 1).trans rfl) (fun hHeld=>?_)
      clear hK K
      refine norm_ (a':=?_) ?_ ?_
      rotate_left
      ·show Act.put _ (some 41) _=_
       simp only [pq]
       rfl
      refine pure_ (i:=4) (N:=some 43) (v:=?_) (a':=?_) #[T,T,T,T,T,F,F,F,F,F,F,F] rfl rfl (by kernel_rfl) (fun _ _ _ h=>h) (Or.inl ⟨by rfl,?_⟩) ?_ ?_
      rotate_left;(intro w';go_simp;with_reducible rfl);rotate_left;(simp only [pq];rfl)
      refine one_ (i:=5) (N:=some 44) #[T,T,T,T,T,T,F,F,F,F,F,F] rfl rfl (by kernel_rfl) (by decide) (fun K hK=>?_)
      refine value_ (w1:=?_) (v:=?_) (by rfl) rfl ?_ ?_
      rotate_left 2
      ·go_simp
       constructor
       ·rfl
       ·rfl
      refine hK.out _ _ (hHeld) (fun hHeld=>?_)
      clear hK K
      refine norm_ (a':=?_) ?_ ?_
      rotate_left
      ·show Act.put _ (some 44) _=_
       simp only [pq]
       rfl
      refine pure_ (i:=6) (N:=some 45) (v:=?_) (a':=?_) #[T,T,T,T,T,T,T,F,F,F,F,F] rfl rfl (by kernel_rfl) (fun _ _ _ h=>h) (Or.inl ⟨by rfl,?_⟩) ?_ ?_
      rotate_left;(intro w';go_simp;with_reducible rfl);rotate_left;(simp only [pq];rfl)
      refine pure_ (i:=7) (N:=some 46) (v:=?_) (a':=?_) #[T,T,T,T,T,T,T,T,F,F,F,F] rfl rfl (by kernel_rfl) (fun _ _ _ h=>h) (Or.inl ⟨by rfl,?_⟩) ?_ ?_
      rotate_left;(intro w';go_simp;with_reducible rfl);rotate_left;(simp only [pq];rfl)
      refine one_ (i:=8) (N:=some 47) #[T,T,T,T,T,T,T,T,T,F,F,F] rfl rfl (by kernel_rfl) (by decide) (fun K hK=>?_)
      refine value_ (w1:=?_) (v:=?_) (by rfl) rfl ?_ ?_
      rotate_left 2
      ·go_simp
       constructor
       ·rfl
       ·rfl
      refine hK.out _ _ ((aG (H2.out.below (aN (Below.refl _ _) _)).s 1).trans rfl) (fun hHeld=>?_)
      clear hK K
      refine norm_ (a':=?_) ?_ ?_
      rotate_left
      ·show Act.put _ (some 47) _=_
       simp only [pq]
       rfl
      refine one_ (i:=9) (N:=some 48) #[T,T,T,T,T,T,T,T,T,T,F,F] rfl rfl (by kernel_rfl) (by decide) (fun K hK=>?_)
      refine Kd.R_append_step k72 (w0:=wr.drew.alloc (.cells #[.string ⟨#[120]⟩,.string ⟨#[121]⟩,.string ⟨#[122]⟩,.string ⟨#[119]⟩] 9)) (w.heap.size+4) (by rfl) (.tmp 40) (.tmp 47) 23 72 (.agg #[.string ⟨#[]⟩,.int .i64 0,.string ⟨#[]⟩,.slice none 0 0,.int .i64 0,.int .i64 0,.slice none 0 0]) 104 rfl Try.underlying23 miTok rfl (by decide) (by omega) vt ((mTexts.map mTok).take i) (mTok tx) [.string ⟨#[]⟩,.int .i64 5,.string tx,.slice none 0 0,.int .i64 0,.int .i64 0,.slice none 0 0] (fun k=>w3.heap.size≤k) (fun _=>False) rfl (by rw [World.size_alloc];rfl) (k72_mkM _ _ _ (mTok tx) (Kd.R_nil _ _ _ _ _) (Kd.R_nil _ _ _ _ _)) (fun _ hk=>hk.elim) (fun k hk=>Nat.le_trans HZ2.out hk) (aA (aC HT.out) _) (Below.refl _ _) HS2.out (by have:=Q4.out;have:=HLT.out;have:=List.length_take_le i (mTexts.map mTok);omega) ?_
      intro v1 w1 ho hb hg hat
      obtain⟨An,ln,cn,rfl⟩:∃An ln cn,v1= .slice An ln cn:=by obtain⟨An,cn,e⟩:=Kd.R_slice ho;exact⟨An,_,cn,e⟩
      rw [ETX.out,take_next (mTexts.map mTok) (mTok ⟨#[]⟩) i (by have:=Q4.out;have:=HLT.out;show i<4;omega)] at ho
      have H3:=aM (H2.out.below4 hb)
      have HK3:=aM (Kept.of_grown hg HK2.out (fun k hk=> .inl (.inr (HT.out.1 k hk))))
      have HT3:=aM ho
      have f3:=aH H3.out.s 1
      clear ho hb hg hat
      refine hK.out _ _ ((aG H3.out.s 1).trans rfl) (fun hHeld=>?_)
      clear hK K
      refine norm_ (a':=?_) ?_ ?_
      rotate_left
      ·show Act.put _ (some 48) _=_
       simp only [pq]
       rfl
      refine pure_ (i:=10) (N:=some 49) (v:=?_) (a':=?_) #[T,T,T,T,T,T,T,T,T,T,T,F] rfl rfl (by kernel_rfl) (fun _ _ _ h=>h) (Or.inl ⟨by rfl,?_⟩) ?_ ?_
      rotate_left;(intro w';go_simp;with_reducible rfl);rotate_left;(simp only [pq];rfl)
      refine last_ (i:=11) (N:=none) #[T,T,T,T,T,T,T,T,T,T,T,T] rfl rfl (by kernel_rfl) (by decide) (fun K hK=>?_)
      refine skip_ (w1:=?_) (by rfl) rfl ?_ ?_
      rotate_left
      ·go_simp
       rfl
      refine hK.out _ _ ?_
      clear hK K
      refine done_ (by kernel_rfl) ?_
      go_wp2
      go_roundg (q - (i+1))
      case measure=>have:=HM.out;have:=HLT.out;omega
      case rel=>exact⟨i+1,_,rfl,by have:=HLT.out;omega,Nat.le_refl _,⟨H3.out.put1 _⟩,⟨Kept.setCell HK3.out (.inl (.inl (by simp))) _⟩,⟨Kd.R_kept HT3.out (Kept.setCell (Kept.refl _ (fun k=>k=w.heap.size+2)) (.inl rfl) _) (fun k hk=>by have:=HB3.out;omega)⟩⟩
     ·obtain rfl:i=q:=by omega
      clear hlt
      go_wp2
      go_meet
      case rel=>exact⟨vt,HI,HK,HT⟩
   case rest=>
    obtain⟨vt,HI4,HK4,HT4⟩:=hcut
    obtain⟨w4,ew4⟩:∃w4:World,w4=wc:=⟨_,rfl⟩
    subst ew4
    clear HI3
    have HN4:=aM (Kd.R_kept HN3b.out HK4.out (fun k hk h=>by omega))
    clear HN3b
    go_upto_region 13 with fail
    have P3:=aM (HI4.out.calls HR0.out 10 (by decide) (by decide) HU.out)
    have hw3:IntKind.i64.wrap (1+mPick l0 2 10)=1+mPick l0 2 10:=by have:=EC.out;have:=C10.out;rw [IntKind.wrap_i64];omega
    go_cut [10] from 14 (fun s10 wc=>s10= .int .i64 (c:Int)∧Aside0 (MadeI w A0 l0.length c0 3 vn vt (.slice none 0 0) wc)∧Aside0 (Kept w4 wc (fun k=>k<w.heap.size+4∨w4.heap.size≤k)))
    case first=>
     go_wp2_with (first
      |(go_at_fn 29;(with_reducible refine P3.out.mono ?_);rintro e w5 ⟨rfl,HI5,HK5⟩;clear P3))
     go_meet
     case rel=>exact⟨congrArg _ EC.out,HI5,⟨Kept.mono HK5.out (fun k hk=> .inl (by omega))⟩⟩
    case rest=>
     obtain⟨rfl,HI5,HK5⟩:=hcut
     obtain⟨w5,ew5⟩:∃w5:World,w5=wc:=⟨_,rfl⟩
     subst ew5
     clear P3 hw3 HI4
     have HS4:Aside0 (w.heap.size+4≤w4.heap.size):=⟨by have:=HK4.out.1;have:=HB3.out;omega⟩
     go_wp2
     go_loopg [10,11,12] c (fun kq v10 v11 v12 wr=>∃(i at_:Nat) (vp:Value) (acc:List S35),v10= .int .i64 (i:Int)∧i≤kq∧Aside0 (acc.length+i=c)∧Aside0 (at_+8 * i≤3+8 * c)∧Aside0 (mProds l0 m q i at_ acc=mProds l0 m q c 3 [])∧Aside0 (MadeI w A0 l0.length c0 at_ vn vt vp wr)∧Aside0 (Kept w4 wr (fun k=>k<w.heap.size+4∨w4.heap.size≤k))∧Aside0 (Kd.S k35 35 wr (w.heap.size+4) (fun k=>w4.heap.size≤k) vp acc))
     case atStart=>exact⟨c,3,.slice none 0 0,[],rfl,by omega,⟨by simp⟩,⟨by omega⟩,⟨rfl⟩,HI5,HK5,⟨Kd.S_nil _ _ _ _ _⟩⟩
     case round=>
      clear HI5 HK5
      obtain⟨i,at_,vp,acc,rfl,hi,HL,HAT,HM,HI,HK,HP⟩:=hrel
      cases i with
      |zero=>
       obtain⟨An,ln,kn,rfl⟩:∃An ln kn,vn= .slice An ln kn:=by obtain⟨An,cn,e⟩:=Kd.R_slice HN4.out;exact⟨An,_,cn,e⟩
       obtain⟨At,lt,kt,rfl⟩:∃At lt kt,vt= .slice At lt kt:=by obtain⟨An,cn,e⟩:=Kd.R_slice HT4.out;exact⟨An,_,cn,e⟩
       obtain⟨Ap,lp,kp,rfl⟩:∃Ap lp kp,vp= .slice Ap lp kp:=by obtain⟨An,cn,e⟩:=Kd.S_slice HP.out;exact⟨An,_,cn,e⟩
       obtain⟨q0,q1,q2,q3,q4⟩:wr.cell? ⟨w.heap.size+2,0,none⟩=some (.slice An ln kn)∧wr.cell? ⟨w.heap.size+2,1,none⟩=some (.slice At lt kt)∧wr.cell? ⟨w.heap.size+2,2,none⟩=some (.int .i64 0)∧wr.cell? ⟨w.heap.size+2,3,none⟩=some (.int .i64 0)∧wr.cell? ⟨w.heap.size+2,4,none⟩=some (.slice Ap lp kp):=⟨(aG HI.out.s 0).trans rfl,(aG HI.out.s 1).trans rfl,(aG HI.out.s 2).trans rfl,(aG HI.out.s 3).trans rfl,(aG HI.out.s 4).trans rfl⟩
       obtain⟨q5,q6,q7,q8,q9⟩:wr.cell? ⟨w.heap.size+1,0,none⟩=some (.slice none 0 0)∧wr.cell? ⟨w.heap.size+1,1,none⟩=some (.slice none 0 0)∧wr.cell? ⟨w.heap.size+1,2,none⟩=some (.int .i64 0)∧wr.cell? ⟨w.heap.size+1,3,none⟩=some (.int .i64 0)∧wr.cell? ⟨w.heap.size+1,4,none⟩=some (.slice none 0 0):=⟨(aG HI.out.r 0).trans rfl,(aG HI.out.r 1).trans rfl,(aG HI.out.r 2).trans rfl,(aG HI.out.r 3).trans rfl,(aG HI.out.r 4).trans rfl⟩
       have f5:=aH HI.out.r 0
       have f6:=aH HI.out.r 1
       have f7:=aH HI.out.r 2
       have f8:=aH HI.out.r 3
       have f9:=aH HI.out.r 4
       go_wp2
       refine bodyPost_ret (results_cell_row rfl _ _ (w.heap.size+1) 26 #[.slice An ln kn,.slice At lt kt,.int .i64 0,.int .i64 0,.slice Ap lp kp] (0,0) _ rfl (by refine blk_put (cs:=#[.slice An ln kn,.slice At lt kt,.int .i64 0,.int .i64 0,.slice none 0 0]) ?_ 4 _ rfl;refine blk_put (cs:=#[.slice An ln kn,.slice At lt kt,.int .i64 0,.int .i64 0,.slice none 0 0]) ?_ 3 _ rfl;refine blk_put (cs:=#[.slice An ln kn,.slice At lt kt,.int .i64 0,.int .i64 0,.slice none 0 0]) ?_ 2 _ rfl;refine blk_put (cs:=#[.slice An ln kn,.slice none 0 0,.int .i64 0,.int .i64 0,.slice none 0 0]) ?_ 1 _ rfl;refine blk_put (cs:=#[.slice none 0 0,.slice none 0 0,.int .i64 0,.int .i64 0,.slice none 0 0]) ?_ 0 _ rfl;exact HI.out.r) Try.underlying26 rfl (by kernel_rfl)) rfl ?_
       have hS34:w3.heap.size≤w4.heap.size:=HK4.out.1
       refine⟨_,_,_,rfl,?_,?_,?_,?_⟩
       ·exact bL (Kd.R_mono (Kd.R_kept (Kd.R_kept HN4.out HK.out (fun k hk h=>by have:=HS4.out;omega)) (set5_kept wr _ _ _ _ _ _) (fun k hk h=>by omega)) (fun _ _=>trivial)) (by omega)
       ·exact bL (Kd.R_mono (Kd.R_kept (Kd.R_kept (Kd.R_mono (ok':=fun k=>w3.heap.size≤k∧k<w4.heap.size) (Kd.R_bound HT4.out) (fun k hk=>⟨hk.1,hk.2.2.1⟩)) HK.out (fun k hk h=>by have:=HB3.out;omega)) (set5_kept wr _ _ _ _ _ _) (fun k hk h=>by have:=HB3.out;omega)) (fun _ _=>trivial)) (by omega)
       ·have hp:=HM.out
        rw [mProds] at hp
        rw [←hp]
        exact Kd.S_lower (Kd.S_mono (Kd.S_kept HP.out (set5_kept wr _ _ _ _ _ _) (fun k hk h=>by have:=HS4.out;omega)) (fun _ _=>trivial)) (by omega)
       ·exact set5_below HI.out.bel (by omega) _ _ _ _ _
      |succ i=>
       have d0:decide (((i+1:Nat):Int)>0)=true:=decide_eq_true (by omega)
       have d0b:(0<((i:Int)+1))=True:=eq_true (by omega)
       have P6:=aM (HI.out.calls HR0.out (m:Int) (by have:=M1.out;omega) (by have:=HAT.out;have:=C10.out;omega) HU.out)
       have hpn:=mPick_lt HU.out (at_+1) (n:=4) (by decide)
       obtain⟨cn,ecn,hcn⟩:∃cn:Nat,mPick l0 (at_+1) 4=(cn:Int)∧cn≤3:=⟨(mPick l0 (at_+1) 4).toNat,by omega,by omega⟩
       have HATB:Aside0 (at_+8 * (i+1)≤83):=⟨by have:=HAT.out;have:=C10.out;omega⟩
       have HCN:=aM hcn
       have ECN:=aM ecn
       clear hpn hcn ecn
       go_wp2_with (first
        |(go_at_fn 29;(with_reducible refine P6.out.mono ?_);rintro e w6 ⟨rfl,HI6,HK6⟩;clear P6;have HI7:=aM (HI6.out.below (aN (Below.refl _ w6) (.cells #[.int .i64 (mPick l0 at_ (m:Int)),.slice none 0 0] 35)));have P7:=aM (HI7.out.calls HR0.out 4 (by decide) (by have:=HATB.out;omega) HU.out);rw [ECN.out] at P7)
        |(go_at_fn 29;(with_reducible refine P7.out.mono ?_);rintro e w7 ⟨rfl,HI8,HK8⟩;clear P7))
       have HB8:=aM (blk_kept (heap_alloc_new w6 (.cells #[.int .i64 (mPick l0 at_ (m:Int)),.slice none 0 0] 35)) HK8.out (fun h=>by have:=HI6.out.size;omega))
       have HSZ6:Aside0 (wr.heap.size≤w6.heap.size∧w.heap.size+4≤wr.heap.size∧w4.heap.size≤wr.heap.size):=⟨HK6.out.1,HI.out.size,HK.out.1⟩
       have HK9:Aside0 (Kept wr w7 (fun k=>k<w.heap.size+4∨wr.heap.size≤k)):=⟨Kept.then_ (Kept.alloc (Kept.mono HK6.out (fun k hk=> .inl (by omega))) (.cells #[.int .i64 (mPick l0 at_ (m:Int)),.slice none 0 0] 35)) HK8.out (fun k hk=> .inl (.inl (by omega)))⟩
       clear HI7 HI6 HK6 HK8
       have HQI:=aM hi
       have hwi:IntKind.i64.wrap (((i+1:Nat):Int) - 1)=(i:Int):=by rw [IntKind.wrap_i64];have:=HL.out;have:=C10.out;omega
       clear hi
       obtain⟨wo,ewo⟩:∃wo:World,wo=wr:=⟨_,rfl⟩
       subst ewo
       go_loopg [12] cn (fun kq v12 wr=>∃(j a2:Nat) (vr:Value) (ar:List S43),v12= .int .i64 (j:Int)∧j≤kq∧Aside0 (ar.length+j=cn)∧Aside0 (a2+2 * j≤at_+2+2 * cn)∧Aside0 (mRight l0 m q j a2 ar=mRight l0 m q cn (at_+2) [])∧Aside0 (MadeI w A0 l0.length c0 a2 vn vt vp wr)∧Aside0 (wr.heap[w6.heap.size]?=some (.cells #[.int .i64 (mPick l0 at_ (m:Int)),vr] 35 (0,0)))∧Aside0 (Kept wo wr (fun k=>k<w.heap.size+4∨wo.heap.size≤k))∧Aside0 (Kd.R k43 43 wr (w.heap.size+4) (fun k=>w6.heap.size<k) vr ar))
       case atStart=>exact⟨cn,at_+2,.slice none 0 0,[],rfl,by omega,⟨by simp⟩,⟨by omega⟩,⟨rfl⟩,HI8,HB8,HK9,⟨Kd.R_nil _ _ _ _ _⟩⟩
       case round=>
        clear HI8 HB8 HK9
        obtain⟨j,a2,vr,ar,rfl,hj,HJL,HA2,HMR,HI8,HB8,HK9,HR8⟩:=hrel
        cases j with
        |zero=>
         have b0:wr.cell? ⟨w6.heap.size,0,none⟩=some (.int .i64 (mPick l0 at_ (m:Int))):=(aG HB8.out 0).trans rfl
         have b1:wr.cell? ⟨w6.heap.size,1,none⟩=some vr:=(aG HB8.out 1).trans rfl
         have q4:wr.cell? ⟨w.heap.size+2,4,none⟩=some vp:=(aG HI8.out.s 4).trans rfl
         have HPB:=aM (Kd.S_kept (Kd.S_mono (ok':=fun k=>w4.heap.size≤k∧k<wo.heap.size) (Kd.S_bound HP.out) (fun k hk=>⟨hk.1,hk.2.2.1⟩)) HK9.out (fun k hk h=>by have:=HS4.out;omega))
         have HKw:=aM (Kept.then_ HK.out HK9.out (fun k hk=>hk.elim (fun h=> .inl (.inl h)) (fun h=> .inl (.inr (by have:=HSZ6.out;omega)))))
         have HSi:=aM HI8.out.size
         have HSw:Aside0 (w4.heap.size≤wr.heap.size):=⟨HKw.out.1⟩
         have HACC:Aside0 (acc.length≤10):=⟨by have:=HL.out;have:=C10.out;omega⟩
         go_wp2_with (first
          |((with_reducible refine gate_builtin (b:= .append) (xs:=#[.tmp 89,.tmp 91]) rfl ?_);at_builtin;refine Kd.S_append k35 (w0:=wr) (w.heap.size+4) rfl (.tmp 89) (.tmp 91) 24 35 (.agg #[.int .i64 0,.slice none 0 0]) 32 rfl Try.underlying24 miProd rfl (by decide) (by omega) vp acc (⟨mPick l0 at_ (m:Int),ar⟩:S35) [.int .i64 (mPick l0 at_ (m:Int)),vr] (fun k=>w4.heap.size≤k) (fun k=>w6.heap.size<k) rfl rfl (k35_mkM _ _ _ (⟨mPick l0 at_ (m:Int),ar⟩:S35) HR8.out) (fun k hk=>⟨by have:=HSZ6.out;omega,fun e=>by have:=(Kd.S_R HPB.out).1 k e.symm;have:=HSZ6.out;omega⟩) (fun k hk=>Nat.le_trans HSw.out hk) (Kd.S_mono HPB.out (fun k hk=>⟨hk.1,by have:=HSZ6.out;omega⟩)) (Below.refl _ _) HSi.out (by have:=HACC.out;omega) ?_;intro v1 w10 ho hb hg hat;obtain⟨Ap,lp,kp,rfl⟩:∃An ln cn,v1= .slice An ln cn:=(by obtain⟨An,cn,e⟩:=Kd.S_slice ho;exact⟨An,_,cn,e⟩);have HI12:=aM (HI8.out.below4 hb);have HK12:=aM (Kept.of_grown hg HKw.out (fun k hk=> .inl (.inr ((Kd.S_R HPB.out).1 k hk).1)));have HS12:=aM ho;have f4:=aH HI12.out.s 4;have q4':w10.cell? ⟨w.heap.size+2,4,none⟩=some vp:=(aG HI12.out.s 4).trans rfl;clear ho hb hg hat q4 b0 b1))
         go_roundg i
         case measure=>have:=HQI.out;omega
         case rel=>exact⟨i,a2,_,acc++ [⟨mPick l0 at_ (m:Int),ar⟩],congrArg (Value.int .i64) (by unfold wrap64;have:=HACC.out;have:=HL.out;have:=C10.out;omega),Nat.le_refl _,⟨by have:=HL.out;simp;omega⟩,⟨by have:=HAT.out;have:=HA2.out;have:=HCN.out;omega⟩,⟨by have h:=HM.out;rw [mProds,ECN.out,Int.toNat_natCast,←HMR.out,mRight] at h;exact h⟩,⟨HI12.out.put4 _⟩,⟨Kept.setCell HK12.out (.inl (.inl (by simp))) _⟩,⟨Kd.S_kept HS12.out (Kept.setCell (Kept.refl _ (fun k=>k=w.heap.size+2)) (.inl rfl) _) (fun k hk h=>by have:=HS4.out;omega)⟩⟩
        |succ j=>
         have d2:(0<((j:Int)+1))=True:=eq_true (by omega)
         have P8:=aM (HI8.out.calls HR0.out 2 (by decide) (by have:=HATB.out;have:=HA2.out;have:=HCN.out;omega) HU.out)
         have HJ:=aM hj
         clear hj
         by_cases hz:mPick l0 a2 2=0
         ·rw [hz] at P8
          go_wp2_with (first
           |(go_at_fn 29;(with_reducible refine P8.out.mono ?_);rintro e w8 ⟨rfl,HI10,HK10⟩;clear P8))
          have HZ:=aM hz
          clear hz
          have HI10d:=aM (HI10.out.below (aO (Below.refl _ w8)))
          have P9:=aM (HI10d.out.calls HR0.out (q:Int) (by have:=Q1.out;omega) (by have:=HATB.out;have:=HA2.out;have:=HCN.out;omega) HU.out)
          obtain⟨x,ex⟩:∃x:Int,x=mPick l0 (a2+1) (q:Int):=⟨_,rfl⟩
          rw [←ex] at P9
          have EX:=aM ex
          have HB10:=aM (blk_kept HB8.out HK10.out (fun h=>by have:=HSZ6.out;omega))
          have HR10:=aM (Kd.R_kept HR8.out HK10.out (fun k hk h=>by have:=HSZ6.out;omega))
          have HK12:=aM (Kept.then_ HK9.out HK10.out (fun k hk=> .inl (.inl (by omega))))
          have HARL:Aside0 (ar.length≤3):=⟨by have:=HJL.out;have:=HCN.out;omega⟩
          clear ex
          refine start_ (n:=10) (S:=fun w'=>w'.cell? ⟨w6.heap.size,1,none⟩=some vr) (ds:= [9]) #[F,F,F,F,F,F,F,F,F,F] (by kernel_rfl) rfl rfl ((aG HB10.out 1).trans rfl) (fun hHeld=>?_)
          refine pure_ (i:=0) (N:=some 70) (v:=?_) (a':=?_) #[T,F,F,F,F,F,F,F,F,F] rfl rfl (by kernel_rfl) (fun _ _ _ h=>h) (Or.inl ⟨by rfl,?_⟩) ?_ ?_
          rotate_left;(intro w';go_simp;with_reducible rfl);rotate_left;(simp only [pq];rfl)
          refine pure_ (i:=2) (N:=some 72) (v:=?_) (a':=?_) #[T,F,T,F,F,F,F,F,F,F] rfl rfl (by kernel_rfl) (fun _ _ _ h=>h) (Or.inl ⟨by rfl,?_⟩) ?_ ?_
          rotate_left;(intro w';go_simp;with_reducible rfl);rotate_left;(simp only [pq];rfl)
          refine pure_ (i:=3) (N:=some 73) (v:=?_) (a':=?_) #[T,F,T,T,F,F,F,F,F,F] rfl rfl (by kernel_rfl) (fun _ _ _ h=>h) (Or.inl ⟨by rfl,?_⟩) ?_ ?_
          rotate_left;(intro w';go_simp;with_reducible rfl);rotate_left;(simp only [pq];rfl)
          refine take_ (i:=1) (N:=some 71) (v:=?_) (a':=?_) #[T,T,T,T,F,F,F,F,F,F] rfl rfl (by kernel_rfl) (fun _ _ _ h=>h) (Or.inl ⟨by rfl,?_⟩) hHeld ?_ ?_
          rotate_left
          ·intro w' s0
           go_simp
           with_reducible rfl
          rotate_left
          ·simp only [pq]
           rfl
          refine one_ (i:=4) (N:=some 74) #[T,T,T,T,T,F,F,F,F,F] rfl rfl (by kernel_rfl) (by decide) (fun K hK=>?_)
          refine call_ 29 #[.int .i64 (q:Int),.pointer (some ⟨w.heap.size+3,0,none⟩),.pointer (some ⟨w.heap.size,0,none⟩)] (by rfl) rfl (by unfold execOp;simp [resolve,Deferred.ofValue,invoke,Act.eval,eg]) ?_
          with_reducible refine P9.out.mono ?_
          rintro e w9 ⟨rfl,HI11,HK11⟩
          refine⟨_,rfl,?_⟩
          have HB11:=aM (blk_kept (W:=w8.drew) HB10.out HK11.out (fun h=>by have:=HSZ6.out;omega))
          have HR11:=aM (Kd.R_kept (aC HR10.out) HK11.out (fun k hk h=>by have:=HSZ6.out;omega))
          have HK13:=aM (Kept.then_ (Kept.drew HK12.out) HK11.out (fun k hk=> .inl (.inl (by omega))))
          have HS11:=aM HI11.out.size
          have HL11:Aside0 (w6.heap.size<w9.heap.size):=⟨bN HB11.out⟩
          refine hK.out _ _ ((aG HB11.out 1).trans rfl) (fun hHeld=>?_)
          clear hK K
          refine norm_ (a':=?_) ?_ ?_
          rotate_left
          ·show Act.put _ (some 74) _=_
           simp only [pq]
           rfl
          refine pure_ (i:=5) (N:=some 75) (v:=?_) (a':=?_) #[T,T,T,T,T,T,F,F,F,F] rfl rfl (by kernel_rfl) (fun _ _ _ h=>h) (Or.inl ⟨by rfl,?_⟩) ?_ ?_
          rotate_left;(intro w';go_simp;with_reducible rfl);rotate_left;(simp only [pq];rfl)
          refine one_ (i:=6) (N:=some 76) #[T,T,T,T,T,T,T,F,F,F] rfl rfl (by kernel_rfl) (by decide) (fun K hK=>?_)
          refine value_ (w1:=?_) (v:=?_) (by rfl) rfl ?_ ?_
          rotate_left 2
          ·go_simp
           constructor
           ·rfl
           ·rfl
          refine hK.out _ _ ((aG (aI HB11.out _) 1).trans rfl) (fun hHeld=>?_)
          clear hK K
          refine norm_ (a':=?_) ?_ ?_
          rotate_left
          ·show Act.put _ (some 76) _=_
           simp only [pq]
           rfl
          refine one_ (i:=7) (N:=some 77) #[T,T,T,T,T,T,T,T,F,F] rfl rfl (by kernel_rfl) (by decide) (fun K hK=>?_)
          refine Kd.R_append_step k43 (w0:=w9) (w.heap.size+4) (by rfl) (.tmp 71) (.tmp 76) 29 43 (.agg #[.bool false,.int .i64 0]) 16 rfl Try.underlying29 miSym rfl (by decide) (by omega) vr ar (⟨true,x⟩:S43) [.bool true,.int .i64 x] (fun k=>w6.heap.size<k) (fun _=>False) rfl rfl (k43_mkM _ _ _ (⟨true,x⟩:S43)) (fun _ hk=>hk.elim) (fun k hk=>Nat.lt_of_lt_of_le HL11.out hk) HR11.out (Below.refl _ _) HS11.out (by have:=HARL.out;omega) ?_
          intro v1 w1 ho hb hg hat
          obtain⟨An,ln,kn,rfl⟩:∃An ln cn,v1= .slice An ln cn:=by obtain⟨An,cn,e⟩:=Kd.R_slice ho;exact⟨An,_,cn,e⟩
          have HI12:=aM (HI11.out.below4 hb)
          have HB12:=aM (blk_grown HB11.out hg (fun e=>Nat.lt_irrefl _ (HR11.out.1 _ e.symm)))
          have HK14:=aM (Kept.of_grown hg HK13.out (fun k hk=> .inl (.inr (by have:=HR11.out.1 k hk;have:=HSZ6.out;omega))))
          have HR12:=aM ho
          have f3:=aH HB12.out 1
          clear ho hb hg hat
          refine hK.out _ _ ((aG HB12.out 1).trans rfl) (fun hHeld=>?_)
          clear hK K
          refine norm_ (a':=?_) ?_ ?_
          rotate_left
          ·show Act.put _ (some 77) _=_
           simp only [pq]
           rfl
          refine pure_ (i:=8) (N:=some 78) (v:=?_) (a':=?_) #[T,T,T,T,T,T,T,T,T,F] rfl rfl (by kernel_rfl) (fun _ _ _ h=>h) (Or.inl ⟨by rfl,?_⟩) ?_ ?_
          rotate_left;(intro w';go_simp;with_reducible rfl);rotate_left;(simp only [pq];rfl)
          refine last_ (i:=9) (N:=none) #[T,T,T,T,T,T,T,T,T,T] rfl rfl (by kernel_rfl) (by decide) (fun K hK=>?_)
          refine skip_ (w1:=?_) (by rfl) rfl ?_ ?_
          rotate_left
          ·go_simp
           rfl
          refine hK.out _ _ ?_
          clear hK K
          refine done_ (by kernel_rfl) ?_
          go_wp2
          go_roundg j
          case measure=>have:=HJ.out;omega
          case rel=>exact⟨j,a2+2,_,ar++ [⟨true,x⟩],congrArg (Value.int .i64) (by unfold wrap64;have:=HJL.out;have:=HCN.out;omega),Nat.le_refl _,⟨by have:=HJL.out;simp;omega⟩,⟨by have:=HA2.out;omega⟩,⟨by have h:=HMR.out;rw [mRight,if_pos HZ.out,←EX.out] at h;exact h⟩,⟨HI12.out.below4 ((Below.refl _ _).setCell (show w.heap.size+4≤w6.heap.size by have:=HSZ6.out;omega) _)⟩,⟨blk_put HB12.out 1 _ rfl⟩,⟨Kept.setCell HK14.out (.inl (.inr (show wo.heap.size≤w6.heap.size from HSZ6.out.1))) _⟩,⟨Kd.R_kept HR12.out (Kept.setCell (Kept.refl _ (fun k=>k=w6.heap.size)) (.inl rfl) _) (fun k hk h=>by omega)⟩⟩
         ·have hzd:(mPick l0 a2 2=0)=False:=eq_false hz
          go_wp2_with (first
           |(go_at_fn 29;(with_reducible refine P8.out.mono ?_);rintro e w8 ⟨rfl,HI10,HK10⟩;clear P8))
          have HZ:=aM hz
          clear hz
          have HI10d:=aM (HI10.out.below (aO (Below.refl _ w8)))
          have P9:=aM (HI10d.out.calls HR0.out (m:Int) (by have:=M1.out;omega) (by have:=HATB.out;have:=HA2.out;have:=HCN.out;omega) HU.out)
          obtain⟨x,ex⟩:∃x:Int,x=mPick l0 (a2+1) (m:Int):=⟨_,rfl⟩
          rw [←ex] at P9
          have EX:=aM ex
          have HB10:=aM (blk_kept HB8.out HK10.out (fun h=>by have:=HSZ6.out;omega))
          have HR10:=aM (Kd.R_kept HR8.out HK10.out (fun k hk h=>by have:=HSZ6.out;omega))
          have HK12:=aM (Kept.then_ HK9.out HK10.out (fun k hk=> .inl (.inl (by omega))))
          have HARL:Aside0 (ar.length≤3):=⟨by have:=HJL.out;have:=HCN.out;omega⟩
          clear ex
          refine start_ (n:=10) (S:=fun w'=>w'.cell? ⟨w6.heap.size,1,none⟩=some vr) (ds:= [9]) #[F,F,F,F,F,F,F,F,F,F] (by kernel_rfl) rfl rfl ((aG HB10.out 1).trans rfl) (fun hHeld=>?_)
          refine pure_ (i:=0) (N:=some 79) (v:=?_) (a':=?_) #[T,F,F,F,F,F,F,F,F,F] rfl rfl (by kernel_rfl) (fun _ _ _ h=>h) (Or.inl ⟨by rfl,?_⟩) ?_ ?_
          rotate_left;(intro w';go_simp;with_reducible rfl);rotate_left;(simp only [pq];rfl)
          refine pure_ (i:=2) (N:=some 81) (v:=?_) (a':=?_) #[T,F,T,F,F,F,F,F,F,F] rfl rfl (by kernel_rfl) (fun _ _ _ h=>h) (Or.inl ⟨by rfl,?_⟩) ?_ ?_
          rotate_left;(intro w';go_simp;with_reducible rfl);rotate_left;(simp only [pq];rfl)
          refine pure_ (i:=3) (N:=some 82) (v:=?_) (a':=?_) #[T,F,T,T,F,F,F,F,F,F] rfl rfl (by kernel_rfl) (fun _ _ _ h=>h) (Or.inl ⟨by rfl,?_⟩) ?_ ?_
          rotate_left;(intro w';go_simp;with_reducible rfl);rotate_left;(simp only [pq];rfl)
          refine take_ (i:=1) (N:=some 80) (v:=?_) (a':=?_) #[T,T,T,T,F,F,F,F,F,F] rfl rfl (by kernel_rfl) (fun _ _ _ h=>h) (Or.inl ⟨by rfl,?_⟩) hHeld ?_ ?_
          rotate_left
          ·intro w' s0
           go_simp
           with_reducible rfl
          rotate_left
          ·simp only [pq]
           rfl
          refine one_ (i:=4) (N:=some 83) #[T,T,T,T,T,F,F,F,F,F] rfl rfl (by kernel_rfl) (by decide) (fun K hK=>?_)
          refine call_ 29 #[.int .i64 (m:Int),.pointer (some ⟨w.heap.size+3,0,none⟩),.pointer (some ⟨w.heap.size,0,none⟩)] (by rfl) rfl (by unfold execOp;simp [resolve,Deferred.ofValue,invoke,Act.eval,eg]) ?_
          with_reducible refine P9.out.mono ?_
          rintro e w9 ⟨rfl,HI11,HK11⟩
          refine⟨_,rfl,?_⟩
          have HB11:=aM (blk_kept (W:=w8.drew) HB10.out HK11.out (fun h=>by have:=HSZ6.out;omega))
          have HR11:=aM (Kd.R_kept (aC HR10.out) HK11.out (fun k hk h=>by have:=HSZ6.out;omega))
          have HK13:=aM (Kept.then_ (Kept.drew HK12.out) HK11.out (fun k hk=> .inl (.inl (by omega))))
          have HS11:=aM HI11.out.size
          have HL11:Aside0 (w6.heap.size<w9.heap.size):=⟨bN HB11.out⟩
          refine hK.out _ _ ((aG HB11.out 1).trans rfl) (fun hHeld=>?_)
          clear hK K
          refine norm_ (a':=?_) ?_ ?_
          rotate_left
          ·show Act.put _ (some 83) _=_
           simp only [pq]
           rfl
          refine pure_ (i:=5) (N:=some 84) (v:=?_) (a':=?_) #[T,T,T,T,T,T,F,F,F,F] rfl rfl (by kernel_rfl) (fun _ _ _ h=>h) (Or.inl ⟨by rfl,?_⟩) ?_ ?_
          rotate_left;(intro w';go_simp;with_reducible rfl);rotate_left;(simp only [pq];rfl)
          refine one_ (i:=6) (N:=some 85) #[T,T,T,T,T,T,T,F,F,F] rfl rfl (by kernel_rfl) (by decide) (fun K hK=>?_)
          refine value_ (w1:=?_) (v:=?_) (by rfl) rfl ?_ ?_
          rotate_left 2
          ·go_simp
           constructor
           ·rfl
           ·rfl
          refine hK.out _ _ ((aG (aI HB11.out _) 1).trans rfl) (fun hHeld=>?_)
          clear hK K
          refine norm_ (a':=?_) ?_ ?_
          rotate_left
          ·show Act.put _ (some 85) _=_
           simp only [pq]
           rfl
          refine one_ (i:=7) (N:=some 86) #[T,T,T,T,T,T,T,T,F,F] rfl rfl (by kernel_rfl) (by decide) (fun K hK=>?_)
          refine Kd.R_append_step k43 (w0:=w9) (w.heap.size+4) (by rfl) (.tmp 80) (.tmp 85) 29 43 (.agg #[.bool false,.int .i64 0]) 16 rfl Try.underlying29 miSym rfl (by decide) (by omega) vr ar (⟨false,x⟩:S43) [.bool false,.int .i64 x] (fun k=>w6.heap.size<k) (fun _=>False) rfl rfl (k43_mkM _ _ _ (⟨false,x⟩:S43)) (fun _ hk=>hk.elim) (fun k hk=>Nat.lt_of_lt_of_le HL11.out hk) HR11.out (Below.refl _ _) HS11.out (by have:=HARL.out;omega) ?_
          intro v1 w1 ho hb hg hat
          obtain⟨An,ln,kn,rfl⟩:∃An ln cn,v1= .slice An ln cn:=by obtain⟨An,cn,e⟩:=Kd.R_slice ho;exact⟨An,_,cn,e⟩
          have HI12:=aM (HI11.out.below4 hb)
          have HB12:=aM (blk_grown HB11.out hg (fun e=>Nat.lt_irrefl _ (HR11.out.1 _ e.symm)))
          have HK14:=aM (Kept.of_grown hg HK13.out (fun k hk=> .inl (.inr (by have:=HR11.out.1 k hk;have:=HSZ6.out;omega))))
          have HR12:=aM ho
          have f3:=aH HB12.out 1
          clear ho hb hg hat
          refine hK.out _ _ ((aG HB12.out 1).trans rfl) (fun hHeld=>?_)
          clear hK K
          refine norm_ (a':=?_) ?_ ?_
          rotate_left
          ·show Act.put _ (some 86) _=_
           simp only [pq]
           rfl
          refine pure_ (i:=8) (N:=some 87) (v:=?_) (a':=?_) #[T,T,T,T,T,T,T,T,T,F] rfl rfl (by kernel_rfl) (fun _ _ _ h=>h) (Or.inl ⟨by rfl,?_⟩) ?_ ?_
          rotate_left;(intro w';go_simp;with_reducible rfl);rotate_left;(simp only [pq];rfl)
          refine last_ (i:=9) (N:=none) #[T,T,T,T,T,T,T,T,T,T] rfl rfl (by kernel_rfl) (by decide) (fun K hK=>?_)
          refine skip_ (w1:=?_) (by rfl) rfl ?_ ?_
          rotate_left
          ·go_simp
           rfl
          refine hK.out _ _ ?_
          clear hK K
          refine done_ (by kernel_rfl) ?_
          go_wp2
          go_roundg j
          case measure=>have:=HJ.out;omega
          case rel=>exact⟨j,a2+2,_,ar++ [⟨false,x⟩],congrArg (Value.int .i64) (by unfold wrap64;have:=HJL.out;have:=HCN.out;omega),Nat.le_refl _,⟨by have:=HJL.out;simp;omega⟩,⟨by have:=HA2.out;omega⟩,⟨by have h:=HMR.out;rw [mRight,if_neg HZ.out,←EX.out] at h;exact h⟩,⟨HI12.out.below4 ((Below.refl _ _).setCell (show w.heap.size+4≤w6.heap.size by have:=HSZ6.out;omega) _)⟩,⟨blk_put HB12.out 1 _ rfl⟩,⟨Kept.setCell HK14.out (.inl (.inr (show wo.heap.size≤w6.heap.size from HSZ6.out.1))) _⟩,⟨Kd.R_kept HR12.out (Kept.setCell (Kept.refl _ (fun k=>k=w6.heap.size)) (.inl rfl) _) (fun k hk h=>by omega)⟩⟩
end Go.Proofs.Ytapjfnfengefpaa.P
end

section
namespace Go.Proofs.Ytapjfnfengefpaa.P
open Go.RowKit Go.Proofs.YtapjfnfengefpaaW.PrintWords Go.Proofs.YtapjfnfengefpaaW.PrintLast Go.Proofs.YtapjfnfengefpaaW.PrintMore
attribute [local go_sem] max2_int min2_int max_two min_two max_three min_three max_four min_four   -- for this text's walks alone
set_option linter.unusedVariables false
set_option linter.unusedSimpArgs false
mutual
def regletlaw16_MachineMade.j1:Nat→List Int→Int→List (List Int)→List ByteArray→List (S72)→Int→Int→List (S35)→List (S43)→Bool→Option (Bool)
 |0,_,_,_,_,_,_,_,_,_,_=>none
 |k+1,x1,x3,x12,x457000,x457001,x457002,x457003,x457004,x461000,x461001=>(regletlaw16_awake.f k).bind fun t466=>(if t466=true then((regletlaw16_tokens.f k x1 (wrap64 ((x457001.length:Int)+1))).bind fun t467=>((regletlaw16_ran.f k x457000 x457001 x457002 x457003 x457004 x12 t467).bind fun t470=>(if t470=true then(if(wrap64 ((x457001.length:Int)+2))=0 then(none) else((regletlaw16_fed.f k x457000 x457001 x457002 x457003 x457004 x12 x461000 x461001 (wrap64 ((Int.tmod (wrap64 (x3)) (wrap64 ((x457001.length:Int)+2))) - 1))).bind fun t471=>(if t471=true then((machine_Start.f).bind fun kC=>((regletref16_Start.f).bind fun jF=>((regletref16_Same.f k kC.1 kC.2 jF.1 jF.2).bind fun t480=>(some t480)))) else(none)))) else(none)))) else(none))
def regletlaw16_MachineMade.l0:Nat→List Int→Int→List Int→List (List Int)→Int→List ByteArray→List (S72)→Int→Int→List (S35)→List (S43)→Bool→Option (Bool)
 |0,_,_,_,_,_,_,_,_,_,_,_,_=>none
 |k+1,x1,x3,x4,x12,x14,x457000,x457001,x457002,x457003,x457004,x461000,x461001=>if x14<(x4.length:Int) then(if x14<5 then(if 0≤x14 then(if x461000.length<8796093022208 then(regletlaw16_MachineMade.l0 k x1 x3 x4 x12 (wrap64 (x14+1)) x457000 x457001 x457002 x457003 x457004 (x461000++ [(⟨((Int.tmod (rd x4 x14) 2)==0),Int.tmod (wrap64 (Int.tdiv (wrap64 (rd x4 x14)) 2)) 5⟩:S43)]) x461001) else(none)) else(none)) else(regletlaw16_MachineMade.j1 k x1 x3 x12 x457000 x457001 x457002 x457003 x457004 x461000 x461001)) else(regletlaw16_MachineMade.j1 k x1 x3 x12 x457000 x457001 x457002 x457003 x457004 x461000 x461001)
end
def regletlaw16_MachineMade.f (k:Nat) (l0:List Int) (l1:List Int) (a2:Int) (a3:Int) (l4:List Int):Option (Bool):=(regletlaw13_Made.f k l0).bind fun kT=>((regletlaw16_table.f k kT.1 kT.2.1 kT.2.2.1 kT.2.2.2.1 kT.2.2.2.2 a2 a3).bind fun t457=>(regletlaw16_MachineMade.l0 k l1 a3 l4 t457 0 kT.1 kT.2.1 kT.2.2.1 kT.2.2.2.1 kT.2.2.2.2 ([]:List (S43)) (a3==7)))
def regletlaw16_MachineMade.T7:Bool×List (List Nat×List Nat):=(true,[([],[]),([0],[0]),([],[]),([],[]),([2,3],[2,3]),([4],[4]),([5],[5]),([6],[6]),([],[]),([],[]),([8,9],[8,9]),([10],[10]),([11],[11]),([12],[12]),([13],[13]),([7,14],[7,14]),([15],[15]),([1,16],[1,16]),([0,1,2,3,4,5,6,7,8,9,10,11,12,13,14,15,16,17],[]),([18,17,17,0,1,2,3,4,5,6,7,8,9,10,11,12,13,14,15,16,17],[17,18])])
def regletlaw16_MachineMade.B7:List Nat:= [0,1,0,0,12,28,60,124,0,0,768,1792,3840,7936,16128,32764,65532,131071,262143,524287]
theorem regletlaw16_MachineMade.tab7:rtab .any (opsOf Try.f4 7)=regletlaw16_MachineMade.T7:=by kernel_rfl
theorem regletlaw16_MachineMade.bits7:waitsOk regletlaw16_MachineMade.T7.2 regletlaw16_MachineMade.B7=true:=by kernel_rfl
def regletlaw16_MachineMade.T8:Bool×List (List Nat×List Nat):=(true,[([],[]),([0,0],[0]),([1],[1]),([1],[1]),([1],[1]),([1],[1]),([5,1],[1,5]),([6,1],[1,6]),([7,1],[1,7]),([4,8,1,1],[1,4,8]),([2,3,9,9,1],[1,2,3,9]),([1,10],[1,10]),([11,10],[11]),([12],[12]),([12],[12]),([12],[12]),([12],[12]),([16,12],[12,16]),([12],[12]),([18,12],[12,18]),([19,12],[12,19]),([20,12],[12,20]),([17,21,12],[12,17,21]),([22,12],[12,22]),([13,14,15,23,12,12],[12,13,14,15,23]),([12,24],[12,24]),([25,24],[25]),([26,26],[26]),([27,26],[26]),([27,28,28,26],[26,27,28]),([26,29],[26,29]),([30,29,0,1,2,3,4,5,6,7,8,9,10,11,12,13,14,15,16,17,18,19,20,21,22,23,24,25,26,27,28,29,30],[30])])
def regletlaw16_MachineMade.B8:List Nat:= [0,1,3,3,3,3,35,99,227,499,1023,2047,4095,8191,8191,8191,8191,73727,8191,270335,794623,1843199,4136959,8331263,16777215,33554431,67108863,134217727,268435455,536870911,1073741823,2147483647]
theorem regletlaw16_MachineMade.tab8:rtab .any (opsOf Try.f4 8)=regletlaw16_MachineMade.T8:=by kernel_rfl
theorem regletlaw16_MachineMade.bits8:waitsOk regletlaw16_MachineMade.T8.2 regletlaw16_MachineMade.B8=true:=by kernel_rfl
set_option maxHeartbeats 8000000 in
set_option maxRecDepth 100000 in
theorem regletlaw16_MachineMade.calls (k:Nat) (A0:Option Addr) (c0:Nat) (l0:List Int) (A1:Option Addr) (c1:Nat) (l1:List Int) (a2:Int) (a3:Int) (A4:Option Addr) (c4:Nat) (l4:List Int) (r:Bool) (w:World) (hr0:Kd.C (Kd.int .u8) w A0 l0.length l0) (hc0:l0.length≤c0) (hr1:Kd.C (Kd.int .u8) w A1 l1.length l1) (hc1:l1.length≤c1) (hr4:Kd.C (Kd.int .u8) w A4 l4.length l4) (hc4:l4.length≤c4) (h:regletlaw16_MachineMade.f k l0 l1 a2 a3 l4=some r):
 Calls Try.prog 4 #[.slice A0 l0.length c0,.slice A1 l1.length c1,.int .u8 a2,.int .u8 a3,.slice A4 l4.length c4] w fun e w'=>e= .returned (.bool r)∧Below w.heap.size w w':=by
 have hu26:=Try.underlying26
 have hu31:=Try.underlying31
 have hu43:=Try.underlying43
 have HR0:=aM hr0
 have HC0:=aM hc0
 clear hr0 hc0
 have HR1:=aM hr1
 have HC1:=aM hc1
 clear hr1 hc1
 have HR4:=aM hr4
 have HC4:=aM hc4
 clear hr4 hc4
 have HB:=aM (Below.refl w.heap.size w)
 have H:((regletlaw13_Made.f k l0).bind fun kT=>((regletlaw16_table.f k kT.1 kT.2.1 kT.2.2.1 kT.2.2.2.1 kT.2.2.2.2 a2 a3).bind fun t457=>(regletlaw16_MachineMade.l0 k l1 a3 l4 t457 0 kT.1 kT.2.1 kT.2.2.1 kT.2.2.2.1 kT.2.2.2.2 ([]:List (S43)) (a3==7))))=some r:=h
 clear h
 replace H:=Option.bind_eq_some_iff.mp H
 obtain⟨⟨t445,t448,t451,t452,t453⟩,A60,H⟩:=H
 replace H:((regletlaw16_table.f k t445 t448 t451 t452 t453 a2 a3).bind fun t457=>(regletlaw16_MachineMade.l0 k l1 a3 l4 t457 0 t445 t448 t451 t452 t453 ([]:List (S43)) (a3==7)))=some r:=H
 have A6:=aM A60
 clear A60
 replace H:=Option.bind_eq_some_iff.mp H
 obtain⟨t457,A70,H⟩:=H
 replace H:(regletlaw16_MachineMade.l0 k l1 a3 l4 t457 0 t445 t448 t451 t452 t453 ([]:List (S43)) (a3==7))=some r:=H
 have A7:=aM A70
 clear A70
 have HC8:=aM H
 clear H
 go_enter Try.func4,Try.ntmps4
 go_upto_block 0 with(first|((with_reducible refine bI (f:=13) rfl ?_);refine goesL_ (some 16) rfl rfl Try.func13 (by kernel_rfl) rfl #[.slice A0 l0.length c0] rfl (by(try simp only [List.map_toArray,List.map_cons,List.map_nil]);first|done|rfl|(simp only [List.length_drop,List.length_take];rfl)) ?_;(with_reducible refine(regletlaw13_Made.calls k _ _ l0 t445 t448 t451 t452 t453 _ ?side1 ?side2 A6.out).mono ?_);(case side1=>exact gC HR0.out);(case side2=>exact HC0.out);rintro e w9 ⟨v446,v449,v454,rfl,ho0,ho1,ho2,hb⟩;refine⟨_,rfl,?_⟩;have bY:=aM (bL ho0 (bH (gW HB.out)));have bZ:=aM (bL ho1 (bH (gW HB.out)));have cA:=aM (Kd.S_lower ho2 (bH (gW HB.out)));have cC:=aM (bG (gW HB.out) hb);clear HB;have pO:=bY;have pP:=bZ;have pQ:=cA;have HB:=cC;clear bY bZ cA cC;(try clear hb);(try clear hb2);(try clear hk);(try clear hi);(try clear ho0);(try clear ho1);(try clear ho2))|((with_reducible refine bJ (N:=11) rfl ?_);(try(refine gate_guard (by rfl) ?_;dsimp only));refine box_event ?hg (N:=11) ?hd (cs:=#[.slice none 0 0,.slice none 0 0,.int .i64 0,.int .i64 0,.slice none 0 0]) (t:=26) ?hr ?_;(case hd=>rfl);(case hg=>rfl);(case hr=>first|(go_simp;done)|(go_simp;rfl));intro fE hg w10 hbox hb;have bY:=aM (aD (gR pO.out) hb);have bZ:=aM (aD (gR pP.out) hb);have cA:=aM (Kd.S_below (gS pQ.out) hb);have cC:=aM (bG (gW HB.out) hb);have cQ:=aM (hbox);have dA:=aM ((by rw [hg];exact(bH (gW HB.out)):w.heap.size≤fE));have dH:=aM ((by rw [hg];exact(bH (gW HB.out)):w.heap.size≤fE));clear pO;clear pP;clear pQ;clear HB;have pO:=bY;have pP:=bZ;have pQ:=cA;have HB:=cC;have cO:=cQ;have GW456:=dA;have Lg:=dH;clear bY bZ cA cC cQ dA dH;clear hb hbox hg;obtain⟨oS,nM,NZ⟩:=Kd.R_slice pO.out;subst NZ;have kU:w10.cell? ⟨fE,0,none⟩=some (.slice none 0 0):=(aG cO.out 0).trans rfl;have kV:w10.cell? ⟨fE,1,none⟩=some (.slice none 0 0):=(aG cO.out 1).trans rfl;have Em:w10.cell? ⟨fE,2,none⟩=some (.int .i64 0):=(aG cO.out 2).trans rfl;have En:w10.cell? ⟨fE,3,none⟩=some (.int .i64 0):=(aG cO.out 3).trans rfl;have Eo:w10.cell? ⟨fE,4,none⟩=some (.slice none 0 0):=(aG cO.out 4).trans rfl;have kW:=aH cO.out 0;have kX:=aH cO.out 1;have Ep:=aH cO.out 2;have Eq:=aH cO.out 3;have Er:=aH cO.out 4;obtain⟨pR,nL,Qa⟩:=Kd.R_slice pP.out;subst Qa;obtain⟨oU,nK,Lx⟩:=Kd.S_slice pQ.out;subst Lx)|((with_reducible refine bI (f:=14) rfl ?_);refine goesL_ (some 20) rfl rfl Try.func14 (by kernel_rfl) rfl #[.agg #[.slice oS t445.length nM,.slice pR t448.length nL,.int .i64 t451,.int .i64 t452,.slice oU t453.length nK],.int .u8 a2,.int .u8 a3] rfl (by(try simp only [List.map_toArray,List.map_cons,List.map_nil]);first|done|rfl|(simp only [List.length_drop,List.length_take];rfl)) ?_;(with_reducible refine(regletlaw16_table.calls k _ _ t445 _ _ t448 t451 t452 _ _ t453 a2 a3 t457 _ ?side1 ?side2 ?side3 ?side4 ?side5 ?side6 A7.out).mono ?_);(case side1=>refine(aF (e:=9) (base:=w.heap.size) (ok:=fun k_=>True) (n:=t445.length) (c:=nM) ?_).2.2;exact(by(with_reducible repeat(first|apply aA|apply aB|apply aC));exact(Kd.R_mono (aE (p:=⟨fE,4,none⟩) (aE (p:=⟨fE,3,none⟩) (aE (p:=⟨fE,2,none⟩) (aE (p:=⟨fE,1,none⟩) (aE (p:=⟨fE,0,none⟩) (Kd.R_types pO.out cO.out (by decide)) (fun _ hk=>hk.2) (.slice oS t445.length nM)) (fun _ hk=>hk.2) (.slice pR t448.length nL)) (fun _ hk=>hk.2) (.int .i64 t451)) (fun _ hk=>hk.2) (.int .i64 t452)) (fun _ hk=>hk.2) (.slice oU t453.length nK)) (fun _ h_=>h_.1))));(case side2=>exact(aF pO.out).2.1);(case side3=>refine(aF (e:=72) (base:=w.heap.size) (ok:=fun k_=>True) (n:=t448.length) (c:=nL) ?_).2.2;exact(by(with_reducible repeat(first|apply aA|apply aB|apply aC));exact(Kd.R_mono (aE (p:=⟨fE,4,none⟩) (aE (p:=⟨fE,3,none⟩) (aE (p:=⟨fE,2,none⟩) (aE (p:=⟨fE,1,none⟩) (aE (p:=⟨fE,0,none⟩) (Kd.R_types pP.out cO.out (by decide)) (fun _ hk=>hk.2) (.slice oS t445.length nM)) (fun _ hk=>hk.2) (.slice pR t448.length nL)) (fun _ hk=>hk.2) (.int .i64 t451)) (fun _ hk=>hk.2) (.int .i64 t452)) (fun _ hk=>hk.2) (.slice oU t453.length nK)) (fun _ h_=>h_.1))));(case side4=>exact(aF pP.out).2.1);(case side5=>refine(Kd.S_reads' (e:=35) (base:=w.heap.size) (ok:=fun k_=>True) (n:=t453.length) (c:=nK) ?_).2.2;exact(by(with_reducible repeat(first|apply Kd.S_alloc|apply aV|apply aW));exact(Kd.S_mono (Kd.S_far (p:=⟨fE,4,none⟩) (Kd.S_far (p:=⟨fE,3,none⟩) (Kd.S_far (p:=⟨fE,2,none⟩) (Kd.S_far (p:=⟨fE,1,none⟩) (Kd.S_far (p:=⟨fE,0,none⟩) (Kd.S_types pQ.out cO.out (by decide)) (fun _ hk=>hk.2) (.slice oS t445.length nM)) (fun _ hk=>hk.2) (.slice pR t448.length nL)) (fun _ hk=>hk.2) (.int .i64 t451)) (fun _ hk=>hk.2) (.int .i64 t452)) (fun _ hk=>hk.2) (.slice oU t453.length nK)) (fun _ h_=>h_.1))));(case side6=>exact(Kd.S_reads' pQ.out).2.1);rintro e w15 ⟨v458,rfl,ho0,hb⟩;refine⟨_,rfl,?_⟩;have bY:=aM (aD (by(with_reducible repeat(first|apply aA|apply aB|apply aC));exact(Kd.R_mono (aE (p:=⟨fE,4,none⟩) (aE (p:=⟨fE,3,none⟩) (aE (p:=⟨fE,2,none⟩) (aE (p:=⟨fE,1,none⟩) (aE (p:=⟨fE,0,none⟩) (Kd.R_types pO.out cO.out (by decide)) (fun _ hk=>hk.2) (.slice oS t445.length nM)) (fun _ hk=>hk.2) (.slice pR t448.length nL)) (fun _ hk=>hk.2) (.int .i64 t451)) (fun _ hk=>hk.2) (.int .i64 t452)) (fun _ hk=>hk.2) (.slice oU t453.length nK)) (fun _ h_=>h_.1))) hb);have bZ:=aM (aD (by(with_reducible repeat(first|apply aA|apply aB|apply aC));exact(Kd.R_mono (aE (p:=⟨fE,4,none⟩) (aE (p:=⟨fE,3,none⟩) (aE (p:=⟨fE,2,none⟩) (aE (p:=⟨fE,1,none⟩) (aE (p:=⟨fE,0,none⟩) (Kd.R_types pP.out cO.out (by decide)) (fun _ hk=>hk.2) (.slice oS t445.length nM)) (fun _ hk=>hk.2) (.slice pR t448.length nL)) (fun _ hk=>hk.2) (.int .i64 t451)) (fun _ hk=>hk.2) (.int .i64 t452)) (fun _ hk=>hk.2) (.slice oU t453.length nK)) (fun _ h_=>h_.1))) hb);have cA:=aM (Kd.S_below (by(with_reducible repeat(first|apply Kd.S_alloc|apply aV|apply aW));exact(Kd.S_mono (Kd.S_far (p:=⟨fE,4,none⟩) (Kd.S_far (p:=⟨fE,3,none⟩) (Kd.S_far (p:=⟨fE,2,none⟩) (Kd.S_far (p:=⟨fE,1,none⟩) (Kd.S_far (p:=⟨fE,0,none⟩) (Kd.S_types pQ.out cO.out (by decide)) (fun _ hk=>hk.2) (.slice oS t445.length nM)) (fun _ hk=>hk.2) (.slice pR t448.length nL)) (fun _ hk=>hk.2) (.int .i64 t451)) (fun _ hk=>hk.2) (.int .i64 t452)) (fun _ hk=>hk.2) (.slice oU t453.length nK)) (fun _ h_=>h_.1))) hb);have cC:=aM (Kd.S_lower ho0 (bH (by repeat(first|(with_reducible first|exact HB.out|apply aN|apply aP|apply aO|refine aL ?_ Lg.out)|exact HB.out))));have cQ:=aM (bF (g:=fE) (o:= .cells #[.slice oS t445.length nM,.slice pR t448.length nL,.int .i64 t451,.int .i64 t452,.slice oU t453.length nK] 26 (0,0)) (by(with_reducible repeat(first|refine aJ ?_ _|refine aK ?_|refine aI ?_ _));refine blk_put (cs:=#[.slice oS t445.length nM,.slice pR t448.length nL,.int .i64 t451,.int .i64 t452,.slice none 0 0]) ?_ 4 _ rfl;(with_reducible repeat(first|refine aJ ?_ _|refine aK ?_|refine aI ?_ _));refine blk_put (cs:=#[.slice oS t445.length nM,.slice pR t448.length nL,.int .i64 t451,.int .i64 0,.slice none 0 0]) ?_ 3 _ rfl;(with_reducible repeat(first|refine aJ ?_ _|refine aK ?_|refine aI ?_ _));refine blk_put (cs:=#[.slice oS t445.length nM,.slice pR t448.length nL,.int .i64 0,.int .i64 0,.slice none 0 0]) ?_ 2 _ rfl;(with_reducible repeat(first|refine aJ ?_ _|refine aK ?_|refine aI ?_ _));refine blk_put (cs:=#[.slice oS t445.length nM,.slice none 0 0,.int .i64 0,.int .i64 0,.slice none 0 0]) ?_ 1 _ rfl;(with_reducible repeat(first|refine aJ ?_ _|refine aK ?_|refine aI ?_ _));refine blk_put (cs:=#[.slice none 0 0,.slice none 0 0,.int .i64 0,.int .i64 0,.slice none 0 0]) ?_ 0 _ rfl;(with_reducible repeat(first|refine aJ ?_ _|refine aK ?_|refine aI ?_ _));exact cO.out) hb);have dA:=aM (bG (by repeat(first|(with_reducible first|exact HB.out|apply aN|apply aP|apply aO|refine aL ?_ Lg.out)|exact HB.out)) hb);clear pO;clear pP;clear pQ;clear cO;clear HB;have pO:=bY;have pP:=bZ;have pQ:=cA;have Lh:=cC;have cO:=cQ;have HB:=dA;clear bY bZ cA cC cQ dA;(try clear hb);(try clear hb2);(try clear hk);(try clear hi);(try clear ho0))|((with_reducible refine bJ (N:=13) rfl ?_);(try(refine gate_guard (by rfl) ?_;dsimp only));refine box_event ?hg (N:=13) ?hd (cs:=#[.slice none 0 0,.bool false]) (t:=31) ?hr ?_;(case hd=>rfl);(case hg=>rfl);(case hr=>first|(go_simp;done)|(go_simp;rfl));intro jG hg w16 hbox hb;have bY:=aM (aD (gR pO.out) hb);have bZ:=aM (aD (gR pP.out) hb);have cA:=aM (Kd.S_below (gS pQ.out) hb);have cC:=aM (Kd.S_below (gS Lh.out) hb);have cQ:=aM (bF (gB cO.out) hb);have dA:=aM (bG (gW HB.out) hb);have dH:=aM (hbox);have eG:=aM ((by rw [hg];exact(bH (gW HB.out)):w.heap.size≤jG));have fK:=aM ((by rw [hg];exact(bH (gW HB.out)):w.heap.size≤jG));have hF:=aM ((by rw [hg];exact Nat.ne_of_lt (bN (g:=fE) (o:= .cells #[.slice oS t445.length nM,.slice pR t448.length nL,.int .i64 t451,.int .i64 t452,.slice oU t453.length nK] 26 (0,0)) (gB cO.out)):fE≠jG));have eH:=aM ((by rw [hg];exact Nat.ne_of_gt (bN (g:=fE) (o:= .cells #[.slice oS t445.length nM,.slice pR t448.length nL,.int .i64 t451,.int .i64 t452,.slice oU t453.length nK] 26 (0,0)) (gB cO.out)):jG≠fE));clear pO;clear pP;clear pQ;clear Lh;clear cO;clear HB;have pO:=bY;have pP:=bZ;have pQ:=cA;have Lh:=cC;have cO:=cQ;have HB:=dA;have dO:=dH;have GW460:=eG;have Wa:=fK;have pS:=hF;have Bz:=eH;clear bY bZ cA cC cQ dA dH eG fK hF eH;clear hb hbox hg;have hnb17:=Bz.out;have hnc17:=pS.out;have kE:w16.cell? ⟨jG,0,none⟩=some (.slice none 0 0):=(aG dO.out 0).trans rfl;have kF:w16.cell? ⟨jG,1,none⟩=some (.bool false):=(aG dO.out 1).trans rfl;have kG:=aH dO.out 0;have kH:=aH dO.out 1))
 (try simp only [Act.put,List.setIfInBounds_toArray,List.set_cons_zero,List.set_cons_succ])
 go_cut [] (fun wc=>∃(kq:Nat) (jO:List (S43)) (u461000:Value),Aside0 (regletlaw16_MachineMade.j1 kq l1 a3 t457 t445 t448 t451 t452 t453 jO (a3==7)=some r)∧Aside0 (kq≤k)∧Aside0 (Kd.S (Kd.slice 3 (Kd.int .i64)) 32 wc w.heap.size (fun _=>True) v458 t457)∧Aside0 (Kd.R Kd.string 9 wc w.heap.size (fun _=>True) (.slice oS t445.length nM) t445)∧Aside0 (Kd.R k72 72 wc w.heap.size (fun _=>True) (.slice pR t448.length nL) t448)∧Aside0 (Kd.S k35 35 wc w.heap.size (fun k_=>some k_≠(u461000:Value).ownBlock) (.slice oU t453.length nK) t453)∧Aside0 (Kd.R k43 43 wc w.heap.size (fun _=>True) u461000 jO)∧Aside0 (wc.heap[fE]?=some (.cells #[(.slice oS t445.length nM),(.slice pR t448.length nL),.int .i64 t451,.int .i64 t452,(.slice oU t453.length nK)] 26 (0,0)))∧Aside0 (wc.heap[jG]?=some (.cells #[u461000,.bool (a3==7)] 31 (0,0)))∧Aside0 (Below w.heap.size w wc))
 case first=>
  have H:=HC8.out
  clear HC8
  have H':=aM H
  clear H
  go_wp2
  go_loopg [14] k (fun kq v14 w'=>∃(iH:Int) (lC:List (S43)) (u461000:Value),v14= .int .i64 iH∧Aside0 (regletlaw16_MachineMade.l0 kq l1 a3 l4 t457 iH t445 t448 t451 t452 t453 lC (a3==7)=some r)∧Aside0 (kq≤k)∧Aside0 (Kd.S (Kd.slice 3 (Kd.int .i64)) 32 w' w.heap.size (fun _=>True) v458 t457)∧Aside0 (Kd.R Kd.string 9 w' w.heap.size (fun _=>True) (.slice oS t445.length nM) t445)∧Aside0 (Kd.R k72 72 w' w.heap.size (fun _=>True) (.slice pR t448.length nL) t448)∧Aside0 (Kd.S k35 35 w' w.heap.size (fun k_=>some k_≠(u461000:Value).ownBlock) (.slice oU t453.length nK) t453)∧Aside0 (Kd.R k43 43 w' w.heap.size (fun _=>True) u461000 lC)∧Aside0 (w'.heap[fE]?=some (.cells #[(.slice oS t445.length nM),(.slice pR t448.length nL),.int .i64 t451,.int .i64 t452,(.slice oU t453.length nK)] 26 (0,0)))∧Aside0 (w'.heap[jG]?=some (.cells #[u461000,.bool (a3==7)] 31 (0,0)))∧Aside0 (Below w.heap.size w w'))
  case atStart=>exact⟨(0),(([]:List (S43))),(.slice none 0 0),(by first|rfl|(simp;done)|(simp [*];done)),H',⟨Nat.le_refl _⟩,⟨by(with_reducible repeat(first|apply Kd.S_alloc|apply aV|apply aW));exact Kd.S_mono (Kd.S_far (p:=⟨jG,1,none⟩) (Kd.S_far (p:=⟨jG,0,none⟩) (Kd.S_types Lh.out dO.out (by decide)) (fun _ hk=>hk.2) (.slice none 0 0)) (fun _ hk=>hk.2) (.bool (a3==7))) (fun _ hk=>trivial)⟩,⟨by(with_reducible repeat(first|apply aA|apply aB|apply aC));exact Kd.R_mono (aE (p:=⟨jG,1,none⟩) (aE (p:=⟨jG,0,none⟩) (Kd.R_types pO.out dO.out (by decide)) (fun _ hk=>hk.2) (.slice none 0 0)) (fun _ hk=>hk.2) (.bool (a3==7))) (fun _ hk=>trivial)⟩,⟨by(with_reducible repeat(first|apply aA|apply aB|apply aC));exact Kd.R_mono (aE (p:=⟨jG,1,none⟩) (aE (p:=⟨jG,0,none⟩) (Kd.R_types pP.out dO.out (by decide)) (fun _ hk=>hk.2) (.slice none 0 0)) (fun _ hk=>hk.2) (.bool (a3==7))) (fun _ hk=>trivial)⟩,⟨by(with_reducible repeat(first|apply Kd.S_alloc|apply aV|apply aW));exact Kd.S_mono (Kd.S_far (p:=⟨jG,1,none⟩) (Kd.S_far (p:=⟨jG,0,none⟩) (Kd.S_types pQ.out dO.out (by decide)) (fun _ hk=>hk.2) (.slice none 0 0)) (fun _ hk=>hk.2) (.bool (a3==7))) (fun _ hk=>(by simp [Value.ownBlock]))⟩,⟨by first|exact Kd.R_nil _ _ _ _ _|exact Kd.N_nil _ _ _ _ _|exact Kd.V_nil _ _ _ _ _|exact Kd.Q_nil _ _ _ _ _|exact Kd.S_nil _ _ _ _ _⟩,⟨by(with_reducible repeat(first|refine aJ ?_ _|refine aK ?_|refine aI ?_ _));refine blk_far ?_ pS.out _;(with_reducible repeat(first|refine aJ ?_ _|refine aK ?_|refine aI ?_ _));refine blk_far ?_ pS.out _;(with_reducible repeat(first|refine aJ ?_ _|refine aK ?_|refine aI ?_ _));exact cO.out⟩,⟨by(with_reducible repeat(first|refine aJ ?_ _|refine aK ?_|refine aI ?_ _));refine blk_put (cs:=#[.slice none 0 0,.bool false]) ?_ 1 _ rfl;(with_reducible repeat(first|refine aJ ?_ _|refine aK ?_|refine aI ?_ _));refine blk_put (cs:=#[.slice none 0 0,.bool false]) ?_ 0 _ rfl;(with_reducible repeat(first|refine aJ ?_ _|refine aK ?_|refine aI ?_ _));exact dO.out⟩,⟨by repeat(first|(with_reducible first|exact HB.out|apply aN|apply aP|apply aO|refine aL ?_ Lg.out|refine aL ?_ Wa.out)|exact HB.out)⟩⟩
  case round=>
   clear H'
   (try clear c1);(try clear p2);(try clear c4);(try clear c13);(try clear c14);(try clear c17);(try clear kU);(try clear kV);(try clear Em);(try clear En);(try clear Eo);(try clear kE);(try clear kF);(try clear kW);(try clear kX);(try clear Ep);(try clear Eq);(try clear Er);(try clear kG);(try clear kH)
   obtain⟨iH,lC,u461000,rfl,HA,HK1,cK,cT,cU,cV,cM,cO,dO,HB⟩:=hrel
   cases gk with
   |zero=>exact absurd HA.out (by simp [regletlaw16_MachineMade.l0])
   |succ k1=>
    have H:=HA.out
    clear HA
    simp only [regletlaw16_MachineMade.l0] at H
    by_cases c19:iH<(l4.length:Int)
    ·rw [if_pos c19] at H
     have wK:decide (iH<(l4.length:Int))=true:=decide_eq_true c19
     clear c19
     (first|rw [wK]|(simp only [i64_w,i32_w];rw [wK])|skip)
     by_cases c20:iH<5
     ·rw [if_pos c20] at H
      have Wb:decide (iH<5)=true:=decide_eq_true c20
      clear c20
      by_cases c21:0≤iH
      rotate_left
      ·rw [if_neg c21] at H
       exact absurd H (by simp)
      rw [if_pos c21] at H
      have Fc:decide (0≤iH)=true:=decide_eq_true c21
      clear c21
      by_cases c22:lC.length<8796093022208
      rotate_left
      ·rw [if_neg c22] at H
       exact absurd H (by simp)
      rw [if_pos c22] at H
      have GB:=aM c22
      clear c22
      obtain⟨y463,Hb⟩:∃y_:List (S43),y_=(lC++ [(⟨((Int.tmod (rd l4 iH) 2)==0),Int.tmod (wrap64 (Int.tdiv (wrap64 (rd l4 iH)) 2)) 5⟩:S43)]):=⟨_,rfl⟩
      replace H:(regletlaw16_MachineMade.l0 k1 l1 a3 l4 t457 (wrap64 (iH+1)) t445 t448 t451 t452 t453 y463 (a3==7))=some r:=by first|(rw [Hb];with_reducible exact H)|(have H2_:=(Option.bind_some _ _).symm.trans H;rw [Hb];with_reducible exact H2_)|(have H2_:=(Option.bind_some _ _).symm.trans H;with_reducible exact H2_)|with_reducible exact H|(rw [Hb];exact H)|exact H
      have GC:=aM Hb
      clear Hb
      have H':=aM H
      clear H
      try go_wp2
      have bY:=aM (aW cK.out)
      have bZ:=aM (aC cT.out)
      have cA:=aM (aC cU.out)
      have cC:=aM (aW cV.out)
      have cQ:=aM (aC cM.out)
      have dA:=aM (aK cO.out)
      have dH:=aM (aK dO.out)
      have eG:=aM (aO HB.out)
      clear cK
      clear cT
      clear cU
      clear cV
      clear cM
      clear cO
      clear dO
      clear HB
      have cK:=bY
      have cT:=bZ
      have cU:=cA
      have cV:=cC
      have cM:=cQ
      have cO:=dA
      have dO:=dH
      have HB:=eG
      clear bY bZ cA cC cQ dA dH eG
      have p461:0≤(iH:Int):=of_decide_eq_true (by first|(with_reducible assumption)|assumption)
      have q461:iH<(l4.length:Int):=of_decide_eq_true (by first|(with_reducible assumption)|assumption)
      obtain⟨Oj,e461,tC⟩:=Kd.at_int HR4.out iH p461 q461
      have hw461_0:=tC
      cases e461
      replace tC:=(HB.out.cell (World.block_lt_of_cell? w _ tC)).trans tC
      replace p461:=eq_true p461
      replace q461:=eq_true q461
      have p462:0≤(iH:Int):=of_decide_eq_true (by first|(with_reducible assumption)|assumption)
      have q462:iH<(l4.length:Int):=of_decide_eq_true (by first|(with_reducible assumption)|assumption)
      obtain⟨GD,e462,tD⟩:=Kd.at_int HR4.out iH p462 q462
      have hw462_0:=tD
      obtain rfl:Oj=GD:=(by injection e462)
      replace tD:=(HB.out.cell (World.block_lt_of_cell? w _ tD)).trans tD
      replace p462:=eq_true p462
      replace q462:=eq_true q462
      refine start_ (n:=20) (S:=fun w'=>w'.cell? ⟨jG,0,none⟩=some (u461000)∧w'.cell? ⟨jG,1,none⟩=some (.bool (a3==7))∧w'.cell? (Oj.add (iH).toNat)=some (.int .u8 (rd l4 iH))∧w'.cell? (Oj.add (iH).toNat)=some (.int .u8 (rd l4 iH))) (ds:= [19]) #[F,F,F,F,F,F,F,F,F,F,F,F,F,F,F,F,F,F,F,F] (by kernel_rfl) rfl rfl ⟨(aG dO.out 0).trans rfl,(aG dO.out 1).trans rfl,((HB.out.cell (World.block_lt_of_cell? w _ hw461_0)).trans hw461_0),((HB.out.cell (World.block_lt_of_cell? w _ hw462_0)).trans hw462_0)⟩ (fun hHeld=>?_);refine with_tabW regletlaw16_MachineMade.tab7 regletlaw16_MachineMade.bits7 (fun HT_ HW_=>?_)
      generalize wr.drew=w23 at cK cT cU cV cM cO dO HB tC tD hHeld ⊢
      refine pure_ (i:=0) (N:=some 34) (v:=?_) (a':=?_) #[T,F,F,F,F,F,F,F,F,F,F,F,F,F,F,F,F,F,F,F] rfl rfl (any_of HT_.out (by kernel_rfl)) (fun _ _ _ h=>h) (Or.inl ⟨by rfl,?_⟩) ?_ ?_
      rotate_left;(intro w';go_simp;with_reducible rfl);rotate_left;(simp only [pq];rfl)
      refine pure_ (i:=2) (N:=some 36) (v:=?_) (a':=?_) #[T,F,T,F,F,F,F,F,F,F,F,F,F,F,F,F,F,F,F,F] rfl rfl (any_of HT_.out (by kernel_rfl)) (fun _ _ _ h=>h) (Or.inl ⟨by rfl,?_⟩) ?_ ?_
      rotate_left;(intro w';go_simp;with_reducible rfl);rotate_left;(simp only [pq];rfl)
      refine pure_ (i:=3) (N:=some 37) (v:=?_) (a':=?_) #[T,F,T,T,F,F,F,F,F,F,F,F,F,F,F,F,F,F,F,F] rfl rfl (any_of HT_.out (by kernel_rfl)) (fun _ _ _ h=>h) (Or.inl ⟨by rfl,?_⟩) ?_ ?_
      rotate_left;(intro w';go_simp;with_reducible rfl);rotate_left;(simp only [pq];rfl)
      refine pure_ (i:=4) (N:=some 38) (v:=?_) (a':=?_) #[T,F,T,T,T,F,F,F,F,F,F,F,F,F,F,F,F,F,F,F] rfl rfl (any_of HT_.out (by kernel_rfl)) (fun _ _ _ h=>h) (Or.inl ⟨by rfl,?_⟩) ?_ ?_
      rotate_left;(intro w';go_simp;with_reducible rfl);rotate_left;(simp only [pq];rfl)
      refine pure_ (i:=8) (N:=some 42) (v:=?_) (a':=?_) #[T,F,T,T,T,F,F,F,T,F,F,F,F,F,F,F,F,F,F,F] rfl rfl (any_of HT_.out (by kernel_rfl)) (fun _ _ _ h=>h) (Or.inl ⟨by rfl,?_⟩) ?_ ?_
      rotate_left;(intro w';go_simp;with_reducible rfl);rotate_left;(simp only [pq];rfl)
      refine pure_ (i:=9) (N:=some 43) (v:=?_) (a':=?_) #[T,F,T,T,T,F,F,F,T,T,F,F,F,F,F,F,F,F,F,F] rfl rfl (any_of HT_.out (by kernel_rfl)) (fun _ _ _ h=>h) (Or.inl ⟨by rfl,?_⟩) ?_ ?_
      rotate_left;(intro w';go_simp;with_reducible rfl);rotate_left;(simp only [pq];rfl)
      refine pure_ (i:=10) (N:=some 44) (v:=?_) (a':=?_) #[T,F,T,T,T,F,F,F,T,T,T,F,F,F,F,F,F,F,F,F] rfl rfl (any_of HT_.out (by kernel_rfl)) (fun _ _ _ h=>h) (Or.inl ⟨by rfl,?_⟩) ?_ ?_
      rotate_left;(intro w';go_simp;with_reducible rfl);rotate_left;(simp only [pq];rfl)
      refine take_ (i:=1) (N:=some 35) (v:=?_) (a':=?_) #[T,T,T,T,T,F,F,F,T,T,T,F,F,F,F,F,F,F,F,F] rfl rfl (take_ofW HT_.out HW_.out (by kernel_rfl)) (fun _ _ _ h=>h) (Or.inl ⟨by rfl,?_⟩) hHeld ?_ ?_
      rotate_left
      ·rintro w' ⟨s0,s1,s2,s3⟩
       go_simp
       with_reducible rfl
      rotate_left
      ·simp only [pq]
       rfl
      refine take_ (i:=5) (N:=some 39) (v:=?_) (a':=?_) #[T,T,T,T,T,T,F,F,T,T,T,F,F,F,F,F,F,F,F,F] rfl rfl (take_ofW HT_.out HW_.out (by kernel_rfl)) (fun _ _ _ h=>h) (Or.inl ⟨by rfl,?_⟩) hHeld ?_ ?_
      rotate_left
      ·rintro w' ⟨s0,s1,s2,s3⟩
       go_simp
       with_reducible rfl
      rotate_left
      ·simp only [pq]
       rfl
      refine pure_ (i:=6) (N:=some 40) (v:=?_) (a':=?_) #[T,T,T,T,T,T,T,F,T,T,T,F,F,F,F,F,F,F,F,F] rfl rfl (any_of HT_.out (by kernel_rfl)) (fun _ _ _ h=>h) (Or.inl ⟨by rfl,?_⟩) ?_ ?_
      rotate_left;(intro w';go_simp;with_reducible rfl);rotate_left;(simp only [pq];rfl)
      refine pure_ (i:=7) (N:=some 41) (v:=?_) (a':=?_) #[T,T,T,T,T,T,T,T,T,T,T,F,F,F,F,F,F,F,F,F] rfl rfl (any_of HT_.out (by kernel_rfl)) (fun _ _ _ h=>h) (Or.inl ⟨by rfl,?_⟩) ?_ ?_
      rotate_left;(intro w';go_simp;with_reducible rfl);rotate_left;(simp only [pq];rfl)
      refine take_ (i:=11) (N:=some 45) (v:=?_) (a':=?_) #[T,T,T,T,T,T,T,T,T,T,T,T,F,F,F,F,F,F,F,F] rfl rfl (take_ofW HT_.out HW_.out (by kernel_rfl)) (fun _ _ _ h=>h) (Or.inl ⟨by rfl,?_⟩) hHeld ?_ ?_
      rotate_left
      ·rintro w' ⟨s0,s1,s2,s3⟩
       go_simp
       with_reducible rfl
      rotate_left
      ·simp only [pq]
       rfl
      refine pure_ (i:=12) (N:=some 46) (v:=?_) (a':=?_) #[T,T,T,T,T,T,T,T,T,T,T,T,T,F,F,F,F,F,F,F] rfl rfl (any_of HT_.out (by kernel_rfl)) (fun _ _ _ h=>h) (Or.inl ⟨by rfl,?_⟩) ?_ ?_
      rotate_left;(intro w';go_simp;with_reducible rfl);rotate_left;(simp only [pq];rfl)
      refine pure_ (i:=13) (N:=some 47) (v:=?_) (a':=?_) #[T,T,T,T,T,T,T,T,T,T,T,T,T,T,F,F,F,F,F,F] rfl rfl (any_of HT_.out (by kernel_rfl)) (fun _ _ _ h=>h) (Or.inl ⟨by rfl,?_⟩) ?_ ?_
      rotate_left;(intro w';go_simp;with_reducible rfl);rotate_left;(simp only [pq];rfl)
      refine pure_ (i:=14) (N:=some 48) (v:=?_) (a':=?_) #[T,T,T,T,T,T,T,T,T,T,T,T,T,T,T,F,F,F,F,F] rfl rfl (any_of HT_.out (by kernel_rfl)) (fun _ _ _ h=>h) (Or.inl ⟨by rfl,?_⟩) ?_ ?_
      rotate_left;(intro w';go_simp;with_reducible rfl);rotate_left;(simp only [pq];rfl)
      refine pure_ (i:=15) (N:=some 49) (v:=?_) (a':=?_) #[T,T,T,T,T,T,T,T,T,T,T,T,T,T,T,T,F,F,F,F] rfl rfl (any_of HT_.out (by kernel_rfl)) (fun _ _ _ h=>h) (Or.inl ⟨by rfl,?_⟩) ?_ ?_
      rotate_left;(intro w';go_simp;with_reducible rfl);rotate_left;(simp only [pq];rfl)
      refine one_ (i:=16) (N:=some 50) #[T,T,T,T,T,T,T,T,T,T,T,T,T,T,T,T,T,F,F,F] rfl rfl (one_of HT_.out (by kernel_rfl)) (by decide) (fun K hK=>?_)
      refine value_ (w1:=?_) (v:=?_) (by rfl) rfl ?_ ?_
      rotate_left 2
      ·go_simp
       constructor
       ·rfl
       ·rfl
      refine hK.out _ _ ⟨(aG (aI dO.out _) 0).trans rfl,(aG (aI dO.out _) 1).trans rfl,(World.cell?_alloc_lt _ _ _ (World.block_lt_of_cell? _ _ (((HB.out.cell (World.block_lt_of_cell? w _ hw461_0)).trans hw461_0)))).trans (((HB.out.cell (World.block_lt_of_cell? w _ hw461_0)).trans hw461_0)),(World.cell?_alloc_lt _ _ _ (World.block_lt_of_cell? _ _ (((HB.out.cell (World.block_lt_of_cell? w _ hw462_0)).trans hw462_0)))).trans (((HB.out.cell (World.block_lt_of_cell? w _ hw462_0)).trans hw462_0))⟩ (fun hHeld=>?_)
      clear hK K
      refine norm_ (a':=?_) ?_ ?_
      rotate_left
      ·show Act.put _ (some 50) _=_
       simp only [pq]
       rfl
      refine one_ (i:=17) (N:=some 51) #[T,T,T,T,T,T,T,T,T,T,T,T,T,T,T,T,T,T,F,F] rfl rfl (one_of HT_.out (by kernel_rfl)) (by decide) (fun K hK=>?_)
      refine Kd.R_append_step k43 (w0:=w) w.heap.size (by rfl) (.tmp 35) (.tmp 50) 29 43 (.agg #[(.bool false),(.int .i64 0)]) 16 rfl Try.underlying29 info43 rfl (by decide) (by omega) u461000 lC (⟨((Int.tmod (rd l4 iH) 2)==0),Int.tmod (wrap64 (Int.tdiv (wrap64 (rd l4 iH)) 2)) 5⟩:S43) [.bool ((Int.tmod (rd l4 iH) 2)==0),.int .i64 (Int.tmod (wrap64 (Int.tdiv (wrap64 (rd l4 iH)) 2)) 5)] (fun _=>True) (fun _=>False) rfl rfl ?aP (fun _ hk=>hk.elim) ?aF ?aO ?aB ?aS ?aL ?_
      (case aP=>exact k43_mkM _ _ _ (⟨((Int.tmod (rd l4 iH) 2)==0),Int.tmod (wrap64 (Int.tdiv (wrap64 (rd l4 iH)) 2)) 5⟩:S43))
      (case aB=>exact(gW HB.out))
      (case aF=>exact(fun _ _=>trivial))
      (case aO=>exact(gR cM.out))
      (case aS=>exact(bH (gW HB.out)))
      (case aL=>have:=GB.out;omega)
      intro v464 w24 ho hb hg hat
      rw [←GC.out] at ho
      have bY:=aM (Kd.S_over' (gS cK.out) (Kd.R_typed (gR cM.out)) (by decide) hg)
      have bZ:=aM (Kd.R_over' (gR cT.out) (Kd.R_typed (gR cM.out)) (by decide) hg)
      have cA:=aM (Kd.R_over' (gR cU.out) (Kd.R_typed (gR cM.out)) (by decide) hg)
      have cC:=aM (Kd.S_after (ok:=(fun _=>True)) (by(with_reducible repeat(first|apply Kd.S_alloc|apply aV|apply aW));exact Kd.S_mono cV.out (fun _ hk=>⟨trivial,hk⟩)) hg hat)
      have cQ:=aM (blk_grown (gB cO.out) hg (Kd.R_ne cM.out cO.out (by decide)))
      have dA:=aM (blk_grown (gB dO.out) hg (Kd.R_ne cM.out dO.out (by decide)))
      have dH:=aM (hb)
      have eG:=aM (ho)
      clear cK
      clear cT
      clear cU
      clear cV
      clear cO
      clear dO
      clear HB
      clear cM
      have cK:=bY
      have cT:=bZ
      have cU:=cA
      have cV:=cC
      have cO:=cQ
      have dO:=dA
      have HB:=dH
      have Wc:=eG
      clear bY bZ cA cC cQ dA dH eG
      clear ho hb hg hat
      obtain⟨Bd,Be,Qt⟩:=Kd.R_slice Wc.out
      (first|subst Qt|(injection Qt with f1_ f2_ f3_;have f4_:=f1_.symm;have f5_:=f3_.symm;clear f1_ f2_ f3_;subst f4_;subst f5_))
      refine hK.out _ _ ⟨(aG dO.out 0).trans rfl,(aG dO.out 1).trans rfl,((HB.out.cell (World.block_lt_of_cell? w _ hw461_0)).trans hw461_0),((HB.out.cell (World.block_lt_of_cell? w _ hw462_0)).trans hw462_0)⟩ (fun hHeld=>?_)
      clear hK K
      refine norm_ (a':=?_) ?_ ?_
      rotate_left
      ·show Act.put _ (some 51) _=_
       simp only [pq]
       rfl
      refine pure_ (i:=18) (N:=some 52) (v:=?_) (a':=?_) #[T,T,T,T,T,T,T,T,T,T,T,T,T,T,T,T,T,T,T,F] rfl rfl (any_of HT_.out (by kernel_rfl)) (fun _ _ _ h=>h) (Or.inl ⟨by rfl,?_⟩) ?_ ?_
      rotate_left;(intro w';go_simp;with_reducible rfl);rotate_left;(simp only [pq];rfl)
      refine last_ (i:=19) (N:=none) #[T,T,T,T,T,T,T,T,T,T,T,T,T,T,T,T,T,T,T,T] rfl rfl (one_of HT_.out (by kernel_rfl)) (by decide) (fun K hK=>?_)
      have hs26:w24.cell? ⟨jG,0,none⟩=some (u461000):=(aG dO.out 0).trans rfl
      have hfs26:=aH dO.out 0
      have hns26_0:=pS.out
      have hms26_0:=Bz.out
      refine skip_ (w1:=?_) (by rfl) rfl ?_ ?_
      rotate_left
      ·go_simp
       rfl
      refine hK.out _ _ ?_
      clear hK K
      refine done_ (done_of HT_.out (by kernel_rfl)) ?_
      try go_wp2
      go_roundg k1
      case measure=>have:=HK1.out;omega
      case rel=>exact⟨(wrap64 (iH+1)),(y463),(.slice Bd y463.length Be),(by first|rfl|(simp;done)|(simp [*];done)),H',⟨by have:=HK1.out;omega⟩,⟨by(with_reducible repeat(first|apply Kd.S_alloc|apply aV|apply aW));exact Kd.S_mono (Kd.S_far (p:=⟨jG,0,none⟩) (Kd.S_types cK.out dO.out (by decide)) (fun _ hk=>hk.2) (.slice Bd y463.length Be)) (fun _ hk=>trivial)⟩,⟨by(with_reducible repeat(first|apply aA|apply aB|apply aC));exact Kd.R_mono (aE (p:=⟨jG,0,none⟩) (Kd.R_types cT.out dO.out (by decide)) (fun _ hk=>hk.2) (.slice Bd y463.length Be)) (fun _ hk=>trivial)⟩,⟨by(with_reducible repeat(first|apply aA|apply aB|apply aC));exact Kd.R_mono (aE (p:=⟨jG,0,none⟩) (Kd.R_types cU.out dO.out (by decide)) (fun _ hk=>hk.2) (.slice Bd y463.length Be)) (fun _ hk=>trivial)⟩,⟨by(with_reducible repeat(first|apply Kd.S_alloc|apply aV|apply aW));exact Kd.S_mono (Kd.S_far (p:=⟨jG,0,none⟩) (Kd.S_types cV.out dO.out (by decide)) (fun _ hk=>hk.2) (.slice Bd y463.length Be)) (fun _ hk=>hk.1.2)⟩,⟨by(with_reducible repeat(first|apply aA|apply aB|apply aC));exact Kd.R_mono (aE (p:=⟨jG,0,none⟩) (Kd.R_types Wc.out dO.out (by decide)) (fun _ hk=>hk.2) (.slice Bd y463.length Be)) (fun _ hk=>trivial)⟩,⟨by(with_reducible repeat(first|refine aJ ?_ _|refine aK ?_|refine aI ?_ _));refine blk_far ?_ pS.out _;(with_reducible repeat(first|refine aJ ?_ _|refine aK ?_|refine aI ?_ _));exact cO.out⟩,⟨by(with_reducible repeat(first|refine aJ ?_ _|refine aK ?_|refine aI ?_ _));refine blk_put (cs:=#[u461000,.bool (a3==7)]) ?_ 0 _ rfl;(with_reducible repeat(first|refine aJ ?_ _|refine aK ?_|refine aI ?_ _));exact dO.out⟩,⟨by repeat(first|(with_reducible first|exact HB.out|apply aN|apply aP|apply aO|refine aL ?_ Lg.out|refine aL ?_ Wa.out)|exact HB.out)⟩⟩
     ·rw [if_neg c20] at H
      have Wb:decide (iH<5)=false:=decide_eq_false c20
      clear c20
      have H':=aM H
      clear H
      go_wp2
      go_meet
      case rel=>exact⟨_,(lC),(u461000),H',⟨by have:=HK1.out;first|omega|exact Nat.le_refl _⟩,⟨gS cK.out⟩,⟨gR cT.out⟩,⟨gR cU.out⟩,⟨gS cV.out⟩,⟨gR cM.out⟩,⟨gB cO.out⟩,⟨gB dO.out⟩,⟨gW HB.out⟩⟩
    ·rw [if_neg c19] at H
     have wK:decide (iH<(l4.length:Int))=false:=decide_eq_false c19
     clear c19
     (first|rw [wK]|(simp only [i64_w,i32_w];rw [wK])|skip)
     have H':=aM H
     clear H
     go_wp2
     go_meet
     case rel=>exact⟨_,(lC),(u461000),H',⟨by have:=HK1.out;first|omega|exact Nat.le_refl _⟩,⟨gS cK.out⟩,⟨gR cT.out⟩,⟨gR cU.out⟩,⟨gS cV.out⟩,⟨gR cM.out⟩,⟨gB cO.out⟩,⟨gB dO.out⟩,⟨gW HB.out⟩⟩
 case rest=>
  clear HC8
  (try clear c1);(try clear c2);(try clear p2);(try clear c4);(try clear p4);(try clear q4);(try clear hx4);(try clear p6);(try clear c13);(try clear c14);(try clear c17);(try clear c19);(try clear wK);(try clear c20);(try clear Wb);(try clear c21);(try clear Fc);(try clear c22);(try clear kU);(try clear kV);(try clear Em);(try clear En);(try clear Eo);(try clear kE)
  (try clear kF);(try clear kW);(try clear kX);(try clear Ep);(try clear Eq);(try clear Er);(try clear kG);(try clear kH);(try clear tC);(try clear tD);(try clear p2);(try clear p461);(try clear p462);(try clear q461);(try clear q462)
  obtain⟨kq,jO,u461000,HA,HJ7,cK,cT,cU,cV,cM,cO,dO,HB⟩:=hcut
  cases kq with
  |zero=>exact absurd HA.out (by simp [regletlaw16_MachineMade.j1])
  |succ zZ=>
   have H:=HA.out
   clear HA
   simp only [regletlaw16_MachineMade.j1] at H
   replace H:=Option.bind_eq_some_iff.mp H
   obtain⟨t466,A270,H⟩:=H
   replace H:(if t466=true then((regletlaw16_tokens.f zZ l1 (wrap64 ((t448.length:Int)+1))).bind fun t467=>((regletlaw16_ran.f zZ t445 t448 t451 t452 t453 t457 t467).bind fun t470=>(if t470=true then(if(wrap64 ((t448.length:Int)+2))=0 then(none) else((regletlaw16_fed.f zZ t445 t448 t451 t452 t453 t457 jO (a3==7) (wrap64 ((Int.tmod (wrap64 (a3)) (wrap64 ((t448.length:Int)+2))) - 1))).bind fun t471=>(if t471=true then((machine_Start.f).bind fun kC=>((regletref16_Start.f).bind fun jF=>((regletref16_Same.f zZ kC.1 kC.2 jF.1 jF.2).bind fun t480=>(some t480)))) else(none)))) else(none)))) else(none))=some r:=H
   have A27:=aM A270
   clear A270
   by_cases c28:t466=true
   ·subst c28
    have H1:((regletlaw16_tokens.f zZ l1 (wrap64 ((t448.length:Int)+1))).bind fun t467=>((regletlaw16_ran.f zZ t445 t448 t451 t452 t453 t457 t467).bind fun t470=>(if t470=true then(if(wrap64 ((t448.length:Int)+2))=0 then(none) else((regletlaw16_fed.f zZ t445 t448 t451 t452 t453 t457 jO (a3==7) (wrap64 ((Int.tmod (wrap64 (a3)) (wrap64 ((t448.length:Int)+2))) - 1))).bind fun t471=>(if t471=true then((machine_Start.f).bind fun kC=>((regletref16_Start.f).bind fun jF=>((regletref16_Same.f zZ kC.1 kC.2 jF.1 jF.2).bind fun t480=>(some t480)))) else(none)))) else(none))))=some r:=by rw [if_pos rfl] at H;exact H
    clear H
    have H:=H1
    clear H1
    replace H:=Option.bind_eq_some_iff.mp H
    obtain⟨t467,A290,H⟩:=H
    replace H:((regletlaw16_ran.f zZ t445 t448 t451 t452 t453 t457 t467).bind fun t470=>(if t470=true then(if(wrap64 ((t448.length:Int)+2))=0 then(none) else((regletlaw16_fed.f zZ t445 t448 t451 t452 t453 t457 jO (a3==7) (wrap64 ((Int.tmod (wrap64 (a3)) (wrap64 ((t448.length:Int)+2))) - 1))).bind fun t471=>(if t471=true then((machine_Start.f).bind fun kC=>((regletref16_Start.f).bind fun jF=>((regletref16_Same.f zZ kC.1 kC.2 jF.1 jF.2).bind fun t480=>(some t480)))) else(none)))) else(none)))=some r:=H
    have A29:=aM A290
    clear A290
    replace H:=Option.bind_eq_some_iff.mp H
    obtain⟨t470,A300,H⟩:=H
    replace H:(if t470=true then(if(wrap64 ((t448.length:Int)+2))=0 then(none) else((regletlaw16_fed.f zZ t445 t448 t451 t452 t453 t457 jO (a3==7) (wrap64 ((Int.tmod (wrap64 (a3)) (wrap64 ((t448.length:Int)+2))) - 1))).bind fun t471=>(if t471=true then((machine_Start.f).bind fun kC=>((regletref16_Start.f).bind fun jF=>((regletref16_Same.f zZ kC.1 kC.2 jF.1 jF.2).bind fun t480=>(some t480)))) else(none)))) else(none))=some r:=H
    have A30:=aM A300
    clear A300
    by_cases c31:t470=true
    ·subst c31
     have H1:(if(wrap64 ((t448.length:Int)+2))=0 then(none) else((regletlaw16_fed.f zZ t445 t448 t451 t452 t453 t457 jO (a3==7) (wrap64 ((Int.tmod (wrap64 (a3)) (wrap64 ((t448.length:Int)+2))) - 1))).bind fun t471=>(if t471=true then((machine_Start.f).bind fun kC=>((regletref16_Start.f).bind fun jF=>((regletref16_Same.f zZ kC.1 kC.2 jF.1 jF.2).bind fun t480=>(some t480)))) else(none))))=some r:=by rw [if_pos rfl] at H;exact H
     clear H
     have H:=H1
     clear H1
     by_cases c32:(wrap64 ((t448.length:Int)+2))=0
     ·rw [if_pos c32] at H
      exact absurd H (by simp)
     rw [if_neg c32] at H
     have Us:((wrap64 ((t448.length:Int)+2))==0)=false:=beq_eq_false_iff_ne.mpr c32
     have PY:((wrap64 ((t448.length:Int)+2)) !=0)=true:=bne_iff_ne.mpr c32
     replace H:=Option.bind_eq_some_iff.mp H
     obtain⟨t471,A330,H⟩:=H
     replace H:(if t471=true then((machine_Start.f).bind fun kC=>((regletref16_Start.f).bind fun jF=>((regletref16_Same.f zZ kC.1 kC.2 jF.1 jF.2).bind fun t480=>(some t480)))) else(none))=some r:=H
     have A33:=aM A330
     clear A330
     by_cases c34:t471=true
     ·subst c34
      have H1:((machine_Start.f).bind fun kC=>((regletref16_Start.f).bind fun jF=>((regletref16_Same.f zZ kC.1 kC.2 jF.1 jF.2).bind fun t480=>(some t480))))=some r:=by rw [if_pos rfl] at H;exact H
      clear H
      have H:=H1
      clear H1
      replace H:=Option.bind_eq_some_iff.mp H
      obtain⟨⟨t472,t475⟩,A350,H⟩:=H
      replace H:((regletref16_Start.f).bind fun jF=>((regletref16_Same.f zZ t472 t475 jF.1 jF.2).bind fun t480=>(some t480)))=some r:=H
      have A35:=aM A350
      clear A350
      replace H:=Option.bind_eq_some_iff.mp H
      obtain⟨⟨t476,t479⟩,A360,H⟩:=H
      replace H:((regletref16_Same.f zZ t472 t475 t476 t479).bind fun t480=>(some t480))=some r:=H
      have A36:=aM A360
      clear A360
      replace H:=Option.bind_eq_some_iff.mp H
      obtain⟨t480,A370,H⟩:=H
      replace H:(some t480)=some r:=H
      have A37:=aM A370
      clear A370
      obtain rfl:=Option.some.inj H
      try go_wp2
      have bY:=aM (aW cK.out)
      have bZ:=aM (aC cT.out)
      have cA:=aM (aC cU.out)
      have cC:=aM (aW cV.out)
      have cQ:=aM (aC cM.out)
      have dA:=aM (aK cO.out)
      have dH:=aM (aK dO.out)
      have eG:=aM (aO HB.out)
      clear cK
      clear cT
      clear cU
      clear cV
      clear cM
      clear cO
      clear dO
      clear HB
      have cK:=bY
      have cT:=bZ
      have cU:=cA
      have cV:=cC
      have cM:=cQ
      have cO:=dA
      have dO:=dH
      have HB:=eG
      clear bY bZ cA cC cQ dA dH eG
      refine start_ (n:=32) (S:=fun w'=>w'.cell? ⟨fE,0,none⟩=some (.slice oS t445.length nM)∧w'.cell? ⟨fE,1,none⟩=some (.slice pR t448.length nL)∧w'.cell? ⟨fE,2,none⟩=some (.int .i64 t451)∧w'.cell? ⟨fE,3,none⟩=some (.int .i64 t452)∧w'.cell? ⟨fE,4,none⟩=some (.slice oU t453.length nK)∧w'.cell? ⟨jG,0,none⟩=some (u461000)∧w'.cell? ⟨jG,1,none⟩=some (.bool (a3==7))) (ds:= []) #[F,F,F,F,F,F,F,F,F,F,F,F,F,F,F,F,F,F,F,F,F,F,F,F,F,F,F,F,F,F,F,F] (by kernel_rfl) rfl rfl ⟨(aG cO.out 0).trans rfl,(aG cO.out 1).trans rfl,(aG cO.out 2).trans rfl,(aG cO.out 3).trans rfl,(aG cO.out 4).trans rfl,(aG dO.out 0).trans rfl,(aG dO.out 1).trans rfl⟩ (fun hHeld=>?_);refine with_tabW regletlaw16_MachineMade.tab8 regletlaw16_MachineMade.bits8 (fun HT_ HW_=>?_)
      generalize wc.drew=w38 at cK cT cU cV cM cO dO HB hHeld ⊢
      refine one_ (i:=0) (N:=some 53) #[T,F,F,F,F,F,F,F,F,F,F,F,F,F,F,F,F,F,F,F,F,F,F,F,F,F,F,F,F,F,F,F] rfl rfl (one_of HT_.out (by kernel_rfl)) (by decide) (fun K hK=>?_)
      refine goes_ Try.func10 (by kernel_rfl) rfl #[] (by rfl) rfl rfl (by(try simp only [List.map_toArray,List.map_cons,List.map_nil]);first|done|rfl|(simp only [List.length_drop,List.length_take];rfl)) ?_
      with_reducible refine(regletlaw16_awake.calls zZ  true _ A27.out).mono ?_
      rintro e w39 ⟨rfl,hb⟩
      refine⟨_,rfl,?_⟩
      have bY:=aM (Kd.S_below (gS cK.out) hb)
      have bZ:=aM (aD (gR cT.out) hb)
      have cA:=aM (aD (gR cU.out) hb)
      have cC:=aM (Kd.S_below (gS cV.out) hb)
      have cQ:=aM (aD (gR cM.out) hb)
      have dA:=aM (bF (gB cO.out) hb)
      have dH:=aM (bF (gB dO.out) hb)
      have eG:=aM (bG (gW HB.out) hb)
      clear cK
      clear cT
      clear cU
      clear cV
      clear cM
      clear cO
      clear dO
      clear HB
      have cK:=bY
      have cT:=bZ
      have cU:=cA
      have cV:=cC
      have cM:=cQ
      have cO:=dA
      have dO:=dH
      have HB:=eG
      clear bY bZ cA cC cQ dA dH eG
      (try clear hb);(try clear hb2);(try clear hk);(try clear hi)
      refine hK.out _ _ ⟨(aG cO.out 0).trans rfl,(aG cO.out 1).trans rfl,(aG cO.out 2).trans rfl,(aG cO.out 3).trans rfl,(aG cO.out 4).trans rfl,(aG dO.out 0).trans rfl,(aG dO.out 1).trans rfl⟩ (fun hHeld=>?_)
      clear hK K
      refine norm_ (a':=?_) ?_ ?_
      rotate_left
      ·show Act.put _ (some 53) _=_
       simp only [pq]
       rfl
      refine pure_ (i:=1) (N:=some 54) (v:=?_) (a':=?_) #[T,T,F,F,F,F,F,F,F,F,F,F,F,F,F,F,F,F,F,F,F,F,F,F,F,F,F,F,F,F,F,F] rfl rfl (any_of HT_.out (by kernel_rfl)) (fun _ _ _ h=>h) (Or.inl ⟨by rfl,?_⟩) ?_ ?_
      rotate_left;(intro w';go_simp;with_reducible rfl);rotate_left;(simp only [pq];rfl)
      refine pure_ (i:=3) (N:=some 56) (v:=?_) (a':=?_) #[T,T,F,T,F,F,F,F,F,F,F,F,F,F,F,F,F,F,F,F,F,F,F,F,F,F,F,F,F,F,F,F] rfl rfl (any_of HT_.out (by kernel_rfl)) (fun _ _ _ h=>h) (Or.inl ⟨by rfl,?_⟩) ?_ ?_
      rotate_left;(intro w';go_simp;with_reducible rfl);rotate_left;(simp only [pq];rfl)
      refine pure_ (i:=4) (N:=some 57) (v:=?_) (a':=?_) #[T,T,F,T,T,F,F,F,F,F,F,F,F,F,F,F,F,F,F,F,F,F,F,F,F,F,F,F,F,F,F,F] rfl rfl (any_of HT_.out (by kernel_rfl)) (fun _ _ _ h=>h) (Or.inl ⟨by rfl,?_⟩) ?_ ?_
      rotate_left;(intro w';go_simp;with_reducible rfl);rotate_left;(simp only [pq];rfl)
      refine pure_ (i:=5) (N:=some 58) (v:=?_) (a':=?_) #[T,T,F,T,T,T,F,F,F,F,F,F,F,F,F,F,F,F,F,F,F,F,F,F,F,F,F,F,F,F,F,F] rfl rfl (any_of HT_.out (by kernel_rfl)) (fun _ _ _ h=>h) (Or.inl ⟨by rfl,?_⟩) ?_ ?_
      rotate_left;(intro w';go_simp;with_reducible rfl);rotate_left;(simp only [pq];rfl)
      refine take_ (i:=2) (N:=some 55) (v:=?_) (a':=?_) #[T,T,T,T,T,T,F,F,F,F,F,F,F,F,F,F,F,F,F,F,F,F,F,F,F,F,F,F,F,F,F,F] rfl rfl (take_ofW HT_.out HW_.out (by kernel_rfl)) (fun _ _ _ h=>h) (Or.inl ⟨by rfl,?_⟩) hHeld ?_ ?_
      rotate_left
      ·rintro w' ⟨s0,s1,s2,s3,s4,s5,s6⟩
       go_simp
       with_reducible rfl
      rotate_left
      ·simp only [pq]
       rfl
      refine take_ (i:=6) (N:=some 59) (v:=?_) (a':=?_) #[T,T,T,T,T,T,T,F,F,F,F,F,F,F,F,F,F,F,F,F,F,F,F,F,F,F,F,F,F,F,F,F] rfl rfl (take_ofW HT_.out HW_.out (by kernel_rfl)) (fun _ _ _ h=>h) (Or.inl ⟨by rfl,?_⟩) hHeld ?_ ?_
      rotate_left
      ·rintro w' ⟨s0,s1,s2,s3,s4,s5,s6⟩
       go_simp
       with_reducible rfl
      rotate_left
      ·simp only [pq]
       rfl
      refine pure_ (i:=7) (N:=some 60) (v:=?_) (a':=?_) #[T,T,T,T,T,T,T,T,F,F,F,F,F,F,F,F,F,F,F,F,F,F,F,F,F,F,F,F,F,F,F,F] rfl rfl (any_of HT_.out (by kernel_rfl)) (fun _ _ _ h=>h) (Or.inl ⟨by rfl,?_⟩) ?_ ?_
      rotate_left;(intro w';go_simp;with_reducible rfl);rotate_left;(simp only [pq];rfl)
      refine pure_ (i:=8) (N:=some 61) (v:=?_) (a':=?_) #[T,T,T,T,T,T,T,T,T,F,F,F,F,F,F,F,F,F,F,F,F,F,F,F,F,F,F,F,F,F,F,F] rfl rfl (any_of HT_.out (by kernel_rfl)) (fun _ _ _ h=>h) (Or.inl ⟨by rfl,?_⟩) ?_ ?_
      rotate_left;(intro w';go_simp;with_reducible rfl);rotate_left;(simp only [pq];rfl)
      refine one_ (i:=9) (N:=some 62) #[T,T,T,T,T,T,T,T,T,T,F,F,F,F,F,F,F,F,F,F,F,F,F,F,F,F,F,F,F,F,F,F] rfl rfl (one_of HT_.out (by kernel_rfl)) (by decide) (fun K hK=>?_)
      refine goes_ Try.func15 (by kernel_rfl) rfl #[.slice A1 l1.length c1,.int .i64 (wrap64 ((t448.length:Int)+1))] (by rfl) rfl rfl (by(try simp only [List.map_toArray,List.map_cons,List.map_nil]);first|done|rfl|(simp only [List.length_drop,List.length_take];rfl)) ?_
      with_reducible refine(regletlaw16_tokens.calls zZ _ _ l1 (wrap64 ((t448.length:Int)+1)) t467 _ ?side1 ?side2 A29.out).mono ?_
      (case side1=>exact gC (bD HR1.out HB.out))
      (case side2=>exact HC1.out)
      rintro e w40 ⟨v468,rfl,ho0,hb⟩
      refine⟨_,rfl,?_⟩
      have bY:=aM (Kd.S_elder' (gS cK.out) (Kd.R_base ho0) hb)
      have bZ:=aM (aD (gR cT.out) hb)
      have cA:=aM (bE (gR cU.out) (Kd.R_base ho0) hb)
      have cC:=aM (Kd.S_below (gS cV.out) hb)
      have cQ:=aM (aD (gR cM.out) hb)
      have dA:=aM (bL ho0 (bH (gW HB.out)))
      have dH:=aM (bF (gB cO.out) hb)
      have eG:=aM (bF (gB dO.out) hb)
      have fK:=aM (bG (gW HB.out) hb)
      clear cK
      clear cT
      clear cU
      clear cV
      clear cM
      clear cO
      clear dO
      clear HB
      have cK:=bY
      have cT:=bZ
      have cU:=cA
      have cV:=cC
      have cM:=cQ
      have lT:=dA
      have cO:=dH
      have dO:=eG
      have HB:=fK
      clear bY bZ cA cC cQ dA dH eG fK
      (try clear hb);(try clear hb2);(try clear hk);(try clear hi);(try clear ho0)
      obtain⟨Wu,Wv,Qc⟩:=Kd.S_slice cK.out
      (first|subst Qc|(injection Qc with f1_ f2_ f3_;have f4_:=f1_.symm;have f5_:=f3_.symm;clear f1_ f2_ f3_;subst f4_;subst f5_))
      obtain⟨xU,xV,Tz⟩:=Kd.R_slice lT.out
      (first|subst Tz|(injection Tz with f1_ f2_ f3_;have f4_:=f1_.symm;have f5_:=f3_.symm;clear f1_ f2_ f3_;subst f4_;subst f5_))
      refine hK.out _ _ ⟨(aG cO.out 0).trans rfl,(aG cO.out 1).trans rfl,(aG cO.out 2).trans rfl,(aG cO.out 3).trans rfl,(aG cO.out 4).trans rfl,(aG dO.out 0).trans rfl,(aG dO.out 1).trans rfl⟩ (fun hHeld=>?_)
      clear hK K
      refine norm_ (a':=?_) ?_ ?_
      rotate_left
      ·show Act.put _ (some 62) _=_
       simp only [pq]
       rfl
      refine one_ (i:=10) (N:=some 63) #[T,T,T,T,T,T,T,T,T,T,T,F,F,F,F,F,F,F,F,F,F,F,F,F,F,F,F,F,F,F,F,F] rfl rfl (one_of HT_.out (by kernel_rfl)) (by decide) (fun K hK=>?_)
      refine goes_ Try.func12 (by kernel_rfl) rfl #[.agg #[.slice oS t445.length nM,.slice pR t448.length nL,.int .i64 t451,.int .i64 t452,.slice oU t453.length nK],.slice Wu t457.length Wv,.slice xU t467.length xV] (by rfl) rfl rfl (by(try simp only [List.map_toArray,List.map_cons,List.map_nil]);first|done|rfl|(simp only [List.length_drop,List.length_take];rfl)) ?_
      with_reducible refine(regletlaw16_ran.calls zZ _ _ t445 _ _ t448 t451 t452 _ _ t453 _ _ t457 _ _ t467 true _ ?side1 ?side2 ?side3 ?side4 ?side5 ?side6 ?side7 ?side8 ?side9 ?side10 A30.out).mono ?_
      (case side1=>exact gC (aF cT.out).2.2)
      (case side2=>exact(aF cT.out).2.1)
      (case side3=>exact gC (aF cU.out).2.2)
      (case side4=>exact(aF cU.out).2.1)
      (case side5=>exact gC (Kd.S_reads' cV.out).2.2)
      (case side6=>exact(Kd.S_reads' cV.out).2.1)
      (case side7=>exact gC (Kd.S_reads' cK.out).2.2)
      (case side8=>exact(Kd.S_reads' cK.out).2.1)
      (case side9=>exact gC (aF lT.out).2.2)
      (case side10=>exact(aF lT.out).2.1)
      rintro e w43 ⟨rfl,hb⟩
      refine⟨_,rfl,?_⟩
      have bY:=aM (Kd.S_below (gS cK.out) hb)
      have bZ:=aM (aD (gR cT.out) hb)
      have cA:=aM (aD (gR cU.out) hb)
      have cC:=aM (Kd.S_below (gS cV.out) hb)
      have cQ:=aM (aD (gR cM.out) hb)
      have dA:=aM (aD (gR lT.out) hb)
      have dH:=aM (bF (gB cO.out) hb)
      have eG:=aM (bF (gB dO.out) hb)
      have fK:=aM (bG (gW HB.out) hb)
      clear cK
      clear cT
      clear cU
      clear cV
      clear cM
      clear lT
      clear cO
      clear dO
      clear HB
      have cK:=bY
      have cT:=bZ
      have cU:=cA
      have cV:=cC
      have cM:=cQ
      have lT:=dA
      have cO:=dH
      have dO:=eG
      have HB:=fK
      clear bY bZ cA cC cQ dA dH eG fK
      (try clear hb);(try clear hb2);(try clear hk);(try clear hi)
      obtain⟨OA,AL,Mk⟩:=Kd.R_slice cM.out
      (first|subst Mk|(injection Mk with f1_ f2_ f3_;have f4_:=f1_.symm;have f5_:=f3_.symm;clear f1_ f2_ f3_;subst f4_;subst f5_))
      refine hK.out _ _ ⟨(aG cO.out 0).trans rfl,(aG cO.out 1).trans rfl,(aG cO.out 2).trans rfl,(aG cO.out 3).trans rfl,(aG cO.out 4).trans rfl,(aG dO.out 0).trans rfl,(aG dO.out 1).trans rfl⟩ (fun hHeld=>?_)
      clear hK K
      refine norm_ (a':=?_) ?_ ?_
      rotate_left
      ·show Act.put _ (some 63) _=_
       simp only [pq]
       rfl
      refine pure_ (i:=11) (N:=some 64) (v:=?_) (a':=?_) #[T,T,T,T,T,T,T,T,T,T,T,T,F,F,F,F,F,F,F,F,F,F,F,F,F,F,F,F,F,F,F,F] rfl rfl (any_of HT_.out (by kernel_rfl)) (fun _ _ _ h=>h) (Or.inl ⟨by rfl,?_⟩) ?_ ?_
      rotate_left;(intro w';go_simp;with_reducible rfl);rotate_left;(simp only [pq];rfl)
      refine pure_ (i:=12) (N:=some 65) (v:=?_) (a':=?_) #[T,T,T,T,T,T,T,T,T,T,T,T,T,F,F,F,F,F,F,F,F,F,F,F,F,F,F,F,F,F,F,F] rfl rfl (any_of HT_.out (by kernel_rfl)) (fun _ _ _ h=>h) (Or.inl ⟨by rfl,?_⟩) ?_ ?_
      rotate_left;(intro w';go_simp;with_reducible rfl);rotate_left;(simp only [pq];rfl)
      refine pure_ (i:=14) (N:=some 67) (v:=?_) (a':=?_) #[T,T,T,T,T,T,T,T,T,T,T,T,T,F,T,F,F,F,F,F,F,F,F,F,F,F,F,F,F,F,F,F] rfl rfl (any_of HT_.out (by kernel_rfl)) (fun _ _ _ h=>h) (Or.inl ⟨by rfl,?_⟩) ?_ ?_
      rotate_left;(intro w';go_simp;with_reducible rfl);rotate_left;(simp only [pq];rfl)
      refine pure_ (i:=16) (N:=some 69) (v:=?_) (a':=?_) #[T,T,T,T,T,T,T,T,T,T,T,T,T,F,T,F,T,F,F,F,F,F,F,F,F,F,F,F,F,F,F,F] rfl rfl (any_of HT_.out (by kernel_rfl)) (fun _ _ _ h=>h) (Or.inl ⟨by rfl,?_⟩) ?_ ?_
      rotate_left;(intro w';go_simp;with_reducible rfl);rotate_left;(simp only [pq];rfl)
      refine pure_ (i:=17) (N:=some 70) (v:=?_) (a':=?_) #[T,T,T,T,T,T,T,T,T,T,T,T,T,F,T,F,T,T,F,F,F,F,F,F,F,F,F,F,F,F,F,F] rfl rfl (any_of HT_.out (by kernel_rfl)) (fun _ _ _ h=>h) (Or.inl ⟨by rfl,?_⟩) ?_ ?_
      rotate_left;(intro w';go_simp;with_reducible rfl);rotate_left;(simp only [pq];rfl)
      refine pure_ (i:=18) (N:=some 71) (v:=?_) (a':=?_) #[T,T,T,T,T,T,T,T,T,T,T,T,T,F,T,F,T,T,T,F,F,F,F,F,F,F,F,F,F,F,F,F] rfl rfl (any_of HT_.out (by kernel_rfl)) (fun _ _ _ h=>h) (Or.inl ⟨by rfl,?_⟩) ?_ ?_
      rotate_left;(intro w';go_simp;with_reducible rfl);rotate_left;(simp only [pq];rfl)
      refine take_ (i:=13) (N:=some 66) (v:=?_) (a':=?_) #[T,T,T,T,T,T,T,T,T,T,T,T,T,T,T,F,T,T,T,F,F,F,F,F,F,F,F,F,F,F,F,F] rfl rfl (take_ofW HT_.out HW_.out (by kernel_rfl)) (fun _ _ _ h=>h) (Or.inl ⟨by rfl,?_⟩) hHeld ?_ ?_
      rotate_left
      ·rintro w' ⟨s0,s1,s2,s3,s4,s5,s6⟩
       go_simp
       with_reducible rfl
      rotate_left
      ·simp only [pq]
       rfl
      refine take_ (i:=15) (N:=some 68) (v:=?_) (a':=?_) #[T,T,T,T,T,T,T,T,T,T,T,T,T,T,T,T,T,T,T,F,F,F,F,F,F,F,F,F,F,F,F,F] rfl rfl (take_ofW HT_.out HW_.out (by kernel_rfl)) (fun _ _ _ h=>h) (Or.inl ⟨by rfl,?_⟩) hHeld ?_ ?_
      rotate_left
      ·rintro w' ⟨s0,s1,s2,s3,s4,s5,s6⟩
       go_simp
       with_reducible rfl
      rotate_left
      ·simp only [pq]
       rfl
      refine take_ (i:=19) (N:=some 72) (v:=?_) (a':=?_) #[T,T,T,T,T,T,T,T,T,T,T,T,T,T,T,T,T,T,T,T,F,F,F,F,F,F,F,F,F,F,F,F] rfl rfl (take_ofW HT_.out HW_.out (by kernel_rfl)) (fun _ _ _ h=>h) (Or.inl ⟨by rfl,?_⟩) hHeld ?_ ?_
      rotate_left
      ·rintro w' ⟨s0,s1,s2,s3,s4,s5,s6⟩
       go_simp
       with_reducible rfl
      rotate_left
      ·simp only [pq]
       rfl
      refine pure_ (i:=20) (N:=some 73) (v:=?_) (a':=?_) #[T,T,T,T,T,T,T,T,T,T,T,T,T,T,T,T,T,T,T,T,T,F,F,F,F,F,F,F,F,F,F,F] rfl rfl (any_of HT_.out (by kernel_rfl)) (fun _ _ _ h=>h) (Or.inl ⟨by rfl,?_⟩) ?_ ?_
      rotate_left;(intro w';go_simp;with_reducible rfl);rotate_left;(simp only [pq];rfl)
      refine pure_ (i:=21) (N:=some 74) (v:=?_) (a':=?_) #[T,T,T,T,T,T,T,T,T,T,T,T,T,T,T,T,T,T,T,T,T,T,F,F,F,F,F,F,F,F,F,F] rfl rfl (any_of HT_.out (by kernel_rfl)) (fun _ _ _ h=>h) (Or.inl ⟨by rfl,?_⟩) ?_ ?_
      rotate_left;(intro w';go_simp;with_reducible rfl);rotate_left;(simp only [pq];rfl)
      refine pure_ (i:=22) (N:=some 75) (v:=?_) (a':=?_) #[T,T,T,T,T,T,T,T,T,T,T,T,T,T,T,T,T,T,T,T,T,T,T,F,F,F,F,F,F,F,F,F] rfl rfl (any_of HT_.out (by kernel_rfl)) (fun _ _ _ h=>h) (Or.inl ⟨by rfl,?_⟩) ?_ ?_
      rotate_left;(intro w';go_simp;with_reducible rfl);rotate_left;(simp only [pq];rfl)
      refine pure_ (i:=23) (N:=some 76) (v:=?_) (a':=?_) #[T,T,T,T,T,T,T,T,T,T,T,T,T,T,T,T,T,T,T,T,T,T,T,T,F,F,F,F,F,F,F,F] rfl rfl (any_of HT_.out (by kernel_rfl)) (fun _ _ _ h=>h) (Or.inl ⟨by rfl,?_⟩) ?_ ?_
      rotate_left;(intro w';go_simp;with_reducible rfl);rotate_left;(simp only [pq];rfl)
      refine one_ (i:=24) (N:=some 77) #[T,T,T,T,T,T,T,T,T,T,T,T,T,T,T,T,T,T,T,T,T,T,T,T,T,F,F,F,F,F,F,F] rfl rfl (one_of HT_.out (by kernel_rfl)) (by decide) (fun K hK=>?_)
      refine goes_ Try.func11 (by kernel_rfl) rfl #[.agg #[.slice oS t445.length nM,.slice pR t448.length nL,.int .i64 t451,.int .i64 t452,.slice oU t453.length nK],.slice Wu t457.length Wv,.agg #[.slice OA jO.length AL,.bool (a3==7)],.int .i64 (wrap64 ((Int.tmod (wrap64 (a3)) (wrap64 ((t448.length:Int)+2))) - 1))] (by rfl) rfl rfl (by(try simp only [List.map_toArray,List.map_cons,List.map_nil]);first|done|rfl|(simp only [List.length_drop,List.length_take];rfl)) ?_
      with_reducible refine(regletlaw16_fed.calls zZ _ _ t445 _ _ t448 t451 t452 _ _ t453 _ _ t457 _ _ jO (a3==7) (wrap64 ((Int.tmod (wrap64 (a3)) (wrap64 ((t448.length:Int)+2))) - 1)) true _ ?side1 ?side2 ?side3 ?side4 ?side5 ?side6 ?side7 ?side8 ?side9 ?side10 A33.out).mono ?_
      (case side1=>exact gC (aF cT.out).2.2)
      (case side2=>exact(aF cT.out).2.1)
      (case side3=>exact gC (aF cU.out).2.2)
      (case side4=>exact(aF cU.out).2.1)
      (case side5=>exact gC (Kd.S_reads' cV.out).2.2)
      (case side6=>exact(Kd.S_reads' cV.out).2.1)
      (case side7=>exact gC (Kd.S_reads' cK.out).2.2)
      (case side8=>exact(Kd.S_reads' cK.out).2.1)
      (case side9=>exact gC (aF cM.out).2.2)
      (case side10=>exact(aF cM.out).2.1)
      rintro e w45 ⟨rfl,hb⟩
      refine⟨_,rfl,?_⟩
      have bY:=aM (Kd.S_below (gS cK.out) hb)
      have bZ:=aM (aD (gR cT.out) hb)
      have cA:=aM (aD (gR cU.out) hb)
      have cC:=aM (Kd.S_below (gS cV.out) hb)
      have cQ:=aM (aD (gR cM.out) hb)
      have dA:=aM (aD (gR lT.out) hb)
      have dH:=aM (bF (gB cO.out) hb)
      have eG:=aM (bF (gB dO.out) hb)
      have fK:=aM (bG (gW HB.out) hb)
      clear cK
      clear cT
      clear cU
      clear cV
      clear cM
      clear lT
      clear cO
      clear dO
      clear HB
      have cK:=bY
      have cT:=bZ
      have cU:=cA
      have cV:=cC
      have cM:=cQ
      have lT:=dA
      have cO:=dH
      have dO:=eG
      have HB:=fK
      clear bY bZ cA cC cQ dA dH eG fK
      (try clear hb);(try clear hb2);(try clear hk);(try clear hi)
      refine hK.out _ _ ⟨(aG cO.out 0).trans rfl,(aG cO.out 1).trans rfl,(aG cO.out 2).trans rfl,(aG cO.out 3).trans rfl,(aG cO.out 4).trans rfl,(aG dO.out 0).trans rfl,(aG dO.out 1).trans rfl⟩ (fun hHeld=>?_)
      clear hK K
      refine norm_ (a':=?_) ?_ ?_
      rotate_left
      ·show Act.put _ (some 77) _=_
       simp only [pq]
       rfl
      refine pure_ (i:=25) (N:=some 78) (v:=?_) (a':=?_) #[T,T,T,T,T,T,T,T,T,T,T,T,T,T,T,T,T,T,T,T,T,T,T,T,T,T,F,F,F,F,F,F] rfl rfl (any_of HT_.out (by kernel_rfl)) (fun _ _ _ h=>h) (Or.inl ⟨by rfl,?_⟩) ?_ ?_
      rotate_left;(intro w';go_simp;with_reducible rfl);rotate_left;(simp only [pq];rfl)
      refine pure_ (i:=26) (N:=some 79) (v:=?_) (a':=?_) #[T,T,T,T,T,T,T,T,T,T,T,T,T,T,T,T,T,T,T,T,T,T,T,T,T,T,T,F,F,F,F,F] rfl rfl (any_of HT_.out (by kernel_rfl)) (fun _ _ _ h=>h) (Or.inl ⟨by rfl,?_⟩) ?_ ?_
      rotate_left;(intro w';go_simp;with_reducible rfl);rotate_left;(simp only [pq];rfl)
      refine one_ (i:=27) (N:=some 80) #[T,T,T,T,T,T,T,T,T,T,T,T,T,T,T,T,T,T,T,T,T,T,T,T,T,T,T,T,F,F,F,F] rfl rfl (one_of HT_.out (by kernel_rfl)) (by decide) (fun K hK=>?_)
      refine goes_ Try.func17 (by kernel_rfl) rfl #[] (by rfl) rfl rfl (by(try simp only [List.map_toArray,List.map_cons,List.map_nil]);first|done|rfl|(simp only [List.length_drop,List.length_take];rfl)) ?_
      with_reducible refine(machine_Start.calls  t472 t475 _ A35.out).mono ?_
      rintro e w46 ⟨v473,rfl,ho0,hb⟩
      refine⟨_,rfl,?_⟩
      have bY:=aM (Kd.S_below (gS cK.out) hb)
      have bZ:=aM (aD (gR cT.out) hb)
      have cA:=aM (aD (gR cU.out) hb)
      have cC:=aM (Kd.S_elder' (gS cV.out) (Kd.R_base ho0) hb)
      have cQ:=aM (bE (gR cM.out) (Kd.R_base ho0) hb)
      have dA:=aM (aD (gR lT.out) hb)
      have dH:=aM (bL (Kd.R_new' ho0 (Kd.R_lt (gR cM.out))) (bH (gW HB.out)))
      have eG:=aM (bF (gB cO.out) hb)
      have fK:=aM (bF (gB dO.out) hb)
      have hF:=aM (bG (gW HB.out) hb)
      clear cK
      clear cT
      clear cU
      clear cV
      clear cM
      clear lT
      clear cO
      clear dO
      clear HB
      have cK:=bY
      have cT:=bZ
      have cU:=cA
      have cV:=cC
      have cM:=cQ
      have lT:=dA
      have tJ:=dH
      have cO:=eG
      have dO:=fK
      have HB:=hF
      clear bY bZ cA cC cQ dA dH eG fK hF
      (try clear hb);(try clear hb2);(try clear hk);(try clear hi);(try clear ho0)
      refine hK.out _ _ ⟨(aG cO.out 0).trans rfl,(aG cO.out 1).trans rfl,(aG cO.out 2).trans rfl,(aG cO.out 3).trans rfl,(aG cO.out 4).trans rfl,(aG dO.out 0).trans rfl,(aG dO.out 1).trans rfl⟩ (fun hHeld=>?_)
      clear hK K
      refine norm_ (a':=?_) ?_ ?_
      rotate_left
      ·show Act.put _ (some 80) _=_
       simp only [pq]
       rfl
      refine one_ (i:=28) (N:=some 81) #[T,T,T,T,T,T,T,T,T,T,T,T,T,T,T,T,T,T,T,T,T,T,T,T,T,T,T,T,T,F,F,F] rfl rfl (one_of HT_.out (by kernel_rfl)) (by decide) (fun K hK=>?_)
      refine goes_ Try.func18 (by kernel_rfl) rfl #[] (by rfl) rfl rfl (by(try simp only [List.map_toArray,List.map_cons,List.map_nil]);first|done|rfl|(simp only [List.length_drop,List.length_take];rfl)) ?_
      with_reducible refine(regletref16_Start.calls  t476 t479 _ A36.out).mono ?_
      rintro e w47 ⟨v477,rfl,ho0,hb⟩
      refine⟨_,rfl,?_⟩
      have bY:=aM (Kd.S_below (gS cK.out) hb)
      have bZ:=aM (aD (gR cT.out) hb)
      have cA:=aM (aD (gR cU.out) hb)
      have cC:=aM (Kd.S_elder' (gS cV.out) (Kd.R_base ho0) hb)
      have cQ:=aM (bE (gR cM.out) (Kd.R_base ho0) hb)
      have dA:=aM (aD (gR lT.out) hb)
      have dH:=aM (bE (gR tJ.out) (Kd.R_base ho0) hb)
      have eG:=aM (bL (Kd.R_new' (Kd.R_new' ho0 (Kd.R_lt (gR cM.out))) (Kd.R_lt (gR tJ.out))) (bH (gW HB.out)))
      have fK:=aM (bF (gB cO.out) hb)
      have hF:=aM (bF (gB dO.out) hb)
      have eH:=aM (bG (gW HB.out) hb)
      clear cK
      clear cT
      clear cU
      clear cV
      clear cM
      clear lT
      clear tJ
      clear cO
      clear dO
      clear HB
      have cK:=bY
      have cT:=bZ
      have cU:=cA
      have cV:=cC
      have cM:=cQ
      have lT:=dA
      have tJ:=dH
      have Ca:=eG
      have cO:=fK
      have dO:=hF
      have HB:=eH
      clear bY bZ cA cC cQ dA dH eG fK hF eH
      (try clear hb);(try clear hb2);(try clear hk);(try clear hi);(try clear ho0)
      obtain⟨Hr,Hs,Gw⟩:=Kd.R_slice tJ.out
      (first|subst Gw|(injection Gw with f1_ f2_ f3_;have f4_:=f1_.symm;have f5_:=f3_.symm;clear f1_ f2_ f3_;subst f4_;subst f5_))
      obtain⟨OB,OC,GE⟩:=Kd.R_slice Ca.out
      (first|subst GE|(injection GE with f1_ f2_ f3_;have f4_:=f1_.symm;have f5_:=f3_.symm;clear f1_ f2_ f3_;subst f4_;subst f5_))
      refine hK.out _ _ ⟨(aG cO.out 0).trans rfl,(aG cO.out 1).trans rfl,(aG cO.out 2).trans rfl,(aG cO.out 3).trans rfl,(aG cO.out 4).trans rfl,(aG dO.out 0).trans rfl,(aG dO.out 1).trans rfl⟩ (fun hHeld=>?_)
      clear hK K
      refine norm_ (a':=?_) ?_ ?_
      rotate_left
      ·show Act.put _ (some 81) _=_
       simp only [pq]
       rfl
      refine one_ (i:=29) (N:=some 82) #[T,T,T,T,T,T,T,T,T,T,T,T,T,T,T,T,T,T,T,T,T,T,T,T,T,T,T,T,T,T,F,F] rfl rfl (one_of HT_.out (by kernel_rfl)) (by decide) (fun K hK=>?_)
      refine goes_ Try.func16 (by kernel_rfl) rfl #[.agg #[.slice Hr t472.length Hs,.bool t475],.agg #[.slice OB t476.length OC,.bool t479]] (by rfl) rfl rfl (by(try simp only [List.map_toArray,List.map_cons,List.map_nil]);first|done|rfl|(simp only [List.length_drop,List.length_take];rfl)) ?_
      with_reducible refine(regletref16_Same.calls zZ _ _ t472 t475 _ _ t476 t479 t480 _ ?side1 ?side2 ?side3 ?side4 A37.out).mono ?_
      (case side1=>exact gC (aF tJ.out).2.2)
      (case side2=>exact(aF tJ.out).2.1)
      (case side3=>exact gC (aF Ca.out).2.2)
      (case side4=>exact(aF Ca.out).2.1)
      rintro e w50 ⟨rfl,hb⟩
      refine⟨_,rfl,?_⟩
      have bY:=aM (Kd.S_below (gS cK.out) hb)
      have bZ:=aM (aD (gR cT.out) hb)
      have cA:=aM (aD (gR cU.out) hb)
      have cC:=aM (Kd.S_below (gS cV.out) hb)
      have cQ:=aM (aD (gR cM.out) hb)
      have dA:=aM (aD (gR lT.out) hb)
      have dH:=aM (aD (gR tJ.out) hb)
      have eG:=aM (aD (gR Ca.out) hb)
      have fK:=aM (bF (gB cO.out) hb)
      have hF:=aM (bF (gB dO.out) hb)
      have eH:=aM (bG (gW HB.out) hb)
      clear cK
      clear cT
      clear cU
      clear cV
      clear cM
      clear lT
      clear tJ
      clear Ca
      clear cO
      clear dO
      clear HB
      have cK:=bY
      have cT:=bZ
      have cU:=cA
      have cV:=cC
      have cM:=cQ
      have lT:=dA
      have tJ:=dH
      have Ca:=eG
      have cO:=fK
      have dO:=hF
      have HB:=eH
      clear bY bZ cA cC cQ dA dH eG fK hF eH
      (try clear hb);(try clear hb2);(try clear hk);(try clear hi)
      refine hK.out _ _ ⟨(aG cO.out 0).trans rfl,(aG cO.out 1).trans rfl,(aG cO.out 2).trans rfl,(aG cO.out 3).trans rfl,(aG cO.out 4).trans rfl,(aG dO.out 0).trans rfl,(aG dO.out 1).trans rfl⟩ (fun hHeld=>?_)
      clear hK K
      refine norm_ (a':=?_) ?_ ?_
      rotate_left
      ·show Act.put _ (some 82) _=_
       simp only [pq]
       rfl
      refine pure_ (i:=30) (N:=some 83) (v:=?_) (a':=?_) #[T,T,T,T,T,T,T,T,T,T,T,T,T,T,T,T,T,T,T,T,T,T,T,T,T,T,T,T,T,T,T,F] rfl rfl (any_of HT_.out (by kernel_rfl)) (fun _ _ _ h=>h) (Or.inl ⟨by rfl,?_⟩) ?_ ?_
      rotate_left;(intro w';go_simp;with_reducible rfl);rotate_left;(simp only [pq];rfl)
      refine pure_ (i:=31) (N:=some 10) (v:=?_) (a':=?_) #[T,T,T,T,T,T,T,T,T,T,T,T,T,T,T,T,T,T,T,T,T,T,T,T,T,T,T,T,T,T,T,T] rfl rfl (any_of HT_.out (by kernel_rfl)) (fun _ _ _ h=>h) (Or.inl ⟨by rfl,?_⟩) ?_ ?_
      rotate_left;(intro w';go_simp;with_reducible rfl);rotate_left;(simp only [pq];rfl)
      refine done_ (done_of HT_.out (by kernel_rfl)) ?_
      try go_wp2
      go_ret
      exact⟨by first|rfl|(simp [errW_none,errW_some]<;>rfl)|(simp [*,errW_none,errW_some]<;>rfl),gW HB.out⟩
     ·replace c34:=Bool.eq_false_iff.mpr c34
      subst c34
      have H1:(none)=some r:=by rw [if_neg (show ¬(false=true) by decide)] at H;exact H
      clear H
      have H:=H1
      clear H1
      exact absurd H (by simp)
    ·replace c31:=Bool.eq_false_iff.mpr c31
     subst c31
     have H1:(none)=some r:=by rw [if_neg (show ¬(false=true) by decide)] at H;exact H
     clear H
     have H:=H1
     clear H1
     exact absurd H (by simp)
   ·replace c28:=Bool.eq_false_iff.mpr c28
    subst c28
    have H1:(none)=some r:=by rw [if_neg (show ¬(false=true) by decide)] at H;exact H
    clear H
    have H:=H1
    clear H1
    exact absurd H (by simp)
def regletlaw16_MachineMade.Pure:Prop:=∀(l0:List Int) (l1:List Int) (a2:Int) (a3:Int) (l4:List Int),l0.length≤maxLen→l0.length * 1≤140737488351232→(∀x∈l0,(Lit.int .u8 x).wf=true)→l1.length≤maxLen→l1.length * 1≤140737488351232→(∀x∈l1,(Lit.int .u8 x).wf=true)→(Lit.int .u8 a2).wf=true→(Lit.int .u8 a3).wf=true→l4.length≤maxLen→l4.length * 1≤140737488351232→(∀x∈l4,(Lit.int .u8 x).wf=true)→∃k,regletlaw16_MachineMade.f k l0 l1 a2 a3 l4=some true
theorem regletlaw16_MachineMade.walk (P:regletlaw16_MachineMade.Pure) (a0:Option Addr) (len0 cap0:Nat) (z0:List Int) (a1:Option Addr) (len1 cap1:Nat) (z1:List Int) (a2:Int) (a3:Int) (a4:Option Addr) (len4 cap4:Nat) (z4:List Int) (w:World) (w0:(a0=none∧len0=0∧cap0=0∧z0= [])∨∃x,a0=some x∧len0≤cap0∧cap0≤maxLen∧z0.length=cap0∧(∀i,i<z0.length→w.cell? (x.add i)=some (.int .u8 (z0.getD i 0)))∧∀n∈z0,(Lit.int .u8 n).wf=true) (y0:len0 * 1≤140737488351232) (w1:(a1=none∧len1=0∧cap1=0∧z1= [])∨∃x,a1=some x∧len1≤cap1∧cap1≤maxLen∧z1.length=cap1∧(∀i,i<z1.length→w.cell? (x.add i)=some (.int .u8 (z1.getD i 0)))∧∀n∈z1,(Lit.int .u8 n).wf=true) (y1:len1 * 1≤140737488351232) (w2:(Lit.int .u8 a2).wf=true) (w3:(Lit.int .u8 a3).wf=true) (w4:(a4=none∧len4=0∧cap4=0∧z4= [])∨∃x,a4=some x∧len4≤cap4∧cap4≤maxLen∧z4.length=cap4∧(∀i,i<z4.length→w.cell? (x.add i)=some (.int .u8 (z4.getD i 0)))∧∀n∈z4,(Lit.int .u8 n).wf=true) (y4:len4 * 1≤140737488351232):
 Calls Try.prog 4 #[.slice a0 len0 cap0,.slice a1 len1 cap1,.int .u8 a2,.int .u8 a3,.slice a4 len4 cap4] w fun e w'=>e= .returned (.bool true)∧Below w.heap.size w w':=by
 obtain⟨l0,rfl,hr0,hm0,hw0,hc0⟩:=ReadsInt.ofRowC w0
 obtain⟨l1,rfl,hr1,hm1,hw1,hc1⟩:=ReadsInt.ofRowC w1
 obtain⟨l4,rfl,hr4,hm4,hw4,hc4⟩:=ReadsInt.ofRowC w4
 obtain⟨k,h⟩:=P l0 l1 a2 a3 l4 hm0 y0 hw0 hm1 y1 hw1 w2 w3 hm4 y4 hw4
 refine(regletlaw16_MachineMade.calls k _ _ l0 _ _ l1 a2 a3 _ _ l4 true w (Kd.C_of_reads (d:=(0:Int)) (h1:=fun _=>rfl) hr0) hc0 (Kd.C_of_reads (d:=(0:Int)) (h1:=fun _=>rfl) hr1) hc1 (Kd.C_of_reads (d:=(0:Int)) (h1:=fun _=>rfl) hr4) hc4 h).mono ?_
 rintro e w' ⟨rfl,hd⟩
 exact⟨rfl,hd⟩
end Go.Proofs.Ytapjfnfengefpaa.P
end

section
namespace Go.Proofs.Ytapjfnfengefpaa.P
open Go.RowKit Go.Proofs.YtapjfnfengefpaaW.PrintWords Go.Proofs.YtapjfnfengefpaaW.PrintLast Go.Proofs.YtapjfnfengefpaaW.PrintMore Go.Proofs.Ytapjfnfengefpaa.R
set_option linter.unusedVariables false
set_option linter.unusedSimpArgs false
def oddP (token:Bool) (out:List Bool) (x:S43):Bool:=(x.f0 && !token)||(!x.f0 && !rdOf false out x.f1)
end Go.Proofs.Ytapjfnfengefpaa.P
end

section
namespace Go.Proofs.Ytapjfnfengefpaa.M
open Go.RowKit Go.Proofs.YtapjfnfengefpaaW.PrintWords Go.Proofs.YtapjfnfengefpaaW.PrintLast Go.Proofs.YtapjfnfengefpaaW.PrintMore Go.Proofs.Ytapjfnfengefpaa.P Go.Proofs.Ytapjfnfengefpaa.H
set_option linter.unusedVariables false
set_option linter.unusedSimpArgs false
abbrev Sym:=S43
abbrev Prod:=S35
abbrev Tok:=S72
theorem rdOf_mid {α:Type}(d:α) (p:List α) (x:α) (a:List α) (n:Int) (h:n=p.length):rdOf d (p++x::a) n=x:=by
 subst h;simp [rdOf]
theorem getD_mid {α:Type}(d:α) (p:List α) (x:α) (a:List α) (n:Int) (h:n=p.length):(p++x::a).getD n.toNat d=x:=by
 subst h;simp
theorem set_mid {α:Type}(p:List α) (x v:α) (a:List α) (n:Int) (h:n=p.length):(p++x::a).set n.toNat v=p++v::a:=by
 subst h;simp
theorem wrap_next {α:Type}(p:List α) (v:α) (h:p.length≤1000000):wrap64 ((p.length:Int)+1)=((p++ [v]).length:Int):=by
 rw [wrap64_id (by omega) (by omega)];simp
def orL (a b:List Bool):List Bool:=List.zipWith (· || ·) a b
def moreL:List Bool→List Bool→Bool
 |x::a,y::b=>(y && !x)||moreL a b
 |_,_=>false
theorem orL_length {a b:List Bool}(h:a.length=b.length):(orL a b).length=a.length:=by simp [orL,h]
theorem join_l0_ev:∀(a b pre preb:List Bool) (g:Bool),a.length=b.length→pre.length=preb.length→pre.length+a.length≤1000000→Ev (fun k=>regletref13_join.l0 k (pre++a) (preb++b) g (pre.length:Int)) (g||moreL a b,pre++orL a b)
 | [],[],pre,preb,g,_,h2,_=>by
  refine Ev.step (fun k=>by rw [regletref13_join.l0]) (Ev.neg (by simp) (Ev.some (by simp [moreL,orL])))
 |x::a,y::b,pre,preb,g,h1,h2,h3=>by
  have h1':a.length=b.length:=by simpa using h1
  simp only [List.length_cons] at h3
  have ih:=fun g v=>join_l0_ev a b (pre++ [v]) (preb++ [y]) g h1' (by simp [h2]) (by simp;omega)
  simp only [←wrap_next pre _ (show pre.length≤1000000 by omega),List.append_assoc,List.singleton_append] at ih
  refine Ev.step (fun k=>by rw [regletref13_join.l0]) ?_
  refine Ev.pos (by simp;omega) ?_
  rw [rdOf_mid _ preb y b _ (by rw [h2]),rdOf_mid _ pre x a _ rfl]
  simp only [set_mid _ _ _ _ _ rfl]
  cases g
  ·refine Ev.neg (by simp) (Ev.pos (by omega) (Ev.pos (by simp;omega) ?_))
   cases y<;>cases x
   ·exact Ev.neg (by simp) (Ev.neg (by simp) (Ev.val (ih _ _) (by simp [moreL,orL])))
   ·exact Ev.neg (by simp) (Ev.pos rfl (Ev.val (ih _ _) (by simp [moreL,orL])))
   ·exact Ev.pos rfl (Ev.neg (by simp) (Ev.val (ih _ _) (by simp [moreL,orL])))
   ·exact Ev.pos rfl (Ev.pos rfl (Ev.val (ih _ _) (by simp [moreL,orL])))
  ·refine Ev.pos rfl (Ev.pos (by omega) ?_)
   cases x
   ·exact Ev.neg (by simp) (Ev.pos (by simp;omega) (Ev.val (ih _ _) (by simp [moreL,orL])))
   ·exact Ev.pos rfl (Ev.val (ih _ _) (by simp [moreL,orL]))
theorem join_ev (a b:List Bool) (h1:a.length=b.length) (h2:a.length≤1000000):Ev (fun k=>regletref13_join.f k a b) (moreL a b,orL a b):=by
 exact Ev.congr (fun k=>by rw [regletref13_join.f]) (by simpa using join_l0_ev a b [] [] false h1 rfl (by simpa using h2):Ev (fun k=>regletref13_join.l0 k a b false 0) _)
def idx:Nat→List Bool→List Int
 |_,[]=> []
 |n,x::a=>if x=true then(n:Int)::idx (n+1) a else idx (n+1) a
theorem idx_length:∀(n:Nat) (a:List Bool),(idx n a).length≤a.length
 |_,[]=>by simp [idx]
 |n,x::a=>by have:=idx_length (n+1) a;unfold idx;split<;>simp<;>omega
theorem list_l0_ev:∀(a pre:List Bool) (out:List Int),out.length≤pre.length→pre.length+a.length≤1000000→Ev (fun k=>regletref13_list.l0 k (pre++a) out (pre.length:Int)) (out++idx pre.length a)
 | [],pre,out,_,_=>by
  refine Ev.step (fun k=>by rw [regletref13_list.l0]) (Ev.neg (by simp) (Ev.some (by simp [idx])))
 |x::a,pre,out,h2,h3=>by
  simp only [List.length_cons] at h3
  have ih:=fun out h=>list_l0_ev a (pre++ [x]) out h (by simp;omega)
  simp only [←wrap_next pre _ (show pre.length≤1000000 by omega),List.append_assoc,List.singleton_append] at ih
  refine Ev.step (fun k=>by rw [regletref13_list.l0]) ?_
  refine Ev.pos (by simp;omega) (Ev.pos (by omega) ?_)
  rw [rdOf_mid _ pre x a _ rfl]
  cases x
  ·exact Ev.neg (by simp) (Ev.val (ih out (by simp;omega)) (by simp [idx]))
  ·exact Ev.pos rfl (Ev.pos (by omega) (Ev.val (ih _ (by simp;omega)) (by simp [idx])))
theorem list_ev (a:List Bool) (h2:a.length≤1000000):Ev (fun k=>regletref13_list.f k a) (idx 0 a):=by
 exact Ev.congr (fun k=>by rw [regletref13_list.f]) (by simpa using list_l0_ev a [] [] (by simp) (by simpa using h2):Ev (fun k=>regletref13_list.l0 k a [] 0) _)
def idxs (m:List (List Bool)):List (List Int):=m.map (idx 0)
theorem lists_l0_ev:∀(m pre:List (List Bool)) (out:List (List Int)),out.length=pre.length→pre.length+m.length≤1000000→(∀r∈m,r.length≤1000000)→Ev (fun k=>regletref13_lists.l0 k (pre++m) out (pre.length:Int)) (out++idxs m)
 | [],pre,out,_,_,_=>by
  refine Ev.step (fun k=>by rw [regletref13_lists.l0]) (Ev.neg (by simp) (Ev.some (by simp [idxs])))
 |r::m,pre,out,h2,h3,h4=>by
  simp only [List.length_cons] at h3
  have ih:=lists_l0_ev m (pre++ [r]) (out++ [idx 0 r]) (by simp [h2]) (by simp;omega) (fun r hr=>h4 r (List.mem_cons_of_mem _ hr))
  simp only [←wrap_next pre _ (show pre.length≤1000000 by omega),List.append_assoc,List.singleton_append] at ih
  refine Ev.step (fun k=>by rw [regletref13_lists.l0]) ?_
  refine Ev.pos (by simp;omega) (Ev.pos (by omega) ?_)
  refine Ev.bind (a:=idx 0 r) (Ev.congr (fun k=>congrArg (regletref13_list.f k) (getD_mid _ pre r m _ rfl)) (list_ev r (h4 r List.mem_cons_self))) (Ev.pos (by omega) ?_)
  exact Ev.val ih (by simp [idxs])
theorem lists_ev (m:List (List Bool)) (h2:m.length≤1000000) (h4:∀r∈m,r.length≤1000000):Ev (fun k=>regletref13_lists.f k m) (idxs m):=by
 exact Ev.congr (fun k=>by rw [regletref13_lists.f]) (by simpa using lists_l0_ev m [] [] rfl (by simpa using h2) h4:Ev (fun k=>regletref13_lists.l0 k m [] 0) _)
theorem sameInts_l0_ev:∀(a pre:List Int),pre.length+a.length≤1000000→Ev (fun k=>regletref13_SameInts.l0 k (pre++a) (pre++a) (pre.length:Int)) true
 | [],pre,_=>Ev.step (fun k=>by rw [regletref13_SameInts.l0]) (Ev.neg (by simp) (Ev.some rfl))
 |x::a,pre,h3=>by
  simp only [List.length_cons] at h3
  have ih:=sameInts_l0_ev a (pre++ [x]) (by simp;omega)
  simp only [←wrap_next pre _ (show pre.length≤1000000 by omega),List.append_assoc,List.singleton_append] at ih
  exact Ev.step (fun k=>by rw [regletref13_SameInts.l0]) (Ev.pos (by simp;omega) (Ev.pos (by omega) (Ev.pos (by simp;omega) (Ev.pos rfl ih))))
theorem sameInts_ev (a:List Int) (h:a.length≤1000000):Ev (fun k=>regletref13_SameInts.f k a a) true:=
 Ev.congr (fun k=>by rw [regletref13_SameInts.f,if_pos rfl]) (by simpa using sameInts_l0_ev a [] (by simpa using h):Ev (fun k=>regletref13_SameInts.l0 k a a 0) _)
def Sh (nn nt:Nat) (m:List (List Bool)):Prop:=m.length=nn∧∀r∈m,r.length=nt+1
theorem Sh.get {nn nt:Nat}{m:List (List Bool)}(h:Sh nn nt m) {i:Nat}(hi:i<nn):(m.getD i []).length=nt+1:=by
 have hi':i<m.length:=by rw [h.1];exact hi
 rw [List.getD_eq_getElem?_getD,List.getElem?_eq_getElem hi']
 exact h.2 _ (List.getElem_mem hi')
theorem Sh.set {nn nt:Nat}{m:List (List Bool)}(h:Sh nn nt m) (i:Nat) {r:List Bool}(hr:r.length=nt+1):Sh nn nt (m.set i r):=
 ⟨by rw [List.length_set];exact h.1,fun r' hr'=>by
  rcases List.mem_or_eq_of_mem_set hr' with h1|rfl
  ·exact h.2 _ h1
  ·exact hr⟩
def bg (em:List Bool) (first:List (List Bool)):List Sym→List Bool→List Bool×Bool
 | [],out=>(out,true)
 |x::l,out=>if x.f0=true then(out.set x.f1.toNat true,false) else
  if em.getD x.f1.toNat false=true then bg em first l (orL out (first.getD x.f1.toNat [])) else(orL out (first.getD x.f1.toNat []),false)
theorem bg_length (em:List Bool) {first:List (List Bool)}{nn nt:Nat}(hs:Sh nn nt first):∀(l:List Sym) (out:List Bool),l.all (okSym nn nt)=true→out.length=nt+1→(bg em first l out).1.length=nt+1
 | [],out,_,h=>h
 |x::l,out,hl,h=>by
  simp only [List.all_cons,Bool.and_eq_true] at hl
  unfold bg
  split
  ·simpa using h
  ·rename_i hx
   have hn:x.f1.toNat<nn:=by
    have:=hl.1
    simp only [okSym,hx,if_neg,Bool.and_eq_true,decide_eq_true_eq] at this
    simp at this
    omega
   have ho:(orL out (first.getD x.f1.toNat [])).length=nt+1:=by rw [orL_length (by rw [h,hs.get hn]),h]
   split
   ·exact bg_length em hs l _ hl.2 ho
   ·exact ho
theorem okSym_tok {nn nt:Nat}{x:Sym}(h:okSym nn nt x=true) (hx:x.f0=true):0≤x.f1∧x.f1<(nt:Int):=by
 simp only [okSym,hx,if_pos,Bool.and_eq_true,decide_eq_true_eq] at h;exact h
theorem okSym_rule {nn nt:Nat}{x:Sym}(h:okSym nn nt x=true) (hx:x.f0=false):0≤x.f1∧x.f1<(nn:Int):=by
 simp [okSym,hx] at h;exact h
def none0 (nt:Nat):List Bool:=List.replicate (nt+1) false
theorem refBegins_l0_ev {nn nt:Nat}{em:List Bool}{first:List (List Bool)}(hs:Sh nn nt first) (he:em.length=nn) (hnt:nt≤1000):∀(l pre:List Sym) (out:List Bool),l.all (okSym nn nt)=true→out.length=nt+1→pre.length+l.length≤1000000→Ev (fun k=>regletref13_begins.l0 k (pre++l) first em out (pre.length:Int)) (bg em first l out)
 | [],pre,out,_,_,_=>Ev.step (fun k=>by rw [regletref13_begins.l0]) (Ev.neg (by simp) (Ev.some (by simp [bg])))
 |x::l,pre,out,hl,ho,h3=>by
  simp only [List.all_cons,Bool.and_eq_true] at hl
  simp only [List.length_cons] at h3
  have ih:=fun out ho=>refBegins_l0_ev hs he hnt l (pre++ [x]) out hl.2 ho (by simp;omega)
  simp only [←wrap_next pre _ (show pre.length≤1000000 by omega),List.append_assoc,List.singleton_append] at ih
  have e:rd_T43 (pre++x::l) (pre.length:Int)=x:=getD_mid _ pre x l _ rfl
  refine Ev.step (fun k=>by rw [regletref13_begins.l0]) ?_
  rw [e]
  refine Ev.pos (by simp;omega) (Ev.pos (by omega) ?_)
  cases hx:x.f0 with
  |true=>
   have hb:=okSym_tok hl.1 hx
   exact Ev.pos rfl (Ev.pos hb.1 (Ev.pos (by omega) (Ev.some (by simp [bg,hx]))))
  |false=>
   have hb:=okSym_rule hl.1 hx
   have hr:=hs.get (i:=x.f1.toNat) (by omega)
   have hs1:=hs.1
   refine Ev.neg (by simp) (Ev.pos hb.1 (Ev.pos (by omega) (Ev.bind (join_ev out (first.getD x.f1.toNat []) (by rw [ho,hr]) (by omega)) (Ev.pos (by omega) ?_))))
   have e2:rdOf false em x.f1=em.getD x.f1.toNat false:=rfl
   rw [e2]
   cases hem:em.getD x.f1.toNat false with
   |true=>exact Ev.pos rfl (Ev.val (ih _ (by rw [orL_length (by rw [ho,hr]),ho])) (by rw [bg,hx,if_neg (by simp),hem,if_pos rfl]))
   |false=>exact Ev.neg (by simp) (Ev.some (by rw [bg,hx,if_neg (by simp),hem,if_neg (by simp)]))
theorem refBegins_ev {nn:Nat}(l0:List ByteArray) (l1:List Tok) (a2 a3:Int) (l4:List Prod) {em:List Bool}{first:List (List Bool)}(hs:Sh nn l1.length first) (he:em.length=nn) (hnt:l1.length≤1000) (l:List Sym) (hl:l.all (okSym nn l1.length)=true) (h3:l.length≤1000000):Ev (fun k=>regletref13_begins.f k l0 l1 a2 a3 l4 l first em) (bg em first l (none0 l1.length)):=by
 have h:=refBegins_l0_ev hs he hnt l [] (List.replicate (l1.length+1) false) hl (by simp) (by simpa using h3)
 have e:wrap64 ((l1.length:Int)+1)=((l1.length+1:Nat):Int):=by rw [wrap64_id (by omega) (by omega)];simp
 refine Ev.congr (fun k=>by rw [regletref13_begins.f,e,if_pos (by omega),if_pos (by omega),Int.toNat_natCast]) (by simpa [none0] using h)
def gIn {σ:Type}(stp:σ→Prod→Bool×σ):List Prod→Bool→σ→Bool×σ
 | [],ag,st=>(ag,st)
 |p::ps,ag,st=>gIn stp ps ((stp st p).1||ag) (stp st p).2
def gOut {σ:Type}(stp:σ→Prod→Bool×σ) (ps:List Prod):Nat→σ→σ
 |0,st=>(gIn stp ps false st).2
 |n+1,st=>if(gIn stp ps false st).1=true then gOut stp ps n (gIn stp ps false st).2 else(gIn stp ps false st).2
def Good {σ:Type}(I:σ→Prop) (μ:σ→Nat) (stp:σ→Prod→Bool×σ) (ps:List Prod):Prop:=
 ∀st p,I st→p∈ps→I (stp st p).2∧μ (stp st p).2≤μ st∧((stp st p).1=true→μ (stp st p).2<μ st)
theorem gIn_good {σ:Type}{I:σ→Prop}{μ:σ→Nat}{stp:σ→Prod→Bool×σ}:∀{ps:List Prod},Good I μ stp ps→∀(ag:Bool) (st:σ),I st→I (gIn stp ps ag st).2∧μ (gIn stp ps ag st).2≤μ st∧((gIn stp ps ag st).1=true→ag=true∨μ (gIn stp ps ag st).2<μ st)
 | [],_,ag,st,h=>⟨h,Nat.le_refl _,fun h=> .inl h⟩
 |p::ps,hg,ag,st,h=>by
  obtain⟨h1,h2,h3⟩:=hg st p h List.mem_cons_self
  obtain⟨h4,h5,h6⟩:=gIn_good (fun st p hI hp=>hg st p hI (List.mem_cons_of_mem _ hp)) ((stp st p).1||ag) _ h1
  refine⟨h4,Nat.le_trans h5 h2,fun h=>?_⟩
  rcases h6 h with h7|h7
  ·rcases(Bool.or_eq_true _ _).mp h7 with h8|h8
   ·exact .inr (Nat.lt_of_le_of_lt h5 (h3 h8))
   ·exact .inl h8
  ·exact .inr (Nat.lt_of_lt_of_le h7 h2)
theorem gOut_I {σ:Type}{I:σ→Prop}{μ:σ→Nat}{stp:σ→Prod→Bool×σ}{ps:List Prod}(hg:Good I μ stp ps):∀(n:Nat) (st:σ),I st→I (gOut stp ps n st)
 |0,st,h=>(gIn_good hg false st h).1
 |n+1,st,h=>by
  unfold gOut
  split
  ·exact gOut_I hg n _ (gIn_good hg false st h).1
  ·exact(gIn_good hg false st h).1
def cf:List Bool→Nat
 | []=>0
 |x::a=>(if x=true then 0 else 1)+cf a
theorem cf_orL:∀(a b:List Bool),a.length=b.length→cf (orL a b)≤cf a∧(moreL a b=true→cf (orL a b)<cf a)
 | [],[],_=>by simp [orL,cf,moreL]
 |x::a,y::b,h=>by
  obtain⟨h1,h2⟩:=cf_orL a b (by simpa using h)
  have e:orL (x::a) (y::b)=(x||y)::orL a b:=rfl
  rw [e]
  cases x<;>cases y<;>simp [cf,moreL]<;>first|exact⟨h1,h2⟩|(refine⟨by omega,fun h=>?_⟩;have:=h2 h;omega)|omega
theorem cf_set:∀(a:List Bool) (i:Nat),i<a.length→a.getD i false=false→cf (a.set i true)<cf a
 |x::a,0,_,h=>by
  have:x=false:=by simpa using h
  subst this;simp [cf]
 |x::a,i+1,hi,h=>by
  have:=cf_set a i (by simpa using hi) (by simpa using h)
  simp only [List.set_cons_succ,cf];omega
def cfs:List (List Bool)→Nat
 | []=>0
 |r::m=>cf r+cfs m
theorem cfs_set:∀(m:List (List Bool)) (i:Nat) (r:List Bool),i<m.length→cf r≤cf (m.getD i [])→cfs (m.set i r)≤cfs m∧(cf r<cf (m.getD i [])→cfs (m.set i r)<cfs m)
 |x::m,0,r,_,h=>by
  simp only [List.getD_cons_zero,List.set_cons_zero,cfs] at h ⊢
  omega
 |x::m,i+1,r,hi,h=>by
  have:=cfs_set m i r (by simpa using hi) (by simpa using h)
  simp only [List.getD_cons_succ,List.set_cons_succ,cfs] at h ⊢
  omega
def Small (ps:List Prod):Prop:=ps.length≤1000000∧∀p∈ps,p.f1.length≤1000000
theorem refRight_l1_ev (l0:List ByteArray) (l1:List Tok) (a2 a3:Int) (l4:List Prod) (x3 left:Int) (r:Bool):∀(l pre:List Sym),pre.length+l.length≤1000000→(l.all (okSym l0.length l1.length)=true→Ev (fun k=>regletref13_Right.l0 k (wrap64 (x3+1)) l0 l1 a2 a3 l4) r)→(l.all (okSym l0.length l1.length)=false→r=false)→Ev (fun k=>regletref13_Right.l1 k x3 (pre.length:Int) l0 l1 a2 a3 l4 left (pre++l)) r
 | [],pre,_,h1,_=>Ev.step (fun k=>by rw [regletref13_Right.l1]) (Ev.neg (by simp) (h1 rfl))
 |x::l,pre,h3,h1,h2=>by
  simp only [List.length_cons] at h3
  have ih:=refRight_l1_ev l0 l1 a2 a3 l4 x3 left r l (pre++ [x]) (by simp;omega)
  simp only [←wrap_next pre _ (show pre.length≤1000000 by omega),List.append_assoc,List.singleton_append] at ih
  have e:rd_T43 (pre++x::l) (pre.length:Int)=x:=getD_mid _ pre x l _ rfl
  refine Ev.step (fun k=>by rw [regletref13_Right.l1]) ?_
  rw [e]
  refine Ev.pos (by simp;omega) (Ev.pos (by omega) ?_)
  cases hx:x.f0 with
  |true=>
   refine Ev.pos rfl ?_
   by_cases h0:x.f1<0
   ·exact Ev.pos h0 (Ev.some (h2 (by simp [okSym,hx];omega)).symm)
   ·refine Ev.neg h0 ?_
    by_cases h5:x.f1≥(l1.length:Int)
    ·exact Ev.pos h5 (Ev.some (h2 (by simp [okSym,hx];omega)).symm)
    ·refine Ev.neg h5 (ih (fun h=>h1 ?_) (fun h=>h2 ?_))
     ·simp [okSym,hx, -List.all_eq_true];exact⟨by omega,h⟩
     ·rw [List.all_cons,h,Bool.and_false]
  |false=>
   refine Ev.neg (by simp) ?_
   by_cases h0:x.f1<0
   ·exact Ev.pos h0 (Ev.some (h2 (by simp [okSym,hx];omega)).symm)
   ·refine Ev.neg h0 ?_
    by_cases h5:x.f1≥(l0.length:Int)
    ·exact Ev.pos h5 (Ev.some (h2 (by simp [okSym,hx];omega)).symm)
    ·refine Ev.neg h5 (ih (fun h=>h1 ?_) (fun h=>h2 ?_))
     ·simp [okSym,hx, -List.all_eq_true];exact⟨by omega,h⟩
     ·rw [List.all_cons,h,Bool.and_false]
theorem refRight_l0_ev (l0:List ByteArray) (l1:List Tok) (a2 a3:Int):∀(qs pre:List Prod),pre.length+qs.length≤1000000→(∀p∈qs,p.f1.length≤1000000)→Ev (fun k=>regletref13_Right.l0 k (pre.length:Int) l0 l1 a2 a3 (pre++qs)) (qs.all (okProd l0.length l1.length))
 | [],pre,_,_=>Ev.step (fun k=>by rw [regletref13_Right.l0]) (Ev.neg (by simp) (Ev.some (by simp)))
 |p::qs,pre,h3,h4=>by
  simp only [List.length_cons] at h3
  have ih:=refRight_l0_ev l0 l1 a2 a3 qs (pre++ [p]) (by simp;omega) (fun p hp=>h4 p (List.mem_cons_of_mem _ hp))
  simp only [←wrap_next pre _ (show pre.length≤1000000 by omega),List.append_assoc,List.singleton_append] at ih
  have e:rd_T35 (pre++p::qs) (pre.length:Int)=p:=getD_mid _ pre p qs _ rfl
  refine Ev.step (fun k=>by rw [regletref13_Right.l0]) ?_
  rw [e]
  refine Ev.pos (by simp;omega) (Ev.pos (by omega) ?_)
  by_cases h0:p.f0<0
  ·refine Ev.pos h0 (Ev.step (fun k=>by rw [regletref13_Right.j1]) (Ev.pos rfl (Ev.some ?_)))
   simp [okProd];omega
  ·refine Ev.neg h0 (Ev.step (fun k=>by rw [regletref13_Right.j1]) ?_)
   by_cases h5:p.f0≥(l0.length:Int)
   ·refine Ev.pos (decide_eq_true h5) (Ev.some ?_)
    simp [okProd];omega
   ·refine Ev.neg (by simpa using h5) ?_
    have h:=refRight_l1_ev l0 l1 a2 a3 (pre++p::qs) (pre.length:Int) p.f0 ((p::qs).all (okProd l0.length l1.length)) p.f1 [] (by have:=h4 p List.mem_cons_self;simpa using this) (fun h=>Ev.val ih (by
     have:okProd l0.length l1.length p=true:=by simp only [okProd,h,Bool.and_true,Bool.and_eq_true,decide_eq_true_eq];omega
     rw [List.all_cons,this,Bool.true_and])) (fun h=>by
     have:okProd l0.length l1.length p=false:=by simp only [okProd,h,Bool.and_false]
     rw [List.all_cons,this,Bool.false_and])
    simpa only [List.nil_append,List.length_nil,Int.natCast_zero] using h
theorem refRight_ev (l0:List ByteArray) (l1:List Tok) (a2 a3:Int) (l4:List Prod) (h:Small l4):Ev (fun k=>regletref13_Right.f k l0 l1 a2 a3 l4) (l4.all (okProd l0.length l1.length)):=
 Ev.congr (fun k=>by rw [regletref13_Right.f]) (by simpa only [List.nil_append,List.length_nil,Int.natCast_zero] using refRight_l0_ev l0 l1 a2 a3 l4 [] (by have:=h.1;simpa using this) h.2)
def cNew (token:Bool) (out:List Bool) (p:Prod):Bool:=!(p.f1.any (oddP token out)) && !(out.getD p.f0.toNat false)
def cStep (token:Bool) (out:List Bool) (p:Prod):Bool×List Bool:=(cNew token out p,if cNew token out p=true then out.set p.f0.toNat true else out)
theorem okProd_left {nn nt:Nat}{p:Prod}(h:okProd nn nt p=true):0≤p.f0∧p.f0<(nn:Int):=by
 simp only [okProd,Bool.and_eq_true,decide_eq_true_eq] at h;exact h.1
theorem okProd_right {nn nt:Nat}{p:Prod}(h:okProd nn nt p=true):p.f1.all (okSym nn nt)=true:=by
 simp only [okProd,Bool.and_eq_true,decide_eq_true_eq] at h;exact h.2
theorem cStep_good (nn nt:Nat) (token:Bool) {ps:List Prod}(hps:ps.all (okProd nn nt)=true):Good (fun out:List Bool=>out.length=nn) cf (cStep token) ps:=by
 intro st p hI hp
 have hl:=okProd_left (List.all_eq_true.1 hps p hp)
 unfold cStep
 simp only
 cases hc:cNew token st p with
 |false=>simp [hI]
 |true=>
  have h0:st.getD p.f0.toNat false=false:=by
   simp only [cNew,Bool.and_eq_true,Bool.not_eq_true'] at hc;exact hc.2
  have h:=cf_set st p.f0.toNat (by omega) h0
  simp only [if_true]
  exact⟨by simpa using hI,Nat.le_of_lt h,fun _=>h⟩
def clo (token:Bool) (nn:Nat) (ps:List Prod):List Bool:=gOut (cStep token) ps (cf (List.replicate nn false)) (List.replicate nn false)
theorem clo_length (nn nt:Nat) (token:Bool) {ps:List Prod}(hps:ps.all (okProd nn nt)=true):(clo token nn ps).length=nn:=
 gOut_I (cStep_good nn nt token hps) _ _ (by simp)
theorem any_step (token:Bool) (out:List Bool) (x:Sym) (l:List Sym) (is:Bool):(is && !((x::l).any (oddP token out)))=((is && !(oddP token out x)) && !(l.any (oddP token out))):=by
 cases is<;>simp
theorem refEmpty_l2_ev (l0:List ByteArray) (l1:List Tok) (a2 a3:Int) (l4:List Prod) (out:List Bool) (more:Bool) (x5 left:Int) (hl0:0≤left) (hl1:left<(out.length:Int)) (h50:0≤x5) (h51:x5<(l4.length:Int)) (r:List Bool):∀(l pre:List Sym) (is:Bool),rd_T35 l4 x5=⟨left,pre++l⟩→l.all (okSym out.length l1.length)=true→pre.length+l.length≤1000000→
 Ev (fun k=>regletref13_Empty.l1 k (if((is && !(l.any (oddP false out))) && !(out.getD left.toNat false))=true then out.set left.toNat true else out) (((is && !(l.any (oddP false out))) && !(out.getD left.toNat false))||more) (wrap64 (x5+1)) l0 l1 a2 a3 l4) r→Ev (fun k=>regletref13_Empty.l2 k out more x5 is (pre.length:Int) l0 l1 a2 a3 l4) r
 | [],pre,is,e,_,_,hk=>by
  refine Ev.step (fun k=>by rw [regletref13_Empty.l2]) ?_
  rw [e]
  have e2:rdOf false out left=out.getD left.toNat false:=rfl
  refine Ev.pos h50 (Ev.pos h51 (Ev.neg (by simp) ?_))
  rw [e2]
  cases is with
  |false=>exact Ev.neg (by simp) (by simpa using hk)
  |true=>
   refine Ev.pos rfl (Ev.pos hl0 (Ev.pos hl1 ?_))
   cases ho:out.getD left.toNat false with
   |true=>exact Ev.pos rfl (by rw [ho] at hk;simpa using hk)
   |false=>exact Ev.neg (by simp) (by rw [ho] at hk;simpa using hk)
 |x::l,pre,is,e,hok,h3,hk=>by
  simp only [List.length_cons] at h3
  simp only [List.all_cons,Bool.and_eq_true] at hok
  have ih:=fun is=>refEmpty_l2_ev l0 l1 a2 a3 l4 out more x5 left hl0 hl1 h50 h51 r l (pre++ [x]) is (by rw [List.append_assoc];exact e) hok.2 (by simp;omega)
  simp only [←wrap_next pre _ (show pre.length≤1000000 by omega)] at ih
  rw [any_step] at hk
  have e1:rd_T43 (pre++x::l) (pre.length:Int)=x:=getD_mid _ pre x l _ rfl
  refine Ev.step (fun k=>by rw [regletref13_Empty.l2]) ?_
  rw [e]
  simp only [e1]
  refine Ev.pos h50 (Ev.pos h51 (Ev.pos (by simp;omega) (Ev.pos (by omega) ?_)))
  cases is with
  |false=>exact Ev.neg (by simp) (ih false (by rw [Bool.false_and] at hk;exact hk))
  |true=>
   refine Ev.pos rfl ?_
   have hb:=hok.1
   cases hx:x.f0 with
   |true=>
    have ho:oddP false out x=true:=by simp [oddP,hx]
    rw [ho] at hk
    exact Ev.pos rfl (ih false hk)
   |false=>
    have hb:=okSym_rule hok.1 hx
    have ho:(true && !oddP false out x)=rdOf false out x.f1:=by simp [oddP,hx]
    rw [ho] at hk
    exact Ev.neg (by simp) (Ev.pos hb.1 (Ev.pos hb.2 (ih _ hk)))
theorem refEmpty_l1_ev (l0:List ByteArray) (l1:List Tok) (a2 a3:Int) (r:List Bool):∀(qs pre:List Prod) (out:List Bool) (more:Bool),out.length=l0.length→qs.all (okProd l0.length l1.length)=true→pre.length+qs.length≤1000000→(∀p∈qs,p.f1.length≤1000000)→Ev (fun k=>regletref13_Empty.l0 k (gIn (cStep false) qs more out).2 (gIn (cStep false) qs more out).1 l0 l1 a2 a3 (pre++qs)) r→Ev (fun k=>regletref13_Empty.l1 k out more (pre.length:Int) l0 l1 a2 a3 (pre++qs)) r
 | [],pre,out,more,_,_,_,_,hk=>Ev.step (fun k=>by rw [regletref13_Empty.l1]) (Ev.neg (by simp) (by simpa [gIn] using hk))
 |p::qs,pre,out,more,ho,hok,h3,h4,hk=>by
  simp only [List.length_cons] at h3
  simp only [List.all_cons,Bool.and_eq_true] at hok
  have ih:=fun out more ho=>refEmpty_l1_ev l0 l1 a2 a3 r qs (pre++ [p]) out more ho hok.2 (by simp;omega) (fun p hp=>h4 p (List.mem_cons_of_mem _ hp))
  simp only [←wrap_next pre _ (show pre.length≤1000000 by omega),List.append_assoc,List.singleton_append] at ih
  refine Ev.step (fun k=>by rw [regletref13_Empty.l1]) (Ev.pos (by simp;omega) ?_)
  have hl:=okProd_left hok.1
  have e:rd_T35 (pre++p::qs) (pre.length:Int)=⟨p.f0,[]++p.f1⟩:=getD_mid _ pre p qs _ rfl
  have h:=refEmpty_l2_ev l0 l1 a2 a3 (pre++p::qs) out more (pre.length:Int) p.f0 hl.1 (by omega) (by omega) (by simp;omega) r p.f1 [] true e (by rw [ho];exact okProd_right hok.1) (by have:=h4 p List.mem_cons_self;simpa using this)
  refine h ?_
  rw [gIn] at hk
  have hlen:(cStep false out p).2.length=l0.length:=by unfold cStep;simp only;split<;>simp [ho]
  have h2:=ih _ _ hlen hk
  have e2:((true && !(p.f1.any (oddP false out))) && !(out.getD p.f0.toNat false))=cNew false out p:=by simp [cNew]
  rw [e2]
  exact h2
theorem refEmpty_l0_ev (l0:List ByteArray) (l1:List Tok) (a2 a3:Int) (l4:List Prod) (hs:Small l4) (hok:l4.all (okProd l0.length l1.length)=true):∀(n:Nat) (out:List Bool),out.length=l0.length→cf out≤n→Ev (fun k=>regletref13_Empty.l0 k out true l0 l1 a2 a3 l4) (gOut (cStep false) l4 n out)
 |n,out,ho,hn=>by
  obtain⟨h1,h2,h3⟩:=gIn_good (cStep_good l0.length l1.length false hok) false out ho
  refine Ev.step (fun k=>by rw [regletref13_Empty.l0]) (Ev.pos rfl ?_)
  have h:=refEmpty_l1_ev l0 l1 a2 a3 (gOut (cStep false) l4 n out) l4 [] out false ho hok (by have:=hs.1;simpa using this) hs.2
  simp only [List.nil_append,List.length_nil,Int.natCast_zero] at h
  refine h ?_
  cases hr:(gIn (cStep false) l4 false out).1 with
  |false=>
   refine Ev.step (fun k=>by rw [regletref13_Empty.l0]) (Ev.neg (by simp) (Ev.some ?_))
   cases n<;>simp [gOut,hr]
  |true=>
   have hlt:=(h3 hr).resolve_left (by simp)
   cases n with
   |zero=>omega
   |succ n=>
    refine Ev.val (refEmpty_l0_ev l0 l1 a2 a3 l4 hs hok n _ h1 (by omega)) ?_
    rw [gOut,if_pos hr]
theorem refEmpty_ev (l0:List ByteArray) (l1:List Tok) (a2 a3:Int) (l4:List Prod) (h:Small l4) (hn:l0.length≤1000000):Ev (fun k=>regletref13_Empty.f k l0 l1 a2 a3 l4) (if l4.all (okProd l0.length l1.length)=true then clo false l0.length l4 else []):=by
 refine Ev.congr (fun k=>by rw [regletref13_Empty.f]) (Ev.bind (refRight_ev l0 l1 a2 a3 l4 h) ?_)
 cases hr:l4.all (okProd l0.length l1.length) with
 |false=>exact Ev.neg (by simp) (Ev.some (by simp))
 |true=>
  rw [if_pos rfl]
  refine Ev.pos rfl (Ev.pos (by omega) (Ev.pos (by omega) ?_))
  rw [Int.toNat_natCast]
  exact refEmpty_l0_ev l0 l1 a2 a3 l4 h hr _ _ (by simp) (Nat.le_refl _)
theorem wrapNext {α:Type}(p:List α) (v:α) (h:p.length≤1000000000000):wrap64 ((p.length:Int)+1)=((p++ [v]).length:Int):=by
 rw [wrap64_id (by omega) (by omega)];simp
section
variable {l0:List ByteArray}{l1:List Tok}{a2 a3:Int}{ps:List Prod}
theorem r16_l1_ev {tb:List (List Int)}{pre:List (List Int)}{row:List Int}{rest:List (List Int)}(et:tb=pre++row::rest) (hn:row.length≤1000000000) {rn:Bool}(hk:Ev (fun k=>regletref16_Right.l0 k tb (wrap64 ((pre.length:Int)+1)) l0 l1 a2 a3 ps) rn):∀(b a:List Int),row=a++b→
 Ev (fun k=>regletref16_Right.l1 k tb (pre.length:Int) (a.length:Int) l0 l1 a2 a3 ps) (b.all (okEnt ps (pre.length:Int)) && rn)
 | [],a,e=>by
  have er:rd_L5 tb (pre.length:Int)=row:=by rw [et];exact getD_mid _ pre row rest _ rfl
  have hl:(pre.length:Int)<(tb.length:Int):=by rw [et];simp;omega
  refine Ev.step (fun k=>by rw [regletref16_Right.l1]) (Ev.pos (by omega) (Ev.pos hl ?_))
  rw [er]
  exact Ev.neg (by rw [e];simp) hk
 |q::b,a,e=>by
  have er:rd_L5 tb (pre.length:Int)=row:=by rw [et];exact getD_mid _ pre row rest _ rfl
  have hl:(pre.length:Int)<(tb.length:Int):=by rw [et];simp;omega
  have eq_:rd row (a.length:Int)=q:=by rw [e];exact getD_mid _ a q b _ rfl
  have ha:a.length<row.length:=by rw [e];simp
  have ih:=r16_l1_ev et hn hk b (a++ [q]) (by rw [List.append_assoc];exact e)
  rw [←wrapNext a q (by omega)] at ih
  refine Ev.step (fun k=>by rw [regletref16_Right.l1]) (Ev.pos (by omega) (Ev.pos hl ?_))
  rw [er,eq_]
  refine Ev.pos (by omega) (Ev.pos (by omega) ?_)
  rw [List.all_cons]
  by_cases h1:q< -1
  ·refine Ev.pos h1 (Ev.some ?_)
   simp only [okEnt,decide_eq_false (show ¬ -1≤q by omega),Bool.false_and]
  ·refine Ev.neg h1 ?_
   by_cases h2:q≥(ps.length:Int)
   ·refine Ev.pos h2 (Ev.some ?_)
    simp only [okEnt,decide_eq_false (show ¬q<(ps.length:Int) by omega),Bool.and_false,Bool.false_and]
   ·refine Ev.neg h2 ?_
    by_cases h3:q≥0
    ·refine Ev.pos h3 (Ev.pos h3 (Ev.pos (by omega) ?_))
     by_cases h4:(rd_T35 ps q).f0=(pre.length:Int)
     ·refine Ev.pos h4 (Ev.val ih ?_)
      simp only [okEnt,decide_eq_true (show -1≤q by omega),decide_eq_true (show q<(ps.length:Int) by omega),decide_eq_true h4,Bool.or_true,Bool.and_true,Bool.true_and]
     ·refine Ev.neg h4 (Ev.some ?_)
      simp only [okEnt,decide_eq_false (show ¬q<0 by omega),decide_eq_false h4,Bool.or_false,Bool.and_false,Bool.false_and]
    ·refine Ev.neg h3 (Ev.val ih ?_)
     simp only [okEnt,decide_eq_true (show -1≤q by omega),decide_eq_true (show q<(ps.length:Int) by omega),decide_eq_true (show q<0 by omega),Bool.true_or,Bool.and_true,Bool.true_and]
theorem r16_l0_ev {tb:List (List Int)}(hl1:l1.length≤1000000000) (hbig:tb.length≤1000000000) (hrow:∀r∈tb,r.length≤1000000000):∀(rest pre:List (List Int)),tb=pre++rest→
 Ev (fun k=>regletref16_Right.l0 k tb (pre.length:Int) l0 l1 a2 a3 ps) (rowsOk l1.length ps pre.length rest)
 | [],pre,e=>by
  refine Ev.step (fun k=>by rw [regletref16_Right.l0]) ?_
  exact Ev.neg (by rw [e];simp) (Ev.some rfl)
 |row::rest,pre,e=>by
  have er:rd_L5 tb (pre.length:Int)=row:=by rw [e];exact getD_mid _ pre row rest _ rfl
  have hl:pre.length<tb.length:=by rw [e];simp
  have ih:=r16_l0_ev hl1 hbig hrow rest (pre++ [row]) (by rw [List.append_assoc];exact e)
  rw [←wrapNext pre row (by omega)] at ih
  refine Ev.step (fun k=>by rw [regletref16_Right.l0]) (Ev.pos (by omega) (Ev.pos (by omega) ?_))
  rw [er,wrap64_id (by omega) (by omega)]
  by_cases h:(row.length:Int)=(l1.length:Int)+1
  ·refine Ev.pos h (Ev.val (r16_l1_ev e (hrow row (by rw [e];simp)) ih row [] rfl) ?_)
   rw [rowsOk,decide_eq_true (by omega:row.length=l1.length+1),Bool.true_and]
   simp
  ·refine Ev.neg h (Ev.some ?_)
   rw [rowsOk,decide_eq_false (by omega:¬row.length=l1.length+1),Bool.false_and,Bool.false_and]
theorem refRight16_ev {tb:List (List Int)}(hs:Small ps) (hl1:l1.length≤1000000000) (hbig:tb.length≤1000000000) (hrow:∀r∈tb,r.length≤1000000000):Ev (fun k=>regletref16_Right.f k l0 l1 a2 a3 ps tb) (tbRight l0.length l1.length ps tb):=by
 refine Ev.congr (fun k=>by rw [regletref16_Right.f]) (Ev.bind (refRight_ev l0 l1 a2 a3 ps hs) ?_)
 have hno:Ev (fun k=>regletref16_Right.j0 k tb true l0 l1 a2 a3 ps) false:=Ev.step (fun k=>by rw [regletref16_Right.j0]) (Ev.pos rfl (Ev.some rfl))
 unfold tbRight
 cases hr:ps.all (okProd l0.length l1.length) with
 |false=>exact Ev.neg (by simp) (Ev.val hno (by simp))
 |true=>
  refine Ev.pos rfl ?_
  by_cases h0:(l0.length:Int)=0
  ·exact Ev.pos h0 (Ev.val hno (by simp [show l0.length=0 by omega]))
  refine Ev.neg h0 ?_
  by_cases ht:tb.length=l0.length
  rotate_left
  ·have e1:((tb.length:Int) !=(l0.length:Int))=true:=by simp;omega
   rw [e1]
   exact Ev.val hno (by rw [decide_eq_false ht];simp)
  have e1:((tb.length:Int) !=(l0.length:Int))=false:=by simp [ht]
  rw [e1]
  refine Ev.step (fun k=>by rw [regletref16_Right.j0]) ?_
  refine Ev.neg (by simp) (Ev.val (r16_l0_ev hl1 hbig hrow tb [] rfl) ?_)
  rw [decide_eq_false (by omega:¬l0.length=0),decide_eq_true ht]
  simp
theorem stack_ev {st:List Sym}(h0:l0.length≠0) (hst:st.length≤1000000):Ev (fun k=>regletref16_stack.f k l0 l1 a2 a3 ps st) (stAwaits l0.length l1.length st):=by
 refine Ev.congr (fun k=>by rw [regletref16_stack.f]) (Ev.bind (refRight_ev l0 l1 a2 a3 [(⟨0,st⟩:Prod)] ⟨by simp,fun p hp=>by rw [List.mem_singleton.1 hp];exact hst⟩) ?_)
 refine Ev.some ?_
 have h1:(0:Int)<(l0.length:Int):=by omega
 have h2:0<l0.length:=by omega
 simp [stAwaits,okProd,h1,h2,Bool.and_comm]
theorem push_ev {tb:List (List Int)}{look q:Int}{sp:List Int}{base r:List Sym}(hq0:0≤q) (hq1:q<(ps.length:Int)) (hr:(rd_T35 ps q).f1=r) (hrl:r.length≤1000000) (hb:base.length≤1000000) {X:List Sym×Bool×List Int×Int}
 (hk:Ev (fun k=>if((base++r.reverse).length:Int)>10000 then(some (([]:List Sym),true,([]:List Int),2)) else(if(sp.length:Int)>10000 then(some (([]:List Sym),true,([]:List Int),2)) else(regletref16_Feed.l0 k tb look (base++r.reverse) sp l0 l1 a2 a3 ps))) X):∀j:Nat,j≤r.length→
 Ev (fun k=>regletref16_Feed.l1 k tb look (base++(r.drop j).reverse) sp q ((j:Int) - 1) l0 l1 a2 a3 ps) X
 |0,_=>by
  refine Ev.step (fun k=>by rw [regletref16_Feed.l1]) (Ev.neg (by omega) ?_)
  rw [List.drop_zero]
  exact hk
 |j+1,hj=>by
  have ih:=push_ev hq0 hq1 hr hrl hb hk j (by omega)
  have e0:((j+1:Nat):Int) - 1=(j:Int):=by push_cast;omega
  have e1:wrap64 ((j:Int) - 1)=(j:Int) - 1:=wrap64_id (by omega) (by omega)
  have e2:r.drop j=r[j]::r.drop (j+1):=List.drop_eq_getElem_cons (by omega)
  have e3:rd_T43 r (j:Int)=r[j]:=by
   rw [rd_T43,Int.toNat_natCast,List.getD_eq_getElem?_getD,List.getElem?_eq_getElem (by omega)];rfl
  rw [e0]
  refine Ev.step (fun k=>by rw [regletref16_Feed.l1]) (Ev.pos (by omega) (Ev.pos hq0 (Ev.pos hq1 (Ev.pos (by omega) ?_))))
  rw [hr,e1,e3]
  refine Ev.pos (by omega) (Ev.pos (by simp only [List.length_append,List.length_reverse,List.length_drop];omega) ?_)
  rw [e2,List.reverse_cons,←List.append_assoc] at ih
  exact ih
theorem feed_l0_ev {tb:List (List Int)}{look:Int}(hps:ps.all (okProd l0.length l1.length)=true) (htab:TabOk l0.length l1.length ps tb) (hl0:0≤look) (hl1:look≤(l1.length:Int)) (hsz:∀p∈ps,p.f1.length≤1000000):∀(m:Nat) (st:List Sym) (sp:List Int) (R:Int×List Sym×List Int),mFeed l1.length ps tb look m st sp=some R→st.all (okSym l0.length l1.length)=true→st.length≤1000000→sp.length≤10000→
 Ev (fun k=>regletref16_Feed.l0 k tb look st.reverse sp l0 l1 a2 a3 ps) (mOut (some R))
 |0,_,_,_,h,_,_,_=>by simp [mFeed] at h
 |m+1,[],sp,R,h,_,_,_=>by
  rw [mFeed] at h
  have h:=(Option.some.inj h).symm
  subst h
  refine Ev.step (fun k=>by rw [regletref16_Feed.l0]) (Ev.neg (by simp) ?_)
  by_cases hk:look<(l1.length:Int)
  ·refine Ev.pos hk (Ev.some ?_)
   rw [if_pos hk]
   rfl
  ·refine Ev.neg hk (Ev.some ?_)
   rw [if_neg hk]
   rfl
 |m+1,x::st,sp,R,h,hok,hst,hsp=>by
  rw [mFeed] at h
  simp only [List.length_cons] at hst
  rw [List.all_cons,Bool.and_eq_true] at hok
  obtain⟨hx,hok⟩:=hok
  have hlen:((x::st).reverse.length:Int)=(st.length:Int)+1:=by simp
  have e1:wrap64 (((x::st).reverse.length:Int) - 1)=(st.length:Int):=by rw [hlen,wrap64_id (by omega) (by omega)];omega
  have e2:rd_T43 (x::st).reverse (st.length:Int)=x:=by rw [rd_T43,Int.toNat_natCast];simp
  have e3:(x::st).reverse.take (st.length:Int).toNat=st.reverse:=by rw [Int.toNat_natCast];simp
  refine Ev.step (fun k=>by rw [regletref16_Feed.l0]) (Ev.pos (by omega) ?_)
  rw [e1,e2,e3]
  refine Ev.pos (by omega) (Ev.pos (by omega) (Ev.pos (by omega) (Ev.bind0 rfl ?_)))
  cases hxf:x.f0 with
  |true=>
   refine Ev.pos rfl ?_
   by_cases hxl:x.f1=look
   ·rw [if_pos ⟨hxf,hxl⟩] at h
    have h:=(Option.some.inj h).symm
    subst h
    exact Ev.pos hxl (Ev.some (by simp [mOut]))
   ·rw [if_neg (fun h=>hxl h.2),if_pos (.inl hxf)] at h
    have h:=(Option.some.inj h).symm
    subst h
    exact Ev.neg hxl (Ev.some (by simp [mOut]))
  |false=>
   rw [if_neg (fun h=>by rw [hxf] at h;cases h.1)] at h
   refine Ev.neg (by simp) ?_
   obtain⟨hx0,hx1⟩:0≤x.f1∧x.f1<(l0.length:Int):=by simpa [okSym,hxf] using hx
   have htl:=htab.1
   obtain⟨hrl,hrq⟩:=htab.2 x.f1.toNat (by omega)
   have er:rd_L5 tb x.f1=tb.getD x.f1.toNat []:=rfl
   have eq_:rd (tb.getD x.f1.toNat []) look=mEnt tb x.f1 look:=rfl
   have hrm:mEnt tb x.f1 look<(ps.length:Int):=hrq _ (by
    unfold mEnt
    generalize tb.getD x.f1.toNat []=row at hrl ⊢
    rw [List.getD_eq_getElem?_getD,List.getElem?_eq_getElem (by omega)]
    exact List.getElem_mem _)
   rw [er,eq_]
   refine Ev.pos hx0 (Ev.pos (by omega) (Ev.pos hl0 (Ev.pos (by omega) ?_)))
   generalize mEnt tb x.f1 look=q at h hrm ⊢
   by_cases hq:q<0
   ·rw [if_pos (.inr hq)] at h
    have h:=(Option.some.inj h).symm
    subst h
    exact Ev.pos hq (Ev.some (by simp [mOut]))
   ·rw [if_neg (fun h=>by rcases h with h|h;rw [hxf] at h;cases h;exact hq h)] at h
    have hm:rd_T35 ps q∈ps:=by
     rw [rd_T35,List.getD_eq_getElem?_getD,List.getElem?_eq_getElem (by omega)]
     exact List.getElem_mem _
    have hpl:=hsz _ hm
    have hpo:=List.all_eq_true.1 hps _ hm
    generalize hr:(rd_T35 ps q).f1=r at h hpl ⊢
    have hro:r.all (okSym l0.length l1.length)=true:=by
     rw [←hr]
     simp only [okProd,Bool.and_eq_true] at hpo
     exact hpo.2
    refine Ev.neg hq (Ev.pos (by omega) (Ev.pos (by omega) (Ev.pos hrm ?_)))
    have e4:wrap64 ((r.length:Int) - 1)=(r.length:Int) - 1:=wrap64_id (by omega) (by omega)
    rw [e4]
    have hpush:=push_ev (l0:=l0) (l1:=l1) (a2:=a2) (a3:=a3) (ps:=ps) (tb:=tb) (look:=look) (q:=q) (sp:=sp++ [q]) (base:=st.reverse) (r:=r) (X:=mOut (some R)) (by omega) hrm hr hpl (by rw [List.length_reverse];omega) ?_ r.length (Nat.le_refl _)
    ·rw [List.drop_length,List.reverse_nil,List.append_nil] at hpush
     exact hpush
    ·rw [←List.reverse_append,List.length_reverse]
     by_cases hc:(decide ((r++st).length≤10000) && decide ((sp++ [q]).length≤10000))=true
     ·rw [if_pos hc] at h
      simp only [Bool.and_eq_true,decide_eq_true_eq] at hc
      exact Ev.neg (by omega) (Ev.neg (by omega) (feed_l0_ev hps htab hl0 hl1 hsz m (r++st) (sp++ [q]) R h (by rw [List.all_append,hro,hok];rfl) (by omega) hc.2))
     ·rw [if_neg hc] at h
      have h:=(Option.some.inj h).symm
      subst h
      have e5:mOut (some ((2:Int),r++st,([]:List Int)))=([],true,[],2):=by simp [mOut]
      rw [e5]
      by_cases h1:(r++st).length≤10000
      ·have h2:¬(sp++ [q]).length≤10000:=fun h2=>hc (by simp only [Bool.and_eq_true,decide_eq_true_eq];exact⟨h1,h2⟩)
       exact Ev.neg (by omega) (Ev.pos (by omega) (Ev.some rfl))
      ·exact Ev.pos (by omega) (Ev.some rfl)
variable {tb:List (List Int)}
structure Fit (l1:List Tok) (ps:List Prod) (tb:List (List Int)):Prop where
 small:Small ps
 toks:l1.length≤1000000
 rows:tb.length≤100000000
 row:∀r∈tb,r.length≤100000000
theorem machFeed_val (hf:Fit l1 ps tb) (st:List Sym) (d:Bool) (look:Int):machine_Feed.f l0 l1 a2 a3 ps tb st d look=some (mFeedAll l0.length l1.length ps tb st d look):=by
 unfold machine_Feed.f
 rw [if_pos ⟨by have:=hf.toks;omega,by have:=hf.rows;omega,by have:=hf.small.1;omega,List.all_eq_true.2 (fun p hp=>decide_eq_true (hf.small.2 p hp)),List.all_eq_true.2 (fun r hr=>decide_eq_true (by have:=hf.row r hr;omega))⟩]
theorem machRight_val (hf:Fit l1 ps tb):machine_Right.f l0 l1 a2 a3 ps tb=some (tbRight l0.length l1.length ps tb):=by
 unfold machine_Right.f
 rw [if_pos ⟨by have:=hf.toks;omega,by have:=hf.rows;omega,by have:=hf.small.1;omega,List.all_eq_true.2 (fun p hp=>decide_eq_true (by have:=hf.small.2 p hp;omega)),List.all_eq_true.2 (fun r hr=>decide_eq_true (by have:=hf.row r hr;omega))⟩]
theorem refRight16_ev' (hf:Fit l1 ps tb):Ev (fun k=>regletref16_Right.f k l0 l1 a2 a3 ps tb) (tbRight l0.length l1.length ps tb):=
 refRight16_ev hf.small (by have:=hf.toks;omega) (by have:=hf.rows;omega) (fun r hr=>by have:=hf.row r hr;omega)
theorem tbRight_nn {nn nt:Nat}{ps:List Prod}{tb:List (List Int)}(h:tbRight nn nt ps tb=true):nn≠0:=by
 simp only [tbRight,Bool.and_eq_true,Bool.not_eq_true',decide_eq_false_iff_not] at h
 exact h.2.1
theorem refFeed_ev (hf:Fit l1 ps tb) (st:List Sym) (d:Bool) (look:Int) (hst:st.length≤1000000):Ev (fun k=>regletref16_Feed.f k l0 l1 a2 a3 ps tb st d look) (mFeedAll l0.length l1.length ps tb st d look):=by
 refine Ev.congr (fun k=>by rw [regletref16_Feed.f]) (Ev.bind (refRight16_ev' hf) ?_)
 have hno:Ev (fun k=>regletref16_Feed.j0 k tb look true l0 l1 a2 a3 ps st d) ([],true,[],1):=Ev.step (fun k=>by rw [regletref16_Feed.j0]) (Ev.pos rfl (Ev.some rfl))
 unfold mFeedAll
 cases hr:tbRight l0.length l1.length ps tb with
 |false=>
  refine Ev.neg (by simp) (Ev.val hno ?_)
  rw [if_neg (fun h=>by cases h.1)]
 |true=>
  refine Ev.pos rfl (Ev.bind (stack_ev (tbRight_nn hr) hst) ?_)
  cases ha:stAwaits l0.length l1.length st with
  |false=>
   refine Ev.neg (by simp) (Ev.val hno ?_)
   rw [if_neg (fun h=>by cases h.2.1)]
  |true=>
   refine Ev.pos rfl ?_
   by_cases h0:look<0
   ·refine Ev.pos h0 (Ev.val hno ?_)
    rw [if_neg (fun h=>by omega)]
   refine Ev.neg h0 ?_
   by_cases h1:look>(l1.length:Int)
   ·rw [decide_eq_true h1]
    refine Ev.val hno ?_
    rw [if_neg (fun h=>by omega)]
   rw [decide_eq_false h1]
   rw [if_pos ⟨rfl,rfl,by omega,by omega⟩]
   refine Ev.step (fun k=>by rw [regletref16_Feed.j0]) ?_
   refine Ev.neg (by simp) ?_
   cases d with
   |true=>exact Ev.pos rfl (Ev.some (by rw [if_pos rfl]))
   |false=>
    refine Ev.neg (by simp) (Ev.pos (by simp only [List.length_nil];omega) ?_)
    rw [if_neg (by simp),List.nil_append]
    obtain⟨R,hR⟩:=mFeed_some (nt:=l1.length) (ps:=ps) (tb:=tb) (look:=look) 10002 st.reverse [] (by omega) (by simp)
    rw [hR]
    have h:=feed_l0_ev (l0:=l0) (l1:=l1) (a2:=a2) (a3:=a3) (tbRight_prods hr) (tbRight_tab hr) (by omega) (by omega) hf.small.2 10002 st.reverse [] R hR (by rw [List.all_reverse];simp only [stAwaits,Bool.and_eq_true] at ha;exact ha.2) (by rw [List.length_reverse];exact hst) (by simp)
    rw [List.reverse_reverse] at h
    exact h
end
section
theorem same16_l0_ev (d:Bool):∀(a pre:List Sym),pre.length+a.length≤1000000→Ev (fun k=>regletref16_Same.l0 k (pre.length:Int) (pre++a) d (pre++a) d) true
 | [],pre,_=>by
  refine Ev.step (fun k=>by rw [regletref16_Same.l0]) ?_
  exact Ev.neg (by simp) (Ev.some rfl)
 |x::a,pre,h=>by
  simp only [List.length_cons] at h
  have ih:=same16_l0_ev d a (pre++ [x]) (by simp;omega)
  simp only [←wrap_next pre _ (show pre.length≤1000000 by omega),List.append_assoc,List.singleton_append] at ih
  refine Ev.step (fun k=>by rw [regletref16_Same.l0]) ?_
  exact Ev.pos (by simp;omega) (Ev.pos (by omega) (Ev.pos (by simp;omega) (Ev.neg (by simp) ih)))
theorem same16_ev (d:Bool) (a:List Sym) (h:a.length≤1000000):Ev (fun k=>regletref16_Same.f k a d a d) true:=by
 have h0:Ev (fun k=>regletref16_Same.j0 k false a d a d) true:=by
  refine Ev.step (fun k=>by rw [regletref16_Same.j0]) ?_
  exact Ev.neg (by simp) (by simpa using same16_l0_ev d a [] (by simpa using h):Ev (fun k=>regletref16_Same.l0 k 0 a d a d) _)
 refine Ev.congr (fun k=>by rw [regletref16_Same.f]) (Ev.neg (by simp) ?_)
 have e:((a.length:Int) !=(a.length:Int))=false:=by simp
 rw [e]
 exact h0
variable {l0:List ByteArray}{l1:List Tok}{a2 a3:Int}{ps:List Prod}{tb:List (List Int)}
theorem mFeed_len {nt:Nat}{ps:List Prod}{tb:List (List Int)}{look:Int}:∀(k:Nat) (st:List Sym) (sp:List Int) (R:Int×List Sym×List Int),mFeed nt ps tb look k st sp=some R→st.length≤10000→sp.length≤10000→R.2.2.length≤10000∧(R.1=0→R.2.1.length≤10000)
 |0,_,_,_,h,_,_=>by simp [mFeed] at h
 |k+1,[],sp,R,h,_,hs=>by
  rw [mFeed] at h
  have h:=(Option.some.inj h).symm
  subst h
  exact⟨hs,fun _=>by simp⟩
 |k+1,x::st,sp,R,h,hl,hs=>by
  rw [mFeed] at h
  simp only [List.length_cons] at hl
  split at h
  ·have h:=(Option.some.inj h).symm
   subst h
   exact⟨hs,fun _=>by simp only;omega⟩
  ·split at h
   ·have h:=(Option.some.inj h).symm
    subst h
    exact⟨hs,fun h=>by simp at h⟩
   ·split at h
    ·rename_i hc
     simp only [Bool.and_eq_true,decide_eq_true_eq] at hc
     exact mFeed_len k _ _ R h hc.1 hc.2
    ·have h:=(Option.some.inj h).symm
     subst h
     exact⟨by simp,fun h=>by simp at h⟩
theorem mFeedAll_len {nn nt:Nat}{ps:List Prod}{tb:List (List Int)}(st:List Sym) (d:Bool) (look:Int):(mFeedAll nn nt ps tb st d look).1.length≤10000∧(mFeedAll nn nt ps tb st d look).2.2.1.length≤10000:=by
 unfold mFeedAll
 split
 ·rename_i h
  split
  ·simp
  ·obtain⟨R,hR⟩:=mFeed_some (nt:=nt) (ps:=ps) (tb:=tb) (look:=look) 10002 st.reverse [] (by omega) (by simp)
   rw [hR]
   have ha:st.length≤10000:=by have:=h.2.1;simp only [stAwaits,Bool.and_eq_true,decide_eq_true_eq] at this;exact this.1
   have hl:=mFeed_len 10002 st.reverse [] R hR (by rw [List.length_reverse];exact ha) (by simp)
   obtain⟨e,s,p⟩:=R
   have em:mOut (some (e,s,p))=if e=0 then(s.reverse,false,p,0) else([],true,p,e):=rfl
   rw [em]
   split
   ·rename_i he
    exact⟨by rw [List.length_reverse];exact hl.2 he,hl.1⟩
   ·exact⟨by simp,hl.1⟩
 ·simp
theorem mFeedAll_bad {nn nt:Nat}{ps:List Prod}{tb:List (List Int)}(st:List Sym) (d:Bool) {look:Int}(h:¬(0≤look∧look≤(nt:Int))):mFeedAll nn nt ps tb st d look=([],true,[],1):=by
 unfold mFeedAll
 rw [if_neg (fun hh=>h hh.2.2)]
theorem fed_ev (hf:Fit l1 ps tb) (st:List Sym) (d:Bool) (look:Int) (hst:st.length≤1000000):Ev (fun k=>regletlaw16_fed.f k l0 l1 a2 a3 ps tb st d look) true:=by
 have hl:=mFeedAll_len (nn:=l0.length) (nt:=l1.length) (ps:=ps) (tb:=tb) st d look
 refine Ev.congr (fun k=>by rw [regletlaw16_fed.f]) (Ev.bind0 (machFeed_val hf st d look) (Ev.bind (refFeed_ev hf st d look hst) ?_))
 generalize mFeedAll l0.length l1.length ps tb st d look=r at hl ⊢
 refine Ev.bind (same16_ev _ _ (by omega)) (Ev.pos rfl (Ev.bind (sameInts_ev _ (by omega)) (Ev.pos rfl (Ev.pos rfl (Ev.bind0 (machRight_val hf) (Ev.bind (refRight16_ev' hf) ?_))))))
 exact Ev.some (by simp)
def mRun (nn nt:Nat) (ps:List Prod) (tb:List (List Int)):List Int→Nat→List Sym→Bool→List Int→List Int×Int×Int
 | [],i,st,d,out=>if(mFeedAll nn nt ps tb st d (nt:Int)).2.2.2=0 then(out++(mFeedAll nn nt ps tb st d (nt:Int)).2.2.1,0,0) else([],(mFeedAll nn nt ps tb st d (nt:Int)).2.2.2,(i:Int))
 |x::rest,i,st,d,out=>
  if x<0∨(nt:Int)≤x then([],1,(i:Int))
  else if(mFeedAll nn nt ps tb st d x).2.2.2=0 then mRun nn nt ps tb rest (i+1) (mFeedAll nn nt ps tb st d x).1 (mFeedAll nn nt ps tb st d x).2.1 (out++(mFeedAll nn nt ps tb st d x).2.2.1)
  else([],(mFeedAll nn nt ps tb st d x).2.2.2,(i:Int))
set_option maxRecDepth 100000 in
theorem len_step {a b c n:Nat}(h:n≤a+c+10000 * (b+1)) (h2:c≤10000):n≤a+10000 * (b+1+1):=by omega
set_option maxRecDepth 100000 in
theorem len_end {a c:Nat}(h2:c≤10000):a+c≤a+10000 * (0+1):=by omega
set_option maxRecDepth 100000 in
theorem len_ok {a b:Nat}(h:a≤0+10000 * (b+1)) (h2:b≤20):a≤1000000:=by omega
theorem mRun_len {nn nt:Nat}{ps:List Prod}{tb:List (List Int)}:∀(rest:List Int) (i:Nat) (st:List Sym) (d:Bool) (out:List Int),(mRun nn nt ps tb rest i st d out).1.length≤out.length+10000 * (rest.length+1)
 | [],i,st,d,out=>by
  have hl:=mFeedAll_len (nn:=nn) (nt:=nt) (ps:=ps) (tb:=tb) st d (nt:Int)
  rw [mRun]
  split
  ·rw [List.length_append,List.length_nil];exact len_end hl.2
  ·simp
 |x::rest,i,st,d,out=>by
  have hl:=mFeedAll_len (nn:=nn) (nt:=nt) (ps:=ps) (tb:=tb) st d x
  rw [mRun]
  split
  ·simp
  ·split
   ·have ih:=mRun_len (nn:=nn) (nt:=nt) (ps:=ps) (tb:=tb) rest (i+1) (mFeedAll nn nt ps tb st d x).1 (mFeedAll nn nt ps tb st d x).2.1 (out++(mFeedAll nn nt ps tb st d x).2.2.1)
    rw [List.length_append] at ih
    rw [List.length_cons]
    exact len_step ih hl.2
   ·simp
theorem machRun_l0_ev (hf:Fit l1 ps tb) {l:List Int}(hl:l.length≤1000000):∀(rest pre:List Int) (st:List Sym) (d:Bool) (out:List Int),l=pre++rest→out.length≤10000 * pre.length→
 Ev (fun k=>machine_Run.l0 k tb l out (l++ [(l1.length:Int)]) ((l++ [(l1.length:Int)]).length:Int) (pre.length:Int) l0 l1 a2 a3 ps st d) (mRun l0.length l1.length ps tb rest pre.length st d out)
 | [],pre,st,d,out,e,ho=>by
  rw [List.append_nil] at e
  subst e
  have hs:=mFeedAll_len (nn:=l0.length) (nt:=l1.length) (ps:=ps) (tb:=tb) st d (l1.length:Int)
  have er:rd (l++ [(l1.length:Int)]) (l.length:Int)=(l1.length:Int):=getD_mid _ l _ [] _ rfl
  have el:(l++ [(l1.length:Int)]).length=l.length+1:=by simp
  refine Ev.step (fun k=>by rw [machine_Run.l0]) (Ev.pos (by rw [el];omega) (Ev.pos (by omega) (Ev.pos (by rw [el];omega) (Ev.neg (by omega) ?_))))
  refine Ev.step (fun k=>by rw [machine_Run.j1]) (Ev.neg (by simp) ?_)
  rw [er]
  refine Ev.bind0 (machFeed_val hf st d _) ?_
  rw [mRun]
  by_cases h:(mFeedAll l0.length l1.length ps tb st d (l1.length:Int)).2.2.2=0
  ·rw [if_pos h]
   refine Ev.pos h (Ev.pos (by omega) ?_)
   refine Ev.step (fun k=>by rw [machine_Run.l0]) ?_
   refine Ev.neg ?_ (Ev.some rfl)
   rw [wrap64_id (by omega) (by omega),el]
   omega
  ·rw [if_neg h]
   exact Ev.neg h (Ev.some rfl)
 |x::rest,pre,st,d,out,e,ho=>by
  have hs:=mFeedAll_len (nn:=l0.length) (nt:=l1.length) (ps:=ps) (tb:=tb) st d x
  have hlt:pre.length<l.length:=by rw [e];simp
  have el:(l++ [(l1.length:Int)]).length=l.length+1:=by simp
  have er:rd (l++ [(l1.length:Int)]) (pre.length:Int)=x:=by rw [e,List.append_assoc];exact getD_mid _ pre x _ _ rfl
  refine Ev.step (fun k=>by rw [machine_Run.l0]) (Ev.pos (by rw [el];omega) (Ev.pos (by omega) (Ev.pos (by rw [el];omega) (Ev.pos (by omega) ?_))))
  rw [er]
  rw [mRun]
  by_cases hx:x=(l1.length:Int)
  ·rw [if_pos (.inr (by omega))]
   refine Ev.step (fun k=>by rw [machine_Run.j1]) (Ev.pos (by simp [hx]) (Ev.some rfl))
  ·refine Ev.step (fun k=>by rw [machine_Run.j1]) (Ev.neg (by simp [hx]) (Ev.bind0 (machFeed_val hf st d _) ?_))
   by_cases hb:x<0∨(l1.length:Int)≤x
   ·rw [if_pos hb,mFeedAll_bad st d (by omega)]
    refine Ev.neg (by simp) (Ev.some rfl)
   ·rw [if_neg hb]
    by_cases h:(mFeedAll l0.length l1.length ps tb st d x).2.2.2=0
    ·rw [if_pos h]
     refine Ev.pos h (Ev.pos (by omega) ?_)
     have ih:=machRun_l0_ev hf hl rest (pre++ [x]) (mFeedAll l0.length l1.length ps tb st d x).1 (mFeedAll l0.length l1.length ps tb st d x).2.1 (out++(mFeedAll l0.length l1.length ps tb st d x).2.2.1) (by rw [List.append_assoc];exact e) (by simp only [List.length_append,List.length_singleton];omega)
     rw [←wrap_next pre x (by omega),show(pre++ [x]).length=pre.length+1 by simp] at ih
     exact ih
    ·rw [if_neg h]
     exact Ev.neg h (Ev.some rfl)
theorem machRun_ev (hf:Fit l1 ps tb) {l:List Int}(hl:l.length≤1000000):Ev (fun k=>machine_Run.f k l0 l1 a2 a3 ps tb l) (mRun l0.length l1.length ps tb l 0 [⟨false,0⟩] false []):=by
 refine Ev.congr (fun k=>by rw [machine_Run.f]) ?_
 refine Ev.bind0 (a:=([(⟨false,0⟩:Sym)],false)) rfl ?_
 refine Ev.bind0 (a:=l) (by unfold slices_Clone_int_int.f;rw [if_pos (by omega)]) ?_
 refine Ev.bind0 (a:= [(l1.length:Int)]) rfl ?_
 refine Ev.pos (by rw [List.length_singleton];omega) ?_
 refine Ev.bind0 (a:=l++ [(l1.length:Int)]) rfl ?_
 exact machRun_l0_ev hf hl l [] [⟨false,0⟩] false [] rfl (by simp)
theorem refRun_l0_ev (hf:Fit l1 ps tb) {l:List Int}(hl:l.length≤1000000):∀(rest pre:List Int) (st:List Sym) (d:Bool) (out:List Int),l=pre++rest→out.length≤10000 * pre.length→st.length≤10000→
 Ev (fun k=>regletref16_Run.l0 k tb l out (pre.length:Int) l0 l1 a2 a3 ps st d) (mRun l0.length l1.length ps tb rest pre.length st d out)
 | [],pre,st,d,out,e,ho,hst=>by
  rw [List.append_nil] at e
  subst e
  have hs:=mFeedAll_len (nn:=l0.length) (nt:=l1.length) (ps:=ps) (tb:=tb) st d (l1.length:Int)
  refine Ev.step (fun k=>by rw [regletref16_Run.l0]) (Ev.pos (by omega) (Ev.neg (by omega) (Ev.bind (refFeed_ev hf st d _ (by omega)) ?_)))
  rw [mRun]
  by_cases h:(mFeedAll l0.length l1.length ps tb st d (l1.length:Int)).2.2.2=0
  ·rw [if_pos h]
   refine Ev.pos h (Ev.pos (by omega) ?_)
   refine Ev.step (fun k=>by rw [regletref16_Run.l0]) ?_
   refine Ev.neg ?_ (Ev.some rfl)
   rw [wrap64_id (by omega) (by omega)]
   omega
  ·rw [if_neg h]
   exact Ev.neg h (Ev.some rfl)
 |x::rest,pre,st,d,out,e,ho,hst=>by
  have hs:=mFeedAll_len (nn:=l0.length) (nt:=l1.length) (ps:=ps) (tb:=tb) st d x
  have hlt:pre.length<l.length:=by rw [e];simp
  have er:rd l (pre.length:Int)=x:=by rw [e];exact getD_mid _ pre x _ _ rfl
  refine Ev.step (fun k=>by rw [regletref16_Run.l0]) (Ev.pos (by omega) (Ev.pos (by omega) (Ev.pos (by omega) ?_)))
  rw [er]
  rw [mRun]
  have hj:∀b:Bool,b=decide (x<0∨(l1.length:Int)≤x)→Ev (fun k=>regletref16_Run.j1 k tb l out (pre.length:Int) x b l0 l1 a2 a3 ps st d) (if x<0∨(l1.length:Int)≤x then([],1,(pre.length:Int)) else if(mFeedAll l0.length l1.length ps tb st d x).2.2.2=0 then mRun l0.length l1.length ps tb rest (pre.length+1) (mFeedAll l0.length l1.length ps tb st d x).1 (mFeedAll l0.length l1.length ps tb st d x).2.1 (out++(mFeedAll l0.length l1.length ps tb st d x).2.2.1) else([],(mFeedAll l0.length l1.length ps tb st d x).2.2.2,(pre.length:Int))):=by
   intro b hb
   refine Ev.step (fun k=>by rw [regletref16_Run.j1]) ?_
   by_cases hx:x<0∨(l1.length:Int)≤x
   ·rw [if_pos hx]
    exact Ev.pos (by rw [hb];exact decide_eq_true hx) (Ev.some rfl)
   ·rw [if_neg hx]
    refine Ev.neg (by rw [hb,decide_eq_false hx];simp) (Ev.bind (refFeed_ev hf st d _ (by omega)) ?_)
    by_cases h:(mFeedAll l0.length l1.length ps tb st d x).2.2.2=0
    ·rw [if_pos h]
     refine Ev.pos h (Ev.pos (by omega) ?_)
     have ih:=refRun_l0_ev hf hl rest (pre++ [x]) (mFeedAll l0.length l1.length ps tb st d x).1 (mFeedAll l0.length l1.length ps tb st d x).2.1 (out++(mFeedAll l0.length l1.length ps tb st d x).2.2.1) (by rw [List.append_assoc];exact e) (by simp only [List.length_append,List.length_singleton];omega) hs.1
     rw [←wrap_next pre x (by omega),show(pre++ [x]).length=pre.length+1 by simp] at ih
     exact ih
    ·rw [if_neg h]
     exact Ev.neg h (Ev.some rfl)
  by_cases h0:x<0
  ·exact Ev.pos h0 (hj true (by simp [h0]))
  ·exact Ev.neg h0 (hj _ (by simp [h0]))
theorem refRun_ev (hf:Fit l1 ps tb) {l:List Int}(hl:l.length≤1000000):Ev (fun k=>regletref16_Run.f k l0 l1 a2 a3 ps tb l) (mRun l0.length l1.length ps tb l 0 [⟨false,0⟩] false []):=by
 refine Ev.congr (fun k=>by rw [regletref16_Run.f]) ?_
 refine Ev.bind0 (a:=([(⟨false,0⟩:Sym)],false)) rfl ?_
 exact refRun_l0_ev hf hl l [] [⟨false,0⟩] false [] rfl (by simp) (by simp)
theorem ran_ev (hf:Fit l1 ps tb) {l:List Int}(hl:l.length≤20):Ev (fun k=>regletlaw16_ran.f k l0 l1 a2 a3 ps tb l) true:=by
 have h:=mRun_len (nn:=l0.length) (nt:=l1.length) (ps:=ps) (tb:=tb) l 0 [⟨false,0⟩] false []
 refine Ev.congr (fun k=>by rw [regletlaw16_ran.f]) (Ev.bind (machRun_ev hf (Nat.le_trans hl (by decide))) (Ev.bind (refRun_ev hf (Nat.le_trans hl (by decide))) ?_))
 generalize mRun l0.length l1.length ps tb l 0 [⟨false,0⟩] false []=r at h ⊢
 have hr:r.1.length≤1000000:=len_ok h hl
 refine Ev.bind (sameInts_ev _ hr) (Ev.pos rfl (Ev.pos rfl ?_))
 exact Ev.some (by simp)
end
end Go.Proofs.Ytapjfnfengefpaa.M
end

section
namespace Go.Proofs.Ytapjfnfengefpaa.M
open Go.RowKit Go.Proofs.YtapjfnfengefpaaW.PrintWords Go.Proofs.YtapjfnfengefpaaW.PrintLast Go.Proofs.YtapjfnfengefpaaW.PrintMore Go.Proofs.Ytapjfnfengefpaa.P Go.Proofs.Ytapjfnfengefpaa.H
theorem awake16_some:regletlaw16_awake.f 40=some true:=by kernel_rfl
theorem awake16_ev:Ev (fun k=>regletlaw16_awake.f k) true:=Ev.of regletlaw16_awake.mono awake16_some
end Go.Proofs.Ytapjfnfengefpaa.M
end

section
namespace Go.Proofs.Ytapjfnfengefpaa.M
open Go.RowKit Go.Proofs.YtapjfnfengefpaaW.PrintWords Go.Proofs.YtapjfnfengefpaaW.PrintLast Go.Proofs.YtapjfnfengefpaaW.PrintMore Go.Proofs.Ytapjfnfengefpaa.P Go.Proofs.Ytapjfnfengefpaa.H
set_option linter.unusedVariables false
set_option linter.unusedSimpArgs false
def rows0 (nn nt:Nat):List (List Bool):=List.replicate nn (none0 nt)
theorem rows0_sh (nn nt:Nat):Sh nn nt (rows0 nn nt):=⟨by simp [rows0],fun r hr=>by rw [List.eq_of_mem_replicate hr];simp [none0]⟩
theorem marks_l0_ev (l0:List ByteArray) (l1:List Tok) (a2 a3:Int) (l4:List Prod) (h0:l0.length≤1000000) (h1:l1.length≤1000000):∀(n:Nat) (out:List (List Bool)),out.length+n=l0.length→Ev (fun k=>regletref13_marks.l0 k out (out.length:Int) l0 l1 a2 a3 l4) (out++rows0 n l1.length)
 |0,out,h=>Ev.step (fun k=>by rw [regletref13_marks.l0]) (Ev.neg (by omega) (Ev.some (by simp [rows0])))
 |n+1,out,h=>by
  have ih:=marks_l0_ev l0 l1 a2 a3 l4 h0 h1 n (out++ [none0 l1.length]) (by simp;omega)
  rw [←wrap_next out _ (show out.length≤1000000 by omega)] at ih
  have e:wrap64 ((l1.length:Int)+1)=((l1.length+1:Nat):Int):=by rw [wrap64_id (by omega) (by omega)];simp
  refine Ev.step (fun k=>by rw [regletref13_marks.l0,e]) (Ev.pos (by omega) (Ev.pos (by omega) (Ev.pos (by omega) (Ev.pos (by omega) ?_))))
  rw [Int.toNat_natCast]
  exact Ev.val ih (by simp [rows0,List.replicate_succ])
theorem marks_ev (l0:List ByteArray) (l1:List Tok) (a2 a3:Int) (l4:List Prod) (h0:l0.length≤1000000) (h1:l1.length≤1000000):Ev (fun k=>regletref13_marks.f k l0 l1 a2 a3 l4) (rows0 l0.length l1.length):=
 Ev.congr (fun k=>by rw [regletref13_marks.f]) (by simpa using marks_l0_ev l0 l1 a2 a3 l4 h0 h1 l0.length [] (by simp))
def sStep (nt:Nat) (em:List Bool) (m:List (List Bool)) (p:Prod):Bool×List (List Bool):=
 (moreL (m.getD p.f0.toNat []) (bg em m p.f1 (none0 nt)).1,m.set p.f0.toNat (orL (m.getD p.f0.toNat []) (bg em m p.f1 (none0 nt)).1))
theorem none0_length (nt:Nat):(none0 nt).length=nt+1:=by simp [none0]
theorem row_step {nn nt:Nat}{m:List (List Bool)}(hs:Sh nn nt m) {i:Nat}(hi:i<nn) {b:List Bool}(hb:b.length=nt+1):Sh nn nt (m.set i (orL (m.getD i []) b))∧cfs (m.set i (orL (m.getD i []) b))≤cfs m∧(moreL (m.getD i []) b=true→cfs (m.set i (orL (m.getD i []) b))<cfs m):=by
 have hr:=hs.get hi
 have h1:=cf_orL (m.getD i []) b (by rw [hr,hb])
 have h2:=cfs_set m i (orL (m.getD i []) b) (by rw [hs.1];exact hi) h1.1
 exact⟨hs.set i (by rw [orL_length (by rw [hr,hb]),hr]),h2.1,fun h=>h2.2 (h1.2 h)⟩
theorem sStep_good {nn nt:Nat}(em:List Bool) {ps:List Prod}(hps:ps.all (okProd nn nt)=true):Good (Sh nn nt) cfs (sStep nt em) ps:=by
 intro st p hI hp
 have hok:=List.all_eq_true.1 hps p hp
 have hl:=okProd_left hok
 exact row_step hI (by omega) (bg_length em hI p.f1 _ (okProd_right hok) (none0_length nt))
def fst (nn nt:Nat) (em:List Bool) (ps:List Prod):List (List Bool):=gOut (sStep nt em) ps (cfs (rows0 nn nt)) (rows0 nn nt)
theorem fst_sh (nn nt:Nat) (em:List Bool) {ps:List Prod}(hps:ps.all (okProd nn nt)=true):Sh nn nt (fst nn nt em ps):=
 gOut_I (sStep_good em hps) _ _ (rows0_sh nn nt)
theorem refFirst_l1_ev (l0:List ByteArray) (l1:List Tok) (a2 a3:Int) (em:List Bool) (he:em.length=l0.length) (h1:l1.length≤1000):∀(qs pre:List Prod) (m:List (List Bool)) (more:Bool),Sh l0.length l1.length m→qs.all (okProd l0.length l1.length)=true→pre.length+qs.length≤1000000→(∀p∈qs,p.f1.length≤1000000)→Ev (fun k=>regletref13_first.l1 l0 l1 a2 a3 (pre++qs) k m em more (pre.length:Int)) (gIn (sStep l1.length em) qs more m)
 | [],pre,m,more,_,_,_,_=>Ev.step (fun k=>by rw [regletref13_first.l1]) (Ev.neg (by simp) (Ev.some (by simp [gIn])))
 |p::qs,pre,m,more,hs,hok,h3,h4=>by
  simp only [List.length_cons] at h3
  simp only [List.all_cons,Bool.and_eq_true] at hok
  have ih:=fun m more hs=>refFirst_l1_ev l0 l1 a2 a3 em he h1 qs (pre++ [p]) m more hs hok.2 (by simp;omega) (fun p hp=>h4 p (List.mem_cons_of_mem _ hp))
  simp only [←wrap_next pre _ (show pre.length≤1000000 by omega),List.append_assoc,List.singleton_append] at ih
  have hl:=okProd_left hok.1
  have hs1:=hs.1
  have hb:=bg_length em hs p.f1 _ (okProd_right hok.1) (none0_length l1.length)
  have hr:=hs.get (i:=p.f0.toNat) (by omega)
  have hg:=(sStep_good em (ps:= [p]) (by simp [hok.1])) m p hs (by simp)
  have e:rd_T35 (pre++p::qs) (pre.length:Int)=p:=getD_mid _ pre p qs _ rfl
  refine Ev.step (fun k=>by rw [regletref13_first.l1]) ?_
  rw [e]
  refine Ev.pos (by simp;omega) (Ev.pos (by omega) (Ev.bind (refBegins_ev l0 l1 a2 a3 _ hs he h1 p.f1 (okProd_right hok.1) (h4 p List.mem_cons_self)) (Ev.pos hl.1 (Ev.pos (by omega) (Ev.bind (join_ev (m.getD p.f0.toNat []) (bg em m p.f1 (none0 l1.length)).1 (by rw [hr,hb]) (by omega)) ?_)))))
  refine Ev.val (ih _ _ hg.1) ?_
  rw [gIn]
  congr 1
  show(if(sStep l1.length em m p).1=true then true else more)=_
  cases (sStep l1.length em m p).1<;>rfl
theorem refFirst_l0_ev (l0:List ByteArray) (l1:List Tok) (a2 a3:Int) (l4:List Prod) (h:Small l4) (em:List Bool) (he:em.length=l0.length) (h1:l1.length≤1000) (hok:l4.all (okProd l0.length l1.length)=true):∀(n:Nat) (m:List (List Bool)),Sh l0.length l1.length m→cfs m≤n→Ev (fun k=>regletref13_first.l0 l0 l1 a2 a3 l4 k m em true) (gOut (sStep l1.length em) l4 n m)
 |n,m,hs,hn=>by
  obtain⟨g1,g2,g3⟩:=gIn_good (sStep_good em hok) false m hs
  have h5:=refFirst_l1_ev l0 l1 a2 a3 em he h1 l4 [] m false hs hok (by have:=h.1;simpa using this) h.2
  simp only [List.nil_append,List.length_nil,Int.natCast_zero] at h5
  refine Ev.step (fun k=>by rw [regletref13_first.l0]) (Ev.pos rfl (Ev.bind h5 ?_))
  cases hr:(gIn (sStep l1.length em) l4 false m).1 with
  |false=>
   refine Ev.step (fun k=>by rw [regletref13_first.l0]) (Ev.neg (by simp) (Ev.some ?_))
   cases n<;>simp [gOut,hr]
  |true=>
   have hlt:=(g3 hr).resolve_left (by simp)
   cases n with
   |zero=>omega
   |succ n=>
    refine Ev.val (refFirst_l0_ev l0 l1 a2 a3 l4 h em he h1 hok n _ g1 (by omega)) ?_
    rw [gOut,if_pos hr]
theorem refFirst_ev (l0:List ByteArray) (l1:List Tok) (a2 a3:Int) (l4:List Prod) (h:Small l4) (h0:l0.length≤1000000) (h1:l1.length≤1000) (hok:l4.all (okProd l0.length l1.length)=true):Ev (fun k=>regletref13_first.f k l0 l1 a2 a3 l4) (fst l0.length l1.length (clo false l0.length l4) l4):=by
 refine Ev.congr (fun k=>by rw [regletref13_first.f]) (Ev.bind (marks_ev l0 l1 a2 a3 l4 h0 (by omega)) (Ev.bind (Ev.val (refEmpty_ev l0 l1 a2 a3 l4 h h0) (if_pos hok)) ?_))
 exact refFirst_l0_ev l0 l1 a2 a3 l4 h _ (clo_length l0.length l1.length false hok) h1 hok _ _ (rows0_sh l0.length l1.length) (Nat.le_refl _)
def fAdd (nt:Nat) (em:List Bool) (first:List (List Bool)) (left:Nat) (ys:List Sym) (out:List (List Bool)):List Bool:=
 if(bg em first ys (none0 nt)).2=true then orL (bg em first ys (none0 nt)).1 (out.getD left []) else(bg em first ys (none0 nt)).1
def fIn (nt:Nat) (em:List Bool) (first:List (List Bool)) (left:Nat):List Sym→Bool→List (List Bool)→Bool×List (List Bool)
 | [],g,out=>(g,out)
 |y::ys,g,out=>if y.f0=true then fIn nt em first left ys g out else
  fIn nt em first left ys (moreL (out.getD y.f1.toNat []) (fAdd nt em first left ys out)||g) (out.set y.f1.toNat (orL (out.getD y.f1.toNat []) (fAdd nt em first left ys out)))
def fStep (nt:Nat) (em:List Bool) (first:List (List Bool)) (out:List (List Bool)) (p:Prod):Bool×List (List Bool):=fIn nt em first p.f0.toNat p.f1 false out
theorem fAdd_length {nn nt:Nat}(em:List Bool) {first out:List (List Bool)}(hf:Sh nn nt first) (hs:Sh nn nt out) {left:Nat}(hl:left<nn) {ys:List Sym}(hok:ys.all (okSym nn nt)=true):(fAdd nt em first left ys out).length=nt+1:=by
 have hb:=bg_length em hf ys _ hok (none0_length nt)
 unfold fAdd
 split
 ·rw [orL_length (by rw [hb,hs.get hl]),hb]
 ·exact hb
theorem fIn_good {nn nt:Nat}(em:List Bool) {first:List (List Bool)}(hf:Sh nn nt first) {left:Nat}(hl:left<nn):∀(ys:List Sym) (g:Bool) (out:List (List Bool)),ys.all (okSym nn nt)=true→Sh nn nt out→Sh nn nt (fIn nt em first left ys g out).2∧cfs (fIn nt em first left ys g out).2≤cfs out∧((fIn nt em first left ys g out).1=true→g=true∨cfs (fIn nt em first left ys g out).2<cfs out)
 | [],g,out,_,hs=>⟨hs,Nat.le_refl _,fun h=> .inl h⟩
 |y::ys,g,out,hok,hs=>by
  simp only [List.all_cons,Bool.and_eq_true] at hok
  unfold fIn
  cases hy:y.f0 with
  |true=>rw [if_pos rfl];exact fIn_good em hf hl ys g out hok.2 hs
  |false=>
   rw [if_neg (by simp)]
   have hb:=okSym_rule hok.1 hy
   obtain⟨h1,h2,h3⟩:=row_step hs (i:=y.f1.toNat) (by omega) (fAdd_length em hf hs hl hok.2)
   obtain⟨h4,h5,h6⟩:=fIn_good em hf hl ys (moreL (out.getD y.f1.toNat []) (fAdd nt em first left ys out)||g) _ hok.2 h1
   refine⟨h4,Nat.le_trans h5 h2,fun h=>?_⟩
   rcases h6 h with h7|h7
   ·rcases(Bool.or_eq_true _ _).mp h7 with h8|h8
    ·exact .inr (Nat.lt_of_le_of_lt h5 (h3 h8))
    ·exact .inl h8
   ·exact .inr (Nat.lt_of_lt_of_le h7 h2)
theorem fStep_good {nn nt:Nat}(em:List Bool) {first:List (List Bool)}(hf:Sh nn nt first) {ps:List Prod}(hps:ps.all (okProd nn nt)=true):Good (Sh nn nt) cfs (fStep nt em first) ps:=by
 intro st p hI hp
 have hok:=List.all_eq_true.1 hps p hp
 have hl:=okProd_left hok
 obtain⟨h1,h2,h3⟩:=fIn_good em hf (left:=p.f0.toNat) (by omega) p.f1 false st (okProd_right hok) hI
 exact⟨h1,h2,fun h=>(h3 h).resolve_left (by simp)⟩
def fol0 (nn nt:Nat):List (List Bool):=if 0<nn then(rows0 nn nt).set 0 ((none0 nt).set nt true) else []
theorem fol0_sh (nn nt:Nat):Sh nn nt (fol0 nn nt):=by
 unfold fol0
 split
 ·exact(rows0_sh nn nt).set 0 (by simp [none0_length])
 ·obtain rfl:nn=0:=by omega
  exact⟨rfl,fun r hr=>by simp at hr⟩
def fol (nn nt:Nat) (em:List Bool) (first:List (List Bool)) (ps:List Prod):List (List Bool):=gOut (fStep nt em first) ps (cfs (fol0 nn nt)) (fol0 nn nt)
theorem fol_sh {nn nt:Nat}(em:List Bool) {first:List (List Bool)}(hf:Sh nn nt first) {ps:List Prod}(hps:ps.all (okProd nn nt)=true):Sh nn nt (fol nn nt em first ps):=
 gOut_I (fStep_good em hf hps) _ _ (fol0_sh nn nt)
theorem refFollowIn_ev (l0:List ByteArray) (l1:List Tok) (a2 a3:Int) (l4:List Prod) {em:List Bool}(he:em.length=l0.length) (hnt:l1.length≤1000) {first:List (List Bool)}(hf:Sh l0.length l1.length first) {left:Int}(hl0:0≤left) (hl1:left<(l0.length:Int)):∀(ys:List Sym) (g:Bool) (out:List (List Bool)),ys.all (okSym l0.length l1.length)=true→ys.length≤1000000→Sh l0.length l1.length out→Ev (fun k=>rFollowIn k l0 l1 a2 a3 l4 first em left ys g out) (fIn l1.length em first left.toNat ys g out)
 | [],g,out,_,_,hs=>Ev.congr (fun k=>by rw [rFollowIn]) (Ev.some (by rw [fIn]))
 |y::ys,g,out,hok,h3,hs=>by
  simp only [List.all_cons,Bool.and_eq_true] at hok
  simp only [List.length_cons] at h3
  refine Ev.congr (fun k=>by rw [rFollowIn]) ?_
  unfold fIn
  cases hy:y.f0 with
  |true=>rw [if_pos rfl];exact Ev.pos rfl (refFollowIn_ev l0 l1 a2 a3 l4 he hnt hf hl0 hl1 ys g out hok.2 (by omega) hs)
  |false=>
   rw [if_neg (by simp)]
   have hb:=okSym_rule hok.1 hy
   have hbl:=bg_length em hf ys _ hok.2 (none0_length l1.length)
   have hn:y.f1.toNat<l0.length:=by omega
   have hrow:=hs.get hn
   have hs1:=hs.1
   have hfl:=fAdd_length em hf hs (left:=left.toNat) (by omega) hok.2
   obtain⟨h1a,_,_⟩:=row_step hs hn hfl
   have hlr:=hs.get (i:=left.toNat) (by omega)
   refine Ev.neg (by simp) (Ev.bind (refBegins_ev l0 l1 a2 a3 l4 hf he hnt ys hok.2 (by omega)) ?_)
   refine Ev.bind (a:=fAdd l1.length em first left.toNat ys out) ?_ ?_
   ·refine Ev.congr (fun k=>by rw [rJoinFrom]) ?_
    unfold fAdd
    cases hem:(bg em first ys (none0 l1.length)).2 with
    |false=>exact Ev.neg (by simp) (Ev.some (by simp))
    |true=>
     refine Ev.pos rfl (Ev.pos hl0 (Ev.pos (by omega) ?_))
     exact Ev.bind (join_ev _ _ (by rw [hbl,hlr]) (by omega)) (Ev.some (by simp))
   ·refine Ev.bind (a:=(moreL (out.getD y.f1.toNat []) (fAdd l1.length em first left.toNat ys out),out.set y.f1.toNat (orL (out.getD y.f1.toNat []) (fAdd l1.length em first left.toNat ys out)))) ?_ ?_
    ·refine Ev.congr (fun k=>by rw [rJoinRow]) (Ev.pos hb.1 (Ev.pos (by omega) ?_))
     exact Ev.bind (join_ev _ _ (by rw [hrow,hfl]) (by omega)) (Ev.some rfl)
    ·refine Ev.val (refFollowIn_ev l0 l1 a2 a3 l4 he hnt hf hl0 hl1 ys _ _ hok.2 (by omega) h1a) ?_
     congr 1
     cases moreL (out.getD y.f1.toNat []) (fAdd l1.length em first left.toNat ys out)<;>rfl
theorem fIn_more (nt:Nat) (em:List Bool) (first:List (List Bool)) (left:Nat):∀(ys:List Sym) (g:Bool) (out:List (List Bool)),fIn nt em first left ys g out=((fIn nt em first left ys false out).1||g,(fIn nt em first left ys false out).2)
 | [],g,out=>by simp [fIn]
 |y::ys,g,out=>by
  unfold fIn
  split
  ·exact fIn_more nt em first left ys g out
  ·rw [fIn_more nt em first left ys (_||g),fIn_more nt em first left ys (_||false)]
   simp [Bool.or_assoc]
theorem refFollowPs_ev (l0:List ByteArray) (l1:List Tok) (a2 a3:Int) (l4:List Prod) {em:List Bool}(he:em.length=l0.length) (hnt:l1.length≤1000) {first:List (List Bool)}(hf:Sh l0.length l1.length first):∀(qs:List Prod) (g:Bool) (out:List (List Bool)),qs.all (okProd l0.length l1.length)=true→(∀p∈qs,p.f1.length≤1000000)→Sh l0.length l1.length out→Ev (fun k=>rFollowPs k l0 l1 a2 a3 l4 first em qs g out) (gIn (fStep l1.length em first) qs g out)
 | [],g,out,_,_,hs=>Ev.congr (fun k=>by rw [rFollowPs]) (Ev.some (by rw [gIn]))
 |p::qs,g,out,hok,h3,hs=>by
  simp only [List.all_cons,Bool.and_eq_true] at hok
  have hl:=okProd_left hok.1
  have hg:=fIn_good em hf (left:=p.f0.toNat) (by omega) p.f1 g out (okProd_right hok.1) hs
  refine Ev.congr (fun k=>by rw [rFollowPs]) (Ev.bind (refFollowIn_ev l0 l1 a2 a3 l4 he hnt hf hl.1 hl.2 p.f1 g out (okProd_right hok.1) (h3 p List.mem_cons_self) hs) ?_)
  refine Ev.val (refFollowPs_ev l0 l1 a2 a3 l4 he hnt hf qs _ _ hok.2 (fun p hp=>h3 p (List.mem_cons_of_mem _ hp)) hg.1) ?_
  rw [gIn,fStep,fIn_more]
theorem refFollowOut_ev (l0:List ByteArray) (l1:List Tok) (a2 a3:Int) (l4:List Prod) (h:Small l4) {em:List Bool}(he:em.length=l0.length) (hnt:l1.length≤1000) {first:List (List Bool)}(hf:Sh l0.length l1.length first) (hok:l4.all (okProd l0.length l1.length)=true):∀(n:Nat) (out:List (List Bool)),Sh l0.length l1.length out→cfs out≤n→∃K,∀kk,K≤kk→∀k,K≤k→rFollowOut kk l0 l1 a2 a3 l4 first em k out true=some (gOut (fStep l1.length em first) l4 n out)
 |n,out,hs,hn=>by
  obtain⟨g1,g2,g3⟩:=gIn_good (fStep_good em hf hok) false out hs
  obtain⟨K1,hK1⟩:=refFollowPs_ev l0 l1 a2 a3 l4 he hnt hf l4 false out hok h.2 hs
  have hK1':∀k,K1≤k→rFollowPs k l0 l1 a2 a3 l4 first em l4 false out=some (gIn (fStep l1.length em first) l4 false out):=hK1
  cases hr:(gIn (fStep l1.length em first) l4 false out).1 with
  |false=>
   refine⟨K1+2,fun kk hkk k hk=>?_⟩
   obtain⟨k',rfl⟩:∃k',k=k'+2:=⟨k - 2,by omega⟩
   rw [rFollowOut,if_pos rfl,hK1' kk (by omega)]
   simp only [Option.bind_some,hr]
   rw [rFollowOut,if_neg (by simp)]
   cases n<;>simp [gOut,hr]
  |true=>
   have hlt:=(g3 hr).resolve_left (by simp)
   cases n with
   |zero=>omega
   |succ n=>
    obtain⟨K2,hK2⟩:=refFollowOut_ev l0 l1 a2 a3 l4 h he hnt hf hok n _ g1 (by omega)
    refine⟨max K1 K2+1,fun kk hkk k hk=>?_⟩
    obtain⟨k',rfl⟩:∃k',k=k'+1:=⟨k - 1,by omega⟩
    rw [rFollowOut,if_pos rfl,hK1' kk (by omega)]
    simp only [Option.bind_some,hr]
    rw [hK2 kk (by omega) k' (by omega),gOut,if_pos hr]
theorem Sh.small {nn nt:Nat}{m:List (List Bool)}(h:Sh nn nt m) (h1:nt≤1000):∀r∈m,r.length≤1000000:=fun r hr=>by rw [h.2 r hr];omega
section
variable (l0:List ByteArray) (l1:List Tok) (a2 a3:Int) (l4:List Prod)
def dFollow (nn nt:Nat) (ps:List Prod):List (List Int):=if ps.all (okProd nn nt)=true then idxs (fol nn nt (clo false nn ps) (fst nn nt (clo false nn ps) ps) ps) else []
def dOf (nn nt:Nat) (ps:List Prod) (l:List Sym):List Int×Bool:=if ps.all (okProd nn nt)=true∧nn≠0∧l.all (okSym nn nt)=true then
 (idx 0 (bg (clo false nn ps) (fst nn nt (clo false nn ps) ps) l (none0 nt)).1,(bg (clo false nn ps) (fst nn nt (clo false nn ps) ps) l (none0 nt)).2) else([],false)
variable (h:Small l4) (h0:l0.length≤1000000) (h1:l1.length≤1000)
include h h0 h1
theorem refFollow_ev:Ev (fun k=>regletref13_Follow.f k l0 l1 a2 a3 l4) (dFollow l0.length l1.length l4):=by
 refine Ev.congr (fun k=>by rw [regletref13_Follow.f,if_pos ⟨by have:=h.1;omega,by rw [List.all_eq_true];intro p hp;have:=h.2 p hp;exact decide_eq_true (by omega)⟩]) (Ev.bind (refRight_ev l0 l1 a2 a3 l4 h) ?_)
 unfold dFollow
 cases hr:l4.all (okProd l0.length l1.length) with
 |false=>exact Ev.neg (by simp) (Ev.some (by simp))
 |true=>
  have hs:=fst_sh l0.length l1.length (clo false l0.length l4) hr
  have hs2:=fol_sh (clo false l0.length l4) hs hr
  have he:=clo_length l0.length l1.length false hr
  rw [if_pos rfl]
  refine Ev.pos rfl (Ev.bind (marks_ev l0 l1 a2 a3 l4 h0 (by omega)) (Ev.bind (refFirst_ev l0 l1 a2 a3 l4 h h0 h1 hr) (Ev.bind (Ev.val (refEmpty_ev l0 l1 a2 a3 l4 h h0) (if_pos hr)) (Ev.bind (a:=fol0 l0.length l1.length) ?_ (Ev.bind (a:=fol l0.length l1.length (clo false l0.length l4) (fst l0.length l1.length (clo false l0.length l4) l4) l4) ?_ (lists_ev _ (by have:=hs2.1;exact Nat.le_trans (Nat.le_of_eq this) h0) (hs2.small h1)))))))
  ·refine Ev.some' ?_
   unfold rFollow0 fol0
   by_cases hn:0<l0.length
   rotate_left
   ·rw [if_neg (by rw [(rows0_sh _ _).1];exact hn),if_neg hn]
    have:l0.length=0:=by omega
    rw [this];rfl
   have hrow:(rows0 l0.length l1.length).getD 0 []=none0 l1.length:=by
    obtain⟨n,hn'⟩:∃n,l0.length=n+1:=⟨l0.length - 1,by omega⟩
    rw [hn',rows0,List.replicate_succ];rfl
   rw [if_pos (by rw [(rows0_sh _ _).1];exact hn),hrow,if_pos (by rw [none0_length];omega),if_pos hn]
  ·obtain⟨K,hK⟩:=refFollowOut_ev l0 l1 a2 a3 l4 h he h1 hs hr (cfs (fol0 l0.length l1.length)) (fol0 l0.length l1.length) (fol0_sh _ _) (Nat.le_refl _)
   exact⟨K,fun k hk=>hK k hk k hk⟩
theorem refOf_ev (l:List Sym) (hl:l.length≤1000000):Ev (fun k=>regletref13_Of.f k l0 l1 a2 a3 l4 l) (dOf l0.length l1.length l4 l):=by
 refine Ev.congr (fun k=>by rw [regletref13_Of.f]) (Ev.bind (refRight_ev l0 l1 a2 a3 l4 h) ?_)
 unfold dOf
 cases hr:l4.all (okProd l0.length l1.length) with
 |false=>exact Ev.neg (by simp) (Ev.some (by simp))
 |true=>
  refine Ev.pos rfl ?_
  by_cases hn:(l0.length:Int)=0
  ·exact Ev.pos hn (Ev.some (if_neg (fun hc=>hc.2.1 (Int.ofNat_eq_zero.1 hn))).symm)
  refine Ev.neg hn (Ev.bind (Ev.val (refRight_ev l0 l1 a2 a3 [⟨0,l⟩] ⟨by simp,by simpa using hl⟩) (s:=l.all (okSym l0.length l1.length)) ?_) ?_)
  ·simp [okProd];intro _;omega
  cases hs:l.all (okSym l0.length l1.length) with
  |false=>exact Ev.neg (by simp) (Ev.some (by simp))
  |true=>
   have hsh:=fst_sh l0.length l1.length (clo false l0.length l4) hr
   have hb:=bg_length (clo false l0.length l4) hsh l _ hs (none0_length l1.length)
   refine Ev.pos rfl (Ev.bind (refFirst_ev l0 l1 a2 a3 l4 h h0 h1 hr) (Ev.bind (Ev.val (refEmpty_ev l0 l1 a2 a3 l4 h h0) (if_pos hr)) ?_))
   refine Ev.bind (refBegins_ev l0 l1 a2 a3 l4 hsh (clo_length l0.length l1.length false hr) h1 l hs hl) (Ev.bind (list_ev _ (by rw [hb];omega)) (Ev.some ?_))
   have hc:true=true∧l0.length≠0∧true=true:=⟨rfl,by omega,rfl⟩
   rw [if_pos hc]
end
end Go.Proofs.Ytapjfnfengefpaa.M
end

section
namespace Go.Proofs.Ytapjfnfengefpaa.P
open Go.RowKit Go.Proofs.YtapjfnfengefpaaW.PrintWords Go.Proofs.YtapjfnfengefpaaW.PrintLast Go.Proofs.YtapjfnfengefpaaW.PrintMore Go.Proofs.Ytapjfnfengefpaa.R
set_option linter.unusedVariables false
set_option linter.unusedSimpArgs false
def prStep (b:List (List Bool)) (r look i:Nat) (p:S35) (st:Int×List (S78)):Int×List (S78):=
 if p.f0=(r:Int)∧(b.getD i []).getD look false=true then(if st.1<0 then((i:Int),st.2) else(st.1,st.2++ [⟨(r:Int),(look:Int),st.1,(i:Int)⟩])) else st
def prIn (b:List (List Bool)) (r look:Nat):Nat→List (S35)→Int×List (S78)→Int×List (S78)
 |_,[],st=>st
 |i,p::ps,st=>prIn b r look (i+1) ps (prStep b r look i p st)
theorem prStep_le (b:List (List Bool)) (r look i:Nat) (p:S35) (st:Int×List (S78)):st.2.length≤(prStep b r look i p st).2.length:=by
 unfold prStep;split
 ·split<;>simp
 ·exact Nat.le_refl _
theorem prIn_le (b:List (List Bool)) (r look:Nat):∀(ps:List (S35)) (i:Nat) (st:Int×List (S78)),st.2.length≤(prIn b r look i ps st).2.length
 | [],_,_=>Nat.le_refl _
 |p::ps,i,st=>Nat.le_trans (prStep_le b r look i p st) (prIn_le b r look ps (i+1) _)
theorem get_set {α:Type}{l:List α}{i:Nat}(x d:α) (h:i<l.length):(l.set i x).getD i d=x:=by
 rw [List.getD_eq_getElem?_getD,List.getElem?_set_self h];rfl
end Go.Proofs.Ytapjfnfengefpaa.P
end

section
namespace Go.Proofs.Ytapjfnfengefpaa.M
open Go.RowKit Go.Proofs.YtapjfnfengefpaaW.PrintWords Go.Proofs.YtapjfnfengefpaaW.PrintLast Go.Proofs.YtapjfnfengefpaaW.PrintMore Go.Proofs.Ytapjfnfengefpaa.P Go.Proofs.Ytapjfnfengefpaa.H
set_option linter.unusedVariables false
set_option linter.unusedSimpArgs false
abbrev Clash:=S78
def markOn (l:List Int) (row:List Bool):List Bool:=l.foldl (fun row t=>row.set t.toNat true) row
theorem markOn_getD:∀(l:List Int) (row:List Bool),(∀t∈l,0≤t∧t.toNat<row.length)→∀look:Nat,(markOn l row).getD look false=(row.getD look false||decide ((look:Int)∈l))
 | [],_,_,_=>by simp [markOn]
 |t::l,row,h,look=>by
  obtain⟨h0,h1⟩:=h t List.mem_cons_self
  rw [markOn,List.foldl_cons,←markOn,markOn_getD l _ (fun x hx=>by rw [List.length_set];exact h x (List.mem_cons_of_mem _ hx)) look]
  by_cases he:t.toNat=look
  ·subst he
   rw [get_set _ _ h1]
   have:((t.toNat:Nat):Int)=t:=by omega
   simp [this]
  ·rw [List.getD_eq_getElem?_getD,List.getElem?_set_ne he,←List.getD_eq_getElem?_getD]
   have:¬(look:Int)=t:=by omega
   simp [this]
theorem idx_range:∀(a:List Bool) (n:Nat),∀x∈idx n a,(n:Int)≤x∧x<((n+a.length:Nat):Int)
 | [],_,x,hx=>by simp [idx] at hx
 |b::a,n,x,hx=>by
  have ih:=idx_range a (n+1)
  unfold idx at hx
  split at hx
  ·rcases List.mem_cons.1 hx with rfl|h
   ·simp;omega
   ·have:=ih x h;simp at this ⊢;omega
  ·have:=ih x hx;simp at this ⊢;omega
section
variable (l0:List ByteArray) (l1:List Tok) (a2 a3:Int) (l4:List Prod)
def sel (nn nt:Nat) (ps:List Prod) (p:Prod):List Int:=(dOf nn nt ps p.f1).1++(if(dOf nn nt ps p.f1).2=true then(dFollow nn nt ps).getD p.f0.toNat [] else [])
def chRow (nn nt:Nat) (ps:List Prod) (p:Prod):List Bool:=markOn (sel nn nt ps p) (none0 nt)
theorem of_range {nn nt:Nat}{ps:List Prod}(hps:ps.all (okProd nn nt)=true) (l:List Sym):(dOf nn nt ps l).1.length≤nt+1∧∀x∈(dOf nn nt ps l).1,0≤x∧x<((nt+1:Nat):Int):=by
 unfold dOf
 split
 ·rename_i hc
  have hb:=bg_length (clo false nn ps) (fst_sh nn nt (clo false nn ps) hps) l _ hc.2.2 (none0_length nt)
  refine⟨by have:=idx_length 0 (bg (clo false nn ps) (fst nn nt (clo false nn ps) ps) l (none0 nt)).1;simp only;omega,fun x hx=>?_⟩
  have:=idx_range _ 0 x hx
  rw [hb] at this
  simpa using this
 ·simp
theorem follow_range {nn nt:Nat}{ps:List Prod}(hps:ps.all (okProd nn nt)=true):(dFollow nn nt ps).length=nn∧∀i,((dFollow nn nt ps).getD i []).length≤nt+1∧∀x∈(dFollow nn nt ps).getD i [],0≤x∧x<((nt+1:Nat):Int):=by
 unfold dFollow
 rw [if_pos hps]
 have hs:=fol_sh (clo false nn ps) (fst_sh nn nt (clo false nn ps) hps) hps
 refine⟨by rw [idxs,List.length_map,hs.1],fun i=>?_⟩
 by_cases hi:i<nn
 rotate_left
 ·rw [List.getD_eq_getElem?_getD,List.getElem?_eq_none (by rw [idxs,List.length_map,hs.1];omega)]
  simp
 have e:(idxs (fol nn nt (clo false nn ps) (fst nn nt (clo false nn ps) ps) ps)).getD i []=idx 0 ((fol nn nt (clo false nn ps) (fst nn nt (clo false nn ps) ps) ps).getD i []):=by
  have hlt:i<(fol nn nt (clo false nn ps) (fst nn nt (clo false nn ps) ps) ps).length:=by rw [hs.1];exact hi
  rw [idxs,List.getD_eq_getElem?_getD,List.getElem?_map,List.getD_eq_getElem?_getD,List.getElem?_eq_getElem hlt];rfl
 rw [e]
 have hl:=hs.get hi
 refine⟨by have:=idx_length 0 ((fol nn nt (clo false nn ps) (fst nn nt (clo false nn ps) ps) ps).getD i []);omega,fun x hx=>?_⟩
 have:=idx_range _ 0 x hx
 rw [hl] at this
 simpa using this
theorem sel_range {nn nt:Nat}{ps:List Prod}(hps:ps.all (okProd nn nt)=true) (p:Prod):(sel nn nt ps p).length≤2 * (nt+1)∧∀x∈sel nn nt ps p,0≤x∧x<((nt+1:Nat):Int):=by
 have h1:=of_range hps p.f1
 have h2:=(follow_range hps).2 p.f0.toNat
 unfold sel
 refine⟨?_,fun x hx=>?_⟩
 ·rw [List.length_append]
  split
  ·omega
  ·simp;omega
 ·rcases List.mem_append.1 hx with h|h
  ·exact h1.2 x h
  ·split at h
   ·exact h2.2 x h
   ·simp at h
theorem chRow_getD {nn nt:Nat}{ps:List Prod}(hps:ps.all (okProd nn nt)=true) (p:Prod) (look:Nat):(chRow nn nt ps p).getD look false=decide ((look:Int)∈sel nn nt ps p):=by
 rw [chRow,markOn_getD _ _ (fun t ht=>by have:=(sel_range hps p).2 t ht;rw [none0_length];omega)]
 simp [none0,List.getElem?_replicate]
 intro h
 by_cases hl:look<nt+1
 rotate_left
 ·rw [if_neg hl] at h;simp at h
 rw [if_pos hl] at h;simp at h
variable {l0 l1 a2 a3 l4}
end
theorem has14_l0_ev (n:Int):∀(a pre:List Int),pre.length+a.length≤1000000→Ev (fun k=>regletref14_has.l0 k (pre++a) n (pre.length:Int)) (decide (n∈a))
 | [],pre,_=>Ev.step (fun k=>by rw [regletref14_has.l0]) (Ev.neg (by simp) (Ev.some (by simp)))
 |x::a,pre,h3=>by
  simp only [List.length_cons] at h3
  have ih:=has14_l0_ev n a (pre++ [x]) (by simp;omega)
  simp only [←wrap_next pre _ (show pre.length≤1000000 by omega),List.append_assoc,List.singleton_append] at ih
  refine Ev.step (fun k=>by rw [regletref14_has.l0]) (Ev.pos (by simp;omega) (Ev.pos (by omega) ?_))
  rw [show rd (pre++x::a) (pre.length:Int)=x from getD_mid _ pre x a _ rfl]
  by_cases h:x=n
  ·exact Ev.pos h (Ev.some (by simp [h]))
  ·exact Ev.neg h (Ev.val ih (by simp [Ne.symm h]))
theorem has14_ev (a:List Int) (n:Int) (h:a.length≤1000000):Ev (fun k=>regletref14_has.f k a n) (decide (n∈a)):=
 Ev.congr (fun k=>by rw [regletref14_has.f]) (by simpa using has14_l0_ev n a [] (by simpa using h))
def pRow (b:List (List Bool)) (ps:List Prod) (r:Nat):Nat→Nat→List Clash→List Int×List Clash
 |0,_,bad=>([],bad)
 |n+1,look,bad=>((prIn b r look 0 ps (-1,bad)).1::(pRow b ps r n (look+1) (prIn b r look 0 ps (-1,bad)).2).1,(pRow b ps r n (look+1) (prIn b r look 0 ps (-1,bad)).2).2)
def pAll (b:List (List Bool)) (ps:List Prod) (w:Nat):Nat→Nat→List Clash→List (List Int)×List Clash
 |0,_,bad=>([],bad)
 |n+1,r,bad=>((pRow b ps r w 0 bad).1::(pAll b ps w n (r+1) (pRow b ps r w 0 bad).2).1,(pAll b ps w n (r+1) (pRow b ps r w 0 bad).2).2)
theorem prIn_max (b:List (List Bool)) (r look:Nat):∀(ps:List Prod) (i:Nat) (st:Int×List Clash),(prIn b r look i ps st).2.length≤st.2.length+ps.length
 | [],_,_=>Nat.le_refl _
 |p::ps,i,st=>by
  have:=prIn_max b r look ps (i+1) (prStep b r look i p st)
  have:(prStep b r look i p st).2.length≤st.2.length+1:=by
   unfold prStep;split
   ·split<;>simp
   ·simp
  rw [prIn,List.length_cons];omega
theorem pRow_max (b:List (List Bool)) (ps:List Prod) (r:Nat):∀(n look:Nat) (bad:List Clash),(pRow b ps r n look bad).1.length=n∧(pRow b ps r n look bad).2.length≤bad.length+n * ps.length
 |0,_,_=>by simp [pRow]
 |n+1,look,bad=>by
  have h1:=pRow_max b ps r n (look+1) (prIn b r look 0 ps (-1,bad)).2
  have h2:=prIn_max b r look ps 0 (-1,bad)
  rw [pRow,Nat.succ_mul]
  simp only [List.length_cons] at h2 ⊢
  exact⟨by rw [h1.1],by omega⟩
theorem pAll_max (b:List (List Bool)) (ps:List Prod) (w:Nat):∀(n r:Nat) (bad:List Clash),(pAll b ps w n r bad).1.length=n∧(∀x∈(pAll b ps w n r bad).1,x.length=w)∧(pAll b ps w n r bad).2.length≤bad.length+n * (w * ps.length)
 |0,_,_=>by simp [pAll]
 |n+1,r,bad=>by
  have h1:=pAll_max b ps w n (r+1) (pRow b ps r w 0 bad).2
  have h2:=pRow_max b ps r w 0 bad
  rw [pAll,Nat.succ_mul]
  refine⟨by simp only [List.length_cons];rw [h1.1],fun x hx=>?_,by simp only;omega⟩
  rcases List.mem_cons.1 hx with rfl|h
  ·exact h2.1
  ·exact h1.2.1 x h
section
variable {l0:List ByteArray}{l1:List Tok}{a2 a3:Int}{l4:List Prod}{b:List (List Bool)}{all:List (List Int)}
theorem ref_l3_ev (h:Small l4) (hb:∀(i look:Nat),i<l4.length→(b.getD i []).getD look false=decide ((look:Int)∈all.getD i [])) (ha:all.length=l4.length) (hs:∀i,(all.getD i []).length≤1000000) (r look:Nat) {x9:List (List Int)}{x12:List Int}(h12:x12.length≤1000000) {R:List (List Int)×List Clash}:∀(qs pre:List Prod) (st:Int×List Clash),pre++qs=l4→st.2.length+qs.length≤1000000→
 Ev (fun k=>regletref14_Predict.l2 k all x9 (prIn b r look pre.length qs st).2 (r:Int) (x12++ [(prIn b r look pre.length qs st).1]) (wrap64 ((look:Int)+1)) l0 l1 a2 a3 l4) R→Ev (fun k=>regletref14_Predict.l3 k all x9 st.2 (r:Int) x12 (look:Int) st.1 (pre.length:Int) l0 l1 a2 a3 l4) R
 | [],pre,st,e,_,hk=>by
  have hz:¬(pre.length:Int)<(l4.length:Int):=by rw [←e];simp
  refine Ev.step (fun k=>by rw [regletref14_Predict.l3]) (Ev.neg hz (Ev.pos (by omega) ?_))
  exact hk
 |p::qs,pre,st,e,hm,hk=>by
  have hlen:l4.length=pre.length+(qs.length+1):=by rw [←e];simp
  have hp0:pre.length≤1000000:=by have:=h.1;omega
  simp only [List.length_cons] at hm
  have hrd:rd_T35 l4 (pre.length:Int)=p:=by rw [←e];exact getD_mid _ pre p qs _ rfl
  have hst:(prStep b r look pre.length p st).2.length≤st.2.length+1:=by
   unfold prStep;split
   ·split<;>simp
   ·simp
  have ih:=ref_l3_ev h hb ha hs r look (x9:=x9) h12 (R:=R) qs (pre++ [p]) (prStep b r look pre.length p st) (by rw [←e];simp) (by omega) (by rw [List.length_append,List.length_singleton];exact hk)
  rw [←wrap_next pre _ hp0] at ih
  refine Ev.step (fun k=>by rw [regletref14_Predict.l3]) (Ev.pos (by omega) (Ev.pos (by omega) ?_))
  rw [hrd]
  by_cases hl:p.f0=(r:Int)
  ·refine Ev.pos hl (Ev.pos (by omega) ?_)
   rw [show rd_L5 all (pre.length:Int)=all.getD pre.length [] from by rw [rd_L5,Int.toNat_natCast]]
   refine Ev.bind (has14_ev _ _ (hs _)) (Ev.step (fun k=>by rw [regletref14_Predict.j4]) ?_)
   have hbb:=hb pre.length look (by omega)
   by_cases hh:(look:Int)∈all.getD pre.length []
   ·rw [decide_eq_true hh] at hbb ⊢
    refine Ev.neg (by simp) ?_
    by_cases hx:st.1<0
    ·refine Ev.pos hx ?_
     rw [prStep,if_pos ⟨hl,hbb⟩,if_pos hx] at ih
     exact ih
    ·refine Ev.neg hx (Ev.pos (by omega) ?_)
     rw [prStep,if_pos ⟨hl,hbb⟩,if_neg hx] at ih
     exact ih
   ·rw [decide_eq_false hh] at hbb ⊢
    refine Ev.pos (by simp) ?_
    rw [prStep,if_neg (by rw [hbb];simp)] at ih
    exact ih
  ·refine Ev.neg hl (Ev.step (fun k=>by rw [regletref14_Predict.j4]) (Ev.pos rfl ?_))
   rw [prStep,if_neg (fun hc=>hl hc.1)] at ih
   exact ih
theorem ref_l2_ev (h:Small l4) (h1:l1.length≤1000) (hb:∀(i look:Nat),i<l4.length→(b.getD i []).getD look false=decide ((look:Int)∈all.getD i [])) (ha:all.length=l4.length) (hs:∀i,(all.getD i []).length≤1000000) (r:Nat) {x9:List (List Int)}(h9:x9.length≤1000000) {R:List (List Int)×List Clash}:∀(n:Nat) (row:List Int) (bad:List Clash),row.length+n=l1.length+1→bad.length+n * l4.length≤900000→l4.length≤100000→
 Ev (fun k=>regletref14_Predict.l1 k all (x9++ [row++(pRow b l4 r n row.length bad).1]) (pRow b l4 r n row.length bad).2 (wrap64 ((r:Int)+1)) l0 l1 a2 a3 l4) R→Ev (fun k=>regletref14_Predict.l2 k all x9 bad (r:Int) row (row.length:Int) l0 l1 a2 a3 l4) R
 |0,row,bad,e,_,_,hk=>Ev.step (fun k=>by rw [regletref14_Predict.l2]) (Ev.neg (by omega) (Ev.pos (by omega) (by simpa [pRow] using hk)))
 |n+1,row,bad,e,hm,h4,hk=>by
  rw [Nat.succ_mul] at hm
  have hx:=prIn_max b r row.length l4 0 (-1,bad)
  simp only at hx
  have ih:=ref_l2_ev h h1 hb ha hs r (x9:=x9) h9 (R:=R) n (row++ [(prIn b r row.length 0 l4 (-1,bad)).1]) (prIn b r row.length 0 l4 (-1,bad)).2 (by simp;omega) (by omega) h4 (by
   rw [List.length_append,List.length_singleton,List.append_assoc]
   exact hk)
  rw [←wrap_next row _ (by omega)] at ih
  refine Ev.step (fun k=>by rw [regletref14_Predict.l2]) (Ev.pos (by omega) ?_)
  have h3:=ref_l3_ev (l0:=l0) (l1:=l1) (a2:=a2) (a3:=a3) (l4:=l4) (b:=b) (all:=all) h hb ha hs r row.length (x9:=x9) (x12:=row) (by omega) (R:=R) l4 [] (-1,bad) rfl (by simp only;omega) ih
  exact h3
theorem ref_l1_ev (h:Small l4) (h0:l0.length≤1000) (h1:l1.length≤1000) (hb:∀(i look:Nat),i<l4.length→(b.getD i []).getD look false=decide ((look:Int)∈all.getD i [])) (ha:all.length=l4.length) (hs:∀i,(all.getD i []).length≤1000000):∀(n:Nat) (out:List (List Int)) (bad:List Clash),out.length+n=l0.length→bad.length+n * ((l1.length+1) * l4.length)≤900000→l4.length≤100000→
 Ev (fun k=>regletref14_Predict.l1 k all out bad (out.length:Int) l0 l1 a2 a3 l4) (out++(pAll b l4 (l1.length+1) n out.length bad).1,(pAll b l4 (l1.length+1) n out.length bad).2)
 |0,out,bad,e,_,_=>Ev.step (fun k=>by rw [regletref14_Predict.l1]) (Ev.neg (by omega) (Ev.some (by simp [pAll])))
 |n+1,out,bad,e,hm,h4=>by
  rw [Nat.succ_mul] at hm
  have hx:=pRow_max b l4 out.length (l1.length+1) 0 bad
  have ih:=ref_l1_ev h h0 h1 hb ha hs n (out++ [(pRow b l4 out.length (l1.length+1) 0 bad).1]) (pRow b l4 out.length (l1.length+1) 0 bad).2 (by simp;omega) (by omega) h4
  rw [←wrap_next out _ (by omega)] at ih
  refine Ev.step (fun k=>by rw [regletref14_Predict.l1]) (Ev.pos (by omega) ?_)
  have h2:=ref_l2_ev (l0:=l0) (a2:=a2) (a3:=a3) h h1 hb ha hs out.length (x9:=out) (by omega) (R:=(out++(pAll b l4 (l1.length+1) (n+1) out.length bad).1,(pAll b l4 (l1.length+1) (n+1) out.length bad).2)) (l1.length+1) [] bad (by simp) (by omega) h4 (by
   refine Ev.val ih ?_
   rw [List.length_append,List.length_singleton,List.append_assoc]
   rfl)
  exact h2
theorem ref_l0_ev (h:Small l4) (h0:l0.length≤1000) (h1:l1.length≤1000) (hok:l4.all (okProd l0.length l1.length)=true) {R:List (List Int)×List Clash}:∀(qs pre:List Prod),pre++qs=l4→
 Ev (fun k=>regletref14_Predict.l1 k (l4.map (sel l0.length l1.length l4)) [] [] 0 l0 l1 a2 a3 l4) R→Ev (fun k=>regletref14_Predict.l0 k (pre.map (sel l0.length l1.length l4)) (dFollow l0.length l1.length l4) (pre.length:Int) l0 l1 a2 a3 l4) R
 | [],pre,e,hk=>Ev.step (fun k=>by rw [regletref14_Predict.l0]) (Ev.neg (by rw [←e];simp) (by rw [←e] at hk ⊢;simpa using hk))
 |p::qs,pre,e,hk=>by
  have hlen:l4.length=pre.length+(qs.length+1):=by rw [←e];simp
  have hp0:pre.length≤1000000:=by have:=h.1;omega
  have hmem:p∈l4:=by rw [←e];simp
  have hokp:=List.all_eq_true.1 hok p hmem
  have hl:=okProd_left hokp
  have hrd:rd_T35 l4 (pre.length:Int)=p:=by rw [←e];exact getD_mid _ pre p qs _ rfl
  have ih:=ref_l0_ev h h0 h1 hok (R:=R) qs (pre++ [p]) (by rw [←e];simp) hk
  rw [←wrap_next pre _ hp0,List.map_append,List.map_cons,List.map_nil] at ih
  refine Ev.step (fun k=>by rw [regletref14_Predict.l0]) (Ev.pos (by omega) (Ev.pos (by omega) ?_))
  rw [hrd]
  refine Ev.bind (refOf_ev l0 l1 a2 a3 l4 h (by omega) h1 p.f1 (h.2 p hmem)) ?_
  have hfl:=follow_range hok
  have hsel:sel l0.length l1.length l4 p=(dOf l0.length l1.length l4 p.f1).1++(if(dOf l0.length l1.length l4 p.f1).2=true then(dFollow l0.length l1.length l4).getD p.f0.toNat [] else []):=rfl
  by_cases he:(dOf l0.length l1.length l4 p.f1).2=true
  ·refine Ev.pos he (Ev.pos hl.1 (Ev.pos (by rw [hfl.1];exact hl.2) (Ev.pos ?_ (Ev.pos (by simp;omega) ?_))))
   ·have h2:=(of_range hok p.f1).1
    have h4:(rd_L5 (dFollow l0.length l1.length l4) p.f0).length≤l1.length+1:=(hfl.2 p.f0.toNat).1
    omega
   ·rw [hsel,if_pos he] at ih
    exact ih
  ·refine Ev.neg he (Ev.pos (by simp;omega) ?_)
   rw [hsel,if_neg he,List.append_nil] at ih
   exact ih
end
section
variable (l0:List ByteArray) (l1:List Tok) (a2 a3:Int) (l4:List Prod)
def dPredict (nn nt:Nat) (ps:List Prod):List (List Int)×List Clash:=if ps.all (okProd nn nt)=true then pAll (ps.map (chRow nn nt ps)) ps (nt+1) nn 0 [] else([],[])
variable (h:Small l4) (h0:l0.length≤30) (h1:l1.length≤30) (h4:l4.length≤30)
include h h0 h1 h4
theorem refPredict_ev:Ev (fun k=>regletref14_Predict.f k l0 l1 a2 a3 l4) (dPredict l0.length l1.length l4):=by
 refine Ev.congr (fun k=>by rw [regletref14_Predict.f]) (Ev.bind (refRight_ev l0 l1 a2 a3 l4 h) ?_)
 unfold dPredict
 cases hr:l4.all (okProd l0.length l1.length) with
 |false=>exact Ev.neg (by simp) (Ev.some (by simp))
 |true=>
  refine Ev.pos rfl (Ev.bind (refFollow_ev l0 l1 a2 a3 l4 h (by omega) (by omega)) ?_)
  have hx:=ref_l1_ev (l0:=l0) (l1:=l1) (a2:=a2) (a3:=a3) (l4:=l4) (b:=l4.map (chRow l0.length l1.length l4)) (all:=l4.map (sel l0.length l1.length l4)) h (by omega) (by omega) (fun i look hi=>?_) (by simp) (fun i=>?_) l0.length [] [] (by simp) (by
   have h3:l0.length * ((l1.length+1) * l4.length)≤30 * (31 * 30):=Nat.mul_le_mul h0 (Nat.mul_le_mul (by omega) h4)
   simp only [List.length_nil];omega) (by omega)
  ·refine Ev.val (ref_l0_ev (a2:=a2) (a3:=a3) h (by omega) (by omega) hr l4 [] rfl hx) (by simp)
  ·have e1:(l4.map (chRow l0.length l1.length l4)).getD i []=chRow l0.length l1.length l4 l4[i]:=by rw [List.getD_eq_getElem?_getD,List.getElem?_map,List.getElem?_eq_getElem hi];rfl
   have e2:(l4.map (sel l0.length l1.length l4)).getD i []=sel l0.length l1.length l4 l4[i]:=by rw [List.getD_eq_getElem?_getD,List.getElem?_map,List.getElem?_eq_getElem hi];rfl
   rw [e1,e2]
   exact chRow_getD hr _ look
  ·by_cases hi:i<l4.length
   rotate_left
   ·rw [List.getD_eq_getElem?_getD,List.getElem?_map,List.getElem?_eq_none (by omega)]
    simp
   rw [List.getD_eq_getElem?_getD,List.getElem?_map,List.getElem?_eq_getElem hi]
   have:=(sel_range hr (l4[i])).1
   simp only [Option.map_some,Option.getD_some]
   omega
end
theorem mRight_ok {l:List Int}(hu:∀x∈l,0≤x∧x≤255) {n t:Nat}(hn:0<n) (ht:0<t):∀(c at_:Nat) (acc:List Sym),acc.all (okSym n t)=true→(mRight l n t c at_ acc).1.all (okSym n t)=true∧(mRight l n t c at_ acc).1.length=acc.length+c
 |0,at_,acc,h=>⟨h,rfl⟩
 |c+1,at_,acc,h=>by
  unfold mRight
  obtain⟨h1,h2⟩:=mRight_ok hu hn ht c (at_+2) (acc++ [if mPick l at_ 2=0 then⟨true,mPick l (at_+1) t⟩ else⟨false,mPick l (at_+1) n⟩]) (by
   rw [List.all_append,h,Bool.true_and]
   have h3:=mPick_lt hu (at_+1) (n:=(t:Int)) (by omega)
   have h4:=mPick_lt hu (at_+1) (n:=(n:Int)) (by omega)
   split
   ·simp only [List.all_cons,List.all_nil,Bool.and_true,okSym,if_true,Bool.and_eq_true,decide_eq_true_eq]
    exact h3
   ·simp only [List.all_cons,List.all_nil,Bool.and_true,okSym,Bool.and_eq_true,decide_eq_true_eq]
    exact⟨h4.1,by simpa using h4.2⟩)
  exact⟨h1,by rw [h2];simp;omega⟩
theorem mProds_ok {l:List Int}(hu:∀x∈l,0≤x∧x≤255) {n t:Nat}(hn:0<n) (ht:0<t):∀(i at_:Nat) (acc:List Prod),acc.all (okProd n t)=true→(∀p∈acc,p.f1.length≤3)→(mProds l n t i at_ acc).all (okProd n t)=true∧(mProds l n t i at_ acc).length=acc.length+i∧∀p∈mProds l n t i at_ acc,p.f1.length≤3
 |0,at_,acc,h,h3=>⟨h,rfl,h3⟩
 |i+1,at_,acc,h,h3=>by
  unfold mProds
  obtain⟨h1,h2⟩:=mRight_ok hu hn ht (mPick l (at_+1) 4).toNat (at_+2) [] rfl
  have h4:=mPick_lt hu at_ (n:=(n:Int)) (by omega)
  have h5:=mPick_lt hu (at_+1) (n:=4) (by omega)
  obtain⟨h6,h7,h8⟩:=mProds_ok hu hn ht i (mRight l n t (mPick l (at_+1) 4).toNat (at_+2) []).2 (acc++ [⟨mPick l at_ n,(mRight l n t (mPick l (at_+1) 4).toNat (at_+2) []).1⟩]) (by
   rw [List.all_append,h,Bool.true_and]
   simp only [List.all_cons,List.all_nil,Bool.and_true,okProd,Bool.and_eq_true,decide_eq_true_eq]
   exact⟨h4,h1⟩) (by
   intro p hp
   rcases List.mem_append.1 hp with hp|hp
   ·exact h3 p hp
   ·obtain rfl:=List.mem_singleton.1 hp
    simp only
    rw [h2];simp;omega)
  exact⟨h6,by rw [h7];simp;omega,h8⟩
structure MadeOk (ns:List ByteArray) (ts:List Tok) (ps:List Prod):Prop where
 n1:0<ns.length
 n5:ns.length≤5
 t1:0<ts.length
 t4:ts.length≤4
 p1:0<ps.length
 p10:ps.length≤10
 ok:ps.all (okProd ns.length ts.length)=true
 r3:∀p∈ps,p.f1.length≤3
theorem made_ev {l:List Int}(hw:∀x∈l,(Lit.int .u8 x).wf=true):∃ns ts ps,MadeOk ns ts ps∧Ev (fun k=>regletlaw13_Made.f k l) (ns,ts,0,0,ps):=by
 have hu:∀x∈l,0≤x∧x≤255:=fun x hx=>wf_u8 (hw x hx)
 have h0:=mPick_lt hu 0 (n:=5) (by decide)
 have h1:=mPick_lt hu 1 (n:=4) (by decide)
 have h2:=mPick_lt hu 2 (n:=10) (by decide)
 obtain⟨n,en⟩:∃n:Nat,1+mPick l 0 5=(n:Int):=⟨(1+mPick l 0 5).toNat,by omega⟩
 obtain⟨t,et⟩:∃n:Nat,1+mPick l 1 4=(n:Int):=⟨(1+mPick l 1 4).toNat,by omega⟩
 obtain⟨c,ec⟩:∃n:Nat,1+mPick l 2 10=(n:Int):=⟨(1+mPick l 2 10).toNat,by omega⟩
 obtain⟨h3,h4,h5⟩:=mProds_ok hu (n:=n) (t:=t) (by omega) (by omega) c 3 [] rfl (fun p hp=>by simp at hp)
 have ln:(mNames.take n).length=n:=by rw [List.length_take];show min n 5=n;omega
 have lt:((mTexts.map mTok).take t).length=t:=by rw [List.length_take];show min t 4=t;omega
 refine⟨mNames.take n,(mTexts.map mTok).take t,mProds l n t c 3 [],⟨by omega,by omega,by omega,by omega,by simp at h4;omega,by simp at h4;omega,by rw [ln,lt];exact h3,h5⟩,Ev.some' ?_⟩
 have h7:l.all (fun x=>decide (0≤x∧x≤255))=true:=List.all_eq_true.2 (fun x hx=>decide_eq_true (hu x hx))
 show(if l.all (fun x=>decide (0≤x∧x≤255))=true then _ else none)=_
 rw [if_pos h7,en,et,ec]
 rfl
theorem made_ev0 {l:List Int}(hw:∀x∈l,(Lit.int .u8 x).wf=true):∃ns ts ps,MadeOk ns ts ps∧∀k,regletlaw13_Made.f k l=some (ns,ts,0,0,ps):=by
 obtain⟨ns,ts,ps,h,K,hK⟩:=made_ev hw
 exact⟨ns,ts,ps,h,fun k=>hK K (Nat.le_refl _)⟩
end Go.Proofs.Ytapjfnfengefpaa.M
end

section
namespace Go.Proofs.Ytapjfnfengefpaa.M
open Go.RowKit Go.Proofs.YtapjfnfengefpaaW.PrintWords Go.Proofs.YtapjfnfengefpaaW.PrintLast Go.Proofs.YtapjfnfengefpaaW.PrintMore Go.Proofs.Ytapjfnfengefpaa.P Go.Proofs.Ytapjfnfengefpaa.H
set_option linter.unusedVariables false
set_option linter.unusedSimpArgs false
set_option linter.unusedSectionVars false
section
variable (b:List (List Bool)) (ps:List Prod) (r look:Nat)
def Sel (i:Nat):Prop:=∃p,ps[i]?=some p∧p.f0=(r:Int)∧(b.getD i []).getD look false=true
def GoodC (c:Clash):Prop:=c.f0=(r:Int)∧c.f1=(look:Int)∧∃i j:Nat,c.f2=(i:Int)∧c.f3=(j:Int)∧i<j∧j<ps.length∧Sel b ps r look i∧Sel b ps r look j
theorem sel_lt {b:List (List Bool)}{ps:List Prod}{r look i:Nat}(h:Sel b ps r look i):i<ps.length:=by
 obtain⟨p,hp,_⟩:=h
 exact(List.getElem?_eq_some_iff.1 hp).1
variable {b ps r look}
theorem sel_mid {pre qs:List Prod}{p:Prod}(e:pre++p::qs=ps):Sel b ps r look pre.length↔p.f0=(r:Int)∧(b.getD pre.length []).getD look false=true:=by
 have hp:ps[pre.length]?=some p:=by rw [←e];simp
 constructor
 ·rintro⟨q,hq,h⟩
  rw [hp] at hq
  obtain rfl:=Option.some.inj hq
  exact h
 ·exact fun h=>⟨p,hp,h⟩
theorem prIn_inv:∀(qs pre:List Prod) (st:Int×List Clash),pre++qs=ps→(st.1= -1∨∃i:Nat,st.1=(i:Int)∧i<pre.length∧Sel b ps r look i)→
 ((prIn b r look pre.length qs st).1= -1∧st.1= -1∧(∀j,pre.length≤j→¬Sel b ps r look j)∨
  ∃i:Nat,(prIn b r look pre.length qs st).1=(i:Int)∧Sel b ps r look i∧(st.1= -1→pre.length≤i∧∀j,pre.length≤j→Sel b ps r look j→i≤j)∧(st.1≠ -1→st.1=(i:Int)))∧
 (∀c∈(prIn b r look pre.length qs st).2,c∈st.2∨GoodC b ps r look c)∧
 (st.1≠ -1→(∃j,pre.length≤j∧Sel b ps r look j)→st.2.length<(prIn b r look pre.length qs st).2.length)∧
 ((∃i j,pre.length≤i∧i<j∧Sel b ps r look i∧Sel b ps r look j)→st.2.length<(prIn b r look pre.length qs st).2.length)
 | [],pre,st,e,hst=>by
  have hno:∀j,pre.length≤j→¬Sel b ps r look j:=fun j hj h=>by
   have:=sel_lt h
   rw [←e] at this
   simp at this
   omega
  refine⟨?_,fun c hc=> .inl hc,fun _ ⟨j,hj,h⟩=>absurd h (hno j hj),fun⟨i,j,hi,_,h,_⟩=>absurd h (hno i hi)⟩
  rcases hst with h|⟨i,h,hi,hs⟩
  ·exact .inl ⟨h,h,hno⟩
  ·exact .inr ⟨i,h,hs,fun h2=>by rw [h] at h2;omega,fun _=>h⟩
 |p::qs,pre,st,e,hst=>by
  have hm:=sel_mid (b:=b) (r:=r) (look:=look) e
  have hstep:∀st':Int×List Clash,prStep b r look pre.length p st=st'→prIn b r look pre.length (p::qs) st=prIn b r look (pre++ [p]).length qs st':=fun st' h=>by
   rw [prIn,h,List.length_append,List.length_singleton]
  have hlen:(pre++ [p]).length=pre.length+1:=by simp
  by_cases hs:Sel b ps r look pre.length
  ·have hc:=hm.1 hs
   by_cases hx:st.1= -1
   ·have ih:=prIn_inv qs (pre++ [p]) (((pre.length:Nat):Int),st.2) (by rw [←e];simp) (.inr ⟨pre.length,rfl,by simp,hs⟩)
    rw [hstep _ (by rw [prStep,if_pos hc,if_pos (by rw [hx];decide)])]
    obtain⟨h1,h2,h3,h4⟩:=ih
    have hne:((pre.length:Nat):Int)≠ -1:=by omega
    refine⟨?_,h2,fun h=>absurd hx h,fun⟨i,j,hi,hij,hsi,hsj⟩=>h3 hne ⟨j,by rw [hlen];omega,hsj⟩⟩
    rcases h1 with⟨_,h5,_⟩|⟨i,h5,h6,_,h8⟩
    ·exact absurd h5 hne
    ·have:=h8 hne
     obtain rfl:pre.length=i:=by simp only at this;omega
     exact .inr ⟨pre.length,h5,h6,fun _=>⟨Nat.le_refl _,fun j hj _=>hj⟩,fun h=>absurd hx h⟩
   ·obtain⟨i0,hi0,hi0l,hs0⟩:=hst.resolve_left hx
    have ih:=prIn_inv qs (pre++ [p]) (st.1,st.2++ [⟨(r:Int),(look:Int),st.1,((pre.length:Nat):Int)⟩]) (by rw [←e];simp) (.inr ⟨i0,hi0,by simp;omega,hs0⟩)
    rw [hstep _ (by rw [prStep,if_pos hc,if_neg (by omega)])]
    obtain⟨h1,h2,h3,h4⟩:=ih
    have hle:=prIn_le b r look qs (pre++ [p]).length (st.1,st.2++ [⟨(r:Int),(look:Int),st.1,((pre.length:Nat):Int)⟩])
    simp only [List.length_append,List.length_cons,List.length_nil] at hle
    have hlt:st.2.length<(prIn b r look (pre++ [p]).length qs (st.1,st.2++ [⟨(r:Int),(look:Int),st.1,((pre.length:Nat):Int)⟩])).2.length:=by
     simp only [List.length_append,List.length_cons,List.length_nil]
     omega
    refine⟨?_,fun c hc'=>?_,fun _ _=>hlt,fun _=>hlt⟩
    ·rcases h1 with⟨_,h5,_⟩|⟨i,h5,h6,_,h8⟩
     ·exact absurd h5 hx
     ·exact .inr ⟨i,h5,h6,fun h=>absurd h hx,fun _=>h8 hx⟩
    ·rcases h2 c hc' with h|h
     ·rcases List.mem_append.1 h with h|h
      ·exact .inl h
      ·obtain rfl:=List.mem_singleton.1 h
       exact .inr ⟨rfl,rfl,i0,pre.length,hi0,rfl,hi0l,sel_lt hs,hs0,hs⟩
     ·exact .inr h
  ·have hc:¬(p.f0=(r:Int)∧(b.getD pre.length []).getD look false=true):=fun h=>hs (hm.2 h)
   have ih:=prIn_inv qs (pre++ [p]) st (by rw [←e];simp) (hst.imp id (fun⟨i,h,hi,h2⟩=>⟨i,h,by simp;omega,h2⟩))
   rw [hstep _ (by rw [prStep,if_neg hc])]
   obtain⟨h1,h2,h3,h4⟩:=ih
   have hup:∀j,pre.length≤j→Sel b ps r look j→(pre++ [p]).length≤j:=fun j hj h=>by
    rw [hlen]
    by_cases he:j=pre.length
    ·subst he;exact absurd h hs
    ·omega
   refine⟨?_,h2,fun h ⟨j,hj,h5⟩=>h3 h ⟨j,hup j hj h5,h5⟩,fun⟨i,j,hi,hij,hsi,hsj⟩=>h4 ⟨i,j,hup i hi hsi,hij,hsi,hsj⟩⟩
   rcases h1 with⟨h5,h6,h7⟩|⟨i,h5,h6,h7,h8⟩
   ·exact .inl ⟨h5,h6,fun j hj h=>h7 j (hup j hj h) h⟩
   ·exact .inr ⟨i,h5,h6,fun h=>⟨by have:=(h7 h).1;rw [hlen] at this;omega,fun j hj h9=>(h7 h).2 j (hup j hj h9) h9⟩,h8⟩
theorem prIn_fst:∀(qs:List Prod) (i:Nat) (st st':Int×List Clash),st.1=st'.1→(prIn b r look i qs st).1=(prIn b r look i qs st').1
 | [],_,_,_,h=>h
 |p::qs,i,st,st',h=>by
  refine prIn_fst qs (i+1) _ _ ?_
  unfold prStep
  rw [←h]
  split
  ·split
   ·rfl
   ·exact rfl
  ·exact h
end
def tk (b:List (List Bool)) (ps:List Prod) (r look:Nat):Int:=(prIn b r look 0 ps (-1,[])).1
theorem tk_spec (b:List (List Bool)) (ps:List Prod) (r look:Nat):(tk b ps r look= -1∧∀j,¬Sel b ps r look j)∨∃i:Nat,tk b ps r look=(i:Int)∧Sel b ps r look i∧∀j,Sel b ps r look j→i≤j:=by
 rcases(prIn_inv (b:=b) (ps:=ps) (r:=r) (look:=look) ps [] (-1,[]) rfl (.inl rfl)).1 with⟨h,_,h2⟩|⟨i,h,h2,h3,_⟩
 ·exact .inl ⟨h,fun j=>h2 j (Nat.zero_le _)⟩
 ·exact .inr ⟨i,h,h2,fun j hj=>(h3 rfl).2 j (Nat.zero_le _) hj⟩
theorem pRow_getD (b:List (List Bool)) (ps:List Prod) (r:Nat):∀(n look:Nat) (bad:List Clash) (j:Nat),j<n→(pRow b ps r n look bad).1.getD j 0=tk b ps r (look+j)
 |0,_,_,j,h=>absurd h (by omega)
 |n+1,look,bad,0,_=>prIn_fst ps 0 _ _ rfl
 |n+1,look,bad,j+1,h=>by
  have ih:=pRow_getD b ps r n (look+1) (prIn b r look 0 ps (-1,bad)).2 j (by omega)
  rw [pRow,List.getD_cons_succ,ih,show look+1+j=look+(j+1) by omega]
theorem pAll_getD (b:List (List Bool)) (ps:List Prod) (w:Nat):∀(n r:Nat) (bad:List Clash) (i:Nat),i<n→((pAll b ps w n r bad).1.getD i []).length=w∧∀j,j<w→((pAll b ps w n r bad).1.getD i []).getD j 0=tk b ps (r+i) j
 |0,_,_,i,h=>absurd h (by omega)
 |n+1,r,bad,0,_=>by
  rw [pAll,List.getD_cons_zero]
  refine⟨(pRow_max b ps r w 0 bad).1,fun j hj=>?_⟩
  rw [pRow_getD b ps r w 0 bad j hj];simp
 |n+1,r,bad,i+1,h=>by
  have ih:=pAll_getD b ps w n (r+1) (pRow b ps r w 0 bad).2 i (by omega)
  rw [pAll,List.getD_cons_succ]
  refine⟨ih.1,fun j hj=>?_⟩
  rw [ih.2 j hj,show r+1+i=r+(i+1) by omega]
section
variable {nn nt:Nat}{ps:List Prod}
def SelD (nn nt:Nat) (ps:List Prod) (r look i:Nat):Prop:=∃p,ps[i]?=some p∧p.f0=(r:Int)∧(look:Int)∈sel nn nt ps p
theorem selD_iff (hps:ps.all (okProd nn nt)=true) (r look i:Nat):Sel (ps.map (chRow nn nt ps)) ps r look i↔SelD nn nt ps r look i:=by
 have hb:∀p,ps[i]?=some p→((ps.map (chRow nn nt ps)).getD i []).getD look false=decide ((look:Int)∈sel nn nt ps p):=fun p hp=>by
  have e:(ps.map (chRow nn nt ps)).getD i []=chRow nn nt ps p:=by rw [List.getD_eq_getElem?_getD,List.getElem?_map,hp];rfl
  rw [e]
  exact chRow_getD hps p look
 constructor
 ·rintro⟨p,h1,h2,h3⟩
  rw [hb p h1] at h3
  exact⟨p,h1,h2,of_decide_eq_true h3⟩
 ·rintro⟨p,h1,h2,h3⟩
  exact⟨p,h1,h2,by rw [hb p h1];exact decide_eq_true h3⟩
theorem dPredict_table (hps:ps.all (okProd nn nt)=true):(dPredict nn nt ps).1.length=nn∧∀r,r<nn→((dPredict nn nt ps).1.getD r []).length=nt+1∧∀look,look≤nt→
 (((dPredict nn nt ps).1.getD r []).getD look 0= -1∧∀j,¬SelD nn nt ps r look j)∨∃i:Nat,((dPredict nn nt ps).1.getD r []).getD look 0=(i:Int)∧SelD nn nt ps r look i∧∀j,SelD nn nt ps r look j→i≤j:=by
 have e:dPredict nn nt ps=pAll (ps.map (chRow nn nt ps)) ps (nt+1) nn 0 []:=by rw [dPredict,if_pos hps]
 rw [e]
 refine⟨(pAll_max _ ps (nt+1) nn 0 []).1,fun r hr=>?_⟩
 obtain⟨h1,h2⟩:=pAll_getD (ps.map (chRow nn nt ps)) ps (nt+1) nn 0 [] r hr
 refine⟨h1,fun look hl=>?_⟩
 rw [h2 look (by omega),Nat.zero_add]
 rcases tk_spec (ps.map (chRow nn nt ps)) ps r look with⟨h,h3⟩|⟨i,h,h3,h4⟩
 ·exact .inl ⟨h,fun j hj=>h3 j ((selD_iff hps r look j).2 hj)⟩
 ·exact .inr ⟨i,h,(selD_iff hps r look i).1 h3,fun j hj=>h4 j ((selD_iff hps r look j).2 hj)⟩
end
end Go.Proofs.Ytapjfnfengefpaa.M
end

section
namespace Go.Proofs.Ytapjfnfengefpaa.M
open Go.RowKit Go.Proofs.YtapjfnfengefpaaW.PrintWords Go.Proofs.YtapjfnfengefpaaW.PrintLast Go.Proofs.YtapjfnfengefpaaW.PrintMore Go.Proofs.Ytapjfnfengefpaa.P Go.Proofs.Ytapjfnfengefpaa.H
set_option linter.unusedVariables false
set_option linter.unusedSimpArgs false
structure SynOk (ns:List ByteArray) (ts:List Tok) (ps:List Prod):Prop where
 n1:0<ns.length
 n5:ns.length≤5
 t1:0<ts.length
 t10:ts.length≤10
 p10:ps.length≤10
 ok:ps.all (okProd ns.length ts.length)=true
 r3:∀p∈ps,p.f1.length≤3
theorem SynOk.small {ns:List ByteArray}{ts:List Tok}{ps:List Prod}(h:SynOk ns ts ps):Small ps:=⟨by have:=h.p10;omega,fun p hp=>by have:=h.r3 p hp;omega⟩
theorem synOk_made {ns:List ByteArray}{ts:List Tok}{ps:List Prod}(h:MadeOk ns ts ps):SynOk ns ts ps:=⟨h.n1,h.n5,h.t1,by have:=h.t4;omega,h.p10,h.ok,h.r3⟩
def Sized (nn nt:Nat) (tb:List (List Int)):Prop:=tb.length=nn∧∀r∈tb,r.length=nt+1
theorem dPredict_sized {nn nt:Nat}{ps:List Prod}(hps:ps.all (okProd nn nt)=true):Sized nn nt (dPredict nn nt ps).1:=by
 obtain⟨h1,h2⟩:=dPredict_table hps
 refine⟨h1,fun r hr=>?_⟩
 obtain⟨i,hi,e⟩:=List.getElem_of_mem hr
 have h3:=(h2 i (by omega)).1
 rw [List.getD_eq_getElem?_getD,List.getElem?_eq_getElem hi] at h3
 rw [←e]
 exact h3
theorem SynOk.fit {ns:List ByteArray}{ts:List Tok}{ps:List Prod}{tb:List (List Int)}(h:SynOk ns ts ps) (ht:Sized ns.length ts.length tb):Fit ts ps tb:=
 ⟨h.small,by have:=h.t10;omega,by have:=h.n5;have:=ht.1;omega,fun r hr=>by have:=h.t10;have:=ht.2 r hr;omega⟩
theorem table_ev {ns:List ByteArray}{ts:List Tok}{ps:List Prod}(h:SynOk ns ts ps) (a2 a3:Int) {at_ n:Int}(h0:0≤at_∧at_≤255) (hn:0≤n∧n≤255):∃tb,Ev (fun k=>regletlaw16_table.f k ns ts a2 a3 ps at_ n) tb∧Sized ns.length ts.length tb∧(200≤at_→tb=(dPredict ns.length ts.length ps).1):=by
 have hP:=refPredict_ev ns ts a2 a3 ps h.small (by have:=h.n5;omega) (by have:=h.t10;omega) (by have:=h.p10;omega)
 have hS:=dPredict_sized h.ok
 have hn1:=h.n1
 have hn5:=h.n5
 have ht1:=h.t1
 have ht10:=h.t10
 have hp10:=h.p10
 generalize (dPredict ns.length ts.length ps)=pr at hP hS
 obtain⟨tb,cs⟩:=pr
 simp only at hS
 by_cases ha:at_<200
 rotate_left
 ·refine⟨tb,?_,hS,fun _=>rfl⟩
  refine Ev.congr (fun k=>by rw [regletlaw16_table.f]) (Ev.bind hP ?_)
  exact Ev.neg ha (Ev.some rfl)
 have hl:(tb.length:Int)>0:=by have:=hS.1;omega
 have e0:wrap64 at_=at_:=wrap64_id (by omega) (by omega)
 have e1:wrap64 ((ps.length:Int)+2)=(ps.length:Int)+2:=wrap64_id (by omega) (by omega)
 have m0:0≤Int.tmod at_ (tb.length:Int):=Int.tmod_nonneg _ h0.1
 have m1:Int.tmod at_ (tb.length:Int)<(tb.length:Int):=Int.tmod_lt_of_pos _ hl
 generalize hi:Int.tmod at_ (tb.length:Int)=i at m0 m1
 have er:rd_L5 tb i=tb.getD i.toNat []:=rfl
 have hrow:(tb.getD i.toNat []).length=ts.length+1:=by
  rw [List.getD_eq_getElem?_getD,List.getElem?_eq_getElem (by omega)]
  exact hS.2 _ (List.getElem_mem _)
 have d0:0≤Int.tdiv at_ 8:=Int.tdiv_nonneg h0.1 (by omega)
 have d1:Int.tdiv at_ 8≤255:=by rw [Int.tdiv_eq_ediv_of_nonneg h0.1];omega
 have e2:wrap64 (Int.tdiv at_ 8)=Int.tdiv at_ 8:=wrap64_id (by omega) (by omega)
 have k0:0≤Int.tmod (Int.tdiv at_ 8) ((tb.getD i.toNat []).length:Int):=Int.tmod_nonneg _ d0
 have k1:Int.tmod (Int.tdiv at_ 8) ((tb.getD i.toNat []).length:Int)<((tb.getD i.toNat []).length:Int):=Int.tmod_lt_of_pos _ (by omega)
 refine⟨tb.set i.toNat ((tb.getD i.toNat []).set (Int.tmod (Int.tdiv at_ 8) ((tb.getD i.toNat []).length:Int)).toNat (wrap64 (Int.tmod (wrap64 n) ((ps.length:Int)+2) - 1))),?_,?_,fun h=>by omega⟩
 ·refine Ev.congr (fun k=>by rw [regletlaw16_table.f]) (Ev.bind hP ?_)
  simp only [e0,hi,e1,er,e2]
  refine Ev.pos ha (Ev.pos hl (Ev.neg (by omega) (Ev.pos m0 (Ev.pos m1 (Ev.neg (by omega) (Ev.neg (by omega) (Ev.pos k0 (Ev.pos k1 (Ev.some rfl)))))))))
 ·refine⟨by rw [List.length_set];exact hS.1,fun r hr=>?_⟩
  rcases List.mem_or_eq_of_mem_set hr with hr|rfl
  ·exact hS.2 r hr
  ·rw [List.length_set];exact hrow
theorem tokens_l0_ev {n:Int}(hn:0<n):∀(a pre out:List Int),(∀x∈pre++a,0≤x∧x≤255)→out.length=pre.length→pre.length≤10→(∀x∈out,0≤x∧x<n)→
 ∃t,Ev (fun k=>regletlaw16_tokens.l0 k (pre++a) n out (pre.length:Int)) t∧t.length≤10∧∀x∈t,0≤x∧x<n
 | [],pre,out,_,ho,hp,hx=>by
  refine⟨out,?_,by omega,hx⟩
  refine Ev.step (fun k=>by rw [regletlaw16_tokens.l0]) ?_
  exact Ev.neg (by simp) (Ev.some rfl)
 |x::a,pre,out,hu,ho,hp,hx=>by
  have er:rd (pre++x::a) (pre.length:Int)=x:=getD_mid _ pre x a _ rfl
  have hxu:=hu x (by simp)
  by_cases h10:(pre.length:Int)<10
  ·have e0:wrap64 x=x:=wrap64_id (by omega) (by omega)
   have ih:=tokens_l0_ev hn a (pre++ [x]) (out++ [Int.tmod x n]) (by rw [List.append_assoc];exact hu) (by simp [ho]) (by simp;omega) (fun y hy=>by
    rcases List.mem_append.1 hy with h|h
    ·exact hx y h
    ·rw [List.mem_singleton.1 h]
     exact⟨Int.tmod_nonneg _ hxu.1,Int.tmod_lt_of_pos _ hn⟩)
   obtain⟨t,ht,h1,h2⟩:=ih
   refine⟨t,?_,h1,h2⟩
   rw [←wrap_next pre x (by omega),List.append_assoc,List.singleton_append] at ht
   refine Ev.step (fun k=>by rw [regletlaw16_tokens.l0]) (Ev.pos (by simp;omega) (Ev.pos h10 (Ev.pos (by omega) (Ev.neg (by omega) (Ev.pos (by omega) ?_)))))
   rw [er,e0]
   exact ht
  ·refine⟨out,?_,by omega,hx⟩
   refine Ev.step (fun k=>by rw [regletlaw16_tokens.l0]) (Ev.pos (by simp;omega) ?_)
   exact Ev.neg h10 (Ev.some rfl)
theorem tokens_ev {l:List Int}(hu:∀x∈l,0≤x∧x≤255) {n:Int}(hn:0<n):∃t,Ev (fun k=>regletlaw16_tokens.f k l n) t∧t.length≤10∧∀x∈t,0≤x∧x<n:=by
 obtain⟨t,ht,h1,h2⟩:=tokens_l0_ev hn l [] [] (by simpa using hu) rfl (by simp) (fun x h=>by cases h)
 exact⟨t,Ev.congr (fun k=>by rw [regletlaw16_tokens.f];rfl) ht,h1,h2⟩
end Go.Proofs.Ytapjfnfengefpaa.M
end

section
namespace Go.Proofs.Ytapjfnfengefpaa.Pure
open Go.RowKit Go.Proofs.Ytapjfnfengefpaa.P Go.Proofs.YtapjfnfengefpaaW.PrintWords Go.Proofs.YtapjfnfengefpaaW.PrintLast Go.Proofs.YtapjfnfengefpaaW.PrintMore Go.Proofs.Ytapjfnfengefpaa.H Go.Proofs.Ytapjfnfengefpaa.M
set_option linter.unusedVariables false
theorem mm_l0_ev {l1 l4:List Int}{a3:Int}{tb:List (List Int)}{ns:List ByteArray}{ts:List M.Tok}{ps:List M.Prod}(d:Bool) (hj:∀st:List M.Sym,st.length≤5→Ev (fun k=>regletlaw16_MachineMade.j1 k l1 a3 tb ns ts 0 0 ps st d) true):∀(a pre:List Int) (st:List M.Sym),l4=pre++a→st.length=pre.length→pre.length≤5→
 Ev (fun k=>regletlaw16_MachineMade.l0 k l1 a3 l4 tb (pre.length:Int) ns ts 0 0 ps st d) true
 | [],pre,st,e,hs,hp=>by
  refine Ev.step (fun k=>by rw [regletlaw16_MachineMade.l0]) ?_
  exact Ev.neg (by rw [e];simp) (hj st (by omega))
 |x::a,pre,st,e,hs,hp=>by
  have hl:pre.length<l4.length:=by rw [e];simp
  refine Ev.step (fun k=>by rw [regletlaw16_MachineMade.l0]) (Ev.pos (by omega) ?_)
  by_cases h5:(pre.length:Int)<5
  ·refine Ev.pos h5 (Ev.pos (by omega) (Ev.pos (by omega) ?_))
   have ih:=mm_l0_ev (l4:=l4) d hj a (pre++ [x]) (st++ [⟨((Int.tmod (rd l4 (pre.length:Int)) 2)==0),Int.tmod (wrap64 (Int.tdiv (wrap64 (rd l4 (pre.length:Int))) 2)) 5⟩]) (by rw [List.append_assoc];exact e) (by simp [hs]) (by rw [List.length_append,List.length_singleton];omega)
   rw [←wrap_next pre x (by omega)] at ih
   exact ih
  ·exact Ev.neg h5 (hj st (by omega))
theorem MachineMade:regletlaw16_MachineMade.Pure:=by
 intro l0 l1 a2 a3 l4 _ _ hw0 _ _ hw1 hw2 hw3 _ _ hw4
 obtain⟨ns,ts,ps,hm,hM⟩:=made_ev0 hw0
 have hu:∀x∈l1,0≤x∧x≤255:=fun x hx=>wf_u8 (hw1 x hx)
 have h:=synOk_made hm
 obtain⟨tb,hT,hS,_⟩:=table_ev h 0 0 (wf_u8 hw2) (wf_u8 hw3)
 have ht1:=h.t1
 have ht10:=h.t10
 have e1:wrap64 ((ts.length:Int)+1)=(ts.length:Int)+1:=wrap64_id (by omega) (by omega)
 have e2:wrap64 ((ts.length:Int)+2)=(ts.length:Int)+2:=wrap64_id (by omega) (by omega)
 obtain⟨t,hK,hl,_⟩:=tokens_ev hu (n:=(ts.length:Int)+1) (by omega)
 apply Ev.rounds
 unfold regletlaw16_MachineMade.f
 refine Ev.bind (⟨0,fun k _=>hM k⟩:Ev (fun k=>regletlaw13_Made.f k l0) _) (Ev.bind hT ?_)
 refine mm_l0_ev _ (fun st hst=>?_) l4 [] [] rfl rfl (by simp)
 refine Ev.step (fun k=>by rw [regletlaw16_MachineMade.j1]) (Ev.bind awake16_ev (Ev.pos rfl ?_))
 rw [e1,e2]
 refine Ev.bind hK (Ev.bind (ran_ev (h.fit hS) (by omega)) (Ev.pos rfl (Ev.neg (by omega) (Ev.bind (fed_ev (h.fit hS) st _ _ (by omega)) (Ev.pos rfl ?_)))))
 refine Ev.bind0 (a:=([(⟨false,0⟩:M.Sym)],false)) rfl ?_
 refine Ev.bind0 (a:=([(⟨false,0⟩:M.Sym)],false)) rfl ?_
 exact Ev.bind (same16_ev false _ (by simp)) (Ev.some rfl)
end Go.Proofs.Ytapjfnfengefpaa.Pure
end
