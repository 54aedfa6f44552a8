/- Packed texts of this claim: the walks of the functions, and their plain laws; see the claim's last text. -/
import Derived.WalkMore
import Derived.Deep.Cut
import Derived.Deep.CutRange
import Derived.Shelf.Abstract
import Derived.Deep.RegionHeld3
import Derived.Test.YtfdcfihcfegekaaKPredictTakes3
section
namespace Go.Proofs.Ytfdcfihcfegekaa.P
open Go.RowKit Go.Proofs.YtfdcfihcfegekaaW.PrintWords Go.Proofs.YtfdcfihcfegekaaW.PrintLast Go.Proofs.YtfdcfihcfegekaaW.PrintMore Go.Proofs.Ytfdcfihcfegekaa.H Go.Proofs.Ytfdcfihcfegekaa.R Go.Proofs.Ytfdcfihcfegekaa.M
set_option linter.unusedVariables false
set_option linter.unusedSimpArgs false
abbrev T : Bool := true
abbrev F : Bool := false
theorem pq : (∀ (a : Act) (d : Option Tmp) (v : Value), a.put d v = match d with | none => a | some i => { a with tmps := a.tmps.setIfInBounds i v }) ∧ (∀ (l : List Value) (i : Nat) (a : Value), l.toArray.setIfInBounds i a = (l.set i a).toArray) ∧ (∀ (x : Value) (l : List Value) (a : Value), (x :: l).set 0 a = a :: l) ∧ (∀ (x : Value) (l : List Value) (n : Nat) (a : Value), (x :: l).set (n + 1) a = x :: l.set n a) ∧ (∀ n, IntKind.i64.wrap n = wrap64 n) ∧ ∀ n, IntKind.i32.wrap n = wrap32 n := ⟨fun _ d _ => by cases d <;> rfl, fun _ _ _ => List.setIfInBounds_toArray .., fun _ _ _ => rfl, fun _ _ _ _ => rfl, i64_w, i32_w⟩
theorem sym_one (W : World) (x : M.Sym) : Kd.C k53 (W.alloc (.cells #[.bool x.f0,.int .i64 x.f1] 53)) (some ⟨W.heap.size,0,none⟩) [x].length [x] := by
 refine ⟨rfl,by show 1 ≤ 9223372036854775807;decide,fun _ => ⟨_,rfl,fun j p hj => ?_⟩⟩
 have hj0 : j = 0:=by
  have:=(List.getElem?_eq_some_iff.1 hj).1
  simp at this
  exact this
 subst hj0
 obtain rfl : x = p:=by simpa using hj
 refine ⟨[.bool x.f0,.int .i64 x.f1],rfl,k53.K_of_M (k53_mkM _ 0 (fun _ => True) x),fun i u hi => ?_⟩
 have hi2 : i < 2:=(List.getElem?_eq_some_iff.1 hi).1
 have e : (⟨W.heap.size,0,none⟩ : Addr).add (0 * k53.sz + i) = ⟨W.heap.size,i,none⟩ := by
  rw [Nat.zero_mul,Nat.zero_add,add_plain]
 rw [e,blk_cell (heap_alloc_new W _) i]
 match i,hi2 with
 | 0,_ => exact hi
 | 1,_ => exact hi
theorem at_rowi {w : World} {A : Option Addr} {n : Nat} {xs : List (List Int)} (h : Kd.C (Kd.slice 3 (Kd.int .i64)) w A n xs) (i : Int) (h0 : 0 ≤ i) (h1 : i < n) : ∃ ad A0 c0,A = some ad ∧ w.cell? (ad.add i.toNat) = some (.slice A0 (xs.getD i.toNat []).length c0) ∧ (xs.getD i.toNat []).length ≤ c0 ∧ (Kd.int .i64).C w A0 (xs.getD i.toNat []).length (xs.getD i.toNat []) := by
 obtain ⟨ad,c,e,_,hK,hc0⟩ := Kd.C_get h ([] : List Int) i h0 h1
 have hc : ∀ j u,c[j]? = some u → w.cell? (ad.add (i.toNat * 1 + j)) = some u:=hc0
 obtain ⟨A0,c0,rfl,l0,g0⟩ := hK
 exact ⟨ad,A0,c0,e,by have hq:=hc 0 _ rfl;rwa [Nat.mul_one,Nat.add_zero] at hq,l0,g0⟩
theorem rev_last {α : Type} (x : α) (l : List α) (d : α) : ((x :: l).reverse).getD l.length d = x:=by
 rw [List.reverse_cons,List.getD_eq_getElem?_getD,List.getElem?_append_right (by simp)];simp
theorem rev_take {α : Type} (x : α) (l : List α) : ((x :: l).reverse).take l.length = l.reverse:=by
 rw [List.reverse_cons,List.take_append_of_le_length (by simp),List.take_of_length_le (by simp)]
set_option maxHeartbeats 4000000 in
set_option maxRecDepth 100000 in
theorem taken_walk (A0_0 : Option Addr) (c0_0 : Nat) (l0_0 : List ByteArray) (A0_1 : Option Addr) (c0_1 : Nat) (l0_1 : List (S61)) (a0_2 : Int) (a0_3 : Int) (A0_4 : Option Addr) (c0_4 : Nat) (ps : List M.Prod) (A1 : Option Addr) (c1 : Nat) (tb : List (List Int)) (A2 : Option Addr) (c2 : Nat) (l : List Int) (w : World)
    (hr4 : Kd.C k30 w A0_4 ps.length ps) (ht : Kd.C (Kd.slice 3 (Kd.int .i64)) w A1 tb.length tb) (hl : Kd.C (Kd.int .i64) w A2 l.length l) (hl2 : l.length ≤ c2) (hps : ∀ p ∈ ps,p.f1.length ≤ 1000) (hnt : l0_1.length ≤ 1000000) (hg : tkGo tb ps l0_1.length l 100000 ([⟨false,0⟩],0) = true) :
    Calls Try.prog 15 #[.agg #[.slice A0_0 l0_0.length c0_0,.slice A0_1 l0_1.length c0_1,.int .i64 a0_2,.int .i64 a0_3,.slice A0_4 ps.length c0_4],.slice A1 tb.length c1,.slice A2 l.length c2] w fun e w' => e = .returned (.bool true) ∧ Below w.heap.size w w' := by
 have HR4:=Aside0.mk hr4
 have HT:=Aside0.mk ht
 have HL:=Aside0.mk hl
 have HL2:=Aside0.mk hl2
 have HPS:=Aside0.mk hps
 have HNT:=Aside0.mk hnt
 have HG:=Aside0.mk hg
 clear hr4 ht hl hl2 hps hnt hg
 go_enter Try.func15,Try.ntmps15
 go_wp2
 have HCS0:=Aside0.mk (sym_one (w.alloc (.cells #[.slice A0_0 l0_0.length c0_0,.slice A0_1 l0_1.length c0_1,.int .i64 a0_2,.int .i64 a0_3,.slice A0_4 ps.length c0_4] 26)) ⟨false,0⟩)
 have HB1 : Aside0 (Below w.heap.size w ((w.alloc (.cells #[.slice A0_0 l0_0.length c0_0,.slice A0_1 l0_1.length c0_1,.int .i64 a0_2,.int .i64 a0_3,.slice A0_4 ps.length c0_4] 26)).alloc (.cells #[.bool false,.int .i64 0] 53))) := ⟨below_alloc (below_alloc (Below.refl _ _) _) _⟩
 have HBS : Aside0 (((w.alloc (.cells #[.slice A0_0 l0_0.length c0_0,.slice A0_1 l0_1.length c0_1,.int .i64 a0_2,.int .i64 a0_3,.slice A0_4 ps.length c0_4] 26)).alloc (.cells #[.bool false,.int .i64 0] 53)).heap[w.heap.size]? = some (.cells #[.slice A0_0 l0_0.length c0_0,.slice A0_1 l0_1.length c0_1,.int .i64 a0_2,.int .i64 a0_3,.slice A0_4 ps.length c0_4] 26 (0,0))) := ⟨blk_alloc (blk_new _ _) _⟩
 simp only [World.size_alloc] at HCS0
 generalize (w.alloc (.cells #[.slice A0_0 l0_0.length c0_0,.slice A0_1 l0_1.length c0_1,.int .i64 a0_2,.int .i64 a0_3,.slice A0_4 ps.length c0_4] 26)).alloc (.cells #[.bool false,.int .i64 0] 53) = w1 at HCS0 HB1 HBS ⊢
 have HSB : Aside0 (w.heap.size < w1.heap.size) := ⟨blk_lt HBS.out⟩
 generalize w.heap.size + 1 = SB1 at HCS0 ⊢
 have HQ : Aside0 (∀ W,Below w1.heap.size w1 W → W.cell? ⟨w.heap.size,1,none⟩ = some (.slice A0_1 l0_1.length c0_1) ∧ W.cell? ⟨w.heap.size,4,none⟩ = some (.slice A0_4 ps.length c0_4)) := ⟨fun W hW => by
  have hb:=(hW.block _ (blk_lt HBS.out)).trans HBS.out
  exact ⟨(blk_cell hb 1).trans rfl,(blk_cell hb 4).trans rfl⟩⟩
 have CP : Aside0 (∀ W,Below w1.heap.size w1 W → Kd.C k30 W A0_4 ps.length ps) := ⟨fun W hW => Kd.C_below HR4.out (HB1.out.trans (hW.mono HB1.out.size))⟩
 have CT : Aside0 (∀ W,Below w1.heap.size w1 W → Kd.C (Kd.slice 3 (Kd.int .i64)) W A1 tb.length tb) := ⟨fun W hW => Kd.C_below HT.out (HB1.out.trans (hW.mono HB1.out.size))⟩
 have CL : Aside0 (∀ W,Below w1.heap.size w1 W → Kd.C (Kd.int .i64) W A2 l.length l) := ⟨fun W hW => Kd.C_below HL.out (HB1.out.trans (hW.mono HB1.out.size))⟩
 clear HR4 HT HL HBS
 go_loopg [7,8,9] 100000 (fun kq v7 v8 v9 wr => ∃ (n a : Nat) (s : List M.Sym) (A : Option Addr) (nl c : Nat),v7 = .slice A nl c ∧ v8 = .int .i64 (a : Int) ∧ v9 = .int .i64 (n : Int) ∧ n ≤ 100000 ∧ 100000 - n ≤ kq ∧ Aside0 (tkGo tb ps l0_1.length l (100000 - n) (s,a) = true) ∧ Aside0 (nl = s.length) ∧ Aside0 (nl ≤ c) ∧ Aside0 (Kd.C k53 wr A s.length s.reverse) ∧ Aside0 (a ≤ n ∧ s.length ≤ 1 + 1000 * n) ∧ Aside0 (Below w1.heap.size w1 wr))
 case atStart => exact ⟨0,0,[⟨false,0⟩],_,_,_,rfl,rfl,rfl,by omega,by omega,HG,⟨rfl⟩,⟨Nat.le_refl _⟩,HCS0,⟨by simp⟩,⟨Below.refl _ _⟩⟩
 case round =>
  obtain ⟨n,a,s,A,nl,c,rfl,rfl,rfl,hn,hkq,HGO,HNL,HCAP,HCS,HLIM,HBR⟩ := hrel
  have hwn : IntKind.i64.wrap ((n : Int) + 1) = (n : Int) + 1:=by rw [IntKind.wrap_i64];omega
  by_cases hlt : n < 100000
  · cases s with
    | nil =>
     have hal : a = l.length:=by
      have hg:=HGO.out
      rw [show 100000 - n = (100000 - n - 1) + 1 by omega] at hg
      simpa [tkGo] using hg
     subst hal
     obtain rfl : nl = 0:=HNL.out
     have d0 : decide ((n : Int) < 100000) = true:=decide_eq_true (by omega)
     clear hlt hkq hn
     go_wp2
     go_ret
     exact ⟨rfl,HB1.out.trans (HBR.out.mono HB1.out.size)⟩
    | cons x s =>
     obtain ⟨m1,rfl⟩ : ∃ m1,nl = m1 + 1:=⟨s.length,HNL.out⟩
     have hm1 : m1 = s.length:=by have:=HNL.out;simpa using this
     obtain ⟨s',hst,hgo⟩ : ∃ s',tkStep tb ps l0_1.length l (x :: s,a) = some s' ∧ tkGo tb ps l0_1.length l (100000 - (n + 1)) s' = true:=by
      have hg:=HGO.out
      rw [show 100000 - n = (100000 - (n + 1)) + 1 by omega,tkGo,if_neg (by simp)] at hg
      cases hs : tkStep tb ps l0_1.length l (x :: s,a) with
      | none => rw [hs] at hg;cases hg
      | some s' => rw [hs] at hg;exact ⟨s',rfl,hg⟩
     have HST:=Aside0.mk hst
     have HGO2:=Aside0.mk hgo
     have d0 : decide ((n : Int) < 100000) = true:=decide_eq_true (by omega)
     have d1 : decide ((0 : Int) < (m1 : Int) + 1) = true:=decide_eq_true (by omega)
     have d2 : decide (0 < m1 + 1) = true:=decide_eq_true (by omega)
     have hm9 : (m1 : Int) ≤ 200000000:=by have:=HLIM.out;simp at this;omega
     have hm8 : m1 ≤ 200000000:=by omega
     have i0 : (0 ≤ (m1 : Int)) = True:=eq_true (by omega)
     have i1 : ((m1 : Int) < (m1 : Int) + 1) = True:=eq_true (by omega)
     have i2 : (m1 < m1 + 1) = True:=eq_true (by omega)
     obtain ⟨ada,ea,e0,e1⟩ := at_T53 HCS.out (m1 : Int) (by omega) (by simp;omega)
     rw [Int.toNat_natCast] at e0 e1
     have hrx : rd_T53 (x :: s).reverse (m1 : Int) = x:=by rw [rd_T53,Int.toNat_natCast,hm1];exact rev_last x s _
     rw [hrx] at e0 e1
     cases ea
     have HM1:=Aside0.mk hm1
     have HN:=Aside0.mk (And.intro hlt hkq)
     obtain ⟨i0_,hi0_,_⟩ := info_parts (show (Try.prog.info? 53).map (fun i => (i.zero,i.size,i.bytes)) = some (some (.agg #[.bool false,.int .i64 0]),2,16) from by kernel_rfl)
     have hcut:=cut_to (P:=Try.prog) 28 53 .i64 Try.underlying28 hi0_ (some ada) (m1 + 1) c (m1 : Int) (by omega) (by omega) HCAP.out
     rw [Int.toNat_natCast] at hcut
     obtain ⟨q1,q4⟩ := HQ.out wr HBR.out
     clear hlt hkq hn hst hgo hm1 hrx
     go_upto_region 8 with fail
     have HXB : Aside0 ((wr.alloc (.cells #[.bool x.f0,.int .i64 x.f1] 53)).heap[wr.heap.size]? = some (.cells #[.bool x.f0,.int .i64 x.f1] 53 (0,0))) := ⟨heap_alloc_new wr _⟩
     have HBR5 : Aside0 (Below w1.heap.size w1 (wr.alloc (.cells #[.bool x.f0,.int .i64 x.f1] 53))) := ⟨HBR.out.trans ((below_alloc (Below.refl _ wr) _).mono HBR.out.size)⟩
     have HCR : Aside0 (Kd.C k53 (wr.alloc (.cells #[.bool x.f0,.int .i64 x.f1] 53)) (some ada) m1 s.reverse) := ⟨by
      have h0 : Kd.C k53 wr (some ada) (x :: s).reverse.length (x :: s).reverse:=by rw [List.length_reverse];exact HCS.out
      have h:=Kd.C_take (m:=m1) (Kd.C_below h0 (below_alloc (Below.refl _ wr) (.cells #[.bool x.f0,.int .i64 x.f1] 53))) (by rw [HM1.out];simp)
      rw [HM1.out,rev_take,List.length_reverse] at h
      rw [HM1.out]
      exact h⟩
     generalize wr.alloc (.cells #[.bool x.f0,.int .i64 x.f1] 53) = w5 at HXB HBR5 HCR ⊢
     have HXL : Aside0 (wr.heap.size < w5.heap.size) := ⟨blk_lt HXB.out⟩
     generalize wr.heap.size = XB at HXB HXL ⊢
     clear HCS HBR q1 q4 e0 e1 hcut
     have HXC : Aside0 (∀ W,Below w5.heap.size w5 W → W.cell? ⟨XB,0,none⟩ = some (.bool x.f0) ∧ W.cell? ⟨XB,1,none⟩ = some (.int .i64 x.f1)) := ⟨fun W hW => by
      have hb:=(hW.block _ (blk_lt HXB.out)).trans HXB.out
      exact ⟨(blk_cell hb 0).trans rfl,(blk_cell hb 1).trans rfl⟩⟩
     clear HXB
     obtain ⟨q1,q4⟩ := HQ.out w5 HBR5.out
     obtain ⟨x0,x1⟩ := HXC.out w5 (Below.refl _ _)
     have hlk : ∃ lk : Int,lk = lookAt l0_1.length l a:=⟨_,rfl⟩
     obtain ⟨lk,elk⟩ := hlk
     have ELK:=Aside0.mk elk
     clear elk
     go_upto_if 43 with fail
     go_cut [11] (fun s11 wc => s11 = .int .i64 lk ∧ wc = w5)
     case first =>
      by_cases hal : a < l.length
      · have d3 : decide ((a : Int) < (l.length : Int)) = true:=decide_eq_true (by omega)
        have d4 : decide (a < l.length) = true:=decide_eq_true hal
        have a0 : (0 ≤ (a : Int)) = True:=eq_true (by omega)
        have a1 : ((a : Int) < (l.length : Int)) = True:=eq_true (by omega)
        have a2 : (a < l.length) = True:=eq_true hal
        obtain ⟨adl,eal,hcl⟩ := Kd.at_int (CL.out w5 HBR5.out) (a : Int) (by omega) (by omega)
        have hl1 : rd l (a : Int) = lk:=by rw [ELK.out,lookAt,if_pos hal,rd,Int.toNat_natCast]
        rw [hl1,Int.toNat_natCast] at hcl
        cases eal
        clear hl1
        clear hm9 hm8 i0 i1 i2 d0 d1 d2 q1 q4 x0 x1 hwn
        go_wp2
        go_meet
        case rel => exact ⟨rfl,rfl⟩
      · have d3 : decide ((a : Int) < (l.length : Int)) = false:=decide_eq_false (by omega)
        have d4 : decide (a < l.length) = false:=decide_eq_false hal
        have hl1 : (l0_1.length : Int) = lk:=by rw [ELK.out,lookAt,if_neg hal]
        have HL1:=Aside0.mk hl1
        clear hl1
        clear hm9 hm8 i0 i1 i2 d0 d1 d2 q1 q4 x0 x1 hwn
        go_wp2
        go_meet
        case rel => exact ⟨by rw [HL1.out],rfl⟩
     case rest =>
      obtain ⟨rfl,rfl⟩ := hcut
      clear hm9 hm8 i0 i1 i2 d0 d1 d2
      have HWN:=Aside0.mk hwn
      by_cases hx : x.f0 = true
      · have hs1 : x.f1 = lk ∧ s' = (s,a + 1) := by
         have h:=HST.out
         simp only [tkStep] at h
         rw [if_pos hx,← ELK.out] at h
         split at h
         · exact ⟨‹_›,(Option.some.inj h).symm⟩
         · cases h
        obtain ⟨hx1,rfl⟩ := hs1
        rw [hx] at x0
        rw [hx1] at x1
        have hwa : IntKind.i64.wrap ((a : Int) + 1) = (a : Int) + 1:=by rw [IntKind.wrap_i64];have:=HLIM.out.1;have:=HN.out;omega
        clear hx hx1 q1 q4
        have y1 : (lk != lk) = false:=by simp
        go_wp2
        go_roundg (100000 - (n + 1))
        case measure => have:=HN.out;omega
        case rel => exact ⟨n + 1,a + 1,s,some ada,m1,c,rfl,by push_cast;rfl,by push_cast;rfl,by have:=HN.out;omega,Nat.le_refl _,HGO2,HM1,⟨by have:=HCAP.out;omega⟩,⟨by have:=HCR.out;rw [HM1.out] at this;exact this⟩,⟨by have:=HLIM.out;simp only [List.length_cons] at this;omega⟩,HBR5⟩
      · have hxf : x.f0 = false:=by simpa using hx
        have h:=HST.out
        simp only [tkStep] at h
        rw [if_neg hx,← ELK.out] at h
        split at h
        · rename_i hok
          obtain ⟨g0,g1,g2,g3,g4,g5,g6⟩ := hok
          have hs' := (Option.some.inj h).symm
          subst hs'
          clear h
          rw [hxf] at x0
          obtain ⟨adt,A9,c9,eat,ht0,_,hC9⟩ := at_rowi (CT.out wc HBR5.out) x.f1 g0 g1
          generalize x.f1 = xn at *
          obtain ⟨adr,ear,hr0⟩ := Kd.at_int hC9 lk g2 g3
          rw [show rd (tb.getD xn.toNat []) lk = (tb.getD xn.toNat []).getD lk.toNat 0 from rfl] at hr0
          generalize tb.getD xn.toNat [] = row at *
          obtain ⟨adp,A5,c5,eap,hp0,hp1,_,hC5⟩ := at_T30 (CP.out wc HBR5.out) (row.getD lk.toNat 0) g4 g5
          generalize hq : row.getD lk.toNat 0 = q at *
          obtain ⟨n9,hn9⟩ : ∃ n9,n9 = row.length:=⟨_,rfl⟩
          rw [← hn9] at ht0 g3
          have hmem : rd_T30 ps q ∈ ps:=by
           rw [rd_T30,List.getD_eq_getElem?_getD,List.getElem?_eq_getElem (by omega)]
           exact List.getElem_mem _
          have hlen:=HPS.out _ hmem
          generalize rd_T30 ps q = p at *
          obtain ⟨pl,r⟩ := p
          simp only at hp0 hp1 hC5 g6 hlen
          subst g6
          cases eat
          cases ear
          cases eap
          have HG:=Aside0.mk (And.intro g0 (And.intro g1 (And.intro g2 (And.intro g3 (And.intro g4 g5)))))
          have HT0:=Aside0.mk ht0
          have HR0:=Aside0.mk hr0
          have HP0:=Aside0.mk hp0
          have HP1:=Aside0.mk hp1
          have HC5:=Aside0.mk hC5
          have HR:=Aside0.mk hlen
          have b0 : decide ((tb.length : Int) ≤ pl) = false:=decide_eq_false (by omega)
          have b1 : decide ((n9 : Int) ≤ lk) = false:=decide_eq_false (by omega)
          have b2 : decide (q < 0) = false:=decide_eq_false (by omega)
          have b3 : decide ((ps.length : Int) ≤ q) = false:=decide_eq_false (by omega)
          have b4 : (0 ≤ pl) = True:=eq_true g0
          have b5 : (pl < (tb.length : Int)) = True:=eq_true g1
          have b6 : (0 ≤ lk) = True:=eq_true g2
          have b7 : (lk < (n9 : Int)) = True:=eq_true g3
          have b8 : (0 ≤ q) = True:=eq_true g4
          have b9 : (q < (ps.length : Int)) = True:=eq_true g5
          have X1:=Aside0.mk x1
          have Q4:=Aside0.mk q4
          have PF : Aside0 (∀ W,Below wc.heap.size wc W → W.cell? ⟨XB,1,none⟩ = some (.int .i64 pl) ∧ W.cell? (adt.add pl.toNat) = some (.slice (some adr) n9 c9) ∧ W.cell? (adr.add lk.toNat) = some (.int .i64 q) ∧ W.cell? ⟨w.heap.size,4,none⟩ = some (.slice (some adp) ps.length c0_4) ∧ W.cell? (adp.add (q.toNat * 2)) = some (.int .i64 pl) ∧ W.cell? ⟨(adp.add (q.toNat * 2)).block,(adp.add (q.toNat * 2)).off + 1,none⟩ = some (.slice A5 r.length c5)) := ⟨fun W hW => ⟨(hW.cell (World.block_lt_of_cell? _ _ X1.out)).trans X1.out,(hW.cell (World.block_lt_of_cell? _ _ HT0.out)).trans HT0.out,(hW.cell (World.block_lt_of_cell? _ _ HR0.out)).trans HR0.out,(hW.cell (World.block_lt_of_cell? _ _ Q4.out)).trans Q4.out,(hW.cell (World.block_lt_of_cell? _ _ HP0.out)).trans HP0.out,(hW.cell (World.block_lt_of_cell? _ _ HP1.out)).trans HP1.out⟩⟩
          clear hx hxf x1 q1 q4 g0 g1 g2 g3 g4 g5 hn9 hmem hlen ht0 hr0 hp0 hp1 hC5 hC9 hq
          go_upto_region 15 with fail
          refine start_ (n:=40) (S:=fun w' => w'.cell? ⟨XB,1,none⟩ = some (.int .i64 pl) ∧ w'.cell? (adt.add pl.toNat) = some (.slice (some adr) n9 c9) ∧ w'.cell? (adr.add lk.toNat) = some (.int .i64 q) ∧ w'.cell? ⟨w.heap.size,4,none⟩ = some (.slice (some adp) ps.length c0_4)) (ds := []) #[F,F,F,F,F,F,F,F,F,F,F,F,F,F,F,F,F,F,F,F,F,F,F,F,F,F,F,F,F,F,F,F,F,F,F,F,F,F,F,F] (by kernel_rfl) rfl rfl ⟨X1.out,HT0.out,HR0.out,Q4.out⟩ (fun hHeld => ?_)
          refine pure_ (i:=0) (N:=some 56) (v:=?_) (a' := ?_) #[T,F,F,F,F,F,F,F,F,F,F,F,F,F,F,F,F,F,F,F,F,F,F,F,F,F,F,F,F,F,F,F,F,F,F,F,F,F,F,F] rfl rfl (by kernel_rfl) (fun _ _ _ h => h) (Or.inl ⟨by rfl,?_⟩) ?_ ?_
          rotate_left;(intro w';go_simp;with_reducible rfl);rotate_left;(simp only [pq];rfl)
          refine pure_ (i:=2) (N:=some 58) (v:=?_) (a' := ?_) #[T,F,T,F,F,F,F,F,F,F,F,F,F,F,F,F,F,F,F,F,F,F,F,F,F,F,F,F,F,F,F,F,F,F,F,F,F,F,F,F] rfl rfl (by kernel_rfl) (fun _ _ _ h => h) (Or.inl ⟨by rfl,?_⟩) ?_ ?_
          rotate_left;(intro w';go_simp;with_reducible rfl);rotate_left;(simp only [pq];rfl)
          refine pure_ (i:=3) (N:=some 59) (v:=?_) (a' := ?_) #[T,F,T,T,F,F,F,F,F,F,F,F,F,F,F,F,F,F,F,F,F,F,F,F,F,F,F,F,F,F,F,F,F,F,F,F,F,F,F,F] rfl rfl (by kernel_rfl) (fun _ _ _ h => h) (Or.inl ⟨by rfl,?_⟩) ?_ ?_
          rotate_left;(intro w';go_simp;with_reducible rfl);rotate_left;(simp only [pq];rfl)
          refine take_ (i:=1) (N:=some 57) (v:=?_) (a' := ?_) #[T,T,T,T,F,F,F,F,F,F,F,F,F,F,F,F,F,F,F,F,F,F,F,F,F,F,F,F,F,F,F,F,F,F,F,F,F,F,F,F] rfl rfl (by kernel_rfl) (fun _ _ _ h => h) (Or.inl ⟨by rfl,?_⟩) hHeld ?_ ?_
          rotate_left
          · rintro w' ⟨s0,s1,s2,s3⟩
            go_simp
            with_reducible rfl
          rotate_left
          · simp only [pq]
            rfl
          refine pure_ (i:=4) (N:=some 60) (v:=?_) (a' := ?_) #[T,T,T,T,T,F,F,F,F,F,F,F,F,F,F,F,F,F,F,F,F,F,F,F,F,F,F,F,F,F,F,F,F,F,F,F,F,F,F,F] rfl rfl (by kernel_rfl) (fun _ _ _ h => h) (Or.inl ⟨by rfl,?_⟩) ?_ ?_
          rotate_left;(intro w';go_simp;with_reducible rfl);rotate_left;(simp only [pq];rfl)
          refine pure_ (i:=5) (N:=some 61) (v:=?_) (a' := ?_) #[T,T,T,T,T,T,F,F,F,F,F,F,F,F,F,F,F,F,F,F,F,F,F,F,F,F,F,F,F,F,F,F,F,F,F,F,F,F,F,F] rfl rfl (by kernel_rfl) (fun _ _ _ h => h) (Or.inl ⟨by rfl,?_⟩) ?_ ?_
          rotate_left;(intro w';go_simp;with_reducible rfl);rotate_left;(simp only [pq];rfl)
          refine pure_ (i:=6) (N:=some 62) (v:=?_) (a' := ?_) #[T,T,T,T,T,T,T,F,F,F,F,F,F,F,F,F,F,F,F,F,F,F,F,F,F,F,F,F,F,F,F,F,F,F,F,F,F,F,F,F] rfl rfl (by kernel_rfl) (fun _ _ _ h => h) (Or.inl ⟨by rfl,?_⟩) ?_ ?_
          rotate_left;(intro w';go_simp;with_reducible rfl);rotate_left;(simp only [pq];rfl)
          refine pure_ (i:=7) (N:=some 63) (v:=?_) (a' := ?_) #[T,T,T,T,T,T,T,T,F,F,F,F,F,F,F,F,F,F,F,F,F,F,F,F,F,F,F,F,F,F,F,F,F,F,F,F,F,F,F,F] rfl rfl (by kernel_rfl) (fun _ _ _ h => h) (Or.inl ⟨by rfl,?_⟩) ?_ ?_
          rotate_left;(intro w';go_simp;with_reducible rfl);rotate_left;(simp only [pq];rfl)
          refine pure_ (i:=8) (N:=some 64) (v:=?_) (a' := ?_) #[T,T,T,T,T,T,T,T,T,F,F,F,F,F,F,F,F,F,F,F,F,F,F,F,F,F,F,F,F,F,F,F,F,F,F,F,F,F,F,F] rfl rfl (by kernel_rfl) (fun _ _ _ h => h) (Or.inl ⟨by rfl,?_⟩) ?_ ?_
          rotate_left;(intro w';go_simp;with_reducible rfl);rotate_left;(simp only [pq];rfl)
          refine take_ (i:=9) (N:=some 65) (v:=?_) (a' := ?_) #[T,T,T,T,T,T,T,T,T,T,F,F,F,F,F,F,F,F,F,F,F,F,F,F,F,F,F,F,F,F,F,F,F,F,F,F,F,F,F,F] rfl rfl (by kernel_rfl) (fun _ _ _ h => h) (Or.inl ⟨by rfl,?_⟩) hHeld ?_ ?_
          rotate_left
          · rintro w' ⟨s0,s1,s2,s3⟩
            go_simp
            with_reducible rfl
          rotate_left
          · simp only [pq]
            rfl
          refine pure_ (i:=10) (N:=some 66) (v:=?_) (a' := ?_) #[T,T,T,T,T,T,T,T,T,T,T,F,F,F,F,F,F,F,F,F,F,F,F,F,F,F,F,F,F,F,F,F,F,F,F,F,F,F,F,F] rfl rfl (by kernel_rfl) (fun _ _ _ h => h) (Or.inl ⟨by rfl,?_⟩) ?_ ?_
          rotate_left;(intro w';go_simp;with_reducible rfl);rotate_left;(simp only [pq];rfl)
          refine take_ (i:=11) (N:=some 67) (v:=?_) (a' := ?_) #[T,T,T,T,T,T,T,T,T,T,T,T,F,F,F,F,F,F,F,F,F,F,F,F,F,F,F,F,F,F,F,F,F,F,F,F,F,F,F,F] rfl rfl (by kernel_rfl) (fun _ _ _ h => h) (Or.inl ⟨by rfl,?_⟩) hHeld ?_ ?_
          rotate_left
          · rintro w' ⟨s0,s1,s2,s3⟩
            go_simp
            with_reducible rfl
          rotate_left
          · simp only [pq]
            rfl
          refine pure_ (i:=12) (N:=some 68) (v:=?_) (a' := ?_) #[T,T,T,T,T,T,T,T,T,T,T,T,T,F,F,F,F,F,F,F,F,F,F,F,F,F,F,F,F,F,F,F,F,F,F,F,F,F,F,F] rfl rfl (by kernel_rfl) (fun _ _ _ h => h) (Or.inl ⟨by rfl,?_⟩) ?_ ?_
          rotate_left;(intro w';go_simp;with_reducible rfl);rotate_left;(simp only [pq];rfl)
          refine pure_ (i:=13) (N:=some 69) (v:=?_) (a' := ?_) #[T,T,T,T,T,T,T,T,T,T,T,T,T,T,F,F,F,F,F,F,F,F,F,F,F,F,F,F,F,F,F,F,F,F,F,F,F,F,F,F] rfl rfl (by kernel_rfl) (fun _ _ _ h => h) (Or.inl ⟨by rfl,?_⟩) ?_ ?_
          rotate_left;(intro w';go_simp;with_reducible rfl);rotate_left;(simp only [pq];rfl)
          refine pure_ (i:=14) (N:=some 70) (v:=?_) (a' := ?_) #[T,T,T,T,T,T,T,T,T,T,T,T,T,T,T,F,F,F,F,F,F,F,F,F,F,F,F,F,F,F,F,F,F,F,F,F,F,F,F,F] rfl rfl (by kernel_rfl) (fun _ _ _ h => h) (Or.inl ⟨by rfl,?_⟩) ?_ ?_
          rotate_left;(intro w';go_simp;with_reducible rfl);rotate_left;(simp only [pq];rfl)
          refine pure_ (i:=15) (N:=some 71) (v:=?_) (a' := ?_) #[T,T,T,T,T,T,T,T,T,T,T,T,T,T,T,T,F,F,F,F,F,F,F,F,F,F,F,F,F,F,F,F,F,F,F,F,F,F,F,F] rfl rfl (by kernel_rfl) (fun _ _ _ h => h) (Or.inl ⟨by rfl,?_⟩) ?_ ?_
          rotate_left;(intro w';go_simp;with_reducible rfl);rotate_left;(simp only [pq];rfl)
          refine pure_ (i:=16) (N:=some 72) (v:=?_) (a' := ?_) #[T,T,T,T,T,T,T,T,T,T,T,T,T,T,T,T,T,F,F,F,F,F,F,F,F,F,F,F,F,F,F,F,F,F,F,F,F,F,F,F] rfl rfl (by kernel_rfl) (fun _ _ _ h => h) (Or.inl ⟨by rfl,?_⟩) ?_ ?_
          rotate_left;(intro w';go_simp;with_reducible rfl);rotate_left;(simp only [pq];rfl)
          refine pure_ (i:=17) (N:=some 73) (v:=?_) (a' := ?_) #[T,T,T,T,T,T,T,T,T,T,T,T,T,T,T,T,T,T,F,F,F,F,F,F,F,F,F,F,F,F,F,F,F,F,F,F,F,F,F,F] rfl rfl (by kernel_rfl) (fun _ _ _ h => h) (Or.inl ⟨by rfl,?_⟩) ?_ ?_
          rotate_left;(intro w';go_simp;with_reducible rfl);rotate_left;(simp only [pq];rfl)
          refine pure_ (i:=21) (N:=some 77) (v:=?_) (a' := ?_) #[T,T,T,T,T,T,T,T,T,T,T,T,T,T,T,T,T,T,F,F,F,T,F,F,F,F,F,F,F,F,F,F,F,F,F,F,F,F,F,F] rfl rfl (by kernel_rfl) (fun _ _ _ h => h) (Or.inl ⟨by rfl,?_⟩) ?_ ?_
          rotate_left;(intro w';go_simp;with_reducible rfl);rotate_left;(simp only [pq];rfl)
          refine take_ (i:=18) (N:=some 74) (v:=?_) (a' := ?_) #[T,T,T,T,T,T,T,T,T,T,T,T,T,T,T,T,T,T,T,F,F,T,F,F,F,F,F,F,F,F,F,F,F,F,F,F,F,F,F,F] rfl rfl (by kernel_rfl) (fun _ _ _ h => h) (Or.inl ⟨by rfl,?_⟩) hHeld ?_ ?_
          rotate_left
          · rintro w' ⟨s0,s1,s2,s3⟩
            go_simp
            with_reducible rfl
          rotate_left
          · simp only [pq]
            rfl
          refine pure_ (i:=19) (N:=some 75) (v:=?_) (a' := ?_) #[T,T,T,T,T,T,T,T,T,T,T,T,T,T,T,T,T,T,T,T,F,T,F,F,F,F,F,F,F,F,F,F,F,F,F,F,F,F,F,F] rfl rfl (by kernel_rfl) (fun _ _ _ h => h) (Or.inl ⟨by rfl,?_⟩) ?_ ?_
          rotate_left;(intro w';go_simp;with_reducible rfl);rotate_left;(simp only [pq];rfl)
          refine take_ (i:=20) (N:=some 76) (v:=?_) (a' := ?_) #[T,T,T,T,T,T,T,T,T,T,T,T,T,T,T,T,T,T,T,T,T,T,F,F,F,F,F,F,F,F,F,F,F,F,F,F,F,F,F,F] rfl rfl (by kernel_rfl) (fun _ _ _ h => h) (Or.inl ⟨by rfl,?_⟩) hHeld ?_ ?_
          rotate_left
          · rintro w' ⟨s0,s1,s2,s3⟩
            go_simp
            with_reducible rfl
          rotate_left
          · simp only [pq]
            rfl
          refine pure_ (i:=22) (N:=some 78) (v:=?_) (a' := ?_) #[T,T,T,T,T,T,T,T,T,T,T,T,T,T,T,T,T,T,T,T,T,T,T,F,F,F,F,F,F,F,F,F,F,F,F,F,F,F,F,F] rfl rfl (by kernel_rfl) (fun _ _ _ h => h) (Or.inl ⟨by rfl,?_⟩) ?_ ?_
          rotate_left;(intro w';go_simp;with_reducible rfl);rotate_left;(simp only [pq];rfl)
          refine take_ (i:=23) (N:=some 79) (v:=?_) (a' := ?_) #[T,T,T,T,T,T,T,T,T,T,T,T,T,T,T,T,T,T,T,T,T,T,T,T,F,F,F,F,F,F,F,F,F,F,F,F,F,F,F,F] rfl rfl (by kernel_rfl) (fun _ _ _ h => h) (Or.inl ⟨by rfl,?_⟩) hHeld ?_ ?_
          rotate_left
          · rintro w' ⟨s0,s1,s2,s3⟩
            go_simp
            with_reducible rfl
          rotate_left
          · simp only [pq]
            rfl
          refine pure_ (i:=24) (N:=some 80) (v:=?_) (a' := ?_) #[T,T,T,T,T,T,T,T,T,T,T,T,T,T,T,T,T,T,T,T,T,T,T,T,T,F,F,F,F,F,F,F,F,F,F,F,F,F,F,F] rfl rfl (by kernel_rfl) (fun _ _ _ h => h) (Or.inl ⟨by rfl,?_⟩) ?_ ?_
          rotate_left;(intro w';go_simp;with_reducible rfl);rotate_left;(simp only [pq];rfl)
          refine pure_ (i:=25) (N:=some 81) (v:=?_) (a' := ?_) #[T,T,T,T,T,T,T,T,T,T,T,T,T,T,T,T,T,T,T,T,T,T,T,T,T,T,F,F,F,F,F,F,F,F,F,F,F,F,F,F] rfl rfl (by kernel_rfl) (fun _ _ _ h => h) (Or.inl ⟨by rfl,?_⟩) ?_ ?_
          rotate_left;(intro w';go_simp;with_reducible rfl);rotate_left;(simp only [pq];rfl)
          refine pure_ (i:=26) (N:=some 82) (v:=?_) (a' := ?_) #[T,T,T,T,T,T,T,T,T,T,T,T,T,T,T,T,T,T,T,T,T,T,T,T,T,T,T,F,F,F,F,F,F,F,F,F,F,F,F,F] rfl rfl (by kernel_rfl) (fun _ _ _ h => h) (Or.inl ⟨by rfl,?_⟩) ?_ ?_
          rotate_left;(intro w';go_simp;with_reducible rfl);rotate_left;(simp only [pq];rfl)
          refine pure_ (i:=27) (N:=some 83) (v:=?_) (a' := ?_) #[T,T,T,T,T,T,T,T,T,T,T,T,T,T,T,T,T,T,T,T,T,T,T,T,T,T,T,T,F,F,F,F,F,F,F,F,F,F,F,F] rfl rfl (by kernel_rfl) (fun _ _ _ h => h) (Or.inl ⟨by rfl,?_⟩) ?_ ?_
          rotate_left;(intro w';go_simp;with_reducible rfl);rotate_left;(simp only [pq];rfl)
          refine pure_ (i:=28) (N:=some 84) (v:=?_) (a' := ?_) #[T,T,T,T,T,T,T,T,T,T,T,T,T,T,T,T,T,T,T,T,T,T,T,T,T,T,T,T,T,F,F,F,F,F,F,F,F,F,F,F] rfl rfl (by kernel_rfl) (fun _ _ _ h => h) (Or.inl ⟨by rfl,?_⟩) ?_ ?_
          rotate_left;(intro w';go_simp;with_reducible rfl);rotate_left;(simp only [pq];rfl)
          refine pure_ (i:=32) (N:=some 88) (v:=?_) (a' := ?_) #[T,T,T,T,T,T,T,T,T,T,T,T,T,T,T,T,T,T,T,T,T,T,T,T,T,T,T,T,T,F,F,F,T,F,F,F,F,F,F,F] rfl rfl (by kernel_rfl) (fun _ _ _ h => h) (Or.inl ⟨by rfl,?_⟩) ?_ ?_
          rotate_left;(intro w';go_simp;with_reducible rfl);rotate_left;(simp only [pq];rfl)
          refine pure_ (i:=35) (N:=some 91) (v:=?_) (a' := ?_) #[T,T,T,T,T,T,T,T,T,T,T,T,T,T,T,T,T,T,T,T,T,T,T,T,T,T,T,T,T,F,F,F,T,F,F,T,F,F,F,F] rfl rfl (by kernel_rfl) (fun _ _ _ h => h) (Or.inl ⟨by rfl,?_⟩) ?_ ?_
          rotate_left;(intro w';go_simp;with_reducible rfl);rotate_left;(simp only [pq];rfl)
          refine take_ (i:=29) (N:=some 85) (v:=?_) (a' := ?_) #[T,T,T,T,T,T,T,T,T,T,T,T,T,T,T,T,T,T,T,T,T,T,T,T,T,T,T,T,T,T,F,F,T,F,F,T,F,F,F,F] rfl rfl (by kernel_rfl) (fun _ _ _ h => h) (Or.inl ⟨by rfl,?_⟩) hHeld ?_ ?_
          rotate_left
          · rintro w' ⟨s0,s1,s2,s3⟩
            go_simp
            with_reducible rfl
          rotate_left
          · simp only [pq]
            rfl
          refine pure_ (i:=30) (N:=some 86) (v:=?_) (a' := ?_) #[T,T,T,T,T,T,T,T,T,T,T,T,T,T,T,T,T,T,T,T,T,T,T,T,T,T,T,T,T,T,T,F,T,F,F,T,F,F,F,F] rfl rfl (by kernel_rfl) (fun _ _ _ h => h) (Or.inl ⟨by rfl,?_⟩) ?_ ?_
          rotate_left;(intro w';go_simp;with_reducible rfl);rotate_left;(simp only [pq];rfl)
          refine take_ (i:=31) (N:=some 87) (v:=?_) (a' := ?_) #[T,T,T,T,T,T,T,T,T,T,T,T,T,T,T,T,T,T,T,T,T,T,T,T,T,T,T,T,T,T,T,T,T,F,F,T,F,F,F,F] rfl rfl (by kernel_rfl) (fun _ _ _ h => h) (Or.inl ⟨by rfl,?_⟩) hHeld ?_ ?_
          rotate_left
          · rintro w' ⟨s0,s1,s2,s3⟩
            go_simp
            with_reducible rfl
          rotate_left
          · simp only [pq]
            rfl
          refine pure_ (i:=33) (N:=some 89) (v:=?_) (a' := ?_) #[T,T,T,T,T,T,T,T,T,T,T,T,T,T,T,T,T,T,T,T,T,T,T,T,T,T,T,T,T,T,T,T,T,T,F,T,F,F,F,F] rfl rfl (by kernel_rfl) (fun _ _ _ h => h) (Or.inl ⟨by rfl,?_⟩) ?_ ?_
          rotate_left;(intro w';go_simp;with_reducible rfl);rotate_left;(simp only [pq];rfl)
          refine take_ (i:=34) (N:=some 90) (v:=?_) (a' := ?_) #[T,T,T,T,T,T,T,T,T,T,T,T,T,T,T,T,T,T,T,T,T,T,T,T,T,T,T,T,T,T,T,T,T,T,T,T,F,F,F,F] rfl rfl (by kernel_rfl) (fun _ _ _ h => h) (Or.inl ⟨by rfl,?_⟩) hHeld ?_ ?_
          rotate_left
          · rintro w' ⟨s0,s1,s2,s3⟩
            go_simp
            with_reducible rfl
          rotate_left
          · simp only [pq]
            rfl
          refine take_ (i:=36) (N:=some 92) (v:=?_) (a' := ?_) #[T,T,T,T,T,T,T,T,T,T,T,T,T,T,T,T,T,T,T,T,T,T,T,T,T,T,T,T,T,T,T,T,T,T,T,T,T,F,F,F] rfl rfl (by kernel_rfl) (fun _ _ _ h => h) (Or.inl ⟨by rfl,?_⟩) hHeld ?_ ?_
          rotate_left
          · rintro w' ⟨s0,s1,s2,s3⟩
            go_simp
            with_reducible rfl
          rotate_left
          · simp only [pq]
            rfl
          refine pure_ (i:=37) (N:=some 93) (v:=?_) (a' := ?_) #[T,T,T,T,T,T,T,T,T,T,T,T,T,T,T,T,T,T,T,T,T,T,T,T,T,T,T,T,T,T,T,T,T,T,T,T,T,T,F,F] rfl rfl (by kernel_rfl) (fun _ _ _ h => h) (Or.inl ⟨by rfl,?_⟩) ?_ ?_
          rotate_left;(intro w';go_simp;with_reducible rfl);rotate_left;(simp only [pq];rfl)
          refine pure_ (i:=38) (N:=some 94) (v:=?_) (a' := ?_) #[T,T,T,T,T,T,T,T,T,T,T,T,T,T,T,T,T,T,T,T,T,T,T,T,T,T,T,T,T,T,T,T,T,T,T,T,T,T,T,F] rfl rfl (by kernel_rfl) (fun _ _ _ h => h) (Or.inl ⟨by rfl,?_⟩) ?_ ?_
          rotate_left;(intro w';go_simp;with_reducible rfl);rotate_left;(simp only [pq];rfl)
          refine pure_ (i:=39) (N:=some 95) (v:=?_) (a' := ?_) #[T,T,T,T,T,T,T,T,T,T,T,T,T,T,T,T,T,T,T,T,T,T,T,T,T,T,T,T,T,T,T,T,T,T,T,T,T,T,T,T] rfl rfl (by kernel_rfl) (fun _ _ _ h => h) (Or.inl ⟨by rfl,?_⟩) ?_ ?_
          rotate_left;(intro w';go_simp;with_reducible rfl);rotate_left;(simp only [pq];rfl)
          refine done_ (by kernel_rfl) ?_
          clear HT0 HR0 HP0 HP1 X1 Q4 x0
          have HB6 : Aside0 (Below wc.heap.size wc wc.drew) := ⟨below_drew1 (Below.refl _ _)⟩
          generalize wc.drew = w6 at HB6 ⊢
          have HB6d : Aside0 (Below wc.heap.size wc w6.drew) := ⟨below_drew1 HB6.out⟩
          go_upto_region 17 with fail
          refine start_ (n:=14) (S:=fun w' => w'.cell? ⟨XB,1,none⟩ = some (.int .i64 pl) ∧ w'.cell? (adt.add pl.toNat) = some (.slice (some adr) n9 c9) ∧ w'.cell? (adr.add lk.toNat) = some (.int .i64 q) ∧ w'.cell? ⟨w.heap.size,4,none⟩ = some (.slice (some adp) ps.length c0_4) ∧ w'.cell? (adp.add (q.toNat * 2)) = some (.int .i64 pl) ∧ w'.cell? ⟨(adp.add (q.toNat * 2)).block,(adp.add (q.toNat * 2)).off + 1,none⟩ = some (.slice A5 r.length c5)) (ds := [13]) #[F,F,F,F,F,F,F,F,F,F,F,F,F,F] (by kernel_rfl) rfl rfl ⟨(PF.out _ HB6d.out).1,(PF.out _ HB6d.out).2.1,(PF.out _ HB6d.out).2.2.1,(PF.out _ HB6d.out).2.2.2.1,(PF.out _ HB6d.out).2.2.2.2.1,(PF.out _ HB6d.out).2.2.2.2.2⟩ (fun hHeld => ?_)
          refine pure_ (i:=0) (N:=some 96) (v:=?_) (a' := ?_) #[T,F,F,F,F,F,F,F,F,F,F,F,F,F] rfl rfl (by kernel_rfl) (fun _ _ _ h => h) (Or.inl ⟨by rfl,?_⟩) ?_ ?_
          rotate_left;(intro w';go_simp;with_reducible rfl);rotate_left;(simp only [pq];rfl)
          refine pure_ (i:=2) (N:=some 98) (v:=?_) (a' := ?_) #[T,F,T,F,F,F,F,F,F,F,F,F,F,F] rfl rfl (by kernel_rfl) (fun _ _ _ h => h) (Or.inl ⟨by rfl,?_⟩) ?_ ?_
          rotate_left;(intro w';go_simp;with_reducible rfl);rotate_left;(simp only [pq];rfl)
          refine pure_ (i:=3) (N:=some 99) (v:=?_) (a' := ?_) #[T,F,T,T,F,F,F,F,F,F,F,F,F,F] rfl rfl (by kernel_rfl) (fun _ _ _ h => h) (Or.inl ⟨by rfl,?_⟩) ?_ ?_
          rotate_left;(intro w';go_simp;with_reducible rfl);rotate_left;(simp only [pq];rfl)
          refine pure_ (i:=7) (N:=some 103) (v:=?_) (a' := ?_) #[T,F,T,T,F,F,F,T,F,F,F,F,F,F] rfl rfl (by kernel_rfl) (fun _ _ _ h => h) (Or.inl ⟨by rfl,?_⟩) ?_ ?_
          rotate_left;(intro w';go_simp;with_reducible rfl);rotate_left;(simp only [pq];rfl)
          refine take_ (i:=1) (N:=some 97) (v:=?_) (a' := ?_) #[T,T,T,T,F,F,F,T,F,F,F,F,F,F] rfl rfl (by kernel_rfl) (fun _ _ _ h => h) (Or.inl ⟨by rfl,?_⟩) hHeld ?_ ?_
          rotate_left
          · rintro w' ⟨s0,s1,s2,s3,s4,s5⟩
            go_simp
            with_reducible rfl
          rotate_left
          · simp only [pq]
            rfl
          refine take_ (i:=4) (N:=some 100) (v:=?_) (a' := ?_) #[T,T,T,T,T,F,F,T,F,F,F,F,F,F] rfl rfl (by kernel_rfl) (fun _ _ _ h => h) (Or.inl ⟨by rfl,?_⟩) hHeld ?_ ?_
          rotate_left
          · rintro w' ⟨s0,s1,s2,s3,s4,s5⟩
            go_simp
            with_reducible rfl
          rotate_left
          · simp only [pq]
            rfl
          refine pure_ (i:=5) (N:=some 101) (v:=?_) (a' := ?_) #[T,T,T,T,T,T,F,T,F,F,F,F,F,F] rfl rfl (by kernel_rfl) (fun _ _ _ h => h) (Or.inl ⟨by rfl,?_⟩) ?_ ?_
          rotate_left;(intro w';go_simp;with_reducible rfl);rotate_left;(simp only [pq];rfl)
          refine take_ (i:=6) (N:=some 102) (v:=?_) (a' := ?_) #[T,T,T,T,T,T,T,T,F,F,F,F,F,F] rfl rfl (by kernel_rfl) (fun _ _ _ h => h) (Or.inl ⟨by rfl,?_⟩) hHeld ?_ ?_
          rotate_left
          · rintro w' ⟨s0,s1,s2,s3,s4,s5⟩
            go_simp
            with_reducible rfl
          rotate_left
          · simp only [pq]
            rfl
          refine pure_ (i:=8) (N:=some 104) (v:=?_) (a' := ?_) #[T,T,T,T,T,T,T,T,T,F,F,F,F,F] rfl rfl (by kernel_rfl) (fun _ _ _ h => h) (Or.inl ⟨by rfl,?_⟩) ?_ ?_
          rotate_left;(intro w';go_simp;with_reducible rfl);rotate_left;(simp only [pq];rfl)
          refine take_ (i:=9) (N:=some 105) (v:=?_) (a' := ?_) #[T,T,T,T,T,T,T,T,T,T,F,F,F,F] rfl rfl (by kernel_rfl) (fun _ _ _ h => h) (Or.inl ⟨by rfl,?_⟩) hHeld ?_ ?_
          rotate_left
          · rintro w' ⟨s0,s1,s2,s3,s4,s5⟩
            go_simp
            with_reducible rfl
          rotate_left
          · simp only [pq]
            rfl
          refine pure_ (i:=10) (N:=some 106) (v:=?_) (a' := ?_) #[T,T,T,T,T,T,T,T,T,T,T,F,F,F] rfl rfl (by kernel_rfl) (fun _ _ _ h => h) (Or.inl ⟨by rfl,?_⟩) ?_ ?_
          rotate_left;(intro w';go_simp;with_reducible rfl);rotate_left;(simp only [pq];rfl)
          refine take_ (i:=11) (N:=some 107) (v:=?_) (a' := ?_) #[T,T,T,T,T,T,T,T,T,T,T,T,F,F] rfl rfl (by kernel_rfl) (fun _ _ _ h => h) (Or.inl ⟨by rfl,?_⟩) hHeld ?_ ?_
          rotate_left
          · rintro w' ⟨s0,s1,s2,s3,s4,s5⟩
            go_simp
            with_reducible rfl
          rotate_left
          · simp only [pq]
            rfl
          refine one_ (i:=12) (N:=some 12) #[T,T,T,T,T,T,T,T,T,T,T,T,T,F] rfl rfl (by kernel_rfl) (by decide) (fun K hK => ?_)
          refine value_ (w1:=?_) (v:=?_) (by rfl) rfl ?_ ?_
          rotate_left 2
          · go_simp
            constructor
            · rfl
            · rfl
          have HBK7 : Aside0 ((w6.alloc (.cells #[.int .i64 0,.slice none 0 0] 30)).drew.heap[w6.heap.size]? = some (.cells #[.int .i64 0,.slice none 0 0] 30 (0,0))) := ⟨heap_alloc_new w6 _⟩
          have HB7 : Aside0 (Below wc.heap.size wc (w6.alloc (.cells #[.int .i64 0,.slice none 0 0] 30)).drew) := ⟨below_drew1 (below_alloc HB6.out _)⟩
          have HPB : Aside0 (wc.heap.size ≤ w6.heap.size) := ⟨HB6.out.size⟩
          generalize (w6.alloc (.cells #[.int .i64 0,.slice none 0 0] 30)).drew = w7 at HBK7 HB7 ⊢
          generalize w6.heap.size = PB at HBK7 HPB ⊢
          refine hK.out _ _ ⟨(PF.out _ HB7.out).1,(PF.out _ HB7.out).2.1,(PF.out _ HB7.out).2.2.1,(PF.out _ HB7.out).2.2.2.1,(PF.out _ HB7.out).2.2.2.2.1,(PF.out _ HB7.out).2.2.2.2.2⟩ (fun hHeld => ?_)
          clear hK K
          refine norm_ (a' := ?_) ?_ ?_
          rotate_left
          · show Act.put _ (some 12) _ = _
            simp only [pq]
            rfl
          refine last_ (i:=13) (N:=none) #[T,T,T,T,T,T,T,T,T,T,T,T,T,T] rfl rfl (by kernel_rfl) (by decide) (fun K hK => ?_)
          have hs0:=(blk_cell HBK7.out 0)
          have hf0:=blk_frozen HBK7.out 0
          have hs1:=(blk_cell HBK7.out 1)
          have hf1:=blk_frozen HBK7.out 1
          refine skip_ (w1:=?_) (by rfl) rfl ?_ ?_
          rotate_left
          · go_simp
            rfl
          refine hK.out _ _ ?_
          clear hK K
          refine done_ (by kernel_rfl) ?_
          have HBK8 : Aside0 (((w7.setCell ⟨PB,0,none⟩ (.int .i64 pl)).setCell ⟨PB,1,none⟩ (.slice A5 r.length c5)).heap[PB]? = some (.cells #[.int .i64 pl,.slice A5 r.length c5] 30 (0,0))) := ⟨blk_put (blk_put HBK7.out 0 _ rfl) 1 _ rfl⟩
          have HB8 : Aside0 (Below wc.heap.size wc ((w7.setCell ⟨PB,0,none⟩ (.int .i64 pl)).setCell ⟨PB,1,none⟩ (.slice A5 r.length c5))) := ⟨(HB7.out.setCell HPB.out _).setCell HPB.out _⟩
          generalize (w7.setCell ⟨PB,0,none⟩ (.int .i64 pl)).setCell ⟨PB,1,none⟩ (.slice A5 r.length c5) = w8 at HBK8 HB8 ⊢
          have HB18 : Aside0 (Below w1.heap.size w1 w8) := ⟨HBR5.out.trans (HB8.out.mono HBR5.out.size)⟩
          have HCR8:=Aside0.mk (Kd.C_below HCR.out HB8.out)
          have HC58:=Aside0.mk (Kd.C_below HC5.out HB8.out)
          have HPC : Aside0 (∀ W,Below w8.heap.size w8 W → W.cell? ⟨PB,0,none⟩ = some (.int .i64 pl) ∧ W.cell? ⟨PB,1,none⟩ = some (.slice A5 r.length c5)) := ⟨fun W hW => by
           have hb:=(hW.block _ (blk_lt HBK8.out)).trans HBK8.out
           exact ⟨(blk_cell hb 0).trans rfl,(blk_cell hb 1).trans rfl⟩⟩
          have x1:=(PF.out w8 HB8.out).1
          obtain ⟨p0,p1⟩ := HPC.out w8 (Below.refl _ _)
          have y1 : (pl != pl) = false:=by simp
          have hwr : IntKind.i64.wrap ((r.length : Int) - 1) = (r.length : Int) - 1:=by rw [IntKind.wrap_i64];have:=HR.out;omega
          have HSL : Aside0 (s.length ≤ 100000000) := ⟨by have:=HLIM.out.2;have:=HN.out.1;simp only [List.length_cons] at *;omega⟩
          clear hs0 hf0 hs1 hf1 b0 b1 b2 b3 b4 b5 b6 b7 b8 b9 HBK7 HB7 HB6 HB6d HCR HC5 PF HBK8 HBR5 HXL HXC
          go_wp2_with (first | ((with_reducible refine gate_builtin (b := .append) (xs:=#[.tmp 113,.tmp 114]) rfl ?_);at_builtin;refine Kd.R_append_rows k53 (w0:=w8) w8.heap.size rfl (.tmp 113) (.tmp 114) 28 53 (.agg #[(.bool false),(.int .i64 0)]) 16 rfl Try.underlying28 info53 rfl (by decide) (by omega) (.slice none 0 0) ([] : List S53) s.reverse (some ada) m1 c (fun _ => True) (fun _ => False) rfl rfl (Kd.R_nil _ _ _ _ _) HCR8.out (fun _ _ h => h) (fun _ h => h.elim) (fun _ _ => trivial) (Below.refl _ _) (Nat.le_refl _) (by have:=HSL.out;have:=HM1.out;simp only [List.length_nil];omega) ?_;intro v9 w9 ho hb hg hat;have HO9:=Aside0.mk ho;have HB9:=Aside0.mk hb;clear ho hb hg hat;obtain ⟨p0,p1⟩ := HPC.out w9 HB9.out))
          clear p0 p1 x1 y1
          go_loopg [13,14] r.length (fun kq v13 v14 wr => ∃ (j : Nat) (z : Int),v14 = .int .i64 z ∧ z = (j : Int) - 1 ∧ j ≤ r.length ∧ j ≤ kq ∧ Aside0 (Kd.R k53 53 wr w8.heap.size (fun _ => True) v13 (s.reverse ++ (r.drop j).reverse)) ∧ Aside0 (Below w8.heap.size w8 wr))
          case atStart => exact ⟨r.length,_,rfl,rfl,Nat.le_refl _,Nat.le_refl _,⟨by have:=HO9.out;rw [List.nil_append] at this;rw [List.drop_length];simpa using this⟩,HB9⟩
          case round =>
           clear HO9 HB9
           obtain ⟨j,z,rfl,hz,hj,hkq2,HO,HBW⟩ := hrel
           cases j with
           | zero =>
            have z0 : decide ((0 : Int) ≤ z) = false:=decide_eq_false (by omega)
            have hwn:=HWN.out
            have HZ:=Aside0.mk hz
            clear hz hj hkq2
            go_wp2
            go_roundg (100000 - (n + 1))
            case measure => have:=HN.out;omega
            case rel =>
             obtain ⟨A',c',rfl⟩ := Kd.R_slice HO.out
             obtain ⟨_,hle,hCC⟩ := Kd.R_reads' HO.out
             exact ⟨n + 1,a,r ++ s,A',_,c',rfl,rfl,by push_cast;rfl,by have:=HN.out;omega,Nat.le_refl _,HGO2,⟨by simp;omega⟩,⟨hle⟩,⟨by have h:=hCC;rw [List.drop_zero,← List.reverse_append,List.length_reverse] at h;exact h⟩,⟨by have:=HLIM.out;have:=HR.out;simp only [List.length_cons,List.length_append] at *;omega⟩,⟨HB18.out.trans (HBW.out.mono HB18.out.size)⟩⟩
           | succ j =>
            obtain rfl : z = (j : Int) := by rw [hz];push_cast;omega
            have z0 : decide ((0 : Int) ≤ (j : Int)) = true:=decide_eq_true (by omega)
            have z1 : (0 ≤ (j : Int)) = True:=eq_true (by omega)
            have z2 : ((j : Int) < (r.length : Int)) = True:=eq_true (by omega)
            have z3 : (j < r.length) = True:=eq_true (by omega)
            have hwz : IntKind.i64.wrap ((j : Int) - 1) = (j : Int) - 1:=by rw [IntKind.wrap_i64];have:=HR.out;omega
            have HJ:=Aside0.mk hj
            have HKQ2:=Aside0.mk hkq2
            obtain ⟨adk,ek,e0,e1⟩ := at_T53 (Kd.C_below HC58.out HBW.out) (j : Int) (by omega) (by omega)
            cases ek
            have hdr : r.drop j = rd_T53 r (j : Int) :: r.drop (j + 1) := by
             rw [List.drop_eq_getElem_cons (by omega : j < r.length),rd_T53,Int.toNat_natCast,List.getD_eq_getElem?_getD,List.getElem?_eq_getElem (by omega)];rfl
            generalize rd_T53 r (j : Int) = y at hdr e0 e1
            have HDR:=Aside0.mk hdr
            have HLB : Aside0 ((s.reverse ++ (r.drop (j + 1)).reverse).length ≤ 100001000) := ⟨by have:=HSL.out;have:=HR.out;simp only [List.length_append,List.length_reverse,List.length_drop];omega⟩
            rw [Int.toNat_natCast] at e0 e1
            obtain ⟨p0,p1⟩ := HPC.out wr HBW.out
            clear hz hj hkq2 hdr p0
            go_wp2_with (first | ((with_reducible refine gate_builtin (b := .append) (xs:=#[.tmp 124,.tmp 130]) rfl ?_);at_builtin;refine Kd.R_append k53 (w0:=w8) w8.heap.size rfl (.tmp 124) (.tmp 130) 28 53 (.agg #[(.bool false),(.int .i64 0)]) 16 rfl Try.underlying28 info53 rfl (by decide) (by omega) u13 _ y [.bool y.f0,.int .i64 y.f1] (fun _ => True) (fun _ => False) rfl rfl (k53_mkM _ _ _ y) (fun _ hk => hk.elim) (fun _ _ => trivial) HO.out HBW.out HBW.out.size (by have:=HLB.out;omega) ?_;intro v6 w6 ho hb hg hat;have HO6:=Aside0.mk ho;have HB6:=Aside0.mk hb;clear ho hb hg hat))
            go_roundg j
            case measure => have:=HKQ2.out;omega
            case rel => exact ⟨j,_,rfl,rfl,by have:=HJ.out;omega,Nat.le_refl _,⟨by have h:=HO6.out;rw [List.append_assoc] at h;rw [HDR.out,List.reverse_cons];exact h⟩,HB6⟩
        · cases h
  · obtain rfl : n = 100000:=by omega
    have hg:=HGO.out
    simp only [Nat.sub_self,tkGo,Bool.and_eq_true,beq_iff_eq] at hg
    obtain ⟨hs0,hal⟩ := hg
    obtain rfl : nl = 0:=by rw [HNL.out];simpa using hs0
    subst hal
    clear hlt hkq hn hs0
    go_wp2
    go_ret
    exact ⟨rfl,HB1.out.trans (HBR.out.mono HB1.out.size)⟩
end Go.Proofs.Ytfdcfihcfegekaa.P
end

section
namespace Go.Proofs.Ytfdcfihcfegekaa.P
open Go.RowKit Go.Proofs.YtfdcfihcfegekaaW.PrintWords Go.Proofs.YtfdcfihcfegekaaW.PrintLast Go.Proofs.YtfdcfihcfegekaaW.PrintMore
set_option linter.unusedVariables false
set_option linter.unusedSimpArgs false
theorem miStr : (Try.prog.info? 9).map (fun i => (i.zero,i.size,i.bytes)) = some (some (.string ⟨#[]⟩),1,16) := by kernel_rfl
theorem miSym : (Try.prog.info? 53).map (fun i => (i.zero,i.size,i.bytes)) = some (some (.agg #[.bool false,.int .i64 0]),2,16) := by kernel_rfl
theorem miTok : (Try.prog.info? 61).map (fun i => (i.zero,i.size,i.bytes)) = some (some (.agg #[.string ⟨#[]⟩,.int .i64 0,.string ⟨#[]⟩,.slice none 0 0,.int .i64 0,.int .i64 0,.slice none 0 0]),7,104) := by kernel_rfl
theorem miProd : (Try.prog.info? 30).map (fun i => (i.zero,i.size,i.bytes)) = some (some (.agg #[.int .i64 0,.slice none 0 0]),2,32) := by kernel_rfl
section
variable {w W W' : World} {A0 : Option Addr} {n0 c0 at_ : Nat} {vn vt vp : Value}
theorem MadeI.below (h : MadeI w A0 n0 c0 at_ vn vt vp W) (hb : Below W.heap.size W W') : MadeI w A0 n0 c0 at_ vn vt vp W' :=
  ⟨h.bel.trans (hb.mono h.bel.size),(hb.block _ (blk_lt h.l)).trans h.l,(hb.block _ (blk_lt h.r)).trans h.r,(hb.block _ (blk_lt h.s)).trans h.s,(hb.block _ (blk_lt h.a)).trans h.a⟩
theorem MadeI.below4 (h : MadeI w A0 n0 c0 at_ vn vt vp W) (hb : Below (w.heap.size + 4) W W') : MadeI w A0 n0 c0 at_ vn vt vp W' :=
  ⟨h.bel.trans (hb.mono (by omega)),(hb.block _ (by omega)).trans h.l,(hb.block _ (by omega)).trans h.r,(hb.block _ (by omega)).trans h.s,(hb.block _ (by omega)).trans h.a⟩
theorem MadeI.size (h : MadeI w A0 n0 c0 at_ vn vt vp W) : w.heap.size + 4 ≤ W.heap.size:=blk_lt h.a
theorem MadeI.put0 (h : MadeI w A0 n0 c0 at_ vn vt vp W) (v : Value) : MadeI w A0 n0 c0 at_ v vt vp (W.setCell ⟨w.heap.size + 2,0,none⟩ v) :=
  ⟨below_set h.bel (by simp),blk_far h.l (by simp) _,blk_far h.r (by simp) _,blk_put h.s 0 v rfl,blk_far h.a (by simp) _⟩
theorem MadeI.put1 (h : MadeI w A0 n0 c0 at_ vn vt vp W) (v : Value) : MadeI w A0 n0 c0 at_ vn v vp (W.setCell ⟨w.heap.size + 2,1,none⟩ v) :=
  ⟨below_set h.bel (by simp),blk_far h.l (by simp) _,blk_far h.r (by simp) _,blk_put h.s 1 v rfl,blk_far h.a (by simp) _⟩
theorem MadeI.put4 (h : MadeI w A0 n0 c0 at_ vn vt vp W) (v : Value) : MadeI w A0 n0 c0 at_ vn vt v (W.setCell ⟨w.heap.size + 2,4,none⟩ v) :=
  ⟨below_set h.bel (by simp),blk_far h.l (by simp) _,blk_far h.r (by simp) _,blk_put h.s 4 v rfl,blk_far h.a (by simp) _⟩
end
theorem set5_kept (W : World) (g : Nat) (v0 v1 v2 v3 v4 : Value) : Kept W (((((W.setCell ⟨g,0,none⟩ v0).setCell ⟨g,1,none⟩ v1).setCell ⟨g,2,none⟩ v2).setCell ⟨g,3,none⟩ v3).setCell ⟨g,4,none⟩ v4) (fun k => k = g) := by
 have h0:=Kept.setCell (Kept.refl W (fun k => k = g)) (p:=⟨g,0,none⟩) (.inl rfl) v0
 have h1:=Kept.setCell h0 (p:=⟨g,1,none⟩) (.inl rfl) v1
 have h2:=Kept.setCell h1 (p:=⟨g,2,none⟩) (.inl rfl) v2
 have h3:=Kept.setCell h2 (p:=⟨g,3,none⟩) (.inl rfl) v3
 exact Kept.setCell h3 (p:=⟨g,4,none⟩) (.inl rfl) v4
theorem set5_below {w W : World} {g : Nat} (h : Below w.heap.size w W) (hg : w.heap.size ≤ g) (v0 v1 v2 v3 v4 : Value) : Below w.heap.size w (((((W.setCell ⟨g,0,none⟩ v0).setCell ⟨g,1,none⟩ v1).setCell ⟨g,2,none⟩ v2).setCell ⟨g,3,none⟩ v3).setCell ⟨g,4,none⟩ v4) := by
 have h0:=below_set (j:=0) (v:=v0) h hg
 have h1:=below_set (j:=1) (v:=v1) h0 hg
 have h2:=below_set (j:=2) (v:=v2) h1 hg
 have h3:=below_set (j:=3) (v:=v3) h2 hg
 exact below_set (j:=4) (v:=v4) h3 hg
theorem name_at (i : Nat) (h : i < 5) : ([Value.string ⟨#[97]⟩,Value.string ⟨#[98]⟩,Value.string ⟨#[99]⟩,Value.string ⟨#[100]⟩,Value.string ⟨#[101]⟩] : List Value)[i]? = some (.string (mNames.getD i ⟨#[]⟩)) := by
 match i,h with
 | 0,_ => rfl
 | 1,_ => rfl
 | 2,_ => rfl
 | 3,_ => rfl
 | 4,_ => rfl
theorem text_at (i : Nat) (h : i < 4) : ([Value.string ⟨#[120]⟩,Value.string ⟨#[121]⟩,Value.string ⟨#[122]⟩,Value.string ⟨#[119]⟩] : List Value)[i]? = some (.string (mTexts.getD i ⟨#[]⟩)) := by
 match i,h with
 | 0,_ => rfl
 | 1,_ => rfl
 | 2,_ => rfl
 | 3,_ => rfl
theorem take_next {α : Type} (xs : List α) (d : α) (i : Nat) (h : i < xs.length) : xs.take i ++ [xs.getD i d] = xs.take (i + 1) := by
 rw [List.take_add_one,List.getD_eq_getElem?_getD,List.getElem?_eq_getElem h];rfl
set_option maxHeartbeats 4000000 in
set_option maxRecDepth 100000 in
theorem regletlaw13_Made.calls (k : Nat) (A0 : Option Addr) (c0 : Nat) (l0 : List Int) (r1 : List ByteArray) (r2 : List S61) (r3 r4 : Int) (r5 : List S30) (w : World) (hr0 : Kd.C (Kd.int .u8) w A0 l0.length l0) (hc0 : l0.length ≤ c0) (h : regletlaw13_Made.f k l0 = some (r1,r2,r3,r4,r5)) :
    Calls Try.prog 11 #[.slice A0 l0.length c0] w fun e w' => ∃ v0_ v1_ v2_ : Value,e = .returned (.agg #[v0_,v1_,.int .i64 r3,.int .i64 r4,v2_]) ∧ Kd.R Kd.string 9 w' w.heap.size (fun _ => True) v0_ r1 ∧ Kd.R k61 61 w' w.heap.size (fun _ => True) v1_ r2 ∧ Kd.S k30 30 w' w.heap.size (fun _ => True) v2_ r5 ∧ Below w.heap.size w w' := by
 unfold regletlaw13_Made.f at h
 split at h
 case isFalse => simp at h
 rename_i hall
 have hu : ∀ x ∈ l0,0 ≤ x ∧ x ≤ 255:=fun x hx => of_decide_eq_true (List.all_eq_true.1 hall x hx)
 obtain ⟨h1,h2⟩ := Prod.mk.inj (Option.some.inj h)
 obtain ⟨h2,h3⟩ := Prod.mk.inj h2
 obtain ⟨h3,h4⟩ := Prod.mk.inj h3
 obtain ⟨h4,h5⟩ := Prod.mk.inj h4
 subst h1 h2 h3 h4 h5
 have HU:=Aside0.mk hu
 have HR0:=Aside0.mk hr0
 clear h hall hu hr0 hc0
 clear h2 h3 h4
 have hI0 : MadeI w A0 l0.length c0 0 (.slice none 0 0) (.slice none 0 0) (.slice none 0 0) ((((w.alloc (.cells #[.slice A0 l0.length c0] 32)).alloc (.cells #[.slice none 0 0,.slice none 0 0,.int .i64 0,.int .i64 0,.slice none 0 0] 26)).alloc (.cells #[.slice none 0 0,.slice none 0 0,.int .i64 0,.int .i64 0,.slice none 0 0] 26)).alloc (.cells #[.int .i64 0] 3)) := by
  refine ⟨below_alloc (below_alloc (below_alloc (below_alloc (Below.refl _ w) _) _) _) _,?_,?_,?_,?_⟩
  · exact blk_alloc (blk_alloc (blk_alloc (heap_alloc_new w _) _) _) _
  · have h:=heap_alloc_new (w.alloc (.cells #[.slice A0 l0.length c0] 32)) (.cells #[.slice none 0 0,.slice none 0 0,.int .i64 0,.int .i64 0,.slice none 0 0] 26)
    rw [World.size_alloc] at h
    exact blk_alloc (blk_alloc h _) _
  · have h:=heap_alloc_new ((w.alloc (.cells #[.slice A0 l0.length c0] 32)).alloc (.cells #[.slice none 0 0,.slice none 0 0,.int .i64 0,.int .i64 0,.slice none 0 0] 26)) (.cells #[.slice none 0 0,.slice none 0 0,.int .i64 0,.int .i64 0,.slice none 0 0] 26)
    rw [World.size_alloc,World.size_alloc] at h
    exact blk_alloc h _
  · have h:=heap_alloc_new (((w.alloc (.cells #[.slice A0 l0.length c0] 32)).alloc (.cells #[.slice none 0 0,.slice none 0 0,.int .i64 0,.int .i64 0,.slice none 0 0] 26)).alloc (.cells #[.slice none 0 0,.slice none 0 0,.int .i64 0,.int .i64 0,.slice none 0 0] 26)) (.cells #[.int .i64 0] 3)
    rw [World.size_alloc,World.size_alloc,World.size_alloc] at h
    exact h
 have HI0:=Aside0.mk hI0
 clear hI0
 have eg : ∀ args w,(callFunc 21 args).run Try.prog w = .ok (.enter 21 args) w:=enters_of Try.func21 (by kernel_rfl) rfl
 have hp0:=mPick_lt HU.out 0 (n:=5) (by decide)
 have hp1:=mPick_lt HU.out 1 (n:=4) (by decide)
 have hp2:=mPick_lt HU.out 2 (n:=10) (by decide)
 obtain ⟨m,em,hm1,hm5⟩ : ∃ m : Nat,1 + mPick l0 0 5 = (m : Int) ∧ 1 ≤ m ∧ m ≤ 5:=⟨(1 + mPick l0 0 5).toNat,by omega,by omega,by omega⟩
 obtain ⟨q,eq_,hq1,hq4⟩ : ∃ q : Nat,1 + mPick l0 1 4 = (q : Int) ∧ 1 ≤ q ∧ q ≤ 4:=⟨(1 + mPick l0 1 4).toNat,by omega,by omega,by omega⟩
 obtain ⟨c,ec,hc1,hc10⟩ : ∃ c : Nat,1 + mPick l0 2 10 = (c : Int) ∧ 1 ≤ c ∧ c ≤ 10:=⟨(1 + mPick l0 2 10).toNat,by omega,by omega,by omega⟩
 simp only [em,eq_,ec,Int.toNat_natCast]
 have EM:=Aside0.mk em
 have EQ:=Aside0.mk eq_
 have EC:=Aside0.mk ec
 clear em eq_ ec hp0 hp1 hp2
 go_enter Try.func11,Try.ntmps11
 go_upto_region 4 with fail
 simp only [Nat.add_assoc,Nat.reduceAdd]
 generalize ((((w.alloc (.cells #[.slice A0 l0.length c0] 32)).alloc (.cells #[.slice none 0 0,.slice none 0 0,.int .i64 0,.int .i64 0,.slice none 0 0] 26)).alloc (.cells #[.slice none 0 0,.slice none 0 0,.int .i64 0,.int .i64 0,.slice none 0 0] 26)).alloc (.cells #[.int .i64 0] 3)) = W0 at HI0 ⊢
 go_cut [6,7] from 14 (fun s6 s7 wc => s6 = .int .i64 (m : Int) ∧ s7 = .int .i64 (q : Int) ∧ Aside0 (MadeI w A0 l0.length c0 2 (.slice none 0 0) (.slice none 0 0) (.slice none 0 0) wc))
 case first =>
  have P1:=Aside0.mk (HI0.out.calls HR0.out 5 (by decide) (by decide) HU.out)
  have hw1 : IntKind.i64.wrap (1 + mPick l0 0 5) = 1 + mPick l0 0 5:=by have:=mPick_lt HU.out 0 (n:=5) (by decide);rw [IntKind.wrap_i64];omega
  have hw2 : IntKind.i64.wrap (1 + mPick l0 1 4) = 1 + mPick l0 1 4:=by have:=mPick_lt HU.out 1 (n:=4) (by decide);rw [IntKind.wrap_i64];omega
  go_wp2_with (first
    | (go_at_fn 21;(with_reducible refine P1.out.mono ?_);rintro e w1 ⟨rfl,HI1,hk1⟩;have P2:=Aside0.mk (HI1.out.calls HR0.out 4 (by decide) (by decide) HU.out);clear P1)
    | (go_at_fn 21;(with_reducible refine P2.out.mono ?_);rintro e w2 ⟨rfl,HI2,hk2⟩;clear P2))
  go_meet
  case rel => exact ⟨congrArg _ EM.out,congrArg _ EQ.out,HI2⟩
 case rest =>
  obtain ⟨rfl,rfl,HI2⟩ := hcut
  obtain ⟨w2,ew2⟩ : ∃ w2 : World,w2 = wc:=⟨_,rfl⟩
  subst ew2
  clear HI0
  have M5:=Aside0.mk hm5
  have Q4:=Aside0.mk hq4
  have C10:=Aside0.mk hc10
  have M1:=Aside0.mk hm1
  have Q1:=Aside0.mk hq1
  have C1:=Aside0.mk hc1
  clear hm5 hq4 hc10 hm1 hq1 hc1
  go_upto_region 5 with fail
  iterate 7 (first | go_values | go_skip | go_guarded | go_step | go_upon | go_back | (simp only [Int.not_lt,Int.not_le] at *;go_simp))
  go_cut [8] from 14 (fun s8 wc => ∃ vn : Value,Aside0 (MadeI w A0 l0.length c0 2 vn (.slice none 0 0) (.slice none 0 0) wc) ∧ Aside0 (Kd.R Kd.string 9 wc (w.heap.size + 4) (fun k => w.heap.size + 4 ≤ k) vn (mNames.take m)))
  case first =>
   go_wp2
   go_loopg [8] m (fun kq v8 wr => ∃ (i : Nat) (vn : Value),v8 = .int .i64 i ∧ i ≤ m ∧ m - i ≤ kq ∧ Aside0 (MadeI w A0 l0.length c0 2 vn (.slice none 0 0) (.slice none 0 0) wr) ∧ Aside0 (Kd.R Kd.string 9 wr (w.heap.size + 4) (fun k => w.heap.size + 4 ≤ k) vn (mNames.take i)))
   case atStart => exact ⟨0,.slice none 0 0,rfl,by omega,by omega,HI2,⟨Kd.R_nil _ _ _ _ _⟩⟩
   case round =>
    clear HI2
    obtain ⟨i,vn,rfl,hi,hm,HI,HN⟩ := hrel
    by_cases hlt : i < m
    · have d0 : decide (i < m) = true:=decide_eq_true hlt
      have d1 : (i < m) = True:=eq_true hlt
      have HLT:=Aside0.mk hlt
      have HM:=Aside0.mk hm
      have p0 : (0 ≤ (i : Int)) = True:=eq_true (by omega)
      have p1 : ((i : Int) < 5) = True:=eq_true (by have:=M5.out;omega)
      have hwr : IntKind.i64.wrap ((i : Int) + 1) = (i : Int) + 1:=by rw [IntKind.wrap_i64];have:=M5.out;omega
      have H1:=Aside0.mk (HI.out.below (below_drew1 (Below.refl _ wr)))
      have H2:=Aside0.mk (H1.out.below (below_alloc (Below.refl _ wr.drew) (.cells #[.string ⟨#[97]⟩,.string ⟨#[98]⟩,.string ⟨#[99]⟩,.string ⟨#[100]⟩,.string ⟨#[101]⟩] 9)))
      obtain ⟨nm,enm⟩ : ∃ nm : ByteArray,nm = mNames.getD i ⟨#[]⟩ := ⟨_,rfl⟩
      have c8 : ([Value.string ⟨#[97]⟩,Value.string ⟨#[98]⟩,Value.string ⟨#[99]⟩,Value.string ⟨#[100]⟩,Value.string ⟨#[101]⟩] : List Value)[i]? = some (.string nm) := by rw [enm];exact name_at i (by have:=M5.out;omega)
      have ENM:=Aside0.mk enm
      clear enm
      have HS2:=Aside0.mk H2.out.size
      clear hlt hm hi
      go_wp2
      refine start_ (n:=10) (S:=fun w' => w'.cell? ⟨w.heap.size + 2,0,none⟩ = some vn) (ds := [9]) #[F,F,F,F,F,F,F,F,F,F] (by kernel_rfl) rfl rfl ((blk_cell HI.out.s 0).trans rfl) (fun hHeld => ?_)
      refine pure_ (i:=0) (N:=some 25) (v:=?_) (a' := ?_) #[T,F,F,F,F,F,F,F,F,F] rfl rfl (by kernel_rfl) (fun _ _ _ h => h) (Or.inl ⟨by rfl,?_⟩) ?_ ?_
      rotate_left;(intro w';go_simp;with_reducible rfl);rotate_left;(simp only [pq];rfl)
      refine pure_ (i:=3) (N:=some 28) (v:=?_) (a' := ?_) #[T,F,F,T,F,F,F,F,F,F] rfl rfl (by kernel_rfl) (fun _ _ _ h => h) (Or.inl ⟨by rfl,?_⟩) ?_ ?_
      rotate_left;(intro w';go_simp;with_reducible rfl);rotate_left;(simp only [pq];rfl)
      refine take_ (i:=1) (N:=some 26) (v:=?_) (a' := ?_) #[T,T,F,T,F,F,F,F,F,F] rfl rfl (by kernel_rfl) (fun _ _ _ h => h) (Or.inl ⟨by rfl,?_⟩) hHeld ?_ ?_
      rotate_left
      · intro w' s0
        go_simp
        with_reducible rfl
      rotate_left
      · simp only [pq]
        rfl
      refine one_ (i:=2) (N:=some 27) #[T,T,T,T,F,F,F,F,F,F] rfl rfl (by kernel_rfl) (by decide) (fun K hK => ?_)
      refine value_ (w1:=?_) (v:=?_) (by rfl) rfl ?_ ?_
      rotate_left 2
      · go_simp
        constructor
        · rfl
        · rfl
      refine hK.out _ _ ((blk_cell H2.out.s 0).trans rfl) (fun hHeld => ?_)
      clear hK K
      refine norm_ (a' := ?_) ?_ ?_
      rotate_left
      · show Act.put _ (some 27) _ = _
        simp only [pq]
        rfl
      refine pure_ (i:=4) (N:=some 29) (v:=?_) (a' := ?_) #[T,T,T,T,T,F,F,F,F,F] rfl rfl (by kernel_rfl) (fun _ _ _ h => h) (Or.inl ⟨by rfl,?_⟩) ?_ ?_
      rotate_left;(intro w';go_simp;with_reducible rfl);rotate_left;(simp only [pq];rfl)
      refine one_ (i:=5) (N:=some 30) #[T,T,T,T,T,T,F,F,F,F] rfl rfl (by kernel_rfl) (by decide) (fun K hK => ?_)
      refine value_ (w1:=?_) (v:=?_) (by rfl) rfl ?_ ?_
      rotate_left 2
      · go_simp
        constructor
        · rfl
        · rfl
      refine hK.out _ _ (hHeld) (fun hHeld => ?_)
      clear hK K
      refine norm_ (a' := ?_) ?_ ?_
      rotate_left
      · show Act.put _ (some 30) _ = _
        simp only [pq]
        rfl
      refine one_ (i:=6) (N:=some 31) #[T,T,T,T,T,T,T,F,F,F] rfl rfl (by kernel_rfl) (by decide) (fun K hK => ?_)
      refine value_ (w1:=?_) (v:=?_) (by rfl) rfl ?_ ?_
      rotate_left 2
      · go_simp
        constructor
        · rfl
        · rfl
      refine hK.out _ _ ((blk_cell (H2.out.below (below_alloc (Below.refl _ _) _)).s 0).trans rfl) (fun hHeld => ?_)
      clear hK K
      refine norm_ (a' := ?_) ?_ ?_
      rotate_left
      · show Act.put _ (some 31) _ = _
        simp only [pq]
        rfl
      refine one_ (i:=7) (N:=some 32) #[T,T,T,T,T,T,T,T,F,F] rfl rfl (by kernel_rfl) (by decide) (fun K hK => ?_)
      refine Kd.R_append_step Kd.string (w0:=wr.drew.alloc (.cells #[.string ⟨#[97]⟩,.string ⟨#[98]⟩,.string ⟨#[99]⟩,.string ⟨#[100]⟩,.string ⟨#[101]⟩] 9)) (w.heap.size + 4) (by rfl) (.tmp 26) (.tmp 31) 22 9 (.string ⟨#[]⟩) 16 rfl Try.underlying22 miStr rfl (by decide) (by omega) vn (mNames.take i) nm [.string nm] (fun k => w.heap.size + 4 ≤ k) (fun _ => False) rfl (by rw [World.size_alloc];rfl) rfl (fun _ hk => hk.elim) (fun k hk => Nat.le_trans HS2.out hk) (Kd.R_alloc (Kd.R_drew HN.out) _) (Below.refl _ _) HS2.out (by have:=M5.out;have:=HLT.out;have:=List.length_take_le i mNames;omega) ?_
      intro v1 w1 ho hb hg hat
      obtain ⟨An,ln,cn,rfl⟩ : ∃ An ln cn,v1 = .slice An ln cn:=by obtain ⟨An,cn,e⟩ := Kd.R_slice ho;exact ⟨An,_,cn,e⟩
      rw [ENM.out,take_next mNames ⟨#[]⟩ i (by have:=M5.out;have:=HLT.out;show i < 5;omega)] at ho
      have H3:=Aside0.mk (H2.out.below4 hb)
      have HN3:=Aside0.mk ho
      have f3:=blk_frozen H3.out.s 0
      clear ho hb hg hat
      refine hK.out _ _ ((blk_cell H3.out.s 0).trans rfl) (fun hHeld => ?_)
      clear hK K
      refine norm_ (a' := ?_) ?_ ?_
      rotate_left
      · show Act.put _ (some 32) _ = _
        simp only [pq]
        rfl
      refine pure_ (i:=8) (N:=some 33) (v:=?_) (a' := ?_) #[T,T,T,T,T,T,T,T,T,F] rfl rfl (by kernel_rfl) (fun _ _ _ h => h) (Or.inl ⟨by rfl,?_⟩) ?_ ?_
      rotate_left;(intro w';go_simp;with_reducible rfl);rotate_left;(simp only [pq];rfl)
      refine last_ (i:=9) (N:=none) #[T,T,T,T,T,T,T,T,T,T] rfl rfl (by kernel_rfl) (by decide) (fun K hK => ?_)
      refine skip_ (w1:=?_) (by rfl) rfl ?_ ?_
      rotate_left
      · go_simp
        rfl
      refine hK.out _ _ ?_
      clear hK K
      refine done_ (by kernel_rfl) ?_
      go_wp2
      go_roundg (m - (i + 1))
      case measure => have:=HM.out;have:=HLT.out;omega
      case rel => exact ⟨i + 1,_,rfl,by have:=HLT.out;omega,Nat.le_refl _,⟨H3.out.put0 _⟩,⟨Kd.R_kept HN3.out (Kept.setCell (Kept.refl _ (fun k => k = w.heap.size + 2)) (.inl rfl) _) (fun k hk => by omega)⟩⟩
    · obtain rfl : i = m:=by omega
      have d0 : decide ((i : Int) < (i : Int)) = false:=decide_eq_false (by omega)
      clear hlt
      go_wp2
      go_meet
      case rel => exact ⟨vn,HI,HN⟩
  case rest =>
   obtain ⟨vn,HI3,HN3⟩ := hcut
   obtain ⟨w3,ew3⟩ : ∃ w3 : World,w3 = wc:=⟨_,rfl⟩
   subst ew3
   clear HI2
   have HB3:=Aside0.mk HI3.out.size
   have HN3b : Aside0 (Kd.R Kd.string 9 w3 (w.heap.size + 4) (fun k => w.heap.size + 4 ≤ k ∧ k < w3.heap.size) vn (mNames.take m)) := ⟨Kd.R_mono (Kd.R_bound HN3.out) (fun k hk => ⟨hk.2.1,hk.2.2.1⟩)⟩
   clear HN3
   go_upto_region 9 with fail
   iterate 7 (first | go_values | go_skip | go_guarded | go_step | go_upon | go_back | (simp only [Int.not_lt,Int.not_le] at *;go_simp))
   go_cut [9] from 14 (fun s9 wc => ∃ vt : Value,Aside0 (MadeI w A0 l0.length c0 2 vn vt (.slice none 0 0) wc) ∧ Aside0 (Kept w3 wc (fun k => k < w.heap.size + 4 ∨ w3.heap.size ≤ k)) ∧ Aside0 (Kd.R k61 61 wc (w.heap.size + 4) (fun k => w3.heap.size ≤ k) vt ((mTexts.map mTok).take q)))
   case first =>
    go_wp2
    go_loopg [9] q (fun kq v9 wr => ∃ (i : Nat) (vt : Value),v9 = .int .i64 i ∧ i ≤ q ∧ q - i ≤ kq ∧ Aside0 (MadeI w A0 l0.length c0 2 vn vt (.slice none 0 0) wr) ∧ Aside0 (Kept w3 wr (fun k => k < w.heap.size + 4 ∨ w3.heap.size ≤ k)) ∧ Aside0 (Kd.R k61 61 wr (w.heap.size + 4) (fun k => w3.heap.size ≤ k) vt ((mTexts.map mTok).take i)))
    case atStart => exact ⟨0,.slice none 0 0,rfl,by omega,by omega,HI3,⟨Kept.refl _ _⟩,⟨Kd.R_nil _ _ _ _ _⟩⟩
    case round =>
     clear HI3
     obtain ⟨i,vt,rfl,hi,hm,HI,HK,HT⟩ := hrel
     by_cases hlt : i < q
     · have d0 : decide (i < q) = true:=decide_eq_true hlt
       have d1 : (i < q) = True:=eq_true hlt
       have HLT:=Aside0.mk hlt
       have HM:=Aside0.mk hm
       have p0 : (0 ≤ (i : Int)) = True:=eq_true (by omega)
       have p1 : ((i : Int) < 4) = True:=eq_true (by have:=Q4.out;omega)
       have hwr : IntKind.i64.wrap ((i : Int) + 1) = (i : Int) + 1:=by rw [IntKind.wrap_i64];have:=Q4.out;omega
       have H1:=Aside0.mk (HI.out.below (below_drew1 (Below.refl _ wr)))
       have H2:=Aside0.mk (H1.out.below (below_alloc (Below.refl _ wr.drew) (.cells #[.string ⟨#[120]⟩,.string ⟨#[121]⟩,.string ⟨#[122]⟩,.string ⟨#[119]⟩] 9)))
       have HK2 : Aside0 (Kept w3 (wr.drew.alloc (.cells #[.string ⟨#[120]⟩,.string ⟨#[121]⟩,.string ⟨#[122]⟩,.string ⟨#[119]⟩] 9)) (fun k => k < w.heap.size + 4 ∨ w3.heap.size ≤ k)) := ⟨Kept.alloc (Kept.drew HK.out) _⟩
       obtain ⟨tx,etx⟩ : ∃ tx : ByteArray,tx = mTexts.getD i ⟨#[]⟩ := ⟨_,rfl⟩
       have c8 : ([Value.string ⟨#[120]⟩,Value.string ⟨#[121]⟩,Value.string ⟨#[122]⟩,Value.string ⟨#[119]⟩] : List Value)[i]? = some (.string tx) := by rw [etx];exact text_at i (by have:=Q4.out;omega)
       have ETX : Aside0 (mTok tx = (mTexts.map mTok).getD i (mTok ⟨#[]⟩)) := ⟨by rw [etx,List.getD_eq_getElem?_getD,List.getD_eq_getElem?_getD,List.getElem?_map,List.getElem?_eq_getElem (show i < mTexts.length by have:=Q4.out;show i < 4;omega)];rfl⟩
       have HS2:=Aside0.mk H2.out.size
       have HZ2 : Aside0 (w3.heap.size ≤ (wr.drew.alloc (.cells #[.string ⟨#[120]⟩,.string ⟨#[121]⟩,.string ⟨#[122]⟩,.string ⟨#[119]⟩] 9)).heap.size) := ⟨HK2.out.1⟩
       clear hlt hm hi etx
       go_wp2
       refine start_ (n:=12) (S:=fun w' => w'.cell? ⟨w.heap.size + 2,1,none⟩ = some vt) (ds := [11]) #[F,F,F,F,F,F,F,F,F,F,F,F] (by kernel_rfl) rfl rfl ((blk_cell HI.out.s 1).trans rfl) (fun hHeld => ?_)
       refine pure_ (i:=0) (N:=some 39) (v:=?_) (a' := ?_) #[T,F,F,F,F,F,F,F,F,F,F,F] rfl rfl (by kernel_rfl) (fun _ _ _ h => h) (Or.inl ⟨by rfl,?_⟩) ?_ ?_
       rotate_left;(intro w';go_simp;with_reducible rfl);rotate_left;(simp only [pq];rfl)
       refine pure_ (i:=3) (N:=some 42) (v:=?_) (a' := ?_) #[T,F,F,T,F,F,F,F,F,F,F,F] rfl rfl (by kernel_rfl) (fun _ _ _ h => h) (Or.inl ⟨by rfl,?_⟩) ?_ ?_
       rotate_left;(intro w';go_simp;with_reducible rfl);rotate_left;(simp only [pq];rfl)
       refine take_ (i:=1) (N:=some 40) (v:=?_) (a' := ?_) #[T,T,F,T,F,F,F,F,F,F,F,F] rfl rfl (by kernel_rfl) (fun _ _ _ h => h) (Or.inl ⟨by rfl,?_⟩) hHeld ?_ ?_
       rotate_left
       · intro w' s0
         go_simp
         with_reducible rfl
       rotate_left
       · simp only [pq]
         rfl
       refine one_ (i:=2) (N:=some 41) #[T,T,T,T,F,F,F,F,F,F,F,F] rfl rfl (by kernel_rfl) (by decide) (fun K hK => ?_)
       refine value_ (w1:=?_) (v:=?_) (by rfl) rfl ?_ ?_
       rotate_left 2
       · go_simp
         constructor
         · rfl
         · rfl
       refine hK.out _ _ ((blk_cell H2.out.s 1).trans rfl) (fun hHeld => ?_)
       clear hK K
       refine norm_ (a' := ?_) ?_ ?_
       rotate_left
       · show Act.put _ (some 41) _ = _
         simp only [pq]
         rfl
       refine pure_ (i:=4) (N:=some 43) (v:=?_) (a' := ?_) #[T,T,T,T,T,F,F,F,F,F,F,F] rfl rfl (by kernel_rfl) (fun _ _ _ h => h) (Or.inl ⟨by rfl,?_⟩) ?_ ?_
       rotate_left;(intro w';go_simp;with_reducible rfl);rotate_left;(simp only [pq];rfl)
       refine one_ (i:=5) (N:=some 44) #[T,T,T,T,T,T,F,F,F,F,F,F] rfl rfl (by kernel_rfl) (by decide) (fun K hK => ?_)
       refine value_ (w1:=?_) (v:=?_) (by rfl) rfl ?_ ?_
       rotate_left 2
       · go_simp
         constructor
         · rfl
         · rfl
       refine hK.out _ _ (hHeld) (fun hHeld => ?_)
       clear hK K
       refine norm_ (a' := ?_) ?_ ?_
       rotate_left
       · show Act.put _ (some 44) _ = _
         simp only [pq]
         rfl
       refine pure_ (i:=6) (N:=some 45) (v:=?_) (a' := ?_) #[T,T,T,T,T,T,T,F,F,F,F,F] rfl rfl (by kernel_rfl) (fun _ _ _ h => h) (Or.inl ⟨by rfl,?_⟩) ?_ ?_
       rotate_left;(intro w';go_simp;with_reducible rfl);rotate_left;(simp only [pq];rfl)
       refine pure_ (i:=7) (N:=some 46) (v:=?_) (a' := ?_) #[T,T,T,T,T,T,T,T,F,F,F,F] rfl rfl (by kernel_rfl) (fun _ _ _ h => h) (Or.inl ⟨by rfl,?_⟩) ?_ ?_
       rotate_left;(intro w';go_simp;with_reducible rfl);rotate_left;(simp only [pq];rfl)
       refine one_ (i:=8) (N:=some 47) #[T,T,T,T,T,T,T,T,T,F,F,F] rfl rfl (by kernel_rfl) (by decide) (fun K hK => ?_)
       refine value_ (w1:=?_) (v:=?_) (by rfl) rfl ?_ ?_
       rotate_left 2
       · go_simp
         constructor
         · rfl
         · rfl
       refine hK.out _ _ ((blk_cell (H2.out.below (below_alloc (Below.refl _ _) _)).s 1).trans rfl) (fun hHeld => ?_)
       clear hK K
       refine norm_ (a' := ?_) ?_ ?_
       rotate_left
       · show Act.put _ (some 47) _ = _
         simp only [pq]
         rfl
       refine one_ (i:=9) (N:=some 48) #[T,T,T,T,T,T,T,T,T,T,F,F] rfl rfl (by kernel_rfl) (by decide) (fun K hK => ?_)
       refine Kd.R_append_step k61 (w0:=wr.drew.alloc (.cells #[.string ⟨#[120]⟩,.string ⟨#[121]⟩,.string ⟨#[122]⟩,.string ⟨#[119]⟩] 9)) (w.heap.size + 4) (by rfl) (.tmp 40) (.tmp 47) 23 61 (.agg #[.string ⟨#[]⟩,.int .i64 0,.string ⟨#[]⟩,.slice none 0 0,.int .i64 0,.int .i64 0,.slice none 0 0]) 104 rfl Try.underlying23 miTok rfl (by decide) (by omega) vt ((mTexts.map mTok).take i) (mTok tx) [.string ⟨#[]⟩,.int .i64 5,.string tx,.slice none 0 0,.int .i64 0,.int .i64 0,.slice none 0 0] (fun k => w3.heap.size ≤ k) (fun _ => False) rfl (by rw [World.size_alloc];rfl) (k61_mkM _ _ _ (mTok tx) (Kd.R_nil _ _ _ _ _) (Kd.R_nil _ _ _ _ _)) (fun _ hk => hk.elim) (fun k hk => Nat.le_trans HZ2.out hk) (Kd.R_alloc (Kd.R_drew HT.out) _) (Below.refl _ _) HS2.out (by have:=Q4.out;have:=HLT.out;have:=List.length_take_le i (mTexts.map mTok);omega) ?_
       intro v1 w1 ho hb hg hat
       obtain ⟨An,ln,cn,rfl⟩ : ∃ An ln cn,v1 = .slice An ln cn:=by obtain ⟨An,cn,e⟩ := Kd.R_slice ho;exact ⟨An,_,cn,e⟩
       rw [ETX.out,take_next (mTexts.map mTok) (mTok ⟨#[]⟩) i (by have:=Q4.out;have:=HLT.out;show i < 4;omega)] at ho
       have H3:=Aside0.mk (H2.out.below4 hb)
       have HK3:=Aside0.mk (Kept.of_grown hg HK2.out (fun k hk => .inl (.inr (HT.out.1 k hk))))
       have HT3:=Aside0.mk ho
       have f3:=blk_frozen H3.out.s 1
       clear ho hb hg hat
       refine hK.out _ _ ((blk_cell H3.out.s 1).trans rfl) (fun hHeld => ?_)
       clear hK K
       refine norm_ (a' := ?_) ?_ ?_
       rotate_left
       · show Act.put _ (some 48) _ = _
         simp only [pq]
         rfl
       refine pure_ (i:=10) (N:=some 49) (v:=?_) (a' := ?_) #[T,T,T,T,T,T,T,T,T,T,T,F] rfl rfl (by kernel_rfl) (fun _ _ _ h => h) (Or.inl ⟨by rfl,?_⟩) ?_ ?_
       rotate_left;(intro w';go_simp;with_reducible rfl);rotate_left;(simp only [pq];rfl)
       refine last_ (i:=11) (N:=none) #[T,T,T,T,T,T,T,T,T,T,T,T] rfl rfl (by kernel_rfl) (by decide) (fun K hK => ?_)
       refine skip_ (w1:=?_) (by rfl) rfl ?_ ?_
       rotate_left
       · go_simp
         rfl
       refine hK.out _ _ ?_
       clear hK K
       refine done_ (by kernel_rfl) ?_
       go_wp2
       go_roundg (q - (i + 1))
       case measure => have:=HM.out;have:=HLT.out;omega
       case rel => exact ⟨i + 1,_,rfl,by have:=HLT.out;omega,Nat.le_refl _,⟨H3.out.put1 _⟩,⟨Kept.setCell HK3.out (.inl (.inl (by simp))) _⟩,⟨Kd.R_kept HT3.out (Kept.setCell (Kept.refl _ (fun k => k = w.heap.size + 2)) (.inl rfl) _) (fun k hk => by have:=HB3.out;omega)⟩⟩
     · obtain rfl : i = q:=by omega
       clear hlt
       go_wp2
       go_meet
       case rel => exact ⟨vt,HI,HK,HT⟩
   case rest =>
    obtain ⟨vt,HI4,HK4,HT4⟩ := hcut
    obtain ⟨w4,ew4⟩ : ∃ w4 : World,w4 = wc:=⟨_,rfl⟩
    subst ew4
    clear HI3
    have HN4:=Aside0.mk (Kd.R_kept HN3b.out HK4.out (fun k hk h => by omega))
    clear HN3b
    go_upto_region 13 with fail
    have P3:=Aside0.mk (HI4.out.calls HR0.out 10 (by decide) (by decide) HU.out)
    have hw3 : IntKind.i64.wrap (1 + mPick l0 2 10) = 1 + mPick l0 2 10:=by have:=EC.out;have:=C10.out;rw [IntKind.wrap_i64];omega
    go_cut [10] from 14 (fun s10 wc => s10 = .int .i64 (c : Int) ∧ Aside0 (MadeI w A0 l0.length c0 3 vn vt (.slice none 0 0) wc) ∧ Aside0 (Kept w4 wc (fun k => k < w.heap.size + 4 ∨ w4.heap.size ≤ k)))
    case first =>
     go_wp2_with (first
       | (go_at_fn 21;(with_reducible refine P3.out.mono ?_);rintro e w5 ⟨rfl,HI5,HK5⟩;clear P3))
     go_meet
     case rel => exact ⟨congrArg _ EC.out,HI5,⟨Kept.mono HK5.out (fun k hk => .inl (by omega))⟩⟩
    case rest =>
     obtain ⟨rfl,HI5,HK5⟩ := hcut
     obtain ⟨w5,ew5⟩ : ∃ w5 : World,w5 = wc:=⟨_,rfl⟩
     subst ew5
     clear P3 hw3 HI4
     have HS4 : Aside0 (w.heap.size + 4 ≤ w4.heap.size) := ⟨by have:=HK4.out.1;have:=HB3.out;omega⟩
     go_wp2
     go_loopg [10,11,12] c (fun kq v10 v11 v12 wr => ∃ (i at_ : Nat) (vp : Value) (acc : List S30),v10 = .int .i64 (i : Int) ∧ i ≤ kq ∧ Aside0 (acc.length + i = c) ∧ Aside0 (at_ + 8 * i ≤ 3 + 8 * c) ∧ Aside0 (mProds l0 m q i at_ acc = mProds l0 m q c 3 []) ∧ Aside0 (MadeI w A0 l0.length c0 at_ vn vt vp wr) ∧ Aside0 (Kept w4 wr (fun k => k < w.heap.size + 4 ∨ w4.heap.size ≤ k)) ∧ Aside0 (Kd.S k30 30 wr (w.heap.size + 4) (fun k => w4.heap.size ≤ k) vp acc))
     case atStart => exact ⟨c,3,.slice none 0 0,[],rfl,by omega,⟨by simp⟩,⟨by omega⟩,⟨rfl⟩,HI5,HK5,⟨Kd.S_nil _ _ _ _ _⟩⟩
     case round =>
      clear HI5 HK5
      obtain ⟨i,at_,vp,acc,rfl,hi,HL,HAT,HM,HI,HK,HP⟩ := hrel
      cases i with
      | zero =>
       obtain ⟨An,ln,kn,rfl⟩ : ∃ An ln kn,vn = .slice An ln kn:=by obtain ⟨An,cn,e⟩ := Kd.R_slice HN4.out;exact ⟨An,_,cn,e⟩
       obtain ⟨At,lt,kt,rfl⟩ : ∃ At lt kt,vt = .slice At lt kt:=by obtain ⟨An,cn,e⟩ := Kd.R_slice HT4.out;exact ⟨An,_,cn,e⟩
       obtain ⟨Ap,lp,kp,rfl⟩ : ∃ Ap lp kp,vp = .slice Ap lp kp:=by obtain ⟨An,cn,e⟩ := Kd.S_slice HP.out;exact ⟨An,_,cn,e⟩
       obtain ⟨q0,q1,q2,q3,q4⟩ : wr.cell? ⟨w.heap.size + 2,0,none⟩ = some (.slice An ln kn) ∧ wr.cell? ⟨w.heap.size + 2,1,none⟩ = some (.slice At lt kt) ∧ wr.cell? ⟨w.heap.size + 2,2,none⟩ = some (.int .i64 0) ∧ wr.cell? ⟨w.heap.size + 2,3,none⟩ = some (.int .i64 0) ∧ wr.cell? ⟨w.heap.size + 2,4,none⟩ = some (.slice Ap lp kp) := ⟨(blk_cell HI.out.s 0).trans rfl,(blk_cell HI.out.s 1).trans rfl,(blk_cell HI.out.s 2).trans rfl,(blk_cell HI.out.s 3).trans rfl,(blk_cell HI.out.s 4).trans rfl⟩
       obtain ⟨q5,q6,q7,q8,q9⟩ : wr.cell? ⟨w.heap.size + 1,0,none⟩ = some (.slice none 0 0) ∧ wr.cell? ⟨w.heap.size + 1,1,none⟩ = some (.slice none 0 0) ∧ wr.cell? ⟨w.heap.size + 1,2,none⟩ = some (.int .i64 0) ∧ wr.cell? ⟨w.heap.size + 1,3,none⟩ = some (.int .i64 0) ∧ wr.cell? ⟨w.heap.size + 1,4,none⟩ = some (.slice none 0 0) := ⟨(blk_cell HI.out.r 0).trans rfl,(blk_cell HI.out.r 1).trans rfl,(blk_cell HI.out.r 2).trans rfl,(blk_cell HI.out.r 3).trans rfl,(blk_cell HI.out.r 4).trans rfl⟩
       have f5:=blk_frozen HI.out.r 0
       have f6:=blk_frozen HI.out.r 1
       have f7:=blk_frozen HI.out.r 2
       have f8:=blk_frozen HI.out.r 3
       have f9:=blk_frozen HI.out.r 4
       go_wp2
       refine bodyPost_ret (results_cell_row rfl _ _ (w.heap.size + 1) 26 #[.slice An ln kn,.slice At lt kt,.int .i64 0,.int .i64 0,.slice Ap lp kp] (0,0) _ rfl (by refine blk_put (cs:=#[.slice An ln kn,.slice At lt kt,.int .i64 0,.int .i64 0,.slice none 0 0]) ?_ 4 _ rfl;refine blk_put (cs:=#[.slice An ln kn,.slice At lt kt,.int .i64 0,.int .i64 0,.slice none 0 0]) ?_ 3 _ rfl;refine blk_put (cs:=#[.slice An ln kn,.slice At lt kt,.int .i64 0,.int .i64 0,.slice none 0 0]) ?_ 2 _ rfl;refine blk_put (cs:=#[.slice An ln kn,.slice none 0 0,.int .i64 0,.int .i64 0,.slice none 0 0]) ?_ 1 _ rfl;refine blk_put (cs:=#[.slice none 0 0,.slice none 0 0,.int .i64 0,.int .i64 0,.slice none 0 0]) ?_ 0 _ rfl;exact HI.out.r) Try.underlying26 rfl (by kernel_rfl)) rfl ?_
       have hS34 : w3.heap.size ≤ w4.heap.size:=HK4.out.1
       refine ⟨_,_,_,rfl,?_,?_,?_,?_⟩
       · exact Kd.R_lower (Kd.R_mono (Kd.R_kept (Kd.R_kept HN4.out HK.out (fun k hk h => by have:=HS4.out;omega)) (set5_kept wr _ _ _ _ _ _) (fun k hk h => by omega)) (fun _ _ => trivial)) (by omega)
       · exact Kd.R_lower (Kd.R_mono (Kd.R_kept (Kd.R_kept (Kd.R_mono (ok' := fun k => w3.heap.size ≤ k ∧ k < w4.heap.size) (Kd.R_bound HT4.out) (fun k hk => ⟨hk.1,hk.2.2.1⟩)) HK.out (fun k hk h => by have:=HB3.out;omega)) (set5_kept wr _ _ _ _ _ _) (fun k hk h => by have:=HB3.out;omega)) (fun _ _ => trivial)) (by omega)
       · have hp:=HM.out
         rw [mProds] at hp
         rw [← hp]
         exact Kd.S_lower (Kd.S_mono (Kd.S_kept HP.out (set5_kept wr _ _ _ _ _ _) (fun k hk h => by have:=HS4.out;omega)) (fun _ _ => trivial)) (by omega)
       · exact set5_below HI.out.bel (by omega) _ _ _ _ _
      | succ i =>
       have d0 : decide (((i + 1 : Nat) : Int) > 0) = true:=decide_eq_true (by omega)
       have d0b : (0 < ((i : Int) + 1)) = True:=eq_true (by omega)
       have P6:=Aside0.mk (HI.out.calls HR0.out (m : Int) (by have:=M1.out;omega) (by have:=HAT.out;have:=C10.out;omega) HU.out)
       have hpn:=mPick_lt HU.out (at_ + 1) (n:=4) (by decide)
       obtain ⟨cn,ecn,hcn⟩ : ∃ cn : Nat,mPick l0 (at_ + 1) 4 = (cn : Int) ∧ cn ≤ 3:=⟨(mPick l0 (at_ + 1) 4).toNat,by omega,by omega⟩
       have HATB : Aside0 (at_ + 8 * (i + 1) ≤ 83) := ⟨by have:=HAT.out;have:=C10.out;omega⟩
       have HCN:=Aside0.mk hcn
       have ECN:=Aside0.mk ecn
       clear hpn hcn ecn
       go_wp2_with (first
         | (go_at_fn 21;(with_reducible refine P6.out.mono ?_);rintro e w6 ⟨rfl,HI6,HK6⟩;clear P6;have HI7:=Aside0.mk (HI6.out.below (below_alloc (Below.refl _ w6) (.cells #[.int .i64 (mPick l0 at_ (m : Int)),.slice none 0 0] 30)));have P7:=Aside0.mk (HI7.out.calls HR0.out 4 (by decide) (by have:=HATB.out;omega) HU.out);rw [ECN.out] at P7)
         | (go_at_fn 21;(with_reducible refine P7.out.mono ?_);rintro e w7 ⟨rfl,HI8,HK8⟩;clear P7))
       have HB8:=Aside0.mk (blk_kept (heap_alloc_new w6 (.cells #[.int .i64 (mPick l0 at_ (m : Int)),.slice none 0 0] 30)) HK8.out (fun h => by have:=HI6.out.size;omega))
       have HSZ6 : Aside0 (wr.heap.size ≤ w6.heap.size ∧ w.heap.size + 4 ≤ wr.heap.size ∧ w4.heap.size ≤ wr.heap.size) := ⟨HK6.out.1,HI.out.size,HK.out.1⟩
       have HK9 : Aside0 (Kept wr w7 (fun k => k < w.heap.size + 4 ∨ wr.heap.size ≤ k)) := ⟨Kept.then_ (Kept.alloc (Kept.mono HK6.out (fun k hk => .inl (by omega))) (.cells #[.int .i64 (mPick l0 at_ (m : Int)),.slice none 0 0] 30)) HK8.out (fun k hk => .inl (.inl (by omega)))⟩
       clear HI7 HI6 HK6 HK8
       have HQI:=Aside0.mk hi
       have hwi : IntKind.i64.wrap (((i + 1 : Nat) : Int) - 1) = (i : Int) := by rw [IntKind.wrap_i64];have:=HL.out;have:=C10.out;omega
       clear hi
       obtain ⟨wo,ewo⟩ : ∃ wo : World,wo = wr:=⟨_,rfl⟩
       subst ewo
       go_loopg [12] cn (fun kq v12 wr => ∃ (j a2 : Nat) (vr : Value) (ar : List S53),v12 = .int .i64 (j : Int) ∧ j ≤ kq ∧ Aside0 (ar.length + j = cn) ∧ Aside0 (a2 + 2 * j ≤ at_ + 2 + 2 * cn) ∧ Aside0 (mRight l0 m q j a2 ar = mRight l0 m q cn (at_ + 2) []) ∧ Aside0 (MadeI w A0 l0.length c0 a2 vn vt vp wr) ∧ Aside0 (wr.heap[w6.heap.size]? = some (.cells #[.int .i64 (mPick l0 at_ (m : Int)),vr] 30 (0,0))) ∧ Aside0 (Kept wo wr (fun k => k < w.heap.size + 4 ∨ wo.heap.size ≤ k)) ∧ Aside0 (Kd.R k53 53 wr (w.heap.size + 4) (fun k => w6.heap.size < k) vr ar))
       case atStart => exact ⟨cn,at_ + 2,.slice none 0 0,[],rfl,by omega,⟨by simp⟩,⟨by omega⟩,⟨rfl⟩,HI8,HB8,HK9,⟨Kd.R_nil _ _ _ _ _⟩⟩
       case round =>
        clear HI8 HB8 HK9
        obtain ⟨j,a2,vr,ar,rfl,hj,HJL,HA2,HMR,HI8,HB8,HK9,HR8⟩ := hrel
        cases j with
        | zero =>
         have b0 : wr.cell? ⟨w6.heap.size,0,none⟩ = some (.int .i64 (mPick l0 at_ (m : Int))) := (blk_cell HB8.out 0).trans rfl
         have b1 : wr.cell? ⟨w6.heap.size,1,none⟩ = some vr:=(blk_cell HB8.out 1).trans rfl
         have q4 : wr.cell? ⟨w.heap.size + 2,4,none⟩ = some vp:=(blk_cell HI8.out.s 4).trans rfl
         have HPB:=Aside0.mk (Kd.S_kept (Kd.S_mono (ok' := fun k => w4.heap.size ≤ k ∧ k < wo.heap.size) (Kd.S_bound HP.out) (fun k hk => ⟨hk.1,hk.2.2.1⟩)) HK9.out (fun k hk h => by have:=HS4.out;omega))
         have HKw:=Aside0.mk (Kept.then_ HK.out HK9.out (fun k hk => hk.elim (fun h => .inl (.inl h)) (fun h => .inl (.inr (by have:=HSZ6.out;omega)))))
         have HSi:=Aside0.mk HI8.out.size
         have HSw : Aside0 (w4.heap.size ≤ wr.heap.size) := ⟨HKw.out.1⟩
         have HACC : Aside0 (acc.length ≤ 10) := ⟨by have:=HL.out;have:=C10.out;omega⟩
         go_wp2_with (first
           | ((with_reducible refine gate_builtin (b := .append) (xs:=#[.tmp 89,.tmp 91]) rfl ?_);at_builtin;refine Kd.S_append k30 (w0:=wr) (w.heap.size + 4) rfl (.tmp 89) (.tmp 91) 24 30 (.agg #[.int .i64 0,.slice none 0 0]) 32 rfl Try.underlying24 miProd rfl (by decide) (by omega) vp acc (⟨mPick l0 at_ (m : Int),ar⟩ : S30) [.int .i64 (mPick l0 at_ (m : Int)),vr] (fun k => w4.heap.size ≤ k) (fun k => w6.heap.size < k) rfl rfl (k30_mkM _ _ _ (⟨mPick l0 at_ (m : Int),ar⟩ : S30) HR8.out) (fun k hk => ⟨by have:=HSZ6.out;omega,fun e => by have:=(Kd.S_R HPB.out).1 k e.symm;have:=HSZ6.out;omega⟩) (fun k hk => Nat.le_trans HSw.out hk) (Kd.S_mono HPB.out (fun k hk => ⟨hk.1,by have:=HSZ6.out;omega⟩)) (Below.refl _ _) HSi.out (by have:=HACC.out;omega) ?_;intro v1 w10 ho hb hg hat;obtain ⟨Ap,lp,kp,rfl⟩ : ∃ An ln cn,v1 = .slice An ln cn:=(by obtain ⟨An,cn,e⟩ := Kd.S_slice ho;exact ⟨An,_,cn,e⟩);have HI12:=Aside0.mk (HI8.out.below4 hb);have HK12:=Aside0.mk (Kept.of_grown hg HKw.out (fun k hk => .inl (.inr ((Kd.S_R HPB.out).1 k hk).1)));have HS12:=Aside0.mk ho;have f4:=blk_frozen HI12.out.s 4;have q4' : w10.cell? ⟨w.heap.size + 2,4,none⟩ = some vp:=(blk_cell HI12.out.s 4).trans rfl;clear ho hb hg hat q4 b0 b1))
         go_roundg i
         case measure => have:=HQI.out;omega
         case rel => exact ⟨i,a2,_,acc ++ [⟨mPick l0 at_ (m : Int),ar⟩],congrArg (Value.int .i64) (by unfold wrap64;have:=HACC.out;have:=HL.out;have:=C10.out;omega),Nat.le_refl _,⟨by have:=HL.out;simp;omega⟩,⟨by have:=HAT.out;have:=HA2.out;have:=HCN.out;omega⟩,⟨by have h:=HM.out;rw [mProds,ECN.out,Int.toNat_natCast,← HMR.out,mRight] at h;exact h⟩,⟨HI12.out.put4 _⟩,⟨Kept.setCell HK12.out (.inl (.inl (by simp))) _⟩,⟨Kd.S_kept HS12.out (Kept.setCell (Kept.refl _ (fun k => k = w.heap.size + 2)) (.inl rfl) _) (fun k hk h => by have:=HS4.out;omega)⟩⟩
        | succ j =>
         have d2 : (0 < ((j : Int) + 1)) = True:=eq_true (by omega)
         have P8:=Aside0.mk (HI8.out.calls HR0.out 2 (by decide) (by have:=HATB.out;have:=HA2.out;have:=HCN.out;omega) HU.out)
         have HJ:=Aside0.mk hj
         clear hj
         by_cases hz : mPick l0 a2 2 = 0
         · rw [hz] at P8
           go_wp2_with (first
             | (go_at_fn 21;(with_reducible refine P8.out.mono ?_);rintro e w8 ⟨rfl,HI10,HK10⟩;clear P8))
           have HZ:=Aside0.mk hz
           clear hz
           have HI10d:=Aside0.mk (HI10.out.below (below_drew1 (Below.refl _ w8)))
           have P9:=Aside0.mk (HI10d.out.calls HR0.out (q : Int) (by have:=Q1.out;omega) (by have:=HATB.out;have:=HA2.out;have:=HCN.out;omega) HU.out)
           obtain ⟨x,ex⟩ : ∃ x : Int,x = mPick l0 (a2 + 1) (q : Int) := ⟨_,rfl⟩
           rw [← ex] at P9
           have EX:=Aside0.mk ex
           have HB10:=Aside0.mk (blk_kept HB8.out HK10.out (fun h => by have:=HSZ6.out;omega))
           have HR10:=Aside0.mk (Kd.R_kept HR8.out HK10.out (fun k hk h => by have:=HSZ6.out;omega))
           have HK12:=Aside0.mk (Kept.then_ HK9.out HK10.out (fun k hk => .inl (.inl (by omega))))
           have HARL : Aside0 (ar.length ≤ 3) := ⟨by have:=HJL.out;have:=HCN.out;omega⟩
           clear ex
           refine start_ (n:=10) (S:=fun w' => w'.cell? ⟨w6.heap.size,1,none⟩ = some vr) (ds := [9]) #[F,F,F,F,F,F,F,F,F,F] (by kernel_rfl) rfl rfl ((blk_cell HB10.out 1).trans rfl) (fun hHeld => ?_)
           refine pure_ (i:=0) (N:=some 70) (v:=?_) (a' := ?_) #[T,F,F,F,F,F,F,F,F,F] rfl rfl (by kernel_rfl) (fun _ _ _ h => h) (Or.inl ⟨by rfl,?_⟩) ?_ ?_
           rotate_left;(intro w';go_simp;with_reducible rfl);rotate_left;(simp only [pq];rfl)
           refine pure_ (i:=2) (N:=some 72) (v:=?_) (a' := ?_) #[T,F,T,F,F,F,F,F,F,F] rfl rfl (by kernel_rfl) (fun _ _ _ h => h) (Or.inl ⟨by rfl,?_⟩) ?_ ?_
           rotate_left;(intro w';go_simp;with_reducible rfl);rotate_left;(simp only [pq];rfl)
           refine pure_ (i:=3) (N:=some 73) (v:=?_) (a' := ?_) #[T,F,T,T,F,F,F,F,F,F] rfl rfl (by kernel_rfl) (fun _ _ _ h => h) (Or.inl ⟨by rfl,?_⟩) ?_ ?_
           rotate_left;(intro w';go_simp;with_reducible rfl);rotate_left;(simp only [pq];rfl)
           refine take_ (i:=1) (N:=some 71) (v:=?_) (a' := ?_) #[T,T,T,T,F,F,F,F,F,F] rfl rfl (by kernel_rfl) (fun _ _ _ h => h) (Or.inl ⟨by rfl,?_⟩) hHeld ?_ ?_
           rotate_left
           · intro w' s0
             go_simp
             with_reducible rfl
           rotate_left
           · simp only [pq]
             rfl
           refine one_ (i:=4) (N:=some 74) #[T,T,T,T,T,F,F,F,F,F] rfl rfl (by kernel_rfl) (by decide) (fun K hK => ?_)
           refine call_ 21 #[.int .i64 (q : Int),.pointer (some ⟨w.heap.size + 3,0,none⟩),.pointer (some ⟨w.heap.size,0,none⟩)] (by rfl) rfl (by unfold execOp;simp [resolve,Deferred.ofValue,invoke,Act.eval,eg]) ?_
           with_reducible refine P9.out.mono ?_
           rintro e w9 ⟨rfl,HI11,HK11⟩
           refine ⟨_,rfl,?_⟩
           have HB11:=Aside0.mk (blk_kept (W:=w8.drew) HB10.out HK11.out (fun h => by have:=HSZ6.out;omega))
           have HR11:=Aside0.mk (Kd.R_kept (Kd.R_drew HR10.out) HK11.out (fun k hk h => by have:=HSZ6.out;omega))
           have HK13:=Aside0.mk (Kept.then_ (Kept.drew HK12.out) HK11.out (fun k hk => .inl (.inl (by omega))))
           have HS11:=Aside0.mk HI11.out.size
           have HL11 : Aside0 (w6.heap.size < w9.heap.size) := ⟨blk_lt HB11.out⟩
           refine hK.out _ _ ((blk_cell HB11.out 1).trans rfl) (fun hHeld => ?_)
           clear hK K
           refine norm_ (a' := ?_) ?_ ?_
           rotate_left
           · show Act.put _ (some 74) _ = _
             simp only [pq]
             rfl
           refine pure_ (i:=5) (N:=some 75) (v:=?_) (a' := ?_) #[T,T,T,T,T,T,F,F,F,F] rfl rfl (by kernel_rfl) (fun _ _ _ h => h) (Or.inl ⟨by rfl,?_⟩) ?_ ?_
           rotate_left;(intro w';go_simp;with_reducible rfl);rotate_left;(simp only [pq];rfl)
           refine one_ (i:=6) (N:=some 76) #[T,T,T,T,T,T,T,F,F,F] rfl rfl (by kernel_rfl) (by decide) (fun K hK => ?_)
           refine value_ (w1:=?_) (v:=?_) (by rfl) rfl ?_ ?_
           rotate_left 2
           · go_simp
             constructor
             · rfl
             · rfl
           refine hK.out _ _ ((blk_cell (blk_alloc HB11.out _) 1).trans rfl) (fun hHeld => ?_)
           clear hK K
           refine norm_ (a' := ?_) ?_ ?_
           rotate_left
           · show Act.put _ (some 76) _ = _
             simp only [pq]
             rfl
           refine one_ (i:=7) (N:=some 77) #[T,T,T,T,T,T,T,T,F,F] rfl rfl (by kernel_rfl) (by decide) (fun K hK => ?_)
           refine Kd.R_append_step k53 (w0:=w9) (w.heap.size + 4) (by rfl) (.tmp 71) (.tmp 76) 28 53 (.agg #[.bool false,.int .i64 0]) 16 rfl Try.underlying28 miSym rfl (by decide) (by omega) vr ar (⟨true,x⟩ : S53) [.bool true,.int .i64 x] (fun k => w6.heap.size < k) (fun _ => False) rfl rfl (k53_mkM _ _ _ (⟨true,x⟩ : S53)) (fun _ hk => hk.elim) (fun k hk => Nat.lt_of_lt_of_le HL11.out hk) HR11.out (Below.refl _ _) HS11.out (by have:=HARL.out;omega) ?_
           intro v1 w1 ho hb hg hat
           obtain ⟨An,ln,kn,rfl⟩ : ∃ An ln cn,v1 = .slice An ln cn:=by obtain ⟨An,cn,e⟩ := Kd.R_slice ho;exact ⟨An,_,cn,e⟩
           have HI12:=Aside0.mk (HI11.out.below4 hb)
           have HB12:=Aside0.mk (blk_grown HB11.out hg (fun e => Nat.lt_irrefl _ (HR11.out.1 _ e.symm)))
           have HK14:=Aside0.mk (Kept.of_grown hg HK13.out (fun k hk => .inl (.inr (by have:=HR11.out.1 k hk;have:=HSZ6.out;omega))))
           have HR12:=Aside0.mk ho
           have f3:=blk_frozen HB12.out 1
           clear ho hb hg hat
           refine hK.out _ _ ((blk_cell HB12.out 1).trans rfl) (fun hHeld => ?_)
           clear hK K
           refine norm_ (a' := ?_) ?_ ?_
           rotate_left
           · show Act.put _ (some 77) _ = _
             simp only [pq]
             rfl
           refine pure_ (i:=8) (N:=some 78) (v:=?_) (a' := ?_) #[T,T,T,T,T,T,T,T,T,F] rfl rfl (by kernel_rfl) (fun _ _ _ h => h) (Or.inl ⟨by rfl,?_⟩) ?_ ?_
           rotate_left;(intro w';go_simp;with_reducible rfl);rotate_left;(simp only [pq];rfl)
           refine last_ (i:=9) (N:=none) #[T,T,T,T,T,T,T,T,T,T] rfl rfl (by kernel_rfl) (by decide) (fun K hK => ?_)
           refine skip_ (w1:=?_) (by rfl) rfl ?_ ?_
           rotate_left
           · go_simp
             rfl
           refine hK.out _ _ ?_
           clear hK K
           refine done_ (by kernel_rfl) ?_
           go_wp2
           go_roundg j
           case measure => have:=HJ.out;omega
           case rel => exact ⟨j,a2 + 2,_,ar ++ [⟨true,x⟩],congrArg (Value.int .i64) (by unfold wrap64;have:=HJL.out;have:=HCN.out;omega),Nat.le_refl _,⟨by have:=HJL.out;simp;omega⟩,⟨by have:=HA2.out;omega⟩,⟨by have h:=HMR.out;rw [mRight,if_pos HZ.out,← EX.out] at h;exact h⟩,⟨HI12.out.below4 ((Below.refl _ _).setCell (show w.heap.size + 4 ≤ w6.heap.size by have:=HSZ6.out;omega) _)⟩,⟨blk_put HB12.out 1 _ rfl⟩,⟨Kept.setCell HK14.out (.inl (.inr (show wo.heap.size ≤ w6.heap.size from HSZ6.out.1))) _⟩,⟨Kd.R_kept HR12.out (Kept.setCell (Kept.refl _ (fun k => k = w6.heap.size)) (.inl rfl) _) (fun k hk h => by omega)⟩⟩
         · have hzd : (mPick l0 a2 2 = 0) = False:=eq_false hz
           go_wp2_with (first
             | (go_at_fn 21;(with_reducible refine P8.out.mono ?_);rintro e w8 ⟨rfl,HI10,HK10⟩;clear P8))
           have HZ:=Aside0.mk hz
           clear hz
           have HI10d:=Aside0.mk (HI10.out.below (below_drew1 (Below.refl _ w8)))
           have P9:=Aside0.mk (HI10d.out.calls HR0.out (m : Int) (by have:=M1.out;omega) (by have:=HATB.out;have:=HA2.out;have:=HCN.out;omega) HU.out)
           obtain ⟨x,ex⟩ : ∃ x : Int,x = mPick l0 (a2 + 1) (m : Int) := ⟨_,rfl⟩
           rw [← ex] at P9
           have EX:=Aside0.mk ex
           have HB10:=Aside0.mk (blk_kept HB8.out HK10.out (fun h => by have:=HSZ6.out;omega))
           have HR10:=Aside0.mk (Kd.R_kept HR8.out HK10.out (fun k hk h => by have:=HSZ6.out;omega))
           have HK12:=Aside0.mk (Kept.then_ HK9.out HK10.out (fun k hk => .inl (.inl (by omega))))
           have HARL : Aside0 (ar.length ≤ 3) := ⟨by have:=HJL.out;have:=HCN.out;omega⟩
           clear ex
           refine start_ (n:=10) (S:=fun w' => w'.cell? ⟨w6.heap.size,1,none⟩ = some vr) (ds := [9]) #[F,F,F,F,F,F,F,F,F,F] (by kernel_rfl) rfl rfl ((blk_cell HB10.out 1).trans rfl) (fun hHeld => ?_)
           refine pure_ (i:=0) (N:=some 79) (v:=?_) (a' := ?_) #[T,F,F,F,F,F,F,F,F,F] rfl rfl (by kernel_rfl) (fun _ _ _ h => h) (Or.inl ⟨by rfl,?_⟩) ?_ ?_
           rotate_left;(intro w';go_simp;with_reducible rfl);rotate_left;(simp only [pq];rfl)
           refine pure_ (i:=2) (N:=some 81) (v:=?_) (a' := ?_) #[T,F,T,F,F,F,F,F,F,F] rfl rfl (by kernel_rfl) (fun _ _ _ h => h) (Or.inl ⟨by rfl,?_⟩) ?_ ?_
           rotate_left;(intro w';go_simp;with_reducible rfl);rotate_left;(simp only [pq];rfl)
           refine pure_ (i:=3) (N:=some 82) (v:=?_) (a' := ?_) #[T,F,T,T,F,F,F,F,F,F] rfl rfl (by kernel_rfl) (fun _ _ _ h => h) (Or.inl ⟨by rfl,?_⟩) ?_ ?_
           rotate_left;(intro w';go_simp;with_reducible rfl);rotate_left;(simp only [pq];rfl)
           refine take_ (i:=1) (N:=some 80) (v:=?_) (a' := ?_) #[T,T,T,T,F,F,F,F,F,F] rfl rfl (by kernel_rfl) (fun _ _ _ h => h) (Or.inl ⟨by rfl,?_⟩) hHeld ?_ ?_
           rotate_left
           · intro w' s0
             go_simp
             with_reducible rfl
           rotate_left
           · simp only [pq]
             rfl
           refine one_ (i:=4) (N:=some 83) #[T,T,T,T,T,F,F,F,F,F] rfl rfl (by kernel_rfl) (by decide) (fun K hK => ?_)
           refine call_ 21 #[.int .i64 (m : Int),.pointer (some ⟨w.heap.size + 3,0,none⟩),.pointer (some ⟨w.heap.size,0,none⟩)] (by rfl) rfl (by unfold execOp;simp [resolve,Deferred.ofValue,invoke,Act.eval,eg]) ?_
           with_reducible refine P9.out.mono ?_
           rintro e w9 ⟨rfl,HI11,HK11⟩
           refine ⟨_,rfl,?_⟩
           have HB11:=Aside0.mk (blk_kept (W:=w8.drew) HB10.out HK11.out (fun h => by have:=HSZ6.out;omega))
           have HR11:=Aside0.mk (Kd.R_kept (Kd.R_drew HR10.out) HK11.out (fun k hk h => by have:=HSZ6.out;omega))
           have HK13:=Aside0.mk (Kept.then_ (Kept.drew HK12.out) HK11.out (fun k hk => .inl (.inl (by omega))))
           have HS11:=Aside0.mk HI11.out.size
           have HL11 : Aside0 (w6.heap.size < w9.heap.size) := ⟨blk_lt HB11.out⟩
           refine hK.out _ _ ((blk_cell HB11.out 1).trans rfl) (fun hHeld => ?_)
           clear hK K
           refine norm_ (a' := ?_) ?_ ?_
           rotate_left
           · show Act.put _ (some 83) _ = _
             simp only [pq]
             rfl
           refine pure_ (i:=5) (N:=some 84) (v:=?_) (a' := ?_) #[T,T,T,T,T,T,F,F,F,F] rfl rfl (by kernel_rfl) (fun _ _ _ h => h) (Or.inl ⟨by rfl,?_⟩) ?_ ?_
           rotate_left;(intro w';go_simp;with_reducible rfl);rotate_left;(simp only [pq];rfl)
           refine one_ (i:=6) (N:=some 85) #[T,T,T,T,T,T,T,F,F,F] rfl rfl (by kernel_rfl) (by decide) (fun K hK => ?_)
           refine value_ (w1:=?_) (v:=?_) (by rfl) rfl ?_ ?_
           rotate_left 2
           · go_simp
             constructor
             · rfl
             · rfl
           refine hK.out _ _ ((blk_cell (blk_alloc HB11.out _) 1).trans rfl) (fun hHeld => ?_)
           clear hK K
           refine norm_ (a' := ?_) ?_ ?_
           rotate_left
           · show Act.put _ (some 85) _ = _
             simp only [pq]
             rfl
           refine one_ (i:=7) (N:=some 86) #[T,T,T,T,T,T,T,T,F,F] rfl rfl (by kernel_rfl) (by decide) (fun K hK => ?_)
           refine Kd.R_append_step k53 (w0:=w9) (w.heap.size + 4) (by rfl) (.tmp 80) (.tmp 85) 28 53 (.agg #[.bool false,.int .i64 0]) 16 rfl Try.underlying28 miSym rfl (by decide) (by omega) vr ar (⟨false,x⟩ : S53) [.bool false,.int .i64 x] (fun k => w6.heap.size < k) (fun _ => False) rfl rfl (k53_mkM _ _ _ (⟨false,x⟩ : S53)) (fun _ hk => hk.elim) (fun k hk => Nat.lt_of_lt_of_le HL11.out hk) HR11.out (Below.refl _ _) HS11.out (by have:=HARL.out;omega) ?_
           intro v1 w1 ho hb hg hat
           obtain ⟨An,ln,kn,rfl⟩ : ∃ An ln cn,v1 = .slice An ln cn:=by obtain ⟨An,cn,e⟩ := Kd.R_slice ho;exact ⟨An,_,cn,e⟩
           have HI12:=Aside0.mk (HI11.out.below4 hb)
           have HB12:=Aside0.mk (blk_grown HB11.out hg (fun e => Nat.lt_irrefl _ (HR11.out.1 _ e.symm)))
           have HK14:=Aside0.mk (Kept.of_grown hg HK13.out (fun k hk => .inl (.inr (by have:=HR11.out.1 k hk;have:=HSZ6.out;omega))))
           have HR12:=Aside0.mk ho
           have f3:=blk_frozen HB12.out 1
           clear ho hb hg hat
           refine hK.out _ _ ((blk_cell HB12.out 1).trans rfl) (fun hHeld => ?_)
           clear hK K
           refine norm_ (a' := ?_) ?_ ?_
           rotate_left
           · show Act.put _ (some 86) _ = _
             simp only [pq]
             rfl
           refine pure_ (i:=8) (N:=some 87) (v:=?_) (a' := ?_) #[T,T,T,T,T,T,T,T,T,F] rfl rfl (by kernel_rfl) (fun _ _ _ h => h) (Or.inl ⟨by rfl,?_⟩) ?_ ?_
           rotate_left;(intro w';go_simp;with_reducible rfl);rotate_left;(simp only [pq];rfl)
           refine last_ (i:=9) (N:=none) #[T,T,T,T,T,T,T,T,T,T] rfl rfl (by kernel_rfl) (by decide) (fun K hK => ?_)
           refine skip_ (w1:=?_) (by rfl) rfl ?_ ?_
           rotate_left
           · go_simp
             rfl
           refine hK.out _ _ ?_
           clear hK K
           refine done_ (by kernel_rfl) ?_
           go_wp2
           go_roundg j
           case measure => have:=HJ.out;omega
           case rel => exact ⟨j,a2 + 2,_,ar ++ [⟨false,x⟩],congrArg (Value.int .i64) (by unfold wrap64;have:=HJL.out;have:=HCN.out;omega),Nat.le_refl _,⟨by have:=HJL.out;simp;omega⟩,⟨by have:=HA2.out;omega⟩,⟨by have h:=HMR.out;rw [mRight,if_neg HZ.out,← EX.out] at h;exact h⟩,⟨HI12.out.below4 ((Below.refl _ _).setCell (show w.heap.size + 4 ≤ w6.heap.size by have:=HSZ6.out;omega) _)⟩,⟨blk_put HB12.out 1 _ rfl⟩,⟨Kept.setCell HK14.out (.inl (.inr (show wo.heap.size ≤ w6.heap.size from HSZ6.out.1))) _⟩,⟨Kd.R_kept HR12.out (Kept.setCell (Kept.refl _ (fun k => k = w6.heap.size)) (.inl rfl) _) (fun k hk h => by omega)⟩⟩
theorem diInt : (Try.prog.info? 3).map (fun i => (i.zero,i.size,i.bytes)) = some (some (.int .i64 0),1,8) := by kernel_rfl
theorem kept_step {W w6 w7 : World} {S : Nat → Prop} (h : Kept W w6 S) (hb : Below W.heap.size w6 w7) : Kept W w7 S:=⟨Nat.le_trans h.1 hb.size,fun i hi hn => (hb.block i hi).trans (h.2 i hi hn)⟩
def derObj (A0 : Option Addr) (n0 c0 : Nat) (A1 : Option Addr) (n1 c1 : Nat) (a2 a3 : Int) (A4 : Option Addr) (n4 c4 : Nat) (AL : Option Addr) (nL cL : Nat) (at_ : Nat) : Obj :=
  .cells #[.slice A0 n0 c0,.slice A1 n1 c1,.int .i64 a2,.int .i64 a3,.slice A4 n4 c4,.slice AL nL cL,.int .i64 (at_ : Int)] 42 (0,0)
def DerPost (w0 W : World) (DB : Nat) (O : Nat → Obj) (res : (List Int × Bool) × Nat) (e : Ending) (w' : World) : Prop :=
  ∃ v : Value,e = .returned (.tuple #[v,.bool res.1.2]) ∧ Aside0 (Kd.R (Kd.int .i64) 3 w' W.heap.size (fun _ => True) v res.1.1) ∧ Aside0 (w'.heap[DB]? = some (O res.2)) ∧ Aside0 (Kept W w' (fun k => k = DB)) ∧ Aside0 (Below w0.heap.size w0 w')
set_option maxHeartbeats 4000000 in
set_option maxRecDepth 100000 in
theorem derive_step (ps : List S30) (L : List Int) (w0 : World) (DB : Nat) (A0 : Option Addr) (n0 c0 : Nat) (A1 : Option Addr) (n1 c1 : Nat) (a2 a3 : Int) (A4 : Option Addr) (c4 : Nat) (AL : Option Addr) (cL : Nat) (hDB : w0.heap.size ≤ DB) (hps : Kd.C k30 w0 A4 ps.length ps) (hL : Kd.C (Kd.int .u8) w0 AL L.length L) (hu : ∀ x ∈ L,0 ≤ x ∧ x ≤ 255) (hr : ∀ p ∈ ps,p.f1.length ≤ 10) (hps2 : ps.length ≤ 1000000)
    (rule : Int) (deep at_ : Nat) (W : World) (hdeep : deep ≤ 100) (hB : Below w0.heap.size w0 W) (hblk : W.heap[DB]? = some (derObj A0 n0 c0 A1 n1 c1 a2 a3 A4 ps.length c4 AL L.length cL at_)) (nxt : Int → Nat → (List Int × Bool) × Nat) (B : Nat) (res : (List Int × Bool) × Nat) (hlim : at_ + 1 + 10 * B ≤ 1125899906842624) (hn : ∀ r a,(nxt r a).2 ≤ a + B ∧ (nxt r a).1.1.length ≤ 70)
    (hres : res = if (dAll ps rule ps.length).length = 0 ∨ 10 < deep then (([],false),at_) else drvL nxt (rd_T30 ps ((dAll ps rule ps.length).getD (dK L at_ (dAll ps rule ps.length).length).toNat 0)).f1 [] (at_ + 1))
    (hrec : ¬ ((dAll ps rule ps.length).length = 0 ∨ 10 < deep) → ∀ (r : Int) (a : Nat) (W' : World),a + B ≤ 1125899906842624 → Below w0.heap.size w0 W' → W'.heap[DB]? = some (derObj A0 n0 c0 A1 n1 c1 a2 a3 A4 ps.length c4 AL L.length cL a) →
      Calls Try.prog 14 #[.pointer (some ⟨DB,0,none⟩),.int .i64 r,.int .i64 ((deep : Int) + 1)] W' (DerPost w0 W' DB (derObj A0 n0 c0 A1 n1 c1 a2 a3 A4 ps.length c4 AL L.length cL) (nxt r a))) :
    Calls Try.prog 14 #[.pointer (some ⟨DB,0,none⟩),.int .i64 rule,.int .i64 (deep : Int)] W (DerPost w0 W DB (derObj A0 n0 c0 A1 n1 c1 a2 a3 A4 ps.length c4 AL L.length cL) res) := by
 have HDB:=Aside0.mk hDB
 have HPS:=Aside0.mk hps
 have HL:=Aside0.mk hL
 have HU:=Aside0.mk hu
 have HR:=Aside0.mk hr
 have HP2:=Aside0.mk hps2
 have HDEEP:=Aside0.mk hdeep
 have HB:=Aside0.mk hB
 have HBLK:=Aside0.mk hblk
 have HLIM:=Aside0.mk hlim
 have HN:=Aside0.mk hn
 have HRES:=Aside0.mk hres
 have HREC:=Aside0.mk hrec
 have HDBW : Aside0 (DB < W.heap.size) := ⟨blk_lt hblk⟩
 clear hDB hps hL hu hr hps2 hdeep hB hblk hlim hn hres hrec
 go_enter Try.func14,Try.ntmps14
 go_upto_region 2 with fail
 iterate 7 (first | go_values | go_skip | go_guarded | go_step | go_upon | go_back | (simp only [Int.not_lt,Int.not_le] at *;go_simp))
 go_cut [8,9] from 16 (fun s8 s9 wc => Aside0 (Below W.heap.size W wc) ∧ Aside0 (Kd.R (Kd.int .i64) 3 wc W.heap.size (fun _ => True) s8 (dAll ps rule ps.length)))
 case first =>
  go_wp2
  go_loopg [8,9] ps.length (fun kq v8 v9 wr => ∃ i : Nat,v9 = .int .i64 (i : Int) ∧ i ≤ ps.length ∧ ps.length - i ≤ kq ∧ Aside0 (Below W.heap.size W wr) ∧ Aside0 (Kd.R (Kd.int .i64) 3 wr W.heap.size (fun _ => True) v8 (dAll ps rule i)))
  case atStart => exact ⟨0,rfl,by omega,by omega,⟨Below.refl _ _⟩,⟨Kd.R_nil _ _ _ _ _⟩⟩
  case round =>
   obtain ⟨i,rfl,hi,hm,HBW,HA⟩ := hrel
   have HBK:=Aside0.mk ((HBW.out.block _ HDBW.out).trans HBLK.out)
   have q4 : wr.cell? ⟨DB,4,none⟩ = some (.slice A4 ps.length c4) := (blk_cell HBK.out 4).trans rfl
   by_cases hlt : i < ps.length
   · have d0 : decide (i < ps.length) = true:=decide_eq_true hlt
     have d1 : (i < ps.length) = True:=eq_true hlt
     obtain ⟨ad,A5,c5,ead,e0,e1,_,_⟩ := at_T30 (Kd.C_below HPS.out (HB.out.trans (HBW.out.mono HB.out.size))) (i : Int) (by omega) (by omega)
     rw [Int.toNat_natCast] at e0 e1
     have p0 : (0 ≤ (i : Int)) = True:=eq_true (by omega)
     have p1 : ((i : Int) < (ps.length : Int)) = True:=eq_true (by omega)
     have hwr : IntKind.i64.wrap ((i : Int) + 1) = (i : Int) + 1:=by rw [IntKind.wrap_i64];have:=HP2.out;omega
     have HLT:=Aside0.mk hlt
     have HM:=Aside0.mk hm
     cases ead
     clear hlt hm hi e1
     by_cases hru : (rd_T30 ps (i : Int)).f0 = rule
     · rw [hru] at e0
       have HRU:=Aside0.mk hru
       have HSZ : Aside0 (W.heap.size ≤ wr.heap.size) := ⟨HBW.out.size⟩
       have HAL:=Aside0.mk (dAll_length ps rule i)
       clear hru
       go_wp2_with (first | ((with_reducible refine gate_builtin (b := .append) (xs:=#[.tmp 37,.tmp 39]) rfl ?_);at_builtin;refine Kd.R_append (Kd.int .i64) (w0:=wr) W.heap.size rfl (.tmp 37) (.tmp 39) 43 3 (.int .i64 0) 8 rfl Try.underlying43 diInt rfl (by decide) (by omega) u8 (dAll ps rule i) (i : Int) [.int .i64 (i : Int)] (fun _ => True) (fun _ => False) rfl rfl rfl (fun _ hk => hk.elim) (fun _ _ => trivial) HA.out (Below.refl _ _) HSZ.out (by have:=HAL.out;have:=HP2.out;have:=HLT.out;omega) ?_;intro v1 w2 ho hb hg hat;have HA2:=Aside0.mk ho;have HB2 : Aside0 (Below W.heap.size W w2) := ⟨HBW.out.trans hb⟩;clear ho hb hg hat))
       go_roundg (ps.length - (i + 1))
       case measure => have:=HM.out;have:=HLT.out;omega
       case rel => exact ⟨i + 1,rfl,by have:=HLT.out;omega,Nat.le_refl _,HB2,⟨by rw [dAll_yes HRU.out];exact HA2.out⟩⟩
     · obtain ⟨x,ex⟩ : ∃ x,x = (rd_T30 ps (i : Int)).f0:=⟨_,rfl⟩
       rw [← ex] at e0 hru
       have EX:=Aside0.mk ex
       have HRU:=Aside0.mk hru
       have d2 : decide (x = rule) = false:=decide_eq_false hru
       have d3 : (x = rule) = False:=eq_false hru
       have d4 : (x == rule) = false:=by simp [hru]
       clear ex hru
       go_wp2
       go_roundg (ps.length - (i + 1))
       case measure => have:=HM.out;have:=HLT.out;omega
       case rel => exact ⟨i + 1,rfl,by have:=HLT.out;omega,Nat.le_refl _,HBW,⟨by rw [dAll_no (by rw [← EX.out];exact HRU.out)];exact HA.out⟩⟩
   · obtain rfl : i = ps.length:=by omega
     clear hlt
     go_wp2
     go_meet
     case rel => exact ⟨HBW,HA⟩
 case rest =>
  obtain ⟨HBW,HA⟩ := hcut
  obtain ⟨w1,ew1⟩ : ∃ w1 : World,w1 = wc:=⟨_,rfl⟩
  subst ew1
  have HBK:=Aside0.mk ((HBW.out.block _ HDBW.out).trans HBLK.out)
  have HB1 : Aside0 (Below w0.heap.size w0 w1) := ⟨HB.out.trans (HBW.out.mono HB.out.size)⟩
  have HMEM : Aside0 (∀ x ∈ dAll ps rule ps.length,0 ≤ x ∧ x < (ps.length : Int)) := ⟨fun x hx => ⟨(dAll_mem hx).1,(dAll_mem hx).2.1⟩⟩
  have HALN:=Aside0.mk (dAll_length ps rule ps.length)
  generalize dAll ps rule ps.length = all at HA HRES HREC HMEM HALN
  obtain ⟨A8,n,c8,rfl⟩ : ∃ A n c,u8 = .slice A n c:=by obtain ⟨A,c,e⟩ := Kd.R_slice HA.out;exact ⟨A,_,c,e⟩
  have hnl:=(Kd.R_reads' HA.out).1
  subst hnl
  have HALL : ∃ n : Nat,n = all.length:=⟨_,rfl⟩
  obtain ⟨n,en⟩ := HALL
  have hdwr : IntKind.i64.wrap ((n : Int) - 1) = (n : Int) - 1:=by rw [IntKind.wrap_i64];have:=HALN.out;have:=HP2.out;omega
  rw [← en] at HA HRES HREC ⊢
  have EN:=Aside0.mk en
  clear en
  by_cases hz : n = 0
  · subst hz
    have hres : res = (([],false),at_) := by rw [HRES.out,if_pos (.inl rfl)]
    subst hres
    go_wp2
    go_ret2
    exact ⟨_,rfl,⟨Kd.R_nil _ _ _ _ _⟩,HBK,⟨Kept.of_below HBW.out _⟩,HB1⟩
  · have z1 : (n = 0) = False:=eq_false hz
    have z2 : decide (n = 0) = false:=decide_eq_false hz
    have z3 : ((n : Int) == 0) = false:=by simp [hz]
    by_cases hd : 10 < deep
    · have hres : res = (([],false),at_) := by rw [HRES.out,if_pos (.inr hd)]
      subst hres
      have y1 : (10 < deep) = True:=eq_true hd
      have y2 : decide ((deep : Int) > 10) = true:=decide_eq_true (by omega)
      have y3 : ((10 : Int) < (deep : Int)) = True:=eq_true (by omega)
      go_wp2
      go_ret2
      exact ⟨_,rfl,⟨Kd.R_nil _ _ _ _ _⟩,HBK,⟨Kept.of_below HBW.out _⟩,HB1⟩
    · have y1 : (10 < deep) = False:=eq_false hd
      have y2 : decide ((deep : Int) > 10) = false:=decide_eq_false (by omega)
      have y3 : ((10 : Int) < (deep : Int)) = False:=eq_false (by omega)
      have hnot : ¬ (n = 0 ∨ 10 < deep) := fun h => h.elim hz hd
      have HRES2 : Aside0 (res = drvL nxt (rd_T30 ps (all.getD (dK L at_ n).toNat 0)).f1 [] (at_ + 1)) := ⟨by rw [HRES.out,if_neg hnot]⟩
      have HREC2:=Aside0.mk (HREC.out hnot)
      have HN0 : Aside0 (0 < n) := ⟨Nat.pos_of_ne_zero hz⟩
      clear HREC HRES hnot hz hd
      go_upto_region 10 with fail
      go_cut [67] from 16 (fun s67 wc => s67 = .bool (decide (at_ < L.length ∧ at_ < 60)) ∧ Aside0 (Below w1.heap.size w1 wc))
      case first =>
       have q5 : Aside0 (w1.cell? ⟨DB,5,none⟩ = some (.slice AL L.length cL)) := ⟨(blk_cell HBK.out 5).trans rfl⟩
       have q6 : Aside0 (w1.cell? ⟨DB,6,none⟩ = some (.int .i64 (at_ : Int))) := ⟨(blk_cell HBK.out 6).trans rfl⟩
       by_cases h1 : at_ < L.length
       · have x1 : decide ((at_ : Int) < (L.length : Int)) = true:=decide_eq_true (by omega)
         have x2 : decide (at_ < L.length) = true:=decide_eq_true h1
         by_cases h2 : at_ < 60
         · have x3 : decide ((at_ : Int) < 60) = true:=decide_eq_true (by omega)
           have x4 : decide (at_ < 60) = true:=decide_eq_true h2
           have x5 : decide (at_ < L.length ∧ at_ < 60) = true:=decide_eq_true ⟨h1,h2⟩
           refine start_ (n:=17) (S:=fun w' => w'.cell? ⟨DB,6,none⟩ = some (.int .i64 (at_ : Int)) ∧ w'.cell? ⟨DB,5,none⟩ = some (.slice AL L.length cL)) (ds := []) #[F,F,F,F,F,F,F,F,F,F,F,F,F,F,F,F,F] (by kernel_rfl) rfl rfl ⟨q6.out,q5.out⟩ (fun hHeld => ?_)
           refine pure_ (i:=0) (N:=some 51) (v:=?_) (a' := ?_) #[T,F,F,F,F,F,F,F,F,F,F,F,F,F,F,F,F] rfl rfl (by kernel_rfl) (fun _ _ _ h => h) (Or.inl ⟨by rfl,?_⟩) ?_ ?_
           rotate_left;(intro w';go_simp;with_reducible rfl);rotate_left;(simp only [pq];rfl)
           refine pure_ (i:=1) (N:=some 52) (v:=?_) (a' := ?_) #[T,T,F,F,F,F,F,F,F,F,F,F,F,F,F,F,F] rfl rfl (by kernel_rfl) (fun _ _ _ h => h) (Or.inl ⟨by rfl,?_⟩) ?_ ?_
           rotate_left;(intro w';go_simp;with_reducible rfl);rotate_left;(simp only [pq];rfl)
           refine pure_ (i:=2) (N:=some 53) (v:=?_) (a' := ?_) #[T,T,T,F,F,F,F,F,F,F,F,F,F,F,F,F,F] rfl rfl (by kernel_rfl) (fun _ _ _ h => h) (Or.inl ⟨by rfl,?_⟩) ?_ ?_
           rotate_left;(intro w';go_simp;with_reducible rfl);rotate_left;(simp only [pq];rfl)
           refine pure_ (i:=4) (N:=some 55) (v:=?_) (a' := ?_) #[T,T,T,F,T,F,F,F,F,F,F,F,F,F,F,F,F] rfl rfl (by kernel_rfl) (fun _ _ _ h => h) (Or.inl ⟨by rfl,?_⟩) ?_ ?_
           rotate_left;(intro w';go_simp;with_reducible rfl);rotate_left;(simp only [pq];rfl)
           refine pure_ (i:=5) (N:=some 56) (v:=?_) (a' := ?_) #[T,T,T,F,T,T,F,F,F,F,F,F,F,F,F,F,F] rfl rfl (by kernel_rfl) (fun _ _ _ h => h) (Or.inl ⟨by rfl,?_⟩) ?_ ?_
           rotate_left;(intro w';go_simp;with_reducible rfl);rotate_left;(simp only [pq];rfl)
           refine pure_ (i:=6) (N:=some 57) (v:=?_) (a' := ?_) #[T,T,T,F,T,T,T,F,F,F,F,F,F,F,F,F,F] rfl rfl (by kernel_rfl) (fun _ _ _ h => h) (Or.inl ⟨by rfl,?_⟩) ?_ ?_
           rotate_left;(intro w';go_simp;with_reducible rfl);rotate_left;(simp only [pq];rfl)
           refine take_ (i:=3) (N:=some 54) (v:=?_) (a' := ?_) #[T,T,T,T,T,T,T,F,F,F,F,F,F,F,F,F,F] rfl rfl (by kernel_rfl) (fun _ _ _ h => h) (Or.inl ⟨by rfl,?_⟩) hHeld ?_ ?_
           rotate_left
           · rintro w' ⟨s0,s1⟩
             go_simp
             with_reducible rfl
           rotate_left
           · simp only [pq]
             rfl
           refine take_ (i:=7) (N:=some 58) (v:=?_) (a' := ?_) #[T,T,T,T,T,T,T,T,F,F,F,F,F,F,F,F,F] rfl rfl (by kernel_rfl) (fun _ _ _ h => h) (Or.inl ⟨by rfl,?_⟩) hHeld ?_ ?_
           rotate_left
           · rintro w' ⟨s0,s1⟩
             go_simp
             with_reducible rfl
           rotate_left
           · simp only [pq]
             rfl
           refine pure_ (i:=8) (N:=some 59) (v:=?_) (a' := ?_) #[T,T,T,T,T,T,T,T,T,F,F,F,F,F,F,F,F] rfl rfl (by kernel_rfl) (fun _ _ _ h => h) (Or.inl ⟨by rfl,?_⟩) ?_ ?_
           rotate_left;(intro w';go_simp;with_reducible rfl);rotate_left;(simp only [pq];rfl)
           refine pure_ (i:=9) (N:=some 60) (v:=?_) (a' := ?_) #[T,T,T,T,T,T,T,T,T,T,F,F,F,F,F,F,F] rfl rfl (by kernel_rfl) (fun _ _ _ h => h) (Or.inl ⟨by rfl,?_⟩) ?_ ?_
           rotate_left;(intro w';go_simp;with_reducible rfl);rotate_left;(simp only [pq];rfl)
           refine pure_ (i:=10) (N:=some 61) (v:=?_) (a' := ?_) #[T,T,T,T,T,T,T,T,T,T,T,F,F,F,F,F,F] rfl rfl (by kernel_rfl) (fun _ _ _ h => h) (Or.inl ⟨by rfl,?_⟩) ?_ ?_
           rotate_left;(intro w';go_simp;with_reducible rfl);rotate_left;(simp only [pq];rfl)
           refine pure_ (i:=11) (N:=some 62) (v:=?_) (a' := ?_) #[T,T,T,T,T,T,T,T,T,T,T,T,F,F,F,F,F] rfl rfl (by kernel_rfl) (fun _ _ _ h => h) (Or.inl ⟨by rfl,?_⟩) ?_ ?_
           rotate_left;(intro w';go_simp;with_reducible rfl);rotate_left;(simp only [pq];rfl)
           refine pure_ (i:=12) (N:=some 63) (v:=?_) (a' := ?_) #[T,T,T,T,T,T,T,T,T,T,T,T,T,F,F,F,F] rfl rfl (by kernel_rfl) (fun _ _ _ h => h) (Or.inl ⟨by rfl,?_⟩) ?_ ?_
           rotate_left;(intro w';go_simp;with_reducible rfl);rotate_left;(simp only [pq];rfl)
           refine pure_ (i:=13) (N:=some 64) (v:=?_) (a' := ?_) #[T,T,T,T,T,T,T,T,T,T,T,T,T,T,F,F,F] rfl rfl (by kernel_rfl) (fun _ _ _ h => h) (Or.inl ⟨by rfl,?_⟩) ?_ ?_
           rotate_left;(intro w';go_simp;with_reducible rfl);rotate_left;(simp only [pq];rfl)
           refine take_ (i:=14) (N:=some 65) (v:=?_) (a' := ?_) #[T,T,T,T,T,T,T,T,T,T,T,T,T,T,T,F,F] rfl rfl (by kernel_rfl) (fun _ _ _ h => h) (Or.inl ⟨by rfl,?_⟩) hHeld ?_ ?_
           rotate_left
           · rintro w' ⟨s0,s1⟩
             go_simp
             with_reducible rfl
           rotate_left
           · simp only [pq]
             rfl
           refine pure_ (i:=15) (N:=some 66) (v:=?_) (a' := ?_) #[T,T,T,T,T,T,T,T,T,T,T,T,T,T,T,T,F] rfl rfl (by kernel_rfl) (fun _ _ _ h => h) (Or.inl ⟨by rfl,?_⟩) ?_ ?_
           rotate_left;(intro w';go_simp;with_reducible rfl);rotate_left;(simp only [pq];rfl)
           refine pure_ (i:=16) (N:=some 67) (v:=?_) (a' := ?_) #[T,T,T,T,T,T,T,T,T,T,T,T,T,T,T,T,T] rfl rfl (by kernel_rfl) (fun _ _ _ h => h) (Or.inl ⟨by rfl,?_⟩) ?_ ?_
           rotate_left;(intro w';go_simp;with_reducible rfl);rotate_left;(simp only [pq];rfl)
           refine done_ (by kernel_rfl) ?_
           go_wp2_with fail
           go_meet
           case rel => exact ⟨congrArg Value.bool x5.symm,⟨below_drew1 (Below.refl _ _)⟩⟩
         · have x3 : decide ((at_ : Int) < 60) = false:=decide_eq_false (by omega)
           have x4 : decide (at_ < 60) = false:=decide_eq_false h2
           have x5 : decide (at_ < L.length ∧ at_ < 60) = false:=decide_eq_false (fun h => h2 h.2)
           refine start_ (n:=17) (S:=fun w' => w'.cell? ⟨DB,6,none⟩ = some (.int .i64 (at_ : Int)) ∧ w'.cell? ⟨DB,5,none⟩ = some (.slice AL L.length cL)) (ds := []) #[F,F,F,F,F,F,F,F,F,F,F,F,F,F,F,F,F] (by kernel_rfl) rfl rfl ⟨q6.out,q5.out⟩ (fun hHeld => ?_)
           refine pure_ (i:=0) (N:=some 51) (v:=?_) (a' := ?_) #[T,F,F,F,F,F,F,F,F,F,F,F,F,F,F,F,F] rfl rfl (by kernel_rfl) (fun _ _ _ h => h) (Or.inl ⟨by rfl,?_⟩) ?_ ?_
           rotate_left;(intro w';go_simp;with_reducible rfl);rotate_left;(simp only [pq];rfl)
           refine pure_ (i:=1) (N:=some 52) (v:=?_) (a' := ?_) #[T,T,F,F,F,F,F,F,F,F,F,F,F,F,F,F,F] rfl rfl (by kernel_rfl) (fun _ _ _ h => h) (Or.inl ⟨by rfl,?_⟩) ?_ ?_
           rotate_left;(intro w';go_simp;with_reducible rfl);rotate_left;(simp only [pq];rfl)
           refine pure_ (i:=2) (N:=some 53) (v:=?_) (a' := ?_) #[T,T,T,F,F,F,F,F,F,F,F,F,F,F,F,F,F] rfl rfl (by kernel_rfl) (fun _ _ _ h => h) (Or.inl ⟨by rfl,?_⟩) ?_ ?_
           rotate_left;(intro w';go_simp;with_reducible rfl);rotate_left;(simp only [pq];rfl)
           refine pure_ (i:=4) (N:=some 55) (v:=?_) (a' := ?_) #[T,T,T,F,T,F,F,F,F,F,F,F,F,F,F,F,F] rfl rfl (by kernel_rfl) (fun _ _ _ h => h) (Or.inl ⟨by rfl,?_⟩) ?_ ?_
           rotate_left;(intro w';go_simp;with_reducible rfl);rotate_left;(simp only [pq];rfl)
           refine pure_ (i:=5) (N:=some 56) (v:=?_) (a' := ?_) #[T,T,T,F,T,T,F,F,F,F,F,F,F,F,F,F,F] rfl rfl (by kernel_rfl) (fun _ _ _ h => h) (Or.inl ⟨by rfl,?_⟩) ?_ ?_
           rotate_left;(intro w';go_simp;with_reducible rfl);rotate_left;(simp only [pq];rfl)
           refine pure_ (i:=6) (N:=some 57) (v:=?_) (a' := ?_) #[T,T,T,F,T,T,T,F,F,F,F,F,F,F,F,F,F] rfl rfl (by kernel_rfl) (fun _ _ _ h => h) (Or.inl ⟨by rfl,?_⟩) ?_ ?_
           rotate_left;(intro w';go_simp;with_reducible rfl);rotate_left;(simp only [pq];rfl)
           refine take_ (i:=3) (N:=some 54) (v:=?_) (a' := ?_) #[T,T,T,T,T,T,T,F,F,F,F,F,F,F,F,F,F] rfl rfl (by kernel_rfl) (fun _ _ _ h => h) (Or.inl ⟨by rfl,?_⟩) hHeld ?_ ?_
           rotate_left
           · rintro w' ⟨s0,s1⟩
             go_simp
             with_reducible rfl
           rotate_left
           · simp only [pq]
             rfl
           refine take_ (i:=7) (N:=some 58) (v:=?_) (a' := ?_) #[T,T,T,T,T,T,T,T,F,F,F,F,F,F,F,F,F] rfl rfl (by kernel_rfl) (fun _ _ _ h => h) (Or.inl ⟨by rfl,?_⟩) hHeld ?_ ?_
           rotate_left
           · rintro w' ⟨s0,s1⟩
             go_simp
             with_reducible rfl
           rotate_left
           · simp only [pq]
             rfl
           refine pure_ (i:=8) (N:=some 59) (v:=?_) (a' := ?_) #[T,T,T,T,T,T,T,T,T,F,F,F,F,F,F,F,F] rfl rfl (by kernel_rfl) (fun _ _ _ h => h) (Or.inl ⟨by rfl,?_⟩) ?_ ?_
           rotate_left;(intro w';go_simp;with_reducible rfl);rotate_left;(simp only [pq];rfl)
           refine pure_ (i:=9) (N:=some 60) (v:=?_) (a' := ?_) #[T,T,T,T,T,T,T,T,T,T,F,F,F,F,F,F,F] rfl rfl (by kernel_rfl) (fun _ _ _ h => h) (Or.inl ⟨by rfl,?_⟩) ?_ ?_
           rotate_left;(intro w';go_simp;with_reducible rfl);rotate_left;(simp only [pq];rfl)
           refine pure_ (i:=10) (N:=some 61) (v:=?_) (a' := ?_) #[T,T,T,T,T,T,T,T,T,T,T,F,F,F,F,F,F] rfl rfl (by kernel_rfl) (fun _ _ _ h => h) (Or.inl ⟨by rfl,?_⟩) ?_ ?_
           rotate_left;(intro w';go_simp;with_reducible rfl);rotate_left;(simp only [pq];rfl)
           refine pure_ (i:=11) (N:=some 62) (v:=?_) (a' := ?_) #[T,T,T,T,T,T,T,T,T,T,T,T,F,F,F,F,F] rfl rfl (by kernel_rfl) (fun _ _ _ h => h) (Or.inl ⟨by rfl,?_⟩) ?_ ?_
           rotate_left;(intro w';go_simp;with_reducible rfl);rotate_left;(simp only [pq];rfl)
           refine pure_ (i:=12) (N:=some 63) (v:=?_) (a' := ?_) #[T,T,T,T,T,T,T,T,T,T,T,T,T,F,F,F,F] rfl rfl (by kernel_rfl) (fun _ _ _ h => h) (Or.inl ⟨by rfl,?_⟩) ?_ ?_
           rotate_left;(intro w';go_simp;with_reducible rfl);rotate_left;(simp only [pq];rfl)
           refine pure_ (i:=13) (N:=some 64) (v:=?_) (a' := ?_) #[T,T,T,T,T,T,T,T,T,T,T,T,T,T,F,F,F] rfl rfl (by kernel_rfl) (fun _ _ _ h => h) (Or.inl ⟨by rfl,?_⟩) ?_ ?_
           rotate_left;(intro w';go_simp;with_reducible rfl);rotate_left;(simp only [pq];rfl)
           refine take_ (i:=14) (N:=some 65) (v:=?_) (a' := ?_) #[T,T,T,T,T,T,T,T,T,T,T,T,T,T,T,F,F] rfl rfl (by kernel_rfl) (fun _ _ _ h => h) (Or.inl ⟨by rfl,?_⟩) hHeld ?_ ?_
           rotate_left
           · rintro w' ⟨s0,s1⟩
             go_simp
             with_reducible rfl
           rotate_left
           · simp only [pq]
             rfl
           refine pure_ (i:=15) (N:=some 66) (v:=?_) (a' := ?_) #[T,T,T,T,T,T,T,T,T,T,T,T,T,T,T,T,F] rfl rfl (by kernel_rfl) (fun _ _ _ h => h) (Or.inl ⟨by rfl,?_⟩) ?_ ?_
           rotate_left;(intro w';go_simp;with_reducible rfl);rotate_left;(simp only [pq];rfl)
           refine pure_ (i:=16) (N:=some 67) (v:=?_) (a' := ?_) #[T,T,T,T,T,T,T,T,T,T,T,T,T,T,T,T,T] rfl rfl (by kernel_rfl) (fun _ _ _ h => h) (Or.inl ⟨by rfl,?_⟩) ?_ ?_
           rotate_left;(intro w';go_simp;with_reducible rfl);rotate_left;(simp only [pq];rfl)
           refine done_ (by kernel_rfl) ?_
           go_wp2_with fail
           go_meet
           case rel => exact ⟨congrArg Value.bool x5.symm,⟨below_drew1 (Below.refl _ _)⟩⟩
       · have x1 : decide ((at_ : Int) < (L.length : Int)) = false:=decide_eq_false (by omega)
         have x2 : decide (at_ < L.length) = false:=decide_eq_false h1
         have x5 : decide (at_ < L.length ∧ at_ < 60) = false:=decide_eq_false (fun h => h1 h.1)
         refine start_ (n:=17) (S:=fun w' => w'.cell? ⟨DB,6,none⟩ = some (.int .i64 (at_ : Int)) ∧ w'.cell? ⟨DB,5,none⟩ = some (.slice AL L.length cL)) (ds := []) #[F,F,F,F,F,F,F,F,F,F,F,F,F,F,F,F,F] (by kernel_rfl) rfl rfl ⟨q6.out,q5.out⟩ (fun hHeld => ?_)
         refine pure_ (i:=0) (N:=some 51) (v:=?_) (a' := ?_) #[T,F,F,F,F,F,F,F,F,F,F,F,F,F,F,F,F] rfl rfl (by kernel_rfl) (fun _ _ _ h => h) (Or.inl ⟨by rfl,?_⟩) ?_ ?_
         rotate_left;(intro w';go_simp;with_reducible rfl);rotate_left;(simp only [pq];rfl)
         refine pure_ (i:=1) (N:=some 52) (v:=?_) (a' := ?_) #[T,T,F,F,F,F,F,F,F,F,F,F,F,F,F,F,F] rfl rfl (by kernel_rfl) (fun _ _ _ h => h) (Or.inl ⟨by rfl,?_⟩) ?_ ?_
         rotate_left;(intro w';go_simp;with_reducible rfl);rotate_left;(simp only [pq];rfl)
         refine pure_ (i:=2) (N:=some 53) (v:=?_) (a' := ?_) #[T,T,T,F,F,F,F,F,F,F,F,F,F,F,F,F,F] rfl rfl (by kernel_rfl) (fun _ _ _ h => h) (Or.inl ⟨by rfl,?_⟩) ?_ ?_
         rotate_left;(intro w';go_simp;with_reducible rfl);rotate_left;(simp only [pq];rfl)
         refine pure_ (i:=4) (N:=some 55) (v:=?_) (a' := ?_) #[T,T,T,F,T,F,F,F,F,F,F,F,F,F,F,F,F] rfl rfl (by kernel_rfl) (fun _ _ _ h => h) (Or.inl ⟨by rfl,?_⟩) ?_ ?_
         rotate_left;(intro w';go_simp;with_reducible rfl);rotate_left;(simp only [pq];rfl)
         refine pure_ (i:=5) (N:=some 56) (v:=?_) (a' := ?_) #[T,T,T,F,T,T,F,F,F,F,F,F,F,F,F,F,F] rfl rfl (by kernel_rfl) (fun _ _ _ h => h) (Or.inl ⟨by rfl,?_⟩) ?_ ?_
         rotate_left;(intro w';go_simp;with_reducible rfl);rotate_left;(simp only [pq];rfl)
         refine pure_ (i:=6) (N:=some 57) (v:=?_) (a' := ?_) #[T,T,T,F,T,T,T,F,F,F,F,F,F,F,F,F,F] rfl rfl (by kernel_rfl) (fun _ _ _ h => h) (Or.inl ⟨by rfl,?_⟩) ?_ ?_
         rotate_left;(intro w';go_simp;with_reducible rfl);rotate_left;(simp only [pq];rfl)
         refine take_ (i:=3) (N:=some 54) (v:=?_) (a' := ?_) #[T,T,T,T,T,T,T,F,F,F,F,F,F,F,F,F,F] rfl rfl (by kernel_rfl) (fun _ _ _ h => h) (Or.inl ⟨by rfl,?_⟩) hHeld ?_ ?_
         rotate_left
         · rintro w' ⟨s0,s1⟩
           go_simp
           with_reducible rfl
         rotate_left
         · simp only [pq]
           rfl
         refine take_ (i:=7) (N:=some 58) (v:=?_) (a' := ?_) #[T,T,T,T,T,T,T,T,F,F,F,F,F,F,F,F,F] rfl rfl (by kernel_rfl) (fun _ _ _ h => h) (Or.inl ⟨by rfl,?_⟩) hHeld ?_ ?_
         rotate_left
         · rintro w' ⟨s0,s1⟩
           go_simp
           with_reducible rfl
         rotate_left
         · simp only [pq]
           rfl
         refine pure_ (i:=8) (N:=some 59) (v:=?_) (a' := ?_) #[T,T,T,T,T,T,T,T,T,F,F,F,F,F,F,F,F] rfl rfl (by kernel_rfl) (fun _ _ _ h => h) (Or.inl ⟨by rfl,?_⟩) ?_ ?_
         rotate_left;(intro w';go_simp;with_reducible rfl);rotate_left;(simp only [pq];rfl)
         refine pure_ (i:=9) (N:=some 60) (v:=?_) (a' := ?_) #[T,T,T,T,T,T,T,T,T,T,F,F,F,F,F,F,F] rfl rfl (by kernel_rfl) (fun _ _ _ h => h) (Or.inl ⟨by rfl,?_⟩) ?_ ?_
         rotate_left;(intro w';go_simp;with_reducible rfl);rotate_left;(simp only [pq];rfl)
         refine pure_ (i:=10) (N:=some 61) (v:=?_) (a' := ?_) #[T,T,T,T,T,T,T,T,T,T,T,F,F,F,F,F,F] rfl rfl (by kernel_rfl) (fun _ _ _ h => h) (Or.inl ⟨by rfl,?_⟩) ?_ ?_
         rotate_left;(intro w';go_simp;with_reducible rfl);rotate_left;(simp only [pq];rfl)
         refine pure_ (i:=11) (N:=some 62) (v:=undef) (a' := ?_) #[T,T,T,T,T,T,T,T,T,T,T,T,F,F,F,F,F] rfl rfl (by kernel_rfl) (fun _ _ _ h => h) (Or.inr ⟨by rfl,rfl⟩) ?_ ?_
         rotate_left
         · simp only [pq]
           rfl
         refine pure_ (i:=12) (N:=some 63) (v:=undef) (a' := ?_) #[T,T,T,T,T,T,T,T,T,T,T,T,T,F,F,F,F] rfl rfl (by kernel_rfl) (fun _ _ _ h => h) (Or.inr ⟨by rfl,rfl⟩) ?_ ?_
         rotate_left
         · simp only [pq]
           rfl
         refine pure_ (i:=13) (N:=some 64) (v:=undef) (a' := ?_) #[T,T,T,T,T,T,T,T,T,T,T,T,T,T,F,F,F] rfl rfl (by kernel_rfl) (fun _ _ _ h => h) (Or.inr ⟨by rfl,rfl⟩) ?_ ?_
         rotate_left
         · simp only [pq]
           rfl
         refine pure_ (i:=14) (N:=some 65) (v:=undef) (a' := ?_) #[T,T,T,T,T,T,T,T,T,T,T,T,T,T,T,F,F] rfl rfl (by kernel_rfl) (fun _ _ _ h => h) (Or.inr ⟨by rfl,rfl⟩) ?_ ?_
         rotate_left
         · simp only [pq]
           rfl
         refine pure_ (i:=15) (N:=some 66) (v:=undef) (a' := ?_) #[T,T,T,T,T,T,T,T,T,T,T,T,T,T,T,T,F] rfl rfl (by kernel_rfl) (fun _ _ _ h => h) (Or.inr ⟨by rfl,rfl⟩) ?_ ?_
         rotate_left
         · simp only [pq]
           rfl
         refine pure_ (i:=16) (N:=some 67) (v:=?_) (a' := ?_) #[T,T,T,T,T,T,T,T,T,T,T,T,T,T,T,T,T] rfl rfl (by kernel_rfl) (fun _ _ _ h => h) (Or.inl ⟨by rfl,?_⟩) ?_ ?_
         rotate_left;(intro w';go_simp;with_reducible rfl);rotate_left;(simp only [pq];rfl)
         refine done_ (by kernel_rfl) ?_
         go_wp2_with fail
         go_meet
         case rel => exact ⟨congrArg Value.bool x5.symm,⟨below_drew1 (Below.refl _ _)⟩⟩
      case rest =>
       obtain ⟨rfl,HBD⟩ := hcut
       obtain ⟨w2,ew2⟩ : ∃ w2 : World,w2 = wc:=⟨_,rfl⟩
       subst ew2
       go_upto_if 67 with fail
       have HBK2:=Aside0.mk ((HBD.out.block _ (blk_lt HBK.out)).trans HBK.out)
       have HB2 : Aside0 (Below w0.heap.size w0 w2) := ⟨HB1.out.trans (HBD.out.mono HB1.out.size)⟩
       have HA2:=Aside0.mk (Kd.R_below HA.out HBD.out)
       have HBW2 : Aside0 (Below W.heap.size W w2) := ⟨HBW.out.trans (HBD.out.mono HBW.out.size)⟩
       clear HBK HB1 HA HBW HBD
       go_cut [10] from 16 (fun s10 wc => s10 = .int .i64 (dK L at_ n) ∧ Aside0 (Below w2.heap.size w2 wc))
       case first =>
        by_cases hc : at_ < L.length ∧ at_ < 60
        · have x5 : decide (at_ < L.length ∧ at_ < 60) = true:=decide_eq_true hc
          have hk : dK L at_ n = Int.tmod (L.getD at_ 0) (n : Int) := by unfold dK;rw [if_pos hc.1,if_pos hc.2]
          have HKD:=Aside0.mk hk
          have q5 : Aside0 (w2.cell? ⟨DB,5,none⟩ = some (.slice AL L.length cL)) := ⟨(blk_cell HBK2.out 5).trans rfl⟩
          have q6 : Aside0 (w2.cell? ⟨DB,6,none⟩ = some (.int .i64 (at_ : Int))) := ⟨(blk_cell HBK2.out 6).trans rfl⟩
          obtain ⟨ad,ead,hcell⟩ := Kd.at_int (Kd.C_below HL.out HB2.out) (at_ : Int) (by omega) (by have:=hc.1;omega)
          have hx:=HU.out (L.getD at_ 0) (by rw [List.getD_eq_getElem?_getD,List.getElem?_eq_getElem hc.1];exact List.getElem_mem _)
          rw [show rd L (at_ : Int) = L.getD at_ 0 from rfl,Int.toNat_natCast] at hcell
          generalize L.getD at_ 0 = x at hcell hx HKD
          have hw3 : IntKind.i64.wrap x = x:=by rw [IntKind.wrap_i64];omega
          have hw4 : IntKind.i64.wrap (x.tmod n) = x.tmod n:=by
           have h1:=Int.tmod_nonneg (n : Int) hx.1
           have h2:=Int.tmod_lt_of_pos x (show (0 : Int) < n by have:=HN0.out;omega)
           have h3:=HALN.out
           have h4:=HP2.out
           have h5:=EN.out
           rw [IntKind.wrap_i64];omega
          have p0 : (0 ≤ (at_ : Int)) = True:=eq_true (by omega)
          have p1 : ((at_ : Int) < (L.length : Int)) = True:=eq_true (by have:=hc.1;omega)
          have p2 : (at_ < L.length) = True:=eq_true hc.1
          have p3 : (n = 0) = False:=eq_false (by have:=HN0.out;omega)
          have p4 : ((n : Int) = 0) = False:=eq_false (by have:=HN0.out;omega)
          cases ead
          clear hx hk hc
          rw [x5]
          go_upto_region 11 with fail
          refine start_ (n:=15) (S:=fun w' => w'.cell? ⟨DB,5,none⟩ = some (.slice (some ad) L.length cL) ∧ w'.cell? ⟨DB,6,none⟩ = some (.int .i64 (at_ : Int)) ∧ w'.cell? (ad.add at_) = some (.int .u8 x)) (ds := []) #[F,F,F,F,F,F,F,F,F,F,F,F,F,F,F] (by kernel_rfl) rfl rfl ⟨q5.out,q6.out,hcell⟩ (fun hHeld => ?_)
          refine pure_ (i:=0) (N:=some 68) (v:=?_) (a' := ?_) #[T,F,F,F,F,F,F,F,F,F,F,F,F,F,F] rfl rfl (by kernel_rfl) (fun _ _ _ h => h) (Or.inl ⟨by rfl,?_⟩) ?_ ?_
          rotate_left;(intro w';go_simp;with_reducible rfl);rotate_left;(simp only [pq];rfl)
          refine pure_ (i:=1) (N:=some 69) (v:=?_) (a' := ?_) #[T,T,F,F,F,F,F,F,F,F,F,F,F,F,F] rfl rfl (by kernel_rfl) (fun _ _ _ h => h) (Or.inl ⟨by rfl,?_⟩) ?_ ?_
          rotate_left;(intro w';go_simp;with_reducible rfl);rotate_left;(simp only [pq];rfl)
          refine pure_ (i:=2) (N:=some 70) (v:=?_) (a' := ?_) #[T,T,T,F,F,F,F,F,F,F,F,F,F,F,F] rfl rfl (by kernel_rfl) (fun _ _ _ h => h) (Or.inl ⟨by rfl,?_⟩) ?_ ?_
          rotate_left;(intro w';go_simp;with_reducible rfl);rotate_left;(simp only [pq];rfl)
          refine pure_ (i:=4) (N:=some 72) (v:=?_) (a' := ?_) #[T,T,T,F,T,F,F,F,F,F,F,F,F,F,F] rfl rfl (by kernel_rfl) (fun _ _ _ h => h) (Or.inl ⟨by rfl,?_⟩) ?_ ?_
          rotate_left;(intro w';go_simp;with_reducible rfl);rotate_left;(simp only [pq];rfl)
          refine pure_ (i:=5) (N:=some 73) (v:=?_) (a' := ?_) #[T,T,T,F,T,T,F,F,F,F,F,F,F,F,F] rfl rfl (by kernel_rfl) (fun _ _ _ h => h) (Or.inl ⟨by rfl,?_⟩) ?_ ?_
          rotate_left;(intro w';go_simp;with_reducible rfl);rotate_left;(simp only [pq];rfl)
          refine pure_ (i:=6) (N:=some 74) (v:=?_) (a' := ?_) #[T,T,T,F,T,T,T,F,F,F,F,F,F,F,F] rfl rfl (by kernel_rfl) (fun _ _ _ h => h) (Or.inl ⟨by rfl,?_⟩) ?_ ?_
          rotate_left;(intro w';go_simp;with_reducible rfl);rotate_left;(simp only [pq];rfl)
          refine pure_ (i:=11) (N:=some 79) (v:=?_) (a' := ?_) #[T,T,T,F,T,T,T,F,F,F,F,T,F,F,F] rfl rfl (by kernel_rfl) (fun _ _ _ h => h) (Or.inl ⟨by rfl,?_⟩) ?_ ?_
          rotate_left;(intro w';go_simp;with_reducible rfl);rotate_left;(simp only [pq];rfl)
          refine pure_ (i:=12) (N:=some 80) (v:=?_) (a' := ?_) #[T,T,T,F,T,T,T,F,F,F,F,T,T,F,F] rfl rfl (by kernel_rfl) (fun _ _ _ h => h) (Or.inl ⟨by rfl,?_⟩) ?_ ?_
          rotate_left;(intro w';go_simp;with_reducible rfl);rotate_left;(simp only [pq];rfl)
          refine take_ (i:=3) (N:=some 71) (v:=?_) (a' := ?_) #[T,T,T,T,T,T,T,F,F,F,F,T,T,F,F] rfl rfl (by kernel_rfl) (fun _ _ _ h => h) (Or.inl ⟨by rfl,?_⟩) hHeld ?_ ?_
          rotate_left
          · rintro w' ⟨s0,s1,s2⟩
            go_simp
            with_reducible rfl
          rotate_left
          · simp only [pq]
            rfl
          refine take_ (i:=7) (N:=some 75) (v:=?_) (a' := ?_) #[T,T,T,T,T,T,T,T,F,F,F,T,T,F,F] rfl rfl (by kernel_rfl) (fun _ _ _ h => h) (Or.inl ⟨by rfl,?_⟩) hHeld ?_ ?_
          rotate_left
          · rintro w' ⟨s0,s1,s2⟩
            go_simp
            with_reducible rfl
          rotate_left
          · simp only [pq]
            rfl
          refine pure_ (i:=8) (N:=some 76) (v:=?_) (a' := ?_) #[T,T,T,T,T,T,T,T,T,F,F,T,T,F,F] rfl rfl (by kernel_rfl) (fun _ _ _ h => h) (Or.inl ⟨by rfl,?_⟩) ?_ ?_
          rotate_left;(intro w';go_simp;with_reducible rfl);rotate_left;(simp only [pq];rfl)
          refine take_ (i:=9) (N:=some 77) (v:=?_) (a' := ?_) #[T,T,T,T,T,T,T,T,T,T,F,T,T,F,F] rfl rfl (by kernel_rfl) (fun _ _ _ h => h) (Or.inl ⟨by rfl,?_⟩) hHeld ?_ ?_
          rotate_left
          · rintro w' ⟨s0,s1,s2⟩
            go_simp
            with_reducible rfl
          rotate_left
          · simp only [pq]
            rfl
          refine pure_ (i:=10) (N:=some 78) (v:=?_) (a' := ?_) #[T,T,T,T,T,T,T,T,T,T,T,T,T,F,F] rfl rfl (by kernel_rfl) (fun _ _ _ h => h) (Or.inl ⟨by rfl,?_⟩) ?_ ?_
          rotate_left;(intro w';go_simp;with_reducible rfl);rotate_left;(simp only [pq];rfl)
          refine pure_ (i:=13) (N:=some 81) (v:=?_) (a' := ?_) #[T,T,T,T,T,T,T,T,T,T,T,T,T,T,F] rfl rfl (by kernel_rfl) (fun _ _ _ h => h) (Or.inl ⟨by rfl,?_⟩) ?_ ?_
          rotate_left;(intro w';go_simp;with_reducible rfl);rotate_left;(simp only [pq];rfl)
          refine pure_ (i:=14) (N:=some 10) (v:=?_) (a' := ?_) #[T,T,T,T,T,T,T,T,T,T,T,T,T,T,T] rfl rfl (by kernel_rfl) (fun _ _ _ h => h) (Or.inl ⟨by rfl,?_⟩) ?_ ?_
          rotate_left;(intro w';go_simp;with_reducible rfl);rotate_left;(simp only [pq];rfl)
          refine done_ (by kernel_rfl) ?_
          go_wp2_with fail
          go_meet
          case rel => exact ⟨congrArg _ HKD.out.symm,⟨below_drew1 (Below.refl _ _)⟩⟩
        · have x5 : decide (at_ < L.length ∧ at_ < 60) = false:=decide_eq_false hc
          have hk : dK L at_ n = (n : Int) - 1:=by
           unfold dK
           split
           · split
             · rename_i h1 h2;exact absurd ⟨h1,h2⟩ hc
             · rfl
           · rfl
          rw [x5]
          clear hc
          go_wp2_with fail
          go_meet
          case rel => exact ⟨congrArg _ hk.symm,⟨Below.refl _ _⟩⟩
       case rest =>
        obtain ⟨rfl,HBD⟩ := hcut
        obtain ⟨w3,ew3⟩ : ∃ w3 : World,w3 = wc:=⟨_,rfl⟩
        subst ew3
        have HBK3:=Aside0.mk ((HBD.out.block _ (blk_lt HBK2.out)).trans HBK2.out)
        have HB3 : Aside0 (Below w0.heap.size w0 w3) := ⟨HB2.out.trans (HBD.out.mono HB2.out.size)⟩
        have HA3:=Aside0.mk (Kd.R_below HA2.out HBD.out)
        have HBW3 : Aside0 (Below W.heap.size W w3) := ⟨HBW2.out.trans (HBD.out.mono HBW2.out.size)⟩
        clear HBK2 HB2 HA2 HBW2 HBD
        have q6 : w3.cell? ⟨DB,6,none⟩ = some (.int .i64 (at_ : Int)) := (blk_cell HBK3.out 6).trans rfl
        have f6:=blk_frozen HBK3.out 6
        have hw5 : IntKind.i64.wrap ((at_ : Int) + 1) = (at_ : Int) + 1:=by rw [IntKind.wrap_i64];have:=HLIM.out;omega
        go_upto_region 14 with fail
        have HK4 : Aside0 (Kept w3 (w3.setCell ⟨DB,6,none⟩ (.int .i64 ((at_ : Int) + 1))) (fun k => k = DB)) := ⟨Kept.setCell (Kept.refl w3 (fun k => k = DB)) (p:=⟨DB,6,none⟩) (.inl rfl) _⟩
        have HBK4 : Aside0 ((w3.setCell ⟨DB,6,none⟩ (.int .i64 ((at_ : Int) + 1))).heap[DB]? = some (derObj A0 n0 c0 A1 n1 c1 a2 a3 A4 ps.length c4 AL L.length cL (at_ + 1))) := ⟨blk_put HBK3.out 6 _ rfl⟩
        have HB4 : Aside0 (Below w0.heap.size w0 (w3.setCell ⟨DB,6,none⟩ (.int .i64 ((at_ : Int) + 1)))) := ⟨HB3.out.setCell (p:=⟨DB,6,none⟩) HDB.out _⟩
        have HA4:=Aside0.mk (Kd.R_kept (Kd.R_mono (ok' := fun k => W.heap.size ≤ k) (Kd.R_bound HA3.out) (fun k hk => hk.2.1)) HK4.out (fun k hk h => by have:=HDBW.out;omega))
        have HKW4:=Aside0.mk (Kept.then_ (Kept.of_below HBW3.out (fun k => k = DB)) HK4.out (fun k hk => .inl hk))
        generalize w3.setCell ⟨DB,6,none⟩ (.int .i64 ((at_ : Int) + 1)) = w4 at HK4 HBK4 HB4 HA4 HKW4 ⊢
        clear HK4 HBK3 HB3 HA3 HBW3 q6 f6 hw5
        have hkk:=dK_lt HU.out at_ HN0.out
        generalize dK L at_ n = kk at hkk HRES2 ⊢
        have hln:=EN.out
        obtain ⟨ad8,ead8,hc8⟩ := Kd.at_int (Kd.R_reads' HA4.out).2.2 kk hkk.1 (by omega)
        have hx:=HMEM.out (all.getD kk.toNat 0) (by rw [List.getD_eq_getElem?_getD,List.getElem?_eq_getElem (show kk.toNat < all.length by omega)];exact List.getElem_mem _)
        rw [show rd all kk = all.getD kk.toNat 0 from rfl] at hc8
        generalize all.getD kk.toNat 0 = x at hx hc8 HRES2
        obtain ⟨ad,A5,c5,ead,_,e1,_,hC5⟩ := at_T30 (Kd.C_below HPS.out HB4.out) x hx.1 hx.2
        obtain ⟨ad',A5',c5',ead',_,e1',hle5,hC50⟩ := at_T30 HPS.out x hx.1 hx.2
        cases ead8
        cases ead
        cases ead'
        have e1'' := ((HB4.out.cell (World.block_lt_of_cell? w0 _ e1')).trans e1').symm.trans e1
        injection e1'' with e1''
        injection e1'' with ea5 _ ec5
        subst ea5
        have hmem : rd_T30 ps x ∈ ps:=by
         show ps.getD x.toNat _ ∈ ps
         rw [List.getD_eq_getElem?_getD,List.getElem?_eq_getElem (show x.toNat < ps.length by omega)];exact List.getElem_mem _
        have HR10:=Aside0.mk (HR.out _ hmem)
        have HC5:=Aside0.mk hC50
        generalize rd_T30 ps x = p at HR10 HC5 e1 HRES2 hle5
        obtain ⟨left,r⟩ := p
        simp only at HR10 HC5 e1 HRES2 hle5
        have HE1:=Aside0.mk e1
        have HC8:=Aside0.mk hc8
        have HQ4 : Aside0 (w4.cell? ⟨DB,4,none⟩ = some (.slice (some ad) ps.length c4)) := ⟨(blk_cell HBK4.out 4).trans rfl⟩
        have p0 : (0 ≤ kk) = True:=eq_true hkk.1
        have p1 : (kk < (n : Int)) = True:=eq_true hkk.2
        have p2 : (0 ≤ x) = True:=eq_true hx.1
        have p3 : (x < (ps.length : Int)) = True:=eq_true hx.2
        clear hkk hx hln hmem e1 hc8 hC5 e1' hle5 ec5 hC50
        refine start_ (n:=13) (S:=fun w' => w'.cell? ⟨DB,4,none⟩ = some (.slice (some ad) ps.length c4) ∧ w'.cell? (ad8.add kk.toNat) = some (.int .i64 x) ∧ w'.cell? ⟨(ad.add (x.toNat * 2)).block,(ad.add (x.toNat * 2)).off + 1,none⟩ = some (.slice A5' r.length c5)) (ds := []) #[F,F,F,F,F,F,F,F,F,F,F,F,F] (by kernel_rfl) rfl rfl ⟨HQ4.out,HC8.out,HE1.out⟩ (fun hHeld => ?_)
        refine pure_ (i:=0) (N:=some 89) (v:=?_) (a' := ?_) #[T,F,F,F,F,F,F,F,F,F,F,F,F] rfl rfl (by kernel_rfl) (fun _ _ _ h => h) (Or.inl ⟨by rfl,?_⟩) ?_ ?_
        rotate_left;(intro w';go_simp;with_reducible rfl);rotate_left;(simp only [pq];rfl)
        refine pure_ (i:=1) (N:=some 90) (v:=?_) (a' := ?_) #[T,T,F,F,F,F,F,F,F,F,F,F,F] rfl rfl (by kernel_rfl) (fun _ _ _ h => h) (Or.inl ⟨by rfl,?_⟩) ?_ ?_
        rotate_left;(intro w';go_simp;with_reducible rfl);rotate_left;(simp only [pq];rfl)
        refine pure_ (i:=2) (N:=some 91) (v:=?_) (a' := ?_) #[T,T,T,F,F,F,F,F,F,F,F,F,F] rfl rfl (by kernel_rfl) (fun _ _ _ h => h) (Or.inl ⟨by rfl,?_⟩) ?_ ?_
        rotate_left;(intro w';go_simp;with_reducible rfl);rotate_left;(simp only [pq];rfl)
        refine pure_ (i:=3) (N:=some 92) (v:=?_) (a' := ?_) #[T,T,T,T,F,F,F,F,F,F,F,F,F] rfl rfl (by kernel_rfl) (fun _ _ _ h => h) (Or.inl ⟨by rfl,?_⟩) ?_ ?_
        rotate_left;(intro w';go_simp;with_reducible rfl);rotate_left;(simp only [pq];rfl)
        refine pure_ (i:=5) (N:=some 94) (v:=?_) (a' := ?_) #[T,T,T,T,F,T,F,F,F,F,F,F,F] rfl rfl (by kernel_rfl) (fun _ _ _ h => h) (Or.inl ⟨by rfl,?_⟩) ?_ ?_
        rotate_left;(intro w';go_simp;with_reducible rfl);rotate_left;(simp only [pq];rfl)
        refine pure_ (i:=6) (N:=some 95) (v:=?_) (a' := ?_) #[T,T,T,T,F,T,T,F,F,F,F,F,F] rfl rfl (by kernel_rfl) (fun _ _ _ h => h) (Or.inl ⟨by rfl,?_⟩) ?_ ?_
        rotate_left;(intro w';go_simp;with_reducible rfl);rotate_left;(simp only [pq];rfl)
        refine pure_ (i:=7) (N:=some 96) (v:=?_) (a' := ?_) #[T,T,T,T,F,T,T,T,F,F,F,F,F] rfl rfl (by kernel_rfl) (fun _ _ _ h => h) (Or.inl ⟨by rfl,?_⟩) ?_ ?_
        rotate_left;(intro w';go_simp;with_reducible rfl);rotate_left;(simp only [pq];rfl)
        refine take_ (i:=4) (N:=some 93) (v:=?_) (a' := ?_) #[T,T,T,T,T,T,T,T,F,F,F,F,F] rfl rfl (by kernel_rfl) (fun _ _ _ h => h) (Or.inl ⟨by rfl,?_⟩) hHeld ?_ ?_
        rotate_left
        · rintro w' ⟨s0,s1,s2⟩
          go_simp
          with_reducible rfl
        rotate_left
        · simp only [pq]
          rfl
        refine take_ (i:=8) (N:=some 97) (v:=?_) (a' := ?_) #[T,T,T,T,T,T,T,T,T,F,F,F,F] rfl rfl (by kernel_rfl) (fun _ _ _ h => h) (Or.inl ⟨by rfl,?_⟩) hHeld ?_ ?_
        rotate_left
        · rintro w' ⟨s0,s1,s2⟩
          go_simp
          with_reducible rfl
        rotate_left
        · simp only [pq]
          rfl
        refine pure_ (i:=9) (N:=some 98) (v:=?_) (a' := ?_) #[T,T,T,T,T,T,T,T,T,T,F,F,F] rfl rfl (by kernel_rfl) (fun _ _ _ h => h) (Or.inl ⟨by rfl,?_⟩) ?_ ?_
        rotate_left;(intro w';go_simp;with_reducible rfl);rotate_left;(simp only [pq];rfl)
        refine pure_ (i:=10) (N:=some 99) (v:=?_) (a' := ?_) #[T,T,T,T,T,T,T,T,T,T,T,F,F] rfl rfl (by kernel_rfl) (fun _ _ _ h => h) (Or.inl ⟨by rfl,?_⟩) ?_ ?_
        rotate_left;(intro w';go_simp;with_reducible rfl);rotate_left;(simp only [pq];rfl)
        refine take_ (i:=11) (N:=some 100) (v:=?_) (a' := ?_) #[T,T,T,T,T,T,T,T,T,T,T,T,F] rfl rfl (by kernel_rfl) (fun _ _ _ h => h) (Or.inl ⟨by rfl,?_⟩) hHeld ?_ ?_
        rotate_left
        · rintro w' ⟨s0,s1,s2⟩
          go_simp
          with_reducible rfl
        rotate_left
        · simp only [pq]
          rfl
        refine pure_ (i:=12) (N:=some 12) (v:=?_) (a' := ?_) #[T,T,T,T,T,T,T,T,T,T,T,T,T] rfl rfl (by kernel_rfl) (fun _ _ _ h => h) (Or.inl ⟨by rfl,?_⟩) ?_ ?_
        rotate_left;(intro w';go_simp;with_reducible rfl);rotate_left;(simp only [pq];rfl)
        refine done_ (by kernel_rfl) ?_
        have HB5 : Aside0 (Below w0.heap.size w0 w4.drew) := ⟨below_drew1 HB4.out⟩
        have HKW5 : Aside0 (Kept W w4.drew (fun k => k = DB)) := ⟨Kept.drew HKW4.out⟩
        have HBK5 : Aside0 (w4.drew.heap[DB]? = some (derObj A0 n0 c0 A1 n1 c1 a2 a3 (some ad) ps.length c4 AL L.length cL (at_ + 1))) := ⟨HBK4.out⟩
        generalize w4.drew = w5 at HB5 HKW5 HBK5 ⊢
        clear HA4 HC8 HE1 HQ4 HB4 HBK4 HKW4
        go_wp2
        go_loopg [11,13,14,15] r.length (fun kq v11 v13 v14 v15 wr => ∃ (j at2 : Nat) (out : List Int),v13 = .int .i64 (j : Int) ∧ j ≤ r.length ∧ r.length - j ≤ kq ∧ Aside0 (out.length ≤ 60 + j) ∧ Aside0 (at2 ≤ at_ + 1 + j * B) ∧ Aside0 (drvL nxt (r.drop j) out at2 = res) ∧ Aside0 (wr.heap[DB]? = some (derObj A0 n0 c0 A1 n1 c1 a2 a3 (some ad) ps.length c4 AL L.length cL at2)) ∧ Aside0 (Kept W wr (fun k => k = DB)) ∧ Aside0 (Below w0.heap.size w0 wr) ∧ Aside0 (Kd.R (Kd.int .i64) 3 wr W.heap.size (fun _ => True) v11 out))
        case atStart => exact ⟨0,at_ + 1,[],rfl,by omega,by omega,⟨by simp⟩,⟨by omega⟩,⟨by simpa using HRES2.out.symm⟩,HBK5,HKW5,HB5,⟨Kd.R_nil _ _ _ _ _⟩⟩
        case round =>
         clear HBK5 HKW5 HB5 HRES2
         obtain ⟨j,at2,out,rfl,hj,hm,HOL,HAT2,HDR,HBK5,HKW5,HB5,HO⟩ := hrel
         by_cases hlt : j < r.length
         · have d0 : decide (j < r.length) = true:=decide_eq_true hlt
           have d1 : (j < r.length) = True:=eq_true hlt
           have H:=HDR.out
           rw [List.drop_eq_getElem_cons hlt] at H
           simp only [drvL] at H
           obtain ⟨ad5,ea5,e0,e1⟩ := at_T53 (Kd.C_below HC5.out HB5.out) (j : Int) (by omega) (by omega)
           cases ea5
           have hrd : rd_T53 r (j : Int) = r[j] := by simp [rd_T53,hlt]
           rw [hrd] at e0 e1
           rw [Int.toNat_natCast] at e0 e1
           generalize r[j] = y at H e0 e1
           obtain ⟨tk,x5⟩ := y
           simp only at H e0 e1
           have p5 : (0 ≤ (j : Int)) = True:=eq_true (by omega)
           have p6 : ((j : Int) < (r.length : Int)) = True:=eq_true (by omega)
           have hwj : IntKind.i64.wrap ((j : Int) + 1) = (j : Int) + 1:=by rw [IntKind.wrap_i64];have:=HR10.out;omega
           have HLT:=Aside0.mk hlt
           have HM:=Aside0.mk hm
           have HSW : Aside0 (W.heap.size ≤ wr.heap.size) := ⟨HKW5.out.1⟩
           clear hlt hm hj hrd HDR
           cases tk with
           | true =>
            rw [if_pos rfl] at H
            have HD2:=Aside0.mk H
            clear H
            go_wp2_with (first | ((with_reducible refine gate_builtin (b := .append) (xs:=#[.tmp 112,.tmp 118]) rfl ?_);at_builtin;refine Kd.R_append (Kd.int .i64) (w0:=wr) W.heap.size rfl (.tmp 112) (.tmp 118) 43 3 (.int .i64 0) 8 rfl Try.underlying43 diInt rfl (by decide) (by omega) u11 out x5 [.int .i64 x5] (fun _ => True) (fun _ => False) rfl rfl rfl (fun _ hk => hk.elim) (fun _ _ => trivial) HO.out (Below.refl _ _) HSW.out (by have:=HOL.out;have:=HR10.out;have:=HLT.out;omega) ?_;intro v1 w6 ho hb hg hat;have HO6:=Aside0.mk ho;have HBK6:=Aside0.mk ((hb.block DB HDBW.out).trans HBK5.out);have HKW6:=Aside0.mk (kept_step HKW5.out hb);have HB6 : Aside0 (Below w0.heap.size w0 w6) := ⟨HB5.out.trans (hb.mono HB.out.size)⟩;clear ho hb hg hat))
            go_roundg (r.length - (j + 1))
            case measure => have:=HM.out;have:=HLT.out;omega
            case rel => exact ⟨j + 1,at2,out ++ [x5],rfl,by have:=HLT.out;omega,Nat.le_refl _,⟨by have:=HOL.out;simp;omega⟩,⟨by have:=HAT2.out;rw [Nat.succ_mul];omega⟩,HD2,HBK6,HKW6,HB6,HO6⟩
           | false =>
            rw [if_neg (by simp)] at H
            have hjB : (j + 1) * B ≤ 10 * B:=Nat.mul_le_mul_right _ (by have:=HLT.out;have:=HR10.out;omega)
            rw [Nat.succ_mul] at hjB
            have P6:=Aside0.mk (HREC2.out x5 at2 wr (by have:=HAT2.out;have:=HLIM.out;omega) HB5.out HBK5.out)
            have hna:=HN.out x5 at2
            have hwd : IntKind.i64.wrap ((deep : Int) + 1) = (deep : Int) + 1:=by rw [IntKind.wrap_i64];have:=HDEEP.out;omega
            generalize nxt x5 at2 = q at H P6 hna
            obtain ⟨⟨lq,okq⟩,aq⟩ := q
            simp only at H hna
            have HNA:=Aside0.mk hna
            have HH:=Aside0.mk H
            clear H hna hjB
            go_upto_region 21 with (first | (go_at_call 14;(with_reducible refine P6.out.mono ?_);rintro e w6 ⟨v6,rfl,HR6,HBK6,HK6,HB6⟩;clear P6))
            have HO6:=Aside0.mk (Kd.R_kept (Kd.R_mono (ok' := fun k => W.heap.size ≤ k) (Kd.R_bound HO.out) (fun k hk => hk.2.1)) HK6.out (fun k hk h => by have:=HDBW.out;omega))
            have HKW6:=Aside0.mk (Kept.then_ HKW5.out HK6.out (fun k hk => .inl hk))
            have H:=HH.out
            obtain ⟨A6,m6,c6,rfl⟩ : ∃ A n c,v6 = .slice A n c:=by obtain ⟨A,c,e⟩ := Kd.R_slice HR6.out;exact ⟨A,_,c,e⟩
            obtain ⟨A11,m11,c11,rfl⟩ : ∃ A n c,u11 = .slice A n c:=by obtain ⟨A,c,e⟩ := Kd.R_slice HO6.out;exact ⟨A,_,c,e⟩
            have hm6:=(Kd.R_reads' HR6.out).1
            have hm11:=(Kd.R_reads' HO6.out).1
            have HSW6 : Aside0 (W.heap.size ≤ w6.heap.size) := ⟨HKW6.out.1⟩
            have hwm : IntKind.i64.wrap ((m11 : Int) + (m6 : Int)) = (m11 : Int) + (m6 : Int) := by rw [IntKind.wrap_i64];have:=HOL.out;have:=HNA.out.2;have:=HR10.out;have:=HLT.out;omega
            have HM6:=Aside0.mk hm6
            have HM11:=Aside0.mk hm11
            clear HO HKW5 HBK5 HB5 HH hm6 hm11 e0 e1
            cases okq with
            | false =>
             rw [if_neg (by simp)] at H
             subst H
             go_wp2
             go_ret2
             exact ⟨_,rfl,⟨Kd.R_nil _ _ _ _ _⟩,HBK6,HKW6,HB6⟩
            | true =>
             rw [if_pos rfl] at H
             by_cases hs : out.length + lq.length > 60
             · rw [if_pos hs] at H
               subst H
               have s0 : 60 < m11 + m6:=by have:=HM6.out;have:=HM11.out;omega
               have s1 : decide ((m11 : Int) + (m6 : Int) > 60) = true:=decide_eq_true (by omega)
               have s2 : ((60 : Int) < (m11 : Int) + (m6 : Int)) = True:=eq_true (by omega)
               clear hs
               go_wp2
               go_ret2
               exact ⟨_,rfl,⟨Kd.R_nil _ _ _ _ _⟩,HBK6,HKW6,HB6⟩
             · rw [if_neg hs] at H
               have HD2:=Aside0.mk H
               have HSL : Aside0 (out.length + lq.length ≤ 60) := ⟨by omega⟩
               have s0 : ¬ 60 < m11 + m6:=by have:=HM6.out;have:=HM11.out;omega
               have s1 : decide ((m11 : Int) + (m6 : Int) > 60) = false:=decide_eq_false (by omega)
               have s2 : ((60 : Int) < (m11 : Int) + (m6 : Int)) = False:=eq_false (by omega)
               clear hs H
               go_wp2_with (first | ((with_reducible refine gate_builtin (b := .append) (xs:=#[.tmp 142,.tmp 143]) rfl ?_);at_builtin;refine Kd.R_append_rows (Kd.int .i64) (Rr:=(Kd.int .i64).K w6) (w0:=w6) W.heap.size rfl (.tmp 142) (.tmp 143) 43 3 (.int .i64 0) 8 rfl Try.underlying43 diInt rfl (by decide) (by omega) (.slice A11 m11 c11) out lq A6 m6 c6 (fun _ => True) (fun _ => False) rfl rfl (Kd.R_mono HO6.out (fun _ _ => trivial)) (by have h:=(Kd.R_reads' HR6.out).2.2;rw [← HM6.out] at h;exact h) (fun _ _ h => h) (fun _ h => h.elim) (fun _ _ => trivial) (Below.refl _ _) HSW6.out (by have:=HM6.out;have:=HSL.out;omega) ?_;intro v1 w7 ho hb hg hat;have HO7:=Aside0.mk ho;have HBK7:=Aside0.mk ((hb.block DB HDBW.out).trans HBK6.out);have HKW7:=Aside0.mk (kept_step HKW6.out hb);have HB7 : Aside0 (Below w0.heap.size w0 w7) := ⟨HB6.out.trans (hb.mono HB.out.size)⟩;clear ho hb hg hat))
               go_roundg (r.length - (j + 1))
               case measure => have:=HM.out;have:=HLT.out;omega
               case rel => exact ⟨j + 1,aq,out ++ lq,rfl,by have:=HLT.out;omega,Nat.le_refl _,⟨by have:=HSL.out;simp;omega⟩,⟨by have:=HAT2.out;have:=HNA.out.1;rw [Nat.succ_mul];omega⟩,HD2,HBK7,HKW7,HB7,HO7⟩
         · obtain rfl : j = r.length:=by omega
           have H:=HDR.out
           rw [List.drop_length] at H
           simp only [drvL] at H
           subst H
           clear hlt HDR
           go_wp2
           go_ret2
           exact ⟨_,rfl,HO,HBK5,HKW5,HB5⟩
theorem derive_any (ps : List S30) (L : List Int) (w0 : World) (DB : Nat) (A0 : Option Addr) (n0 c0 : Nat) (A1 : Option Addr) (n1 c1 : Nat) (a2 a3 : Int) (A4 : Option Addr) (c4 : Nat) (AL : Option Addr) (cL : Nat) (hDB : w0.heap.size ≤ DB) (hps : Kd.C k30 w0 A4 ps.length ps) (hL : Kd.C (Kd.int .u8) w0 AL L.length L) (hu : ∀ x ∈ L,0 ≤ x ∧ x ≤ 255) (hr : ∀ p ∈ ps,p.f1.length ≤ 10) (hps2 : ps.length ≤ 1000000) : ∀ (f : Nat) (rule : Int) (deep at_ : Nat) (W : World),
    12 ≤ deep + f → deep ≤ 12 → at_ + 11 ^ f ≤ 1125899906842624 → Below w0.heap.size w0 W → W.heap[DB]? = some (derObj A0 n0 c0 A1 n1 c1 a2 a3 A4 ps.length c4 AL L.length cL at_) →
    Calls Try.prog 14 #[.pointer (some ⟨DB,0,none⟩),.int .i64 rule,.int .i64 (deep : Int)] W (DerPost w0 W DB (derObj A0 n0 c0 A1 n1 c1 a2 a3 A4 ps.length c4 AL L.length cL) (drv ps L f rule deep at_))
  | 0,rule,deep,at_,W,h1,h2,h3,hB,hblk => by
    have hst : (dAll ps rule ps.length).length = 0 ∨ 10 < deep := .inr (by omega)
    exact derive_step ps L w0 DB A0 n0 c0 A1 n1 c1 a2 a3 A4 c4 AL cL hDB hps hL hu hr hps2 rule deep at_ W (by omega) hB hblk (fun _ a => (([],false),a)) 0 _ (by simp at h3;omega) (fun r a => ⟨by simp,by simp⟩) (by rw [if_pos hst];rfl) (fun hn => absurd hst hn)
  | f + 1,rule,deep,at_,W,h1,h2,h3,hB,hblk => by
    have h5 : 1 ≤ 11 ^ f:=Nat.one_le_pow _ _ (by decide)
    rw [Nat.pow_succ] at h3
    exact derive_step ps L w0 DB A0 n0 c0 A1 n1 c1 a2 a3 A4 c4 AL cL hDB hps hL hu hr hps2 rule deep at_ W (by omega) hB hblk (fun r a => drv ps L f r (deep + 1) a) (11 ^ f) _ (by omega) (fun r a => ⟨drv_at hr f r (deep + 1) a,drv_len hr f r (deep + 1) a⟩) (by rw [drv])
      (fun hn r a W' ha hB' hb' => by
        have hd : deep ≤ 10:=Nat.le_of_not_lt (fun h => hn (.inr h))
        exact derive_any ps L w0 DB A0 n0 c0 A1 n1 c1 a2 a3 A4 c4 AL cL hDB hps hL hu hr hps2 f r (deep + 1) a W' (by omega) (by omega) (by omega) hB' hb')
end Go.Proofs.Ytfdcfihcfegekaa.P
end
