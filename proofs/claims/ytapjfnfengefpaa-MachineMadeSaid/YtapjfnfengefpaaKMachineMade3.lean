/- Packed texts of this claim: the walks of the functions, and their plain laws; see the claim's last text. -/
import Derived.Deep.RegionHeld3
import Derived.WalkSpells
import Derived.Outline
import Derived.BigQuiet
import Derived.Deep.Cut
import Derived.Test.YtapjfnfengefpaaKMachineMade2
section
namespace Go.Proofs.Ytapjfnfengefpaa.P
open Go.RowKit Go.Proofs.YtapjfnfengefpaaW.PrintWords Go.Proofs.YtapjfnfengefpaaW.PrintLast Go.Proofs.YtapjfnfengefpaaW.PrintMore Go.Proofs.Ytapjfnfengefpaa.R
set_option linter.unusedVariables false
set_option linter.unusedSimpArgs false
def regletref13_first.l1 (aU:List ByteArray) (aX:List (S72)) (bA:Int) (bB:Int) (aQ:List (S35)):Nat→List (List Bool)→List Bool→Bool→Int→Option (Bool×List (List Bool))
 |0,_,_,_,_=>none
 |k+1,out,em,more,i=>
  if i<(aQ.length:Int) then
   if 0≤i then
    (regletref13_begins.f k aU aX bA bB aQ (rd_T35 aQ i).f1 out em).bind fun m=>
     if 0≤(rd_T35 aQ i).f0 then
      if(rd_T35 aQ i).f0<(out.length:Int) then
       (regletref13_join.f k (out.getD (rd_T35 aQ i).f0.toNat []) m.1).bind fun b=>
        regletref13_first.l1 aU aX bA bB aQ k (out.set (rd_T35 aQ i).f0.toNat b.2) em (if b.1=true then true else more) (wrap64 (i+1))
      else none
     else none
   else none
  else some (more,out)
def regletref13_first.l0 (aU:List ByteArray) (aX:List (S72)) (bA:Int) (bB:Int) (aQ:List (S35)):Nat→List (List Bool)→List Bool→Bool→Option (List (List Bool))
 |0,_,_,_=>none
 |k+1,out,em,more=>if more=true then(regletref13_first.l1 aU aX bA bB aQ k out em false 0).bind fun r=>regletref13_first.l0 aU aX bA bB aQ k r.2 em r.1 else some out
def regletref13_first.f (k:Nat) (aU:List ByteArray) (aX:List (S72)) (bA:Int) (bB:Int) (aQ:List (S35)):Option (List (List Bool)):=
 (regletref13_marks.f k aU aX bA bB aQ).bind fun out=>(regletref13_Empty.f k aU aX bA bB aQ).bind fun em=>regletref13_first.l0 aU aX bA bB aQ k out em true
set_option maxHeartbeats 2000000 in
set_option maxRecDepth 100000 in
theorem regletref13_first.calls (k:Nat) (bC:Option Addr) (bK:Nat) (aU:List ByteArray) (bM:Option Addr) (bO:Nat) (aX:List (S72)) (bA:Int) (bB:Int) (bQ:Option Addr) (bP:Nat) (aQ:List (S35)) (r:List (List Bool)) (w:World) (dM:Kd.C Kd.string w bC aU.length aU) (dT:aU.length≤bK) (dU:Kd.C k72 w bM aX.length aX) (dY:aX.length≤bO) (dR:Kd.C k35 w bQ aQ.length aQ) (eB:aQ.length≤bP) (h:regletref13_first.f k aU aX bA bB aQ=some r):
 Calls Try.prog 44 #[.agg #[.slice bC aU.length bK,.slice bM aX.length bO,.int .i64 bA,.int .i64 bB,.slice bQ aQ.length bP]] w fun e w'=>∃v0_:Value,e= .returned (v0_)∧Kd.S (Kd.slice 4 Kd.bool) 90 w' w.heap.size (fun _=>True) v0_ r∧Below w.heap.size w w':=by
 obtain⟨m0,hm0,h2⟩:=Option.bind_eq_some_iff.1 h
 clear h
 obtain⟨em,hem,h3⟩:=Option.bind_eq_some_iff.1 h2
 clear h2
 have HM:=aM hm0
 have HE:=aM hem
 have HL:=aM h3
 clear h3 hm0 hem
 have HA1:Aside0 (Below w.heap.size w (w.alloc (.cells #[.slice bC aU.length bK,.slice bM aX.length bO,.int .i64 bA,.int .i64 bB,.slice bQ aQ.length bP] 26))):=⟨(Below.refl _ w).alloc (Nat.le_refl _) _⟩
 have HA2:Aside0 ((w.alloc (.cells #[.slice bC aU.length bK,.slice bM aX.length bO,.int .i64 bA,.int .i64 bB,.slice bQ aQ.length bP] 26)).heap[w.heap.size]?=some (.cells #[.slice bC aU.length bK,.slice bM aX.length bO,.int .i64 bA,.int .i64 bB,.slice bQ aQ.length bP] 26 (0,0))):=⟨by simpa using heap_alloc_new w _⟩
 go_enter Try.func44,Try.ntmps44
 go_wp2_with (go_at_call 43;(with_reducible refine(regletref13_marks.calls k bC bK aU bM bO aX bA bB bQ bP aQ m0 _ (bD dM HA1.out) dT (bD dU HA1.out) dY (bD dR HA1.out) eB HM.out).mono ?_);rintro e w1 ⟨v1,rfl,hS1,hb1⟩;have HS1:=aM hS1;have HB1:=aM hb1;clear hS1 hb1;have Xb:Aside0 (w1.heap[w.heap.size]?=some (.cells #[.slice bC aU.length bK,.slice bM aX.length bO,.int .i64 bA,.int .i64 bB,.slice bQ aQ.length bP] 26 (0,0))):=⟨(HB1.out.block _ (by simp)).trans HA2.out⟩;have BL1:Aside0 (Below w.heap.size w w1):=⟨HA1.out.trans (HB1.out.mono (by simp))⟩;have SZ1:Aside0 (w.heap.size<w1.heap.size):=⟨by have:=HB1.out.size;simp at this;omega⟩;have HS2:Aside0 (Kd.S (Kd.slice 4 Kd.bool) 90 w1 w.heap.size (fun k_=>w.heap.size<k_∧k_<w1.heap.size) v1 m0):=⟨Kd.S_mono (Kd.S_lower (Kd.S_bound HS1.out) (by simp)) (fun k_ hk=>by have:=hk.2.1;have:=hk.2.2.1;simp at *;omega)⟩;clear HS1 HB1 HA1 HA2 HM;have q0:w1.cell? ⟨w.heap.size,0,none⟩=some (.slice bC aU.length bK):=(aG Xb.out 0).trans rfl;have q1:w1.cell? ⟨w.heap.size,1,none⟩=some (.slice bM aX.length bO):=(aG Xb.out 1).trans rfl;have q2:w1.cell? ⟨w.heap.size,2,none⟩=some (.int .i64 bA):=(aG Xb.out 2).trans rfl;have q3:w1.cell? ⟨w.heap.size,3,none⟩=some (.int .i64 bB):=(aG Xb.out 3).trans rfl;have q4:w1.cell? ⟨w.heap.size,4,none⟩=some (.slice bQ aQ.length bP):=(aG Xb.out 4).trans rfl)
 go_wp2_with (go_at_call 45;(with_reducible refine(regletref13_Empty.calls k bC bK aU bM bO aX bA bB bQ bP aQ em _ (bD dM BL1.out) dT (bD dU BL1.out) dY (bD dR BL1.out) eB HE.out).mono ?_);rintro e w2 ⟨v2,rfl,hR2,hb2⟩;have HR2:=aM hR2;have HB2:=aM hb2;clear hR2 hb2 q0 q1 q2 q3 q4;have OO:Aside0 (w2.heap[w.heap.size]?=some (.cells #[.slice bC aU.length bK,.slice bM aX.length bO,.int .i64 bA,.int .i64 bB,.slice bQ aQ.length bP] 26 (0,0))):=⟨(HB2.out.block _ SZ1.out).trans Xb.out⟩;have BL2:Aside0 (Below w.heap.size w w2):=⟨BL1.out.trans (HB2.out.mono (Nat.le_of_lt SZ1.out))⟩;have HS3:Aside0 (Kd.S (Kd.slice 4 Kd.bool) 90 w2 w.heap.size (fun k_=>w.heap.size<k_∧k_<w1.heap.size) v1 m0):=⟨Kd.S_below HS2.out HB2.out⟩;have HR3:Aside0 (Kd.R Kd.bool 4 w2 w.heap.size (fun k_=>w1.heap.size≤k_) v2 em):=⟨Kd.R_mono (bL (Kd.R_bound HR2.out) (Nat.le_of_lt SZ1.out)) (fun k_ hk=>hk.2.1)⟩;have SZ2:Aside0 (w1.heap.size≤w2.heap.size):=⟨HB2.out.size⟩;clear Xb BL1 HS2 HR2 HB2 HE)
 obtain⟨A1,c1,rfl⟩:=Kd.S_slice HS3.out
 obtain⟨A2,c2,rfl⟩:=Kd.R_slice HR3.out
 go_loopg [5] k (fun kq v5 wr=>∃(m:List (List Bool)) (more:Bool),v5= .bool more∧Aside0 (m.length=m0.length)∧Aside0 (regletref13_first.l0 aU aX bA bB aQ kq m em more=some r)∧Aside0 (kq≤k)∧Aside0 (wr.heap[w.heap.size]?=some (.cells #[.slice bC aU.length bK,.slice bM aX.length bO,.int .i64 bA,.int .i64 bB,.slice bQ aQ.length bP] 26 (0,0)))∧Aside0 (Below w.heap.size w wr)∧Aside0 (w1.heap.size≤wr.heap.size)∧Aside0 (Kd.S (Kd.slice 4 Kd.bool) 90 wr w.heap.size (fun k_=>w.heap.size<k_∧k_<w1.heap.size) (.slice A1 m0.length c1) m)∧Aside0 (Kd.R Kd.bool 4 wr w.heap.size (fun k_=>w1.heap.size≤k_) (.slice A2 em.length c2) em))
 case atStart=>exact⟨m0,true,rfl,⟨rfl⟩,HL,⟨Nat.le_refl _⟩,OO,BL2,SZ2,HS3,HR3⟩
 case round=>
  clear OO BL2 SZ2 HS3 HR3 HL
  obtain⟨m,more,rfl,LN,HA,HK,BK,BL,SZ,HS,HR⟩:=hrel
  cases gk with
  |zero=>exact absurd HA.out (by simp [regletref13_first.l0])
  |succ k1=>
   have H:=HA.out
   clear HA
   simp only [regletref13_first.l0] at H
   cases more with
   |false=>
    obtain rfl:=Option.some.inj (by simpa using H)
    clear H
    go_wp2
    go_ret
    exact⟨_,rfl,Kd.S_mono HS.out (fun _ _=>trivial),BL.out⟩
   |true=>
    rw [if_pos rfl] at H
    obtain⟨⟨mr,outr⟩,h1,h2⟩:=Option.bind_eq_some_iff.1 H
    clear H
    have H1:=aM h1
    have H2:=aM h2
    clear h1 h2
    go_wp2
    obtain⟨wo,ewo⟩:∃wo:World,wo=wr:=⟨_,rfl⟩
    subst ewo
    go_loopg [5,6] k1 (fun kq v5 v6 wr=>∃(m:List (List Bool)) (more:Bool) (i:Int),v5= .bool more∧v6= .int .i64 i∧Aside0 (m.length=m0.length)∧Aside0 (regletref13_first.l1 aU aX bA bB aQ kq m em more i=some (mr,outr))∧Aside0 (kq≤k1)∧Aside0 (wr.heap[w.heap.size]?=some (.cells #[.slice bC aU.length bK,.slice bM aX.length bO,.int .i64 bA,.int .i64 bB,.slice bQ aQ.length bP] 26 (0,0)))∧Aside0 (Below w.heap.size w wr)∧Aside0 (w1.heap.size≤wr.heap.size)∧Aside0 (Kd.S (Kd.slice 4 Kd.bool) 90 wr w.heap.size (fun k_=>w.heap.size<k_∧k_<w1.heap.size) (.slice A1 m0.length c1) m)∧Aside0 (Kd.R Kd.bool 4 wr w.heap.size (fun k_=>w1.heap.size≤k_) (.slice A2 em.length c2) em))
    case atStart=>exact⟨m,false,0,rfl,rfl,LN,H1,⟨Nat.le_refl _⟩,BK,BL,SZ,HS,HR⟩
    case round=>
     clear H1 LN BK BL SZ HS HR
     obtain⟨m,more,i,rfl,rfl,LN,HA,HK2,BK,BL,SZ,HS,HR⟩:=hrel
     cases gk with
     |zero=>exact absurd HA.out (by simp [regletref13_first.l1])
     |succ k2=>
      have H:=HA.out
      clear HA
      simp only [regletref13_first.l1] at H
      have q0:wr.cell? ⟨w.heap.size,0,none⟩=some (.slice bC aU.length bK):=(aG BK.out 0).trans rfl
      have q1:wr.cell? ⟨w.heap.size,1,none⟩=some (.slice bM aX.length bO):=(aG BK.out 1).trans rfl
      have q2:wr.cell? ⟨w.heap.size,2,none⟩=some (.int .i64 bA):=(aG BK.out 2).trans rfl
      have q3:wr.cell? ⟨w.heap.size,3,none⟩=some (.int .i64 bB):=(aG BK.out 3).trans rfl
      have q4:wr.cell? ⟨w.heap.size,4,none⟩=some (.slice bQ aQ.length bP):=(aG BK.out 4).trans rfl
      by_cases hi:i<(aQ.length:Int)
      ·rw [if_pos hi] at H
       by_cases hi0:0≤i
       rotate_left
       ·rw [if_neg hi0] at H;exact absurd H (by simp)
       rw [if_pos hi0] at H
       obtain⟨⟨bm,be⟩,hbg,H3⟩:=Option.bind_eq_some_iff.1 H
       clear H
       have HG:=aM hbg
       clear hbg
       simp only at H3
       by_cases hl0:0≤(rd_T35 aQ i).f0
       rotate_left
       ·rw [if_neg hl0] at H3;exact absurd H3 (by simp)
       rw [if_pos hl0] at H3
       by_cases hl1:(rd_T35 aQ i).f0<(m.length:Int)
       rotate_left
       ·rw [if_neg hl1] at H3;exact absurd H3 (by simp)
       rw [if_pos hl1] at H3
       obtain⟨⟨jb,jr⟩,hj,H4⟩:=Option.bind_eq_some_iff.1 H3
       clear H3
       simp only at H4
       have HJ:=aM hj
       have HN:=aM H4
       clear hj H4
       have AT:Aside0 (∀W:World,Below w.heap.size w W→∃ad A1 c1,bQ=some ad∧W.cell? (ad.add (i.toNat * 2))=some (.int .i64 (rd_T35 aQ i).f0)∧W.cell? ⟨(ad.add (i.toNat * 2)).block,(ad.add (i.toNat * 2)).off+1,none⟩=some (.slice A1 (rd_T35 aQ i).f1.length c1)∧(rd_T35 aQ i).f1.length≤c1∧Kd.C k43 W A1 (rd_T35 aQ i).f1.length (rd_T35 aQ i).f1):=⟨fun W hW=>at_T35 (bD dR hW) i hi0 hi⟩
       generalize rd_T35 aQ i=p at AT HG HJ HN hl0 hl1
       obtain⟨ad,A3,c3,ead,e0,e1,hle3,hC3⟩:=AT.out wr BL.out
       cases ead
       have d0:decide (i<(aQ.length:Int))=true:=decide_eq_true hi
       have p0:=eq_true hi0
       have p1:=eq_true hi
       have HI:=aM (And.intro hi hi0)
       have HLL:=aM (And.intro hl0 hl1)
       clear hi hi0 hl0 hl1
       have HC3:=aM hC3
       have HLE3:=aM hle3
       clear hC3 hle3
       go_wp2
       have SZW:Aside0 (w.heap.size<wr.drew.heap.size):=⟨Nat.lt_of_lt_of_le SZ1.out SZ.out⟩
       have KEEP:Aside0 (∀w3:World,Below wr.drew.heap.size wr.drew w3→w3.cell? ⟨w.heap.size,0,none⟩=some (.slice bC aU.length bK)∧w3.cell? ⟨w.heap.size,1,none⟩=some (.slice bM aX.length bO)∧w3.cell? ⟨w.heap.size,2,none⟩=some (.int .i64 bA)∧w3.cell? ⟨w.heap.size,3,none⟩=some (.int .i64 bB)∧w3.cell? ⟨w.heap.size,4,none⟩=some (.slice (some ad) aQ.length bP)∧w3.cell? ⟨(ad.add (i.toNat * 2)).block,(ad.add (i.toNat * 2)).off+1,none⟩=some (.slice A3 p.f1.length c3)):=⟨fun w3 h3=>⟨(h3.cell (p:=⟨w.heap.size,0,none⟩) SZW.out).trans q0,(h3.cell (p:=⟨w.heap.size,1,none⟩) SZW.out).trans q1,(h3.cell (p:=⟨w.heap.size,2,none⟩) SZW.out).trans q2,(h3.cell (p:=⟨w.heap.size,3,none⟩) SZW.out).trans q3,(h3.cell (p:=⟨w.heap.size,4,none⟩) SZW.out).trans q4,(h3.cell (p:=⟨(ad.add (i.toNat * 2)).block,(ad.add (i.toNat * 2)).off+1,none⟩) (World.block_lt_of_cell? wr _ e1)).trans e1⟩⟩
       have hcon:=regletref13_begins.calls k2 bC bK aU bM bO aX bA bB (some ad) bP aQ A3 c3 p.f1 A1 c1 m A2 c2 em bm be wr.drew (bD dM (aO BL.out)) dT (bD dU (aO BL.out)) dY (bD dR (aO BL.out)) eB (bD HC3.out (aO (Below.refl _ _))) HLE3.out (by have:=(Kd.S_reads' (aW HS.out)).2.2;exact this) (by rw [LN.out];exact(Kd.S_reads' HS.out).2.1) (aF (aC HR.out)).2.2 (aF HR.out).2.1 HG.out
       rw [LN.out] at hcon
       go_region_held3 (fun w'=>w'.cell? ⟨w.heap.size,0,none⟩=some (.slice bC aU.length bK)∧w'.cell? ⟨w.heap.size,1,none⟩=some (.slice bM aX.length bO)∧w'.cell? ⟨w.heap.size,2,none⟩=some (.int .i64 bA)∧w'.cell? ⟨w.heap.size,3,none⟩=some (.int .i64 bB)∧w'.cell? ⟨w.heap.size,4,none⟩=some (.slice (some ad) aQ.length bP)∧w'.cell? ⟨(ad.add (i.toNat * 2)).block,(ad.add (i.toNat * 2)).off+1,none⟩=some (.slice A3 p.f1.length c3))
        (first|go_keep|exact KEEP.out _ HB3.out)
        (first|(go_at_call 46;(with_reducible refine hcon.mono ?_);rintro e w3 ⟨v3,rfl,hR5,hb3⟩;have HR5:=aM hR5;have HB3:=aM hb3;clear hR5 hb3))
       have LX:Aside0 (w3.heap[w.heap.size]?=some (.cells #[.slice bC aU.length bK,.slice bM aX.length bO,.int .i64 bA,.int .i64 bB,.slice (some ad) aQ.length bP] 26 (0,0))):=⟨(HB3.out.block _ SZW.out).trans BK.out⟩
       have BL3:Aside0 (Below w.heap.size w w3):=⟨(aO BL.out).trans (HB3.out.mono (Nat.le_of_lt SZW.out))⟩
       have SZ3:Aside0 (w1.heap.size≤w3.heap.size):=⟨Nat.le_trans SZ.out HB3.out.size⟩
       have HS6:=aM (Kd.S_below (aW HS.out) HB3.out)
       have HR6:=aM (aD (aC HR.out) HB3.out)
       obtain⟨A5,c5,rfl⟩:=Kd.R_slice HR5.out
       obtain⟨g,vr,P,eA,hcell,hRow,hP,hback⟩:=S_row rfl HS6.out p.f0 HLL.out.1 HLL.out.2
       cases eA
       generalize m.getD p.f0.toNat []=row at hRow HJ
       obtain⟨A4,c4,rfl⟩:=Kd.R_slice hRow
       obtain⟨ad',A3',c3',ead,e0',e1',_,_⟩:=AT.out w3 BL3.out
       cases ead
       have hcon2:=regletref13_join.calls k2 P _ _ A5 c5 bm jb jr w w3 BL3.out hRow (fun W_ hk=>(aF (Kd.R_step (Kd.R_bound HR5.out) (fun k_ hk1 hk2=>hk.2 k_ hk2 (fun hk3=>by have:=(hP k_ hk3).1.2;have:=hk1.2.1;have:=SZ.out;simp at *;omega)))).2.2) (aF HR5.out).2.1 HJ.out
       have HBK:=aM hback
       have HP:=aM hP
       clear KEEP hback hP hRow HS6 HR5 HB3 hcon e0 e1 q0 q1 q2 q3 q4 BK BL SZ HS HR
       have q4:w3.cell? ⟨w.heap.size,4,none⟩=some (.slice (some ad) aQ.length bP):=(aG LX.out 4).trans rfl
       have p2:=eq_true HLL.out.1
       have p3:(p.f0<(m0.length:Int))=True:=eq_true (by have:=HLL.out.2;rw [LN.out] at this;exact this)
       cases jb
       all_goals
        go_wp2_with (go_at_call 47;(with_reducible refine hcon2.mono ?_);rintro e w4 ⟨rfl,hR7,hb4,hk4⟩;have HR7:=aM hR7;have HB4:=aM hb4;have HK4:=aM hk4;clear hR7 hb4 hk4 hcon2)
        have QK:Aside0 (w4.heap[w.heap.size]?=some (.cells #[.slice bC aU.length bK,.slice bM aX.length bO,.int .i64 bA,.int .i64 bB,.slice (some ad) aQ.length bP] 26 (0,0))):=⟨(HK4.out.2 _ (Nat.lt_of_lt_of_le SZ1.out SZ3.out) (fun hk=>by have:=(HP.out _ hk).1.1;omega)).trans LX.out⟩
        have SZ4:Aside0 (w1.heap.size≤w4.heap.size):=⟨Nat.le_trans SZ3.out HK4.out.1⟩
        have HS7:=aM (HBK.out w4 _ jr HK4.out HR7.out)
        have HR8:Aside0 (Kd.R Kd.bool 4 w4 w.heap.size (fun k_=>w1.heap.size≤k_) (.slice A2 em.length c2) em):=⟨Kd.R_step HR6.out (fun k_ hk hlt=>HK4.out.2 k_ hlt (fun hk3=>by have:=(HP.out _ hk3).1.2;omega))⟩
        clear HBK HP HR7 HK4 HR6 HJ LX BL3 SZ3
        go_roundg k2
        case measure=>omega
        case rel=>exact⟨m.set p.f0.toNat jr,_,_,rfl,rfl,⟨by rw [List.length_set];exact LN.out⟩,HN,⟨by have:=HK2.out;omega⟩,QK,HB4,SZ4,HS7,HR8⟩
      ·rw [if_neg hi] at H
       have he:=Option.some.inj H
       injection he with e1 e2
       subst e1
       subst e2
       clear H
       have d0:decide (i<(aQ.length:Int))=false:=decide_eq_false hi
       clear hi
       go_wp2
       go_roundg k1
       case measure=>omega
       case rel=>exact⟨m,more,rfl,LN,H2,⟨by have:=HK.out;omega⟩,BK,BL,SZ,HS,HR⟩
def regletref13_Of.f (k:Nat) (aU:List ByteArray) (aX:List (S72)) (bA:Int) (bB:Int) (aQ:List (S35)) (l1:List (S43)):Option (List Int×Bool):=
 (regletref13_Right.f k aU aX bA bB aQ).bind fun r=>if r=true then if(aU.length:Int)=0 then some ([],false) else(regletref13_Right.f k aU aX bA bB [⟨0,l1⟩]).bind fun r2=>if r2=true then(regletref13_first.f k aU aX bA bB aQ).bind fun f=>(regletref13_Empty.f k aU aX bA bB aQ).bind fun e=>(regletref13_begins.f k aU aX bA bB aQ l1 f e).bind fun y=>(regletref13_list.f k y.1).bind fun z=>some (z,y.2) else some ([],false) else some ([],false)
set_option maxHeartbeats 4000000 in
theorem regletref13_Of.calls (k:Nat) (bC:Option Addr) (bK:Nat) (aU:List ByteArray) (bM:Option Addr) (bO:Nat) (aX:List (S72)) (bA:Int) (bB:Int) (bQ:Option Addr) (bP:Nat) (aQ:List (S35)) (A1:Option Addr) (c1:Nat) (l1:List (S43)) (r1:List Int) (r2:Bool) (w:World) (dM:Kd.C Kd.string w bC aU.length aU) (dT:aU.length≤bK) (dU:Kd.C k72 w bM aX.length aX) (dY:aX.length≤bO) (dR:Kd.C k35 w bQ aQ.length aQ) (eB:aQ.length≤bP) (hr1:Kd.C k43 w A1 l1.length l1) (hc1:l1.length≤c1) (h:regletref13_Of.f k aU aX bA bB aQ l1=some (r1,r2)):
 Calls Try.prog 32 #[.agg #[.slice bC aU.length bK,.slice bM aX.length bO,.int .i64 bA,.int .i64 bB,.slice bQ aQ.length bP],.slice A1 l1.length c1] w fun e w'=>∃v0_:Value,e= .returned (.tuple #[v0_,.bool r2])∧Kd.R (Kd.int .i64) 3 w' w.heap.size (fun _=>True) v0_ r1∧Below w.heap.size w w':=by
 obtain⟨rt,hrt,h2⟩:=Option.bind_eq_some_iff.1 h
 have HRT:=aM hrt
 clear h hrt
 have H0:Aside0 (((((w.alloc (.cells #[.slice bC aU.length bK,.slice bM aX.length bO,.int .i64 bA,.int .i64 bB,.slice bQ aQ.length bP] 26)).alloc (.cells #[.int .i64 0,.slice A1 l1.length c1] 35)).alloc (.cells #[.slice bC aU.length bK,.slice bM aX.length bO,.int .i64 bA,.int .i64 bB,.slice (some ⟨w.heap.size+1+1+1,0,none⟩) 1 1] 26)).alloc (.cells #[.int .i64 0,.slice A1 l1.length c1] 35)).heap[w.heap.size]?=some (.cells #[.slice bC aU.length bK,.slice bM aX.length bO,.int .i64 bA,.int .i64 bB,.slice bQ aQ.length bP] 26 (0,0))):=⟨aI (aI (aI (heap_alloc_new w _) _) _) _⟩
 have H1:Aside0 (((((w.alloc (.cells #[.slice bC aU.length bK,.slice bM aX.length bO,.int .i64 bA,.int .i64 bB,.slice bQ aQ.length bP] 26)).alloc (.cells #[.int .i64 0,.slice A1 l1.length c1] 35)).alloc (.cells #[.slice bC aU.length bK,.slice bM aX.length bO,.int .i64 bA,.int .i64 bB,.slice (some ⟨w.heap.size+1+1+1,0,none⟩) 1 1] 26)).alloc (.cells #[.int .i64 0,.slice A1 l1.length c1] 35)).heap[w.heap.size+1+1]?=some (.cells #[.slice bC aU.length bK,.slice bM aX.length bO,.int .i64 bA,.int .i64 bB,.slice (some ⟨w.heap.size+1+1+1,0,none⟩) 1 1] 26 (0,0))):=⟨aI (by have h:=heap_alloc_new ((w.alloc (.cells #[.slice bC aU.length bK,.slice bM aX.length bO,.int .i64 bA,.int .i64 bB,.slice bQ aQ.length bP] 26)).alloc (.cells #[.int .i64 0,.slice A1 l1.length c1] 35)) (.cells #[.slice bC aU.length bK,.slice bM aX.length bO,.int .i64 bA,.int .i64 bB,.slice (some ⟨w.heap.size+1+1+1,0,none⟩) 1 1] 26);simp only [World.size_alloc] at h;exact h) _⟩
 have HC:Aside0 (∀W,Below (w.heap.size+4) ((((w.alloc (.cells #[.slice bC aU.length bK,.slice bM aX.length bO,.int .i64 bA,.int .i64 bB,.slice bQ aQ.length bP] 26)).alloc (.cells #[.int .i64 0,.slice A1 l1.length c1] 35)).alloc (.cells #[.slice bC aU.length bK,.slice bM aX.length bO,.int .i64 bA,.int .i64 bB,.slice (some ⟨w.heap.size+1+1+1,0,none⟩) 1 1] 26)).alloc (.cells #[.int .i64 0,.slice A1 l1.length c1] 35)) W→W.cell? ⟨w.heap.size,0,none⟩=some (.slice bC aU.length bK)∧W.cell? ⟨w.heap.size,1,none⟩=some (.slice bM aX.length bO)∧W.cell? ⟨w.heap.size,2,none⟩=some (.int .i64 bA)∧W.cell? ⟨w.heap.size,3,none⟩=some (.int .i64 bB)∧W.cell? ⟨w.heap.size,4,none⟩=some (.slice bQ aQ.length bP)):=⟨fun W hW=>⟨(aG ((hW.block _ (by omega)).trans H0.out) 0).trans rfl,(aG ((hW.block _ (by omega)).trans H0.out) 1).trans rfl,(aG ((hW.block _ (by omega)).trans H0.out) 2).trans rfl,(aG ((hW.block _ (by omega)).trans H0.out) 3).trans rfl,(aG ((hW.block _ (by omega)).trans H0.out) 4).trans rfl⟩⟩
 have HD:Aside0 (∀W,Below (w.heap.size+4) ((((w.alloc (.cells #[.slice bC aU.length bK,.slice bM aX.length bO,.int .i64 bA,.int .i64 bB,.slice bQ aQ.length bP] 26)).alloc (.cells #[.int .i64 0,.slice A1 l1.length c1] 35)).alloc (.cells #[.slice bC aU.length bK,.slice bM aX.length bO,.int .i64 bA,.int .i64 bB,.slice (some ⟨w.heap.size+1+1+1,0,none⟩) 1 1] 26)).alloc (.cells #[.int .i64 0,.slice A1 l1.length c1] 35)) W→W.cell? ⟨w.heap.size+1+1,0,none⟩=some (.slice bC aU.length bK)∧W.cell? ⟨w.heap.size+1+1,1,none⟩=some (.slice bM aX.length bO)∧W.cell? ⟨w.heap.size+1+1,2,none⟩=some (.int .i64 bA)∧W.cell? ⟨w.heap.size+1+1,3,none⟩=some (.int .i64 bB)∧W.cell? ⟨w.heap.size+1+1,4,none⟩=some (.slice (some ⟨w.heap.size+1+1+1,0,none⟩) 1 1)):=⟨fun W hW=>⟨(aG ((hW.block _ (by omega)).trans H1.out) 0).trans rfl,(aG ((hW.block _ (by omega)).trans H1.out) 1).trans rfl,(aG ((hW.block _ (by omega)).trans H1.out) 2).trans rfl,(aG ((hW.block _ (by omega)).trans H1.out) 3).trans rfl,(aG ((hW.block _ (by omega)).trans H1.out) 4).trans rfl⟩⟩
 have HA4:Aside0 (Below w.heap.size w ((((w.alloc (.cells #[.slice bC aU.length bK,.slice bM aX.length bO,.int .i64 bA,.int .i64 bB,.slice bQ aQ.length bP] 26)).alloc (.cells #[.int .i64 0,.slice A1 l1.length c1] 35)).alloc (.cells #[.slice bC aU.length bK,.slice bM aX.length bO,.int .i64 bA,.int .i64 bB,.slice (some ⟨w.heap.size+1+1+1,0,none⟩) 1 1] 26)).alloc (.cells #[.int .i64 0,.slice A1 l1.length c1] 35))):=⟨aN (aN (aN (aN (Below.refl _ w) _) _) _) _⟩
 have HT:Aside0 (∀W,Below (w.heap.size+4) ((((w.alloc (.cells #[.slice bC aU.length bK,.slice bM aX.length bO,.int .i64 bA,.int .i64 bB,.slice bQ aQ.length bP] 26)).alloc (.cells #[.int .i64 0,.slice A1 l1.length c1] 35)).alloc (.cells #[.slice bC aU.length bK,.slice bM aX.length bO,.int .i64 bA,.int .i64 bB,.slice (some ⟨w.heap.size+1+1+1,0,none⟩) 1 1] 26)).alloc (.cells #[.int .i64 0,.slice A1 l1.length c1] 35)) W→Kd.C k35 W (some ⟨w.heap.size+1+1+1,0,none⟩) [(⟨0,l1⟩:S35)].length [(⟨0,l1⟩:S35)]):=⟨fun W hW=>by
  have hb:W.heap[w.heap.size+1+1+1]?=some (.cells #[.int .i64 0,.slice A1 l1.length c1] 35 (0,0)):=by
   have h4:=heap_alloc_new (((w.alloc (.cells #[.slice bC aU.length bK,.slice bM aX.length bO,.int .i64 bA,.int .i64 bB,.slice bQ aQ.length bP] 26)).alloc (.cells #[.int .i64 0,.slice A1 l1.length c1] 35)).alloc (.cells #[.slice bC aU.length bK,.slice bM aX.length bO,.int .i64 bA,.int .i64 bB,.slice (some ⟨w.heap.size+1+1+1,0,none⟩) 1 1] 26)) (.cells #[.int .i64 0,.slice A1 l1.length c1] 35)
   simp only [World.size_alloc] at h4
   exact(hW.block _ (by omega)).trans h4
  refine⟨rfl,by simp,fun _=>⟨_,rfl,fun j p hj=>?_⟩⟩
  have hj0:j=0:=by
   cases j with
   |zero=>rfl
   |succ j=>simp at hj
  subst hj0
  obtain rfl:(⟨0,l1⟩:S35)=p:=by simpa using hj
  refine⟨_,rfl,k35_mk W ⟨0,l1⟩ hc1 (bD hr1 (HA4.out.trans (hW.mono (by omega)))),fun i u hi=>?_⟩
  rw [Nat.zero_mul,Nat.zero_add,add_plain,aG hb]
  simpa using hi⟩
 cases rt with
 |false=>
  rw [if_neg (by simp)] at h2
  obtain⟨rfl,rfl⟩:=Prod.mk.inj (Option.some.inj h2)
  clear h2
  go_enter Try.func32,Try.ntmps32
  go_wp2_with (go_at_call 30;(with_reducible refine(regletref13_Right.calls k bC bK aU bM bO aX bA bB bQ bP aQ false _ (bD dM HA4.out) dT (bD dU HA4.out) dY (bD dR HA4.out) eB HRT.out).mono ?_);rintro e w1 ⟨rfl,hb1⟩)
  go_ret2
  exact⟨_,rfl,Kd.R_nil _ _ _ _ _,HA4.out.trans (hb1.mono (by simp;omega))⟩
 |true=>
  rw [if_pos rfl] at h2
  by_cases hz:(aU.length:Int)=0
  ·rw [if_pos hz] at h2
   obtain⟨rfl,rfl⟩:=Prod.mk.inj (Option.some.inj h2)
   clear h2
   have hzb:((aU.length:Int)==0)=true:=beq_iff_eq.mpr hz
   have hzn:(aU.length=0)=True:=eq_true (by omega)
   clear hz
   go_enter Try.func32,Try.ntmps32
   go_wp2_with (first|(go_at_call 30;(with_reducible refine(regletref13_Right.calls k bC bK aU bM bO aX bA bB bQ bP aQ true _ (bD dM HA4.out) dT (bD dU HA4.out) dY (bD dR HA4.out) eB HRT.out).mono ?_);rintro e w1 ⟨rfl,hb1⟩;have HB1:Aside0 (Below (w.heap.size+4) ((((w.alloc (.cells #[.slice bC aU.length bK,.slice bM aX.length bO,.int .i64 bA,.int .i64 bB,.slice bQ aQ.length bP] 26)).alloc (.cells #[.int .i64 0,.slice A1 l1.length c1] 35)).alloc (.cells #[.slice bC aU.length bK,.slice bM aX.length bO,.int .i64 bA,.int .i64 bB,.slice (some ⟨w.heap.size+1+1+1,0,none⟩) 1 1] 26)).alloc (.cells #[.int .i64 0,.slice A1 l1.length c1] 35)) w1):=⟨hb1.mono (by simp)⟩;have HB01:Aside0 (Below w.heap.size w w1):=⟨HA4.out.trans (HB1.out.mono (by omega))⟩;clear hb1;obtain⟨q0,q1,q2,q3,q4⟩:=HC.out w1 HB1.out;obtain⟨t0,t1,t2,t3,t4⟩:=HD.out w1 HB1.out))
   go_ret2
   exact⟨_,rfl,Kd.R_nil _ _ _ _ _,HB01.out⟩
  ·rw [if_neg hz] at h2
   have hzb:((aU.length:Int)==0)=false:=beq_eq_false_iff_ne.mpr hz
   have hzn:(aU.length=0)=False:=eq_false (by omega)
   clear hz
   obtain⟨rt2,hrt2,h3⟩:=Option.bind_eq_some_iff.1 h2
   have HRT2:=aM hrt2
   clear h2 hrt2
   cases rt2 with
   |false=>
    rw [if_neg (by simp)] at h3
    obtain⟨rfl,rfl⟩:=Prod.mk.inj (Option.some.inj h3)
    clear h3
    go_enter Try.func32,Try.ntmps32
    go_wp2_with (first
     |(go_at_call 30;have hR2:=regletref13_Right.calls k bC bK aU bM bO aX bA bB (some ⟨w.heap.size+1+1+1,0,none⟩) 1 [(⟨0,l1⟩:S35)] false w1 (bD dM HB01.out) dT (bD dU HB01.out) dY (HT.out w1 HB1.out) (by simp) HRT2.out;simp only [List.length_cons,List.length_nil,Nat.zero_add] at hR2;(with_reducible refine hR2.mono ?_);rintro e w2 ⟨rfl,hb2⟩;have HB2:Aside0 (Below (w.heap.size+4) ((((w.alloc (.cells #[.slice bC aU.length bK,.slice bM aX.length bO,.int .i64 bA,.int .i64 bB,.slice bQ aQ.length bP] 26)).alloc (.cells #[.int .i64 0,.slice A1 l1.length c1] 35)).alloc (.cells #[.slice bC aU.length bK,.slice bM aX.length bO,.int .i64 bA,.int .i64 bB,.slice (some ⟨w.heap.size+1+1+1,0,none⟩) 1 1] 26)).alloc (.cells #[.int .i64 0,.slice A1 l1.length c1] 35)) w2):=⟨HB1.out.trans (hb2.mono (by have:=HB1.out.size;simp at this;omega))⟩;have HB02:Aside0 (Below w.heap.size w w2):=⟨HA4.out.trans (HB2.out.mono (by omega))⟩;clear hR2 hb2 t0 t1 t2 t3 t4 q0 q1 q2 q3 q4;obtain⟨q0,q1,q2,q3,q4⟩:=HC.out w2 HB2.out)
     |(go_at_call 30;(with_reducible refine(regletref13_Right.calls k bC bK aU bM bO aX bA bB bQ bP aQ true _ (bD dM HA4.out) dT (bD dU HA4.out) dY (bD dR HA4.out) eB HRT.out).mono ?_);rintro e w1 ⟨rfl,hb1⟩;have HB1:Aside0 (Below (w.heap.size+4) ((((w.alloc (.cells #[.slice bC aU.length bK,.slice bM aX.length bO,.int .i64 bA,.int .i64 bB,.slice bQ aQ.length bP] 26)).alloc (.cells #[.int .i64 0,.slice A1 l1.length c1] 35)).alloc (.cells #[.slice bC aU.length bK,.slice bM aX.length bO,.int .i64 bA,.int .i64 bB,.slice (some ⟨w.heap.size+1+1+1,0,none⟩) 1 1] 26)).alloc (.cells #[.int .i64 0,.slice A1 l1.length c1] 35)) w1):=⟨hb1.mono (by simp)⟩;have HB01:Aside0 (Below w.heap.size w w1):=⟨HA4.out.trans (HB1.out.mono (by omega))⟩;clear hb1;obtain⟨q0,q1,q2,q3,q4⟩:=HC.out w1 HB1.out;obtain⟨t0,t1,t2,t3,t4⟩:=HD.out w1 HB1.out))
    go_ret2
    exact⟨_,rfl,Kd.R_nil _ _ _ _ _,HB02.out⟩
   |true=>
    rw [if_pos rfl] at h3
    obtain⟨f,hf,h4⟩:=Option.bind_eq_some_iff.1 h3
    obtain⟨em,he,h5⟩:=Option.bind_eq_some_iff.1 h4
    obtain⟨⟨bl,bb⟩,hbg,h6⟩:=Option.bind_eq_some_iff.1 h5
    obtain⟨ri,hri,h7⟩:=Option.bind_eq_some_iff.1 h6
    obtain⟨rfl,rfl⟩:=Prod.mk.inj (Option.some.inj h7)
    have HF:=aM hf
    have HE:=aM he
    have HBG:=aM hbg
    have HRI:=aM hri
    clear h3 h4 h5 h6 h7 hf he hbg hri
    go_enter Try.func32,Try.ntmps32
    go_upto_region 6 with(first
     |(go_at_call 30;have hR2:=regletref13_Right.calls k bC bK aU bM bO aX bA bB (some ⟨w.heap.size+1+1+1,0,none⟩) 1 [(⟨0,l1⟩:S35)] true w1 (bD dM HB01.out) dT (bD dU HB01.out) dY (HT.out w1 HB1.out) (by simp) HRT2.out;simp only [List.length_cons,List.length_nil,Nat.zero_add] at hR2;(with_reducible refine hR2.mono ?_);rintro e w2 ⟨rfl,hb2⟩;have HB2:Aside0 (Below (w.heap.size+4) ((((w.alloc (.cells #[.slice bC aU.length bK,.slice bM aX.length bO,.int .i64 bA,.int .i64 bB,.slice bQ aQ.length bP] 26)).alloc (.cells #[.int .i64 0,.slice A1 l1.length c1] 35)).alloc (.cells #[.slice bC aU.length bK,.slice bM aX.length bO,.int .i64 bA,.int .i64 bB,.slice (some ⟨w.heap.size+1+1+1,0,none⟩) 1 1] 26)).alloc (.cells #[.int .i64 0,.slice A1 l1.length c1] 35)) w2):=⟨HB1.out.trans (hb2.mono (by have:=HB1.out.size;simp at this;omega))⟩;have HB02:Aside0 (Below w.heap.size w w2):=⟨HA4.out.trans (HB2.out.mono (by omega))⟩;clear hR2 hb2 t0 t1 t2 t3 t4 q0 q1 q2 q3 q4;obtain⟨q0,q1,q2,q3,q4⟩:=HC.out w2 HB2.out)
     |(go_at_call 30;(with_reducible refine(regletref13_Right.calls k bC bK aU bM bO aX bA bB bQ bP aQ true _ (bD dM HA4.out) dT (bD dU HA4.out) dY (bD dR HA4.out) eB HRT.out).mono ?_);rintro e w1 ⟨rfl,hb1⟩;have HB1:Aside0 (Below (w.heap.size+4) ((((w.alloc (.cells #[.slice bC aU.length bK,.slice bM aX.length bO,.int .i64 bA,.int .i64 bB,.slice bQ aQ.length bP] 26)).alloc (.cells #[.int .i64 0,.slice A1 l1.length c1] 35)).alloc (.cells #[.slice bC aU.length bK,.slice bM aX.length bO,.int .i64 bA,.int .i64 bB,.slice (some ⟨w.heap.size+1+1+1,0,none⟩) 1 1] 26)).alloc (.cells #[.int .i64 0,.slice A1 l1.length c1] 35)) w1):=⟨hb1.mono (by simp)⟩;have HB01:Aside0 (Below w.heap.size w w1):=⟨HA4.out.trans (HB1.out.mono (by omega))⟩;clear hb1;obtain⟨q0,q1,q2,q3,q4⟩:=HC.out w1 HB1.out;obtain⟨t0,t1,t2,t3,t4⟩:=HD.out w1 HB1.out))
    have HFC:Aside0 (∀W:World,Below w.heap.size w W→Calls Try.prog 44 #[.agg #[.slice bC aU.length bK,.slice bM aX.length bO,.int .i64 bA,.int .i64 bB,.slice bQ aQ.length bP]] W fun e w'=>∃v0_:Value,e= .returned (v0_)∧Kd.S (Kd.slice 4 Kd.bool) 90 w' W.heap.size (fun _=>True) v0_ f∧Below W.heap.size W w'):=⟨fun W hb=>regletref13_first.calls k bC bK aU bM bO aX bA bB bQ bP aQ f W (bD dM hb) dT (bD dU hb) dY (bD dR hb) eB HF.out⟩
    have HEC:Aside0 (∀W:World,Below w.heap.size w W→Calls Try.prog 45 #[.agg #[.slice bC aU.length bK,.slice bM aX.length bO,.int .i64 bA,.int .i64 bB,.slice bQ aQ.length bP]] W fun e w'=>∃v0_:Value,e= .returned (v0_)∧Kd.R Kd.bool 4 w' W.heap.size (fun _=>True) v0_ em∧Below W.heap.size W w'):=⟨fun W hb=>regletref13_Empty.calls k bC bK aU bM bO aX bA bB bQ bP aQ em W (bD dM hb) dT (bD dU hb) dY (bD dR hb) eB HE.out⟩
    go_cut [8,9] from 10 (fun s8 s9 wc=>∃A7 c7,s8= .slice A7 bl.length c7∧s9= .bool bb∧Aside0 (Kd.R Kd.bool 4 wc w.heap.size (fun _=>True) (.slice A7 bl.length c7) bl)∧Aside0 (Below w.heap.size w wc))
    case first=>
     go_region_held3 (fun W=>W.cell? ⟨w.heap.size,0,none⟩=some (.slice bC aU.length bK)∧W.cell? ⟨w.heap.size,1,none⟩=some (.slice bM aX.length bO)∧W.cell? ⟨w.heap.size,2,none⟩=some (.int .i64 bA)∧W.cell? ⟨w.heap.size,3,none⟩=some (.int .i64 bB)∧W.cell? ⟨w.heap.size,4,none⟩=some (.slice bQ aQ.length bP))
      (first|exact HC.out _ KBB.out|exact HC.out _ KBL.out|exact HC.out _ KB1.out|exact HC.out _ (Below.drew HB2.out)|go_keep)
      (first
       |(go_at_call 44;(with_reducible refine(HFC.out w2.drew (aO HB02.out)).mono ?_);rintro e wf ⟨vf,rfl,hSf,hbf⟩;obtain⟨Af,cf,rfl⟩:=Kd.S_slice hSf;have HSF:=aM hSf;have HBF:Aside0 (Below w.heap.size w wf):=⟨((aO HB02.out)).trans (hbf.mono ((aO HB02.out)).size)⟩;have KB1:Aside0 (Below (w.heap.size+4) ((((w.alloc (.cells #[.slice bC aU.length bK,.slice bM aX.length bO,.int .i64 bA,.int .i64 bB,.slice bQ aQ.length bP] 26)).alloc (.cells #[.int .i64 0,.slice A1 l1.length c1] 35)).alloc (.cells #[.slice bC aU.length bK,.slice bM aX.length bO,.int .i64 bA,.int .i64 bB,.slice (some ⟨w.heap.size+1+1+1,0,none⟩) 1 1] 26)).alloc (.cells #[.int .i64 0,.slice A1 l1.length c1] 35)) wf):=⟨((Below.drew HB2.out)).trans (hbf.mono (by have:=((Below.drew HB2.out)).size;simp at this ⊢;omega))⟩;clear hSf hbf q0 q1 q2 q3 q4)
       |(go_at_call 44;(with_reducible refine(HFC.out we HBE.out).mono ?_);rintro e wf ⟨vf,rfl,hSf,hbf⟩;obtain⟨Af,cf,rfl⟩:=Kd.S_slice hSf;have HBL:Aside0 (Below w.heap.size w wf):=⟨(HBE.out).trans (hbf.mono (HBE.out).size)⟩;have KBL:Aside0 (Below (w.heap.size+4) ((((w.alloc (.cells #[.slice bC aU.length bK,.slice bM aX.length bO,.int .i64 bA,.int .i64 bB,.slice bQ aQ.length bP] 26)).alloc (.cells #[.int .i64 0,.slice A1 l1.length c1] 35)).alloc (.cells #[.slice bC aU.length bK,.slice bM aX.length bO,.int .i64 bA,.int .i64 bB,.slice (some ⟨w.heap.size+1+1+1,0,none⟩) 1 1] 26)).alloc (.cells #[.int .i64 0,.slice A1 l1.length c1] 35)) wf):=⟨(KB1.out).trans (hbf.mono (by have:=(KB1.out).size;simp at this ⊢;omega))⟩;have CF:=aM (Kd.S_reads' hSf).2;have CE:=aM (And.intro (aF HRE.out).2.1 (bD (aF HRE.out).2.2 hbf));clear hSf hbf)
       |(go_at_call 45;(with_reducible refine(HEC.out w2.drew (aO HB02.out)).mono ?_);rintro e we ⟨ve,rfl,hRe,hbe⟩;obtain⟨Ae,ce,rfl⟩:=Kd.R_slice hRe;have HRE:=aM hRe;have HBE:Aside0 (Below w.heap.size w we):=⟨((aO HB02.out)).trans (hbe.mono ((aO HB02.out)).size)⟩;have KB1:Aside0 (Below (w.heap.size+4) ((((w.alloc (.cells #[.slice bC aU.length bK,.slice bM aX.length bO,.int .i64 bA,.int .i64 bB,.slice bQ aQ.length bP] 26)).alloc (.cells #[.int .i64 0,.slice A1 l1.length c1] 35)).alloc (.cells #[.slice bC aU.length bK,.slice bM aX.length bO,.int .i64 bA,.int .i64 bB,.slice (some ⟨w.heap.size+1+1+1,0,none⟩) 1 1] 26)).alloc (.cells #[.int .i64 0,.slice A1 l1.length c1] 35)) we):=⟨((Below.drew HB2.out)).trans (hbe.mono (by have:=((Below.drew HB2.out)).size;simp at this ⊢;omega))⟩;clear hRe hbe q0 q1 q2 q3 q4)
       |(go_at_call 45;(with_reducible refine(HEC.out wf HBF.out).mono ?_);rintro e we ⟨ve,rfl,hRe,hbe⟩;obtain⟨Ae,ce,rfl⟩:=Kd.R_slice hRe;have HBL:Aside0 (Below w.heap.size w we):=⟨(HBF.out).trans (hbe.mono (HBF.out).size)⟩;have KBL:Aside0 (Below (w.heap.size+4) ((((w.alloc (.cells #[.slice bC aU.length bK,.slice bM aX.length bO,.int .i64 bA,.int .i64 bB,.slice bQ aQ.length bP] 26)).alloc (.cells #[.int .i64 0,.slice A1 l1.length c1] 35)).alloc (.cells #[.slice bC aU.length bK,.slice bM aX.length bO,.int .i64 bA,.int .i64 bB,.slice (some ⟨w.heap.size+1+1+1,0,none⟩) 1 1] 26)).alloc (.cells #[.int .i64 0,.slice A1 l1.length c1] 35)) we):=⟨(KB1.out).trans (hbe.mono (by have:=(KB1.out).size;simp at this ⊢;omega))⟩;have CE:=aM (aF hRe).2;have CF:=aM (And.intro (Kd.S_reads' HSF.out).2.1 (bD (Kd.S_reads' HSF.out).2.2 hbe));clear hRe hbe)
       |(go_at_call 46;(with_reducible refine(regletref13_begins.calls k bC bK aU bM bO aX bA bB bQ bP aQ A1 c1 l1 Af cf f Ae ce em bl bb _ (bD dM HBL.out) dT (bD dU HBL.out) dY (bD dR HBL.out) eB (bD hr1 HBL.out) hc1 CF.out.2 CF.out.1 CE.out.2 CE.out.1 HBG.out).mono ?_);rintro e wb ⟨vb,rfl,hRb,hbb⟩;obtain⟨A7,c7,rfl⟩:=Kd.R_slice hRb;have HRB:=aM (bL hRb HBL.out.size);have HBB:Aside0 (Below w.heap.size w wb):=⟨HBL.out.trans (hbb.mono HBL.out.size)⟩;have KBB:Aside0 (Below (w.heap.size+4) ((((w.alloc (.cells #[.slice bC aU.length bK,.slice bM aX.length bO,.int .i64 bA,.int .i64 bB,.slice bQ aQ.length bP] 26)).alloc (.cells #[.int .i64 0,.slice A1 l1.length c1] 35)).alloc (.cells #[.slice bC aU.length bK,.slice bM aX.length bO,.int .i64 bA,.int .i64 bB,.slice (some ⟨w.heap.size+1+1+1,0,none⟩) 1 1] 26)).alloc (.cells #[.int .i64 0,.slice A1 l1.length c1] 35)) wb):=⟨KBL.out.trans (hbb.mono (by have:=KBL.out.size;simp at this ⊢;omega))⟩;clear hRb hbb))
     all_goals
      go_wp2_with fail
      go_meet
      case rel=>exact⟨A7,c7,rfl,rfl,HRB,HBB⟩
    case rest=>
     obtain⟨A7,c7,rfl,rfl,HRB,HBB⟩:=hcut
     go_wp2_with (go_at_call 49;(with_reducible refine(regletref13_list.calls k A7 c7 bl ri _ (aF HRB.out).2.2 (aF HRB.out).2.1 HRI.out).mono ?_);rintro e w5 ⟨v5,rfl,hR5,hb5⟩;have HR5:=aM hR5;have HB5:=aM hb5;clear hR5 hb5)
     go_ret2
     exact⟨_,rfl,bL HR5.out HBB.out.size,HBB.out.trans (HB5.out.mono HBB.out.size)⟩
def rJoinRow (k:Nat) (n:Int) (m:List Bool) (out:List (List Bool)):Option (Bool×List (List Bool)):=
 if 0≤n then if n<(out.length:Int) then(regletref13_join.f k (out.getD n.toNat []) m).bind fun b=>some (b.1,out.set n.toNat b.2) else none else none
def rJoinFrom (k:Nat) (left:Int) (m:List Bool) (e:Bool) (out:List (List Bool)):Option (List Bool):=
 if e=true then if 0≤left then if left<(out.length:Int) then(regletref13_join.f k m (out.getD left.toNat [])).bind fun b=>some b.2 else none else none else some m
def rFollowIn (k:Nat) (aU:List ByteArray) (aX:List (S72)) (bA:Int) (bB:Int) (aQ:List (S35)) (f:List (List Bool)) (em:List Bool) (left:Int):List (S43)→Bool→List (List Bool)→Option (Bool×List (List Bool))
 | [],more,out=>some (more,out)
 |y::ys,more,out=>if y.f0=true then rFollowIn k aU aX bA bB aQ f em left ys more out else
  (regletref13_begins.f k aU aX bA bB aQ ys f em).bind fun l=>(rJoinFrom k left l.1 l.2 out).bind fun m=>(rJoinRow k y.f1 m out).bind fun b=>rFollowIn k aU aX bA bB aQ f em left ys (if b.1=true then true else more) b.2
def rFollowPs (k:Nat) (aU:List ByteArray) (aX:List (S72)) (bA:Int) (bB:Int) (aQ:List (S35)) (f:List (List Bool)) (em:List Bool):List (S35)→Bool→List (List Bool)→Option (Bool×List (List Bool))
 | [],more,out=>some (more,out)
 |p::ps,more,out=>(rFollowIn k aU aX bA bB aQ f em p.f0 p.f1 more out).bind fun b=>rFollowPs k aU aX bA bB aQ f em ps b.1 b.2
def rFollowOut (kk:Nat) (aU:List ByteArray) (aX:List (S72)) (bA:Int) (bB:Int) (aQ:List (S35)) (f:List (List Bool)) (em:List Bool):Nat→List (List Bool)→Bool→Option (List (List Bool))
 |0,_,_=>none
 |k+1,out,more=>if more=true then(rFollowPs kk aU aX bA bB aQ f em aQ false out).bind fun b=>rFollowOut kk aU aX bA bB aQ f em k b.2 b.1 else some out
def rFollow0 (nt:Nat) (out:List (List Bool)):Option (List (List Bool)):=
 if 0<out.length then if nt<(out.getD 0 []).length then some (out.set 0 ((out.getD 0 []).set nt true)) else none else some out
def regletref13_Follow.f (k:Nat) (aU:List ByteArray) (aX:List (S72)) (bA:Int) (bB:Int) (aQ:List (S35)):Option (List (List Int)):=
 if aQ.length≤9223372036854775807∧aQ.all (fun p=>decide (p.f1.length≤9223372036854775807))=true then
 (regletref13_Right.f k aU aX bA bB aQ).bind fun r=>if r=true then(regletref13_marks.f k aU aX bA bB aQ).bind fun out=>(regletref13_first.f k aU aX bA bB aQ).bind fun f=>(regletref13_Empty.f k aU aX bA bB aQ).bind fun em=>(rFollow0 aX.length out).bind fun out0=>(rFollowOut k aU aX bA bB aQ f em k out0 true).bind fun o=>regletref13_lists.f k o else some []
 else none
structure RFollowI (w w5:World) (lo hi:Nat) (Ao:Option Addr) (co N:Nat) (out:List (List Bool)) (W:World):Prop where
 bel:Below w.heap.size w W
 r:Kd.S (Kd.slice 4 Kd.bool) 90 W w.heap.size (fun k=>lo≤k∧k<hi) (.slice Ao N co) out
 k:Kept w5 W (fun k=>lo≤k∧k<hi)
 h:hi≤W.heap.size
section
variable {w w5:World}{lo hi:Nat}{Ao:Option Addr}{co N:Nat}{out out':List (List Bool)}{W W':World}
theorem RFollowI.below (h:RFollowI w w5 lo hi Ao co N out W) (hb:Below W.heap.size W W'):RFollowI w w5 lo hi Ao co N out W':=
 ⟨h.bel.trans (hb.mono h.bel.size),Kd.S_below h.r hb,h.k.below hb,Nat.le_trans h.h hb.size⟩
end
set_option maxHeartbeats 1000000 in
theorem rjoin_from (k:Nat) (w w5 W:World) (lo hi:Nat) (Ao:Option Addr) (co N:Nat) (out:List (List Bool)) (HI:RFollowI w w5 lo hi Ao co N out W) (left:Int) (hl0:0≤left) (hl1:left<(out.length:Int)) (m m':List Bool) (b:Bool) (B:Nat) (hB:w5.heap.size≤B) (hhi:hi≤w5.heap.size) (hBW:B≤W.heap.size) (A2:Option Addr) (c2:Nat) (hm:Kd.R Kd.bool 4 W w.heap.size (fun k=>B≤k) (.slice A2 m.length c2) m) (h:regletref13_join.f k m (out.getD left.toNat [])=some (b,m')):
 ∃(go:Nat) (A4:Option Addr) (c4 m4:Nat),Ao=some ⟨go,0,none⟩∧W.cell? ⟨go,left.toNat,none⟩=some (.slice A4 m4 c4)∧
  Calls Try.prog 47 #[.slice A2 m.length c2,.slice A4 m4 c4] W fun e w'=>e= .returned (.bool b)∧Aside0 (RFollowI w w5 lo hi Ao co N out w')∧Aside0 (Kd.R Kd.bool 4 w' w.heap.size (fun k=>B≤k) (.slice A2 m.length c2) m')∧Aside0 (Kept W w' (fun k=>B≤k)):=by
 obtain⟨go,vr,P,eA,hcell,hRow,hP,hback⟩:=S_row rfl HI.r left hl0 hl1
 obtain⟨A4,c4,rfl⟩:=Kd.R_slice hRow
 refine⟨go,A4,c4,_,eA,hcell,?_⟩
 refine(regletref13_join.calls k (fun k=>B≤k) _ m A4 c4 (out.getD left.toNat []) b m' w W HI.bel hm (Kd.C_kept_own hRow (fun k hk hh=>by have:=(hP k hk).1.2;omega)) (aF hRow).2.1 h).mono ?_
 rintro e w3 ⟨rfl,hR3,hb3,hk3⟩
 refine⟨rfl,⟨⟨hb3,Kd.S_kept HI.r hk3 (fun k h1 h2=>by omega),HI.k.then_ hk3 (fun k h2=> .inr (Nat.le_trans hB h2)),Nat.le_trans HI.h hk3.1⟩⟩,⟨Kd.R_mono hR3 (fun k hk=>hk.elim id (fun h2=>Nat.le_trans hBW h2))⟩,⟨hk3⟩⟩
set_option maxHeartbeats 1000000 in
theorem rjoin_row (k:Nat) (w w5 W:World) (lo hi:Nat) (Ao:Option Addr) (co N:Nat) (out out':List (List Bool)) (HI:RFollowI w w5 lo hi Ao co N out W) (n:Int) (m:List Bool) (n2:Nat) (b:Bool) (B:Nat) (hhi:hi≤B) (A2:Option Addr) (c2:Nat) (hm:Kd.R Kd.bool 4 W w.heap.size (fun k=>B≤k) (.slice A2 n2 c2) m) (h:rJoinRow k n m out=some (b,out')):
 ∃(go:Nat) (A4:Option Addr) (c4 m4:Nat),0≤n∧n<(out.length:Int)∧Ao=some ⟨go,0,none⟩∧W.cell? ⟨go,n.toNat,none⟩=some (.slice A4 m4 c4)∧out'.length=out.length∧
  Calls Try.prog 47 #[.slice A4 m4 c4,.slice A2 n2 c2] W fun e w'=>e= .returned (.bool b)∧Aside0 (RFollowI w w5 lo hi Ao co N out' w')∧Aside0 (Kept W w' (fun k=>lo≤k∧k<hi)):=by
 unfold rJoinRow at h
 split at h
 case isFalse=>simp at h
 rename_i h0
 split at h
 case isFalse=>simp at h
 rename_i h1
 obtain⟨⟨ab,ar⟩,had,h2⟩:=Option.bind_eq_some_iff.1 h
 obtain⟨rfl,rfl⟩:=Prod.mk.inj (Option.some.inj h2)
 have hn2:=(aF hm).1
 subst hn2
 obtain⟨go,vr,P,eA,hcell,hRow,hP,hback⟩:=S_row rfl HI.r n h0 h1
 obtain⟨A4,c4,rfl⟩:=Kd.R_slice hRow
 refine⟨go,A4,c4,_,h0,h1,eA,hcell,by simp,?_⟩
 refine(regletref13_join.calls k P _ _ A2 c2 m ab ar w W HI.bel hRow (Kd.C_kept_own hm (fun k hk hp=>by have:=(hP k hp).1.2;omega)) (aF hm).2.1 had).mono ?_
 rintro e w3 ⟨rfl,hR3,hb3,hk3⟩
 exact⟨rfl,⟨⟨hb3,hback w3 _ ar hk3 hR3,HI.k.then_ hk3 (fun k h2=> .inl (hP k h2).1),Nat.le_trans HI.h hk3.1⟩⟩,⟨Kept.mono hk3 (fun k hk=>(hP k hk).1)⟩⟩
theorem infoSymR:(Try.prog.info? 43).map (fun i=>(i.zero,i.size,i.bytes))=some (some (.agg #[.bool false,.int .i64 0]),2,16):=by kernel_rfl
set_option maxHeartbeats 4000000 in
set_option maxRecDepth 100000 in
theorem regletref13_Follow.calls (k:Nat) (bC:Option Addr) (bK:Nat) (aU:List ByteArray) (bM:Option Addr) (bO:Nat) (aX:List (S72)) (bA:Int) (bB:Int) (bQ:Option Addr) (bP:Nat) (aQ:List (S35)) (r:List (List Int)) (w:World) (dM:Kd.C Kd.string w bC aU.length aU) (dT:aU.length≤bK) (dU:Kd.C k72 w bM aX.length aX) (dY:aX.length≤bO) (dR:Kd.C k35 w bQ aQ.length aQ) (eB:aQ.length≤bP) (h:regletref13_Follow.f k aU aX bA bB aQ=some r):
 Calls Try.prog 31 #[.agg #[.slice bC aU.length bK,.slice bM aX.length bO,.int .i64 bA,.int .i64 bB,.slice bQ aQ.length bP]] w fun e w'=>∃v0_:Value,e= .returned (v0_)∧Kd.S (Kd.slice 3 (Kd.int .i64)) 32 w' w.heap.size (fun _=>True) v0_ r∧Below w.heap.size w w':=by
 unfold regletref13_Follow.f at h
 split at h
 case isFalse=>simp at h
 rename_i hsz
 have HSZ:=aM hsz
 clear hsz
 obtain⟨rt,hrt,h2⟩:=Option.bind_eq_some_iff.1 h
 have HRT:=aM hrt
 clear h hrt
 have HA1:Aside0 (Below w.heap.size w (w.alloc (.cells #[.slice bC aU.length bK,.slice bM aX.length bO,.int .i64 bA,.int .i64 bB,.slice bQ aQ.length bP] 26))):=⟨(Below.refl _ w).alloc (Nat.le_refl _) _⟩
 have HC:Aside0 (∀W,Below (w.heap.size+1) (w.alloc (.cells #[.slice bC aU.length bK,.slice bM aX.length bO,.int .i64 bA,.int .i64 bB,.slice bQ aQ.length bP] 26)) W→W.cell? ⟨w.heap.size,0,none⟩=some (.slice bC aU.length bK)∧W.cell? ⟨w.heap.size,1,none⟩=some (.slice bM aX.length bO)∧W.cell? ⟨w.heap.size,2,none⟩=some (.int .i64 bA)∧W.cell? ⟨w.heap.size,3,none⟩=some (.int .i64 bB)∧W.cell? ⟨w.heap.size,4,none⟩=some (.slice bQ aQ.length bP)):=⟨fun W hW=>⟨(hW.cell (p:=⟨w.heap.size,0,none⟩) (by simp)).trans (by simp),(hW.cell (p:=⟨w.heap.size,1,none⟩) (by simp)).trans (by simp),(hW.cell (p:=⟨w.heap.size,2,none⟩) (by simp)).trans (by simp),(hW.cell (p:=⟨w.heap.size,3,none⟩) (by simp)).trans (by simp),(hW.cell (p:=⟨w.heap.size,4,none⟩) (by simp)).trans (by simp)⟩⟩
 cases rt with
 |false=>
  rw [if_neg (by simp)] at h2
  obtain rfl:=Option.some.inj h2
  clear h2
  go_enter Try.func31,Try.ntmps31
  go_wp2_with (go_at_call 30;(with_reducible refine(regletref13_Right.calls k bC bK aU bM bO aX bA bB bQ bP aQ false _ (bD dM HA1.out) dT (bD dU HA1.out) dY (bD dR HA1.out) eB HRT.out).mono ?_);rintro e w1 ⟨rfl,hb1⟩)
  go_ret
  exact⟨_,rfl,Kd.S_nil _ _ _ _ _,HA1.out.trans (hb1.mono (by simp))⟩
 |true=>
  rw [if_pos rfl] at h2
  obtain⟨m0,hm0,h3⟩:=Option.bind_eq_some_iff.1 h2
  obtain⟨f,hf,h4⟩:=Option.bind_eq_some_iff.1 h3
  obtain⟨em,he,h5⟩:=Option.bind_eq_some_iff.1 h4
  obtain⟨out0,ho0,h6⟩:=Option.bind_eq_some_iff.1 h5
  obtain⟨out,hout,hlists⟩:=Option.bind_eq_some_iff.1 h6
  have HM0:=aM hm0
  have HF:=aM hf
  have HE:=aM he
  have Ze:=aM ho0
  have HOUT:=aM hout
  have HL:=aM hlists
  clear h2 h3 h4 h5 h6 hm0 hf he ho0 hout hlists
  have HFC:Aside0 (∀W:World,Below w.heap.size w W→Calls Try.prog 44 #[.agg #[.slice bC aU.length bK,.slice bM aX.length bO,.int .i64 bA,.int .i64 bB,.slice bQ aQ.length bP]] W fun e w'=>∃v0_:Value,e= .returned (v0_)∧Kd.S (Kd.slice 4 Kd.bool) 90 w' W.heap.size (fun _=>True) v0_ f∧Below W.heap.size W w'):=⟨fun W hb=>regletref13_first.calls k bC bK aU bM bO aX bA bB bQ bP aQ f W (bD dM hb) dT (bD dU hb) dY (bD dR hb) eB HF.out⟩
  have HEC:Aside0 (∀W:World,Below w.heap.size w W→Calls Try.prog 45 #[.agg #[.slice bC aU.length bK,.slice bM aX.length bO,.int .i64 bA,.int .i64 bB,.slice bQ aQ.length bP]] W fun e w'=>∃v0_:Value,e= .returned (v0_)∧Kd.R Kd.bool 4 w' W.heap.size (fun _=>True) v0_ em∧Below W.heap.size W w'):=⟨fun W hb=>regletref13_Empty.calls k bC bK aU bM bO aX bA bB bQ bP aQ em W (bD dM hb) dT (bD dU hb) dY (bD dR hb) eB HE.out⟩
  go_enter Try.func31,Try.ntmps31
  go_upto_region 4 with(first
   |(go_at_call 30;(with_reducible refine(regletref13_Right.calls k bC bK aU bM bO aX bA bB bQ bP aQ true _ (bD dM HA1.out) dT (bD dU HA1.out) dY (bD dR HA1.out) eB HRT.out).mono ?_);rintro e w1 ⟨rfl,hb1⟩;have HB1:Aside0 (Below (w.heap.size+1) (w.alloc (.cells #[.slice bC aU.length bK,.slice bM aX.length bO,.int .i64 bA,.int .i64 bB,.slice bQ aQ.length bP] 26)) w1):=⟨hb1.mono (by simp)⟩;have HB01:Aside0 (Below w.heap.size w w1):=⟨HA1.out.trans (hb1.mono (by simp))⟩;clear hb1;obtain⟨q0,q1,q2,q3,q4⟩:=HC.out w1 HB1.out)
   |(go_at_call 43;(with_reducible refine(regletref13_marks.calls k bC bK aU bM bO aX bA bB bQ bP aQ m0 _ (bD dM HB01.out) dT (bD dU HB01.out) dY (bD dR HB01.out) eB HM0.out).mono ?_);rintro e w3 ⟨v3,rfl,hS3,hb3⟩;obtain⟨Ao,co,rfl⟩:=Kd.S_slice hS3;have HB3:Aside0 (Below (w.heap.size+1) (w.alloc (.cells #[.slice bC aU.length bK,.slice bM aX.length bO,.int .i64 bA,.int .i64 bB,.slice bQ aQ.length bP] 26)) w3):=⟨HB1.out.trans (hb3.mono (by have:=HB1.out.size;simpa using this))⟩;have HB03:Aside0 (Below w.heap.size w w3):=⟨HB01.out.trans (hb3.mono HB01.out.size)⟩;have HS3:Aside0 (Kd.S (Kd.slice 4 Kd.bool) 90 w3 w.heap.size (fun k=>w1.heap.size≤k∧k<w3.heap.size) (.slice Ao m0.length co) m0):=⟨Kd.S_lower (Kd.S_mono (Kd.S_bound hS3) (fun k hk=>⟨hk.2.1,hk.2.2.1⟩)) HB01.out.size⟩;have SZ3:Aside0 (w.heap.size<w1.heap.size∧w1.heap.size≤w3.heap.size):=⟨by have:=HB1.out.size;simp at this;omega,hb3.size⟩;clear hS3 hb3 q0 q1 q2 q3 q4;obtain⟨q0,q1,q2,q3,q4⟩:=HC.out w3 HB3.out))
  go_cut [4,5] from 12 (fun s4 s5 wc=>∃Af cf Ae ce,s4= .slice Af f.length cf∧s5= .slice Ae em.length ce∧Aside0 (Below w3.heap.size w3 wc)∧Aside0 (Kd.S (Kd.slice 4 Kd.bool) 90 wc w.heap.size (fun k=>w3.heap.size≤k) (.slice Af f.length cf) f)∧Aside0 (Kd.R Kd.bool 4 wc w.heap.size (fun k=>w3.heap.size≤k) (.slice Ae em.length ce) em))
  case first=>
   have HC3:Aside0 (∀W,Below w3.heap.size w3 W→W.cell? ⟨w.heap.size,0,none⟩=some (.slice bC aU.length bK)∧W.cell? ⟨w.heap.size,1,none⟩=some (.slice bM aX.length bO)∧W.cell? ⟨w.heap.size,2,none⟩=some (.int .i64 bA)∧W.cell? ⟨w.heap.size,3,none⟩=some (.int .i64 bB)∧W.cell? ⟨w.heap.size,4,none⟩=some (.slice bQ aQ.length bP)):=⟨fun W hW=>HC.out W (HB3.out.trans (hW.mono (by have:=HB3.out.size;simpa using this)))⟩
   go_region_held3 (fun W=>W.cell? ⟨w.heap.size,0,none⟩=some (.slice bC aU.length bK)∧W.cell? ⟨w.heap.size,1,none⟩=some (.slice bM aX.length bO)∧W.cell? ⟨w.heap.size,2,none⟩=some (.int .i64 bA)∧W.cell? ⟨w.heap.size,3,none⟩=some (.int .i64 bB)∧W.cell? ⟨w.heap.size,4,none⟩=some (.slice bQ aQ.length bP))
    (first|exact HC3.out _ H3L.out|exact HC3.out _ KB1.out|exact HC3.out _ (show Below w3.heap.size w3 w3.drew from aO (Below.refl _ w3))|go_keep)
    (first
     |(go_at_call 44;(with_reducible refine(HFC.out w3.drew (aO HB03.out)).mono ?_);rintro e wf ⟨vf,rfl,hSf,hbf⟩;obtain⟨Af,cf,rfl⟩:=Kd.S_slice hSf;have HSF:=aM (Kd.S_bound hSf);have H3F:Aside0 (Below w3.heap.size w3 wf):=⟨((show Below w3.heap.size w3 w3.drew from aO (Below.refl _ w3))).trans (hbf.mono ((show Below w3.heap.size w3 w3.drew from aO (Below.refl _ w3))).size)⟩;have KB1:=H3F;clear hSf hbf q0 q1 q2 q3 q4)
     |(go_at_call 44;(with_reducible refine(HFC.out we (HB03.out.trans (H3E.out.mono HB03.out.size))).mono ?_);rintro e wf ⟨vf,rfl,hSf,hbf⟩;obtain⟨Af,cf,rfl⟩:=Kd.S_slice hSf;have HSF:=aM (Kd.S_bound hSf);have H3L:Aside0 (Below w3.heap.size w3 wf):=⟨(H3E.out).trans (hbf.mono (H3E.out).size)⟩;have CF:Aside0 (Kd.S (Kd.slice 4 Kd.bool) 90 wf w.heap.size (fun k=>w3.heap.size≤k) (.slice Af f.length cf) f):=⟨Kd.S_lower (Kd.S_mono HSF.out (fun k hk=>Nat.le_trans (H3E.out).size hk.2.1)) (Nat.le_trans HB03.out.size (H3E.out).size)⟩;have CE:Aside0 (Kd.R Kd.bool 4 wf w.heap.size (fun k=>w3.heap.size≤k) (.slice Ae em.length ce) em):=⟨bL (Kd.R_mono (aD HRE.out hbf) (fun k hk=>hk.2.1)) HB03.out.size⟩;clear hSf hbf)
     |(go_at_call 45;(with_reducible refine(HEC.out w3.drew (aO HB03.out)).mono ?_);rintro e we ⟨ve,rfl,hRe,hbe⟩;obtain⟨Ae,ce,rfl⟩:=Kd.R_slice hRe;have HRE:=aM (Kd.R_bound hRe);have H3E:Aside0 (Below w3.heap.size w3 we):=⟨((show Below w3.heap.size w3 w3.drew from aO (Below.refl _ w3))).trans (hbe.mono ((show Below w3.heap.size w3 w3.drew from aO (Below.refl _ w3))).size)⟩;have KB1:=H3E;clear hRe hbe q0 q1 q2 q3 q4)
     |(go_at_call 45;(with_reducible refine(HEC.out wf (HB03.out.trans (H3F.out.mono HB03.out.size))).mono ?_);rintro e we ⟨ve,rfl,hRe,hbe⟩;obtain⟨Ae,ce,rfl⟩:=Kd.R_slice hRe;have HRE:=aM (Kd.R_bound hRe);have H3L:Aside0 (Below w3.heap.size w3 we):=⟨(H3F.out).trans (hbe.mono (H3F.out).size)⟩;have CE:Aside0 (Kd.R Kd.bool 4 we w.heap.size (fun k=>w3.heap.size≤k) (.slice Ae em.length ce) em):=⟨bL (Kd.R_mono HRE.out (fun k hk=>Nat.le_trans (H3F.out).size hk.2.1)) (Nat.le_trans HB03.out.size (H3F.out).size)⟩;have CF:Aside0 (Kd.S (Kd.slice 4 Kd.bool) 90 we w.heap.size (fun k=>w3.heap.size≤k) (.slice Af f.length cf) f):=⟨Kd.S_lower (Kd.S_mono (Kd.S_below HSF.out hbe) (fun k hk=>hk.2.1)) HB03.out.size⟩;clear hRe hbe))
   all_goals
    go_wp2_with fail
    go_meet
    case rel=>exact⟨Af,cf,Ae,ce,rfl,rfl,H3L,CF,CE⟩
  case rest=>
   obtain⟨Af,cf,Ae,ce,rfl,rfl,H35,CF,CE⟩:=hcut
   obtain⟨w5,ew5⟩:∃w5:World,w5=wc:=⟨_,rfl⟩
   subst ew5
   have HI0:Aside0 (RFollowI w w5 w1.heap.size w3.heap.size Ao co m0.length m0 w5):=⟨⟨HB03.out.trans (H35.out.mono HB03.out.size),Kd.S_below HS3.out H35.out,Kept.refl _ _,H35.out.size⟩⟩
   have HC5:Aside0 (∀W,Kept w5 W (fun k=>w1.heap.size≤k∧k<w3.heap.size)→W.cell? ⟨w.heap.size,0,none⟩=some (.slice bC aU.length bK)∧W.cell? ⟨w.heap.size,1,none⟩=some (.slice bM aX.length bO)∧W.cell? ⟨w.heap.size,2,none⟩=some (.int .i64 bA)∧W.cell? ⟨w.heap.size,3,none⟩=some (.int .i64 bB)∧W.cell? ⟨w.heap.size,4,none⟩=some (.slice bQ aQ.length bP)):=⟨fun W hk=>by
    obtain⟨a0,a1,a2,a3,a4⟩:=HC.out w5 (HB3.out.trans (H35.out.mono (by have:=HB3.out.size;simpa using this)))
    have hn:¬(w1.heap.size≤w.heap.size∧w.heap.size<w3.heap.size):=by have:=SZ3.out;omega
    exact⟨Go.Proofs.YtapjfnfengefpaaW.PrintWords.cell_kept a0 hk hn,Go.Proofs.YtapjfnfengefpaaW.PrintWords.cell_kept a1 hk hn,Go.Proofs.YtapjfnfengefpaaW.PrintWords.cell_kept a2 hk hn,Go.Proofs.YtapjfnfengefpaaW.PrintWords.cell_kept a3 hk hn,Go.Proofs.YtapjfnfengefpaaW.PrintWords.cell_kept a4 hk hn⟩⟩
   have H35S:Aside0 (w3.heap.size≤w5.heap.size):=⟨H35.out.size⟩
   clear HA1 HM0 HF HE HFC HEC q0 q1 q2 q3 q4
   go_upto_if 23 with fail
   go_cut [] from 12 (fun w6=>Aside0 (RFollowI w w5 w1.heap.size w3.heap.size Ao co m0.length out0 w6))
   case first=>
    by_cases hpos:0<m0.length
    ·have hg:decide (0<m0.length)=true:=decide_eq_true hpos
     rw [hg]
     have H0:=Ze.out
     unfold rFollow0 at H0
     rw [if_pos hpos] at H0
     split at H0
     case isFalse=>simp at H0
     rename_i hnt
     obtain rfl:=Option.some.inj H0
     obtain⟨go,vr,P,eA,hcell,hRow,hP,hback⟩:=S_row rfl HI0.out.r 0 (by omega) (by omega)
     cases eA
     rw [show(0:Int).toNat=0 from rfl] at hRow hcell hback
     obtain⟨gr,c7,hv,_,_,_⟩:=Kd.R_form hRow (by omega)
     subst hv
     obtain⟨hx,hf⟩:=Kd.R_celln false hRow (aX.length:Int) (by omega) (by omega)
     have hput:=Kd.R_putg hRow (aX.length:Int) true
     rw [Int.toNat_natCast] at hx hf hput
     have hPgr:P gr:=hRow.1 gr (by simp [Value.ownBlock])
     have HGR:=aM (hP gr hPgr)
     have hKs:Kept w5 (w5.setCell ⟨gr,aX.length,none⟩ (.bool true)) P:=Kept.setCell (Kept.refl _ _) (.inl hPgr) _
     have hS6:=hback _ P _ hKs hput.1
     have HFS:Aside0 (RFollowI w w5 w1.heap.size w3.heap.size (some ⟨go,0,none⟩) co m0.length (m0.set 0 ((m0.getD 0 []).set aX.length true)) (w5.setCell ⟨gr,aX.length,none⟩ (.bool true))):=⟨⟨aL HI0.out.bel (show w.heap.size≤gr from by have:=HGR.out.1.1;have:=SZ3.out;omega),hS6,Kept.mono hKs (fun k hk=>(hP k hk).1),by simpa using HI0.out.h⟩⟩
     have hne1:go≠gr:=fun e=>HGR.out.2 e.symm
     have hne3:w.heap.size≠gr:=by have:=HGR.out.1.1;have:=SZ3.out;omega
     obtain⟨q0,q1,q2,q3,q4⟩:=HC5.out w5 (Kept.refl _ _)
     have KEND:=aM (show _∧_ from⟨Go.Proofs.YtapjfnfengefpaaW.PrintWords.cell_kept q1 (Kept.drew (Kept.setCell (Kept.refl w5 (fun k=>k=gr)) (p:=⟨gr,aX.length,none⟩) (.inl rfl) (.bool true))) hne3,Go.Proofs.YtapjfnfengefpaaW.PrintWords.cell_kept hcell (Kept.drew (Kept.setCell (Kept.refl w5 (fun k=>k=gr)) (p:=⟨gr,aX.length,none⟩) (.inl rfl) (.bool true))) hne1⟩)
     generalize hlr:(m0.getD 0 []).length=lr at hcell hnt KEND
     have p1:((aX.length:Int)<(lr:Int))=True:=eq_true (by omega)
     have p2:(0≤(aX.length:Int))=True:=eq_true (by omega)
     have p3:((0:Int)<(m0.length:Int))=True:=eq_true (by omega)
     have p4:(0<m0.length)=True:=eq_true hpos
     have p5:(aX.length<lr)=True:=eq_true hnt
     clear hRow hback hput hPgr hKs hS6 hP hpos H0 hnt hlr
     go_upto_region 6 with fail
     go_region_held3 (fun W=>W.cell? ⟨w.heap.size,1,none⟩=some (.slice bM aX.length bO)∧W.cell? ⟨go,0,none⟩=some (.slice (some ⟨gr,0,none⟩) lr c7))
      (first|exact KEND.out|go_keep)
      (fail)
     go_wp2_with fail
     go_meet
     case rel=>exact⟨HFS.out.below (aO (Below.refl _ _))⟩
    ·have hg:decide (0<m0.length)=false:=decide_eq_false hpos
     rw [hg]
     have H0:=Ze.out
     unfold rFollow0 at H0
     rw [if_neg hpos] at H0
     obtain rfl:=Option.some.inj H0
     clear H0
     go_wp2_with fail
     go_meet
     case rel=>exact HI0
   case rest=>
    obtain⟨w6,ew6⟩:∃w6:World,w6=wc:=⟨_,rfl⟩
    subst ew6
    have HI6:=hcut
    have HOUT:=HOUT
    clear hcut HI0 HS3 Ze HRT H35
    go_wp2
    go_loopg [6] k (fun kq v6 wr=>∃(more:Bool) (out':List (List Bool)),v6= .bool more∧Aside0 (rFollowOut k aU aX bA bB aQ f em kq out' more=some out)∧Aside0 (RFollowI w w5 w1.heap.size w3.heap.size Ao co m0.length out' wr))
    case atStart=>exact⟨true,out0,rfl,HOUT,HI6⟩
    case round=>
     clear HOUT HI6
     obtain⟨more,out',rfl,HA,HI⟩:=hrel
     cases gk with
     |zero=>exact absurd HA.out (by simp [rFollowOut])
     |succ k1=>
      have H:=HA.out
      clear HA
      simp only [rFollowOut] at H
      cases more with
      |false=>
       obtain rfl:=Option.some.inj (by simpa using H)
       clear H
       have hN:=(Kd.S_reads' HI.out.r).1
       rw [hN]
       go_wp2_with (go_at_call 48;(with_reducible refine(regletref13_lists.calls k Ao co out' r _ (by have:=(Kd.S_reads' HI.out.r).2.2;exact this) (by have:=(Kd.S_reads' HI.out.r).2.1;omega) HL.out).mono ?_);rintro e w8 ⟨v8,rfl,hS8,hb8⟩;have HS8:=aM hS8;have HB8:=aM hb8;clear hS8 hb8)
       go_ret
       exact⟨_,rfl,Kd.S_lower HS8.out HI.out.bel.size,HI.out.bel.trans (HB8.out.mono HI.out.bel.size)⟩
      |true=>
       rw [if_pos rfl] at H
       obtain⟨⟨mr,outr⟩,h1,h2⟩:=Option.bind_eq_some_iff.1 H
       clear H
       have H1:=aM h1
       have H2:=aM h2
       clear h1 h2
       go_wp2
       obtain⟨wo,ewo⟩:∃wo:World,wo=wr:=⟨_,rfl⟩
       subst ewo
       go_loopg [6,7] aQ.length (fun kq v6 v7 wr=>∃(more:Bool) (i:Nat) (out':List (List Bool)),v6= .bool more∧v7= .int .i64 i∧i≤aQ.length∧aQ.length - i≤kq∧Aside0 (rFollowPs k aU aX bA bB aQ f em (aQ.drop i) more out'=some (mr,outr))∧Aside0 (RFollowI w w5 w1.heap.size w3.heap.size Ao co m0.length out' wr))
       case atStart=>exact⟨false,0,out',rfl,rfl,by omega,by omega,⟨by simpa using H1.out⟩,HI⟩
       case round=>
        clear H1 HI
        obtain⟨more,i,out',rfl,rfl,hi,hm,HA,HI⟩:=hrel
        obtain⟨q0,q1,q2,q3,q4⟩:=HC5.out wr HI.out.k
        by_cases hlt:i<aQ.length
        ·have hltz:(i:Int)<(aQ.length:Int):=by omega
         have d0:decide ((i:Int)<(aQ.length:Int))=true:=decide_eq_true hltz
         have H:=HA.out
         rw [List.drop_eq_getElem_cons hlt] at H
         simp only [rFollowPs] at H
         obtain⟨⟨mi,outi⟩,h1,h3⟩:=Option.bind_eq_some_iff.1 H
         clear H HA
         obtain⟨ad,A5,c5,ead,e0,e1,hle5,hC5⟩:=at_T35 dR (i:Int) (by omega) hltz
         have hlen:=of_decide_eq_true (List.all_eq_true.1 HSZ.out.2 (aQ[i]) (List.getElem_mem hlt))
         have hrd:rd_T35 aQ (i:Int)=aQ[i]:=by simp [rd_T35,hlt]
         rw [hrd] at e0 e1 hle5 hC5
         rw [Int.toNat_natCast] at e0 e1
         have B0:=World.block_lt_of_cell? w _ e0
         have B1:=World.block_lt_of_cell? w _ e1
         have hp:∃p,p=aQ[i]:=⟨_,rfl⟩
         obtain⟨p,hp⟩:=hp
         rw [←hp] at h1 e0 e1 hle5 hC5 hlen
         obtain⟨left,right⟩:=p
         clear hp hrd
         simp only at h1 e0 e1 hle5 hC5 hlen
         have AT:Aside0 (∀W:World,Below w.heap.size w W→W.cell? (ad.add (i * 2))=some (.int .i64 left)∧W.cell? ⟨(ad.add (i * 2)).block,(ad.add (i * 2)).off+1,none⟩=some (.slice A5 right.length c5)):=⟨fun W hb=>⟨(hb.cell B0).trans e0,(hb.cell B1).trans e1⟩⟩
         have HCR:=aM hC5
         have HH1:=aM h1
         have HH3:=aM h3
         have HLT:=aM hlt
         have HM:=aM hm
         have HLEN:=aM hlen
         have HCAP:=aM hle5
         have p0:(0≤(i:Int))=True:=eq_true (by omega)
         have p1:=eq_true hltz
         clear h1 h3 hC5 e0 e1 B0 B1 hlt hm hi hltz hlen hle5
         obtain⟨f0,f1⟩:=AT.out wr HI.out.bel
         cases ead
         go_wp2
         go_loopg [6,9] right.length (fun kq v6 v9 wr=>∃(more:Bool) (j:Nat) (out':List (List Bool)),v6= .bool more∧v9= .int .i64 j∧j≤right.length∧right.length - j≤kq∧Aside0 (rFollowIn k aU aX bA bB aQ f em left (right.drop j) more out'=some (mi,outi))∧Aside0 (RFollowI w w5 w1.heap.size w3.heap.size Ao co m0.length out' wr))
         case atStart=>exact⟨more,0,out',rfl,rfl,by omega,by omega,⟨by simpa using HH1.out⟩,HI⟩
         case round=>
          clear HH1 HI f0 f1 q0 q1 q2 q3 q4
          obtain⟨more,j,out',rfl,rfl,hj,hm,HA,HI⟩:=hrel
          obtain⟨q0,q1,q2,q3,q4⟩:=HC5.out wr HI.out.k
          by_cases hlt:j<right.length
          ·have hltz:(j:Int)<(right.length:Int):=by omega
           have d1:decide ((j:Int)<(right.length:Int))=true:=decide_eq_true hltz
           have H:=HA.out
           rw [List.drop_eq_getElem_cons hlt] at H
           simp only [rFollowIn] at H
           obtain⟨Uy,ea5,e0,e1⟩:=at_T43 HCR.out (j:Int) (by omega) hltz
           cases ea5
           have hrd:rd_T43 right (j:Int)=right[j]:=by simp [rd_T43,hlt]
           rw [hrd] at e0 e1
           rw [Int.toNat_natCast] at e0 e1
           generalize right[j]=y at H e0 e1
           obtain⟨tk,n⟩:=y
           simp only at H e0 e1
           have B0:=World.block_lt_of_cell? w _ e0
           have B1:=World.block_lt_of_cell? w _ e1
           have AT5:Aside0 (∀W:World,Below w.heap.size w W→W.cell? (Uy.add (j * 2))=some (.bool tk)∧W.cell? ⟨(Uy.add (j * 2)).block,(Uy.add (j * 2)).off+1,none⟩=some (.int .i64 n)):=⟨fun W hb=>⟨(hb.cell B0).trans e0,(hb.cell B1).trans e1⟩⟩
           have p2:(0≤(j:Int))=True:=eq_true (by omega)
           have p3:=eq_true hltz
           have HLT5:=aM hlt
           have HM5:=aM hm
           clear hlt hltz hj hm hrd HA e0 e1 B0 B1
           obtain⟨f0,f1⟩:=AT5.out wr HI.out.bel
           cases tk with
           |true=>
            rw [if_pos rfl] at H
            have HN:=aM H
            clear H
            go_wp2
            go_roundg (right.length - (j+1))
            case measure=>have:=HM5.out;have:=HLT5.out;omega
            case rel=>exact⟨more,j+1,out',rfl,congrArg (Value.int .i64) (by unfold wrap64;have:=HLT5.out;have:=HLEN.out;omega),by have:=HLT5.out;omega,Nat.le_refl _,HN,HI⟩
           |false=>
            rw [if_neg (by simp)] at H
            obtain⟨⟨m1,me⟩,hbg,H2⟩:=Option.bind_eq_some_iff.1 H
            obtain⟨m2,hjf,H3⟩:=Option.bind_eq_some_iff.1 H2
            obtain⟨⟨mb,out1⟩,hjr,HN⟩:=Option.bind_eq_some_iff.1 H3
            clear H H2 H3
            simp only at hbg hjf hjr HN
            have HNX:=aM HN
            have HJR:=aM hjr
            clear HN hjr
            have hwr:IntKind.i64.wrap ((j:Int)+1)=(j:Int)+1:=by rw [IntKind.wrap_i64];have:=HLT5.out;have:=HLEN.out;omega
            obtain⟨i0,hi0,_,hsz,_⟩:=info_parts infoSymR
            have hcut:=cut_from (P:=Try.prog) 29 43 .i64 Try.underlying29 hi0 2 hsz (some Uy) right.length c5 ((j:Int)+1) (by omega) (by have:=HLT5.out;omega)
            rw [show((j:Int)+1).toNat=j+1 by omega,←List.length_drop] at hcut
            have HCY:Aside0 (∀W',Below w.heap.size w W'→Kd.C k43 W' (if c5=j+1 then some Uy else(some Uy).map (·.add ((j+1) * 2))) (right.drop (j+1)).length (right.drop (j+1))):=⟨fun W' hk=>Kd.C_drop (bD HCR.out hk) HLT5.out HCAP.out⟩
            generalize (if c5=j+1 then some Uy else(some Uy).map (·.add ((j+1) * 2)))=A' at hcut HCY
            have hbw:Below w.heap.size w wr.drew:=aO HI.out.bel
            have hcon:=regletref13_begins.calls k bC bK aU bM bO aX bA bB (some ad) bP aQ A' (c5 - (j+1)) (right.drop (j+1)) Af cf f Ae ce em m1 me wr.drew (bD dM hbw) dT (bD dU hbw) dY (bD dR hbw) eB (HCY.out _ hbw) (by rw [List.length_drop];have:=HCAP.out;omega) (Kd.C_kept_own (S:=fun k=>w1.heap.size≤k∧k<w3.heap.size) (Kd.S_R CF.out) (fun k hk h2=>by have:=hk;omega) _ (Kept.drew HI.out.k)) (Kd.S_reads' CF.out).2.1 (Kd.C_kept_own (S:=fun k=>w1.heap.size≤k∧k<w3.heap.size) CE.out (fun k hk h2=>by have:=hk;omega) _ (Kept.drew HI.out.k)) (aF CE.out).2.1 hbg
            rw [List.length_drop] at hcon
            have HCON:=aM hcon
            clear hcon hbg hi0 hsz hbw
            have KEEP:Aside0 (∀W:World,Below wr.heap.size wr W→W.cell? ⟨w.heap.size,0,none⟩=some (.slice bC aU.length bK)∧W.cell? ⟨w.heap.size,1,none⟩=some (.slice bM aX.length bO)∧W.cell? ⟨w.heap.size,2,none⟩=some (.int .i64 bA)∧W.cell? ⟨w.heap.size,3,none⟩=some (.int .i64 bB)∧W.cell? ⟨w.heap.size,4,none⟩=some (.slice (some ad) aQ.length bP)):=⟨fun W hb=>HC5.out W (HI.out.k.below hb)⟩
            have HJF:=aM hjf
            clear hjf
            go_wp2
            go_region_held3 (fun W=>W.cell? ⟨w.heap.size,0,none⟩=some (.slice bC aU.length bK)∧W.cell? ⟨w.heap.size,1,none⟩=some (.slice bM aX.length bO)∧W.cell? ⟨w.heap.size,2,none⟩=some (.int .i64 bA)∧W.cell? ⟨w.heap.size,3,none⟩=some (.int .i64 bB)∧W.cell? ⟨w.heap.size,4,none⟩=some (.slice (some ad) aQ.length bP))
             (first|go_keep|exact KEEP.out _ KB.out)
             (first|(go_at_call 46;(with_reducible refine HCON.out.mono ?_);rintro e w2 ⟨v2,rfl,hR2,hb2⟩;obtain⟨A2,c2,rfl⟩:=Kd.R_slice hR2;have HR2:=aM hR2;have KB:Aside0 (Below wr.heap.size wr w2):=⟨(aO (Below.refl _ _)).trans hb2⟩;clear hR2 hb2 q0 q1 q2 q3 q4))
            have HI2:=aM (HI.out.below KB.out)
            have HR3:Aside0 (Kd.R Kd.bool 4 w2 w.heap.size (fun k=>wr.heap.size≤k) (.slice A2 m1.length c2) m1):=⟨bL (Kd.R_mono (Kd.R_bound HR2.out) (fun k hk=>hk.2.1)) (show w.heap.size≤wr.heap.size from HI.out.bel.size)⟩
            have HHI:Aside0 (w3.heap.size≤wr.heap.size):=⟨HI.out.h⟩
            have HBW:Aside0 (wr.heap.size≤w2.heap.size):=⟨KB.out.size⟩
            have HKS:Aside0 (w5.heap.size≤wr.heap.size):=⟨HI.out.k.1⟩
            have HJF0:=HJF.out
            have LEN:Aside0 ((m0.length:Int)=(out'.length:Int)):=⟨by have:=(Kd.S_reads' HI.out.r).1;omega⟩
            clear HCON HR2 hcut HCY f0 f1
            cases me with
            |false=>
             unfold rJoinFrom at HJF0
             rw [if_neg (by simp)] at HJF0
             obtain rfl:=Option.some.inj HJF0
             clear HJF0 HJF
             obtain⟨go,A4,c4,m4,hn0,hn1,eAo,hcell,hlen1,hcon⟩:=rjoin_row k w w5 w2 w1.heap.size w3.heap.size Ao co m0.length out' out1 HI2.out n m1 m1.length mb wr.heap.size HHI.out A2 c2 HR3.out HJR.out
             cases eAo
             have HCON2:=aM hcon
             have p6:=eq_true hn0
             have p7:(n<(m0.length:Int))=True:=eq_true (by rw [LEN.out];exact hn1)
             have y2:=(AT5.out w2 HI2.out.bel).2
             clear hcon hn0 hn1
             cases mb
             all_goals
              go_wp2_with (go_at_call 47;(with_reducible refine HCON2.out.mono ?_);rintro e w4 ⟨rfl,hI4,hK4⟩)
              go_roundg (right.length - (j+1))
              case measure=>have:=HM5.out;have:=HLT5.out;omega
              case rel=>exact⟨_,j+1,out1,rfl,congrArg (Value.int .i64) (by first|rfl|(unfold wrap64;have:=HLT5.out;have:=HLEN.out;omega)),by have:=HLT5.out;omega,Nat.le_refl _,HNX,hI4⟩
            |true=>
             unfold rJoinFrom at HJF0
             rw [if_pos rfl] at HJF0
             split at HJF0
             case isFalse=>simp at HJF0
             rename_i hl0
             split at HJF0
             case isFalse=>simp at HJF0
             rename_i hl1
             obtain⟨⟨jb,jm⟩,hjj,HJ2⟩:=Option.bind_eq_some_iff.1 HJF0
             obtain rfl:=Option.some.inj HJ2
             simp only at HJR HNX hjj
             obtain⟨go,A4,c4,m4,eAo,hcell,hcon⟩:=rjoin_from k w w5 w2 w1.heap.size w3.heap.size Ao co m0.length out' HI2.out left hl0 hl1 m1 jm jb wr.heap.size HKS.out H35S.out HBW.out A2 c2 HR3.out hjj
             cases eAo
             have HCON:=aM hcon
             have p8:=eq_true hl0
             have p9:(left<(m0.length:Int))=True:=eq_true (by rw [LEN.out];exact hl1)
             obtain⟨x0,_⟩:=AT.out w2 HI2.out.bel
             obtain⟨q0,q1,q2,q3,q4⟩:=HC5.out w2 HI2.out.k
             clear hcon hl0 hl1 HJF0 HJ2 hjj HJF q0 q1 q2 q3
             go_upto_region 21 with(go_at_call 47;(with_reducible refine HCON.out.mono ?_);rintro e w6 ⟨rfl,HI6,HR6,HK6⟩)
             clear hcell x0 q4
             obtain⟨go2,A7,c7,m7,hn0,hn1,eAo,hcell,hlen1,hcon⟩:=rjoin_row k w w5 w6 w1.heap.size w3.heap.size (some ⟨go,0,none⟩) co m0.length out' out1 HI6.out n jm m1.length mb wr.heap.size HHI.out A2 c2 HR6.out HJR.out
             obtain rfl:go=go2:=by injection eAo with eAo;injection eAo
             have HCON2:=aM hcon
             have p6:=eq_true hn0
             have p7:(n<(m0.length:Int))=True:=eq_true (by rw [LEN.out];exact hn1)
             have y2:=(AT5.out w6 HI6.out.bel).2
             clear hcon hn0 hn1
             cases mb
             all_goals
              go_wp2_with (go_at_call 47;(with_reducible refine HCON2.out.mono ?_);rintro e w4 ⟨rfl,hI4,hK4⟩)
              go_roundg (right.length - (j+1))
              case measure=>have:=HM5.out;have:=HLT5.out;omega
              case rel=>exact⟨_,j+1,out1,rfl,congrArg (Value.int .i64) (by first|rfl|(unfold wrap64;have:=HLT5.out;have:=HLEN.out;omega)),by have:=HLT5.out;omega,Nat.le_refl _,HNX,hI4⟩
          ·have hir:j=right.length:=by omega
           subst hir
           have d1:decide ((right.length:Int)<(right.length:Int))=false:=decide_eq_false (by omega)
           have H:=HA.out
           rw [List.drop_length] at H
           simp only [rFollowIn] at H
           obtain⟨rfl,rfl⟩:=Prod.mk.inj (Option.some.inj H)
           clear H HA
           go_wp2
           go_roundg (aQ.length - (i+1))
           case measure=>have:=HM.out;have:=HLT.out;omega
           case rel=>exact⟨_,i+1,_,rfl,congrArg (Value.int .i64) (by unfold wrap64;have:=HLT.out;have:=HSZ.out.1;omega),by have:=HLT.out;omega,Nat.le_refl _,HH3,HI⟩
        ·have hir:i=aQ.length:=by omega
         subst hir
         have d0:decide ((aQ.length:Int)<(aQ.length:Int))=false:=decide_eq_false (by omega)
         have H:=HA.out
         rw [List.drop_length] at H
         simp only [rFollowPs] at H
         obtain⟨rfl,rfl⟩:=Prod.mk.inj (Option.some.inj H)
         clear H HA
         go_wp2
         go_roundg k1
         case measure=>omega
         case rel=>exact⟨_,_,rfl,H2,HI⟩
end Go.Proofs.Ytapjfnfengefpaa.P
end

section
namespace Go.Proofs.Ytapjfnfengefpaa.P
open Go.RowKit Go.Proofs.YtapjfnfengefpaaW.PrintWords Go.Proofs.YtapjfnfengefpaaW.PrintLast Go.Proofs.YtapjfnfengefpaaW.PrintMore
attribute [local go_sem] max2_int min2_int max_two min_two max_three min_three max_four min_four   -- for this text's walks alone
set_option linter.unusedVariables false
set_option linter.unusedSimpArgs false
mutual
def regletref14_Predict.l0:Nat→List (List Int)→List (List Int)→Int→List ByteArray→List (S72)→Int→Int→List (S35)→Option ((List (List Int))×(List (S78)))
 |0,_,_,_,_,_,_,_,_=>none
 |k+1,x4,x5,x6,x397000,x397001,x397002,x397003,x397004=>if x6<(x397004.length:Int) then(if 0≤x6 then((regletref13_Of.f k x397000 x397001 x397002 x397003 x397004 ((rd_T35 x397004 x6).f1)).bind fun Jf=>(if Jf.2=true then(if 0≤((rd_T35 x397004 x6).f0) then(if((rd_T35 x397004 x6).f0)<(x5.length:Int) then(if Jf.1.length+(rd_L5 x5 ((rd_T35 x397004 x6).f0)).length<17592186044416 then(if x4.length<5864062014805 then(regletref14_Predict.l0 k (x4++ [(Jf.1++(rd_L5 x5 ((rd_T35 x397004 x6).f0)))]) x5 (wrap64 (x6+1)) x397000 x397001 x397002 x397003 x397004) else(none)) else(none)) else(none)) else(none)) else(if x4.length<5864062014805 then(regletref14_Predict.l0 k (x4++ [Jf.1]) x5 (wrap64 (x6+1)) x397000 x397001 x397002 x397003 x397004) else(none)))) else(none)) else(regletref14_Predict.l1 k x4 ([]:List (List Int)) ([]:List (S78)) 0 x397000 x397001 x397002 x397003 x397004)
def regletref14_Predict.l1:Nat→List (List Int)→List (List Int)→List (S78)→Int→List ByteArray→List (S72)→Int→Int→List (S35)→Option ((List (List Int))×(List (S78)))
 |0,_,_,_,_,_,_,_,_,_=>none
 |k+1,x4,x9,x10,x11,x397000,x397001,x397002,x397003,x397004=>if x11<(x397000.length:Int) then(regletref14_Predict.l2 k x4 x9 x10 x11 ([]:List Int) 0 x397000 x397001 x397002 x397003 x397004) else(some (x9,x10))
def regletref14_Predict.l2:Nat→List (List Int)→List (List Int)→List (S78)→Int→List Int→Int→List ByteArray→List (S72)→Int→Int→List (S35)→Option ((List (List Int))×(List (S78)))
 |0,_,_,_,_,_,_,_,_,_,_,_=>none
 |k+1,x4,x9,x10,x11,x12,x13,x397000,x397001,x397002,x397003,x397004=>if x13≤(x397001.length:Int) then(regletref14_Predict.l3 k x4 x9 x10 x11 x12 x13 (-1) 0 x397000 x397001 x397002 x397003 x397004) else(if x9.length<5864062014805 then(regletref14_Predict.l1 k x4 (x9++ [x12]) x10 (wrap64 (x11+1)) x397000 x397001 x397002 x397003 x397004) else(none))
def regletref14_Predict.l3:Nat→List (List Int)→List (List Int)→List (S78)→Int→List Int→Int→Int→Int→List ByteArray→List (S72)→Int→Int→List (S35)→Option ((List (List Int))×(List (S78)))
 |0,_,_,_,_,_,_,_,_,_,_,_,_,_=>none
 |k+1,x4,x9,x10,x11,x12,x13,x14,x15,x397000,x397001,x397002,x397003,x397004=>if x15<(x397004.length:Int) then(if 0≤x15 then(if((rd_T35 x397004 x15).f0)=x11 then(if x15<(x4.length:Int) then((regletref14_has.f k (rd_L5 x4 x15) x13).bind fun t425=>(regletref14_Predict.j4 k x4 x9 x10 x11 x12 x13 x14 x15 (!t425) x397000 x397001 x397002 x397003 x397004)) else(none)) else(regletref14_Predict.j4 k x4 x9 x10 x11 x12 x13 x14 x15 true x397000 x397001 x397002 x397003 x397004)) else(none)) else(if x12.length<17592186044416 then(regletref14_Predict.l2 k x4 x9 x10 x11 (x12++ [x14]) (wrap64 (x13+1)) x397000 x397001 x397002 x397003 x397004) else(none))
def regletref14_Predict.j4:Nat→List (List Int)→List (List Int)→List (S78)→Int→List Int→Int→Int→Int→Bool→List ByteArray→List (S72)→Int→Int→List (S35)→Option ((List (List Int))×(List (S78)))
 |0,_,_,_,_,_,_,_,_,_,_,_,_,_,_=>none
 |k+1,x4,x9,x10,x11,x12,x13,x14,x15,x92,x397000,x397001,x397002,x397003,x397004=>if x92=true then(regletref14_Predict.l3 k x4 x9 x10 x11 x12 x13 x14 (wrap64 (x15+1)) x397000 x397001 x397002 x397003 x397004) else(if x14<0 then(regletref14_Predict.l3 k x4 x9 x10 x11 x12 x13 x15 (wrap64 (x15+1)) x397000 x397001 x397002 x397003 x397004) else(if x10.length<4398046511104 then(regletref14_Predict.l3 k x4 x9 (x10++ [(⟨x11,x13,x14,x15⟩:S78)]) x11 x12 x13 x14 (wrap64 (x15+1)) x397000 x397001 x397002 x397003 x397004) else(none)))
end
def regletref14_Predict.f (k:Nat) (aU:List ByteArray) (aX:List (S72)) (bA:Int) (bB:Int) (aQ:List (S35)):Option ((List (List Int))×(List (S78))):=(regletref13_Right.f k aU aX bA bB aQ).bind fun t397=>(if t397=true then((regletref13_Follow.f k aU aX bA bB aQ).bind fun t398=>(regletref14_Predict.l0 k ([]:List (List Int)) t398 0 aU aX bA bB aQ)) else(some (([]:List (List Int)),([]:List (S78)))))
def regletref14_Predict.T8:Bool×List (List Nat×List Nat):=(true,[([],[]),([],[]),([1],[1]),([],[]),([2,3],[2,3]),([4],[4]),([5],[5]),([0,6],[0,6]),([7],[7]),([8],[8]),([8],[8]),([9,7,0,1,2,3,4,5,6,7,8,9],[9]),([10,11,0,1,2,3,4,5,6,7,8,9,10,11],[10])])
def regletref14_Predict.B8:List Nat:= [0,0,2,0,14,30,62,127,255,511,511,1023,4095]
theorem regletref14_Predict.tab8:rtab .any (opsOf Try.f20 8)=regletref14_Predict.T8:=by kernel_rfl
theorem regletref14_Predict.bits8:waitsOk regletref14_Predict.T8.2 regletref14_Predict.B8=true:=by kernel_rfl
set_option maxHeartbeats 8000000 in
set_option maxRecDepth 100000 in
theorem regletref14_Predict.calls (k:Nat) (bC:Option Addr) (bK:Nat) (aU:List ByteArray) (bM:Option Addr) (bO:Nat) (aX:List (S72)) (bA:Int) (bB:Int) (bQ:Option Addr) (bP:Nat) (aQ:List (S35)) (r1:List (List Int)) (r2:List (S78)) (w:World) (dM:Kd.C Kd.string w bC aU.length aU) (dT:aU.length≤bK) (dU:Kd.C k72 w bM aX.length aX) (dY:aX.length≤bO) (dR:Kd.C k35 w bQ aQ.length aQ) (eB:aQ.length≤bP) (h:regletref14_Predict.f k aU aX bA bB aQ=some (r1,r2)):
 Calls Try.prog 20 #[.agg #[.slice bC aU.length bK,.slice bM aX.length bO,.int .i64 bA,.int .i64 bB,.slice bQ aQ.length bP]] w fun e w'=>∃v0_ v1_:Value,e= .returned (.tuple #[v0_,v1_])∧Kd.S (Kd.slice 3 (Kd.int .i64)) 32 w' w.heap.size (fun _=>True) v0_ r1∧Kd.R k78 78 w' w.heap.size (fun _=>True) v1_ r2∧Below w.heap.size w w':=by
 have hu26:=Try.underlying26
 have hu78:=Try.underlying78
 have eS:=aM dM
 have eU:=aM dT
 clear dM dT
 have eX:=aM dU
 have eY:=aM dY
 clear dU dY
 have dW:=aM dR
 have eZ:=aM eB
 clear dR eB
 have HB:=aM (Below.refl w.heap.size w)
 have H:((regletref13_Right.f k aU aX bA bB aQ).bind fun t397=>(if t397=true then((regletref13_Follow.f k aU aX bA bB aQ).bind fun t398=>(regletref14_Predict.l0 k ([]:List (List Int)) t398 0 aU aX bA bB aQ)) else(some (([]:List (List Int)),([]:List (S78))))))=some (r1,r2):=h
 clear h
 replace H:=Option.bind_eq_some_iff.mp H
 obtain⟨t397,A20,H⟩:=H
 replace H:(if t397=true then((regletref13_Follow.f k aU aX bA bB aQ).bind fun t398=>(regletref14_Predict.l0 k ([]:List (List Int)) t398 0 aU aX bA bB aQ)) else(some (([]:List (List Int)),([]:List (S78)))))=some (r1,r2):=H
 have A2:=aM A20
 clear A20
 by_cases c3:t397=true
 ·subst c3
  have H1:((regletref13_Follow.f k aU aX bA bB aQ).bind fun t398=>(regletref14_Predict.l0 k ([]:List (List Int)) t398 0 aU aX bA bB aQ))=some (r1,r2):=by rw [if_pos rfl] at H;exact H
  clear H
  have H:=H1
  clear H1
  replace H:=Option.bind_eq_some_iff.mp H
  obtain⟨t398,A40,H⟩:=H
  replace H:(regletref14_Predict.l0 k ([]:List (List Int)) t398 0 aU aX bA bB aQ)=some (r1,r2):=H
  have A4:=aM A40
  clear A40
  have H':=aM H
  clear H
  go_enter Try.func20,Try.ntmps20
  go_wp2_with (first|((with_reducible refine bJ (N:=1) rfl ?_);refine box_event ?hg (N:=1) ?hd (cs:=#[.slice bC aU.length bK,.slice bM aX.length bO,.int .i64 bA,.int .i64 bB,.slice bQ aQ.length bP]) (t:=26) ?hr ?_;(case hd=>rfl);(case hg=>rfl);(case hr=>first|(go_simp;done)|(go_simp;rfl));intro cS hg w5 hbox hb;have bY:=aM (bG (gW HB.out) hb);have bZ:=aM (hbox);have cA:=aM ((by rw [hg];exact(bH (gW HB.out)):w.heap.size≤cS));have cC:=aM ((by rw [hg];exact(bH (gW HB.out)):w.heap.size≤cS));clear HB;have HB:=bY;have bR:=bZ;have GW396:=cA;have AN:=cC;clear bY bZ cA cC;clear hb hbox hg;have rD:w5.cell? ⟨cS,0,none⟩=some (.slice bC aU.length bK):=(aG bR.out 0).trans rfl;have rE:w5.cell? ⟨cS,1,none⟩=some (.slice bM aX.length bO):=(aG bR.out 1).trans rfl;have rF:w5.cell? ⟨cS,2,none⟩=some (.int .i64 bA):=(aG bR.out 2).trans rfl;have rG:w5.cell? ⟨cS,3,none⟩=some (.int .i64 bB):=(aG bR.out 3).trans rfl;have rH:w5.cell? ⟨cS,4,none⟩=some (.slice bQ aQ.length bP):=(aG bR.out 4).trans rfl;have rI:=aH bR.out 0;have rJ:=aH bR.out 1;have rK:=aH bR.out 2;have rL:=aH bR.out 3;have rM:=aH bR.out 4)|((with_reducible refine bI (f:=30) rfl ?_);refine goesL_ (some 17) rfl rfl Try.func30 (by kernel_rfl) rfl #[.agg #[.slice bC aU.length bK,.slice bM aX.length bO,.int .i64 bA,.int .i64 bB,.slice bQ aQ.length bP]] rfl (by(try simp only [List.map_toArray,List.map_cons,List.map_nil]);first|done|rfl|(simp only [List.length_drop,List.length_take];rfl)) ?_;(with_reducible refine(regletref13_Right.calls k _ _ aU _ _ aX bA bB _ _ aQ true _ ?side1 ?side2 ?side3 ?side4 ?side5 ?side6 A2.out).mono ?_);(case side1=>exact gC (bD eS.out HB.out));(case side2=>exact eU.out);(case side3=>exact gC (bD eX.out HB.out));(case side4=>exact eY.out);(case side5=>exact gC (bD dW.out HB.out));(case side6=>exact eZ.out);rintro e w7 ⟨rfl,hb⟩;refine⟨_,rfl,?_⟩;have bY:=aM (bF (gB bR.out) hb);have bZ:=aM (bG (gW HB.out) hb);clear bR;clear HB;have bR:=bY;have HB:=bZ;clear bY bZ;(try clear hb);(try clear hb2);(try clear hk);(try clear hi);have lW:w7.cell? ⟨cS,0,none⟩=some (.slice bC aU.length bK):=(aG bR.out 0).trans rfl;have lX:w7.cell? ⟨cS,1,none⟩=some (.slice bM aX.length bO):=(aG bR.out 1).trans rfl;have oK:w7.cell? ⟨cS,2,none⟩=some (.int .i64 bA):=(aG bR.out 2).trans rfl;have oL:w7.cell? ⟨cS,3,none⟩=some (.int .i64 bB):=(aG bR.out 3).trans rfl;have oM:w7.cell? ⟨cS,4,none⟩=some (.slice bQ aQ.length bP):=(aG bR.out 4).trans rfl;have lY:=aH bR.out 0;have lZ:=aH bR.out 1;have oN:=aH bR.out 2;have oO:=aH bR.out 3;have oP:=aH bR.out 4)|((with_reducible refine bI (f:=31) rfl ?_);refine goesL_ (some 20) rfl rfl Try.func31 (by kernel_rfl) rfl #[.agg #[.slice bC aU.length bK,.slice bM aX.length bO,.int .i64 bA,.int .i64 bB,.slice bQ aQ.length bP]] rfl (by(try simp only [List.map_toArray,List.map_cons,List.map_nil]);first|done|rfl|(simp only [List.length_drop,List.length_take];rfl)) ?_;(with_reducible refine(regletref13_Follow.calls k _ _ aU _ _ aX bA bB _ _ aQ t398 _ ?side1 ?side2 ?side3 ?side4 ?side5 ?side6 A4.out).mono ?_);(case side1=>exact gC (bD eS.out HB.out));(case side2=>exact eU.out);(case side3=>exact gC (bD eX.out HB.out));(case side4=>exact eY.out);(case side5=>exact gC (bD dW.out HB.out));(case side6=>exact eZ.out);rintro e w9 ⟨v399,rfl,ho0,hb⟩;refine⟨_,rfl,?_⟩;have bY:=aM (Kd.S_lower ho0 (bH (gW HB.out)));have bZ:=aM (bF (gB bR.out) hb);have cA:=aM (bG (gW HB.out) hb);clear bR;clear HB;have AO:=bY;have bR:=bZ;have HB:=cA;clear bY bZ cA;(try clear hb);(try clear hb2);(try clear hk);(try clear hi);(try clear ho0)))
  go_loopg [4,6] k (fun kq v4 v6 w'=>∃(eC:List (List Int)) (bV:Int),v6= .int .i64 bV∧Aside0 (regletref14_Predict.l0 kq eC t398 bV aU aX bA bB aQ=some (r1,r2))∧Aside0 (kq≤k)∧Aside0 (Kd.S (Kd.slice 3 (Kd.int .i64)) 32 w' w.heap.size (fun k_=>some k_≠(v399:Value).ownBlock) v4 eC)∧Aside0 (Kd.S (Kd.slice 3 (Kd.int .i64)) 32 w' w.heap.size (fun k_=>some k_≠(v4:Value).ownBlock) v399 t398)∧Aside0 (w'.heap[cS]?=some (.cells #[(.slice bC aU.length bK),(.slice bM aX.length bO),.int .i64 bA,.int .i64 bB,(.slice bQ aQ.length bP)] 26 (0,0)))∧Aside0 (Below w.heap.size w w'))
  case atStart=>exact⟨(([]:List (List Int))),(0),(by first|rfl|(simp;done)|(simp [*];done)),H',⟨Nat.le_refl _⟩,⟨by first|exact Kd.S_nil _ _ _ _ _|exact Kd.N_nil _ _ _ _ _|exact Kd.V_nil _ _ _ _ _|exact Kd.Q_nil _ _ _ _ _|exact Kd.R_nil _ _ _ _ _⟩,⟨by(with_reducible repeat(first|apply Kd.S_alloc|apply aV|apply aW));exact Kd.S_mono AO.out (fun _ hk=>(by simp [Value.ownBlock]))⟩,⟨gB bR.out⟩,⟨gW HB.out⟩⟩
  case round=>
   clear H'
   (try clear c2);(try clear p2);(try clear c3);(try clear rD);(try clear rE);(try clear rF);(try clear rG);(try clear rH);(try clear lW);(try clear lX);(try clear oK);(try clear oL);(try clear oM);(try clear rI);(try clear rJ);(try clear rK);(try clear rL);(try clear rM);(try clear lY);(try clear lZ);(try clear oN);(try clear oO)
   (try clear oP)
   obtain⟨eC,bV,rfl,HA,HK1,gL,jB,bR,HB⟩:=hrel
   cases gk with
   |zero=>exact absurd HA.out (by simp [regletref14_Predict.l0])
   |succ k1=>
    have H:=HA.out
    clear HA
    simp only [regletref14_Predict.l0] at H
    by_cases c10:bV<(aQ.length:Int)
    ·rw [if_pos c10] at H
     have nN:decide (bV<(aQ.length:Int))=true:=decide_eq_true c10
     clear c10
     by_cases c11:0≤bV
     rotate_left
     ·rw [if_neg c11] at H
      exact absurd H (by simp)
     rw [if_pos c11] at H
     have tI:decide (0≤bV)=true:=decide_eq_true c11
     clear c11
     replace H:=Option.bind_eq_some_iff.mp H
     obtain⟨⟨t402,t405⟩,A120,H⟩:=H
     replace H:(if t405=true then(if 0≤((rd_T35 aQ bV).f0) then(if((rd_T35 aQ bV).f0)<(t398.length:Int) then(if t402.length+(rd_L5 t398 ((rd_T35 aQ bV).f0)).length<17592186044416 then(if eC.length<5864062014805 then(regletref14_Predict.l0 k1 (eC++ [(t402++(rd_L5 t398 ((rd_T35 aQ bV).f0)))]) t398 (wrap64 (bV+1)) aU aX bA bB aQ) else(none)) else(none)) else(none)) else(none)) else(if eC.length<5864062014805 then(regletref14_Predict.l0 k1 (eC++ [t402]) t398 (wrap64 (bV+1)) aU aX bA bB aQ) else(none)))=some (r1,r2):=H
     have A12:=aM A120
     clear A120
     by_cases c13:t405=true
     ·subst c13
      have H1:(if 0≤((rd_T35 aQ bV).f0) then(if((rd_T35 aQ bV).f0)<(t398.length:Int) then(if t402.length+(rd_L5 t398 ((rd_T35 aQ bV).f0)).length<17592186044416 then(if eC.length<5864062014805 then(regletref14_Predict.l0 k1 (eC++ [(t402++(rd_L5 t398 ((rd_T35 aQ bV).f0)))]) t398 (wrap64 (bV+1)) aU aX bA bB aQ) else(none)) else(none)) else(none)) else(none))=some (r1,r2):=by rw [if_pos rfl] at H;exact H
      clear H
      have H:=H1
      clear H1
      by_cases c14:0≤((rd_T35 aQ bV).f0)
      rotate_left
      ·rw [if_neg c14] at H
       exact absurd H (by simp)
      rw [if_pos c14] at H
      have Ac:decide (0≤((rd_T35 aQ bV).f0))=true:=decide_eq_true c14
      clear c14
      by_cases c15:((rd_T35 aQ bV).f0)<(t398.length:Int)
      rotate_left
      ·rw [if_neg c15] at H
       exact absurd H (by simp)
      rw [if_pos c15] at H
      have yH:decide (((rd_T35 aQ bV).f0)<(t398.length:Int))=true:=decide_eq_true c15
      clear c15
      by_cases c16:t402.length+(rd_L5 t398 ((rd_T35 aQ bV).f0)).length<17592186044416
      rotate_left
      ·rw [if_neg c16] at H
       exact absurd H (by simp)
      rw [if_pos c16] at H
      have AP:=aM c16
      clear c16
      obtain⟨y408,Ft⟩:∃y_:List Int,y_=(t402++(rd_L5 t398 ((rd_T35 aQ bV).f0))):=⟨_,rfl⟩
      replace H:(if eC.length<5864062014805 then(regletref14_Predict.l0 k1 (eC++ [y408]) t398 (wrap64 (bV+1)) aU aX bA bB aQ) else(none))=some (r1,r2):=by first|(rw [Ft];with_reducible exact H)|(have H2_:=(Option.bind_some _ _).symm.trans H;rw [Ft];with_reducible exact H2_)|(have H2_:=(Option.bind_some _ _).symm.trans H;with_reducible exact H2_)|with_reducible exact H|(rw [Ft];exact H)|exact H
      have AQ:=aM Ft
      clear Ft
      by_cases c17:eC.length<5864062014805
      rotate_left
      ·rw [if_neg c17] at H
       exact absurd H (by simp)
      rw [if_pos c17] at H
      have AR:=aM c17
      clear c17
      obtain⟨y411,Fu⟩:∃y_:List (List Int),y_=(eC++ [y408]):=⟨_,rfl⟩
      replace H:(regletref14_Predict.l0 k1 y411 t398 (wrap64 (bV+1)) aU aX bA bB aQ)=some (r1,r2):=by first|(rw [Fu];with_reducible exact H)|(have H2_:=(Option.bind_some _ _).symm.trans H;rw [Fu];with_reducible exact H2_)|(have H2_:=(Option.bind_some _ _).symm.trans H;with_reducible exact H2_)|with_reducible exact H|(rw [Fu];exact H)|exact H
      have AS:=aM Fu
      clear Fu
      have H':=aM H
      clear H
      have kE:wr.cell? ⟨cS,0,none⟩=some (.slice bC aU.length bK):=(aG bR.out 0).trans rfl
      have kF:wr.cell? ⟨cS,1,none⟩=some (.slice bM aX.length bO):=(aG bR.out 1).trans rfl
      have mM:wr.cell? ⟨cS,2,none⟩=some (.int .i64 bA):=(aG bR.out 2).trans rfl
      have mN:wr.cell? ⟨cS,3,none⟩=some (.int .i64 bB):=(aG bR.out 3).trans rfl
      have mO:wr.cell? ⟨cS,4,none⟩=some (.slice bQ aQ.length bP):=(aG bR.out 4).trans rfl
      have kG:=aH bR.out 0
      have kH:=aH bR.out 1
      have mP:=aH bR.out 2
      have mQ:=aH bR.out 3
      have mR:=aH bR.out 4
      try go_wp2
      have bY:=aM (aW gL.out)
      have bZ:=aM (aW jB.out)
      have cA:=aM (aK bR.out)
      have cC:=aM (aO HB.out)
      clear gL
      clear jB
      clear bR
      clear HB
      have gL:=bY
      have jB:=bZ
      have bR:=cA
      have HB:=cC
      clear bY bZ cA cC
      have p401:0≤(bV:Int):=of_decide_eq_true (by first|(with_reducible assumption)|assumption)
      have q401:bV<(aQ.length:Int):=of_decide_eq_true (by first|(with_reducible assumption)|assumption)
      obtain⟨oW,Bb,Bc,e401,jH,jI,uV,uW⟩:=at_T35 dW.out bV p401 q401
      have hw401_1:=jI
      have hw401_0:=jH
      cases e401
      replace jH:=(HB.out.cell (World.block_lt_of_cell? w _ jH)).trans jH
      replace jI:=(HB.out.cell (World.block_lt_of_cell? w _ jI)).trans jI
      have mS:=aM uW
      have Cy:=aM uV
      clear uW uV
      replace p401:=eq_true p401
      replace q401:=eq_true q401
      refine start_ (n:=13) (S:=fun w'=>w'.cell? ⟨cS,0,none⟩=some (.slice bC aU.length bK)∧w'.cell? ⟨cS,1,none⟩=some (.slice bM aX.length bO)∧w'.cell? ⟨cS,2,none⟩=some (.int .i64 bA)∧w'.cell? ⟨cS,3,none⟩=some (.int .i64 bB)∧w'.cell? ⟨cS,4,none⟩=some (.slice (some oW) aQ.length bP)∧w'.cell? (oW.add ((bV).toNat * 2))=some (.int .i64 ((rd_T35 aQ bV).f0))∧w'.cell? ⟨(oW.add ((bV).toNat * 2)).block,(oW.add ((bV).toNat * 2)).off+1,none⟩=some (.slice Bb ((rd_T35 aQ bV).f1).length Bc)) (ds:= []) #[F,F,F,F,F,F,F,F,F,F,F,F,F] (by kernel_rfl) rfl rfl ⟨(aG bR.out 0).trans rfl,(aG bR.out 1).trans rfl,(aG bR.out 2).trans rfl,(aG bR.out 3).trans rfl,(aG bR.out 4).trans rfl,((HB.out.cell (World.block_lt_of_cell? w _ hw401_0)).trans hw401_0),((HB.out.cell (World.block_lt_of_cell? w _ hw401_1)).trans hw401_1)⟩ (fun hHeld=>?_);refine with_tabW regletref14_Predict.tab8 regletref14_Predict.bits8 (fun HT_ HW_=>?_)
      generalize wr.drew=w19 at gL jB bR HB mS jH jI hHeld ⊢
      refine pure_ (i:=1) (N:=some 30) (v:=?_) (a':=?_) #[F,T,F,F,F,F,F,F,F,F,F,F,F] rfl rfl (any_of HT_.out (by kernel_rfl)) (fun _ _ _ h=>h) (Or.inl ⟨by rfl,?_⟩) ?_ ?_
      rotate_left;(intro w';go_simp;with_reducible rfl);rotate_left;(simp only [pq];rfl)
      refine pure_ (i:=3) (N:=some 32) (v:=?_) (a':=?_) #[F,T,F,T,F,F,F,F,F,F,F,F,F] rfl rfl (any_of HT_.out (by kernel_rfl)) (fun _ _ _ h=>h) (Or.inl ⟨by rfl,?_⟩) ?_ ?_
      rotate_left;(intro w';go_simp;with_reducible rfl);rotate_left;(simp only [pq];rfl)
      refine take_ (i:=0) (N:=some 29) (v:=?_) (a':=?_) #[T,T,F,T,F,F,F,F,F,F,F,F,F] rfl rfl (take_ofW HT_.out HW_.out (by kernel_rfl)) (fun _ _ _ h=>h) (Or.inl ⟨by rfl,?_⟩) hHeld ?_ ?_
      rotate_left
      ·rintro w' ⟨s0,s1,s2,s3,s4,s5,s6⟩
       go_simp
       with_reducible rfl
      rotate_left
      ·simp only [pq]
       rfl
      refine take_ (i:=2) (N:=some 31) (v:=?_) (a':=?_) #[T,T,T,T,F,F,F,F,F,F,F,F,F] rfl rfl (take_ofW HT_.out HW_.out (by kernel_rfl)) (fun _ _ _ h=>h) (Or.inl ⟨by rfl,?_⟩) hHeld ?_ ?_
      rotate_left
      ·rintro w' ⟨s0,s1,s2,s3,s4,s5,s6⟩
       go_simp
       with_reducible rfl
      rotate_left
      ·simp only [pq]
       rfl
      refine pure_ (i:=4) (N:=some 33) (v:=?_) (a':=?_) #[T,T,T,T,T,F,F,F,F,F,F,F,F] rfl rfl (any_of HT_.out (by kernel_rfl)) (fun _ _ _ h=>h) (Or.inl ⟨by rfl,?_⟩) ?_ ?_
      rotate_left;(intro w';go_simp;with_reducible rfl);rotate_left;(simp only [pq];rfl)
      refine pure_ (i:=5) (N:=some 34) (v:=?_) (a':=?_) #[T,T,T,T,T,T,F,F,F,F,F,F,F] rfl rfl (any_of HT_.out (by kernel_rfl)) (fun _ _ _ h=>h) (Or.inl ⟨by rfl,?_⟩) ?_ ?_
      rotate_left;(intro w';go_simp;with_reducible rfl);rotate_left;(simp only [pq];rfl)
      refine take_ (i:=6) (N:=some 35) (v:=?_) (a':=?_) #[T,T,T,T,T,T,T,F,F,F,F,F,F] rfl rfl (take_ofW HT_.out HW_.out (by kernel_rfl)) (fun _ _ _ h=>h) (Or.inl ⟨by rfl,?_⟩) hHeld ?_ ?_
      rotate_left
      ·rintro w' ⟨s0,s1,s2,s3,s4,s5,s6⟩
       go_simp
       with_reducible rfl
      rotate_left
      ·simp only [pq]
       rfl
      refine one_ (i:=7) (N:=some 36) #[T,T,T,T,T,T,T,T,F,F,F,F,F] rfl rfl (one_of HT_.out (by kernel_rfl)) (by decide) (fun K hK=>?_)
      refine goes_ Try.func32 (by kernel_rfl) rfl #[.agg #[.slice bC aU.length bK,.slice bM aX.length bO,.int .i64 bA,.int .i64 bB,.slice (some oW) aQ.length bP],.slice Bb ((rd_T35 aQ bV).f1).length Bc] (by rfl) rfl rfl (by(try simp only [List.map_toArray,List.map_cons,List.map_nil]);first|done|rfl|(simp only [List.length_drop,List.length_take];rfl)) ?_
      with_reducible refine(regletref13_Of.calls k1 _ _ aU _ _ aX bA bB _ _ aQ _ _ ((rd_T35 aQ bV).f1) t402 true _ ?side1 ?side2 ?side3 ?side4 ?side5 ?side6 ?side7 ?side8 A12.out).mono ?_
      (case side1=>exact gC (bD eS.out HB.out))
      (case side2=>exact eU.out)
      (case side3=>exact gC (bD eX.out HB.out))
      (case side4=>exact eY.out)
      (case side5=>exact gC (bD dW.out HB.out))
      (case side6=>exact eZ.out)
      (case side7=>exact gC (bD mS.out HB.out))
      (case side8=>exact Cy.out)
      rintro e w20 ⟨v403,rfl,ho0,hb⟩
      refine⟨_,rfl,?_⟩
      have bY:=aM (Kd.S_elder' (gS gL.out) (Kd.R_base ho0) hb)
      have bZ:=aM (Kd.S_elder' (gS jB.out) (Kd.R_base ho0) hb)
      have cA:=aM (bL ho0 (bH (gW HB.out)))
      have cC:=aM (bF (gB bR.out) hb)
      have cQ:=aM (bG (gW HB.out) hb)
      clear gL
      clear jB
      clear bR
      clear HB
      have gL:=bY
      have jB:=bZ
      have yK:=cA
      have bR:=cC
      have HB:=cQ
      clear bY bZ cA cC cQ
      (try have mS:=aM (bD mS.out hb))
      (try clear hb);(try clear hb2);(try clear hk);(try clear hi);(try clear ho0)
      refine hK.out _ _ ⟨(aG bR.out 0).trans rfl,(aG bR.out 1).trans rfl,(aG bR.out 2).trans rfl,(aG bR.out 3).trans rfl,(aG bR.out 4).trans rfl,((HB.out.cell (World.block_lt_of_cell? w _ hw401_0)).trans hw401_0),((HB.out.cell (World.block_lt_of_cell? w _ hw401_1)).trans hw401_1)⟩ (fun hHeld=>?_)
      clear hK K
      refine norm_ (a':=?_) ?_ ?_
      rotate_left
      ·show Act.put _ (some 36) _=_
       simp only [pq]
       rfl
      refine pure_ (i:=8) (N:=some 28) (v:=?_) (a':=?_) #[T,T,T,T,T,T,T,T,T,F,F,F,F] rfl rfl (any_of HT_.out (by kernel_rfl)) (fun _ _ _ h=>h) (Or.inl ⟨by rfl,?_⟩) ?_ ?_
      rotate_left;(intro w';go_simp;with_reducible rfl);rotate_left;(simp only [pq];rfl)
      refine pure_ (i:=9) (N:=some 37) (v:=?_) (a':=?_) #[T,T,T,T,T,T,T,T,T,T,F,F,F] rfl rfl (any_of HT_.out (by kernel_rfl)) (fun _ _ _ h=>h) (Or.inl ⟨by rfl,?_⟩) ?_ ?_
      rotate_left;(intro w';go_simp;with_reducible rfl);rotate_left;(simp only [pq];rfl)
      refine pure_ (i:=10) (N:=some 38) (v:=?_) (a':=?_) #[T,T,T,T,T,T,T,T,T,T,T,F,F] rfl rfl (any_of HT_.out (by kernel_rfl)) (fun _ _ _ h=>h) (Or.inl ⟨by rfl,?_⟩) ?_ ?_
      rotate_left;(intro w';go_simp;with_reducible rfl);rotate_left;(simp only [pq];rfl)
      refine pure_ (i:=11) (N:=some 7) (v:=?_) (a':=?_) #[T,T,T,T,T,T,T,T,T,T,T,T,F] rfl rfl (any_of HT_.out (by kernel_rfl)) (fun _ _ _ h=>h) (Or.inl ⟨by rfl,?_⟩) ?_ ?_
      rotate_left;(intro w';go_simp;with_reducible rfl);rotate_left;(simp only [pq];rfl)
      refine pure_ (i:=12) (N:=some 8) (v:=?_) (a':=?_) #[T,T,T,T,T,T,T,T,T,T,T,T,T] rfl rfl (any_of HT_.out (by kernel_rfl)) (fun _ _ _ h=>h) (Or.inl ⟨by rfl,?_⟩) ?_ ?_
      rotate_left;(intro w';go_simp;with_reducible rfl);rotate_left;(simp only [pq];rfl)
      refine done_ (done_of HT_.out (by kernel_rfl)) ?_
      have uX:w20.cell? ⟨cS,0,none⟩=some (.slice bC aU.length bK):=(aG bR.out 0).trans rfl
      have uY:w20.cell? ⟨cS,1,none⟩=some (.slice bM aX.length bO):=(aG bR.out 1).trans rfl
      have uZ:w20.cell? ⟨cS,2,none⟩=some (.int .i64 bA):=(aG bR.out 2).trans rfl
      have vA:w20.cell? ⟨cS,3,none⟩=some (.int .i64 bB):=(aG bR.out 3).trans rfl
      have vB:w20.cell? ⟨cS,4,none⟩=some (.slice (some oW) aQ.length bP):=(aG bR.out 4).trans rfl
      have vC:=aH bR.out 0
      have vD:=aH bR.out 1
      have vE:=aH bR.out 2
      have vF:=aH bR.out 3
      have vG:=aH bR.out 4
      have p406:0≤(bV:Int):=of_decide_eq_true (by first|(with_reducible assumption)|assumption)
      have q406:bV<(aQ.length:Int):=of_decide_eq_true (by first|(with_reducible assumption)|assumption)
      obtain⟨AU,LY,LZ,e406,qQ,qR,Jg,Jh⟩:=at_T35 dW.out bV p406 q406
      obtain rfl:oW=AU:=(by injection e406)
      replace qQ:=(HB.out.cell (World.block_lt_of_cell? w _ qQ)).trans qQ
      replace qR:=(HB.out.cell (World.block_lt_of_cell? w _ qR)).trans qR
      have IA:=aM Jh
      have IB:=aM Jg
      clear Jh Jg
      replace p406:=eq_true p406
      replace q406:=eq_true q406
      obtain⟨QL,Lk,MA⟩:=Kd.S_slice jB.out
      subst MA
      have p407:0≤(((rd_T35 aQ bV).f0):Int):=of_decide_eq_true (by first|(with_reducible assumption)|assumption)
      have q407:((rd_T35 aQ bV).f0)<(t398.length:Int):=of_decide_eq_true (by first|(with_reducible assumption)|assumption)
      obtain⟨Bu,MC,MD,e407,vH,Ji,Jj⟩:=at_L5 (Kd.S_reads' jB.out).2.2 ((rd_T35 aQ bV).f0) p407 q407
      cases e407
      obtain⟨ce407,hce407,hMe407,hcc407⟩:=Kd.S_get jB.out [] ((rd_T35 aQ bV).f0) p407 (by first|exact q407|exact of_decide_eq_true (by first|(with_reducible assumption)|assumption)|(have e_:=(Kd.S_reads' jB.out).1;omega))
      obtain⟨ve407_0,rfl,ge407_0⟩:=hMe407
      have hv407_0:=hcc407 0 _ rfl
      rw [Nat.add_zero,show((Kd.slice 3 (Kd.int .i64))).sz=1 from rfl,Nat.mul_one] at hv407_0
      replace hv407_0:=Option.some.inj (hv407_0.symm.trans vH)
      rw [hv407_0] at ge407_0
      have HL407_0:=aM (show Kd.R (Kd.int .i64) 3 _ _ _ _ (rd_L5 t398 ((rd_T35 aQ bV).f0)) from ge407_0)
      clear hv407_0 ge407_0
      clear hcc407 hce407
      have Jk:=aM Jj
      have IC:=aM Ji
      clear Jj Ji
      replace p407:=eq_true p407
      replace q407:=eq_true q407
      try go_wp2_with (first|((with_reducible refine gate_builtin (b:= .append) (xs:=#[.tmp 40,.tmp 49]) rfl ?_);at_builtin;refine Kd.R_append_rows (Kd.int .i64) (w0:=w) w.heap.size rfl (.tmp 40) (.tmp 49) 32 3 (.int .i64 0) 8 rfl Try.underlying32 info3 rfl (by decide) (by omega) v403 t402 (rd_L5 t398 ((rd_T35 aQ bV).f0)) _ _ _ (fun _=>True) (fun _=>False) rfl rfl ?aO ?aR (fun _ _ h=>h) (fun _ h=>h.elim) ?aF ?aB ?aS ?aL ?_;(case aR=>exact gC (by repeat(first|(with_reducible exact Jk.out)|(with_reducible refine Kd.C_alloc ?_ _)|(with_reducible refine Kd.C_drewN ?_ _)|(with_reducible refine Kd.C_drew ?_)|exact Jk.out)));(case aB=>exact(gW HB.out));(case aF=>exact(fun _ _=>trivial));(case aO=>exact(gR yK.out));(case aS=>exact(bH (gW HB.out)));(case aL=>have:=AP.out;omega);intro v409 w23 ho hb hg hat;rw [←AQ.out] at ho;have bY:=aM (Kd.S_after (ok:=(fun k_=>some k_≠(.slice (some Bu) t398.length Lk:Value).ownBlock)) (gS gL.out) hg hat);have bZ:=aM (Kd.S_after (ok:=(fun k_=>some k_≠(u4:Value).ownBlock)) (gS jB.out) hg hat);have cA:=aM (blk_grown (gB bR.out) hg (Kd.R_ne yK.out bR.out (by decide)));have cC:=aM (Kd.R_after (ok:=(fun k_=>some k_≠(u4:Value).ownBlock∧some k_≠(.slice (some Bu) t398.length Lk:Value).ownBlock)) (by(with_reducible repeat(first|apply aA|apply aB|apply aC));exact Kd.R_mono HL407_0.out (fun _ hk=>⟨⟨hk.1.1,hk.2⟩,hk.1.2⟩)) hg hat);have cQ:=aM (hb);have dA:=aM (ho);clear gL;clear jB;clear bR;clear HL407_0;clear HB;clear yK;have gL:=bY;have jB:=bZ;have bR:=cA;have HL407_0:=cC;have HB:=cQ;have Jl:=dA;clear bY bZ cA cC cQ dA;clear ho hb hg hat;obtain⟨Bd,Be,Qt⟩:=Kd.R_slice Jl.out;subst Qt)|((with_reducible refine gate_builtin (b:= .append) (xs:=#[.tmp 51,.tmp 53]) rfl ?_);at_builtin;refine Kd.S_append (Kd.slice 3 (Kd.int .i64)) (w0:=w) w.heap.size rfl (.tmp 51) (.tmp 53) 27 32 (.slice none 0 0) 24 rfl Try.underlying27 info32 rfl (by decide) (by omega) u4 eC y408 [.slice Bd y408.length Be] (fun k_=>some k_≠(.slice (some Bu) t398.length Lk:Value).ownBlock) (fun k_=>some k_=(.slice Bd y408.length Be:Value).ownBlock) rfl rfl ?aP (fun k_ hk_=>((Kd.R_mono (ok':=fun k_=>((fun k_=>some k_≠(.slice (some Bu) t398.length Lk:Value).ownBlock)) k_∧some k_≠(u4:Value).ownBlock) (Kd.R_apart' (Kd.R_apart' (Jl.out) (Kd.S_typed jB.out) (by decide)) (Kd.S_typed gL.out) (by decide)) (fun k_ hk=>⟨hk.1.2,hk.2⟩))).1 k_ hk_.symm) ?aF ?aO ?aB ?aS ?aL ?_;(case aP=>exact Kd.M_row (Kd.R_mono (Kd.R_tight rfl (Kd.R_mono (ok':=fun k_=>((fun k_=>some k_≠(.slice (some Bu) t398.length Lk:Value).ownBlock)) k_∧some k_≠(u4:Value).ownBlock) (Kd.R_apart' (Kd.R_apart' (Jl.out) (Kd.S_typed jB.out) (by decide)) (Kd.S_typed gL.out) (by decide)) (fun k_ hk=>⟨hk.1.2,hk.2⟩))) (fun _ h_=>h_)));(case aB=>exact(gW HB.out));(case aF=>exact(fun k_ hk=>Kd.fresh' (Kd.S_lt (gS jB.out)) k_ hk));(case aO=>exact(by(with_reducible repeat(first|apply Kd.S_alloc|apply aV|apply aW));exact Kd.S_mono gL.out (fun k_ hk=>⟨hk.1,fun e_=>hk.2 e_⟩)));(case aS=>exact(bH (gW HB.out)));(case aL=>have:=AR.out;omega);intro v412 w24 ho hb hg hat;rw [←AS.out] at ho;have bY:=aM (Kd.S_after (ok:=(fun k_=>some k_≠(.slice Bd y408.length Be:Value).ownBlock)) (by(with_reducible repeat(first|apply Kd.S_alloc|apply aV|apply aW));exact Kd.S_mono jB.out (fun _ hk=>⟨hk.2,hk.1⟩)) hg hat);have bZ:=aM (blk_grown (gB bR.out) hg (Kd.S_ne gL.out bR.out (by decide)));have cA:=aM (Kd.R_after (ok:=(fun k_=>some k_≠(.slice (some Bu) t398.length Lk:Value).ownBlock∧some k_≠(.slice Bd y408.length Be:Value).ownBlock)) (by(with_reducible repeat(first|apply aA|apply aB|apply aC));exact Kd.R_mono HL407_0.out (fun _ hk=>⟨⟨hk.1.2,hk.2⟩,hk.1.1⟩)) hg hat);have cC:=aM (hb);have cQ:=aM (ho);clear jB;clear bR;clear HL407_0;clear HB;clear gL;clear Jl;have jB:=bY;have bR:=bZ;have HL407_0:=cA;have HB:=cC;have AV:=cQ;clear bY bZ cA cC cQ;clear ho hb hg hat))
      go_roundg k1
      case measure=>have:=HK1.out;omega
      case rel=>exact⟨(y411),(wrap64 (bV+1)),(by first|rfl|(simp;done)|(simp [*];done)),H',⟨by have:=HK1.out;omega⟩,⟨gS AV.out⟩,⟨by(with_reducible repeat(first|apply Kd.S_alloc|apply aV|apply aW));exact Kd.S_mono jB.out (fun _ hk=>hk.2)⟩,⟨gB bR.out⟩,⟨gW HB.out⟩⟩
     ·replace c13:=Bool.eq_false_iff.mpr c13
      subst c13
      have H1:(if eC.length<5864062014805 then(regletref14_Predict.l0 k1 (eC++ [t402]) t398 (wrap64 (bV+1)) aU aX bA bB aQ) else(none))=some (r1,r2):=by rw [if_neg (show ¬(false=true) by decide)] at H;exact H
      clear H
      have H:=H1
      clear H1
      by_cases c26:eC.length<5864062014805
      rotate_left
      ·rw [if_neg c26] at H
       exact absurd H (by simp)
      rw [if_pos c26] at H
      have AW:=aM c26
      clear c26
      obtain⟨y414,Fv⟩:∃y_:List (List Int),y_=(eC++ [t402]):=⟨_,rfl⟩
      replace H:(regletref14_Predict.l0 k1 y414 t398 (wrap64 (bV+1)) aU aX bA bB aQ)=some (r1,r2):=by first|(rw [Fv];with_reducible exact H)|(have H2_:=(Option.bind_some _ _).symm.trans H;rw [Fv];with_reducible exact H2_)|(have H2_:=(Option.bind_some _ _).symm.trans H;with_reducible exact H2_)|with_reducible exact H|(rw [Fv];exact H)|exact H
      have AX:=aM Fv
      clear Fv
      have H':=aM H
      clear H
      have sI:wr.cell? ⟨cS,0,none⟩=some (.slice bC aU.length bK):=(aG bR.out 0).trans rfl
      have sJ:wr.cell? ⟨cS,1,none⟩=some (.slice bM aX.length bO):=(aG bR.out 1).trans rfl
      have vI:wr.cell? ⟨cS,2,none⟩=some (.int .i64 bA):=(aG bR.out 2).trans rfl
      have vJ:wr.cell? ⟨cS,3,none⟩=some (.int .i64 bB):=(aG bR.out 3).trans rfl
      have vK:wr.cell? ⟨cS,4,none⟩=some (.slice bQ aQ.length bP):=(aG bR.out 4).trans rfl
      have sK:=aH bR.out 0
      have sL:=aH bR.out 1
      have vL:=aH bR.out 2
      have vM:=aH bR.out 3
      have vN:=aH bR.out 4
      try go_wp2
      have bY:=aM (aW gL.out)
      have bZ:=aM (aW jB.out)
      have cA:=aM (aK bR.out)
      have cC:=aM (aO HB.out)
      clear gL
      clear jB
      clear bR
      clear HB
      have gL:=bY
      have jB:=bZ
      have bR:=cA
      have HB:=cC
      clear bY bZ cA cC
      have p401:0≤(bV:Int):=of_decide_eq_true (by first|(with_reducible assumption)|assumption)
      have q401:bV<(aQ.length:Int):=of_decide_eq_true (by first|(with_reducible assumption)|assumption)
      obtain⟨oW,Bb,Bc,e401,jH,jI,uV,uW⟩:=at_T35 dW.out bV p401 q401
      have hw401_1:=jI
      have hw401_0:=jH
      cases e401
      replace jH:=(HB.out.cell (World.block_lt_of_cell? w _ jH)).trans jH
      replace jI:=(HB.out.cell (World.block_lt_of_cell? w _ jI)).trans jI
      have mS:=aM uW
      have Cy:=aM uV
      clear uW uV
      replace p401:=eq_true p401
      replace q401:=eq_true q401
      refine start_ (n:=13) (S:=fun w'=>w'.cell? ⟨cS,0,none⟩=some (.slice bC aU.length bK)∧w'.cell? ⟨cS,1,none⟩=some (.slice bM aX.length bO)∧w'.cell? ⟨cS,2,none⟩=some (.int .i64 bA)∧w'.cell? ⟨cS,3,none⟩=some (.int .i64 bB)∧w'.cell? ⟨cS,4,none⟩=some (.slice (some oW) aQ.length bP)∧w'.cell? (oW.add ((bV).toNat * 2))=some (.int .i64 ((rd_T35 aQ bV).f0))∧w'.cell? ⟨(oW.add ((bV).toNat * 2)).block,(oW.add ((bV).toNat * 2)).off+1,none⟩=some (.slice Bb ((rd_T35 aQ bV).f1).length Bc)) (ds:= []) #[F,F,F,F,F,F,F,F,F,F,F,F,F] (by kernel_rfl) rfl rfl ⟨(aG bR.out 0).trans rfl,(aG bR.out 1).trans rfl,(aG bR.out 2).trans rfl,(aG bR.out 3).trans rfl,(aG bR.out 4).trans rfl,((HB.out.cell (World.block_lt_of_cell? w _ hw401_0)).trans hw401_0),((HB.out.cell (World.block_lt_of_cell? w _ hw401_1)).trans hw401_1)⟩ (fun hHeld=>?_);refine with_tabW regletref14_Predict.tab8 regletref14_Predict.bits8 (fun HT_ HW_=>?_)
      generalize wr.drew=w28 at gL jB bR HB mS jH jI hHeld ⊢
      refine pure_ (i:=1) (N:=some 30) (v:=?_) (a':=?_) #[F,T,F,F,F,F,F,F,F,F,F,F,F] rfl rfl (any_of HT_.out (by kernel_rfl)) (fun _ _ _ h=>h) (Or.inl ⟨by rfl,?_⟩) ?_ ?_
      rotate_left;(intro w';go_simp;with_reducible rfl);rotate_left;(simp only [pq];rfl)
      refine pure_ (i:=3) (N:=some 32) (v:=?_) (a':=?_) #[F,T,F,T,F,F,F,F,F,F,F,F,F] rfl rfl (any_of HT_.out (by kernel_rfl)) (fun _ _ _ h=>h) (Or.inl ⟨by rfl,?_⟩) ?_ ?_
      rotate_left;(intro w';go_simp;with_reducible rfl);rotate_left;(simp only [pq];rfl)
      refine take_ (i:=0) (N:=some 29) (v:=?_) (a':=?_) #[T,T,F,T,F,F,F,F,F,F,F,F,F] rfl rfl (take_ofW HT_.out HW_.out (by kernel_rfl)) (fun _ _ _ h=>h) (Or.inl ⟨by rfl,?_⟩) hHeld ?_ ?_
      rotate_left
      ·rintro w' ⟨s0,s1,s2,s3,s4,s5,s6⟩
       go_simp
       with_reducible rfl
      rotate_left
      ·simp only [pq]
       rfl
      refine take_ (i:=2) (N:=some 31) (v:=?_) (a':=?_) #[T,T,T,T,F,F,F,F,F,F,F,F,F] rfl rfl (take_ofW HT_.out HW_.out (by kernel_rfl)) (fun _ _ _ h=>h) (Or.inl ⟨by rfl,?_⟩) hHeld ?_ ?_
      rotate_left
      ·rintro w' ⟨s0,s1,s2,s3,s4,s5,s6⟩
       go_simp
       with_reducible rfl
      rotate_left
      ·simp only [pq]
       rfl
      refine pure_ (i:=4) (N:=some 33) (v:=?_) (a':=?_) #[T,T,T,T,T,F,F,F,F,F,F,F,F] rfl rfl (any_of HT_.out (by kernel_rfl)) (fun _ _ _ h=>h) (Or.inl ⟨by rfl,?_⟩) ?_ ?_
      rotate_left;(intro w';go_simp;with_reducible rfl);rotate_left;(simp only [pq];rfl)
      refine pure_ (i:=5) (N:=some 34) (v:=?_) (a':=?_) #[T,T,T,T,T,T,F,F,F,F,F,F,F] rfl rfl (any_of HT_.out (by kernel_rfl)) (fun _ _ _ h=>h) (Or.inl ⟨by rfl,?_⟩) ?_ ?_
      rotate_left;(intro w';go_simp;with_reducible rfl);rotate_left;(simp only [pq];rfl)
      refine take_ (i:=6) (N:=some 35) (v:=?_) (a':=?_) #[T,T,T,T,T,T,T,F,F,F,F,F,F] rfl rfl (take_ofW HT_.out HW_.out (by kernel_rfl)) (fun _ _ _ h=>h) (Or.inl ⟨by rfl,?_⟩) hHeld ?_ ?_
      rotate_left
      ·rintro w' ⟨s0,s1,s2,s3,s4,s5,s6⟩
       go_simp
       with_reducible rfl
      rotate_left
      ·simp only [pq]
       rfl
      refine one_ (i:=7) (N:=some 36) #[T,T,T,T,T,T,T,T,F,F,F,F,F] rfl rfl (one_of HT_.out (by kernel_rfl)) (by decide) (fun K hK=>?_)
      refine goes_ Try.func32 (by kernel_rfl) rfl #[.agg #[.slice bC aU.length bK,.slice bM aX.length bO,.int .i64 bA,.int .i64 bB,.slice (some oW) aQ.length bP],.slice Bb ((rd_T35 aQ bV).f1).length Bc] (by rfl) rfl rfl (by(try simp only [List.map_toArray,List.map_cons,List.map_nil]);first|done|rfl|(simp only [List.length_drop,List.length_take];rfl)) ?_
      with_reducible refine(regletref13_Of.calls k1 _ _ aU _ _ aX bA bB _ _ aQ _ _ ((rd_T35 aQ bV).f1) t402 false _ ?side1 ?side2 ?side3 ?side4 ?side5 ?side6 ?side7 ?side8 A12.out).mono ?_
      (case side1=>exact gC (bD eS.out HB.out))
      (case side2=>exact eU.out)
      (case side3=>exact gC (bD eX.out HB.out))
      (case side4=>exact eY.out)
      (case side5=>exact gC (bD dW.out HB.out))
      (case side6=>exact eZ.out)
      (case side7=>exact gC (bD mS.out HB.out))
      (case side8=>exact Cy.out)
      rintro e w29 ⟨v403,rfl,ho0,hb⟩
      refine⟨_,rfl,?_⟩
      have bY:=aM (Kd.S_elder' (gS gL.out) (Kd.R_base ho0) hb)
      have bZ:=aM (Kd.S_elder' (gS jB.out) (Kd.R_base ho0) hb)
      have cA:=aM (bL ho0 (bH (gW HB.out)))
      have cC:=aM (bF (gB bR.out) hb)
      have cQ:=aM (bG (gW HB.out) hb)
      clear gL
      clear jB
      clear bR
      clear HB
      have gL:=bY
      have jB:=bZ
      have yK:=cA
      have bR:=cC
      have HB:=cQ
      clear bY bZ cA cC cQ
      (try have mS:=aM (bD mS.out hb))
      (try clear hb);(try clear hb2);(try clear hk);(try clear hi);(try clear ho0)
      refine hK.out _ _ ⟨(aG bR.out 0).trans rfl,(aG bR.out 1).trans rfl,(aG bR.out 2).trans rfl,(aG bR.out 3).trans rfl,(aG bR.out 4).trans rfl,((HB.out.cell (World.block_lt_of_cell? w _ hw401_0)).trans hw401_0),((HB.out.cell (World.block_lt_of_cell? w _ hw401_1)).trans hw401_1)⟩ (fun hHeld=>?_)
      clear hK K
      refine norm_ (a':=?_) ?_ ?_
      rotate_left
      ·show Act.put _ (some 36) _=_
       simp only [pq]
       rfl
      refine pure_ (i:=8) (N:=some 28) (v:=?_) (a':=?_) #[T,T,T,T,T,T,T,T,T,F,F,F,F] rfl rfl (any_of HT_.out (by kernel_rfl)) (fun _ _ _ h=>h) (Or.inl ⟨by rfl,?_⟩) ?_ ?_
      rotate_left;(intro w';go_simp;with_reducible rfl);rotate_left;(simp only [pq];rfl)
      refine pure_ (i:=9) (N:=some 37) (v:=?_) (a':=?_) #[T,T,T,T,T,T,T,T,T,T,F,F,F] rfl rfl (any_of HT_.out (by kernel_rfl)) (fun _ _ _ h=>h) (Or.inl ⟨by rfl,?_⟩) ?_ ?_
      rotate_left;(intro w';go_simp;with_reducible rfl);rotate_left;(simp only [pq];rfl)
      refine pure_ (i:=10) (N:=some 38) (v:=?_) (a':=?_) #[T,T,T,T,T,T,T,T,T,T,T,F,F] rfl rfl (any_of HT_.out (by kernel_rfl)) (fun _ _ _ h=>h) (Or.inl ⟨by rfl,?_⟩) ?_ ?_
      rotate_left;(intro w';go_simp;with_reducible rfl);rotate_left;(simp only [pq];rfl)
      refine pure_ (i:=11) (N:=some 7) (v:=?_) (a':=?_) #[T,T,T,T,T,T,T,T,T,T,T,T,F] rfl rfl (any_of HT_.out (by kernel_rfl)) (fun _ _ _ h=>h) (Or.inl ⟨by rfl,?_⟩) ?_ ?_
      rotate_left;(intro w';go_simp;with_reducible rfl);rotate_left;(simp only [pq];rfl)
      refine pure_ (i:=12) (N:=some 8) (v:=?_) (a':=?_) #[T,T,T,T,T,T,T,T,T,T,T,T,T] rfl rfl (any_of HT_.out (by kernel_rfl)) (fun _ _ _ h=>h) (Or.inl ⟨by rfl,?_⟩) ?_ ?_
      rotate_left;(intro w';go_simp;with_reducible rfl);rotate_left;(simp only [pq];rfl)
      refine done_ (done_of HT_.out (by kernel_rfl)) ?_
      obtain⟨iC,iD,Xc⟩:=Kd.R_slice yK.out
      subst Xc
      try go_wp2_with (first|((with_reducible refine gate_builtin (b:= .append) (xs:=#[.tmp 51,.tmp 53]) rfl ?_);at_builtin;refine Kd.S_append (Kd.slice 3 (Kd.int .i64)) (w0:=w) w.heap.size rfl (.tmp 51) (.tmp 53) 27 32 (.slice none 0 0) 24 rfl Try.underlying27 info32 rfl (by decide) (by omega) u4 eC t402 [.slice iC t402.length iD] (fun k_=>some k_≠(v399:Value).ownBlock) (fun k_=>some k_=(.slice iC t402.length iD:Value).ownBlock) rfl rfl ?aP (fun k_ hk_=>((Kd.R_mono (ok':=fun k_=>((fun k_=>some k_≠(v399:Value).ownBlock)) k_∧some k_≠(u4:Value).ownBlock) (Kd.R_apart' (Kd.R_apart' (yK.out) (Kd.S_typed jB.out) (by decide)) (Kd.S_typed gL.out) (by decide)) (fun k_ hk=>⟨hk.1.2,hk.2⟩))).1 k_ hk_.symm) ?aF ?aO ?aB ?aS ?aL ?_;(case aP=>exact Kd.M_row (Kd.R_mono (Kd.R_tight rfl (Kd.R_mono (ok':=fun k_=>((fun k_=>some k_≠(v399:Value).ownBlock)) k_∧some k_≠(u4:Value).ownBlock) (Kd.R_apart' (Kd.R_apart' (yK.out) (Kd.S_typed jB.out) (by decide)) (Kd.S_typed gL.out) (by decide)) (fun k_ hk=>⟨hk.1.2,hk.2⟩))) (fun _ h_=>h_)));(case aB=>exact(gW HB.out));(case aF=>exact(fun k_ hk=>Kd.fresh' (Kd.S_lt (gS jB.out)) k_ hk));(case aO=>exact(by(with_reducible repeat(first|apply Kd.S_alloc|apply aV|apply aW));exact Kd.S_mono gL.out (fun k_ hk=>⟨hk.1,fun e_=>hk.2 e_⟩)));(case aS=>exact(bH (gW HB.out)));(case aL=>have:=AW.out;omega);intro v415 w30 ho hb hg hat;rw [←AX.out] at ho;have bY:=aM (Kd.S_after (ok:=(fun k_=>some k_≠(.slice iC t402.length iD:Value).ownBlock)) (by(with_reducible repeat(first|apply Kd.S_alloc|apply aV|apply aW));exact Kd.S_mono jB.out (fun _ hk=>⟨hk.2,hk.1⟩)) hg hat);have bZ:=aM (blk_grown (gB bR.out) hg (Kd.S_ne gL.out bR.out (by decide)));have cA:=aM (hb);have cC:=aM (ho);clear jB;clear bR;clear HB;clear gL;clear yK;have jB:=bY;have bR:=bZ;have HB:=cA;have AY:=cC;clear bY bZ cA cC;clear ho hb hg hat))
      go_roundg k1
      case measure=>have:=HK1.out;omega
      case rel=>exact⟨(y414),(wrap64 (bV+1)),(by first|rfl|(simp;done)|(simp [*];done)),H',⟨by have:=HK1.out;omega⟩,⟨gS AY.out⟩,⟨by(with_reducible repeat(first|apply Kd.S_alloc|apply aV|apply aW));exact Kd.S_mono jB.out (fun _ hk=>hk.2)⟩,⟨gB bR.out⟩,⟨gW HB.out⟩⟩
    ·rw [if_neg c10] at H
     have nN:decide (bV<(aQ.length:Int))=false:=decide_eq_false c10
     clear c10
     have H':=aM H
     clear H
     have vO:wr.cell? ⟨cS,0,none⟩=some (.slice bC aU.length bK):=(aG bR.out 0).trans rfl
     have vP:wr.cell? ⟨cS,1,none⟩=some (.slice bM aX.length bO):=(aG bR.out 1).trans rfl
     have vQ:wr.cell? ⟨cS,2,none⟩=some (.int .i64 bA):=(aG bR.out 2).trans rfl
     have vR:wr.cell? ⟨cS,3,none⟩=some (.int .i64 bB):=(aG bR.out 3).trans rfl
     have vS:wr.cell? ⟨cS,4,none⟩=some (.slice bQ aQ.length bP):=(aG bR.out 4).trans rfl
     have vT:=aH bR.out 0
     have vU:=aH bR.out 1
     have vV:=aH bR.out 2
     have vW:=aH bR.out 3
     have vX:=aH bR.out 4
     go_wp2
     go_loopg [9,10,11] k1 (fun kq v9 v10 v11 w'=>∃(rC:List (List Int)) (Jm:List (S78)) (bX:Int),v11= .int .i64 bX∧Aside0 (regletref14_Predict.l1 kq eC rC Jm bX aU aX bA bB aQ=some (r1,r2))∧Aside0 (kq≤k1)∧Aside0 (Kd.S (Kd.slice 3 (Kd.int .i64)) 32 w' w.heap.size (fun k_=>some k_≠(v9:Value).ownBlock) u4 eC)∧Aside0 (Kd.S (Kd.slice 3 (Kd.int .i64)) 32 w' w.heap.size (fun k_=>some k_≠(u4:Value).ownBlock) v9 rC)∧Aside0 (Kd.R k78 78 w' w.heap.size (fun _=>True) v10 Jm)∧Aside0 (w'.heap[cS]?=some (.cells #[(.slice bC aU.length bK),(.slice bM aX.length bO),.int .i64 bA,.int .i64 bB,(.slice bQ aQ.length bP)] 26 (0,0)))∧Aside0 (Below w.heap.size w w'))
     case atStart=>exact⟨(([]:List (List Int))),(([]:List (S78))),(0),(by first|rfl|(simp;done)|(simp [*];done)),H',⟨Nat.le_refl _⟩,⟨by(with_reducible repeat(first|apply Kd.S_alloc|apply aV|apply aW));exact Kd.S_mono gL.out (fun _ hk=>(by simp [Value.ownBlock]))⟩,⟨by first|exact Kd.S_nil _ _ _ _ _|exact Kd.N_nil _ _ _ _ _|exact Kd.V_nil _ _ _ _ _|exact Kd.Q_nil _ _ _ _ _|exact Kd.R_nil _ _ _ _ _⟩,⟨by first|exact Kd.R_nil _ _ _ _ _|exact Kd.N_nil _ _ _ _ _|exact Kd.V_nil _ _ _ _ _|exact Kd.Q_nil _ _ _ _ _|exact Kd.S_nil _ _ _ _ _⟩,⟨gB bR.out⟩,⟨gW HB.out⟩⟩
     case round=>
      clear H'
      (try clear c1);(try clear c2);(try clear p2);(try clear c3);(try clear c4);(try clear p4);(try clear q4);(try clear hx4);(try clear p6);(try clear c10);(try clear nN);(try clear c11);(try clear tI);(try clear c13);(try clear c14);(try clear Ac);(try clear c15);(try clear yH);(try clear c16);(try clear c17);(try clear c20);(try clear c26);(try clear c30);(try clear c31);(try clear c32);(try clear kE)
      (try clear kF);(try clear mM);(try clear mN);(try clear mO);(try clear uX);(try clear uY);(try clear uZ);(try clear vA);(try clear vB);(try clear sI);(try clear sJ);(try clear vI);(try clear vJ);(try clear vK);(try clear vO);(try clear vP);(try clear vQ);(try clear vR);(try clear vS);(try clear rD);(try clear rE)
      (try clear rF);(try clear rG);(try clear rH);(try clear lW);(try clear lX);(try clear oK);(try clear oL);(try clear oM);(try clear kG);(try clear kH);(try clear mP);(try clear mQ);(try clear mR);(try clear vC);(try clear vD);(try clear vE);(try clear vF);(try clear vG);(try clear sK);(try clear sL);(try clear vL)
      (try clear vM);(try clear vN);(try clear vT);(try clear vU);(try clear vV);(try clear vW);(try clear vX);(try clear rI);(try clear rJ);(try clear rK);(try clear rL);(try clear rM);(try clear lY);(try clear lZ);(try clear oN);(try clear oO);(try clear oP);(try clear jH);(try clear jI);(try clear qQ);(try clear qR)
      (try clear vH);(try clear p2);(try clear p401);(try clear p406);(try clear p407);(try clear q401);(try clear q406);(try clear q407)
      obtain⟨rC,Jm,bX,rfl,HA,HK2,gL,mT,cR,bR,HB⟩:=hrel
      cases gk with
      |zero=>exact absurd HA.out (by simp [regletref14_Predict.l1])
      |succ k2=>
       have H:=HA.out
       clear HA
       simp only [regletref14_Predict.l1] at H
       by_cases c33:bX<(aU.length:Int)
       ·rw [if_pos c33] at H
        have Jn:decide (bX<(aU.length:Int))=true:=decide_eq_true c33
        clear c33
        have H':=aM H
        clear H
        have qE:wr.cell? ⟨cS,0,none⟩=some (.slice bC aU.length bK):=(aG bR.out 0).trans rfl
        have qF:wr.cell? ⟨cS,1,none⟩=some (.slice bM aX.length bO):=(aG bR.out 1).trans rfl
        have vY:wr.cell? ⟨cS,2,none⟩=some (.int .i64 bA):=(aG bR.out 2).trans rfl
        have vZ:wr.cell? ⟨cS,3,none⟩=some (.int .i64 bB):=(aG bR.out 3).trans rfl
        have wA:wr.cell? ⟨cS,4,none⟩=some (.slice bQ aQ.length bP):=(aG bR.out 4).trans rfl
        have qG:=aH bR.out 0
        have qH:=aH bR.out 1
        have wB:=aH bR.out 2
        have wC:=aH bR.out 3
        have wD:=aH bR.out 4
        go_wp2
        go_loopg [10,12,13] k2 (fun kq v10 v12 v13 w'=>∃(Bv:List (S78)) (kY:List Int) (kO:Int),v13= .int .i64 kO∧Aside0 (regletref14_Predict.l2 kq eC rC Bv bX kY kO aU aX bA bB aQ=some (r1,r2))∧Aside0 (kq≤k2)∧Aside0 (Kd.S (Kd.slice 3 (Kd.int .i64)) 32 w' w.heap.size (fun k_=>some k_≠(u9:Value).ownBlock∧some k_≠(v12:Value).ownBlock) u4 eC)∧Aside0 (Kd.S (Kd.slice 3 (Kd.int .i64)) 32 w' w.heap.size (fun k_=>some k_≠(u4:Value).ownBlock∧some k_≠(v12:Value).ownBlock) u9 rC)∧Aside0 (Kd.R k78 78 w' w.heap.size (fun _=>True) v10 Bv)∧Aside0 (Kd.R (Kd.int .i64) 3 w' w.heap.size (fun _=>True) v12 kY)∧Aside0 (w'.heap[cS]?=some (.cells #[(.slice bC aU.length bK),(.slice bM aX.length bO),.int .i64 bA,.int .i64 bB,(.slice bQ aQ.length bP)] 26 (0,0)))∧Aside0 (Below w.heap.size w w'))
        case atStart=>exact⟨(Jm),(([]:List Int)),(0),(by first|rfl|(simp;done)|(simp [*];done)),H',⟨Nat.le_refl _⟩,⟨by(with_reducible repeat(first|apply Kd.S_alloc|apply aV|apply aW));exact Kd.S_mono gL.out (fun _ hk=>⟨hk,(by simp [Value.ownBlock])⟩)⟩,⟨by(with_reducible repeat(first|apply Kd.S_alloc|apply aV|apply aW));exact Kd.S_mono mT.out (fun _ hk=>⟨hk,(by simp [Value.ownBlock])⟩)⟩,⟨gR cR.out⟩,⟨by first|exact Kd.R_nil _ _ _ _ _|exact Kd.N_nil _ _ _ _ _|exact Kd.V_nil _ _ _ _ _|exact Kd.Q_nil _ _ _ _ _|exact Kd.S_nil _ _ _ _ _⟩,⟨gB bR.out⟩,⟨gW HB.out⟩⟩
        case round=>
         clear H'
         (try clear c1);(try clear c2);(try clear p2);(try clear c3);(try clear c4);(try clear p4);(try clear q4);(try clear hx4);(try clear p6);(try clear c10);(try clear nN);(try clear c11);(try clear tI);(try clear c13);(try clear c14);(try clear Ac);(try clear c15);(try clear yH);(try clear c16);(try clear c17);(try clear c20);(try clear c26);(try clear c30);(try clear c31);(try clear c32);(try clear c33)
         (try clear Jn);(try clear kE);(try clear kF);(try clear mM);(try clear mN);(try clear mO);(try clear uX);(try clear uY);(try clear uZ);(try clear vA);(try clear vB);(try clear sI);(try clear sJ);(try clear vI);(try clear vJ);(try clear vK);(try clear vO);(try clear vP);(try clear vQ);(try clear vR);(try clear vS)
         (try clear qE);(try clear qF);(try clear vY);(try clear vZ);(try clear wA);(try clear rD);(try clear rE);(try clear rF);(try clear rG);(try clear rH);(try clear lW);(try clear lX);(try clear oK);(try clear oL);(try clear oM);(try clear kG);(try clear kH);(try clear mP);(try clear mQ);(try clear mR);(try clear vC)
         (try clear vD);(try clear vE);(try clear vF);(try clear vG);(try clear sK);(try clear sL);(try clear vL);(try clear vM);(try clear vN);(try clear vT);(try clear vU);(try clear vV);(try clear vW);(try clear vX);(try clear qG);(try clear qH);(try clear wB);(try clear wC);(try clear wD);(try clear rI);(try clear rJ)
         (try clear rK);(try clear rL);(try clear rM);(try clear lY);(try clear lZ);(try clear oN);(try clear oO);(try clear oP);(try clear jH);(try clear jI);(try clear qQ);(try clear qR);(try clear vH);(try clear p2);(try clear p4);(try clear p401);(try clear p406);(try clear p407);(try clear p6);(try clear q4);(try clear q401);(try clear q406);(try clear q407)
         obtain⟨Bv,kY,kO,rfl,HA,HK3,gL,mT,cR,cK,bR,HB⟩:=hrel
         cases gk with
         |zero=>exact absurd HA.out (by simp [regletref14_Predict.l2])
         |succ k3=>
          have H:=HA.out
          clear HA
          simp only [regletref14_Predict.l2] at H
          by_cases c35:kO≤(aX.length:Int)
          ·rw [if_pos c35] at H
           have Ml:decide (kO≤(aX.length:Int))=true:=decide_eq_true c35
           clear c35
           have H':=aM H
           clear H
           have Ct:wr.cell? ⟨cS,0,none⟩=some (.slice bC aU.length bK):=(aG bR.out 0).trans rfl
           have Cu:wr.cell? ⟨cS,1,none⟩=some (.slice bM aX.length bO):=(aG bR.out 1).trans rfl
           have Jo:wr.cell? ⟨cS,2,none⟩=some (.int .i64 bA):=(aG bR.out 2).trans rfl
           have Jp:wr.cell? ⟨cS,3,none⟩=some (.int .i64 bB):=(aG bR.out 3).trans rfl
           have Jq:wr.cell? ⟨cS,4,none⟩=some (.slice bQ aQ.length bP):=(aG bR.out 4).trans rfl
           have Cv:=aH bR.out 0
           have Cw:=aH bR.out 1
           have Jr:=aH bR.out 2
           have Js:=aH bR.out 3
           have Jt:=aH bR.out 4
           go_wp2
           go_loopg [10,14,15] k3 (fun kq v10 v14 v15 w'=>∃(mF:List (S78)) (kL:Int) (fO:Int),v14= .int .i64 kL∧v15= .int .i64 fO∧Aside0 (regletref14_Predict.l3 kq eC rC mF bX kY kO kL fO aU aX bA bB aQ=some (r1,r2))∧Aside0 (kq≤k3)∧Aside0 (Kd.S (Kd.slice 3 (Kd.int .i64)) 32 w' w.heap.size (fun k_=>some k_≠(u9:Value).ownBlock∧some k_≠(u12:Value).ownBlock) u4 eC)∧Aside0 (Kd.S (Kd.slice 3 (Kd.int .i64)) 32 w' w.heap.size (fun k_=>some k_≠(u4:Value).ownBlock∧some k_≠(u12:Value).ownBlock) u9 rC)∧Aside0 (Kd.R k78 78 w' w.heap.size (fun _=>True) v10 mF)∧Aside0 (Kd.R (Kd.int .i64) 3 w' w.heap.size (fun _=>True) u12 kY)∧Aside0 (w'.heap[cS]?=some (.cells #[(.slice bC aU.length bK),(.slice bM aX.length bO),.int .i64 bA,.int .i64 bB,(.slice bQ aQ.length bP)] 26 (0,0)))∧Aside0 (Below w.heap.size w w'))
           case atStart=>exact⟨(Bv),((-1)),(0),(by first|rfl|(simp;done)|(simp [*];done)),(by first|rfl|(simp;done)|(simp [*];done)),H',⟨Nat.le_refl _⟩,⟨gS gL.out⟩,⟨gS mT.out⟩,⟨gR cR.out⟩,⟨gR cK.out⟩,⟨gB bR.out⟩,⟨gW HB.out⟩⟩
           case round=>
            clear H'
            (try clear c1);(try clear c2);(try clear p2);(try clear c3);(try clear c4);(try clear p4);(try clear q4);(try clear hx4);(try clear p6);(try clear c10);(try clear nN);(try clear c11);(try clear tI);(try clear c13);(try clear c14);(try clear Ac);(try clear c15);(try clear yH);(try clear c16);(try clear c17);(try clear c20);(try clear c26);(try clear c30);(try clear c31);(try clear c32);(try clear c33)
            (try clear Jn);(try clear c35);(try clear Ml);(try clear kE);(try clear kF);(try clear mM);(try clear mN);(try clear mO);(try clear uX);(try clear uY);(try clear uZ);(try clear vA);(try clear vB);(try clear sI);(try clear sJ);(try clear vI);(try clear vJ);(try clear vK);(try clear vO);(try clear vP);(try clear vQ)
            (try clear vR);(try clear vS);(try clear qE);(try clear qF);(try clear vY);(try clear vZ);(try clear wA);(try clear Ct);(try clear Cu);(try clear Jo);(try clear Jp);(try clear Jq);(try clear rD);(try clear rE);(try clear rF);(try clear rG);(try clear rH);(try clear lW);(try clear lX);(try clear oK);(try clear oL)
            (try clear oM);(try clear kG);(try clear kH);(try clear mP);(try clear mQ);(try clear mR);(try clear vC);(try clear vD);(try clear vE);(try clear vF);(try clear vG);(try clear sK);(try clear sL);(try clear vL);(try clear vM);(try clear vN);(try clear vT);(try clear vU);(try clear vV);(try clear vW);(try clear vX)
            (try clear qG);(try clear qH);(try clear wB);(try clear wC);(try clear wD);(try clear Cv);(try clear Cw);(try clear Jr);(try clear Js);(try clear Jt);(try clear rI);(try clear rJ);(try clear rK);(try clear rL);(try clear rM);(try clear lY);(try clear lZ);(try clear oN);(try clear oO);(try clear oP);(try clear jH)
            (try clear jI);(try clear qQ);(try clear qR);(try clear vH);(try clear p2);(try clear p4);(try clear p401);(try clear p406);(try clear p407);(try clear p6);(try clear q4);(try clear q401);(try clear q406);(try clear q407)
            obtain⟨mF,kL,fO,rfl,rfl,HA,HK4,gL,mT,cR,cK,bR,HB⟩:=hrel
            cases gk with
            |zero=>exact absurd HA.out (by simp [regletref14_Predict.l3])
            |succ k4=>
             have H:=HA.out
             clear HA
             simp only [regletref14_Predict.l3] at H
             by_cases c37:fO<(aQ.length:Int)
             ·rw [if_pos c37] at H
              have Uz:decide (fO<(aQ.length:Int))=true:=decide_eq_true c37
              clear c37
              have HC38:=aM H
              clear H
              have zE:wr.cell? ⟨cS,0,none⟩=some (.slice bC aU.length bK):=(aG bR.out 0).trans rfl
              have zF:wr.cell? ⟨cS,1,none⟩=some (.slice bM aX.length bO):=(aG bR.out 1).trans rfl
              have Ck:wr.cell? ⟨cS,2,none⟩=some (.int .i64 bA):=(aG bR.out 2).trans rfl
              have Cl:wr.cell? ⟨cS,3,none⟩=some (.int .i64 bB):=(aG bR.out 3).trans rfl
              have Cm:wr.cell? ⟨cS,4,none⟩=some (.slice bQ aQ.length bP):=(aG bR.out 4).trans rfl
              have zG:=aH bR.out 0
              have zH:=aH bR.out 1
              have Cn:=aH bR.out 2
              have Co:=aH bR.out 3
              have Cp:=aH bR.out 4
              go_upto_region 25 with(fail)
              go_cut [92] (fun v92 wc=>∃(kq:Nat) (Cz:Bool),v92= .bool Cz∧Aside0 (regletref14_Predict.j4 kq eC rC mF bX kY kO kL fO Cz aU aX bA bB aQ=some (r1,r2))∧Aside0 (kq≤k4)∧Aside0 (Kd.S (Kd.slice 3 (Kd.int .i64)) 32 wc w.heap.size (fun k_=>some k_≠(u9:Value).ownBlock∧some k_≠(u12:Value).ownBlock) u4 eC)∧Aside0 (Kd.S (Kd.slice 3 (Kd.int .i64)) 32 wc w.heap.size (fun k_=>some k_≠(u4:Value).ownBlock∧some k_≠(u12:Value).ownBlock) u9 rC)∧Aside0 (Kd.R k78 78 wc w.heap.size (fun _=>True) u10 mF)∧Aside0 (Kd.R (Kd.int .i64) 3 wc w.heap.size (fun _=>True) u12 kY)∧Aside0 (wc.heap[cS]?=some (.cells #[(.slice bC aU.length bK),(.slice bM aX.length bO),.int .i64 bA,.int .i64 bB,(.slice bQ aQ.length bP)] 26 (0,0)))∧Aside0 (Below w.heap.size w wc))
              case first=>
               have H:=HC38.out
               clear HC38
               by_cases c40:0≤fO
               rotate_left
               ·rw [if_neg c40] at H
                exact absurd H (by simp)
               rw [if_pos c40] at H
               have Mm:decide (0≤fO)=true:=decide_eq_true c40
               clear c40
               (first|rw [Mm]|(simp only [i64_w,i32_w];rw [Mm])|skip)
               by_cases c41:((rd_T35 aQ fO).f0)=bX
               ·rw [if_pos c41] at H
                have Va:(((rd_T35 aQ fO).f0)==bX)=true:=beq_iff_eq.mpr c41
                have Vb:(((rd_T35 aQ fO).f0) !=bX)=false:=bne_eq_false_iff_eq.mpr c41
                clear c41
                by_cases c42:fO<(eC.length:Int)
                rotate_left
                ·rw [if_neg c42] at H
                 exact absurd H (by simp)
                rw [if_pos c42] at H
                have AZ:decide (fO<(eC.length:Int))=true:=decide_eq_true c42
                clear c42
                replace H:=Option.bind_eq_some_iff.mp H
                obtain⟨t425,A430,H⟩:=H
                replace H:(regletref14_Predict.j4 k4 eC rC mF bX kY kO kL fO (!t425) aU aX bA bB aQ)=some (r1,r2):=H
                have A43:=aM A430
                clear A430
                have H':=aM H
                clear H
                have Iv:wr.cell? ⟨cS,0,none⟩=some (.slice bC aU.length bK):=(aG bR.out 0).trans rfl
                have Iw:wr.cell? ⟨cS,1,none⟩=some (.slice bM aX.length bO):=(aG bR.out 1).trans rfl
                have Qu:wr.cell? ⟨cS,2,none⟩=some (.int .i64 bA):=(aG bR.out 2).trans rfl
                have Qv:wr.cell? ⟨cS,3,none⟩=some (.int .i64 bB):=(aG bR.out 3).trans rfl
                have Qw:wr.cell? ⟨cS,4,none⟩=some (.slice bQ aQ.length bP):=(aG bR.out 4).trans rfl
                have Ix:=aH bR.out 0
                have Iy:=aH bR.out 1
                have Qx:=aH bR.out 2
                have Qy:=aH bR.out 3
                have Qz:=aH bR.out 4
                have p423:0≤(fO:Int):=of_decide_eq_true (by first|(with_reducible assumption)|assumption)
                have q423:fO<(aQ.length:Int):=of_decide_eq_true (by first|(with_reducible assumption)|assumption)
                obtain⟨BA,Xd,Xe,e423,nZ,oA,wE,wF⟩:=at_T35 dW.out fO p423 q423
                cases e423
                replace nZ:=(HB.out.cell (World.block_lt_of_cell? w _ nZ)).trans nZ
                replace oA:=(HB.out.cell (World.block_lt_of_cell? w _ oA)).trans oA
                have Ra:=aM wF
                have Rb:=aM wE
                clear wF wE
                replace p423:=eq_true p423
                replace q423:=eq_true q423
                obtain⟨QM,QN,ME⟩:=Kd.S_slice gL.out
                subst ME
                have p424:0≤(fO:Int):=of_decide_eq_true (by first|(with_reducible assumption)|assumption)
                have q424:fO<(eC.length:Int):=of_decide_eq_true (by first|(with_reducible assumption)|assumption)
                obtain⟨OP,MF,MG,e424,Ju,Jv,Jw⟩:=at_L5 (Kd.S_reads' gL.out).2.2 fO p424 q424
                cases e424
                obtain⟨ce424,hce424,hMe424,hcc424⟩:=Kd.S_get gL.out [] fO p424 (by first|exact q424|exact of_decide_eq_true (by first|(with_reducible assumption)|assumption)|(have e_:=(Kd.S_reads' gL.out).1;omega))
                obtain⟨ve424_0,rfl,ge424_0⟩:=hMe424
                have hv424_0:=hcc424 0 _ rfl
                rw [Nat.add_zero,show((Kd.slice 3 (Kd.int .i64))).sz=1 from rfl,Nat.mul_one] at hv424_0
                replace hv424_0:=Option.some.inj (hv424_0.symm.trans Ju)
                rw [hv424_0] at ge424_0
                have HL424_0:=aM (show Kd.R (Kd.int .i64) 3 _ _ _ _ (rd_L5 eC fO) from ge424_0)
                clear hv424_0 ge424_0
                clear hcc424 hce424
                have Jy:=aM Jw
                have Rc:=aM Jv
                clear Jw Jv
                replace p424:=eq_true p424
                replace q424:=eq_true q424
                go_wp2_with (first|(go_at_call 33;(with_reducible refine(regletref14_has.calls k4 _ _ (rd_L5 eC fO) kO t425 _ ?side1 ?side2 A43.out).mono ?_);(case side1=>exact gC (by repeat(first|(with_reducible exact Jy.out)|(with_reducible refine Kd.C_alloc ?_ _)|(with_reducible refine Kd.C_drewN ?_ _)|(with_reducible refine Kd.C_drew ?_)|exact Jy.out)));(case side2=>exact Rc.out);rintro e w' ⟨rfl,⟨nd,rfl⟩⟩))
                go_meet
                case rel=>exact⟨_,(!t425),(by first|rfl|(simp;done)|(simp [*];done)),H',⟨by have:=HK1.out;have:=HK2.out;have:=HK3.out;have:=HK4.out;first|omega|exact Nat.le_refl _⟩,⟨gS gL.out⟩,⟨gS mT.out⟩,⟨gR cR.out⟩,⟨gR cK.out⟩,⟨gB bR.out⟩,⟨gW HB.out⟩⟩
               ·rw [if_neg c41] at H
                have Va:(((rd_T35 aQ fO).f0)==bX)=false:=beq_eq_false_iff_ne.mpr c41
                have Vb:(((rd_T35 aQ fO).f0) !=bX)=true:=bne_iff_ne.mpr c41
                have H':=aM H
                clear H
                have wG:wr.cell? ⟨cS,0,none⟩=some (.slice bC aU.length bK):=(aG bR.out 0).trans rfl
                have wH:wr.cell? ⟨cS,1,none⟩=some (.slice bM aX.length bO):=(aG bR.out 1).trans rfl
                have Rd:wr.cell? ⟨cS,2,none⟩=some (.int .i64 bA):=(aG bR.out 2).trans rfl
                have Re:wr.cell? ⟨cS,3,none⟩=some (.int .i64 bB):=(aG bR.out 3).trans rfl
                have Rf:wr.cell? ⟨cS,4,none⟩=some (.slice bQ aQ.length bP):=(aG bR.out 4).trans rfl
                have wI:=aH bR.out 0
                have wJ:=aH bR.out 1
                have Rg:=aH bR.out 2
                have Rh:=aH bR.out 3
                have Ri:=aH bR.out 4
                have p423:0≤(fO:Int):=of_decide_eq_true (by first|(with_reducible assumption)|assumption)
                have q423:fO<(aQ.length:Int):=of_decide_eq_true (by first|(with_reducible assumption)|assumption)
                obtain⟨BA,Xd,Xe,e423,nZ,oA,wE,wF⟩:=at_T35 dW.out fO p423 q423
                cases e423
                replace nZ:=(HB.out.cell (World.block_lt_of_cell? w _ nZ)).trans nZ
                replace oA:=(HB.out.cell (World.block_lt_of_cell? w _ oA)).trans oA
                have Ra:=aM wF
                have Rb:=aM wE
                clear wF wE
                replace p423:=eq_true p423
                replace q423:=eq_true q423
                go_wp2
                go_meet
                case rel=>exact⟨_,(true),(by first|rfl|(simp;done)|(simp [*];done)),H',⟨by have:=HK1.out;have:=HK2.out;have:=HK3.out;have:=HK4.out;first|omega|exact Nat.le_refl _⟩,⟨gS gL.out⟩,⟨gS mT.out⟩,⟨gR cR.out⟩,⟨gR cK.out⟩,⟨gB bR.out⟩,⟨gW HB.out⟩⟩
              case rest=>
               clear HC38
               (try clear c1);(try clear c2);(try clear p2);(try clear c3);(try clear c4);(try clear p4);(try clear q4);(try clear hx4);(try clear p6);(try clear c10);(try clear nN);(try clear c11);(try clear tI);(try clear c13);(try clear c14);(try clear Ac);(try clear c15);(try clear yH);(try clear c16);(try clear c17);(try clear c20);(try clear c26);(try clear c30);(try clear c31);(try clear c32);(try clear c33)
               (try clear Jn);(try clear c35);(try clear Ml);(try clear c37);(try clear Uz);(try clear c40);(try clear Mm);(try clear p40);(try clear q40);(try clear hx40);(try clear c41);(try clear Va);(try clear Vb);(try clear c42);(try clear AZ);(try clear p42);(try clear q42);(try clear hx42);(try clear kE);(try clear kF);(try clear mM);(try clear mN);(try clear mO)
               (try clear uX);(try clear uY);(try clear uZ);(try clear vA);(try clear vB);(try clear sI);(try clear sJ);(try clear vI);(try clear vJ);(try clear vK);(try clear vO);(try clear vP);(try clear vQ);(try clear vR);(try clear vS);(try clear qE);(try clear qF);(try clear vY);(try clear vZ);(try clear wA);(try clear Ct)
               (try clear Cu);(try clear Jo);(try clear Jp);(try clear Jq);(try clear zE);(try clear zF);(try clear Ck);(try clear Cl);(try clear Cm);(try clear Iv);(try clear Iw);(try clear Qu);(try clear Qv);(try clear Qw);(try clear wG);(try clear wH);(try clear Rd);(try clear Re);(try clear Rf);(try clear rD);(try clear rE)
               (try clear rF);(try clear rG);(try clear rH);(try clear lW);(try clear lX);(try clear oK);(try clear oL);(try clear oM);(try clear kG);(try clear kH);(try clear mP);(try clear mQ);(try clear mR);(try clear vC);(try clear vD);(try clear vE);(try clear vF);(try clear vG);(try clear sK);(try clear sL);(try clear vL)
               (try clear vM);(try clear vN);(try clear vT);(try clear vU);(try clear vV);(try clear vW);(try clear vX);(try clear qG);(try clear qH);(try clear wB);(try clear wC);(try clear wD);(try clear Cv);(try clear Cw);(try clear Jr);(try clear Js);(try clear Jt);(try clear zG);(try clear zH);(try clear Cn);(try clear Co)
               (try clear Cp);(try clear Ix);(try clear Iy);(try clear Qx);(try clear Qy);(try clear Qz);(try clear wI);(try clear wJ);(try clear Rg);(try clear Rh);(try clear Ri);(try clear rI);(try clear rJ);(try clear rK);(try clear rL);(try clear rM);(try clear lY);(try clear lZ);(try clear oN);(try clear oO);(try clear oP)
               (try clear jH);(try clear jI);(try clear qQ);(try clear qR);(try clear vH);(try clear nZ);(try clear oA);(try clear Ju);(try clear p2);(try clear p4);(try clear p401);(try clear p406);(try clear p407);(try clear p423);(try clear p424);(try clear p6);(try clear q4);(try clear q401);(try clear q406);(try clear q407);(try clear q423);(try clear q424)
               obtain⟨kq,Cz,rfl,HA,HJ37,gL,mT,cR,cK,bR,HB⟩:=hcut
               cases kq with
               |zero=>exact absurd HA.out (by simp [regletref14_Predict.j4])
               |succ Ho=>
                have H:=HA.out
                clear HA
                simp only [regletref14_Predict.j4] at H
                by_cases c47:Cz=true
                ·subst c47
                 have H1:(regletref14_Predict.l3 Ho eC rC mF bX kY kO kL (wrap64 (fO+1)) aU aX bA bB aQ)=some (r1,r2):=by rw [if_pos rfl] at H;exact H
                 clear H
                 have H:=H1
                 clear H1
                 have H':=aM H
                 clear H
                 go_wp2
                 go_roundg Ho
                 case measure=>have:=HK1.out;have:=HK2.out;have:=HK3.out;have:=HK4.out;have:=HJ37.out;omega
                 case rel=>exact⟨(mF),(kL),(wrap64 (fO+1)),(by first|rfl|(simp;done)|(simp [*];done)),(by first|rfl|(simp;done)|(simp [*];done)),H',⟨by have:=HK1.out;have:=HK2.out;have:=HK3.out;have:=HK4.out;have:=HJ37.out;omega⟩,⟨gS gL.out⟩,⟨gS mT.out⟩,⟨gR cR.out⟩,⟨gR cK.out⟩,⟨gB bR.out⟩,⟨gW HB.out⟩⟩
                ·replace c47:=Bool.eq_false_iff.mpr c47
                 subst c47
                 have H1:(if kL<0 then(regletref14_Predict.l3 Ho eC rC mF bX kY kO fO (wrap64 (fO+1)) aU aX bA bB aQ) else(if mF.length<4398046511104 then(regletref14_Predict.l3 Ho eC rC (mF++ [(⟨bX,kO,kL,fO⟩:S78)]) bX kY kO kL (wrap64 (fO+1)) aU aX bA bB aQ) else(none)))=some (r1,r2):=by rw [if_neg (show ¬(false=true) by decide)] at H;exact H
                 clear H
                 have H:=H1
                 clear H1
                 by_cases c48:kL<0
                 ·rw [if_pos c48] at H
                  have Mn:decide (kL<0)=true:=decide_eq_true c48
                  clear c48
                  have H':=aM H
                  clear H
                  go_wp2
                  go_roundg Ho
                  case measure=>have:=HK1.out;have:=HK2.out;have:=HK3.out;have:=HK4.out;have:=HJ37.out;omega
                  case rel=>exact⟨(mF),(fO),(wrap64 (fO+1)),(by first|rfl|(simp;done)|(simp [*];done)),(by first|rfl|(simp;done)|(simp [*];done)),H',⟨by have:=HK1.out;have:=HK2.out;have:=HK3.out;have:=HK4.out;have:=HJ37.out;omega⟩,⟨gS gL.out⟩,⟨gS mT.out⟩,⟨gR cR.out⟩,⟨gR cK.out⟩,⟨gB bR.out⟩,⟨gW HB.out⟩⟩
                 ·rw [if_neg c48] at H
                  have Mn:decide (kL<0)=false:=decide_eq_false c48
                  clear c48
                  by_cases c49:mF.length<4398046511104
                  rotate_left
                  ·rw [if_neg c49] at H
                   exact absurd H (by simp)
                  rw [if_pos c49] at H
                  have Mo:=aM c49
                  clear c49
                  obtain⟨y426,Fw⟩:∃y_:List (S78),y_=(mF++ [(⟨bX,kO,kL,fO⟩:S78)]):=⟨_,rfl⟩
                  replace H:(regletref14_Predict.l3 Ho eC rC y426 bX kY kO kL (wrap64 (fO+1)) aU aX bA bB aQ)=some (r1,r2):=by first|(rw [Fw];with_reducible exact H)|(have H2_:=(Option.bind_some _ _).symm.trans H;rw [Fw];with_reducible exact H2_)|(have H2_:=(Option.bind_some _ _).symm.trans H;with_reducible exact H2_)|with_reducible exact H|(rw [Fw];exact H)|exact H
                  have BC:=aM Fw
                  clear Fw
                  have H':=aM H
                  clear H
                  go_wp2_with (first|((with_reducible refine gate_builtin (b:= .append) (xs:=#[.tmp 96,.tmp 102]) rfl ?_);at_builtin;refine Kd.R_append k78 (w0:=w) w.heap.size rfl (.tmp 96) (.tmp 102) 48 78 (.agg #[(.int .i64 0),(.int .i64 0),(.int .i64 0),(.int .i64 0)]) 32 rfl Try.underlying48 info78 rfl (by decide) (by omega) u10 mF (⟨bX,kO,kL,fO⟩:S78) [.int .i64 bX,.int .i64 kO,.int .i64 kL,.int .i64 fO] (fun _=>True) (fun _=>False) rfl rfl ?aP (fun _ hk=>hk.elim) ?aF ?aO ?aB ?aS ?aL ?_;(case aP=>exact k78_mkM _ _ _ (⟨bX,kO,kL,fO⟩:S78));(case aB=>exact(gW HB.out));(case aF=>exact(fun _ _=>trivial));(case aO=>exact(gR cR.out));(case aS=>exact(bH (gW HB.out)));(case aL=>have:=Mo.out;omega);intro v427 w50 ho hb hg hat;rw [←BC.out] at ho;have bY:=aM (Kd.S_over' (gS gL.out) (Kd.R_typed (gR cR.out)) (by decide) hg);have bZ:=aM (Kd.S_over' (gS mT.out) (Kd.R_typed (gR cR.out)) (by decide) hg);have cA:=aM (Kd.R_over' (gR cK.out) (Kd.R_typed (gR cR.out)) (by decide) hg);have cC:=aM (blk_grown (gB bR.out) hg (Kd.R_ne cR.out bR.out (by decide)));have cQ:=aM (hb);have dA:=aM (ho);clear gL;clear mT;clear cK;clear bR;clear HB;clear cR;have gL:=bY;have mT:=bZ;have cK:=cA;have bR:=cC;have HB:=cQ;have BD:=dA;clear bY bZ cA cC cQ dA;clear ho hb hg hat))
                  go_roundg Ho
                  case measure=>have:=HK1.out;have:=HK2.out;have:=HK3.out;have:=HK4.out;have:=HJ37.out;omega
                  case rel=>exact⟨(y426),(kL),(wrap64 (fO+1)),(by first|rfl|(simp;done)|(simp [*];done)),(by first|rfl|(simp;done)|(simp [*];done)),H',⟨by have:=HK1.out;have:=HK2.out;have:=HK3.out;have:=HK4.out;have:=HJ37.out;omega⟩,⟨gS gL.out⟩,⟨gS mT.out⟩,⟨gR BD.out⟩,⟨gR cK.out⟩,⟨gB bR.out⟩,⟨gW HB.out⟩⟩
             ·rw [if_neg c37] at H
              have Uz:decide (fO<(aQ.length:Int))=false:=decide_eq_false c37
              clear c37
              by_cases c51:kY.length<17592186044416
              rotate_left
              ·rw [if_neg c51] at H
               exact absurd H (by simp)
              rw [if_pos c51] at H
              have BE:=aM c51
              clear c51
              obtain⟨y420,Fx⟩:∃y_:List Int,y_=(kY++ [kL]):=⟨_,rfl⟩
              replace H:(regletref14_Predict.l2 k4 eC rC mF bX y420 (wrap64 (kO+1)) aU aX bA bB aQ)=some (r1,r2):=by first|(rw [Fx];with_reducible exact H)|(have H2_:=(Option.bind_some _ _).symm.trans H;rw [Fx];with_reducible exact H2_)|(have H2_:=(Option.bind_some _ _).symm.trans H;with_reducible exact H2_)|with_reducible exact H|(rw [Fx];exact H)|exact H
              have BF:=aM Fx
              clear Fx
              have H':=aM H
              clear H
              have uR:wr.cell? ⟨cS,0,none⟩=some (.slice bC aU.length bK):=(aG bR.out 0).trans rfl
              have uS:wr.cell? ⟨cS,1,none⟩=some (.slice bM aX.length bO):=(aG bR.out 1).trans rfl
              have Qn:wr.cell? ⟨cS,2,none⟩=some (.int .i64 bA):=(aG bR.out 2).trans rfl
              have Qo:wr.cell? ⟨cS,3,none⟩=some (.int .i64 bB):=(aG bR.out 3).trans rfl
              have Qp:wr.cell? ⟨cS,4,none⟩=some (.slice bQ aQ.length bP):=(aG bR.out 4).trans rfl
              have uT:=aH bR.out 0
              have uU:=aH bR.out 1
              have Qq:=aH bR.out 2
              have Qr:=aH bR.out 3
              have Qs:=aH bR.out 4
              go_wp2_with (first|((with_reducible refine gate_builtin (b:= .append) (xs:=#[.tmp 104,.tmp 106]) rfl ?_);at_builtin;refine Kd.R_append (Kd.int .i64) (w0:=w) w.heap.size rfl (.tmp 104) (.tmp 106) 32 3 (.int .i64 0) 8 rfl Try.underlying32 info3 rfl (by decide) (by omega) u12 kY kL [.int .i64 kL] (fun _=>True) (fun _=>False) rfl rfl ?aP (fun _ hk=>hk.elim) ?aF ?aO ?aB ?aS ?aL ?_;(case aP=>exact rfl);(case aB=>exact(gW HB.out));(case aF=>exact(fun _ _=>trivial));(case aO=>exact(gR cK.out));(case aS=>exact(bH (gW HB.out)));(case aL=>have:=BE.out;omega);intro v421 w53 ho hb hg hat;rw [←BF.out] at ho;have bY:=aM (Kd.S_after (ok:=(fun k_=>some k_≠(u9:Value).ownBlock)) (gS gL.out) hg hat);have bZ:=aM (Kd.S_after (ok:=(fun k_=>some k_≠(u4:Value).ownBlock)) (gS mT.out) hg hat);have cA:=aM (Kd.R_over' (gR cR.out) (Kd.R_typed (gR cK.out)) (by decide) hg);have cC:=aM (blk_grown (gB bR.out) hg (Kd.R_ne cK.out bR.out (by decide)));have cQ:=aM (hb);have dA:=aM (ho);clear gL;clear mT;clear cR;clear bR;clear HB;clear cK;have gL:=bY;have mT:=bZ;have cR:=cA;have bR:=cC;have HB:=cQ;have BG:=dA;clear bY bZ cA cC cQ dA;clear ho hb hg hat))
              go_roundg k4
              case measure=>have:=HK1.out;have:=HK2.out;have:=HK3.out;have:=HK4.out;omega
              case rel=>exact⟨(mF),(y420),(wrap64 (kO+1)),(by first|rfl|(simp;done)|(simp [*];done)),H',⟨by have:=HK1.out;have:=HK2.out;have:=HK3.out;have:=HK4.out;omega⟩,⟨gS gL.out⟩,⟨gS mT.out⟩,⟨gR cR.out⟩,⟨gR BG.out⟩,⟨gB bR.out⟩,⟨gW HB.out⟩⟩
          ·rw [if_neg c35] at H
           have Ml:decide (kO≤(aX.length:Int))=false:=decide_eq_false c35
           clear c35
           by_cases c54:rC.length<5864062014805
           rotate_left
           ·rw [if_neg c54] at H
            exact absurd H (by simp)
           rw [if_pos c54] at H
           have BH:=aM c54
           clear c54
           obtain⟨y417,Fy⟩:∃y_:List (List Int),y_=(rC++ [kY]):=⟨_,rfl⟩
           replace H:(regletref14_Predict.l1 k3 eC y417 Bv (wrap64 (bX+1)) aU aX bA bB aQ)=some (r1,r2):=by first|(rw [Fy];with_reducible exact H)|(have H2_:=(Option.bind_some _ _).symm.trans H;rw [Fy];with_reducible exact H2_)|(have H2_:=(Option.bind_some _ _).symm.trans H;with_reducible exact H2_)|with_reducible exact H|(rw [Fy];exact H)|exact H
           have BI:=aM Fy
           clear Fy
           have H':=aM H
           clear H
           have Rj:wr.cell? ⟨cS,0,none⟩=some (.slice bC aU.length bK):=(aG bR.out 0).trans rfl
           have Rk:wr.cell? ⟨cS,1,none⟩=some (.slice bM aX.length bO):=(aG bR.out 1).trans rfl
           have Rl:wr.cell? ⟨cS,2,none⟩=some (.int .i64 bA):=(aG bR.out 2).trans rfl
           have Rm:wr.cell? ⟨cS,3,none⟩=some (.int .i64 bB):=(aG bR.out 3).trans rfl
           have Rn:wr.cell? ⟨cS,4,none⟩=some (.slice bQ aQ.length bP):=(aG bR.out 4).trans rfl
           have Ro:=aH bR.out 0
           have Rp:=aH bR.out 1
           have Rq:=aH bR.out 2
           have Rs:=aH bR.out 3
           have Rt:=aH bR.out 4
           obtain⟨Xf,Xg,MH⟩:=Kd.R_slice cK.out
           subst MH
           go_wp2_with (first|((with_reducible refine gate_builtin (b:= .append) (xs:=#[.tmp 108,.tmp 110]) rfl ?_);at_builtin;refine Kd.S_append (Kd.slice 3 (Kd.int .i64)) (w0:=w) w.heap.size rfl (.tmp 108) (.tmp 110) 28 32 (.slice none 0 0) 24 rfl Try.underlying28 info32 rfl (by decide) (by omega) u9 rC kY [.slice Xf kY.length Xg] (fun k_=>some k_≠(u4:Value).ownBlock) (fun k_=>some k_=(.slice Xf kY.length Xg:Value).ownBlock) rfl rfl ?aP (fun k_ hk_=>((Kd.R_mono (ok':=fun k_=>((fun k_=>some k_≠(u4:Value).ownBlock)) k_∧some k_≠(u9:Value).ownBlock) (Kd.R_apart' (Kd.R_apart' (cK.out) (Kd.S_typed gL.out) (by decide)) (Kd.S_typed mT.out) (by decide)) (fun k_ hk=>⟨hk.1.2,hk.2⟩))).1 k_ hk_.symm) ?aF ?aO ?aB ?aS ?aL ?_;(case aP=>exact Kd.M_row (Kd.R_mono (Kd.R_tight rfl (Kd.R_mono (ok':=fun k_=>((fun k_=>some k_≠(u4:Value).ownBlock)) k_∧some k_≠(u9:Value).ownBlock) (Kd.R_apart' (Kd.R_apart' (cK.out) (Kd.S_typed gL.out) (by decide)) (Kd.S_typed mT.out) (by decide)) (fun k_ hk=>⟨hk.1.2,hk.2⟩))) (fun _ h_=>h_)));(case aB=>exact(gW HB.out));(case aF=>exact(fun k_ hk=>Kd.fresh' (Kd.S_lt (gS gL.out)) k_ hk));(case aO=>exact(by(with_reducible repeat(first|apply Kd.S_alloc|apply aV|apply aW));exact Kd.S_mono mT.out (fun k_ hk=>⟨hk.1,fun e_=>hk.2 e_⟩)));(case aS=>exact(bH (gW HB.out)));(case aL=>have:=BH.out;omega);intro v418 w56 ho hb hg hat;rw [←BI.out] at ho;have bY:=aM (Kd.S_after (ok:=(fun k_=>some k_≠(.slice Xf kY.length Xg:Value).ownBlock)) (by(with_reducible repeat(first|apply Kd.S_alloc|apply aV|apply aW));exact Kd.S_mono gL.out (fun _ hk=>⟨hk.2,hk.1⟩)) hg hat);have bZ:=aM (Kd.R_over' (gR cR.out) (Kd.S_typed (gS mT.out)) (by decide) hg);have cA:=aM (blk_grown (gB bR.out) hg (Kd.S_ne mT.out bR.out (by decide)));have cC:=aM (hb);have cQ:=aM (ho);clear gL;clear cR;clear bR;clear HB;clear mT;clear cK;have gL:=bY;have cR:=bZ;have bR:=cA;have HB:=cC;have BJ:=cQ;clear bY bZ cA cC cQ;clear ho hb hg hat))
           go_roundg k3
           case measure=>have:=HK1.out;have:=HK2.out;have:=HK3.out;omega
           case rel=>exact⟨(y417),(Bv),(wrap64 (bX+1)),(by first|rfl|(simp;done)|(simp [*];done)),H',⟨by have:=HK1.out;have:=HK2.out;have:=HK3.out;omega⟩,⟨by(with_reducible repeat(first|apply Kd.S_alloc|apply aV|apply aW));exact Kd.S_mono gL.out (fun _ hk=>hk.2)⟩,⟨gS BJ.out⟩,⟨gR cR.out⟩,⟨gB bR.out⟩,⟨gW HB.out⟩⟩
       ·rw [if_neg c33] at H
        have Jn:decide (bX<(aU.length:Int))=false:=decide_eq_false c33
        clear c33
        simp only [Option.some.injEq,Prod.mk.injEq] at H
        obtain⟨rfl,rfl⟩:=H
        have Ru:wr.cell? ⟨cS,0,none⟩=some (.slice bC aU.length bK):=(aG bR.out 0).trans rfl
        have Rv:wr.cell? ⟨cS,1,none⟩=some (.slice bM aX.length bO):=(aG bR.out 1).trans rfl
        have ID:wr.cell? ⟨cS,2,none⟩=some (.int .i64 bA):=(aG bR.out 2).trans rfl
        have IE:wr.cell? ⟨cS,3,none⟩=some (.int .i64 bB):=(aG bR.out 3).trans rfl
        have IF:wr.cell? ⟨cS,4,none⟩=some (.slice bQ aQ.length bP):=(aG bR.out 4).trans rfl
        have Rw:=aH bR.out 0
        have Rx:=aH bR.out 1
        have IG:=aH bR.out 2
        have IH:=aH bR.out 3
        have II:=aH bR.out 4
        go_wp2
        go_ret2
        exact⟨_,_,by first|rfl|(simp [errW_none,errW_some]<;>rfl)|(simp [*,errW_none,errW_some]<;>rfl),by(with_reducible repeat(first|apply Kd.S_alloc|apply aV|apply aW));exact Kd.S_mono mT.out (fun _ hk=>trivial),gR cR.out,gW HB.out⟩
 ·replace c3:=Bool.eq_false_iff.mpr c3
  subst c3
  have H1:(some (([]:List (List Int)),([]:List (S78))))=some (r1,r2):=by rw [if_neg (show ¬(false=true) by decide)] at H;exact H
  clear H
  have H:=H1
  clear H1
  simp only [Option.some.injEq,Prod.mk.injEq] at H
  obtain⟨rfl,rfl⟩:=H
  go_enter Try.func20,Try.ntmps20
  go_wp2_with (first|((with_reducible refine bJ (N:=1) rfl ?_);refine box_event ?hg (N:=1) ?hd (cs:=#[.slice bC aU.length bK,.slice bM aX.length bO,.int .i64 bA,.int .i64 bB,.slice bQ aQ.length bP]) (t:=26) ?hr ?_;(case hd=>rfl);(case hg=>rfl);(case hr=>first|(go_simp;done)|(go_simp;rfl));intro cS hg w59 hbox hb;have bY:=aM (bG (gW HB.out) hb);have bZ:=aM (hbox);have cA:=aM ((by rw [hg];exact(bH (gW HB.out)):w.heap.size≤cS));have cC:=aM ((by rw [hg];exact(bH (gW HB.out)):w.heap.size≤cS));clear HB;have HB:=bY;have bR:=bZ;have GW396:=cA;have AN:=cC;clear bY bZ cA cC;clear hb hbox hg;have Ry:w59.cell? ⟨cS,0,none⟩=some (.slice bC aU.length bK):=(aG bR.out 0).trans rfl;have Rz:w59.cell? ⟨cS,1,none⟩=some (.slice bM aX.length bO):=(aG bR.out 1).trans rfl;have IJ:w59.cell? ⟨cS,2,none⟩=some (.int .i64 bA):=(aG bR.out 2).trans rfl;have IK:w59.cell? ⟨cS,3,none⟩=some (.int .i64 bB):=(aG bR.out 3).trans rfl;have IL:w59.cell? ⟨cS,4,none⟩=some (.slice bQ aQ.length bP):=(aG bR.out 4).trans rfl;have Sa:=aH bR.out 0;have Sb:=aH bR.out 1;have IM:=aH bR.out 2;have IN:=aH bR.out 3;have IO:=aH bR.out 4)|((with_reducible refine bI (f:=30) rfl ?_);refine goesL_ (some 17) rfl rfl Try.func30 (by kernel_rfl) rfl #[.agg #[.slice bC aU.length bK,.slice bM aX.length bO,.int .i64 bA,.int .i64 bB,.slice bQ aQ.length bP]] rfl (by(try simp only [List.map_toArray,List.map_cons,List.map_nil]);first|done|rfl|(simp only [List.length_drop,List.length_take];rfl)) ?_;(with_reducible refine(regletref13_Right.calls k _ _ aU _ _ aX bA bB _ _ aQ false _ ?side1 ?side2 ?side3 ?side4 ?side5 ?side6 A2.out).mono ?_);(case side1=>exact gC (bD eS.out HB.out));(case side2=>exact eU.out);(case side3=>exact gC (bD eX.out HB.out));(case side4=>exact eY.out);(case side5=>exact gC (bD dW.out HB.out));(case side6=>exact eZ.out);rintro e w61 ⟨rfl,hb⟩;refine⟨_,rfl,?_⟩;have bY:=aM (bF (gB bR.out) hb);have bZ:=aM (bG (gW HB.out) hb);clear bR;clear HB;have bR:=bY;have HB:=bZ;clear bY bZ;(try clear hb);(try clear hb2);(try clear hk);(try clear hi)))
  go_ret2
  exact⟨_,_,by first|rfl|(simp [errW_none,errW_some]<;>rfl)|(simp [*,errW_none,errW_some]<;>rfl),by first|exact Kd.S_nil _ _ _ _ _|exact Kd.N_nil _ _ _ _ _|exact Kd.V_nil _ _ _ _ _|exact Kd.Q_nil _ _ _ _ _|exact Kd.R_nil _ _ _ _ _,by first|exact Kd.R_nil _ _ _ _ _|exact Kd.N_nil _ _ _ _ _|exact Kd.V_nil _ _ _ _ _|exact Kd.Q_nil _ _ _ _ _|exact Kd.S_nil _ _ _ _ _,gW HB.out⟩
attribute [local go_sem] max2_int min2_int max_two min_two max_three min_three max_four min_four   -- for this text's walks alone
set_option linter.unusedVariables false
set_option linter.unusedSimpArgs false
def regletlaw16_table.f (k:Nat) (aU:List ByteArray) (aX:List (S72)) (bA:Int) (bB:Int) (aQ:List (S35)) (a1:Int) (a2:Int):Option ((List (List Int))):=(regletref14_Predict.f k aU aX bA bB aQ).bind fun fP=>(if a1<200 then(if(fP.1.length:Int)>0 then(if(fP.1.length:Int)=0 then(none) else(if 0≤(Int.tmod (wrap64 (a1)) (fP.1.length:Int)) then(if(Int.tmod (wrap64 (a1)) (fP.1.length:Int))<(fP.1.length:Int) then(if((rd_L5 fP.1 (Int.tmod (wrap64 (a1)) (fP.1.length:Int))).length:Int)=0 then(none) else(if(wrap64 ((aQ.length:Int)+2))=0 then(none) else(if 0≤(Int.tmod (wrap64 (Int.tdiv (wrap64 (a1)) 8)) ((rd_L5 fP.1 (Int.tmod (wrap64 (a1)) (fP.1.length:Int))).length:Int)) then(if(Int.tmod (wrap64 (Int.tdiv (wrap64 (a1)) 8)) ((rd_L5 fP.1 (Int.tmod (wrap64 (a1)) (fP.1.length:Int))).length:Int))<((rd_L5 fP.1 (Int.tmod (wrap64 (a1)) (fP.1.length:Int))).length:Int) then(some (fP.1.set ((Int.tmod (wrap64 (a1)) (fP.1.length:Int)):Int).toNat ((rd_L5 fP.1 (Int.tmod (wrap64 (a1)) (fP.1.length:Int))).set ((Int.tmod (wrap64 (Int.tdiv (wrap64 (a1)) 8)) ((rd_L5 fP.1 (Int.tmod (wrap64 (a1)) (fP.1.length:Int))).length:Int)):Int).toNat (wrap64 ((Int.tmod (wrap64 (a2)) (wrap64 ((aQ.length:Int)+2))) - 1))))) else(none)) else(none)))) else(none)) else(none))) else(some fP.1)) else(some fP.1))
set_option maxHeartbeats 8000000 in
set_option maxRecDepth 100000 in
theorem regletlaw16_table.calls (k:Nat) (bC:Option Addr) (bK:Nat) (aU:List ByteArray) (bM:Option Addr) (bO:Nat) (aX:List (S72)) (bA:Int) (bB:Int) (bQ:Option Addr) (bP:Nat) (aQ:List (S35)) (a1:Int) (a2:Int) (r:List (List Int)) (w:World) (dM:Kd.C Kd.string w bC aU.length aU) (dT:aU.length≤bK) (dU:Kd.C k72 w bM aX.length aX) (dY:aX.length≤bO) (dR:Kd.C k35 w bQ aQ.length aQ) (eB:aQ.length≤bP) (h:regletlaw16_table.f k aU aX bA bB aQ a1 a2=some r):
 Calls Try.prog 14 #[.agg #[.slice bC aU.length bK,.slice bM aX.length bO,.int .i64 bA,.int .i64 bB,.slice bQ aQ.length bP],.int .u8 a1,.int .u8 a2] w fun e w'=>∃v0_:Value,e= .returned (v0_)∧Kd.S (Kd.slice 3 (Kd.int .i64)) 32 w' w.heap.size (fun _=>True) v0_ r∧Below w.heap.size w w':=by
 have hu26:=Try.underlying26
 have eS:=aM dM
 have eU:=aM dT
 clear dM dT
 have eX:=aM dU
 have eY:=aM dY
 clear dU dY
 have dW:=aM dR
 have eZ:=aM eB
 clear dR eB
 have HB:=aM (Below.refl w.heap.size w)
 have H:((regletref14_Predict.f k aU aX bA bB aQ).bind fun fP=>(if a1<200 then(if(fP.1.length:Int)>0 then(if(fP.1.length:Int)=0 then(none) else(if 0≤(Int.tmod (wrap64 (a1)) (fP.1.length:Int)) then(if(Int.tmod (wrap64 (a1)) (fP.1.length:Int))<(fP.1.length:Int) then(if((rd_L5 fP.1 (Int.tmod (wrap64 (a1)) (fP.1.length:Int))).length:Int)=0 then(none) else(if(wrap64 ((aQ.length:Int)+2))=0 then(none) else(if 0≤(Int.tmod (wrap64 (Int.tdiv (wrap64 (a1)) 8)) ((rd_L5 fP.1 (Int.tmod (wrap64 (a1)) (fP.1.length:Int))).length:Int)) then(if(Int.tmod (wrap64 (Int.tdiv (wrap64 (a1)) 8)) ((rd_L5 fP.1 (Int.tmod (wrap64 (a1)) (fP.1.length:Int))).length:Int))<((rd_L5 fP.1 (Int.tmod (wrap64 (a1)) (fP.1.length:Int))).length:Int) then(some (fP.1.set ((Int.tmod (wrap64 (a1)) (fP.1.length:Int)):Int).toNat ((rd_L5 fP.1 (Int.tmod (wrap64 (a1)) (fP.1.length:Int))).set ((Int.tmod (wrap64 (Int.tdiv (wrap64 (a1)) 8)) ((rd_L5 fP.1 (Int.tmod (wrap64 (a1)) (fP.1.length:Int))).length:Int)):Int).toNat (wrap64 ((Int.tmod (wrap64 (a2)) (wrap64 ((aQ.length:Int)+2))) - 1))))) else(none)) else(none)))) else(none)) else(none))) else(some fP.1)) else(some fP.1)))=some r:=h
 clear h
 replace H:=Option.bind_eq_some_iff.mp H
 obtain⟨⟨t430,t433⟩,A40,H⟩:=H
 replace H:(if a1<200 then(if(t430.length:Int)>0 then(if(t430.length:Int)=0 then(none) else(if 0≤(Int.tmod (wrap64 (a1)) (t430.length:Int)) then(if(Int.tmod (wrap64 (a1)) (t430.length:Int))<(t430.length:Int) then(if((rd_L5 t430 (Int.tmod (wrap64 (a1)) (t430.length:Int))).length:Int)=0 then(none) else(if(wrap64 ((aQ.length:Int)+2))=0 then(none) else(if 0≤(Int.tmod (wrap64 (Int.tdiv (wrap64 (a1)) 8)) ((rd_L5 t430 (Int.tmod (wrap64 (a1)) (t430.length:Int))).length:Int)) then(if(Int.tmod (wrap64 (Int.tdiv (wrap64 (a1)) 8)) ((rd_L5 t430 (Int.tmod (wrap64 (a1)) (t430.length:Int))).length:Int))<((rd_L5 t430 (Int.tmod (wrap64 (a1)) (t430.length:Int))).length:Int) then(some (t430.set ((Int.tmod (wrap64 (a1)) (t430.length:Int)):Int).toNat ((rd_L5 t430 (Int.tmod (wrap64 (a1)) (t430.length:Int))).set ((Int.tmod (wrap64 (Int.tdiv (wrap64 (a1)) 8)) ((rd_L5 t430 (Int.tmod (wrap64 (a1)) (t430.length:Int))).length:Int)):Int).toNat (wrap64 ((Int.tmod (wrap64 (a2)) (wrap64 ((aQ.length:Int)+2))) - 1))))) else(none)) else(none)))) else(none)) else(none))) else(some t430)) else(some t430))=some r:=H
 have A4:=aM A40
 clear A40
 by_cases c5:a1<200
 ·rw [if_pos c5] at H
  have Ah:decide (a1<200)=true:=decide_eq_true c5
  clear c5
  by_cases c6:(t430.length:Int)>0
  ·rw [if_pos c6] at H
   have tK:decide (0<(t430.length:Int))=true:=decide_eq_true c6
   have Bo:decide (0<t430.length)=true:=decide_eq_true (by omega)
   clear c6
   by_cases c7:(t430.length:Int)=0
   ·rw [if_pos c7] at H
    exact absurd H (by simp)
   rw [if_neg c7] at H
   have xW:((t430.length:Int)==0)=false:=beq_eq_false_iff_ne.mpr c7
   have Cb:((t430.length:Int) !=0)=true:=bne_iff_ne.mpr c7
   have Sc:¬(t430= []):=fun h_=>c7 (by rw [h_];rfl)
   obtain⟨qW,Sd⟩:∃j_:Int,(Int.tmod (wrap64 (a1)) (t430.length:Int))=j_:=⟨_,rfl⟩
   replace H:(if 0≤(qW) then(if(qW)<(t430.length:Int) then(if((rd_L5 t430 (qW)).length:Int)=0 then(none) else(if(wrap64 ((aQ.length:Int)+2))=0 then(none) else(if 0≤(Int.tmod (wrap64 (Int.tdiv (wrap64 (a1)) 8)) ((rd_L5 t430 (qW)).length:Int)) then(if(Int.tmod (wrap64 (Int.tdiv (wrap64 (a1)) 8)) ((rd_L5 t430 (qW)).length:Int))<((rd_L5 t430 (qW)).length:Int) then(some (t430.set ((qW):Int).toNat ((rd_L5 t430 (qW)).set ((Int.tmod (wrap64 (Int.tdiv (wrap64 (a1)) 8)) ((rd_L5 t430 (qW)).length:Int)):Int).toNat (wrap64 ((Int.tmod (wrap64 (a2)) (wrap64 ((aQ.length:Int)+2))) - 1))))) else(none)) else(none)))) else(none)) else(none))=some r:=by first|(rw [Sd] at H;exact H)|(simp only [Sd] at H ⊢;exact H)
   (try rw [Sd] at A4)
   by_cases c9:0≤(qW)
   rotate_left
   ·rw [if_neg c9] at H
    exact absurd H (by simp)
   rw [if_pos c9] at H
   have MI:decide (0≤(qW))=true:=decide_eq_true c9
   clear c9
   by_cases c10:(qW)<(t430.length:Int)
   rotate_left
   ·rw [if_neg c10] at H
    exact absurd H (by simp)
   rw [if_pos c10] at H
   have nN:decide ((qW)<(t430.length:Int))=true:=decide_eq_true c10
   clear c10
   by_cases c11:((rd_L5 t430 (qW)).length:Int)=0
   ·rw [if_pos c11] at H
    exact absurd H (by simp)
   rw [if_neg c11] at H
   have tI:(((rd_L5 t430 (qW)).length:Int)==0)=false:=beq_eq_false_iff_ne.mpr c11
   have Vc:(((rd_L5 t430 (qW)).length:Int) !=0)=true:=bne_iff_ne.mpr c11
   have OQ:¬((rd_L5 t430 (qW))= []):=fun h_=>c11 (by rw [h_];rfl)
   by_cases c12:(wrap64 ((aQ.length:Int)+2))=0
   ·rw [if_pos c12] at H
    exact absurd H (by simp)
   rw [if_neg c12] at H
   have Br:((wrap64 ((aQ.length:Int)+2))==0)=false:=beq_eq_false_iff_ne.mpr c12
   have OR:((wrap64 ((aQ.length:Int)+2)) !=0)=true:=bne_iff_ne.mpr c12
   obtain⟨xX,Jz⟩:∃j_:Int,(Int.tmod (wrap64 (Int.tdiv (wrap64 (a1)) 8)) ((rd_L5 t430 (qW)).length:Int))=j_:=⟨_,rfl⟩
   replace H:(if 0≤(xX) then(if(xX)<((rd_L5 t430 (qW)).length:Int) then(some (t430.set ((qW):Int).toNat ((rd_L5 t430 (qW)).set ((xX):Int).toNat (wrap64 ((Int.tmod (wrap64 (a2)) (wrap64 ((aQ.length:Int)+2))) - 1))))) else(none)) else(none))=some r:=by first|(rw [Jz] at H;exact H)|(simp only [Jz] at H ⊢;exact H)
   (try rw [Jz] at A4)
   by_cases c14:0≤(xX)
   rotate_left
   ·rw [if_neg c14] at H
    exact absurd H (by simp)
   rw [if_pos c14] at H
   have Ac:decide (0≤(xX))=true:=decide_eq_true c14
   clear c14
   by_cases c15:(xX)<((rd_L5 t430 (qW)).length:Int)
   rotate_left
   ·rw [if_neg c15] at H
    exact absurd H (by simp)
   rw [if_pos c15] at H
   have yH:decide ((xX)<((rd_L5 t430 (qW)).length:Int))=true:=decide_eq_true c15
   clear c15
   obtain⟨y437,Fz⟩:∃y_:List Int,y_=((rd_L5 t430 (qW)).set ((xX):Int).toNat (wrap64 ((Int.tmod (wrap64 (a2)) (wrap64 ((aQ.length:Int)+2))) - 1))):=⟨_,rfl⟩
   replace H:(some (t430.set ((qW):Int).toNat y437))=some r:=by first|(rw [Fz];with_reducible exact H)|(have H2_:=(Option.bind_some _ _).symm.trans H;rw [Fz];with_reducible exact H2_)|(have H2_:=(Option.bind_some _ _).symm.trans H;with_reducible exact H2_)|with_reducible exact H|(rw [Fz];exact H)|exact H
   have BM:=aM Fz
   clear Fz
   obtain⟨y439,Ga⟩:∃y_:List (List Int),y_=(t430.set ((qW):Int).toNat y437):=⟨_,rfl⟩
   replace H:(some y439)=some r:=by first|(rw [Ga];with_reducible exact H)|(have H2_:=(Option.bind_some _ _).symm.trans H;rw [Ga];with_reducible exact H2_)|(have H2_:=(Option.bind_some _ _).symm.trans H;with_reducible exact H2_)|with_reducible exact H|(rw [Ga];exact H)|exact H
   have BN:=aM Ga
   clear Ga
   obtain rfl:=Option.some.inj H
   go_enter Try.func14,Try.ntmps14
   go_wp2_with (first|((with_reducible refine bJ (N:=3) rfl ?_);(try(refine gate_guard (by rfl) ?_;dsimp only));refine box_event ?hg (N:=3) ?hd (cs:=#[.slice bC aU.length bK,.slice bM aX.length bO,.int .i64 bA,.int .i64 bB,.slice bQ aQ.length bP]) (t:=26) ?hr ?_;(case hd=>rfl);(case hg=>rfl);(case hr=>first|(go_simp;done)|(go_simp;rfl));intro iW hg w17 hbox hb;have bY:=aM (bG (gW HB.out) hb);have bZ:=aM (hbox);have cA:=aM ((by rw [hg];exact(bH (gW HB.out)):w.heap.size≤iW));have cC:=aM ((by rw [hg];exact(bH (gW HB.out)):w.heap.size≤iW));clear HB;have HB:=bY;have eN:=bZ;have GW429:=cA;have Vd:=cC;clear bY bZ cA cC;clear hb hbox hg;have kE:w17.cell? ⟨iW,0,none⟩=some (.slice bC aU.length bK):=(aG eN.out 0).trans rfl;have kF:w17.cell? ⟨iW,1,none⟩=some (.slice bM aX.length bO):=(aG eN.out 1).trans rfl;have mM:w17.cell? ⟨iW,2,none⟩=some (.int .i64 bA):=(aG eN.out 2).trans rfl;have mN:w17.cell? ⟨iW,3,none⟩=some (.int .i64 bB):=(aG eN.out 3).trans rfl;have mO:w17.cell? ⟨iW,4,none⟩=some (.slice bQ aQ.length bP):=(aG eN.out 4).trans rfl;have kG:=aH eN.out 0;have kH:=aH eN.out 1;have mP:=aH eN.out 2;have mQ:=aH eN.out 3;have mR:=aH eN.out 4)|((with_reducible refine bI (f:=20) rfl ?_);refine goesL_ (some 13) rfl rfl Try.func20 (by kernel_rfl) rfl #[.agg #[.slice bC aU.length bK,.slice bM aX.length bO,.int .i64 bA,.int .i64 bB,.slice bQ aQ.length bP]] rfl (by(try simp only [List.map_toArray,List.map_cons,List.map_nil]);first|done|rfl|(simp only [List.length_drop,List.length_take];rfl)) ?_;(with_reducible refine(regletref14_Predict.calls k _ _ aU _ _ aX bA bB _ _ aQ t430 t433 _ ?side1 ?side2 ?side3 ?side4 ?side5 ?side6 A4.out).mono ?_);(case side1=>exact gC (bD eS.out HB.out));(case side2=>exact eU.out);(case side3=>exact gC (bD eX.out HB.out));(case side4=>exact eY.out);(case side5=>exact gC (bD dW.out HB.out));(case side6=>exact eZ.out);rintro e w19 ⟨v431,v434,rfl,ho0,ho1,hb⟩;refine⟨_,rfl,?_⟩;have bY:=aM (Kd.S_lower ho0 (bH (gW HB.out)));have bZ:=aM (bL ho1 (bH (gW HB.out)));have cA:=aM (bF (gB eN.out) hb);have cC:=aM (bG (gW HB.out) hb);clear eN;clear HB;have oB:=bY;have Gb:=bZ;have eN:=cA;have HB:=cC;clear bY bZ cA cC;(try clear hb);(try clear hb2);(try clear hk);(try clear hi);(try clear ho0);(try clear ho1);obtain⟨BO,Xh,Se⟩:=Kd.S_slice oB.out;subst Se;have p436:0≤((qW):Int):=of_decide_eq_true (by first|(with_reducible assumption)|assumption);have q436:(qW)<(t430.length:Int):=of_decide_eq_true (by first|(with_reducible assumption)|assumption);obtain⟨BP,MJ,Mp,e436,Ka,Kb,Ke⟩:=at_L5 (Kd.S_reads' oB.out).2.2 (qW) p436 q436;cases e436;obtain⟨ce436,hce436,hMe436,hcc436⟩:=Kd.S_get oB.out [] (qW) p436 (by first|exact q436|exact of_decide_eq_true (by first|(with_reducible assumption)|assumption)|(have e_:=(Kd.S_reads' oB.out).1;omega));obtain⟨ve436_0,rfl,ge436_0⟩:=hMe436;have hv436_0:=hcc436 0 _ rfl;rw [Nat.add_zero,show((Kd.slice 3 (Kd.int .i64))).sz=1 from rfl,Nat.mul_one] at hv436_0;replace hv436_0:=Option.some.inj (hv436_0.symm.trans Ka);rw [hv436_0] at ge436_0;have HL436_0:=aM (show Kd.R (Kd.int .i64) 3 _ _ _ _ (rd_L5 t430 (qW)) from ge436_0);clear hv436_0 ge436_0;have HX436_0:=aM Ka;clear hcc436 hce436;have IP:=aM Ke;have IQ:=aM Kb;clear Ke Kb;replace p436:=eq_true p436;replace q436:=eq_true q436;have uX:w19.cell? ⟨iW,0,none⟩=some (.slice bC aU.length bK):=(aG eN.out 0).trans rfl;have uY:w19.cell? ⟨iW,1,none⟩=some (.slice bM aX.length bO):=(aG eN.out 1).trans rfl;have uZ:w19.cell? ⟨iW,2,none⟩=some (.int .i64 bA):=(aG eN.out 2).trans rfl;have vA:w19.cell? ⟨iW,3,none⟩=some (.int .i64 bB):=(aG eN.out 3).trans rfl;have vB:w19.cell? ⟨iW,4,none⟩=some (.slice bQ aQ.length bP):=(aG eN.out 4).trans rfl;have vC:=aH eN.out 0;have vD:=aH eN.out 1;have vE:=aH eN.out 2;have vF:=aH eN.out 3;have vG:=aH eN.out 4;have p16:0≤((xX):Int):=of_decide_eq_true (by first|(with_reducible assumption)|assumption);have q16:((xX):Int)<(((rd_L5 t430 (qW)).length:Int):Int):=of_decide_eq_true (by first|(with_reducible assumption)|assumption);obtain⟨go16,QO,BQ,BR,gl16,cl16,HG16⟩:=Kd.R_form HL436_0.out (by omega);(first|cases BQ|(injection BQ with ea_ en_ ec_;(first|subst ea_|(injection ea_ with ea_;subst ea_));subst ec_;clear en_));have GB16:=aM BR;have GG16:=aM HG16;clear BR gl16 HG16;obtain⟨MK,hf16_0⟩:=Kd.R_celln 0 HL436_0.out ((xX):Int) p16 q16;replace p16:=eq_true p16;replace q16:=eq_true q16;have hq22:((qW):Int)<(t430.length:Int):=(by have h_:((qW):Int)<((t430.length:Int):Int):=of_decide_eq_true (by first|(with_reducible assumption)|assumption);first|exact h_|(have e_:=(Kd.S_reads' oB.out).1;omega)|simpa only [List.length_set,List.length_set] using h_);obtain⟨oki22,ce22,hcl22,hM22,hcc22,hok22,hbk22⟩:=Kd.S_borrow oB.out [] ((qW):Int) (of_decide_eq_true (by first|(with_reducible assumption)|assumption)) hq22;obtain⟨ve22_0,rfl,ge22_0⟩:=hM22;have hv22:=hcc22 0 _ rfl;rw [Nat.add_zero,show((Kd.slice 3 (Kd.int .i64))).sz=1 from rfl,Nat.mul_one] at hv22;replace hv22:=Option.some.inj (hv22.symm.trans HX436_0.out);subst hv22;clear hcc22 hcl22;replace ge22_0:=(show Kd.R (Kd.int .i64) 3 _ _ _ _ (rd_L5 t430 (qW)) from ge22_0);have HP22:=Kd.R_putg ge22_0 ((xX):Int) (wrap64 ((Int.tmod (wrap64 (a2)) (wrap64 ((aQ.length:Int)+2))) - 1)))|((with_reducible refine gate_store (t:=3) (p:=47) rfl ?_);refine store_event (t:=3) (p:=47) (v:=?vo_w23) (w1:=(w19.setCell ⟨go16,((xX):Int).toNat,none⟩ (.int .i64 (wrap64 ((Int.tmod (wrap64 (a2)) (wrap64 ((aQ.length:Int)+2))) - 1))))) ?hg ?ho ?hn ?hr ?_;(case ho=>rfl);(case hg=>rfl);(case hn=>rfl);(case hr=>first|(go_simp;done)|(go_simp;rfl));intro w23 hw;have hg:w19.grownBy w23 (some go16):=(by rw [hw];exact HP22.2);have hz_:Kd.R (Kd.int .i64) 3 w23 w.heap.size oki22 (.slice (some ⟨go16,0,none⟩) (rd_L5 t430 (qW)).length Mp) y437:=(by rw [hw,BM.out];exact HP22.1);have hp_:Kd.S (Kd.slice 3 (Kd.int .i64)) 32 w23 w.heap.size (fun _=>True) (.slice (some BP) t430.length Xh) y439:=(by rw [BN.out];exact hbk22 hg (fun k_ e_=>by injection e_ with e_;subst e_;exact ge22_0.1 _ rfl) (Kd.M_row hz_));have hm_:=Kd.R_mono hz_ hok22;clear HP22 hbk22;have bY:=aM (blk_grown (gB eN.out) hg (Kd.R_ne HL436_0.out eN.out (by decide)));have bZ:=aM (hp_);have cA:=aM (Kd.R_over' (v:=(.slice (some ⟨go16,0,none⟩) (rd_L5 t430 (qW)).length Mp)) (gR Gb.out) (Kd.R_typed HL436_0.out) (by decide) hg);have cC:=aM ((by rw [hw];exact aL (HB.out) GB16.out:Below w.heap.size w w23));have cQ:=aM (hm_);have dA:=aM ((aF hm_).2.1);clear eN;clear oB;clear Gb;clear HB;clear HL436_0;have eN:=bY;have oB:=bZ;have Gb:=cA;have HB:=cC;have HL440:=cQ;have HC438:=dA;clear bY bZ cA cC cQ dA;clear hg hw hp_ hz_ hm_ hok22))
   go_ret
   exact⟨_,by first|rfl|(simp [errW_none,errW_some]<;>rfl)|(simp only [←Sd,←Jz];first|rfl|(simp [errW_none,errW_some]<;>rfl))|(simp [*,errW_none,errW_some]<;>rfl),gS oB.out,gW HB.out⟩
  ·rw [if_neg c6] at H
   have tK:decide (0<(t430.length:Int))=false:=decide_eq_false c6
   have Bo:decide (0<t430.length)=false:=decide_eq_false (by omega)
   clear c6
   obtain rfl:=Option.some.inj H
   go_enter Try.func14,Try.ntmps14
   go_wp2_with (first|((with_reducible refine bJ (N:=3) rfl ?_);(try(refine gate_guard (by rfl) ?_;dsimp only));refine box_event ?hg (N:=3) ?hd (cs:=#[.slice bC aU.length bK,.slice bM aX.length bO,.int .i64 bA,.int .i64 bB,.slice bQ aQ.length bP]) (t:=26) ?hr ?_;(case hd=>rfl);(case hg=>rfl);(case hr=>first|(go_simp;done)|(go_simp;rfl));intro iW hg w24 hbox hb;have bY:=aM (bG (gW HB.out) hb);have bZ:=aM (hbox);have cA:=aM ((by rw [hg];exact(bH (gW HB.out)):w.heap.size≤iW));have cC:=aM ((by rw [hg];exact(bH (gW HB.out)):w.heap.size≤iW));clear HB;have HB:=bY;have eN:=bZ;have GW429:=cA;have Vd:=cC;clear bY bZ cA cC;clear hb hbox hg;have yQ:w24.cell? ⟨iW,0,none⟩=some (.slice bC aU.length bK):=(aG eN.out 0).trans rfl;have yR:w24.cell? ⟨iW,1,none⟩=some (.slice bM aX.length bO):=(aG eN.out 1).trans rfl;have Kf:w24.cell? ⟨iW,2,none⟩=some (.int .i64 bA):=(aG eN.out 2).trans rfl;have Kg:w24.cell? ⟨iW,3,none⟩=some (.int .i64 bB):=(aG eN.out 3).trans rfl;have Kh:w24.cell? ⟨iW,4,none⟩=some (.slice bQ aQ.length bP):=(aG eN.out 4).trans rfl;have yS:=aH eN.out 0;have yT:=aH eN.out 1;have Ki:=aH eN.out 2;have Kj:=aH eN.out 3;have Kk:=aH eN.out 4)|((with_reducible refine bI (f:=20) rfl ?_);refine goesL_ (some 13) rfl rfl Try.func20 (by kernel_rfl) rfl #[.agg #[.slice bC aU.length bK,.slice bM aX.length bO,.int .i64 bA,.int .i64 bB,.slice bQ aQ.length bP]] rfl (by(try simp only [List.map_toArray,List.map_cons,List.map_nil]);first|done|rfl|(simp only [List.length_drop,List.length_take];rfl)) ?_;(with_reducible refine(regletref14_Predict.calls k _ _ aU _ _ aX bA bB _ _ aQ t430 t433 _ ?side1 ?side2 ?side3 ?side4 ?side5 ?side6 A4.out).mono ?_);(case side1=>exact gC (bD eS.out HB.out));(case side2=>exact eU.out);(case side3=>exact gC (bD eX.out HB.out));(case side4=>exact eY.out);(case side5=>exact gC (bD dW.out HB.out));(case side6=>exact eZ.out);rintro e w26 ⟨v431,v434,rfl,ho0,ho1,hb⟩;refine⟨_,rfl,?_⟩;have bY:=aM (Kd.S_lower ho0 (bH (gW HB.out)));have bZ:=aM (bL ho1 (bH (gW HB.out)));have cA:=aM (bF (gB eN.out) hb);have cC:=aM (bG (gW HB.out) hb);clear eN;clear HB;have oB:=bY;have Gb:=bZ;have eN:=cA;have HB:=cC;clear bY bZ cA cC;(try clear hb);(try clear hb2);(try clear hk);(try clear hi);(try clear ho0);(try clear ho1);obtain⟨Bp,Aj,Fk⟩:=Kd.S_slice oB.out;subst Fk))
   go_ret
   exact⟨_,by first|rfl|(simp [errW_none,errW_some]<;>rfl)|(simp [*,errW_none,errW_some]<;>rfl),gS oB.out,gW HB.out⟩
 ·rw [if_neg c5] at H
  have Ah:decide (a1<200)=false:=decide_eq_false c5
  clear c5
  obtain rfl:=Option.some.inj H
  go_enter Try.func14,Try.ntmps14
  go_wp2_with (first|((with_reducible refine bJ (N:=3) rfl ?_);(try(refine gate_guard (by rfl) ?_;dsimp only));refine box_event ?hg (N:=3) ?hd (cs:=#[.slice bC aU.length bK,.slice bM aX.length bO,.int .i64 bA,.int .i64 bB,.slice bQ aQ.length bP]) (t:=26) ?hr ?_;(case hd=>rfl);(case hg=>rfl);(case hr=>first|(go_simp;done)|(go_simp;rfl));intro iW hg w28 hbox hb;have bY:=aM (bG (gW HB.out) hb);have bZ:=aM (hbox);have cA:=aM ((by rw [hg];exact(bH (gW HB.out)):w.heap.size≤iW));have cC:=aM ((by rw [hg];exact(bH (gW HB.out)):w.heap.size≤iW));clear HB;have HB:=bY;have eN:=bZ;have GW429:=cA;have Vd:=cC;clear bY bZ cA cC;clear hb hbox hg;have IR:w28.cell? ⟨iW,0,none⟩=some (.slice bC aU.length bK):=(aG eN.out 0).trans rfl;have IS:w28.cell? ⟨iW,1,none⟩=some (.slice bM aX.length bO):=(aG eN.out 1).trans rfl;have IT:w28.cell? ⟨iW,2,none⟩=some (.int .i64 bA):=(aG eN.out 2).trans rfl;have IU:w28.cell? ⟨iW,3,none⟩=some (.int .i64 bB):=(aG eN.out 3).trans rfl;have IV:w28.cell? ⟨iW,4,none⟩=some (.slice bQ aQ.length bP):=(aG eN.out 4).trans rfl;have IW:=aH eN.out 0;have IX:=aH eN.out 1;have IY:=aH eN.out 2;have IZ:=aH eN.out 3;have JA:=aH eN.out 4)|((with_reducible refine bI (f:=20) rfl ?_);refine goesL_ (some 13) rfl rfl Try.func20 (by kernel_rfl) rfl #[.agg #[.slice bC aU.length bK,.slice bM aX.length bO,.int .i64 bA,.int .i64 bB,.slice bQ aQ.length bP]] rfl (by(try simp only [List.map_toArray,List.map_cons,List.map_nil]);first|done|rfl|(simp only [List.length_drop,List.length_take];rfl)) ?_;(with_reducible refine(regletref14_Predict.calls k _ _ aU _ _ aX bA bB _ _ aQ t430 t433 _ ?side1 ?side2 ?side3 ?side4 ?side5 ?side6 A4.out).mono ?_);(case side1=>exact gC (bD eS.out HB.out));(case side2=>exact eU.out);(case side3=>exact gC (bD eX.out HB.out));(case side4=>exact eY.out);(case side5=>exact gC (bD dW.out HB.out));(case side6=>exact eZ.out);rintro e w30 ⟨v431,v434,rfl,ho0,ho1,hb⟩;refine⟨_,rfl,?_⟩;have bY:=aM (Kd.S_lower ho0 (bH (gW HB.out)));have bZ:=aM (bL ho1 (bH (gW HB.out)));have cA:=aM (bF (gB eN.out) hb);have cC:=aM (bG (gW HB.out) hb);clear eN;clear HB;have oB:=bY;have Gb:=bZ;have eN:=cA;have HB:=cC;clear bY bZ cA cC;(try clear hb);(try clear hb2);(try clear hk);(try clear hi);(try clear ho0);(try clear ho1)))
  go_ret
  exact⟨_,by first|rfl|(simp [errW_none,errW_some]<;>rfl)|(simp [*,errW_none,errW_some]<;>rfl),gS oB.out,gW HB.out⟩
attribute [local go_sem] max2_int min2_int max_two min_two max_three min_three max_four min_four   -- for this text's walks alone
set_option linter.unusedVariables false
set_option linter.unusedSimpArgs false
mutual
def regletref16_Right.j0:Nat→List (List Int)→Bool→List ByteArray→List (S72)→Int→Int→List (S35)→Option (Bool)
 |0,_,_,_,_,_,_,_=>none
 |k+1,x1,x23,x217000,x217001,x217002,x217003,x217004=>if x23=true then(some false) else(regletref16_Right.l0 k x1 0 x217000 x217001 x217002 x217003 x217004)
def regletref16_Right.l0:Nat→List (List Int)→Int→List ByteArray→List (S72)→Int→Int→List (S35)→Option (Bool)
 |0,_,_,_,_,_,_,_=>none
 |k+1,x1,x5,x217000,x217001,x217002,x217003,x217004=>if x5<(x1.length:Int) then(if 0≤x5 then(if((rd_L5 x1 x5).length:Int)=(wrap64 ((x217001.length:Int)+1)) then(regletref16_Right.l1 k x1 x5 0 x217000 x217001 x217002 x217003 x217004) else(some false)) else(none)) else(some true)
def regletref16_Right.l1:Nat→List (List Int)→Int→Int→List ByteArray→List (S72)→Int→Int→List (S35)→Option (Bool)
 |0,_,_,_,_,_,_,_,_=>none
 |k+1,x1,x5,x6,x217000,x217001,x217002,x217003,x217004=>if 0≤x5 then(if x5<(x1.length:Int) then(if x6<((rd_L5 x1 x5).length:Int) then(if 0≤x6 then(if(rd (rd_L5 x1 x5) x6)<(-1) then(some false) else(if(rd (rd_L5 x1 x5) x6)≥(x217004.length:Int) then(some false) else(if(rd (rd_L5 x1 x5) x6)≥0 then(if 0≤(rd (rd_L5 x1 x5) x6) then(if(rd (rd_L5 x1 x5) x6)<(x217004.length:Int) then(if((rd_T35 x217004 (rd (rd_L5 x1 x5) x6)).f0)=x5 then(regletref16_Right.l1 k x1 x5 (wrap64 (x6+1)) x217000 x217001 x217002 x217003 x217004) else(some false)) else(none)) else(none)) else(regletref16_Right.l1 k x1 x5 (wrap64 (x6+1)) x217000 x217001 x217002 x217003 x217004)))) else(none)) else(regletref16_Right.l0 k x1 (wrap64 (x5+1)) x217000 x217001 x217002 x217003 x217004)) else(none)) else(none)
end
def regletref16_Right.f (k:Nat) (aU:List ByteArray) (aX:List (S72)) (bA:Int) (bB:Int) (aQ:List (S35)) (l1:List (List Int)):Option (Bool):=(regletref13_Right.f k aU aX bA bB aQ).bind fun t217=>(if t217=true then(if(aU.length:Int)=0 then(regletref16_Right.j0 k l1 true aU aX bA bB aQ) else(regletref16_Right.j0 k l1 ((l1.length:Int) !=(aU.length:Int)) aU aX bA bB aQ)) else(regletref16_Right.j0 k l1 true aU aX bA bB aQ))
set_option maxHeartbeats 8000000 in
set_option maxRecDepth 100000 in
theorem regletref16_Right.calls (k:Nat) (bC:Option Addr) (bK:Nat) (aU:List ByteArray) (bM:Option Addr) (bO:Nat) (aX:List (S72)) (bA:Int) (bB:Int) (bQ:Option Addr) (bP:Nat) (aQ:List (S35)) (A1:Option Addr) (c1:Nat) (l1:List (List Int)) (r:Bool) (w:World) (dM:Kd.C Kd.string w bC aU.length aU) (dT:aU.length≤bK) (dU:Kd.C k72 w bM aX.length aX) (dY:aX.length≤bO) (dR:Kd.C k35 w bQ aQ.length aQ) (eB:aQ.length≤bP) (hr1:Kd.C (Kd.slice 3 (Kd.int .i64)) w A1 l1.length l1) (hc1:l1.length≤c1) (h:regletref16_Right.f k aU aX bA bB aQ l1=some r):
 Calls Try.prog 27 #[.agg #[.slice bC aU.length bK,.slice bM aX.length bO,.int .i64 bA,.int .i64 bB,.slice bQ aQ.length bP],.slice A1 l1.length c1] w fun e w'=>e= .returned (.bool r)∧Below w.heap.size w w':=by
 have hu26:=Try.underlying26
 have eS:=aM dM
 have eU:=aM dT
 clear dM dT
 have eX:=aM dU
 have eY:=aM dY
 clear dU dY
 have dW:=aM dR
 have eZ:=aM eB
 clear dR eB
 have HR1:=aM hr1
 have HC1:=aM hc1
 clear hr1 hc1
 have HB:=aM (Below.refl w.heap.size w)
 have H:((regletref13_Right.f k aU aX bA bB aQ).bind fun t217=>(if t217=true then(if(aU.length:Int)=0 then(regletref16_Right.j0 k l1 true aU aX bA bB aQ) else(regletref16_Right.j0 k l1 ((l1.length:Int) !=(aU.length:Int)) aU aX bA bB aQ)) else(regletref16_Right.j0 k l1 true aU aX bA bB aQ)))=some r:=h
 clear h
 have HC3:=aM H
 clear H
 go_enter Try.func27,Try.ntmps27
 go_upto_region 1 with(first|((with_reducible refine bJ (N:=2) rfl ?_);(try(refine gate_guard (by rfl) ?_;dsimp only));refine box_event ?hg (N:=2) ?hd (cs:=#[.slice bC aU.length bK,.slice bM aX.length bO,.int .i64 bA,.int .i64 bB,.slice bQ aQ.length bP]) (t:=26) ?hr ?_;(case hd=>rfl);(case hg=>rfl);(case hr=>first|(go_simp;done)|(go_simp;rfl));intro dE hg w4 hbox hb;have bY:=aM (bG (gW HB.out) hb);have bZ:=aM (hbox);have cA:=aM ((by rw [hg];exact(bH (gW HB.out)):w.heap.size≤dE));have cC:=aM ((by rw [hg];exact(bH (gW HB.out)):w.heap.size≤dE));clear HB;have HB:=bY;have bW:=bZ;have GW216:=cA;have Ve:=cC;clear bY bZ cA cC;clear hb hbox hg))
 repeat(go_quiet (first|((with_reducible refine bJ (N:=2) rfl ?_);(try(refine gate_guard (by rfl) ?_;dsimp only));refine box_event ?hg (N:=2) ?hd (cs:=#[.slice bC aU.length bK,.slice bM aX.length bO,.int .i64 bA,.int .i64 bB,.slice bQ aQ.length bP]) (t:=26) ?hr ?_;(case hd=>rfl);(case hg=>rfl);(case hr=>first|(go_simp;done)|(go_simp;rfl));intro dE hg w4 hbox hb;have bY:=aM (bG (gW HB.out) hb);have bZ:=aM (hbox);have cA:=aM ((by rw [hg];exact(bH (gW HB.out)):w.heap.size≤dE));have cC:=aM ((by rw [hg];exact(bH (gW HB.out)):w.heap.size≤dE));clear HB;have HB:=bY;have bW:=bZ;have GW216:=cA;have Ve:=cC;clear bY bZ cA cC;clear hb hbox hg));go_upto_region 1 with(first|((with_reducible refine bJ (N:=2) rfl ?_);(try(refine gate_guard (by rfl) ?_;dsimp only));refine box_event ?hg (N:=2) ?hd (cs:=#[.slice bC aU.length bK,.slice bM aX.length bO,.int .i64 bA,.int .i64 bB,.slice bQ aQ.length bP]) (t:=26) ?hr ?_;(case hd=>rfl);(case hg=>rfl);(case hr=>first|(go_simp;done)|(go_simp;rfl));intro dE hg w4 hbox hb;have bY:=aM (bG (gW HB.out) hb);have bZ:=aM (hbox);have cA:=aM ((by rw [hg];exact(bH (gW HB.out)):w.heap.size≤dE));have cC:=aM ((by rw [hg];exact(bH (gW HB.out)):w.heap.size≤dE));clear HB;have HB:=bY;have bW:=bZ;have GW216:=cA;have Ve:=cC;clear bY bZ cA cC;clear hb hbox hg)))
 (try simp only [Act.put,List.setIfInBounds_toArray,List.set_cons_zero,List.set_cons_succ])
 go_cut [23] (fun v23 wc=>∃(kq:Nat) (Kl:Bool),v23= .bool Kl∧Aside0 (regletref16_Right.j0 kq l1 Kl aU aX bA bB aQ=some r)∧Aside0 (kq≤k)∧Aside0 (wc.heap[dE]?=some (.cells #[(.slice bC aU.length bK),(.slice bM aX.length bO),.int .i64 bA,.int .i64 bB,(.slice bQ aQ.length bP)] 26 (0,0)))∧Aside0 (Below w.heap.size w wc))
 case first=>
  have H:=HC3.out
  clear HC3
  replace H:=Option.bind_eq_some_iff.mp H
  obtain⟨t217,A50,H⟩:=H
  replace H:(if t217=true then(if(aU.length:Int)=0 then(regletref16_Right.j0 k l1 true aU aX bA bB aQ) else(regletref16_Right.j0 k l1 ((l1.length:Int) !=(aU.length:Int)) aU aX bA bB aQ)) else(regletref16_Right.j0 k l1 true aU aX bA bB aQ))=some r:=H
  have A5:=aM A50
  clear A50
  by_cases c6:t217=true
  ·subst c6
   have H1:(if(aU.length:Int)=0 then(regletref16_Right.j0 k l1 true aU aX bA bB aQ) else(regletref16_Right.j0 k l1 ((l1.length:Int) !=(aU.length:Int)) aU aX bA bB aQ))=some r:=by rw [if_pos rfl] at H;exact H
   clear H
   have H:=H1
   clear H1
   by_cases c7:(aU.length:Int)=0
   ·rw [if_pos c7] at H
    have xW:((aU.length:Int)==0)=true:=beq_iff_eq.mpr c7
    have Cb:((aU.length:Int) !=0)=false:=bne_eq_false_iff_eq.mpr c7
    clear c7
    (first|rw [xW]|(simp only [i64_w,i32_w];rw [xW])|skip)
    have H':=aM H
    clear H
    have lW:w4.cell? ⟨dE,0,none⟩=some (.slice bC aU.length bK):=(aG bW.out 0).trans rfl
    have lX:w4.cell? ⟨dE,1,none⟩=some (.slice bM aX.length bO):=(aG bW.out 1).trans rfl
    have oK:w4.cell? ⟨dE,2,none⟩=some (.int .i64 bA):=(aG bW.out 2).trans rfl
    have oL:w4.cell? ⟨dE,3,none⟩=some (.int .i64 bB):=(aG bW.out 3).trans rfl
    have oM:w4.cell? ⟨dE,4,none⟩=some (.slice bQ aQ.length bP):=(aG bW.out 4).trans rfl
    have lY:=aH bW.out 0
    have lZ:=aH bW.out 1
    have oN:=aH bW.out 2
    have oO:=aH bW.out 3
    have oP:=aH bW.out 4
    go_wp2_with (first|(go_at_call 30;(with_reducible refine(regletref13_Right.calls k _ _ aU _ _ aX bA bB _ _ aQ true _ ?side1 ?side2 ?side3 ?side4 ?side5 ?side6 A5.out).mono ?_);(case side1=>exact gC (bD eS.out HB.out));(case side2=>exact eU.out);(case side3=>exact gC (bD eX.out HB.out));(case side4=>exact eY.out);(case side5=>exact gC (bD dW.out HB.out));(case side6=>exact eZ.out);rintro e w9 ⟨rfl,hb⟩;have bY:=aM (bF (gB bW.out) hb);have bZ:=aM (bG (gW HB.out) hb);clear bW;clear HB;have bW:=bY;have HB:=bZ;clear bY bZ;(try clear hb);(try clear hb2);(try clear hk);(try clear hi);have mU:w9.cell? ⟨dE,0,none⟩=some (.slice bC aU.length bK):=(aG bW.out 0).trans rfl;have mV:w9.cell? ⟨dE,1,none⟩=some (.slice bM aX.length bO):=(aG bW.out 1).trans rfl;have sW:w9.cell? ⟨dE,2,none⟩=some (.int .i64 bA):=(aG bW.out 2).trans rfl;have sX:w9.cell? ⟨dE,3,none⟩=some (.int .i64 bB):=(aG bW.out 3).trans rfl;have sY:w9.cell? ⟨dE,4,none⟩=some (.slice bQ aQ.length bP):=(aG bW.out 4).trans rfl;have mW:=aH bW.out 0;have mX:=aH bW.out 1;have sZ:=aH bW.out 2;have tA:=aH bW.out 3;have tB:=aH bW.out 4))
    repeat(go_quiet (first|(go_at_call 30;(with_reducible refine(regletref13_Right.calls k _ _ aU _ _ aX bA bB _ _ aQ true _ ?side1 ?side2 ?side3 ?side4 ?side5 ?side6 A5.out).mono ?_);(case side1=>exact gC (bD eS.out HB.out));(case side2=>exact eU.out);(case side3=>exact gC (bD eX.out HB.out));(case side4=>exact eY.out);(case side5=>exact gC (bD dW.out HB.out));(case side6=>exact eZ.out);rintro e w9 ⟨rfl,hb⟩;have bY:=aM (bF (gB bW.out) hb);have bZ:=aM (bG (gW HB.out) hb);clear bW;clear HB;have bW:=bY;have HB:=bZ;clear bY bZ;(try clear hb);(try clear hb2);(try clear hk);(try clear hi);have mU:w9.cell? ⟨dE,0,none⟩=some (.slice bC aU.length bK):=(aG bW.out 0).trans rfl;have mV:w9.cell? ⟨dE,1,none⟩=some (.slice bM aX.length bO):=(aG bW.out 1).trans rfl;have sW:w9.cell? ⟨dE,2,none⟩=some (.int .i64 bA):=(aG bW.out 2).trans rfl;have sX:w9.cell? ⟨dE,3,none⟩=some (.int .i64 bB):=(aG bW.out 3).trans rfl;have sY:w9.cell? ⟨dE,4,none⟩=some (.slice bQ aQ.length bP):=(aG bW.out 4).trans rfl;have mW:=aH bW.out 0;have mX:=aH bW.out 1;have sZ:=aH bW.out 2;have tA:=aH bW.out 3;have tB:=aH bW.out 4));try go_wp2_with (first|(go_at_call 30;(with_reducible refine(regletref13_Right.calls k _ _ aU _ _ aX bA bB _ _ aQ true _ ?side1 ?side2 ?side3 ?side4 ?side5 ?side6 A5.out).mono ?_);(case side1=>exact gC (bD eS.out HB.out));(case side2=>exact eU.out);(case side3=>exact gC (bD eX.out HB.out));(case side4=>exact eY.out);(case side5=>exact gC (bD dW.out HB.out));(case side6=>exact eZ.out);rintro e w9 ⟨rfl,hb⟩;have bY:=aM (bF (gB bW.out) hb);have bZ:=aM (bG (gW HB.out) hb);clear bW;clear HB;have bW:=bY;have HB:=bZ;clear bY bZ;(try clear hb);(try clear hb2);(try clear hk);(try clear hi);have mU:w9.cell? ⟨dE,0,none⟩=some (.slice bC aU.length bK):=(aG bW.out 0).trans rfl;have mV:w9.cell? ⟨dE,1,none⟩=some (.slice bM aX.length bO):=(aG bW.out 1).trans rfl;have sW:w9.cell? ⟨dE,2,none⟩=some (.int .i64 bA):=(aG bW.out 2).trans rfl;have sX:w9.cell? ⟨dE,3,none⟩=some (.int .i64 bB):=(aG bW.out 3).trans rfl;have sY:w9.cell? ⟨dE,4,none⟩=some (.slice bQ aQ.length bP):=(aG bW.out 4).trans rfl;have mW:=aH bW.out 0;have mX:=aH bW.out 1;have sZ:=aH bW.out 2;have tA:=aH bW.out 3;have tB:=aH bW.out 4)))
    go_meet
    case rel=>exact⟨_,(true),(by first|rfl|(simp;done)|(simp [*];done)),H',⟨by first|omega|exact Nat.le_refl _⟩,⟨gB bW.out⟩,⟨gW HB.out⟩⟩
   ·rw [if_neg c7] at H
    have xW:((aU.length:Int)==0)=false:=beq_eq_false_iff_ne.mpr c7
    have Cb:((aU.length:Int) !=0)=true:=bne_iff_ne.mpr c7
    have Sc:¬(aU= []):=fun h_=>c7 (by rw [h_];rfl)
    (first|rw [xW]|(simp only [i64_w,i32_w];rw [xW])|skip)
    have H':=aM H
    clear H
    have rQ:w4.cell? ⟨dE,0,none⟩=some (.slice bC aU.length bK):=(aG bW.out 0).trans rfl
    have rR:w4.cell? ⟨dE,1,none⟩=some (.slice bM aX.length bO):=(aG bW.out 1).trans rfl
    have Da:w4.cell? ⟨dE,2,none⟩=some (.int .i64 bA):=(aG bW.out 2).trans rfl
    have Db:w4.cell? ⟨dE,3,none⟩=some (.int .i64 bB):=(aG bW.out 3).trans rfl
    have Dc:w4.cell? ⟨dE,4,none⟩=some (.slice bQ aQ.length bP):=(aG bW.out 4).trans rfl
    have rS:=aH bW.out 0
    have rT:=aH bW.out 1
    have Dd:=aH bW.out 2
    have De:=aH bW.out 3
    have Df:=aH bW.out 4
    go_wp2_with (first|(go_at_call 30;(with_reducible refine(regletref13_Right.calls k _ _ aU _ _ aX bA bB _ _ aQ true _ ?side1 ?side2 ?side3 ?side4 ?side5 ?side6 A5.out).mono ?_);(case side1=>exact gC (bD eS.out HB.out));(case side2=>exact eU.out);(case side3=>exact gC (bD eX.out HB.out));(case side4=>exact eY.out);(case side5=>exact gC (bD dW.out HB.out));(case side6=>exact eZ.out);rintro e w12 ⟨rfl,hb⟩;have bY:=aM (bF (gB bW.out) hb);have bZ:=aM (bG (gW HB.out) hb);clear bW;clear HB;have bW:=bY;have HB:=bZ;clear bY bZ;(try clear hb);(try clear hb2);(try clear hk);(try clear hi);have rY:w12.cell? ⟨dE,0,none⟩=some (.slice bC aU.length bK):=(aG bW.out 0).trans rfl;have rZ:w12.cell? ⟨dE,1,none⟩=some (.slice bM aX.length bO):=(aG bW.out 1).trans rfl;have sA:w12.cell? ⟨dE,2,none⟩=some (.int .i64 bA):=(aG bW.out 2).trans rfl;have sB:w12.cell? ⟨dE,3,none⟩=some (.int .i64 bB):=(aG bW.out 3).trans rfl;have sC:w12.cell? ⟨dE,4,none⟩=some (.slice bQ aQ.length bP):=(aG bW.out 4).trans rfl;have sD:=aH bW.out 0;have sE:=aH bW.out 1;have sF:=aH bW.out 2;have sG:=aH bW.out 3;have sH:=aH bW.out 4))
    repeat(go_quiet (first|(go_at_call 30;(with_reducible refine(regletref13_Right.calls k _ _ aU _ _ aX bA bB _ _ aQ true _ ?side1 ?side2 ?side3 ?side4 ?side5 ?side6 A5.out).mono ?_);(case side1=>exact gC (bD eS.out HB.out));(case side2=>exact eU.out);(case side3=>exact gC (bD eX.out HB.out));(case side4=>exact eY.out);(case side5=>exact gC (bD dW.out HB.out));(case side6=>exact eZ.out);rintro e w12 ⟨rfl,hb⟩;have bY:=aM (bF (gB bW.out) hb);have bZ:=aM (bG (gW HB.out) hb);clear bW;clear HB;have bW:=bY;have HB:=bZ;clear bY bZ;(try clear hb);(try clear hb2);(try clear hk);(try clear hi);have rY:w12.cell? ⟨dE,0,none⟩=some (.slice bC aU.length bK):=(aG bW.out 0).trans rfl;have rZ:w12.cell? ⟨dE,1,none⟩=some (.slice bM aX.length bO):=(aG bW.out 1).trans rfl;have sA:w12.cell? ⟨dE,2,none⟩=some (.int .i64 bA):=(aG bW.out 2).trans rfl;have sB:w12.cell? ⟨dE,3,none⟩=some (.int .i64 bB):=(aG bW.out 3).trans rfl;have sC:w12.cell? ⟨dE,4,none⟩=some (.slice bQ aQ.length bP):=(aG bW.out 4).trans rfl;have sD:=aH bW.out 0;have sE:=aH bW.out 1;have sF:=aH bW.out 2;have sG:=aH bW.out 3;have sH:=aH bW.out 4));try go_wp2_with (first|(go_at_call 30;(with_reducible refine(regletref13_Right.calls k _ _ aU _ _ aX bA bB _ _ aQ true _ ?side1 ?side2 ?side3 ?side4 ?side5 ?side6 A5.out).mono ?_);(case side1=>exact gC (bD eS.out HB.out));(case side2=>exact eU.out);(case side3=>exact gC (bD eX.out HB.out));(case side4=>exact eY.out);(case side5=>exact gC (bD dW.out HB.out));(case side6=>exact eZ.out);rintro e w12 ⟨rfl,hb⟩;have bY:=aM (bF (gB bW.out) hb);have bZ:=aM (bG (gW HB.out) hb);clear bW;clear HB;have bW:=bY;have HB:=bZ;clear bY bZ;(try clear hb);(try clear hb2);(try clear hk);(try clear hi);have rY:w12.cell? ⟨dE,0,none⟩=some (.slice bC aU.length bK):=(aG bW.out 0).trans rfl;have rZ:w12.cell? ⟨dE,1,none⟩=some (.slice bM aX.length bO):=(aG bW.out 1).trans rfl;have sA:w12.cell? ⟨dE,2,none⟩=some (.int .i64 bA):=(aG bW.out 2).trans rfl;have sB:w12.cell? ⟨dE,3,none⟩=some (.int .i64 bB):=(aG bW.out 3).trans rfl;have sC:w12.cell? ⟨dE,4,none⟩=some (.slice bQ aQ.length bP):=(aG bW.out 4).trans rfl;have sD:=aH bW.out 0;have sE:=aH bW.out 1;have sF:=aH bW.out 2;have sG:=aH bW.out 3;have sH:=aH bW.out 4)))
    go_meet
    case rel=>exact⟨_,(((l1.length:Int) !=(aU.length:Int))),(by first|rfl|(simp;done)|(simp [*];done)),H',⟨by first|omega|exact Nat.le_refl _⟩,⟨gB bW.out⟩,⟨gW HB.out⟩⟩
  ·replace c6:=Bool.eq_false_iff.mpr c6
   subst c6
   have H1:(regletref16_Right.j0 k l1 true aU aX bA bB aQ)=some r:=by rw [if_neg (show ¬(false=true) by decide)] at H;exact H
   clear H
   have H:=H1
   clear H1
   have H':=aM H
   clear H
   have nO:w4.cell? ⟨dE,0,none⟩=some (.slice bC aU.length bK):=(aG bW.out 0).trans rfl
   have nP:w4.cell? ⟨dE,1,none⟩=some (.slice bM aX.length bO):=(aG bW.out 1).trans rfl
   have uE:w4.cell? ⟨dE,2,none⟩=some (.int .i64 bA):=(aG bW.out 2).trans rfl
   have uF:w4.cell? ⟨dE,3,none⟩=some (.int .i64 bB):=(aG bW.out 3).trans rfl
   have uG:w4.cell? ⟨dE,4,none⟩=some (.slice bQ aQ.length bP):=(aG bW.out 4).trans rfl
   have nQ:=aH bW.out 0
   have nR:=aH bW.out 1
   have uH:=aH bW.out 2
   have uI:=aH bW.out 3
   have uJ:=aH bW.out 4
   go_wp2_with (first|(go_at_call 30;(with_reducible refine(regletref13_Right.calls k _ _ aU _ _ aX bA bB _ _ aQ false _ ?side1 ?side2 ?side3 ?side4 ?side5 ?side6 A5.out).mono ?_);(case side1=>exact gC (bD eS.out HB.out));(case side2=>exact eU.out);(case side3=>exact gC (bD eX.out HB.out));(case side4=>exact eY.out);(case side5=>exact gC (bD dW.out HB.out));(case side6=>exact eZ.out);rintro e w15 ⟨rfl,hb⟩;have bY:=aM (bF (gB bW.out) hb);have bZ:=aM (bG (gW HB.out) hb);clear bW;clear HB;have bW:=bY;have HB:=bZ;clear bY bZ;(try clear hb);(try clear hb2);(try clear hk);(try clear hi)))
   repeat(go_quiet (first|(go_at_call 30;(with_reducible refine(regletref13_Right.calls k _ _ aU _ _ aX bA bB _ _ aQ false _ ?side1 ?side2 ?side3 ?side4 ?side5 ?side6 A5.out).mono ?_);(case side1=>exact gC (bD eS.out HB.out));(case side2=>exact eU.out);(case side3=>exact gC (bD eX.out HB.out));(case side4=>exact eY.out);(case side5=>exact gC (bD dW.out HB.out));(case side6=>exact eZ.out);rintro e w15 ⟨rfl,hb⟩;have bY:=aM (bF (gB bW.out) hb);have bZ:=aM (bG (gW HB.out) hb);clear bW;clear HB;have bW:=bY;have HB:=bZ;clear bY bZ;(try clear hb);(try clear hb2);(try clear hk);(try clear hi)));try go_wp2_with (first|(go_at_call 30;(with_reducible refine(regletref13_Right.calls k _ _ aU _ _ aX bA bB _ _ aQ false _ ?side1 ?side2 ?side3 ?side4 ?side5 ?side6 A5.out).mono ?_);(case side1=>exact gC (bD eS.out HB.out));(case side2=>exact eU.out);(case side3=>exact gC (bD eX.out HB.out));(case side4=>exact eY.out);(case side5=>exact gC (bD dW.out HB.out));(case side6=>exact eZ.out);rintro e w15 ⟨rfl,hb⟩;have bY:=aM (bF (gB bW.out) hb);have bZ:=aM (bG (gW HB.out) hb);clear bW;clear HB;have bW:=bY;have HB:=bZ;clear bY bZ;(try clear hb);(try clear hb2);(try clear hk);(try clear hi))))
   go_meet
   case rel=>exact⟨_,(true),(by first|rfl|(simp;done)|(simp [*];done)),H',⟨by first|omega|exact Nat.le_refl _⟩,⟨gB bW.out⟩,⟨gW HB.out⟩⟩
 case rest=>
  clear HC3
  (try clear c1);(try clear c2);(try clear p2);(try clear c6);(try clear c7);(try clear xW);(try clear Cb);(try clear Sc);(try clear mU);(try clear mV);(try clear sW);(try clear sX);(try clear sY);(try clear rQ);(try clear rR);(try clear Da);(try clear Db);(try clear Dc);(try clear rY);(try clear rZ);(try clear sA);(try clear sB)
  (try clear sC);(try clear nO);(try clear nP);(try clear uE);(try clear uF);(try clear uG);(try clear lW);(try clear lX);(try clear oK);(try clear oL);(try clear oM);(try clear mW);(try clear mX);(try clear sZ);(try clear tA);(try clear tB);(try clear rS);(try clear rT);(try clear Dd);(try clear De);(try clear Df)
  (try clear sD);(try clear sE);(try clear sF);(try clear sG);(try clear sH);(try clear nQ);(try clear nR);(try clear uH);(try clear uI);(try clear uJ);(try clear lY);(try clear lZ);(try clear oN);(try clear oO);(try clear oP)
  obtain⟨kq,Kl,rfl,HA,HJ2,bW,HB⟩:=hcut
  cases kq with
  |zero=>exact absurd HA.out (by simp [regletref16_Right.j0])
  |succ Wf=>
   have H:=HA.out
   clear HA
   simp only [regletref16_Right.j0] at H
   by_cases c16:Kl=true
   ·subst c16
    have H1:(some false)=some r:=by rw [if_pos rfl] at H;exact H
    clear H
    have H:=H1
    clear H1
    obtain rfl:=Option.some.inj H
    go_wp2
    repeat(go_quiet (fail);try go_wp2)
    go_ret
    exact⟨by first|rfl|(simp [errW_none,errW_some]<;>rfl)|(simp [*,errW_none,errW_some]<;>rfl),gW HB.out⟩
   ·replace c16:=Bool.eq_false_iff.mpr c16
    subst c16
    have H1:(regletref16_Right.l0 Wf l1 0 aU aX bA bB aQ)=some r:=by rw [if_neg (show ¬(false=true) by decide)] at H;exact H
    clear H
    have H:=H1
    clear H1
    have H':=aM H
    clear H
    go_wp2
    repeat(go_quiet (fail);try go_wp2)
    go_loopg [5] Wf (fun kq v5 w'=>∃(bU:Int),v5= .int .i64 bU∧Aside0 (regletref16_Right.l0 kq l1 bU aU aX bA bB aQ=some r)∧Aside0 (kq≤Wf)∧Aside0 (w'.heap[dE]?=some (.cells #[(.slice bC aU.length bK),(.slice bM aX.length bO),.int .i64 bA,.int .i64 bB,(.slice bQ aQ.length bP)] 26 (0,0)))∧Aside0 (Below w.heap.size w w'))
    case atStart=>exact⟨(0),(by first|rfl|(simp;done)|(simp [*];done)),H',⟨Nat.le_refl _⟩,⟨gB bW.out⟩,⟨gW HB.out⟩⟩
    case round=>
     clear H'
     (try clear c1);(try clear c2);(try clear p2);(try clear c6);(try clear c7);(try clear xW);(try clear Cb);(try clear Sc);(try clear c16);(try clear mU);(try clear mV);(try clear sW);(try clear sX);(try clear sY);(try clear rQ);(try clear rR);(try clear Da);(try clear Db);(try clear Dc);(try clear rY);(try clear rZ);(try clear sA)
     (try clear sB);(try clear sC);(try clear nO);(try clear nP);(try clear uE);(try clear uF);(try clear uG);(try clear lW);(try clear lX);(try clear oK);(try clear oL);(try clear oM);(try clear mW);(try clear mX);(try clear sZ);(try clear tA);(try clear tB);(try clear rS);(try clear rT);(try clear Dd);(try clear De)
     (try clear Df);(try clear sD);(try clear sE);(try clear sF);(try clear sG);(try clear sH);(try clear nQ);(try clear nR);(try clear uH);(try clear uI);(try clear uJ);(try clear lY);(try clear lZ);(try clear oN);(try clear oO);(try clear oP);(try clear p2)
     obtain⟨bU,rfl,HA,HK2,bW,HB⟩:=hrel
     cases gk with
     |zero=>exact absurd HA.out (by simp [regletref16_Right.l0])
     |succ k2=>
      have H:=HA.out
      clear HA
      simp only [regletref16_Right.l0] at H
      by_cases c17:bU<(l1.length:Int)
      ·rw [if_pos c17] at H
       have mD:decide (bU<(l1.length:Int))=true:=decide_eq_true c17
       clear c17
       by_cases c18:0≤bU
       rotate_left
       ·rw [if_neg c18] at H
        exact absurd H (by simp)
       rw [if_pos c18] at H
       have Iq:decide (0≤bU)=true:=decide_eq_true c18
       clear c18
       by_cases c19:((rd_L5 l1 bU).length:Int)=(wrap64 ((aX.length:Int)+1))
       ·rw [if_pos c19] at H
        have wK:(((rd_L5 l1 bU).length:Int)==(wrap64 ((aX.length:Int)+1)))=true:=beq_iff_eq.mpr c19
        have Vf:(((rd_L5 l1 bU).length:Int) !=(wrap64 ((aX.length:Int)+1)))=false:=bne_eq_false_iff_eq.mpr c19
        clear c19
        have H':=aM H
        clear H
        have p218:0≤(bU:Int):=of_decide_eq_true (by first|(with_reducible assumption)|assumption)
        have q218:bU<(l1.length:Int):=of_decide_eq_true (by first|(with_reducible assumption)|assumption)
        obtain⟨kP,Xi,Xj,e218,oC,wL,wM⟩:=at_L5 HR1.out bU p218 q218
        cases e218
        replace oC:=(HB.out.cell (World.block_lt_of_cell? w _ oC)).trans oC
        have Sf:=aM wM
        have Sg:=aM wL
        clear wM wL
        replace p218:=eq_true p218
        replace q218:=eq_true q218
        have rU:wr.cell? ⟨dE,0,none⟩=some (.slice bC aU.length bK):=(aG bW.out 0).trans rfl
        have rV:wr.cell? ⟨dE,1,none⟩=some (.slice bM aX.length bO):=(aG bW.out 1).trans rfl
        have Si:wr.cell? ⟨dE,2,none⟩=some (.int .i64 bA):=(aG bW.out 2).trans rfl
        have Sj:wr.cell? ⟨dE,3,none⟩=some (.int .i64 bB):=(aG bW.out 3).trans rfl
        have Sk:wr.cell? ⟨dE,4,none⟩=some (.slice bQ aQ.length bP):=(aG bW.out 4).trans rfl
        have rW:=aH bW.out 0
        have rX:=aH bW.out 1
        have Sl:=aH bW.out 2
        have Sm:=aH bW.out 3
        have Sn:=aH bW.out 4
        go_wp2
        repeat(go_quiet (fail);try go_wp2)
        go_loopg [6] k2 (fun kq v6 w'=>∃(eO:Int),v6= .int .i64 eO∧Aside0 (regletref16_Right.l1 kq l1 bU eO aU aX bA bB aQ=some r)∧Aside0 (kq≤k2)∧Aside0 (w'.heap[dE]?=some (.cells #[(.slice bC aU.length bK),(.slice bM aX.length bO),.int .i64 bA,.int .i64 bB,(.slice bQ aQ.length bP)] 26 (0,0)))∧Aside0 (Below w.heap.size w w'))
        case atStart=>exact⟨(0),(by first|rfl|(simp;done)|(simp [*];done)),H',⟨Nat.le_refl _⟩,⟨gB bW.out⟩,⟨gW HB.out⟩⟩
        case round=>
         clear H'
         (try clear c1);(try clear c2);(try clear p2);(try clear q2);(try clear hx2);(try clear c6);(try clear p6);(try clear c7);(try clear xW);(try clear Cb);(try clear Sc);(try clear c16);(try clear c17);(try clear mD);(try clear c18);(try clear Iq);(try clear c19);(try clear wK);(try clear Vf);(try clear mU);(try clear mV);(try clear sW);(try clear sX);(try clear sY)
         (try clear rQ);(try clear rR);(try clear Da);(try clear Db);(try clear Dc);(try clear rY);(try clear rZ);(try clear sA);(try clear sB);(try clear sC);(try clear nO);(try clear nP);(try clear uE);(try clear uF);(try clear uG);(try clear rU);(try clear rV);(try clear Si);(try clear Sj);(try clear Sk);(try clear lW)
         (try clear lX);(try clear oK);(try clear oL);(try clear oM);(try clear mW);(try clear mX);(try clear sZ);(try clear tA);(try clear tB);(try clear rS);(try clear rT);(try clear Dd);(try clear De);(try clear Df);(try clear sD);(try clear sE);(try clear sF);(try clear sG);(try clear sH);(try clear nQ);(try clear nR)
         (try clear uH);(try clear uI);(try clear uJ);(try clear rW);(try clear rX);(try clear Sl);(try clear Sm);(try clear Sn);(try clear lY);(try clear lZ);(try clear oN);(try clear oO);(try clear oP);(try clear oC);(try clear p2);(try clear p218);(try clear q218)
         obtain⟨eO,rfl,HA,HK3,bW,HB⟩:=hrel
         cases gk with
         |zero=>exact absurd HA.out (by simp [regletref16_Right.l1])
         |succ k3=>
          have H:=HA.out
          clear HA
          simp only [regletref16_Right.l1] at H
          by_cases c21:0≤bU
          rotate_left
          ·rw [if_neg c21] at H
           exact absurd H (by simp)
          rw [if_pos c21] at H
          have Fc:decide (0≤bU)=true:=decide_eq_true c21
          clear c21
          by_cases c22:bU<(l1.length:Int)
          rotate_left
          ·rw [if_neg c22] at H
           exact absurd H (by simp)
          rw [if_pos c22] at H
          have Bt:decide (bU<(l1.length:Int))=true:=decide_eq_true c22
          clear c22
          by_cases c23:eO<((rd_L5 l1 bU).length:Int)
          ·rw [if_pos c23] at H
           have Mq:decide (eO<((rd_L5 l1 bU).length:Int))=true:=decide_eq_true c23
           clear c23
           by_cases c24:0≤eO
           rotate_left
           ·rw [if_neg c24] at H
            exact absurd H (by simp)
           rw [if_pos c24] at H
           have Mc:decide (0≤eO)=true:=decide_eq_true c24
           clear c24
           by_cases c25:(rd (rd_L5 l1 bU) eO)<(-1)
           ·rw [if_pos c25] at H
            have Lu:decide ((rd (rd_L5 l1 bU) eO)<(-1))=true:=decide_eq_true c25
            clear c25
            obtain rfl:=Option.some.inj H
            have p219:0≤(bU:Int):=of_decide_eq_true (by first|(with_reducible assumption)|assumption)
            have q219:bU<(l1.length:Int):=of_decide_eq_true (by first|(with_reducible assumption)|assumption)
            obtain⟨rO,Bf,Bg,e219,eD,iO,iP⟩:=at_L5 HR1.out bU p219 q219
            obtain rfl:kP=rO:=(by injection e219)
            replace eD:=(HB.out.cell (World.block_lt_of_cell? w _ eD)).trans eD
            have wN:=aM iP
            have wO:=aM iO
            clear iP iO
            replace p219:=eq_true p219
            replace q219:=eq_true q219
            have p220:0≤(bU:Int):=of_decide_eq_true (by first|(with_reducible assumption)|assumption)
            have q220:bU<(l1.length:Int):=of_decide_eq_true (by first|(with_reducible assumption)|assumption)
            obtain⟨wP,Dg,Dh,e220,gD,jU,jV⟩:=at_L5 HR1.out bU p220 q220
            obtain rfl:kP=wP:=(by injection e220)
            replace gD:=(HB.out.cell (World.block_lt_of_cell? w _ gD)).trans gD
            have mY:=aM jV
            have zT:=aM jU
            clear jV jU
            replace p220:=eq_true p220
            replace q220:=eq_true q220
            have ea_:=Option.some.inj (eD.symm.trans gD)
            injection ea_ with ea_ en_ ec_
            subst ea_
            subst ec_
            clear en_
            have p221:0≤(eO:Int):=of_decide_eq_true (by first|(with_reducible assumption)|assumption)
            have q221:eO<((rd_L5 l1 bU).length:Int):=of_decide_eq_true (by first|(with_reducible assumption)|assumption)
            obtain⟨Km,e221,hJ⟩:=Kd.at_int mY.out eO p221 q221
            cases e221
            replace hJ:=(HB.out.cell (World.block_lt_of_cell? w _ hJ)).trans hJ
            replace p221:=eq_true p221
            replace q221:=eq_true q221
            go_wp2
            repeat(go_quiet (fail);try go_wp2)
            go_ret
            exact⟨by first|rfl|(simp [errW_none,errW_some]<;>rfl)|(simp [*,errW_none,errW_some]<;>rfl),gW HB.out⟩
           ·rw [if_neg c25] at H
            have Lu:decide ((rd (rd_L5 l1 bU) eO)<(-1))=false:=decide_eq_false c25
            clear c25
            by_cases c26:(rd (rd_L5 l1 bU) eO)≥(aQ.length:Int)
            ·rw [if_pos c26] at H
             have uN:decide ((aQ.length:Int)≤(rd (rd_L5 l1 bU) eO))=true:=decide_eq_true c26
             clear c26
             obtain rfl:=Option.some.inj H
             have p219:0≤(bU:Int):=of_decide_eq_true (by first|(with_reducible assumption)|assumption)
             have q219:bU<(l1.length:Int):=of_decide_eq_true (by first|(with_reducible assumption)|assumption)
             obtain⟨rO,Bf,Bg,e219,eD,iO,iP⟩:=at_L5 HR1.out bU p219 q219
             obtain rfl:kP=rO:=(by injection e219)
             replace eD:=(HB.out.cell (World.block_lt_of_cell? w _ eD)).trans eD
             have wN:=aM iP
             have wO:=aM iO
             clear iP iO
             replace p219:=eq_true p219
             replace q219:=eq_true q219
             have p220:0≤(bU:Int):=of_decide_eq_true (by first|(with_reducible assumption)|assumption)
             have q220:bU<(l1.length:Int):=of_decide_eq_true (by first|(with_reducible assumption)|assumption)
             obtain⟨wP,Dg,Dh,e220,gD,jU,jV⟩:=at_L5 HR1.out bU p220 q220
             obtain rfl:kP=wP:=(by injection e220)
             replace gD:=(HB.out.cell (World.block_lt_of_cell? w _ gD)).trans gD
             have mY:=aM jV
             have zT:=aM jU
             clear jV jU
             replace p220:=eq_true p220
             replace q220:=eq_true q220
             have ea_:=Option.some.inj (eD.symm.trans gD)
             injection ea_ with ea_ en_ ec_
             subst ea_
             subst ec_
             clear en_
             have p221:0≤(eO:Int):=of_decide_eq_true (by first|(with_reducible assumption)|assumption)
             have q221:eO<((rd_L5 l1 bU).length:Int):=of_decide_eq_true (by first|(with_reducible assumption)|assumption)
             obtain⟨Km,e221,hJ⟩:=Kd.at_int mY.out eO p221 q221
             cases e221
             replace hJ:=(HB.out.cell (World.block_lt_of_cell? w _ hJ)).trans hJ
             replace p221:=eq_true p221
             replace q221:=eq_true q221
             have p222:0≤(bU:Int):=of_decide_eq_true (by first|(with_reducible assumption)|assumption)
             have q222:bU<(l1.length:Int):=of_decide_eq_true (by first|(with_reducible assumption)|assumption)
             obtain⟨Bh,Hp,Hq,e222,hL,lO,lP⟩:=at_L5 HR1.out bU p222 q222
             obtain rfl:kP=Bh:=(by injection e222)
             replace hL:=(HB.out.cell (World.block_lt_of_cell? w _ hL)).trans hL
             have qS:=aM lP
             have Di:=aM lO
             clear lP lO
             replace p222:=eq_true p222
             replace q222:=eq_true q222
             have ea_:=Option.some.inj (eD.symm.trans hL)
             injection ea_ with ea_ en_ ec_
             subst ea_
             subst ec_
             clear en_
             have p223:0≤(eO:Int):=of_decide_eq_true (by first|(with_reducible assumption)|assumption)
             have q223:eO<((rd_L5 l1 bU).length:Int):=of_decide_eq_true (by first|(with_reducible assumption)|assumption)
             obtain⟨Mr,e223,jJ⟩:=Kd.at_int qS.out eO p223 q223
             cases e223
             replace jJ:=(HB.out.cell (World.block_lt_of_cell? w _ jJ)).trans jJ
             replace p223:=eq_true p223
             replace q223:=eq_true q223
             have sI:wr.cell? ⟨dE,0,none⟩=some (.slice bC aU.length bK):=(aG bW.out 0).trans rfl
             have sJ:wr.cell? ⟨dE,1,none⟩=some (.slice bM aX.length bO):=(aG bW.out 1).trans rfl
             have vI:wr.cell? ⟨dE,2,none⟩=some (.int .i64 bA):=(aG bW.out 2).trans rfl
             have vJ:wr.cell? ⟨dE,3,none⟩=some (.int .i64 bB):=(aG bW.out 3).trans rfl
             have vK:wr.cell? ⟨dE,4,none⟩=some (.slice bQ aQ.length bP):=(aG bW.out 4).trans rfl
             have sK:=aH bW.out 0
             have sL:=aH bW.out 1
             have vL:=aH bW.out 2
             have vM:=aH bW.out 3
             have vN:=aH bW.out 4
             go_wp2
             repeat(go_quiet (fail);try go_wp2)
             go_ret
             exact⟨by first|rfl|(simp [errW_none,errW_some]<;>rfl)|(simp [*,errW_none,errW_some]<;>rfl),gW HB.out⟩
            ·rw [if_neg c26] at H
             have uN:decide ((aQ.length:Int)≤(rd (rd_L5 l1 bU) eO))=false:=decide_eq_false c26
             clear c26
             by_cases c28:(rd (rd_L5 l1 bU) eO)≥0
             ·rw [if_pos c28] at H
              have BT:decide (0≤(rd (rd_L5 l1 bU) eO))=true:=decide_eq_true c28
              clear c28
              by_cases c29:0≤(rd (rd_L5 l1 bU) eO)
              rotate_left
              ·rw [if_neg c29] at H
               exact absurd H (by simp)
              rw [if_pos c29] at H
              have OS:decide (0≤(rd (rd_L5 l1 bU) eO))=true:=decide_eq_true c29
              clear c29
              by_cases c30:(rd (rd_L5 l1 bU) eO)<(aQ.length:Int)
              rotate_left
              ·rw [if_neg c30] at H
               exact absurd H (by simp)
              rw [if_pos c30] at H
              have OT:decide ((rd (rd_L5 l1 bU) eO)<(aQ.length:Int))=true:=decide_eq_true c30
              clear c30
              by_cases c31:((rd_T35 aQ (rd (rd_L5 l1 bU) eO)).f0)=bU
              ·rw [if_pos c31] at H
               have Ms:(((rd_T35 aQ (rd (rd_L5 l1 bU) eO)).f0)==bU)=true:=beq_iff_eq.mpr c31
               have Mt:(((rd_T35 aQ (rd (rd_L5 l1 bU) eO)).f0) !=bU)=false:=bne_eq_false_iff_eq.mpr c31
               clear c31
               have H':=aM H
               clear H
               have p219:0≤(bU:Int):=of_decide_eq_true (by first|(with_reducible assumption)|assumption)
               have q219:bU<(l1.length:Int):=of_decide_eq_true (by first|(with_reducible assumption)|assumption)
               obtain⟨rO,Bf,Bg,e219,eD,iO,iP⟩:=at_L5 HR1.out bU p219 q219
               obtain rfl:kP=rO:=(by injection e219)
               replace eD:=(HB.out.cell (World.block_lt_of_cell? w _ eD)).trans eD
               have wN:=aM iP
               have wO:=aM iO
               clear iP iO
               replace p219:=eq_true p219
               replace q219:=eq_true q219
               have p220:0≤(bU:Int):=of_decide_eq_true (by first|(with_reducible assumption)|assumption)
               have q220:bU<(l1.length:Int):=of_decide_eq_true (by first|(with_reducible assumption)|assumption)
               obtain⟨wP,Dg,Dh,e220,gD,jU,jV⟩:=at_L5 HR1.out bU p220 q220
               obtain rfl:kP=wP:=(by injection e220)
               replace gD:=(HB.out.cell (World.block_lt_of_cell? w _ gD)).trans gD
               have mY:=aM jV
               have zT:=aM jU
               clear jV jU
               replace p220:=eq_true p220
               replace q220:=eq_true q220
               have ea_:=Option.some.inj (eD.symm.trans gD)
               injection ea_ with ea_ en_ ec_
               subst ea_
               subst ec_
               clear en_
               have p221:0≤(eO:Int):=of_decide_eq_true (by first|(with_reducible assumption)|assumption)
               have q221:eO<((rd_L5 l1 bU).length:Int):=of_decide_eq_true (by first|(with_reducible assumption)|assumption)
               obtain⟨Km,e221,hJ⟩:=Kd.at_int mY.out eO p221 q221
               cases e221
               replace hJ:=(HB.out.cell (World.block_lt_of_cell? w _ hJ)).trans hJ
               replace p221:=eq_true p221
               replace q221:=eq_true q221
               have p222:0≤(bU:Int):=of_decide_eq_true (by first|(with_reducible assumption)|assumption)
               have q222:bU<(l1.length:Int):=of_decide_eq_true (by first|(with_reducible assumption)|assumption)
               obtain⟨Bh,Hp,Hq,e222,hL,lO,lP⟩:=at_L5 HR1.out bU p222 q222
               obtain rfl:kP=Bh:=(by injection e222)
               replace hL:=(HB.out.cell (World.block_lt_of_cell? w _ hL)).trans hL
               have qS:=aM lP
               have Di:=aM lO
               clear lP lO
               replace p222:=eq_true p222
               replace q222:=eq_true q222
               have ea_:=Option.some.inj (eD.symm.trans hL)
               injection ea_ with ea_ en_ ec_
               subst ea_
               subst ec_
               clear en_
               have p223:0≤(eO:Int):=of_decide_eq_true (by first|(with_reducible assumption)|assumption)
               have q223:eO<((rd_L5 l1 bU).length:Int):=of_decide_eq_true (by first|(with_reducible assumption)|assumption)
               obtain⟨Mr,e223,jJ⟩:=Kd.at_int qS.out eO p223 q223
               cases e223
               replace jJ:=(HB.out.cell (World.block_lt_of_cell? w _ jJ)).trans jJ
               replace p223:=eq_true p223
               replace q223:=eq_true q223
               have vO:wr.cell? ⟨dE,0,none⟩=some (.slice bC aU.length bK):=(aG bW.out 0).trans rfl
               have vP:wr.cell? ⟨dE,1,none⟩=some (.slice bM aX.length bO):=(aG bW.out 1).trans rfl
               have vQ:wr.cell? ⟨dE,2,none⟩=some (.int .i64 bA):=(aG bW.out 2).trans rfl
               have vR:wr.cell? ⟨dE,3,none⟩=some (.int .i64 bB):=(aG bW.out 3).trans rfl
               have vS:wr.cell? ⟨dE,4,none⟩=some (.slice bQ aQ.length bP):=(aG bW.out 4).trans rfl
               have vT:=aH bW.out 0
               have vU:=aH bW.out 1
               have vV:=aH bW.out 2
               have vW:=aH bW.out 3
               have vX:=aH bW.out 4
               have p224:0≤(bU:Int):=of_decide_eq_true (by first|(with_reducible assumption)|assumption)
               have q224:bU<(l1.length:Int):=of_decide_eq_true (by first|(with_reducible assumption)|assumption)
               obtain⟨Gc,Mu,Mv,e224,jW,oD,oE⟩:=at_L5 HR1.out bU p224 q224
               obtain rfl:kP=Gc:=(by injection e224)
               replace jW:=(HB.out.cell (World.block_lt_of_cell? w _ jW)).trans jW
               have wQ:=aM oE
               have Kn:=aM oD
               clear oE oD
               replace p224:=eq_true p224
               replace q224:=eq_true q224
               have ea_:=Option.some.inj (eD.symm.trans jW)
               injection ea_ with ea_ en_ ec_
               subst ea_
               subst ec_
               clear en_
               have p225:0≤(eO:Int):=of_decide_eq_true (by first|(with_reducible assumption)|assumption)
               have q225:eO<((rd_L5 l1 bU).length:Int):=of_decide_eq_true (by first|(with_reducible assumption)|assumption)
               obtain⟨Vg,e225,lQ⟩:=Kd.at_int wQ.out eO p225 q225
               cases e225
               replace lQ:=(HB.out.cell (World.block_lt_of_cell? w _ lQ)).trans lQ
               replace p225:=eq_true p225
               replace q225:=eq_true q225
               have p226:0≤(bU:Int):=of_decide_eq_true (by first|(with_reducible assumption)|assumption)
               have q226:bU<(l1.length:Int):=of_decide_eq_true (by first|(with_reducible assumption)|assumption)
               obtain⟨Mw,Xk,Xl,e226,mZ,wR,wS⟩:=at_L5 HR1.out bU p226 q226
               obtain rfl:kP=Mw:=(by injection e226)
               replace mZ:=(HB.out.cell (World.block_lt_of_cell? w _ mZ)).trans mZ
               have Dj:=aM wS
               have So:=aM wR
               clear wS wR
               replace p226:=eq_true p226
               replace q226:=eq_true q226
               have ea_:=Option.some.inj (eD.symm.trans mZ)
               injection ea_ with ea_ en_ ec_
               subst ea_
               subst ec_
               clear en_
               have p227:0≤(eO:Int):=of_decide_eq_true (by first|(with_reducible assumption)|assumption)
               have q227:eO<((rd_L5 l1 bU).length:Int):=of_decide_eq_true (by first|(with_reducible assumption)|assumption)
               obtain⟨BU,e227,qT⟩:=Kd.at_int Dj.out eO p227 q227
               cases e227
               replace qT:=(HB.out.cell (World.block_lt_of_cell? w _ qT)).trans qT
               replace p227:=eq_true p227
               replace q227:=eq_true q227
               have p228:0≤((rd (rd_L5 l1 bU) eO):Int):=of_decide_eq_true (by first|(with_reducible assumption)|assumption)
               have q228:(rd (rd_L5 l1 bU) eO)<(aQ.length:Int):=of_decide_eq_true (by first|(with_reducible assumption)|assumption)
               obtain⟨BV,Xm,Xn,e228,qU,qV,wT,wU⟩:=at_T35 dW.out (rd (rd_L5 l1 bU) eO) p228 q228
               cases e228
               replace qU:=(HB.out.cell (World.block_lt_of_cell? w _ qU)).trans qU
               replace qV:=(HB.out.cell (World.block_lt_of_cell? w _ qV)).trans qV
               have Sp:=aM wU
               have Sq:=aM wT
               clear wU wT
               replace p228:=eq_true p228
               replace q228:=eq_true q228
               go_wp2
               repeat(go_quiet (fail);try go_wp2)
               go_roundg k3
               case measure=>have:=HJ2.out;have:=HK2.out;have:=HK3.out;omega
               case rel=>exact⟨(wrap64 (eO+1)),(by first|rfl|(simp;done)|(simp [*];done)),H',⟨by have:=HJ2.out;have:=HK2.out;have:=HK3.out;omega⟩,⟨gB bW.out⟩,⟨gW HB.out⟩⟩
              ·rw [if_neg c31] at H
               have Ms:(((rd_T35 aQ (rd (rd_L5 l1 bU) eO)).f0)==bU)=false:=beq_eq_false_iff_ne.mpr c31
               have Mt:(((rd_T35 aQ (rd (rd_L5 l1 bU) eO)).f0) !=bU)=true:=bne_iff_ne.mpr c31
               obtain rfl:=Option.some.inj H
               have p219:0≤(bU:Int):=of_decide_eq_true (by first|(with_reducible assumption)|assumption)
               have q219:bU<(l1.length:Int):=of_decide_eq_true (by first|(with_reducible assumption)|assumption)
               obtain⟨rO,Bf,Bg,e219,eD,iO,iP⟩:=at_L5 HR1.out bU p219 q219
               obtain rfl:kP=rO:=(by injection e219)
               replace eD:=(HB.out.cell (World.block_lt_of_cell? w _ eD)).trans eD
               have wN:=aM iP
               have wO:=aM iO
               clear iP iO
               replace p219:=eq_true p219
               replace q219:=eq_true q219
               have p220:0≤(bU:Int):=of_decide_eq_true (by first|(with_reducible assumption)|assumption)
               have q220:bU<(l1.length:Int):=of_decide_eq_true (by first|(with_reducible assumption)|assumption)
               obtain⟨wP,Dg,Dh,e220,gD,jU,jV⟩:=at_L5 HR1.out bU p220 q220
               obtain rfl:kP=wP:=(by injection e220)
               replace gD:=(HB.out.cell (World.block_lt_of_cell? w _ gD)).trans gD
               have mY:=aM jV
               have zT:=aM jU
               clear jV jU
               replace p220:=eq_true p220
               replace q220:=eq_true q220
               have ea_:=Option.some.inj (eD.symm.trans gD)
               injection ea_ with ea_ en_ ec_
               subst ea_
               subst ec_
               clear en_
               have p221:0≤(eO:Int):=of_decide_eq_true (by first|(with_reducible assumption)|assumption)
               have q221:eO<((rd_L5 l1 bU).length:Int):=of_decide_eq_true (by first|(with_reducible assumption)|assumption)
               obtain⟨Km,e221,hJ⟩:=Kd.at_int mY.out eO p221 q221
               cases e221
               replace hJ:=(HB.out.cell (World.block_lt_of_cell? w _ hJ)).trans hJ
               replace p221:=eq_true p221
               replace q221:=eq_true q221
               have p222:0≤(bU:Int):=of_decide_eq_true (by first|(with_reducible assumption)|assumption)
               have q222:bU<(l1.length:Int):=of_decide_eq_true (by first|(with_reducible assumption)|assumption)
               obtain⟨Bh,Hp,Hq,e222,hL,lO,lP⟩:=at_L5 HR1.out bU p222 q222
               obtain rfl:kP=Bh:=(by injection e222)
               replace hL:=(HB.out.cell (World.block_lt_of_cell? w _ hL)).trans hL
               have qS:=aM lP
               have Di:=aM lO
               clear lP lO
               replace p222:=eq_true p222
               replace q222:=eq_true q222
               have ea_:=Option.some.inj (eD.symm.trans hL)
               injection ea_ with ea_ en_ ec_
               subst ea_
               subst ec_
               clear en_
               have p223:0≤(eO:Int):=of_decide_eq_true (by first|(with_reducible assumption)|assumption)
               have q223:eO<((rd_L5 l1 bU).length:Int):=of_decide_eq_true (by first|(with_reducible assumption)|assumption)
               obtain⟨Mr,e223,jJ⟩:=Kd.at_int qS.out eO p223 q223
               cases e223
               replace jJ:=(HB.out.cell (World.block_lt_of_cell? w _ jJ)).trans jJ
               replace p223:=eq_true p223
               replace q223:=eq_true q223
               have nV:wr.cell? ⟨dE,0,none⟩=some (.slice bC aU.length bK):=(aG bW.out 0).trans rfl
               have nW:wr.cell? ⟨dE,1,none⟩=some (.slice bM aX.length bO):=(aG bW.out 1).trans rfl
               have sQ:wr.cell? ⟨dE,2,none⟩=some (.int .i64 bA):=(aG bW.out 2).trans rfl
               have sR:wr.cell? ⟨dE,3,none⟩=some (.int .i64 bB):=(aG bW.out 3).trans rfl
               have sS:wr.cell? ⟨dE,4,none⟩=some (.slice bQ aQ.length bP):=(aG bW.out 4).trans rfl
               have nX:=aH bW.out 0
               have nY:=aH bW.out 1
               have sT:=aH bW.out 2
               have sU:=aH bW.out 3
               have sV:=aH bW.out 4
               have p224:0≤(bU:Int):=of_decide_eq_true (by first|(with_reducible assumption)|assumption)
               have q224:bU<(l1.length:Int):=of_decide_eq_true (by first|(with_reducible assumption)|assumption)
               obtain⟨Gc,Mu,Mv,e224,jW,oD,oE⟩:=at_L5 HR1.out bU p224 q224
               obtain rfl:kP=Gc:=(by injection e224)
               replace jW:=(HB.out.cell (World.block_lt_of_cell? w _ jW)).trans jW
               have wQ:=aM oE
               have Kn:=aM oD
               clear oE oD
               replace p224:=eq_true p224
               replace q224:=eq_true q224
               have ea_:=Option.some.inj (eD.symm.trans jW)
               injection ea_ with ea_ en_ ec_
               subst ea_
               subst ec_
               clear en_
               have p225:0≤(eO:Int):=of_decide_eq_true (by first|(with_reducible assumption)|assumption)
               have q225:eO<((rd_L5 l1 bU).length:Int):=of_decide_eq_true (by first|(with_reducible assumption)|assumption)
               obtain⟨Vg,e225,lQ⟩:=Kd.at_int wQ.out eO p225 q225
               cases e225
               replace lQ:=(HB.out.cell (World.block_lt_of_cell? w _ lQ)).trans lQ
               replace p225:=eq_true p225
               replace q225:=eq_true q225
               have p226:0≤(bU:Int):=of_decide_eq_true (by first|(with_reducible assumption)|assumption)
               have q226:bU<(l1.length:Int):=of_decide_eq_true (by first|(with_reducible assumption)|assumption)
               obtain⟨Mw,Xk,Xl,e226,mZ,wR,wS⟩:=at_L5 HR1.out bU p226 q226
               obtain rfl:kP=Mw:=(by injection e226)
               replace mZ:=(HB.out.cell (World.block_lt_of_cell? w _ mZ)).trans mZ
               have Dj:=aM wS
               have So:=aM wR
               clear wS wR
               replace p226:=eq_true p226
               replace q226:=eq_true q226
               have ea_:=Option.some.inj (eD.symm.trans mZ)
               injection ea_ with ea_ en_ ec_
               subst ea_
               subst ec_
               clear en_
               have p227:0≤(eO:Int):=of_decide_eq_true (by first|(with_reducible assumption)|assumption)
               have q227:eO<((rd_L5 l1 bU).length:Int):=of_decide_eq_true (by first|(with_reducible assumption)|assumption)
               obtain⟨BU,e227,qT⟩:=Kd.at_int Dj.out eO p227 q227
               cases e227
               replace qT:=(HB.out.cell (World.block_lt_of_cell? w _ qT)).trans qT
               replace p227:=eq_true p227
               replace q227:=eq_true q227
               have p228:0≤((rd (rd_L5 l1 bU) eO):Int):=of_decide_eq_true (by first|(with_reducible assumption)|assumption)
               have q228:(rd (rd_L5 l1 bU) eO)<(aQ.length:Int):=of_decide_eq_true (by first|(with_reducible assumption)|assumption)
               obtain⟨BV,Xm,Xn,e228,qU,qV,wT,wU⟩:=at_T35 dW.out (rd (rd_L5 l1 bU) eO) p228 q228
               cases e228
               replace qU:=(HB.out.cell (World.block_lt_of_cell? w _ qU)).trans qU
               replace qV:=(HB.out.cell (World.block_lt_of_cell? w _ qV)).trans qV
               have Sp:=aM wU
               have Sq:=aM wT
               clear wU wT
               replace p228:=eq_true p228
               replace q228:=eq_true q228
               go_wp2
               repeat(go_quiet (fail);try go_wp2)
               go_ret
               exact⟨by first|rfl|(simp [errW_none,errW_some]<;>rfl)|(simp [*,errW_none,errW_some]<;>rfl),gW HB.out⟩
             ·rw [if_neg c28] at H
              have BT:decide (0≤(rd (rd_L5 l1 bU) eO))=false:=decide_eq_false c28
              clear c28
              have H':=aM H
              clear H
              have p219:0≤(bU:Int):=of_decide_eq_true (by first|(with_reducible assumption)|assumption)
              have q219:bU<(l1.length:Int):=of_decide_eq_true (by first|(with_reducible assumption)|assumption)
              obtain⟨rO,Bf,Bg,e219,eD,iO,iP⟩:=at_L5 HR1.out bU p219 q219
              obtain rfl:kP=rO:=(by injection e219)
              replace eD:=(HB.out.cell (World.block_lt_of_cell? w _ eD)).trans eD
              have wN:=aM iP
              have wO:=aM iO
              clear iP iO
              replace p219:=eq_true p219
              replace q219:=eq_true q219
              have p220:0≤(bU:Int):=of_decide_eq_true (by first|(with_reducible assumption)|assumption)
              have q220:bU<(l1.length:Int):=of_decide_eq_true (by first|(with_reducible assumption)|assumption)
              obtain⟨wP,Dg,Dh,e220,gD,jU,jV⟩:=at_L5 HR1.out bU p220 q220
              obtain rfl:kP=wP:=(by injection e220)
              replace gD:=(HB.out.cell (World.block_lt_of_cell? w _ gD)).trans gD
              have mY:=aM jV
              have zT:=aM jU
              clear jV jU
              replace p220:=eq_true p220
              replace q220:=eq_true q220
              have ea_:=Option.some.inj (eD.symm.trans gD)
              injection ea_ with ea_ en_ ec_
              subst ea_
              subst ec_
              clear en_
              have p221:0≤(eO:Int):=of_decide_eq_true (by first|(with_reducible assumption)|assumption)
              have q221:eO<((rd_L5 l1 bU).length:Int):=of_decide_eq_true (by first|(with_reducible assumption)|assumption)
              obtain⟨Km,e221,hJ⟩:=Kd.at_int mY.out eO p221 q221
              cases e221
              replace hJ:=(HB.out.cell (World.block_lt_of_cell? w _ hJ)).trans hJ
              replace p221:=eq_true p221
              replace q221:=eq_true q221
              have p222:0≤(bU:Int):=of_decide_eq_true (by first|(with_reducible assumption)|assumption)
              have q222:bU<(l1.length:Int):=of_decide_eq_true (by first|(with_reducible assumption)|assumption)
              obtain⟨Bh,Hp,Hq,e222,hL,lO,lP⟩:=at_L5 HR1.out bU p222 q222
              obtain rfl:kP=Bh:=(by injection e222)
              replace hL:=(HB.out.cell (World.block_lt_of_cell? w _ hL)).trans hL
              have qS:=aM lP
              have Di:=aM lO
              clear lP lO
              replace p222:=eq_true p222
              replace q222:=eq_true q222
              have ea_:=Option.some.inj (eD.symm.trans hL)
              injection ea_ with ea_ en_ ec_
              subst ea_
              subst ec_
              clear en_
              have p223:0≤(eO:Int):=of_decide_eq_true (by first|(with_reducible assumption)|assumption)
              have q223:eO<((rd_L5 l1 bU).length:Int):=of_decide_eq_true (by first|(with_reducible assumption)|assumption)
              obtain⟨Mr,e223,jJ⟩:=Kd.at_int qS.out eO p223 q223
              cases e223
              replace jJ:=(HB.out.cell (World.block_lt_of_cell? w _ jJ)).trans jJ
              replace p223:=eq_true p223
              replace q223:=eq_true q223
              have qE:wr.cell? ⟨dE,0,none⟩=some (.slice bC aU.length bK):=(aG bW.out 0).trans rfl
              have qF:wr.cell? ⟨dE,1,none⟩=some (.slice bM aX.length bO):=(aG bW.out 1).trans rfl
              have vY:wr.cell? ⟨dE,2,none⟩=some (.int .i64 bA):=(aG bW.out 2).trans rfl
              have vZ:wr.cell? ⟨dE,3,none⟩=some (.int .i64 bB):=(aG bW.out 3).trans rfl
              have wA:wr.cell? ⟨dE,4,none⟩=some (.slice bQ aQ.length bP):=(aG bW.out 4).trans rfl
              have qG:=aH bW.out 0
              have qH:=aH bW.out 1
              have wB:=aH bW.out 2
              have wC:=aH bW.out 3
              have wD:=aH bW.out 4
              have p224:0≤(bU:Int):=of_decide_eq_true (by first|(with_reducible assumption)|assumption)
              have q224:bU<(l1.length:Int):=of_decide_eq_true (by first|(with_reducible assumption)|assumption)
              obtain⟨Gc,Mu,Mv,e224,jW,oD,oE⟩:=at_L5 HR1.out bU p224 q224
              obtain rfl:kP=Gc:=(by injection e224)
              replace jW:=(HB.out.cell (World.block_lt_of_cell? w _ jW)).trans jW
              have wQ:=aM oE
              have Kn:=aM oD
              clear oE oD
              replace p224:=eq_true p224
              replace q224:=eq_true q224
              have ea_:=Option.some.inj (eD.symm.trans jW)
              injection ea_ with ea_ en_ ec_
              subst ea_
              subst ec_
              clear en_
              have p225:0≤(eO:Int):=of_decide_eq_true (by first|(with_reducible assumption)|assumption)
              have q225:eO<((rd_L5 l1 bU).length:Int):=of_decide_eq_true (by first|(with_reducible assumption)|assumption)
              obtain⟨Vg,e225,lQ⟩:=Kd.at_int wQ.out eO p225 q225
              cases e225
              replace lQ:=(HB.out.cell (World.block_lt_of_cell? w _ lQ)).trans lQ
              replace p225:=eq_true p225
              replace q225:=eq_true q225
              go_wp2
              repeat(go_quiet (fail);try go_wp2)
              go_roundg k3
              case measure=>have:=HJ2.out;have:=HK2.out;have:=HK3.out;omega
              case rel=>exact⟨(wrap64 (eO+1)),(by first|rfl|(simp;done)|(simp [*];done)),H',⟨by have:=HJ2.out;have:=HK2.out;have:=HK3.out;omega⟩,⟨gB bW.out⟩,⟨gW HB.out⟩⟩
          ·rw [if_neg c23] at H
           have Mq:decide (eO<((rd_L5 l1 bU).length:Int))=false:=decide_eq_false c23
           clear c23
           have H':=aM H
           clear H
           have p219:0≤(bU:Int):=of_decide_eq_true (by first|(with_reducible assumption)|assumption)
           have q219:bU<(l1.length:Int):=of_decide_eq_true (by first|(with_reducible assumption)|assumption)
           obtain⟨rO,Bf,Bg,e219,eD,iO,iP⟩:=at_L5 HR1.out bU p219 q219
           obtain rfl:kP=rO:=(by injection e219)
           replace eD:=(HB.out.cell (World.block_lt_of_cell? w _ eD)).trans eD
           have wN:=aM iP
           have wO:=aM iO
           clear iP iO
           replace p219:=eq_true p219
           replace q219:=eq_true q219
           go_wp2
           repeat(go_quiet (fail);try go_wp2)
           go_roundg k3
           case measure=>have:=HJ2.out;have:=HK2.out;have:=HK3.out;omega
           case rel=>exact⟨(wrap64 (bU+1)),(by first|rfl|(simp;done)|(simp [*];done)),H',⟨by have:=HJ2.out;have:=HK2.out;have:=HK3.out;omega⟩,⟨gB bW.out⟩,⟨gW HB.out⟩⟩
       ·rw [if_neg c19] at H
        have wK:(((rd_L5 l1 bU).length:Int)==(wrap64 ((aX.length:Int)+1)))=false:=beq_eq_false_iff_ne.mpr c19
        have Vf:(((rd_L5 l1 bU).length:Int) !=(wrap64 ((aX.length:Int)+1)))=true:=bne_iff_ne.mpr c19
        obtain rfl:=Option.some.inj H
        have p218:0≤(bU:Int):=of_decide_eq_true (by first|(with_reducible assumption)|assumption)
        have q218:bU<(l1.length:Int):=of_decide_eq_true (by first|(with_reducible assumption)|assumption)
        obtain⟨kP,Xi,Xj,e218,oC,wL,wM⟩:=at_L5 HR1.out bU p218 q218
        cases e218
        replace oC:=(HB.out.cell (World.block_lt_of_cell? w _ oC)).trans oC
        have Sf:=aM wM
        have Sg:=aM wL
        clear wM wL
        replace p218:=eq_true p218
        replace q218:=eq_true q218
        have sM:wr.cell? ⟨dE,0,none⟩=some (.slice bC aU.length bK):=(aG bW.out 0).trans rfl
        have sN:wr.cell? ⟨dE,1,none⟩=some (.slice bM aX.length bO):=(aG bW.out 1).trans rfl
        have tV:wr.cell? ⟨dE,2,none⟩=some (.int .i64 bA):=(aG bW.out 2).trans rfl
        have tW:wr.cell? ⟨dE,3,none⟩=some (.int .i64 bB):=(aG bW.out 3).trans rfl
        have tX:wr.cell? ⟨dE,4,none⟩=some (.slice bQ aQ.length bP):=(aG bW.out 4).trans rfl
        have sO:=aH bW.out 0
        have sP:=aH bW.out 1
        have tY:=aH bW.out 2
        have tZ:=aH bW.out 3
        have uA:=aH bW.out 4
        go_wp2
        repeat(go_quiet (fail);try go_wp2)
        go_ret
        exact⟨by first|rfl|(simp [errW_none,errW_some]<;>rfl)|(simp [*,errW_none,errW_some]<;>rfl),gW HB.out⟩
      ·rw [if_neg c17] at H
       have mD:decide (bU<(l1.length:Int))=false:=decide_eq_false c17
       clear c17
       obtain rfl:=Option.some.inj H
       go_wp2
       repeat(go_quiet (fail);try go_wp2)
       go_ret
       exact⟨by first|rfl|(simp [errW_none,errW_some]<;>rfl)|(simp [*,errW_none,errW_some]<;>rfl),gW HB.out⟩
end Go.Proofs.Ytapjfnfengefpaa.P
end
