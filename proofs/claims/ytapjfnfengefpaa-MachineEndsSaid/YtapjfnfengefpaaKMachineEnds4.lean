/- Packed texts of this claim: the walks of the functions, and their plain laws; see the claim's last text. -/
import Derived.Deep.RegionHeld3
import Derived.WalkSpells
import Derived.Outline
import Derived.BigQuiet
import Derived.Deep.Cut
import Derived.Test.YtapjfnfengefpaaKMachineEnds3
section
namespace Go.Proofs.Ytapjfnfengefpaa.P
open Go.RowKit Go.Proofs.YtapjfnfengefpaaW.PrintWords Go.Proofs.YtapjfnfengefpaaW.PrintLast Go.Proofs.YtapjfnfengefpaaW.PrintMore
attribute [local go_sem] max2_int min2_int max_two min_two max_three min_three max_four min_four   -- for this text's walks alone
set_option linter.unusedVariables false
set_option linter.unusedSimpArgs false
def regletref13_join.l0:Nat→List Bool→List Bool→Bool→Int→Option (Bool×List Bool)
 |0,_,_,_,_=>none
 |k+1,x0,x1,x5,x6=>if x6<(x0.length:Int) then(if x5=true then(if 0≤x6 then(if rdOf false x0 x6=true then(regletref13_join.l0 k (x0.set (x6:Int).toNat true) x1 true (wrap64 (x6+1))) else(if x6<(x1.length:Int) then(regletref13_join.l0 k (x0.set (x6:Int).toNat (rdOf false x1 x6)) x1 true (wrap64 (x6+1))) else(none))) else(none)) else(if 0≤x6 then(if x6<(x1.length:Int) then(if rdOf false x1 x6=true then(if rdOf false x0 x6=true then(regletref13_join.l0 k (x0.set (x6:Int).toNat true) x1 (!(rdOf false x0 x6)) (wrap64 (x6+1))) else(regletref13_join.l0 k (x0.set (x6:Int).toNat (rdOf false x1 x6)) x1 (!(rdOf false x0 x6)) (wrap64 (x6+1)))) else(if rdOf false x0 x6=true then(regletref13_join.l0 k (x0.set (x6:Int).toNat true) x1 false (wrap64 (x6+1))) else(regletref13_join.l0 k (x0.set (x6:Int).toNat (rdOf false x1 x6)) x1 false (wrap64 (x6+1))))) else(none)) else(none))) else(some (x5,x0))
def regletref13_join.f (k:Nat) (l0:List Bool) (l1:List Bool):Option (Bool×List Bool):=regletref13_join.l0 k l0 l1 false 0
set_option maxHeartbeats 8000000 in
set_option maxRecDepth 100000 in
theorem regletref13_join.calls (k:Nat) (P0_:Nat→Prop) (u9000_:Value) (l0:List Bool) (A1:Option Addr) (c1:Nat) (l1:List Bool) (r1:Bool) (r2:List Bool) (w0 w:World) (hB:Below w0.heap.size w0 w) (ho0:Kd.R Kd.bool 4 w w0.heap.size P0_ u9000_ l0) (hr1:∀W_,Kept w W_ (fun k_=>P0_ k_)→Kd.C Kd.bool W_ A1 l1.length l1) (hc1:l1.length≤c1) (h:regletref13_join.f k l0 l1=some (r1,r2)):
 Calls Try.prog 47 #[u9000_,.slice A1 l1.length c1] w fun e w'=>e= .returned (.bool r1)∧Kd.R Kd.bool 4 w' w0.heap.size (fun k_=>(P0_ k_∨w.heap.size≤k_)) u9000_ r2∧Below w0.heap.size w0 w'∧Kept w w' (fun k_=>P0_ k_):=by
 have HO0:=aM (show Kd.R Kd.bool 4 w w0.heap.size (fun k_=>(P0_ k_∨w.heap.size≤k_)) u9000_ l0 from Kd.R_mono ho0 (fun k_ hk=>(.inl hk)))
 have HR1:=aM hr1
 have HC1:=aM hc1
 clear hr1 hc1
 have HK:=aM (Kept.refl w (fun k_=>P0_ k_))
 have HW0:=aM hB.size
 have HB:=aM hB
 clear hB
 have H:(regletref13_join.l0 k l0 l1 false 0)=some (r1,r2):=h
 clear h
 have H':=aM H
 clear H
 go_enter Try.func47,Try.ntmps47
 go_wp2
 go_loopg [5,6] k (fun kq v5 v6 w'=>∃(x0_1:List Bool) (x5_1:Bool) (x6_1:Int),v5= .bool x5_1∧v6= .int .i64 x6_1∧Aside0 (regletref13_join.l0 kq x0_1 l1 x5_1 x6_1=some (r1,r2))∧Aside0 (kq≤k)∧Aside0 (Kd.R Kd.bool 4 w' w0.heap.size (fun k_=>(P0_ k_∨w.heap.size≤k_)) u9000_ x0_1)∧Aside0 (Kept w w' (fun k_=>P0_ k_))∧Aside0 (Below w0.heap.size w0 w'))
 case atStart=>exact⟨(l0),(false),(0),(by first|rfl|(simp;done)|(simp [*];done)),(by first|rfl|(simp;done)|(simp [*];done)),H',⟨Nat.le_refl _⟩,⟨by(with_reducible repeat(first|apply aA|apply aB|apply aC));exact HO0.out⟩,⟨by repeat(first|(with_reducible first|exact HK.out|apply Kept.alloc|apply Kept.drewN|apply Kept.drew)|exact HK.out)⟩,⟨by repeat(first|(with_reducible first|exact HB.out|apply aN|apply aP|apply aO)|exact HB.out)⟩⟩
 case round=>
  clear H'
  (try clear c1);(try clear p2)
  obtain⟨x0_1,x5_1,x6_1,rfl,rfl,HA,HK1,HO_0,HK,HB⟩:=hrel
  cases gk with
  |zero=>exact absurd HA.out (by simp [regletref13_join.l0])
  |succ k1=>
   have H:=HA.out
   clear HA
   simp only [regletref13_join.l0] at H
   by_cases c3:x6_1<(x0_1.length:Int)
   ·rw [if_pos c3] at H
    have c3b0:decide (x6_1<(x0_1.length:Int))=true:=decide_eq_true c3
    clear c3
    by_cases c4:x5_1=true
    ·subst c4
     have H1:(if 0≤x6_1 then(if rdOf false x0_1 x6_1=true then(regletref13_join.l0 k1 (x0_1.set (x6_1:Int).toNat true) l1 true (wrap64 (x6_1+1))) else(if x6_1<(l1.length:Int) then(regletref13_join.l0 k1 (x0_1.set (x6_1:Int).toNat (rdOf false l1 x6_1)) l1 true (wrap64 (x6_1+1))) else(none))) else(none))=some (r1,r2):=by rw [if_pos rfl] at H;exact H
     clear H
     have H:=H1
     clear H1
     by_cases c5:0≤x6_1
     rotate_left
     ·rw [if_neg c5] at H
      exact absurd H (by simp)
     rw [if_pos c5] at H
     have c5b0:decide (0≤x6_1)=true:=decide_eq_true c5
     clear c5
     obtain⟨bq6,hbq6⟩:∃b_:Bool,b_=(rdOf false x0_1 x6_1):=⟨_,rfl⟩
     replace H:(if bq6=true then(regletref13_join.l0 k1 (x0_1.set (x6_1:Int).toNat true) l1 true (wrap64 (x6_1+1))) else(if x6_1<(l1.length:Int) then(regletref13_join.l0 k1 (x0_1.set (x6_1:Int).toNat (rdOf false l1 x6_1)) l1 true (wrap64 (x6_1+1))) else(none)))=some (r1,r2):=by rw [←hbq6] at H;exact H
     have Nbq6:=aM hbq6
     clear hbq6
     by_cases c7:bq6=true
     ·subst c7
      have H1:(regletref13_join.l0 k1 (x0_1.set (x6_1:Int).toNat true) l1 true (wrap64 (x6_1+1)))=some (r1,r2):=by rw [if_pos rfl] at H;exact H
      clear H
      have H:=H1
      clear H1
      obtain⟨y358,hy358⟩:∃y_:List Bool,y_=(x0_1.set (x6_1:Int).toNat true):=⟨_,rfl⟩
      replace H:(regletref13_join.l0 k1 y358 l1 true (wrap64 (x6_1+1)))=some (r1,r2):=by first|(rw [hy358];with_reducible exact H)|(have H2_:=(Option.bind_some _ _).symm.trans H;rw [hy358];with_reducible exact H2_)|(have H2_:=(Option.bind_some _ _).symm.trans H;with_reducible exact H2_)|with_reducible exact H|(rw [hy358];exact H)|exact H
      have Ny358:=aM hy358
      clear hy358
      have H':=aM H
      clear H
      obtain⟨Ao9,co9,eo9⟩:=Kd.R_slice HO_0.out
      subst eo9
      have p357:0≤(x6_1:Int):=of_decide_eq_true (by first|(with_reducible assumption)|assumption)
      have q357:x6_1<(x0_1.length:Int):=of_decide_eq_true (by first|(with_reducible assumption)|assumption)
      obtain⟨ad357,e357,hx357_0⟩:=Kd.at_bool (aF HO_0.out).2.2 x6_1 p357 q357
      (try rw [←Nbq6.out] at hx357_0)
      cases e357
      replace p357:=eq_true p357
      replace q357:=eq_true q357
      have p8:0≤(x6_1:Int):=of_decide_eq_true (by first|(with_reducible assumption)|assumption)
      have q8:(x6_1:Int)<((x0_1.length:Int):Int):=of_decide_eq_true (by first|(with_reducible assumption)|assumption)
      obtain⟨go8,co8,eo8,gb8,gl8,cl8,HG8⟩:=Kd.R_form HO_0.out (by omega)
      (first|cases eo8|(injection eo8 with ea_ en_ ec_;(first|subst ea_|(injection ea_ with ea_;subst ea_));subst ec_;clear en_))
      have GB8:=aM gb8
      have GG8:=aM HG8
      clear gb8 gl8 HG8
      have HMgo8:=aM (show(P0_ go8∨w.heap.size≤go8) from(HO_0.out.1 _ rfl))
      (first|simp only [add_plain] at hx357_0|skip)
      obtain⟨hx8_0,hf8_0⟩:=Kd.R_celln false HO_0.out (x6_1:Int) p8 q8
      replace p8:=eq_true p8
      replace q8:=eq_true q8
      have HP10:=Kd.R_putg HO_0.out (x6_1:Int) true
      go_wp2_with (first|((with_reducible refine gate_store (t:=4) (p:=39) rfl ?_);refine store_event (t:=4) (p:=39) (v:=?vo_w11) (w1:=(wr.setCell ⟨go8,(x6_1:Int).toNat,none⟩ (.bool true))) ?hg ?ho ?hn ?hr ?_;(case ho=>rfl);(case hg=>rfl);(case hn=>rfl);(case hr=>first|(go_simp;done)|(go_simp;rfl));intro w11 hw;have hg:wr.grownBy w11 (some go8):=(by rw [hw];exact HP10.2);have hp_:Kd.R Kd.bool 4 w11 w0.heap.size (fun k_=>(P0_ k_∨w.heap.size≤k_)) (.slice (some ⟨go8,0,none⟩) x0_1.length co9) y358:=(by rw [hw,Ny358.out];exact HP10.1);clear HP10;have n0_:=aM (hp_);have n1_:=aM ((by rw [hw];exact aL (HB.out) GB8.out:Below w0.heap.size w0 w11));have n2_:=aM (Kept.of_grown (S:=(fun k_=>P0_ k_)) hg (by repeat(first|(with_reducible first|exact HK.out|apply Kept.alloc|apply Kept.drewN|apply Kept.drew)|exact HK.out)) (fun k_ e_=>(HO_0.out.1 k_ e_)));clear HO_0;clear HB;clear HK;have HO_0:=n0_;have HB:=n1_;have HK:=n2_;clear n0_ n1_ n2_;clear hg hw hp_))
      go_roundg k1
      case measure=>have:=HK1.out;omega
      case rel=>exact⟨(y358),(true),(wrap64 (x6_1+1)),(by first|rfl|(simp;done)|(simp [*];done)),(by first|rfl|(simp;done)|(simp [*];done)),H',⟨by have:=HK1.out;omega⟩,⟨by(with_reducible repeat(first|apply aA|apply aB|apply aC));exact HO_0.out⟩,⟨by repeat(first|(with_reducible first|exact HK.out|apply Kept.alloc|apply Kept.drewN|apply Kept.drew)|exact HK.out)⟩,⟨by repeat(first|(with_reducible first|exact HB.out|apply aN|apply aP|apply aO)|exact HB.out)⟩⟩
     ·replace c7:=Bool.eq_false_iff.mpr c7
      subst c7
      have H1:(if x6_1<(l1.length:Int) then(regletref13_join.l0 k1 (x0_1.set (x6_1:Int).toNat (rdOf false l1 x6_1)) l1 true (wrap64 (x6_1+1))) else(none))=some (r1,r2):=by rw [if_neg (show ¬(false=true) by decide)] at H;exact H
      clear H
      have H:=H1
      clear H1
      by_cases c12:x6_1<(l1.length:Int)
      rotate_left
      ·rw [if_neg c12] at H
       exact absurd H (by simp)
      rw [if_pos c12] at H
      have c12b0:decide (x6_1<(l1.length:Int))=true:=decide_eq_true c12
      clear c12
      obtain⟨y360,hy360⟩:∃y_:List Bool,y_=(x0_1.set (x6_1:Int).toNat (rdOf false l1 x6_1)):=⟨_,rfl⟩
      replace H:(regletref13_join.l0 k1 y360 l1 true (wrap64 (x6_1+1)))=some (r1,r2):=by first|(rw [hy360];with_reducible exact H)|(have H2_:=(Option.bind_some _ _).symm.trans H;rw [hy360];with_reducible exact H2_)|(have H2_:=(Option.bind_some _ _).symm.trans H;with_reducible exact H2_)|with_reducible exact H|(rw [hy360];exact H)|exact H
      have Ny360:=aM hy360
      clear hy360
      have H':=aM H
      clear H
      obtain⟨Ao14,co14,eo14⟩:=Kd.R_slice HO_0.out
      subst eo14
      have p357:0≤(x6_1:Int):=of_decide_eq_true (by first|(with_reducible assumption)|assumption)
      have q357:x6_1<(x0_1.length:Int):=of_decide_eq_true (by first|(with_reducible assumption)|assumption)
      obtain⟨ad357,e357,hx357_0⟩:=Kd.at_bool (aF HO_0.out).2.2 x6_1 p357 q357
      (try rw [←Nbq6.out] at hx357_0)
      cases e357
      replace p357:=eq_true p357
      replace q357:=eq_true q357
      have p359:0≤(x6_1:Int):=of_decide_eq_true (by first|(with_reducible assumption)|assumption)
      have q359:x6_1<(l1.length:Int):=of_decide_eq_true (by first|(with_reducible assumption)|assumption)
      obtain⟨ad359,e359,hx359_0⟩:=Kd.at_bool (Kd.C_kept_now HR1.out HK.out) x6_1 p359 q359
      (try rw [←Nbq6.out] at hx359_0)
      cases e359
      replace p359:=eq_true p359
      replace q359:=eq_true q359
      have p13:0≤(x6_1:Int):=of_decide_eq_true (by first|(with_reducible assumption)|assumption)
      have q13:(x6_1:Int)<((x0_1.length:Int):Int):=of_decide_eq_true (by first|(with_reducible assumption)|assumption)
      obtain⟨go13,co13,eo13,gb13,gl13,cl13,HG13⟩:=Kd.R_form HO_0.out (by omega)
      (first|cases eo13|(injection eo13 with ea_ en_ ec_;(first|subst ea_|(injection ea_ with ea_;subst ea_));subst ec_;clear en_))
      have GB13:=aM gb13
      have GG13:=aM HG13
      clear gb13 gl13 HG13
      have HMgo13:=aM (show(P0_ go13∨w.heap.size≤go13) from(HO_0.out.1 _ rfl))
      (first|simp only [add_plain] at hx357_0|skip)
      obtain⟨hx13_0,hf13_0⟩:=Kd.R_celln false HO_0.out (x6_1:Int) p13 q13
      replace p13:=eq_true p13
      replace q13:=eq_true q13
      have HP15:=Kd.R_putg HO_0.out (x6_1:Int) (rdOf false l1 x6_1)
      go_wp2_with (first|((with_reducible refine gate_store (t:=4) (p:=39) rfl ?_);refine store_event (t:=4) (p:=39) (v:=?vo_w16) (w1:=(wr.setCell ⟨go13,(x6_1:Int).toNat,none⟩ (.bool (rdOf false l1 x6_1)))) ?hg ?ho ?hn ?hr ?_;(case ho=>rfl);(case hg=>rfl);(case hn=>rfl);(case hr=>first|(go_simp;done)|(go_simp;rfl));intro w16 hw;have hg:wr.grownBy w16 (some go13):=(by rw [hw];exact HP15.2);have hp_:Kd.R Kd.bool 4 w16 w0.heap.size (fun k_=>(P0_ k_∨w.heap.size≤k_)) (.slice (some ⟨go13,0,none⟩) x0_1.length co14) y360:=(by rw [hw,Ny360.out];exact HP15.1);clear HP15;have n0_:=aM (hp_);have n1_:=aM ((by rw [hw];exact aL (HB.out) GB13.out:Below w0.heap.size w0 w16));have n2_:=aM (Kept.of_grown (S:=(fun k_=>P0_ k_)) hg (by repeat(first|(with_reducible first|exact HK.out|apply Kept.alloc|apply Kept.drewN|apply Kept.drew)|exact HK.out)) (fun k_ e_=>(HO_0.out.1 k_ e_)));clear HO_0;clear HB;clear HK;have HO_0:=n0_;have HB:=n1_;have HK:=n2_;clear n0_ n1_ n2_;clear hg hw hp_))
      go_roundg k1
      case measure=>have:=HK1.out;omega
      case rel=>exact⟨(y360),(true),(wrap64 (x6_1+1)),(by first|rfl|(simp;done)|(simp [*];done)),(by first|rfl|(simp;done)|(simp [*];done)),H',⟨by have:=HK1.out;omega⟩,⟨by(with_reducible repeat(first|apply aA|apply aB|apply aC));exact HO_0.out⟩,⟨by repeat(first|(with_reducible first|exact HK.out|apply Kept.alloc|apply Kept.drewN|apply Kept.drew)|exact HK.out)⟩,⟨by repeat(first|(with_reducible first|exact HB.out|apply aN|apply aP|apply aO)|exact HB.out)⟩⟩
    ·replace c4:=Bool.eq_false_iff.mpr c4
     subst c4
     have H1:(if 0≤x6_1 then(if x6_1<(l1.length:Int) then(if rdOf false l1 x6_1=true then(if rdOf false x0_1 x6_1=true then(regletref13_join.l0 k1 (x0_1.set (x6_1:Int).toNat true) l1 (!(rdOf false x0_1 x6_1)) (wrap64 (x6_1+1))) else(regletref13_join.l0 k1 (x0_1.set (x6_1:Int).toNat (rdOf false l1 x6_1)) l1 (!(rdOf false x0_1 x6_1)) (wrap64 (x6_1+1)))) else(if rdOf false x0_1 x6_1=true then(regletref13_join.l0 k1 (x0_1.set (x6_1:Int).toNat true) l1 false (wrap64 (x6_1+1))) else(regletref13_join.l0 k1 (x0_1.set (x6_1:Int).toNat (rdOf false l1 x6_1)) l1 false (wrap64 (x6_1+1))))) else(none)) else(none))=some (r1,r2):=by rw [if_neg (show ¬(false=true) by decide)] at H;exact H
     clear H
     have H:=H1
     clear H1
     by_cases c17:0≤x6_1
     rotate_left
     ·rw [if_neg c17] at H
      exact absurd H (by simp)
     rw [if_pos c17] at H
     have c17b0:decide (0≤x6_1)=true:=decide_eq_true c17
     clear c17
     by_cases c18:x6_1<(l1.length:Int)
     rotate_left
     ·rw [if_neg c18] at H
      exact absurd H (by simp)
     rw [if_pos c18] at H
     have c18b0:decide (x6_1<(l1.length:Int))=true:=decide_eq_true c18
     clear c18
     obtain⟨bq19,hbq19⟩:∃b_:Bool,b_=(rdOf false l1 x6_1):=⟨_,rfl⟩
     replace H:(if bq19=true then(if rdOf false x0_1 x6_1=true then(regletref13_join.l0 k1 (x0_1.set (x6_1:Int).toNat true) l1 (!(rdOf false x0_1 x6_1)) (wrap64 (x6_1+1))) else(regletref13_join.l0 k1 (x0_1.set (x6_1:Int).toNat (bq19)) l1 (!(rdOf false x0_1 x6_1)) (wrap64 (x6_1+1)))) else(if rdOf false x0_1 x6_1=true then(regletref13_join.l0 k1 (x0_1.set (x6_1:Int).toNat true) l1 false (wrap64 (x6_1+1))) else(regletref13_join.l0 k1 (x0_1.set (x6_1:Int).toNat (bq19)) l1 false (wrap64 (x6_1+1)))))=some (r1,r2):=by rw [←hbq19] at H;exact H
     have Nbq19:=aM hbq19
     clear hbq19
     by_cases c20:bq19=true
     ·subst c20
      have H1:(if rdOf false x0_1 x6_1=true then(regletref13_join.l0 k1 (x0_1.set (x6_1:Int).toNat true) l1 (!(rdOf false x0_1 x6_1)) (wrap64 (x6_1+1))) else(regletref13_join.l0 k1 (x0_1.set (x6_1:Int).toNat (true)) l1 (!(rdOf false x0_1 x6_1)) (wrap64 (x6_1+1))))=some (r1,r2):=by rw [if_pos rfl] at H;exact H
      clear H
      have H:=H1
      clear H1
      obtain⟨bq21,hbq21⟩:∃b_:Bool,b_=(rdOf false x0_1 x6_1):=⟨_,rfl⟩
      replace H:(if bq21=true then(regletref13_join.l0 k1 (x0_1.set (x6_1:Int).toNat true) l1 (!(bq21)) (wrap64 (x6_1+1))) else(regletref13_join.l0 k1 (x0_1.set (x6_1:Int).toNat (true)) l1 (!(bq21)) (wrap64 (x6_1+1))))=some (r1,r2):=by rw [←hbq21] at H;exact H
      have Nbq21:=aM hbq21
      clear hbq21
      by_cases c22:bq21=true
      ·subst c22
       have H1:(regletref13_join.l0 k1 (x0_1.set (x6_1:Int).toNat true) l1 (!(true)) (wrap64 (x6_1+1)))=some (r1,r2):=by rw [if_pos rfl] at H;exact H
       clear H
       have H:=H1
       clear H1
       obtain⟨y364,hy364⟩:∃y_:List Bool,y_=(x0_1.set (x6_1:Int).toNat true):=⟨_,rfl⟩
       replace H:(regletref13_join.l0 k1 y364 l1 (!(true)) (wrap64 (x6_1+1)))=some (r1,r2):=by first|(rw [hy364];with_reducible exact H)|(have H2_:=(Option.bind_some _ _).symm.trans H;rw [hy364];with_reducible exact H2_)|(have H2_:=(Option.bind_some _ _).symm.trans H;with_reducible exact H2_)|with_reducible exact H|(rw [hy364];exact H)|exact H
       have Ny364:=aM hy364
       clear hy364
       have H':=aM H
       clear H
       obtain⟨Ao24,co24,eo24⟩:=Kd.R_slice HO_0.out
       subst eo24
       have p361:0≤(x6_1:Int):=of_decide_eq_true (by first|(with_reducible assumption)|assumption)
       have q361:x6_1<(l1.length:Int):=of_decide_eq_true (by first|(with_reducible assumption)|assumption)
       obtain⟨ad361,e361,hx361_0⟩:=Kd.at_bool (Kd.C_kept_now HR1.out HK.out) x6_1 p361 q361
       (try rw [←Nbq19.out] at hx361_0)
       (try rw [←Nbq21.out] at hx361_0)
       cases e361
       replace p361:=eq_true p361
       replace q361:=eq_true q361
       have p362:0≤(x6_1:Int):=of_decide_eq_true (by first|(with_reducible assumption)|assumption)
       have q362:x6_1<(x0_1.length:Int):=of_decide_eq_true (by first|(with_reducible assumption)|assumption)
       obtain⟨ad362,e362,hx362_0⟩:=Kd.at_bool (aF HO_0.out).2.2 x6_1 p362 q362
       (try rw [←Nbq19.out] at hx362_0)
       (try rw [←Nbq21.out] at hx362_0)
       cases e362
       replace p362:=eq_true p362
       replace q362:=eq_true q362
       have p363:0≤(x6_1:Int):=of_decide_eq_true (by first|(with_reducible assumption)|assumption)
       have q363:x6_1<(x0_1.length:Int):=of_decide_eq_true (by first|(with_reducible assumption)|assumption)
       obtain⟨ad363,e363,hx363_0⟩:=Kd.at_bool (aF HO_0.out).2.2 x6_1 p363 q363
       (try rw [←Nbq19.out] at hx363_0)
       (try rw [←Nbq21.out] at hx363_0)
       obtain rfl:ad362=ad363:=(by injection e363)
       replace p363:=eq_true p363
       replace q363:=eq_true q363
       have p23:0≤(x6_1:Int):=of_decide_eq_true (by first|(with_reducible assumption)|assumption)
       have q23:(x6_1:Int)<((x0_1.length:Int):Int):=of_decide_eq_true (by first|(with_reducible assumption)|assumption)
       obtain⟨go23,co23,eo23,gb23,gl23,cl23,HG23⟩:=Kd.R_form HO_0.out (by omega)
       (first|cases eo23|(injection eo23 with ea_ en_ ec_;(first|subst ea_|(injection ea_ with ea_;subst ea_));subst ec_;clear en_))
       have GB23:=aM gb23
       have GG23:=aM HG23
       clear gb23 gl23 HG23
       have HMgo23:=aM (show(P0_ go23∨w.heap.size≤go23) from(HO_0.out.1 _ rfl))
       (first|simp only [add_plain] at hx362_0|skip)
       (first|simp only [add_plain] at hx363_0|skip)
       obtain⟨hx23_0,hf23_0⟩:=Kd.R_celln false HO_0.out (x6_1:Int) p23 q23
       replace p23:=eq_true p23
       replace q23:=eq_true q23
       have HP25:=Kd.R_putg HO_0.out (x6_1:Int) true
       go_wp2_with (first|((with_reducible refine gate_store (t:=4) (p:=39) rfl ?_);refine store_event (t:=4) (p:=39) (v:=?vo_w26) (w1:=(wr.setCell ⟨go23,(x6_1:Int).toNat,none⟩ (.bool true))) ?hg ?ho ?hn ?hr ?_;(case ho=>rfl);(case hg=>rfl);(case hn=>rfl);(case hr=>first|(go_simp;done)|(go_simp;rfl));intro w26 hw;have hg:wr.grownBy w26 (some go23):=(by rw [hw];exact HP25.2);have hp_:Kd.R Kd.bool 4 w26 w0.heap.size (fun k_=>(P0_ k_∨w.heap.size≤k_)) (.slice (some ⟨go23,0,none⟩) x0_1.length co24) y364:=(by rw [hw,Ny364.out];exact HP25.1);clear HP25;have n0_:=aM (hp_);have n1_:=aM ((by rw [hw];exact aL (HB.out) GB23.out:Below w0.heap.size w0 w26));have n2_:=aM (Kept.of_grown (S:=(fun k_=>P0_ k_)) hg (by repeat(first|(with_reducible first|exact HK.out|apply Kept.alloc|apply Kept.drewN|apply Kept.drew)|exact HK.out)) (fun k_ e_=>(HO_0.out.1 k_ e_)));clear HO_0;clear HB;clear HK;have HO_0:=n0_;have HB:=n1_;have HK:=n2_;clear n0_ n1_ n2_;clear hg hw hp_))
       go_roundg k1
       case measure=>have:=HK1.out;omega
       case rel=>exact⟨(y364),(!(true)),(wrap64 (x6_1+1)),(by first|rfl|(simp;done)|(simp [*];done)),(by first|rfl|(simp;done)|(simp [*];done)),H',⟨by have:=HK1.out;omega⟩,⟨by(with_reducible repeat(first|apply aA|apply aB|apply aC));exact HO_0.out⟩,⟨by repeat(first|(with_reducible first|exact HK.out|apply Kept.alloc|apply Kept.drewN|apply Kept.drew)|exact HK.out)⟩,⟨by repeat(first|(with_reducible first|exact HB.out|apply aN|apply aP|apply aO)|exact HB.out)⟩⟩
      ·replace c22:=Bool.eq_false_iff.mpr c22
       subst c22
       have H1:(regletref13_join.l0 k1 (x0_1.set (x6_1:Int).toNat (true)) l1 (!(false)) (wrap64 (x6_1+1)))=some (r1,r2):=by rw [if_neg (show ¬(false=true) by decide)] at H;exact H
       clear H
       have H:=H1
       clear H1
       obtain⟨y366,hy366⟩:∃y_:List Bool,y_=(x0_1.set (x6_1:Int).toNat (true)):=⟨_,rfl⟩
       replace H:(regletref13_join.l0 k1 y366 l1 (!(false)) (wrap64 (x6_1+1)))=some (r1,r2):=by first|(rw [hy366];with_reducible exact H)|(have H2_:=(Option.bind_some _ _).symm.trans H;rw [hy366];with_reducible exact H2_)|(have H2_:=(Option.bind_some _ _).symm.trans H;with_reducible exact H2_)|with_reducible exact H|(rw [hy366];exact H)|exact H
       have Ny366:=aM hy366
       clear hy366
       have H':=aM H
       clear H
       obtain⟨Ao28,co28,eo28⟩:=Kd.R_slice HO_0.out
       subst eo28
       have p361:0≤(x6_1:Int):=of_decide_eq_true (by first|(with_reducible assumption)|assumption)
       have q361:x6_1<(l1.length:Int):=of_decide_eq_true (by first|(with_reducible assumption)|assumption)
       obtain⟨ad361,e361,hx361_0⟩:=Kd.at_bool (Kd.C_kept_now HR1.out HK.out) x6_1 p361 q361
       (try rw [←Nbq19.out] at hx361_0)
       (try rw [←Nbq21.out] at hx361_0)
       cases e361
       replace p361:=eq_true p361
       replace q361:=eq_true q361
       have p362:0≤(x6_1:Int):=of_decide_eq_true (by first|(with_reducible assumption)|assumption)
       have q362:x6_1<(x0_1.length:Int):=of_decide_eq_true (by first|(with_reducible assumption)|assumption)
       obtain⟨ad362,e362,hx362_0⟩:=Kd.at_bool (aF HO_0.out).2.2 x6_1 p362 q362
       (try rw [←Nbq19.out] at hx362_0)
       (try rw [←Nbq21.out] at hx362_0)
       cases e362
       replace p362:=eq_true p362
       replace q362:=eq_true q362
       have p363:0≤(x6_1:Int):=of_decide_eq_true (by first|(with_reducible assumption)|assumption)
       have q363:x6_1<(x0_1.length:Int):=of_decide_eq_true (by first|(with_reducible assumption)|assumption)
       obtain⟨ad363,e363,hx363_0⟩:=Kd.at_bool (aF HO_0.out).2.2 x6_1 p363 q363
       (try rw [←Nbq19.out] at hx363_0)
       (try rw [←Nbq21.out] at hx363_0)
       obtain rfl:ad362=ad363:=(by injection e363)
       replace p363:=eq_true p363
       replace q363:=eq_true q363
       have p365:0≤(x6_1:Int):=of_decide_eq_true (by first|(with_reducible assumption)|assumption)
       have q365:x6_1<(l1.length:Int):=of_decide_eq_true (by first|(with_reducible assumption)|assumption)
       obtain⟨ad365,e365,hx365_0⟩:=Kd.at_bool (Kd.C_kept_now HR1.out HK.out) x6_1 p365 q365
       (try rw [←Nbq19.out] at hx365_0)
       (try rw [←Nbq21.out] at hx365_0)
       obtain rfl:ad361=ad365:=(by injection e365)
       replace p365:=eq_true p365
       replace q365:=eq_true q365
       have p27:0≤(x6_1:Int):=of_decide_eq_true (by first|(with_reducible assumption)|assumption)
       have q27:(x6_1:Int)<((x0_1.length:Int):Int):=of_decide_eq_true (by first|(with_reducible assumption)|assumption)
       obtain⟨go27,co27,eo27,gb27,gl27,cl27,HG27⟩:=Kd.R_form HO_0.out (by omega)
       (first|cases eo27|(injection eo27 with ea_ en_ ec_;(first|subst ea_|(injection ea_ with ea_;subst ea_));subst ec_;clear en_))
       have GB27:=aM gb27
       have GG27:=aM HG27
       clear gb27 gl27 HG27
       have HMgo27:=aM (show(P0_ go27∨w.heap.size≤go27) from(HO_0.out.1 _ rfl))
       (first|simp only [add_plain] at hx362_0|skip)
       (first|simp only [add_plain] at hx363_0|skip)
       obtain⟨hx27_0,hf27_0⟩:=Kd.R_celln false HO_0.out (x6_1:Int) p27 q27
       replace p27:=eq_true p27
       replace q27:=eq_true q27
       have HP29:=Kd.R_putg HO_0.out (x6_1:Int) true
       go_wp2_with (first|((with_reducible refine gate_store (t:=4) (p:=39) rfl ?_);refine store_event (t:=4) (p:=39) (v:=?vo_w30) (w1:=(wr.setCell ⟨go27,(x6_1:Int).toNat,none⟩ (.bool true))) ?hg ?ho ?hn ?hr ?_;(case ho=>rfl);(case hg=>rfl);(case hn=>rfl);(case hr=>first|(go_simp;done)|(go_simp;rfl));intro w30 hw;have hg:wr.grownBy w30 (some go27):=(by rw [hw];exact HP29.2);have hp_:Kd.R Kd.bool 4 w30 w0.heap.size (fun k_=>(P0_ k_∨w.heap.size≤k_)) (.slice (some ⟨go27,0,none⟩) x0_1.length co28) y366:=(by rw [hw,Ny366.out];exact HP29.1);clear HP29;have n0_:=aM (hp_);have n1_:=aM ((by rw [hw];exact aL (HB.out) GB27.out:Below w0.heap.size w0 w30));have n2_:=aM (Kept.of_grown (S:=(fun k_=>P0_ k_)) hg (by repeat(first|(with_reducible first|exact HK.out|apply Kept.alloc|apply Kept.drewN|apply Kept.drew)|exact HK.out)) (fun k_ e_=>(HO_0.out.1 k_ e_)));clear HO_0;clear HB;clear HK;have HO_0:=n0_;have HB:=n1_;have HK:=n2_;clear n0_ n1_ n2_;clear hg hw hp_))
       go_roundg k1
       case measure=>have:=HK1.out;omega
       case rel=>exact⟨(y366),(!(false)),(wrap64 (x6_1+1)),(by first|rfl|(simp;done)|(simp [*];done)),(by first|rfl|(simp;done)|(simp [*];done)),H',⟨by have:=HK1.out;omega⟩,⟨by(with_reducible repeat(first|apply aA|apply aB|apply aC));exact HO_0.out⟩,⟨by repeat(first|(with_reducible first|exact HK.out|apply Kept.alloc|apply Kept.drewN|apply Kept.drew)|exact HK.out)⟩,⟨by repeat(first|(with_reducible first|exact HB.out|apply aN|apply aP|apply aO)|exact HB.out)⟩⟩
     ·replace c20:=Bool.eq_false_iff.mpr c20
      subst c20
      have H1:(if rdOf false x0_1 x6_1=true then(regletref13_join.l0 k1 (x0_1.set (x6_1:Int).toNat true) l1 false (wrap64 (x6_1+1))) else(regletref13_join.l0 k1 (x0_1.set (x6_1:Int).toNat (false)) l1 false (wrap64 (x6_1+1))))=some (r1,r2):=by rw [if_neg (show ¬(false=true) by decide)] at H;exact H
      clear H
      have H:=H1
      clear H1
      obtain⟨bq31,hbq31⟩:∃b_:Bool,b_=(rdOf false x0_1 x6_1):=⟨_,rfl⟩
      replace H:(if bq31=true then(regletref13_join.l0 k1 (x0_1.set (x6_1:Int).toNat true) l1 false (wrap64 (x6_1+1))) else(regletref13_join.l0 k1 (x0_1.set (x6_1:Int).toNat (false)) l1 false (wrap64 (x6_1+1))))=some (r1,r2):=by rw [←hbq31] at H;exact H
      have Nbq31:=aM hbq31
      clear hbq31
      by_cases c32:bq31=true
      ·subst c32
       have H1:(regletref13_join.l0 k1 (x0_1.set (x6_1:Int).toNat true) l1 false (wrap64 (x6_1+1)))=some (r1,r2):=by rw [if_pos rfl] at H;exact H
       clear H
       have H:=H1
       clear H1
       obtain⟨y368,hy368⟩:∃y_:List Bool,y_=(x0_1.set (x6_1:Int).toNat true):=⟨_,rfl⟩
       replace H:(regletref13_join.l0 k1 y368 l1 false (wrap64 (x6_1+1)))=some (r1,r2):=by first|(rw [hy368];with_reducible exact H)|(have H2_:=(Option.bind_some _ _).symm.trans H;rw [hy368];with_reducible exact H2_)|(have H2_:=(Option.bind_some _ _).symm.trans H;with_reducible exact H2_)|with_reducible exact H|(rw [hy368];exact H)|exact H
       have Ny368:=aM hy368
       clear hy368
       have H':=aM H
       clear H
       obtain⟨Ao34,co34,eo34⟩:=Kd.R_slice HO_0.out
       subst eo34
       have p361:0≤(x6_1:Int):=of_decide_eq_true (by first|(with_reducible assumption)|assumption)
       have q361:x6_1<(l1.length:Int):=of_decide_eq_true (by first|(with_reducible assumption)|assumption)
       obtain⟨ad361,e361,hx361_0⟩:=Kd.at_bool (Kd.C_kept_now HR1.out HK.out) x6_1 p361 q361
       (try rw [←Nbq19.out] at hx361_0)
       (try rw [←Nbq31.out] at hx361_0)
       cases e361
       replace p361:=eq_true p361
       replace q361:=eq_true q361
       have p367:0≤(x6_1:Int):=of_decide_eq_true (by first|(with_reducible assumption)|assumption)
       have q367:x6_1<(x0_1.length:Int):=of_decide_eq_true (by first|(with_reducible assumption)|assumption)
       obtain⟨ad367,e367,hx367_0⟩:=Kd.at_bool (aF HO_0.out).2.2 x6_1 p367 q367
       (try rw [←Nbq19.out] at hx367_0)
       (try rw [←Nbq31.out] at hx367_0)
       cases e367
       replace p367:=eq_true p367
       replace q367:=eq_true q367
       have p33:0≤(x6_1:Int):=of_decide_eq_true (by first|(with_reducible assumption)|assumption)
       have q33:(x6_1:Int)<((x0_1.length:Int):Int):=of_decide_eq_true (by first|(with_reducible assumption)|assumption)
       obtain⟨go33,co33,eo33,gb33,gl33,cl33,HG33⟩:=Kd.R_form HO_0.out (by omega)
       (first|cases eo33|(injection eo33 with ea_ en_ ec_;(first|subst ea_|(injection ea_ with ea_;subst ea_));subst ec_;clear en_))
       have GB33:=aM gb33
       have GG33:=aM HG33
       clear gb33 gl33 HG33
       have HMgo33:=aM (show(P0_ go33∨w.heap.size≤go33) from(HO_0.out.1 _ rfl))
       (first|simp only [add_plain] at hx367_0|skip)
       obtain⟨hx33_0,hf33_0⟩:=Kd.R_celln false HO_0.out (x6_1:Int) p33 q33
       replace p33:=eq_true p33
       replace q33:=eq_true q33
       have HP35:=Kd.R_putg HO_0.out (x6_1:Int) true
       go_wp2_with (first|((with_reducible refine gate_store (t:=4) (p:=39) rfl ?_);refine store_event (t:=4) (p:=39) (v:=?vo_w36) (w1:=(wr.setCell ⟨go33,(x6_1:Int).toNat,none⟩ (.bool true))) ?hg ?ho ?hn ?hr ?_;(case ho=>rfl);(case hg=>rfl);(case hn=>rfl);(case hr=>first|(go_simp;done)|(go_simp;rfl));intro w36 hw;have hg:wr.grownBy w36 (some go33):=(by rw [hw];exact HP35.2);have hp_:Kd.R Kd.bool 4 w36 w0.heap.size (fun k_=>(P0_ k_∨w.heap.size≤k_)) (.slice (some ⟨go33,0,none⟩) x0_1.length co34) y368:=(by rw [hw,Ny368.out];exact HP35.1);clear HP35;have n0_:=aM (hp_);have n1_:=aM ((by rw [hw];exact aL (HB.out) GB33.out:Below w0.heap.size w0 w36));have n2_:=aM (Kept.of_grown (S:=(fun k_=>P0_ k_)) hg (by repeat(first|(with_reducible first|exact HK.out|apply Kept.alloc|apply Kept.drewN|apply Kept.drew)|exact HK.out)) (fun k_ e_=>(HO_0.out.1 k_ e_)));clear HO_0;clear HB;clear HK;have HO_0:=n0_;have HB:=n1_;have HK:=n2_;clear n0_ n1_ n2_;clear hg hw hp_))
       go_roundg k1
       case measure=>have:=HK1.out;omega
       case rel=>exact⟨(y368),(false),(wrap64 (x6_1+1)),(by first|rfl|(simp;done)|(simp [*];done)),(by first|rfl|(simp;done)|(simp [*];done)),H',⟨by have:=HK1.out;omega⟩,⟨by(with_reducible repeat(first|apply aA|apply aB|apply aC));exact HO_0.out⟩,⟨by repeat(first|(with_reducible first|exact HK.out|apply Kept.alloc|apply Kept.drewN|apply Kept.drew)|exact HK.out)⟩,⟨by repeat(first|(with_reducible first|exact HB.out|apply aN|apply aP|apply aO)|exact HB.out)⟩⟩
      ·replace c32:=Bool.eq_false_iff.mpr c32
       subst c32
       have H1:(regletref13_join.l0 k1 (x0_1.set (x6_1:Int).toNat (false)) l1 false (wrap64 (x6_1+1)))=some (r1,r2):=by rw [if_neg (show ¬(false=true) by decide)] at H;exact H
       clear H
       have H:=H1
       clear H1
       obtain⟨y370,hy370⟩:∃y_:List Bool,y_=(x0_1.set (x6_1:Int).toNat (false)):=⟨_,rfl⟩
       replace H:(regletref13_join.l0 k1 y370 l1 false (wrap64 (x6_1+1)))=some (r1,r2):=by first|(rw [hy370];with_reducible exact H)|(have H2_:=(Option.bind_some _ _).symm.trans H;rw [hy370];with_reducible exact H2_)|(have H2_:=(Option.bind_some _ _).symm.trans H;with_reducible exact H2_)|with_reducible exact H|(rw [hy370];exact H)|exact H
       have Ny370:=aM hy370
       clear hy370
       have H':=aM H
       clear H
       obtain⟨Ao38,co38,eo38⟩:=Kd.R_slice HO_0.out
       subst eo38
       have p361:0≤(x6_1:Int):=of_decide_eq_true (by first|(with_reducible assumption)|assumption)
       have q361:x6_1<(l1.length:Int):=of_decide_eq_true (by first|(with_reducible assumption)|assumption)
       obtain⟨ad361,e361,hx361_0⟩:=Kd.at_bool (Kd.C_kept_now HR1.out HK.out) x6_1 p361 q361
       (try rw [←Nbq19.out] at hx361_0)
       (try rw [←Nbq31.out] at hx361_0)
       cases e361
       replace p361:=eq_true p361
       replace q361:=eq_true q361
       have p367:0≤(x6_1:Int):=of_decide_eq_true (by first|(with_reducible assumption)|assumption)
       have q367:x6_1<(x0_1.length:Int):=of_decide_eq_true (by first|(with_reducible assumption)|assumption)
       obtain⟨ad367,e367,hx367_0⟩:=Kd.at_bool (aF HO_0.out).2.2 x6_1 p367 q367
       (try rw [←Nbq19.out] at hx367_0)
       (try rw [←Nbq31.out] at hx367_0)
       cases e367
       replace p367:=eq_true p367
       replace q367:=eq_true q367
       have p369:0≤(x6_1:Int):=of_decide_eq_true (by first|(with_reducible assumption)|assumption)
       have q369:x6_1<(l1.length:Int):=of_decide_eq_true (by first|(with_reducible assumption)|assumption)
       obtain⟨ad369,e369,hx369_0⟩:=Kd.at_bool (Kd.C_kept_now HR1.out HK.out) x6_1 p369 q369
       (try rw [←Nbq19.out] at hx369_0)
       (try rw [←Nbq31.out] at hx369_0)
       obtain rfl:ad361=ad369:=(by injection e369)
       replace p369:=eq_true p369
       replace q369:=eq_true q369
       have p37:0≤(x6_1:Int):=of_decide_eq_true (by first|(with_reducible assumption)|assumption)
       have q37:(x6_1:Int)<((x0_1.length:Int):Int):=of_decide_eq_true (by first|(with_reducible assumption)|assumption)
       obtain⟨go37,co37,eo37,gb37,gl37,cl37,HG37⟩:=Kd.R_form HO_0.out (by omega)
       (first|cases eo37|(injection eo37 with ea_ en_ ec_;(first|subst ea_|(injection ea_ with ea_;subst ea_));subst ec_;clear en_))
       have GB37:=aM gb37
       have GG37:=aM HG37
       clear gb37 gl37 HG37
       have HMgo37:=aM (show(P0_ go37∨w.heap.size≤go37) from(HO_0.out.1 _ rfl))
       (first|simp only [add_plain] at hx367_0|skip)
       obtain⟨hx37_0,hf37_0⟩:=Kd.R_celln false HO_0.out (x6_1:Int) p37 q37
       replace p37:=eq_true p37
       replace q37:=eq_true q37
       have HP39:=Kd.R_putg HO_0.out (x6_1:Int) false
       go_wp2_with (first|((with_reducible refine gate_store (t:=4) (p:=39) rfl ?_);refine store_event (t:=4) (p:=39) (v:=?vo_w40) (w1:=(wr.setCell ⟨go37,(x6_1:Int).toNat,none⟩ (.bool false))) ?hg ?ho ?hn ?hr ?_;(case ho=>rfl);(case hg=>rfl);(case hn=>rfl);(case hr=>first|(go_simp;done)|(go_simp;rfl));intro w40 hw;have hg:wr.grownBy w40 (some go37):=(by rw [hw];exact HP39.2);have hp_:Kd.R Kd.bool 4 w40 w0.heap.size (fun k_=>(P0_ k_∨w.heap.size≤k_)) (.slice (some ⟨go37,0,none⟩) x0_1.length co38) y370:=(by rw [hw,Ny370.out];exact HP39.1);clear HP39;have n0_:=aM (hp_);have n1_:=aM ((by rw [hw];exact aL (HB.out) GB37.out:Below w0.heap.size w0 w40));have n2_:=aM (Kept.of_grown (S:=(fun k_=>P0_ k_)) hg (by repeat(first|(with_reducible first|exact HK.out|apply Kept.alloc|apply Kept.drewN|apply Kept.drew)|exact HK.out)) (fun k_ e_=>(HO_0.out.1 k_ e_)));clear HO_0;clear HB;clear HK;have HO_0:=n0_;have HB:=n1_;have HK:=n2_;clear n0_ n1_ n2_;clear hg hw hp_))
       go_roundg k1
       case measure=>have:=HK1.out;omega
       case rel=>exact⟨(y370),(false),(wrap64 (x6_1+1)),(by first|rfl|(simp;done)|(simp [*];done)),(by first|rfl|(simp;done)|(simp [*];done)),H',⟨by have:=HK1.out;omega⟩,⟨by(with_reducible repeat(first|apply aA|apply aB|apply aC));exact HO_0.out⟩,⟨by repeat(first|(with_reducible first|exact HK.out|apply Kept.alloc|apply Kept.drewN|apply Kept.drew)|exact HK.out)⟩,⟨by repeat(first|(with_reducible first|exact HB.out|apply aN|apply aP|apply aO)|exact HB.out)⟩⟩
   ·rw [if_neg c3] at H
    have c3b0:decide (x6_1<(x0_1.length:Int))=false:=decide_eq_false c3
    clear c3
    simp only [Option.some.injEq,Prod.mk.injEq] at H
    obtain⟨rfl,rfl⟩:=H
    obtain⟨Ao41,co41,eo41⟩:=Kd.R_slice HO_0.out
    subst eo41
    go_wp2
    go_ret
    exact⟨by first|rfl|(simp [errW_none,errW_some]<;>rfl)|(simp [*,errW_none,errW_some]<;>rfl),by(with_reducible repeat(first|apply aA|apply aB|apply aC));exact HO_0.out,by repeat(first|(with_reducible first|exact HB.out|apply aN|apply aP|apply aO)|exact HB.out),by repeat(first|(with_reducible first|exact HK.out|apply Kept.alloc|apply Kept.drewN|apply Kept.drew)|exact HK.out)⟩
def regletref13_begins.l0:Nat→List (S43)→List (List Bool)→List Bool→List Bool→Int→Option (List Bool×Bool)
 |0,_,_,_,_,_=>none
 |k+1,x1,x2,x3,x10,x11=>if x11<(x1.length:Int) then(if 0≤x11 then(if(rd_T43 x1 x11).f0=true then(if 0≤((rd_T43 x1 x11).f1) then(if((rd_T43 x1 x11).f1)<(x10.length:Int) then(some ((x10.set (((rd_T43 x1 x11).f1):Int).toNat true),false)) else(none)) else(none)) else(if 0≤((rd_T43 x1 x11).f1) then(if((rd_T43 x1 x11).f1)<(x2.length:Int) then((regletref13_join.f k x10 (rd_L17 x2 ((rd_T43 x1 x11).f1))).bind fun bt380=>(if((rd_T43 x1 x11).f1)<(x3.length:Int) then(if(rdOf false x3 ((rd_T43 x1 x11).f1)=true) then(regletref13_begins.l0 k x1 x2 x3 bt380.2 (wrap64 (x11+1))) else(some (bt380.2,false))) else(none))) else(none)) else(none))) else(none)) else(some (x10,true))
def regletref13_begins.f (k:Nat) (l0_0:List ByteArray) (l0_1:List (S72)) (a0_2:Int) (a0_3:Int) (l0_4:List (S35)) (l1:List (S43)) (l2:List (List Bool)) (l3:List Bool):Option (List Bool×Bool):=if 0≤(wrap64 ((l0_1.length:Int)+1)) then(if(wrap64 ((l0_1.length:Int)+1):Int).toNat≤281474976710656 then(regletref13_begins.l0 k l1 l2 l3 (List.replicate (wrap64 ((l0_1.length:Int)+1):Int).toNat false) 0) else(none)) else(none)
set_option maxHeartbeats 8000000 in
set_option maxRecDepth 100000 in
theorem regletref13_begins.calls (k:Nat) (A0_0:Option Addr) (c0_0:Nat) (l0_0:List ByteArray) (A0_1:Option Addr) (c0_1:Nat) (l0_1:List (S72)) (a0_2:Int) (a0_3:Int) (A0_4:Option Addr) (c0_4:Nat) (l0_4:List (S35)) (A1:Option Addr) (c1:Nat) (l1:List (S43)) (A2:Option Addr) (c2:Nat) (l2:List (List Bool)) (A3:Option Addr) (c3:Nat) (l3:List Bool) (r1:List Bool) (r2:Bool) (w:World) (hr0_0:Kd.C Kd.string w A0_0 l0_0.length l0_0) (hc0_0:l0_0.length≤c0_0) (hr0_1:Kd.C k72 w A0_1 l0_1.length l0_1) (hc0_1:l0_1.length≤c0_1) (hr0_4:Kd.C k35 w A0_4 l0_4.length l0_4) (hc0_4:l0_4.length≤c0_4) (hr1:Kd.C k43 w A1 l1.length l1) (hc1:l1.length≤c1) (hr2:Kd.C (Kd.slice 4 Kd.bool) w A2 l2.length l2) (hc2:l2.length≤c2) (hr3:Kd.C Kd.bool w A3 l3.length l3) (hc3:l3.length≤c3) (h:regletref13_begins.f k l0_0 l0_1 a0_2 a0_3 l0_4 l1 l2 l3=some (r1,r2)):
 Calls Try.prog 46 #[.agg #[.slice A0_0 l0_0.length c0_0,.slice A0_1 l0_1.length c0_1,.int .i64 a0_2,.int .i64 a0_3,.slice A0_4 l0_4.length c0_4],.slice A1 l1.length c1,.slice A2 l2.length c2,.slice A3 l3.length c3] w fun e w'=>∃v0_:Value,e= .returned (.tuple #[v0_,.bool r2])∧Kd.R Kd.bool 4 w' w.heap.size (fun _=>True) v0_ r1∧Below w.heap.size w w':=by
 have hu26:=Try.underlying26
 have HR0_0:=aM hr0_0
 have HC0_0:=aM hc0_0
 clear hr0_0 hc0_0
 have HR0_1:=aM hr0_1
 have HC0_1:=aM hc0_1
 clear hr0_1 hc0_1
 have HR0_4:=aM hr0_4
 have HC0_4:=aM hc0_4
 clear hr0_4 hc0_4
 have HR1:=aM hr1
 have HC1:=aM hc1
 clear hr1 hc1
 have HR2:=aM hr2
 have HC2:=aM hc2
 clear hr2 hc2
 have HR3:=aM hr3
 have HC3:=aM hc3
 clear hr3 hc3
 have HB:=aM (Below.refl w.heap.size w)
 have H:(if 0≤(wrap64 ((l0_1.length:Int)+1)) then(if(wrap64 ((l0_1.length:Int)+1):Int).toNat≤281474976710656 then(regletref13_begins.l0 k l1 l2 l3 (List.replicate (wrap64 ((l0_1.length:Int)+1):Int).toNat false) 0) else(none)) else(none))=some (r1,r2):=h
 clear h
 obtain⟨ji5,hji5⟩:∃j_:Int,(wrap64 ((l0_1.length:Int)+1))=j_:=⟨_,rfl⟩
 replace H:(if 0≤(ji5) then(if(ji5:Int).toNat≤281474976710656 then(regletref13_begins.l0 k l1 l2 l3 (List.replicate (ji5:Int).toNat false) 0) else(none)) else(none))=some (r1,r2):=by first|(rw [hji5] at H;exact H)|(simp only [hji5] at H ⊢;exact H)
 have hji5w:(IntKind.i64.wrap ((l0_1.length:Int)+1))=ji5:=(i64_w _).trans hji5
 by_cases c6:0≤(ji5)
 rotate_left
 ·rw [if_neg c6] at H
  exact absurd H (by simp)
 rw [if_pos c6] at H
 have c6b0:=eq_true c6
 have c6b1:decide (0≤(ji5))=true:=decide_eq_true c6
 clear c6
 by_cases c7:(ji5:Int).toNat≤281474976710656
 rotate_left
 ·rw [if_neg c7] at H
  exact absurd H (by simp)
 rw [if_pos c7] at H
 have c7b0:=eq_true c7
 have c7b1:decide ((ji5:Int).toNat≤281474976710656)=true:=decide_eq_true c7
 clear c7
 obtain⟨y372,hy372⟩:∃y_:List Bool,y_=(List.replicate (ji5:Int).toNat false):=⟨_,rfl⟩
 replace H:(regletref13_begins.l0 k l1 l2 l3 y372 0)=some (r1,r2):=by first|(rw [hy372];with_reducible exact H)|(have H2_:=(Option.bind_some _ _).symm.trans H;rw [hy372];with_reducible exact H2_)|(have H2_:=(Option.bind_some _ _).symm.trans H;with_reducible exact H2_)|with_reducible exact H|(rw [hy372];exact H)|exact H
 have Ny372:=aM hy372
 clear hy372
 have H':=aM H
 clear H
 go_enter Try.func46,Try.ntmps46
 go_wp2_with (first|((with_reducible refine bJ (N:=4) rfl ?_);refine box_event ?hg (N:=4) ?hd (cs:=#[.slice A0_0 l0_0.length c0_0,.slice A0_1 l0_1.length c0_1,.int .i64 a0_2,.int .i64 a0_3,.slice A0_4 l0_4.length c0_4]) (t:=26) ?hr ?_;(case hd=>rfl);(case hg=>rfl);(case hr=>first|(go_simp;done)|(go_simp;rfl));intro gb371 hg w8 hbox hb;have n0_:=aM (bG (by repeat(first|(with_reducible first|exact HB.out|apply aN|apply aP|apply aO)|exact HB.out)) hb);have n1_:=aM (hbox);have n2_:=aM ((by rw [hg];exact(bH (by repeat(first|(with_reducible first|exact HB.out|apply aN|apply aP|apply aO)|exact HB.out))):w.heap.size≤gb371));have n3_:=aM ((by rw [hg];exact(bH (by repeat(first|(with_reducible first|exact HB.out|apply aN|apply aP|apply aO)|exact HB.out))):w.heap.size≤gb371));clear HB;have HB:=n0_;have BK371:=n1_;have GW371:=n2_;have GE371:=n3_;clear n0_ n1_ n2_ n3_;clear hb hbox hg;have hcz9_0:w8.cell? ⟨gb371,0,none⟩=some (.slice A0_0 l0_0.length c0_0):=(aG BK371.out 0).trans rfl;have hcz9_1:w8.cell? ⟨gb371,1,none⟩=some (.slice A0_1 l0_1.length c0_1):=(aG BK371.out 1).trans rfl;have hcz9_2:w8.cell? ⟨gb371,2,none⟩=some (.int .i64 a0_2):=(aG BK371.out 2).trans rfl;have hcz9_3:w8.cell? ⟨gb371,3,none⟩=some (.int .i64 a0_3):=(aG BK371.out 3).trans rfl;have hcz9_4:w8.cell? ⟨gb371,4,none⟩=some (.slice A0_4 l0_4.length c0_4):=(aG BK371.out 4).trans rfl;have hfz9_0:=aH BK371.out 0;have hfz9_1:=aH BK371.out 1;have hfz9_2:=aH BK371.out 2;have hfz9_3:=aH BK371.out 3;have hfz9_4:=aH BK371.out 4)|((with_reducible refine bJ (N:=16) rfl ?_);refine Kd.R_make Kd.bool _ 4 rfl (N:=16) rfl 90 _ _ rfl ji5 rfl rfl Try.underlying90 (.bool false) 1 info4 rfl (by decide) (by omega) false (ok:=fun _=>True) (okp:=fun _=>True) rfl (fun _ hk=>hk) trivial (of_decide_eq_true (by first|(with_reducible assumption)|assumption)) (Nat.le_trans (Nat.mul_le_mul_right _ (of_decide_eq_true (by first|(with_reducible assumption)|assumption):ji5.toNat≤281474976710656)) (by omega)) (Below.refl _ _) (Nat.le_refl _) ?_;intro v373 w10 ho11 hb hg_ hnew_;clear hg_ hnew_;(first|rw [←Ny372.out] at ho11|(simp only [Int.reduceToNat] at ho11;rw [←Ny372.out] at ho11));have n0_:=aM (bL ho11 (bH (by repeat(first|(with_reducible first|exact HB.out|apply aN|apply aP|apply aO|refine aL ?_ GE371.out)|exact HB.out))));have n1_:=aM (bF (g:=gb371) (o:= .cells #[.slice A0_0 l0_0.length c0_0,.slice A0_1 l0_1.length c0_1,.int .i64 a0_2,.int .i64 a0_3,.slice A0_4 l0_4.length c0_4] 26 (0,0)) (by(with_reducible repeat(first|refine aJ ?_ _|refine aK ?_|refine aI ?_ _));exact BK371.out) hb);have n2_:=aM (bG (by repeat(first|(with_reducible first|exact HB.out|apply aN|apply aP|apply aO|refine aL ?_ GE371.out)|exact HB.out)) hb);clear BK371;clear HB;have HO374:=n0_;have BK371:=n1_;have HB:=n2_;clear n0_ n1_ n2_;clear hb ho11))
 go_loopg [11] k (fun kq v11 w'=>∃(x10_1:List Bool) (x11_1:Int),v11= .int .i64 x11_1∧Aside0 (regletref13_begins.l0 kq l1 l2 l3 x10_1 x11_1=some (r1,r2))∧Aside0 (kq≤k)∧Aside0 (Kd.R Kd.bool 4 w' w.heap.size (fun _=>True) v373 x10_1)∧Aside0 (w'.heap[gb371]?=some (.cells #[(.slice A0_0 l0_0.length c0_0),(.slice A0_1 l0_1.length c0_1),.int .i64 a0_2,.int .i64 a0_3,(.slice A0_4 l0_4.length c0_4)] 26 (0,0)))∧Aside0 (Below w.heap.size w w'))
 case atStart=>exact⟨(y372),(0),(by first|rfl|(simp;done)|(simp [*];done)),H',⟨Nat.le_refl _⟩,⟨by(with_reducible repeat(first|apply aA|apply aB|apply aC));exact HO374.out⟩,⟨by(with_reducible repeat(first|refine aJ ?_ _|refine aK ?_|refine aI ?_ _));exact BK371.out⟩,⟨by repeat(first|(with_reducible first|exact HB.out|apply aN|apply aP|apply aO|refine aL ?_ GE371.out)|exact HB.out)⟩⟩
 case round=>
  clear H'
  (try clear c1);(try clear c2);(try clear p2);(try clear c3);(try clear c4);(try clear c6);(try clear c6b0);(try clear c6b1);(try clear p6);(try clear c7);(try clear c7b0);(try clear c7b1);(try clear hcz9_0);(try clear hcz9_1);(try clear hcz9_2);(try clear hcz9_3);(try clear hcz9_4);(try clear hfz9_0);(try clear hfz9_1);(try clear hfz9_2);(try clear hfz9_3);(try clear hfz9_4)
  obtain⟨x10_1,x11_1,rfl,HA,HK1,HO_10,BK371,HB⟩:=hrel
  cases gk with
  |zero=>exact absurd HA.out (by simp [regletref13_begins.l0])
  |succ k1=>
   have H:=HA.out
   clear HA
   simp only [regletref13_begins.l0] at H
   by_cases c12:x11_1<(l1.length:Int)
   ·rw [if_pos c12] at H
    have c12b0:decide (x11_1<(l1.length:Int))=true:=decide_eq_true c12
    clear c12
    by_cases c13:0≤x11_1
    rotate_left
    ·rw [if_neg c13] at H
     exact absurd H (by simp)
    rw [if_pos c13] at H
    have c13b0:decide (0≤x11_1)=true:=decide_eq_true c13
    clear c13
    obtain⟨bq14,hbq14⟩:∃b_:Bool,b_=((rd_T43 l1 x11_1).f0):=⟨_,rfl⟩
    replace H:(if bq14=true then(if 0≤((rd_T43 l1 x11_1).f1) then(if((rd_T43 l1 x11_1).f1)<(x10_1.length:Int) then(some ((x10_1.set (((rd_T43 l1 x11_1).f1):Int).toNat true),false)) else(none)) else(none)) else(if 0≤((rd_T43 l1 x11_1).f1) then(if((rd_T43 l1 x11_1).f1)<(l2.length:Int) then((regletref13_join.f k1 x10_1 (rd_L17 l2 ((rd_T43 l1 x11_1).f1))).bind fun bt380=>(if((rd_T43 l1 x11_1).f1)<(l3.length:Int) then(if(rdOf false l3 ((rd_T43 l1 x11_1).f1)=true) then(regletref13_begins.l0 k1 l1 l2 l3 bt380.2 (wrap64 (x11_1+1))) else(some (bt380.2,false))) else(none))) else(none)) else(none)))=some (r1,r2):=by rw [←hbq14] at H;exact H
    have Nbq14:=aM hbq14
    clear hbq14
    by_cases c15:bq14=true
    ·subst c15
     have H1:(if 0≤((rd_T43 l1 x11_1).f1) then(if((rd_T43 l1 x11_1).f1)<(x10_1.length:Int) then(some ((x10_1.set (((rd_T43 l1 x11_1).f1):Int).toNat true),false)) else(none)) else(none))=some (r1,r2):=by rw [if_pos rfl] at H;exact H
     clear H
     have H:=H1
     clear H1
     by_cases c16:0≤((rd_T43 l1 x11_1).f1)
     rotate_left
     ·rw [if_neg c16] at H
      exact absurd H (by simp)
     rw [if_pos c16] at H
     have c16b0:decide (0≤((rd_T43 l1 x11_1).f1))=true:=decide_eq_true c16
     clear c16
     by_cases c17:((rd_T43 l1 x11_1).f1)<(x10_1.length:Int)
     rotate_left
     ·rw [if_neg c17] at H
      exact absurd H (by simp)
     rw [if_pos c17] at H
     have c17b0:decide (((rd_T43 l1 x11_1).f1)<(x10_1.length:Int))=true:=decide_eq_true c17
     clear c17
     obtain⟨y377,hy377⟩:∃y_:List Bool,y_=(x10_1.set (((rd_T43 l1 x11_1).f1):Int).toNat true):=⟨_,rfl⟩
     replace H:(some (y377,false))=some (r1,r2):=by first|(rw [hy377];with_reducible exact H)|(have H2_:=(Option.bind_some _ _).symm.trans H;rw [hy377];with_reducible exact H2_)|(have H2_:=(Option.bind_some _ _).symm.trans H;with_reducible exact H2_)|with_reducible exact H|(rw [hy377];exact H)|exact H
     have Ny377:=aM hy377
     clear hy377
     simp only [Option.some.injEq,Prod.mk.injEq] at H
     obtain⟨rfl,rfl⟩:=H
     have p375:0≤(x11_1:Int):=of_decide_eq_true (by first|(with_reducible assumption)|assumption)
     have q375:x11_1<(l1.length:Int):=of_decide_eq_true (by first|(with_reducible assumption)|assumption)
     obtain⟨ad375,e375,hx375_0,hx375_1⟩:=at_T43 HR1.out x11_1 p375 q375
     (try rw [←Nbq14.out] at hx375_0)
     cases e375
     replace hx375_0:=(HB.out.cell (World.block_lt_of_cell? w _ hx375_0)).trans hx375_0
     replace hx375_1:=(HB.out.cell (World.block_lt_of_cell? w _ hx375_1)).trans hx375_1
     replace p375:=eq_true p375
     replace q375:=eq_true q375
     have p376:0≤(x11_1:Int):=of_decide_eq_true (by first|(with_reducible assumption)|assumption)
     have q376:x11_1<(l1.length:Int):=of_decide_eq_true (by first|(with_reducible assumption)|assumption)
     obtain⟨ad376,e376,hx376_0,hx376_1⟩:=at_T43 HR1.out x11_1 p376 q376
     (try rw [←Nbq14.out] at hx376_0)
     obtain rfl:ad375=ad376:=(by injection e376)
     replace hx376_0:=(HB.out.cell (World.block_lt_of_cell? w _ hx376_0)).trans hx376_0
     replace hx376_1:=(HB.out.cell (World.block_lt_of_cell? w _ hx376_1)).trans hx376_1
     replace p376:=eq_true p376
     replace q376:=eq_true q376
     have p18:0≤(((rd_T43 l1 x11_1).f1):Int):=of_decide_eq_true (by first|(with_reducible assumption)|assumption)
     have q18:(((rd_T43 l1 x11_1).f1):Int)<((x10_1.length:Int):Int):=of_decide_eq_true (by first|(with_reducible assumption)|assumption)
     obtain⟨go18,co18,eo18,gb18,gl18,cl18,HG18⟩:=Kd.R_form HO_10.out (by omega)
     (first|cases eo18|(injection eo18 with ea_ en_ ec_;(first|subst ea_|(injection ea_ with ea_;subst ea_));subst ec_;clear en_))
     have GB18:=aM gb18
     have GG18:=aM HG18
     clear gb18 gl18 HG18
     obtain⟨hx18_0,hf18_0⟩:=Kd.R_celln false HO_10.out (((rd_T43 l1 x11_1).f1):Int) p18 q18
     replace p18:=eq_true p18
     replace q18:=eq_true q18
     have HP19:=Kd.R_putg HO_10.out (((rd_T43 l1 x11_1).f1):Int) true
     go_wp2_with (first|((with_reducible refine gate_store (t:=4) (p:=34) rfl ?_);refine store_event (t:=4) (p:=34) (v:=?vo_w20) (w1:=(wr.setCell ⟨go18,(((rd_T43 l1 x11_1).f1):Int).toNat,none⟩ (.bool true))) ?hg ?ho ?hn ?hr ?_;(case ho=>rfl);(case hg=>rfl);(case hn=>rfl);(case hr=>first|(go_simp;done)|(go_simp;rfl));intro w20 hw;have hg:wr.grownBy w20 (some go18):=(by rw [hw];exact HP19.2);have hp_:Kd.R Kd.bool 4 w20 w.heap.size (fun _=>True) (.slice (some ⟨go18,0,none⟩) x10_1.length co18) y377:=(by rw [hw,Ny377.out];exact HP19.1);clear HP19;have n0_:=aM (hp_);have n1_:=aM (blk_grown (g:=gb371) (o:= .cells #[.slice A0_0 l0_0.length c0_0,.slice A0_1 l0_1.length c0_1,.int .i64 a0_2,.int .i64 a0_3,.slice A0_4 l0_4.length c0_4] 26 (0,0)) (by(with_reducible repeat(first|refine aJ ?_ _|refine aK ?_|refine aI ?_ _));exact BK371.out) hg (Kd.R_ne HO_10.out BK371.out (by decide)));have n2_:=aM ((by rw [hw];exact aL (HB.out) GB18.out:Below w.heap.size w w20));clear HO_10;clear BK371;clear HB;have HO_10:=n0_;have BK371:=n1_;have HB:=n2_;clear n0_ n1_ n2_;clear hg hw hp_))
     go_ret2
     exact⟨_,by first|rfl|(simp [errW_none,errW_some]<;>rfl)|(simp only [←hji5];first|rfl|(simp [errW_none,errW_some]<;>rfl))|(simp [*,errW_none,errW_some]<;>rfl),by(with_reducible repeat(first|apply aA|apply aB|apply aC));exact HO_10.out,by repeat(first|(with_reducible first|exact HB.out|apply aN|apply aP|apply aO|refine aL ?_ GE371.out)|exact HB.out)⟩
    ·replace c15:=Bool.eq_false_iff.mpr c15
     subst c15
     have H1:(if 0≤((rd_T43 l1 x11_1).f1) then(if((rd_T43 l1 x11_1).f1)<(l2.length:Int) then((regletref13_join.f k1 x10_1 (rd_L17 l2 ((rd_T43 l1 x11_1).f1))).bind fun bt380=>(if((rd_T43 l1 x11_1).f1)<(l3.length:Int) then(if(rdOf false l3 ((rd_T43 l1 x11_1).f1)=true) then(regletref13_begins.l0 k1 l1 l2 l3 bt380.2 (wrap64 (x11_1+1))) else(some (bt380.2,false))) else(none))) else(none)) else(none))=some (r1,r2):=by rw [if_neg (show ¬(false=true) by decide)] at H;exact H
     clear H
     have H:=H1
     clear H1
     by_cases c21:0≤((rd_T43 l1 x11_1).f1)
     rotate_left
     ·rw [if_neg c21] at H
      exact absurd H (by simp)
     rw [if_pos c21] at H
     have c21b0:decide (0≤((rd_T43 l1 x11_1).f1))=true:=decide_eq_true c21
     clear c21
     by_cases c22:((rd_T43 l1 x11_1).f1)<(l2.length:Int)
     rotate_left
     ·rw [if_neg c22] at H
      exact absurd H (by simp)
     rw [if_pos c22] at H
     have c22b0:decide (((rd_T43 l1 x11_1).f1)<(l2.length:Int))=true:=decide_eq_true c22
     clear c22
     replace H:=Option.bind_eq_some_iff.mp H
     obtain⟨⟨t380,t381⟩,A230,H⟩:=H
     replace H:(if((rd_T43 l1 x11_1).f1)<(l3.length:Int) then(if(rdOf false l3 ((rd_T43 l1 x11_1).f1)=true) then(regletref13_begins.l0 k1 l1 l2 l3 t381 (wrap64 (x11_1+1))) else(some (t381,false))) else(none))=some (r1,r2):=H
     have A23:=aM A230
     clear A230
     by_cases c24:((rd_T43 l1 x11_1).f1)<(l3.length:Int)
     rotate_left
     ·rw [if_neg c24] at H
      exact absurd H (by simp)
     rw [if_pos c24] at H
     have c24b0:decide (((rd_T43 l1 x11_1).f1)<(l3.length:Int))=true:=decide_eq_true c24
     clear c24
     obtain⟨bq25,hbq25⟩:∃b_:Bool,b_=(rdOf false l3 ((rd_T43 l1 x11_1).f1)):=⟨_,rfl⟩
     replace H:(if(bq25=true) then(regletref13_begins.l0 k1 l1 l2 l3 t381 (wrap64 (x11_1+1))) else(some (t381,false)))=some (r1,r2):=by rw [←hbq25] at H;exact H
     have Nbq25:=aM hbq25
     clear hbq25
     by_cases c26:(bq25=true)
     ·subst c26
      have H1:(regletref13_begins.l0 k1 l1 l2 l3 t381 (wrap64 (x11_1+1)))=some (r1,r2):=by rw [if_pos rfl] at H;exact H
      clear H
      have H:=H1
      clear H1
      have H':=aM H
      clear H
      have p375:0≤(x11_1:Int):=of_decide_eq_true (by first|(with_reducible assumption)|assumption)
      have q375:x11_1<(l1.length:Int):=of_decide_eq_true (by first|(with_reducible assumption)|assumption)
      obtain⟨ad375,e375,hx375_0,hx375_1⟩:=at_T43 HR1.out x11_1 p375 q375
      (try rw [←Nbq14.out] at hx375_0)
      (try rw [←Nbq25.out] at hx375_0)
      cases e375
      replace hx375_0:=(HB.out.cell (World.block_lt_of_cell? w _ hx375_0)).trans hx375_0
      replace hx375_1:=(HB.out.cell (World.block_lt_of_cell? w _ hx375_1)).trans hx375_1
      replace p375:=eq_true p375
      replace q375:=eq_true q375
      have p378:0≤(x11_1:Int):=of_decide_eq_true (by first|(with_reducible assumption)|assumption)
      have q378:x11_1<(l1.length:Int):=of_decide_eq_true (by first|(with_reducible assumption)|assumption)
      obtain⟨ad378,e378,hx378_0,hx378_1⟩:=at_T43 HR1.out x11_1 p378 q378
      (try rw [←Nbq14.out] at hx378_0)
      (try rw [←Nbq25.out] at hx378_0)
      obtain rfl:ad375=ad378:=(by injection e378)
      replace hx378_0:=(HB.out.cell (World.block_lt_of_cell? w _ hx378_0)).trans hx378_0
      replace hx378_1:=(HB.out.cell (World.block_lt_of_cell? w _ hx378_1)).trans hx378_1
      replace p378:=eq_true p378
      replace q378:=eq_true q378
      have p379:0≤(((rd_T43 l1 x11_1).f1):Int):=of_decide_eq_true (by first|(with_reducible assumption)|assumption)
      have q379:((rd_T43 l1 x11_1).f1)<(l2.length:Int):=of_decide_eq_true (by first|(with_reducible assumption)|assumption)
      obtain⟨ad379,A379_0,c379_0,e379,hx379_0,hl379_0,hi379_0⟩:=at_L17 HR2.out ((rd_T43 l1 x11_1).f1) p379 q379
      cases e379
      replace hx379_0:=(HB.out.cell (World.block_lt_of_cell? w _ hx379_0)).trans hx379_0
      have HR379_0:=aM hi379_0
      have HC379_0:=aM hl379_0
      clear hi379_0 hl379_0
      replace p379:=eq_true p379
      replace q379:=eq_true q379
      obtain⟨Ao27,co27,eo27⟩:=Kd.R_slice HO_10.out
      subst eo27
      go_wp2_with (first|((with_reducible refine bI (f:=47) rfl ?_);refine goesL_ (some 45) rfl rfl Try.func47 (by kernel_rfl) rfl #[.slice Ao27 x10_1.length co27,.slice A379_0 (rd_L17 l2 ((rd_T43 l1 x11_1).f1)).length c379_0] rfl (by(try simp only [List.map_toArray,List.map_cons,List.map_nil]);first|done|rfl|(simp only [List.length_drop,List.length_take];rfl)) ?_;(with_reducible refine(regletref13_join.calls k1 (fun k_=>some k_=(.slice Ao27 x10_1.length co27:Value).ownBlock) (.slice Ao27 x10_1.length co27) x10_1 _ _ (rd_L17 l2 ((rd_T43 l1 x11_1).f1)) t380 t381 w _ ?side1 ?side2 ?side3 ?side4 A23.out).mono ?_);(case side1=>repeat(first|(with_reducible first|exact HB.out|apply aN|apply aP|apply aO|refine aL ?_ GE371.out)|exact HB.out));(case side2=>exact Kd.R_tight rfl HO_10.out);(case side3=>exact Kd.C_kept_came Kd.heap_bool HR379_0.out (by repeat(first|(with_reducible first|exact HB.out|apply aN|apply aP|apply aO|refine aL ?_ GE371.out)|exact HB.out)) (fun k_ hs_=>(fun e_=>Kd.R_base HO_10.out k_ e_.symm) hs_));(case side4=>exact HC379_0.out);rintro e w28 ⟨rfl,hy0,hb,hkp⟩;refine⟨_,rfl,?_⟩;have n0_:=aM (Kd.R_reok rfl hy0 (fun k_ e_=>HO_10.out.1 k_ e_));have n1_:=aM (blk_kept (by(with_reducible repeat(first|refine aJ ?_ _|refine aK ?_|refine aI ?_ _));exact BK371.out) hkp (fun hs_=>(fun e_=>(Kd.R_ne HO_10.out BK371.out (by decide)) e_) hs_));have n2_:=aM (hb);clear HO_10;clear BK371;clear HB;have HO_10:=n0_;have BK371:=n1_;have HB:=n2_;clear n0_ n1_ n2_;(try clear hb);(try clear hkp);(try clear hy0);have p382:0≤(x11_1:Int):=of_decide_eq_true (by first|(with_reducible assumption)|assumption);have q382:x11_1<(l1.length:Int):=of_decide_eq_true (by first|(with_reducible assumption)|assumption);obtain⟨ad382,e382,hx382_0,hx382_1⟩:=at_T43 HR1.out x11_1 p382 q382;(try rw [←Nbq14.out] at hx382_0);(try rw [←Nbq25.out] at hx382_0);obtain rfl:ad375=ad382:=(by injection e382);replace hx382_0:=(HB.out.cell (World.block_lt_of_cell? w _ hx382_0)).trans hx382_0;replace hx382_1:=(HB.out.cell (World.block_lt_of_cell? w _ hx382_1)).trans hx382_1;replace p382:=eq_true p382;replace q382:=eq_true q382;have p383:0≤(((rd_T43 l1 x11_1).f1):Int):=of_decide_eq_true (by first|(with_reducible assumption)|assumption);have q383:((rd_T43 l1 x11_1).f1)<(l3.length:Int):=of_decide_eq_true (by first|(with_reducible assumption)|assumption);obtain⟨ad383,e383,hx383_0⟩:=Kd.at_bool HR3.out ((rd_T43 l1 x11_1).f1) p383 q383;(try rw [←Nbq14.out] at hx383_0);(try rw [←Nbq25.out] at hx383_0);cases e383;replace hx383_0:=(HB.out.cell (World.block_lt_of_cell? w _ hx383_0)).trans hx383_0;replace p383:=eq_true p383;replace q383:=eq_true q383))
      go_roundg k1
      case measure=>have:=HK1.out;omega
      case rel=>exact⟨(t381),(wrap64 (x11_1+1)),(by first|rfl|(simp;done)|(simp [*];done)),H',⟨by have:=HK1.out;omega⟩,⟨by(with_reducible repeat(first|apply aA|apply aB|apply aC));exact HO_10.out⟩,⟨by(with_reducible repeat(first|refine aJ ?_ _|refine aK ?_|refine aI ?_ _));exact BK371.out⟩,⟨by repeat(first|(with_reducible first|exact HB.out|apply aN|apply aP|apply aO|refine aL ?_ GE371.out)|exact HB.out)⟩⟩
     ·replace c26:=Bool.eq_false_iff.mpr c26
      subst c26
      have H1:(some (t381,false))=some (r1,r2):=by rw [if_neg (show ¬(false=true) by decide)] at H;exact H
      clear H
      have H:=H1
      clear H1
      simp only [Option.some.injEq,Prod.mk.injEq] at H
      obtain⟨rfl,rfl⟩:=H
      have p375:0≤(x11_1:Int):=of_decide_eq_true (by first|(with_reducible assumption)|assumption)
      have q375:x11_1<(l1.length:Int):=of_decide_eq_true (by first|(with_reducible assumption)|assumption)
      obtain⟨ad375,e375,hx375_0,hx375_1⟩:=at_T43 HR1.out x11_1 p375 q375
      (try rw [←Nbq14.out] at hx375_0)
      (try rw [←Nbq25.out] at hx375_0)
      cases e375
      replace hx375_0:=(HB.out.cell (World.block_lt_of_cell? w _ hx375_0)).trans hx375_0
      replace hx375_1:=(HB.out.cell (World.block_lt_of_cell? w _ hx375_1)).trans hx375_1
      replace p375:=eq_true p375
      replace q375:=eq_true q375
      have p378:0≤(x11_1:Int):=of_decide_eq_true (by first|(with_reducible assumption)|assumption)
      have q378:x11_1<(l1.length:Int):=of_decide_eq_true (by first|(with_reducible assumption)|assumption)
      obtain⟨ad378,e378,hx378_0,hx378_1⟩:=at_T43 HR1.out x11_1 p378 q378
      (try rw [←Nbq14.out] at hx378_0)
      (try rw [←Nbq25.out] at hx378_0)
      obtain rfl:ad375=ad378:=(by injection e378)
      replace hx378_0:=(HB.out.cell (World.block_lt_of_cell? w _ hx378_0)).trans hx378_0
      replace hx378_1:=(HB.out.cell (World.block_lt_of_cell? w _ hx378_1)).trans hx378_1
      replace p378:=eq_true p378
      replace q378:=eq_true q378
      have p379:0≤(((rd_T43 l1 x11_1).f1):Int):=of_decide_eq_true (by first|(with_reducible assumption)|assumption)
      have q379:((rd_T43 l1 x11_1).f1)<(l2.length:Int):=of_decide_eq_true (by first|(with_reducible assumption)|assumption)
      obtain⟨ad379,A379_0,c379_0,e379,hx379_0,hl379_0,hi379_0⟩:=at_L17 HR2.out ((rd_T43 l1 x11_1).f1) p379 q379
      cases e379
      replace hx379_0:=(HB.out.cell (World.block_lt_of_cell? w _ hx379_0)).trans hx379_0
      have HR379_0:=aM hi379_0
      have HC379_0:=aM hl379_0
      clear hi379_0 hl379_0
      replace p379:=eq_true p379
      replace q379:=eq_true q379
      obtain⟨Ao29,co29,eo29⟩:=Kd.R_slice HO_10.out
      subst eo29
      go_wp2_with (first|((with_reducible refine bI (f:=47) rfl ?_);refine goesL_ (some 45) rfl rfl Try.func47 (by kernel_rfl) rfl #[.slice Ao29 x10_1.length co29,.slice A379_0 (rd_L17 l2 ((rd_T43 l1 x11_1).f1)).length c379_0] rfl (by(try simp only [List.map_toArray,List.map_cons,List.map_nil]);first|done|rfl|(simp only [List.length_drop,List.length_take];rfl)) ?_;(with_reducible refine(regletref13_join.calls k1 (fun k_=>some k_=(.slice Ao29 x10_1.length co29:Value).ownBlock) (.slice Ao29 x10_1.length co29) x10_1 _ _ (rd_L17 l2 ((rd_T43 l1 x11_1).f1)) t380 t381 w _ ?side1 ?side2 ?side3 ?side4 A23.out).mono ?_);(case side1=>repeat(first|(with_reducible first|exact HB.out|apply aN|apply aP|apply aO|refine aL ?_ GE371.out)|exact HB.out));(case side2=>exact Kd.R_tight rfl HO_10.out);(case side3=>exact Kd.C_kept_came Kd.heap_bool HR379_0.out (by repeat(first|(with_reducible first|exact HB.out|apply aN|apply aP|apply aO|refine aL ?_ GE371.out)|exact HB.out)) (fun k_ hs_=>(fun e_=>Kd.R_base HO_10.out k_ e_.symm) hs_));(case side4=>exact HC379_0.out);rintro e w30 ⟨rfl,hy0,hb,hkp⟩;refine⟨_,rfl,?_⟩;have n0_:=aM (Kd.R_reok rfl hy0 (fun k_ e_=>HO_10.out.1 k_ e_));have n1_:=aM (blk_kept (by(with_reducible repeat(first|refine aJ ?_ _|refine aK ?_|refine aI ?_ _));exact BK371.out) hkp (fun hs_=>(fun e_=>(Kd.R_ne HO_10.out BK371.out (by decide)) e_) hs_));have n2_:=aM (hb);clear HO_10;clear BK371;clear HB;have HO_10:=n0_;have BK371:=n1_;have HB:=n2_;clear n0_ n1_ n2_;(try clear hb);(try clear hkp);(try clear hy0);have p382:0≤(x11_1:Int):=of_decide_eq_true (by first|(with_reducible assumption)|assumption);have q382:x11_1<(l1.length:Int):=of_decide_eq_true (by first|(with_reducible assumption)|assumption);obtain⟨ad382,e382,hx382_0,hx382_1⟩:=at_T43 HR1.out x11_1 p382 q382;(try rw [←Nbq14.out] at hx382_0);(try rw [←Nbq25.out] at hx382_0);obtain rfl:ad375=ad382:=(by injection e382);replace hx382_0:=(HB.out.cell (World.block_lt_of_cell? w _ hx382_0)).trans hx382_0;replace hx382_1:=(HB.out.cell (World.block_lt_of_cell? w _ hx382_1)).trans hx382_1;replace p382:=eq_true p382;replace q382:=eq_true q382;have p383:0≤(((rd_T43 l1 x11_1).f1):Int):=of_decide_eq_true (by first|(with_reducible assumption)|assumption);have q383:((rd_T43 l1 x11_1).f1)<(l3.length:Int):=of_decide_eq_true (by first|(with_reducible assumption)|assumption);obtain⟨ad383,e383,hx383_0⟩:=Kd.at_bool HR3.out ((rd_T43 l1 x11_1).f1) p383 q383;(try rw [←Nbq14.out] at hx383_0);(try rw [←Nbq25.out] at hx383_0);cases e383;replace hx383_0:=(HB.out.cell (World.block_lt_of_cell? w _ hx383_0)).trans hx383_0;replace p383:=eq_true p383;replace q383:=eq_true q383))
      go_ret2
      exact⟨_,by first|rfl|(simp [errW_none,errW_some]<;>rfl)|(simp only [←hji5];first|rfl|(simp [errW_none,errW_some]<;>rfl))|(simp [*,errW_none,errW_some]<;>rfl),by(with_reducible repeat(first|apply aA|apply aB|apply aC));exact HO_10.out,by repeat(first|(with_reducible first|exact HB.out|apply aN|apply aP|apply aO|refine aL ?_ GE371.out)|exact HB.out)⟩
   ·rw [if_neg c12] at H
    have c12b0:decide (x11_1<(l1.length:Int))=false:=decide_eq_false c12
    clear c12
    simp only [Option.some.injEq,Prod.mk.injEq] at H
    obtain⟨rfl,rfl⟩:=H
    go_wp2
    go_ret2
    exact⟨_,by first|rfl|(simp [errW_none,errW_some]<;>rfl)|(simp only [←hji5];first|rfl|(simp [errW_none,errW_some]<;>rfl))|(simp [*,errW_none,errW_some]<;>rfl),by(with_reducible repeat(first|apply aA|apply aB|apply aC));exact HO_10.out,by repeat(first|(with_reducible first|exact HB.out|apply aN|apply aP|apply aO|refine aL ?_ GE371.out)|exact HB.out)⟩
attribute [local go_sem] max2_int min2_int max_two min_two max_three min_three max_four min_four   -- for this text's walks alone
set_option linter.unusedVariables false
set_option linter.unusedSimpArgs false
mutual
def regletref13_Empty.l0:Nat→List Bool→Bool→List ByteArray→List (S72)→Int→Int→List (S35)→Option (List Bool)
 |0,_,_,_,_,_,_,_=>none
 |k+1,x3,x4,x344000,x344001,x344002,x344003,x344004=>if x4=true then(regletref13_Empty.l1 k x3 false 0 x344000 x344001 x344002 x344003 x344004) else(some x3)
def regletref13_Empty.l1:Nat→List Bool→Bool→Int→List ByteArray→List (S72)→Int→Int→List (S35)→Option (List Bool)
 |0,_,_,_,_,_,_,_,_=>none
 |k+1,x3,x4,x5,x344000,x344001,x344002,x344003,x344004=>if x5<(x344004.length:Int) then(regletref13_Empty.l2 k x3 x4 x5 true 0 x344000 x344001 x344002 x344003 x344004) else(regletref13_Empty.l0 k x3 x4 x344000 x344001 x344002 x344003 x344004)
def regletref13_Empty.l2:Nat→List Bool→Bool→Int→Bool→Int→List ByteArray→List (S72)→Int→Int→List (S35)→Option (List Bool)
 |0,_,_,_,_,_,_,_,_,_,_=>none
 |k+1,x3,x4,x5,x6,x7,x344000,x344001,x344002,x344003,x344004=>if 0≤x5 then(if x5<(x344004.length:Int) then(if x7<(((rd_T35 x344004 x5).f1).length:Int) then(if 0≤x7 then(if x6=true then(if((rd_T43 ((rd_T35 x344004 x5).f1) x7).f0=true) then(regletref13_Empty.l2 k x3 x4 x5 false (wrap64 (x7+1)) x344000 x344001 x344002 x344003 x344004) else(if 0≤((rd_T43 ((rd_T35 x344004 x5).f1) x7).f1) then(if((rd_T43 ((rd_T35 x344004 x5).f1) x7).f1)<(x3.length:Int) then(regletref13_Empty.l2 k x3 x4 x5 (rdOf false x3 ((rd_T43 ((rd_T35 x344004 x5).f1) x7).f1)) (wrap64 (x7+1)) x344000 x344001 x344002 x344003 x344004) else(none)) else(none))) else(regletref13_Empty.l2 k x3 x4 x5 false (wrap64 (x7+1)) x344000 x344001 x344002 x344003 x344004)) else(none)) else(if x6=true then(if 0≤((rd_T35 x344004 x5).f0) then(if((rd_T35 x344004 x5).f0)<(x3.length:Int) then(if(rdOf false x3 ((rd_T35 x344004 x5).f0)=true) then(regletref13_Empty.l1 k x3 x4 (wrap64 (x5+1)) x344000 x344001 x344002 x344003 x344004) else(regletref13_Empty.l1 k (x3.set (((rd_T35 x344004 x5).f0):Int).toNat true) true (wrap64 (x5+1)) x344000 x344001 x344002 x344003 x344004)) else(none)) else(none)) else(regletref13_Empty.l1 k x3 x4 (wrap64 (x5+1)) x344000 x344001 x344002 x344003 x344004))) else(none)) else(none)
end
def regletref13_Empty.f (k:Nat) (l0_0:List ByteArray) (l0_1:List (S72)) (a0_2:Int) (a0_3:Int) (l0_4:List (S35)):Option (List Bool):=(regletref13_Right.f k l0_0 l0_1 a0_2 a0_3 l0_4).bind fun t344=>(if t344=true then(if 0≤(l0_0.length:Int) then(if((l0_0.length:Int):Int).toNat≤281474976710656 then(regletref13_Empty.l0 k (List.replicate ((l0_0.length:Int):Int).toNat false) true l0_0 l0_1 a0_2 a0_3 l0_4) else(none)) else(none)) else(some ([]:List Bool)))
set_option maxHeartbeats 8000000 in
set_option maxRecDepth 100000 in
theorem regletref13_Empty.calls (k:Nat) (A0_0:Option Addr) (c0_0:Nat) (l0_0:List ByteArray) (A0_1:Option Addr) (c0_1:Nat) (l0_1:List (S72)) (a0_2:Int) (a0_3:Int) (A0_4:Option Addr) (c0_4:Nat) (l0_4:List (S35)) (r:List Bool) (w:World) (hr0_0:Kd.C Kd.string w A0_0 l0_0.length l0_0) (hc0_0:l0_0.length≤c0_0) (hr0_1:Kd.C k72 w A0_1 l0_1.length l0_1) (hc0_1:l0_1.length≤c0_1) (hr0_4:Kd.C k35 w A0_4 l0_4.length l0_4) (hc0_4:l0_4.length≤c0_4) (h:regletref13_Empty.f k l0_0 l0_1 a0_2 a0_3 l0_4=some r):
 Calls Try.prog 45 #[.agg #[.slice A0_0 l0_0.length c0_0,.slice A0_1 l0_1.length c0_1,.int .i64 a0_2,.int .i64 a0_3,.slice A0_4 l0_4.length c0_4]] w fun e w'=>∃v0_:Value,e= .returned (v0_)∧Kd.R Kd.bool 4 w' w.heap.size (fun _=>True) v0_ r∧Below w.heap.size w w':=by
 have hu26:=Try.underlying26
 have hu43:=Try.underlying43
 have HR0_0:=aM hr0_0
 have HC0_0:=aM hc0_0
 clear hr0_0 hc0_0
 have HR0_1:=aM hr0_1
 have HC0_1:=aM hc0_1
 clear hr0_1 hc0_1
 have HR0_4:=aM hr0_4
 have HC0_4:=aM hc0_4
 clear hr0_4 hc0_4
 have HB:=aM (Below.refl w.heap.size w)
 have H:((regletref13_Right.f k l0_0 l0_1 a0_2 a0_3 l0_4).bind fun t344=>(if t344=true then(if 0≤(l0_0.length:Int) then(if((l0_0.length:Int):Int).toNat≤281474976710656 then(regletref13_Empty.l0 k (List.replicate ((l0_0.length:Int):Int).toNat false) true l0_0 l0_1 a0_2 a0_3 l0_4) else(none)) else(none)) else(some ([]:List Bool))))=some r:=h
 clear h
 replace H:=Option.bind_eq_some_iff.mp H
 obtain⟨t344,A20,H⟩:=H
 replace H:(if t344=true then(if 0≤(l0_0.length:Int) then(if((l0_0.length:Int):Int).toNat≤281474976710656 then(regletref13_Empty.l0 k (List.replicate ((l0_0.length:Int):Int).toNat false) true l0_0 l0_1 a0_2 a0_3 l0_4) else(none)) else(none)) else(some ([]:List Bool)))=some r:=H
 have A2:=aM A20
 clear A20
 by_cases c3:t344=true
 ·subst c3
  have H1:(if 0≤(l0_0.length:Int) then(if((l0_0.length:Int):Int).toNat≤281474976710656 then(regletref13_Empty.l0 k (List.replicate ((l0_0.length:Int):Int).toNat false) true l0_0 l0_1 a0_2 a0_3 l0_4) else(none)) else(none))=some r:=by rw [if_pos rfl] at H;exact H
  clear H
  have H:=H1
  clear H1
  by_cases c4:0≤(l0_0.length:Int)
  rotate_left
  ·rw [if_neg c4] at H
   exact absurd H (by simp)
  rw [if_pos c4] at H
  have c4b0:=eq_true c4
  have c4b1:decide (0≤(l0_0.length:Int))=true:=decide_eq_true c4
  clear c4
  by_cases c5:((l0_0.length:Int):Int).toNat≤281474976710656
  rotate_left
  ·rw [if_neg c5] at H
   exact absurd H (by simp)
  rw [if_pos c5] at H
  have c5b0:=eq_true c5
  have c5b1:decide (((l0_0.length:Int):Int).toNat≤281474976710656)=true:=decide_eq_true c5
  clear c5
  obtain⟨y345,hy345⟩:∃y_:List Bool,y_=(List.replicate ((l0_0.length:Int):Int).toNat false):=⟨_,rfl⟩
  replace H:(regletref13_Empty.l0 k y345 true l0_0 l0_1 a0_2 a0_3 l0_4)=some r:=by first|(rw [hy345];with_reducible exact H)|(have H2_:=(Option.bind_some _ _).symm.trans H;rw [hy345];with_reducible exact H2_)|(have H2_:=(Option.bind_some _ _).symm.trans H;with_reducible exact H2_)|with_reducible exact H|(rw [hy345];exact H)|exact H
  have Ny345:=aM hy345
  clear hy345
  have H':=aM H
  clear H
  go_enter Try.func45,Try.ntmps45
  go_wp2_with (first|((with_reducible refine bJ (N:=1) rfl ?_);refine box_event ?hg (N:=1) ?hd (cs:=#[.slice A0_0 l0_0.length c0_0,.slice A0_1 l0_1.length c0_1,.int .i64 a0_2,.int .i64 a0_3,.slice A0_4 l0_4.length c0_4]) (t:=26) ?hr ?_;(case hd=>rfl);(case hg=>rfl);(case hr=>first|(go_simp;done)|(go_simp;rfl));intro gb343 hg w6 hbox hb;have n0_:=aM (bG (by repeat(first|(with_reducible first|exact HB.out|apply aN|apply aP|apply aO)|exact HB.out)) hb);have n1_:=aM (hbox);have n2_:=aM ((by rw [hg];exact(bH (by repeat(first|(with_reducible first|exact HB.out|apply aN|apply aP|apply aO)|exact HB.out))):w.heap.size≤gb343));have n3_:=aM ((by rw [hg];exact(bH (by repeat(first|(with_reducible first|exact HB.out|apply aN|apply aP|apply aO)|exact HB.out))):w.heap.size≤gb343));clear HB;have HB:=n0_;have BK343:=n1_;have GW343:=n2_;have GE343:=n3_;clear n0_ n1_ n2_ n3_;clear hb hbox hg;have hcz7_0:w6.cell? ⟨gb343,0,none⟩=some (.slice A0_0 l0_0.length c0_0):=(aG BK343.out 0).trans rfl;have hcz7_1:w6.cell? ⟨gb343,1,none⟩=some (.slice A0_1 l0_1.length c0_1):=(aG BK343.out 1).trans rfl;have hcz7_2:w6.cell? ⟨gb343,2,none⟩=some (.int .i64 a0_2):=(aG BK343.out 2).trans rfl;have hcz7_3:w6.cell? ⟨gb343,3,none⟩=some (.int .i64 a0_3):=(aG BK343.out 3).trans rfl;have hcz7_4:w6.cell? ⟨gb343,4,none⟩=some (.slice A0_4 l0_4.length c0_4):=(aG BK343.out 4).trans rfl;have hfz7_0:=aH BK343.out 0;have hfz7_1:=aH BK343.out 1;have hfz7_2:=aH BK343.out 2;have hfz7_3:=aH BK343.out 3;have hfz7_4:=aH BK343.out 4)|((with_reducible refine bI (f:=30) rfl ?_);refine goesL_ (some 10) rfl rfl Try.func30 (by kernel_rfl) rfl #[.agg #[.slice A0_0 l0_0.length c0_0,.slice A0_1 l0_1.length c0_1,.int .i64 a0_2,.int .i64 a0_3,.slice A0_4 l0_4.length c0_4]] rfl (by(try simp only [List.map_toArray,List.map_cons,List.map_nil]);first|done|rfl|(simp only [List.length_drop,List.length_take];rfl)) ?_;(with_reducible refine(regletref13_Right.calls k _ _ l0_0 _ _ l0_1 a0_2 a0_3 _ _ l0_4 true _ ?side1 ?side2 ?side3 ?side4 ?side5 ?side6 A2.out).mono ?_);(case side1=>repeat(first|exact(bD HR0_0.out HB.out)|(with_reducible refine Kd.C_alloc ?_ _)|(with_reducible refine Kd.C_drewN ?_ _)|(with_reducible refine bC ?_)));(case side2=>exact HC0_0.out);(case side3=>repeat(first|exact(bD HR0_1.out HB.out)|(with_reducible refine Kd.C_alloc ?_ _)|(with_reducible refine Kd.C_drewN ?_ _)|(with_reducible refine bC ?_)));(case side4=>exact HC0_1.out);(case side5=>repeat(first|exact(bD HR0_4.out HB.out)|(with_reducible refine Kd.C_alloc ?_ _)|(with_reducible refine Kd.C_drewN ?_ _)|(with_reducible refine bC ?_)));(case side6=>exact HC0_4.out);rintro e w8 ⟨rfl,hb⟩;refine⟨_,rfl,?_⟩;have n0_:=aM (bF (g:=gb343) (o:= .cells #[.slice A0_0 l0_0.length c0_0,.slice A0_1 l0_1.length c0_1,.int .i64 a0_2,.int .i64 a0_3,.slice A0_4 l0_4.length c0_4] 26 (0,0)) (by(with_reducible repeat(first|refine aJ ?_ _|refine aK ?_|refine aI ?_ _));exact BK343.out) hb);have n1_:=aM (bG (by repeat(first|(with_reducible first|exact HB.out|apply aN|apply aP|apply aO|refine aL ?_ GE343.out)|exact HB.out)) hb);clear BK343;clear HB;have BK343:=n0_;have HB:=n1_;clear n0_ n1_;(try clear hb);(try clear hb2);(try clear hk);(try clear hi);have hcz9_0:w8.cell? ⟨gb343,0,none⟩=some (.slice A0_0 l0_0.length c0_0):=(aG BK343.out 0).trans rfl;have hcz9_1:w8.cell? ⟨gb343,1,none⟩=some (.slice A0_1 l0_1.length c0_1):=(aG BK343.out 1).trans rfl;have hcz9_2:w8.cell? ⟨gb343,2,none⟩=some (.int .i64 a0_2):=(aG BK343.out 2).trans rfl;have hcz9_3:w8.cell? ⟨gb343,3,none⟩=some (.int .i64 a0_3):=(aG BK343.out 3).trans rfl;have hcz9_4:w8.cell? ⟨gb343,4,none⟩=some (.slice A0_4 l0_4.length c0_4):=(aG BK343.out 4).trans rfl;have hfz9_0:=aH BK343.out 0;have hfz9_1:=aH BK343.out 1;have hfz9_2:=aH BK343.out 2;have hfz9_3:=aH BK343.out 3;have hfz9_4:=aH BK343.out 4)|((with_reducible refine bJ (N:=15) rfl ?_);refine Kd.R_make Kd.bool _ 4 rfl (N:=15) rfl 90 _ _ rfl (l0_0.length:Int) rfl rfl Try.underlying90 (.bool false) 1 info4 rfl (by decide) (by omega) false (ok:=fun _=>True) (okp:=fun _=>True) rfl (fun _ hk=>hk) trivial (of_decide_eq_true (by first|(with_reducible assumption)|assumption)) (Nat.le_trans (Nat.mul_le_mul_right _ (of_decide_eq_true (by first|(with_reducible assumption)|assumption):(l0_0.length:Int).toNat≤281474976710656)) (by omega)) (Below.refl _ _) (Nat.le_refl _) ?_;intro v346 w10 ho11 hb hg_ hnew_;clear hg_ hnew_;(first|rw [←Ny345.out] at ho11|(simp only [Int.reduceToNat] at ho11;rw [←Ny345.out] at ho11));have n0_:=aM (bL ho11 (bH (by repeat(first|(with_reducible first|exact HB.out|apply aN|apply aP|apply aO|refine aL ?_ GE343.out)|exact HB.out))));have n1_:=aM (bF (g:=gb343) (o:= .cells #[.slice A0_0 l0_0.length c0_0,.slice A0_1 l0_1.length c0_1,.int .i64 a0_2,.int .i64 a0_3,.slice A0_4 l0_4.length c0_4] 26 (0,0)) (by(with_reducible repeat(first|refine aJ ?_ _|refine aK ?_|refine aI ?_ _));exact BK343.out) hb);have n2_:=aM (bG (by repeat(first|(with_reducible first|exact HB.out|apply aN|apply aP|apply aO|refine aL ?_ GE343.out)|exact HB.out)) hb);clear BK343;clear HB;have HO347:=n0_;have BK343:=n1_;have HB:=n2_;clear n0_ n1_ n2_;clear hb ho11))
  go_loopg [4] k (fun kq v4 w'=>∃(x3_1:List Bool) (x4_1:Bool),v4= .bool x4_1∧Aside0 (regletref13_Empty.l0 kq x3_1 x4_1 l0_0 l0_1 a0_2 a0_3 l0_4=some r)∧Aside0 (kq≤k)∧Aside0 (Kd.R Kd.bool 4 w' w.heap.size (fun _=>True) v346 x3_1)∧Aside0 (w'.heap[gb343]?=some (.cells #[(.slice A0_0 l0_0.length c0_0),(.slice A0_1 l0_1.length c0_1),.int .i64 a0_2,.int .i64 a0_3,(.slice A0_4 l0_4.length c0_4)] 26 (0,0)))∧Aside0 (Below w.heap.size w w'))
  case atStart=>exact⟨(y345),(true),(by first|rfl|(simp;done)|(simp [*];done)),H',⟨Nat.le_refl _⟩,⟨by(with_reducible repeat(first|apply aA|apply aB|apply aC));exact HO347.out⟩,⟨by(with_reducible repeat(first|refine aJ ?_ _|refine aK ?_|refine aI ?_ _));exact BK343.out⟩,⟨by repeat(first|(with_reducible first|exact HB.out|apply aN|apply aP|apply aO|refine aL ?_ GE343.out)|exact HB.out)⟩⟩
  case round=>
   clear H'
   (try clear p2);(try clear c3);(try clear c4);(try clear c4b0);(try clear c4b1);(try clear c5);(try clear c5b0);(try clear c5b1);(try clear hcz7_0);(try clear hcz7_1);(try clear hcz7_2);(try clear hcz7_3);(try clear hcz7_4);(try clear hcz9_0);(try clear hcz9_1);(try clear hcz9_2);(try clear hcz9_3);(try clear hcz9_4);(try clear hfz7_0);(try clear hfz7_1);(try clear hfz7_2);(try clear hfz7_3);(try clear hfz7_4)
   (try clear hfz9_0);(try clear hfz9_1);(try clear hfz9_2);(try clear hfz9_3);(try clear hfz9_4)
   obtain⟨x3_1,x4_1,rfl,HA,HK1,HO_3,BK343,HB⟩:=hrel
   cases gk with
   |zero=>exact absurd HA.out (by simp [regletref13_Empty.l0])
   |succ k1=>
    have H:=HA.out
    clear HA
    simp only [regletref13_Empty.l0] at H
    by_cases c12:x4_1=true
    ·subst c12
     have H1:(regletref13_Empty.l1 k1 x3_1 false 0 l0_0 l0_1 a0_2 a0_3 l0_4)=some r:=by rw [if_pos rfl] at H;exact H
     clear H
     have H:=H1
     clear H1
     have H':=aM H
     clear H
     go_wp2
     go_loopg [4,5] k1 (fun kq v4 v5 w'=>∃(x3_2:List Bool) (x4_2:Bool) (x5_2:Int),v4= .bool x4_2∧v5= .int .i64 x5_2∧Aside0 (regletref13_Empty.l1 kq x3_2 x4_2 x5_2 l0_0 l0_1 a0_2 a0_3 l0_4=some r)∧Aside0 (kq≤k1)∧Aside0 (Kd.R Kd.bool 4 w' w.heap.size (fun _=>True) v346 x3_2)∧Aside0 (w'.heap[gb343]?=some (.cells #[(.slice A0_0 l0_0.length c0_0),(.slice A0_1 l0_1.length c0_1),.int .i64 a0_2,.int .i64 a0_3,(.slice A0_4 l0_4.length c0_4)] 26 (0,0)))∧Aside0 (Below w.heap.size w w'))
     case atStart=>exact⟨(x3_1),(false),(0),(by first|rfl|(simp;done)|(simp [*];done)),(by first|rfl|(simp;done)|(simp [*];done)),H',⟨Nat.le_refl _⟩,⟨by(with_reducible repeat(first|apply aA|apply aB|apply aC));exact HO_3.out⟩,⟨by(with_reducible repeat(first|refine aJ ?_ _|refine aK ?_|refine aI ?_ _));exact BK343.out⟩,⟨by repeat(first|(with_reducible first|exact HB.out|apply aN|apply aP|apply aO|refine aL ?_ GE343.out)|exact HB.out)⟩⟩
     case round=>
      clear H'
      (try clear c1);(try clear p2);(try clear c3);(try clear c4);(try clear c4b0);(try clear c4b1);(try clear c5);(try clear c5b0);(try clear c5b1);(try clear c12);(try clear hcz7_0);(try clear hcz7_1);(try clear hcz7_2);(try clear hcz7_3);(try clear hcz7_4);(try clear hcz9_0);(try clear hcz9_1);(try clear hcz9_2);(try clear hcz9_3);(try clear hcz9_4);(try clear hfz7_0);(try clear hfz7_1);(try clear hfz7_2)
      (try clear hfz7_3);(try clear hfz7_4);(try clear hfz9_0);(try clear hfz9_1);(try clear hfz9_2);(try clear hfz9_3);(try clear hfz9_4);(try clear p2)
      obtain⟨x3_2,x4_2,x5_2,rfl,rfl,HA,HK2,HO_3,BK343,HB⟩:=hrel
      cases gk with
      |zero=>exact absurd HA.out (by simp [regletref13_Empty.l1])
      |succ k2=>
       have H:=HA.out
       clear HA
       simp only [regletref13_Empty.l1] at H
       by_cases c13:x5_2<(l0_4.length:Int)
       ·rw [if_pos c13] at H
        have c13b0:decide (x5_2<(l0_4.length:Int))=true:=decide_eq_true c13
        clear c13
        have H':=aM H
        clear H
        have hcz14_0:wr.cell? ⟨gb343,0,none⟩=some (.slice A0_0 l0_0.length c0_0):=(aG BK343.out 0).trans rfl
        have hcz14_1:wr.cell? ⟨gb343,1,none⟩=some (.slice A0_1 l0_1.length c0_1):=(aG BK343.out 1).trans rfl
        have hcz14_2:wr.cell? ⟨gb343,2,none⟩=some (.int .i64 a0_2):=(aG BK343.out 2).trans rfl
        have hcz14_3:wr.cell? ⟨gb343,3,none⟩=some (.int .i64 a0_3):=(aG BK343.out 3).trans rfl
        have hcz14_4:wr.cell? ⟨gb343,4,none⟩=some (.slice A0_4 l0_4.length c0_4):=(aG BK343.out 4).trans rfl
        have hfz14_0:=aH BK343.out 0
        have hfz14_1:=aH BK343.out 1
        have hfz14_2:=aH BK343.out 2
        have hfz14_3:=aH BK343.out 3
        have hfz14_4:=aH BK343.out 4
        go_wp2
        go_loopg [6,7] k2 (fun kq v6 v7 w'=>∃(x6_3:Bool) (x7_3:Int),v6= .bool x6_3∧v7= .int .i64 x7_3∧Aside0 (regletref13_Empty.l2 kq x3_2 x4_2 x5_2 x6_3 x7_3 l0_0 l0_1 a0_2 a0_3 l0_4=some r)∧Aside0 (kq≤k2)∧Aside0 (Kd.R Kd.bool 4 w' w.heap.size (fun _=>True) v346 x3_2)∧Aside0 (w'.heap[gb343]?=some (.cells #[(.slice A0_0 l0_0.length c0_0),(.slice A0_1 l0_1.length c0_1),.int .i64 a0_2,.int .i64 a0_3,(.slice A0_4 l0_4.length c0_4)] 26 (0,0)))∧Aside0 (Below w.heap.size w w'))
        case atStart=>exact⟨(true),(0),(by first|rfl|(simp;done)|(simp [*];done)),(by first|rfl|(simp;done)|(simp [*];done)),H',⟨Nat.le_refl _⟩,⟨by(with_reducible repeat(first|apply aA|apply aB|apply aC));exact HO_3.out⟩,⟨by(with_reducible repeat(first|refine aJ ?_ _|refine aK ?_|refine aI ?_ _));exact BK343.out⟩,⟨by repeat(first|(with_reducible first|exact HB.out|apply aN|apply aP|apply aO|refine aL ?_ GE343.out)|exact HB.out)⟩⟩
        case round=>
         clear H'
         (try clear c1);(try clear p2);(try clear c3);(try clear c4);(try clear c4b0);(try clear c4b1);(try clear c5);(try clear c5b0);(try clear c5b1);(try clear c12);(try clear c13);(try clear c13b0);(try clear hcz14_0);(try clear hcz14_1);(try clear hcz14_2);(try clear hcz14_3);(try clear hcz14_4);(try clear hcz7_0);(try clear hcz7_1);(try clear hcz7_2);(try clear hcz7_3);(try clear hcz7_4);(try clear hcz9_0)
         (try clear hcz9_1);(try clear hcz9_2);(try clear hcz9_3);(try clear hcz9_4);(try clear hfz14_0);(try clear hfz14_1);(try clear hfz14_2);(try clear hfz14_3);(try clear hfz14_4);(try clear hfz7_0);(try clear hfz7_1);(try clear hfz7_2);(try clear hfz7_3);(try clear hfz7_4);(try clear hfz9_0);(try clear hfz9_1);(try clear hfz9_2);(try clear hfz9_3);(try clear hfz9_4);(try clear p2)
         obtain⟨x6_3,x7_3,rfl,rfl,HA,HK3,HO_3,BK343,HB⟩:=hrel
         cases gk with
         |zero=>exact absurd HA.out (by simp [regletref13_Empty.l2])
         |succ k3=>
          have H:=HA.out
          clear HA
          simp only [regletref13_Empty.l2] at H
          by_cases c15:0≤x5_2
          rotate_left
          ·rw [if_neg c15] at H
           exact absurd H (by simp)
          rw [if_pos c15] at H
          have c15b0:decide (0≤x5_2)=true:=decide_eq_true c15
          clear c15
          by_cases c16:x5_2<(l0_4.length:Int)
          rotate_left
          ·rw [if_neg c16] at H
           exact absurd H (by simp)
          rw [if_pos c16] at H
          have c16b0:decide (x5_2<(l0_4.length:Int))=true:=decide_eq_true c16
          clear c16
          by_cases c17:x7_3<(((rd_T35 l0_4 x5_2).f1).length:Int)
          ·rw [if_pos c17] at H
           have c17b0:decide (x7_3<(((rd_T35 l0_4 x5_2).f1).length:Int))=true:=decide_eq_true c17
           clear c17
           by_cases c18:0≤x7_3
           rotate_left
           ·rw [if_neg c18] at H
            exact absurd H (by simp)
           rw [if_pos c18] at H
           have c18b0:decide (0≤x7_3)=true:=decide_eq_true c18
           clear c18
           by_cases c19:x6_3=true
           ·subst c19
            have H1:(if((rd_T43 ((rd_T35 l0_4 x5_2).f1) x7_3).f0=true) then(regletref13_Empty.l2 k3 x3_2 x4_2 x5_2 false (wrap64 (x7_3+1)) l0_0 l0_1 a0_2 a0_3 l0_4) else(if 0≤((rd_T43 ((rd_T35 l0_4 x5_2).f1) x7_3).f1) then(if((rd_T43 ((rd_T35 l0_4 x5_2).f1) x7_3).f1)<(x3_2.length:Int) then(regletref13_Empty.l2 k3 x3_2 x4_2 x5_2 (rdOf false x3_2 ((rd_T43 ((rd_T35 l0_4 x5_2).f1) x7_3).f1)) (wrap64 (x7_3+1)) l0_0 l0_1 a0_2 a0_3 l0_4) else(none)) else(none)))=some r:=by rw [if_pos rfl] at H;exact H
            clear H
            have H:=H1
            clear H1
            obtain⟨bq20,hbq20⟩:∃b_:Bool,b_=((rd_T43 ((rd_T35 l0_4 x5_2).f1) x7_3).f0):=⟨_,rfl⟩
            replace H:(if(bq20=true) then(regletref13_Empty.l2 k3 x3_2 x4_2 x5_2 false (wrap64 (x7_3+1)) l0_0 l0_1 a0_2 a0_3 l0_4) else(if 0≤((rd_T43 ((rd_T35 l0_4 x5_2).f1) x7_3).f1) then(if((rd_T43 ((rd_T35 l0_4 x5_2).f1) x7_3).f1)<(x3_2.length:Int) then(regletref13_Empty.l2 k3 x3_2 x4_2 x5_2 (rdOf false x3_2 ((rd_T43 ((rd_T35 l0_4 x5_2).f1) x7_3).f1)) (wrap64 (x7_3+1)) l0_0 l0_1 a0_2 a0_3 l0_4) else(none)) else(none)))=some r:=by rw [←hbq20] at H;exact H
            have Nbq20:=aM hbq20
            clear hbq20
            by_cases c21:(bq20=true)
            ·subst c21
             have H1:(regletref13_Empty.l2 k3 x3_2 x4_2 x5_2 false (wrap64 (x7_3+1)) l0_0 l0_1 a0_2 a0_3 l0_4)=some r:=by rw [if_pos rfl] at H;exact H
             clear H
             have H:=H1
             clear H1
             have H':=aM H
             clear H
             have hcz22_0:wr.cell? ⟨gb343,0,none⟩=some (.slice A0_0 l0_0.length c0_0):=(aG BK343.out 0).trans rfl
             have hcz22_1:wr.cell? ⟨gb343,1,none⟩=some (.slice A0_1 l0_1.length c0_1):=(aG BK343.out 1).trans rfl
             have hcz22_2:wr.cell? ⟨gb343,2,none⟩=some (.int .i64 a0_2):=(aG BK343.out 2).trans rfl
             have hcz22_3:wr.cell? ⟨gb343,3,none⟩=some (.int .i64 a0_3):=(aG BK343.out 3).trans rfl
             have hcz22_4:wr.cell? ⟨gb343,4,none⟩=some (.slice A0_4 l0_4.length c0_4):=(aG BK343.out 4).trans rfl
             have hfz22_0:=aH BK343.out 0
             have hfz22_1:=aH BK343.out 1
             have hfz22_2:=aH BK343.out 2
             have hfz22_3:=aH BK343.out 3
             have hfz22_4:=aH BK343.out 4
             have p348:0≤(x5_2:Int):=of_decide_eq_true (by first|(with_reducible assumption)|assumption)
             have q348:x5_2<(l0_4.length:Int):=of_decide_eq_true (by first|(with_reducible assumption)|assumption)
             obtain⟨ad348,A348_1,c348_1,e348,hx348_0,hx348_1,hl348_1,hi348_1⟩:=at_T35 HR0_4.out x5_2 p348 q348
             cases e348
             replace hx348_0:=(HB.out.cell (World.block_lt_of_cell? w _ hx348_0)).trans hx348_0
             replace hx348_1:=(HB.out.cell (World.block_lt_of_cell? w _ hx348_1)).trans hx348_1
             have HR348_1:=aM hi348_1
             have HC348_1:=aM hl348_1
             clear hi348_1 hl348_1
             replace p348:=eq_true p348
             replace q348:=eq_true q348
             have p349:0≤(x5_2:Int):=of_decide_eq_true (by first|(with_reducible assumption)|assumption)
             have q349:x5_2<(l0_4.length:Int):=of_decide_eq_true (by first|(with_reducible assumption)|assumption)
             obtain⟨ad349,A349_1,c349_1,e349,hx349_0,hx349_1,hl349_1,hi349_1⟩:=at_T35 HR0_4.out x5_2 p349 q349
             obtain rfl:ad348=ad349:=(by injection e349)
             replace hx349_0:=(HB.out.cell (World.block_lt_of_cell? w _ hx349_0)).trans hx349_0
             replace hx349_1:=(HB.out.cell (World.block_lt_of_cell? w _ hx349_1)).trans hx349_1
             have HR349_1:=aM hi349_1
             have HC349_1:=aM hl349_1
             clear hi349_1 hl349_1
             replace p349:=eq_true p349
             replace q349:=eq_true q349
             have ea_:=Option.some.inj (hx348_1.symm.trans hx349_1)
             injection ea_ with ea_ en_ ec_
             subst ea_
             subst ec_
             clear en_
             have p350:0≤(x7_3:Int):=of_decide_eq_true (by first|(with_reducible assumption)|assumption)
             have q350:x7_3<(((rd_T35 l0_4 x5_2).f1).length:Int):=of_decide_eq_true (by first|(with_reducible assumption)|assumption)
             obtain⟨ad350,e350,hx350_0,hx350_1⟩:=at_T43 HR349_1.out x7_3 p350 q350
             (try rw [←Nbq20.out] at hx350_0)
             cases e350
             replace hx350_0:=(HB.out.cell (World.block_lt_of_cell? w _ hx350_0)).trans hx350_0
             replace hx350_1:=(HB.out.cell (World.block_lt_of_cell? w _ hx350_1)).trans hx350_1
             replace p350:=eq_true p350
             replace q350:=eq_true q350
             go_wp2_with (first|((with_reducible refine bJ (N:=8) rfl ?_);refine box_event ?hg (N:=8) ?hd (cs:=#[.bool false,.int .i64 0]) (t:=43) ?hr ?_;(case hd=>rfl);(case hg=>rfl);(case hr=>first|(go_simp;done)|(go_simp;rfl));intro gb351 hg w23 hbox hb;have n0_:=aM (aD (by(with_reducible repeat(first|apply aA|apply aB|apply aC));exact HO_3.out) hb);have n1_:=aM (bF (g:=gb343) (o:= .cells #[.slice A0_0 l0_0.length c0_0,.slice A0_1 l0_1.length c0_1,.int .i64 a0_2,.int .i64 a0_3,.slice (some ad348) l0_4.length c0_4] 26 (0,0)) (by(with_reducible repeat(first|refine aJ ?_ _|refine aK ?_|refine aI ?_ _));exact BK343.out) hb);have n2_:=aM (bG (by repeat(first|(with_reducible first|exact HB.out|apply aN|apply aP|apply aO|refine aL ?_ GE343.out)|exact HB.out)) hb);have n3_:=aM (hbox);have n4_:=aM ((by rw [hg];exact(bH (by repeat(first|(with_reducible first|exact HB.out|apply aN|apply aP|apply aO|refine aL ?_ GE343.out)|exact HB.out))):w.heap.size≤gb351));have n5_:=aM ((by rw [hg];exact(bH (by repeat(first|(with_reducible first|exact HB.out|apply aN|apply aP|apply aO|refine aL ?_ GE343.out)|exact HB.out))):w.heap.size≤gb351));have n6_:=aM ((by rw [hg];exact Nat.ne_of_lt (bN (g:=gb343) (o:= .cells #[.slice A0_0 l0_0.length c0_0,.slice A0_1 l0_1.length c0_1,.int .i64 a0_2,.int .i64 a0_3,.slice (some ad348) l0_4.length c0_4] 26 (0,0)) (by(with_reducible repeat(first|refine aJ ?_ _|refine aK ?_|refine aI ?_ _));exact BK343.out)):gb343≠gb351));have n7_:=aM ((by rw [hg];exact Nat.ne_of_gt (bN (g:=gb343) (o:= .cells #[.slice A0_0 l0_0.length c0_0,.slice A0_1 l0_1.length c0_1,.int .i64 a0_2,.int .i64 a0_3,.slice (some ad348) l0_4.length c0_4] 26 (0,0)) (by(with_reducible repeat(first|refine aJ ?_ _|refine aK ?_|refine aI ?_ _));exact BK343.out)):gb351≠gb343));clear HO_3;clear BK343;clear HB;have HO_3:=n0_;have BK343:=n1_;have HB:=n2_;have BK351:=n3_;have GW351:=n4_;have GE351:=n5_;have NB343_351:=n6_;have NB351_343:=n7_;clear n0_ n1_ n2_ n3_ n4_ n5_ n6_ n7_;clear hb hbox hg;have hnb24:=NB351_343.out;have hnc24:=NB343_351.out;have hcz25_0:w23.cell? ⟨gb351,0,none⟩=some (.bool false):=(aG BK351.out 0).trans rfl;have hcz25_1:w23.cell? ⟨gb351,1,none⟩=some (.int .i64 0):=(aG BK351.out 1).trans rfl;have hfz25_0:=aH BK351.out 0;have hfz25_1:=aH BK351.out 1))
             go_roundg k3
             case measure=>have:=HK1.out;have:=HK2.out;have:=HK3.out;omega
             case rel=>exact⟨(false),(wrap64 (x7_3+1)),(by first|rfl|(simp;done)|(simp [*];done)),(by first|rfl|(simp;done)|(simp [*];done)),H',⟨by have:=HK1.out;have:=HK2.out;have:=HK3.out;omega⟩,⟨by(with_reducible repeat(first|apply aA|apply aB|apply aC));exact Kd.R_mono (aE (p:=⟨gb351,1,none⟩) (aE (p:=⟨gb351,0,none⟩) (Kd.R_types HO_3.out BK351.out (by decide)) (fun _ hk=>hk.2) (.bool true)) (fun _ hk=>hk.2) (.int .i64 ((rd_T43 ((rd_T35 l0_4 x5_2).f1) x7_3).f1))) (fun _ hk=>trivial)⟩,⟨by(with_reducible repeat(first|refine aJ ?_ _|refine aK ?_|refine aI ?_ _));refine blk_far ?_ NB343_351.out _;(with_reducible repeat(first|refine aJ ?_ _|refine aK ?_|refine aI ?_ _));refine blk_far ?_ NB343_351.out _;(with_reducible repeat(first|refine aJ ?_ _|refine aK ?_|refine aI ?_ _));exact BK343.out⟩,⟨by repeat(first|(with_reducible first|exact HB.out|apply aN|apply aP|apply aO|refine aL ?_ GE343.out|refine aL ?_ GE351.out)|exact HB.out)⟩⟩
            ·replace c21:=Bool.eq_false_iff.mpr c21
             subst c21
             have H1:(if 0≤((rd_T43 ((rd_T35 l0_4 x5_2).f1) x7_3).f1) then(if((rd_T43 ((rd_T35 l0_4 x5_2).f1) x7_3).f1)<(x3_2.length:Int) then(regletref13_Empty.l2 k3 x3_2 x4_2 x5_2 (rdOf false x3_2 ((rd_T43 ((rd_T35 l0_4 x5_2).f1) x7_3).f1)) (wrap64 (x7_3+1)) l0_0 l0_1 a0_2 a0_3 l0_4) else(none)) else(none))=some r:=by rw [if_neg (show ¬(false=true) by decide)] at H;exact H
             clear H
             have H:=H1
             clear H1
             by_cases c26:0≤((rd_T43 ((rd_T35 l0_4 x5_2).f1) x7_3).f1)
             rotate_left
             ·rw [if_neg c26] at H
              exact absurd H (by simp)
             rw [if_pos c26] at H
             have c26b0:decide (0≤((rd_T43 ((rd_T35 l0_4 x5_2).f1) x7_3).f1))=true:=decide_eq_true c26
             clear c26
             by_cases c27:((rd_T43 ((rd_T35 l0_4 x5_2).f1) x7_3).f1)<(x3_2.length:Int)
             rotate_left
             ·rw [if_neg c27] at H
              exact absurd H (by simp)
             rw [if_pos c27] at H
             have c27b0:decide (((rd_T43 ((rd_T35 l0_4 x5_2).f1) x7_3).f1)<(x3_2.length:Int))=true:=decide_eq_true c27
             clear c27
             have H':=aM H
             clear H
             have hcz28_0:wr.cell? ⟨gb343,0,none⟩=some (.slice A0_0 l0_0.length c0_0):=(aG BK343.out 0).trans rfl
             have hcz28_1:wr.cell? ⟨gb343,1,none⟩=some (.slice A0_1 l0_1.length c0_1):=(aG BK343.out 1).trans rfl
             have hcz28_2:wr.cell? ⟨gb343,2,none⟩=some (.int .i64 a0_2):=(aG BK343.out 2).trans rfl
             have hcz28_3:wr.cell? ⟨gb343,3,none⟩=some (.int .i64 a0_3):=(aG BK343.out 3).trans rfl
             have hcz28_4:wr.cell? ⟨gb343,4,none⟩=some (.slice A0_4 l0_4.length c0_4):=(aG BK343.out 4).trans rfl
             have hfz28_0:=aH BK343.out 0
             have hfz28_1:=aH BK343.out 1
             have hfz28_2:=aH BK343.out 2
             have hfz28_3:=aH BK343.out 3
             have hfz28_4:=aH BK343.out 4
             have p348:0≤(x5_2:Int):=of_decide_eq_true (by first|(with_reducible assumption)|assumption)
             have q348:x5_2<(l0_4.length:Int):=of_decide_eq_true (by first|(with_reducible assumption)|assumption)
             obtain⟨ad348,A348_1,c348_1,e348,hx348_0,hx348_1,hl348_1,hi348_1⟩:=at_T35 HR0_4.out x5_2 p348 q348
             cases e348
             replace hx348_0:=(HB.out.cell (World.block_lt_of_cell? w _ hx348_0)).trans hx348_0
             replace hx348_1:=(HB.out.cell (World.block_lt_of_cell? w _ hx348_1)).trans hx348_1
             have HR348_1:=aM hi348_1
             have HC348_1:=aM hl348_1
             clear hi348_1 hl348_1
             replace p348:=eq_true p348
             replace q348:=eq_true q348
             have p349:0≤(x5_2:Int):=of_decide_eq_true (by first|(with_reducible assumption)|assumption)
             have q349:x5_2<(l0_4.length:Int):=of_decide_eq_true (by first|(with_reducible assumption)|assumption)
             obtain⟨ad349,A349_1,c349_1,e349,hx349_0,hx349_1,hl349_1,hi349_1⟩:=at_T35 HR0_4.out x5_2 p349 q349
             obtain rfl:ad348=ad349:=(by injection e349)
             replace hx349_0:=(HB.out.cell (World.block_lt_of_cell? w _ hx349_0)).trans hx349_0
             replace hx349_1:=(HB.out.cell (World.block_lt_of_cell? w _ hx349_1)).trans hx349_1
             have HR349_1:=aM hi349_1
             have HC349_1:=aM hl349_1
             clear hi349_1 hl349_1
             replace p349:=eq_true p349
             replace q349:=eq_true q349
             have ea_:=Option.some.inj (hx348_1.symm.trans hx349_1)
             injection ea_ with ea_ en_ ec_
             subst ea_
             subst ec_
             clear en_
             have p350:0≤(x7_3:Int):=of_decide_eq_true (by first|(with_reducible assumption)|assumption)
             have q350:x7_3<(((rd_T35 l0_4 x5_2).f1).length:Int):=of_decide_eq_true (by first|(with_reducible assumption)|assumption)
             obtain⟨ad350,e350,hx350_0,hx350_1⟩:=at_T43 HR349_1.out x7_3 p350 q350
             (try rw [←Nbq20.out] at hx350_0)
             cases e350
             replace hx350_0:=(HB.out.cell (World.block_lt_of_cell? w _ hx350_0)).trans hx350_0
             replace hx350_1:=(HB.out.cell (World.block_lt_of_cell? w _ hx350_1)).trans hx350_1
             replace p350:=eq_true p350
             replace q350:=eq_true q350
             go_wp2_with (first|((with_reducible refine bJ (N:=8) rfl ?_);refine box_event ?hg (N:=8) ?hd (cs:=#[.bool false,.int .i64 0]) (t:=43) ?hr ?_;(case hd=>rfl);(case hg=>rfl);(case hr=>first|(go_simp;done)|(go_simp;rfl));intro gb351 hg w29 hbox hb;have n0_:=aM (aD (by(with_reducible repeat(first|apply aA|apply aB|apply aC));exact HO_3.out) hb);have n1_:=aM (bF (g:=gb343) (o:= .cells #[.slice A0_0 l0_0.length c0_0,.slice A0_1 l0_1.length c0_1,.int .i64 a0_2,.int .i64 a0_3,.slice (some ad348) l0_4.length c0_4] 26 (0,0)) (by(with_reducible repeat(first|refine aJ ?_ _|refine aK ?_|refine aI ?_ _));exact BK343.out) hb);have n2_:=aM (bG (by repeat(first|(with_reducible first|exact HB.out|apply aN|apply aP|apply aO|refine aL ?_ GE343.out)|exact HB.out)) hb);have n3_:=aM (hbox);have n4_:=aM ((by rw [hg];exact(bH (by repeat(first|(with_reducible first|exact HB.out|apply aN|apply aP|apply aO|refine aL ?_ GE343.out)|exact HB.out))):w.heap.size≤gb351));have n5_:=aM ((by rw [hg];exact(bH (by repeat(first|(with_reducible first|exact HB.out|apply aN|apply aP|apply aO|refine aL ?_ GE343.out)|exact HB.out))):w.heap.size≤gb351));have n6_:=aM ((by rw [hg];exact Nat.ne_of_lt (bN (g:=gb343) (o:= .cells #[.slice A0_0 l0_0.length c0_0,.slice A0_1 l0_1.length c0_1,.int .i64 a0_2,.int .i64 a0_3,.slice (some ad348) l0_4.length c0_4] 26 (0,0)) (by(with_reducible repeat(first|refine aJ ?_ _|refine aK ?_|refine aI ?_ _));exact BK343.out)):gb343≠gb351));have n7_:=aM ((by rw [hg];exact Nat.ne_of_gt (bN (g:=gb343) (o:= .cells #[.slice A0_0 l0_0.length c0_0,.slice A0_1 l0_1.length c0_1,.int .i64 a0_2,.int .i64 a0_3,.slice (some ad348) l0_4.length c0_4] 26 (0,0)) (by(with_reducible repeat(first|refine aJ ?_ _|refine aK ?_|refine aI ?_ _));exact BK343.out)):gb351≠gb343));clear HO_3;clear BK343;clear HB;have HO_3:=n0_;have BK343:=n1_;have HB:=n2_;have BK351:=n3_;have GW351:=n4_;have GE351:=n5_;have NB343_351:=n6_;have NB351_343:=n7_;clear n0_ n1_ n2_ n3_ n4_ n5_ n6_ n7_;clear hb hbox hg;have hnb30:=NB351_343.out;have hnc30:=NB343_351.out;have hcz31_0:w29.cell? ⟨gb351,0,none⟩=some (.bool false):=(aG BK351.out 0).trans rfl;have hcz31_1:w29.cell? ⟨gb351,1,none⟩=some (.int .i64 0):=(aG BK351.out 1).trans rfl;have hfz31_0:=aH BK351.out 0;have hfz31_1:=aH BK351.out 1;obtain⟨Ao32,co32,eo32⟩:=Kd.R_slice HO_3.out;subst eo32;have p352:0≤(((rd_T43 ((rd_T35 l0_4 x5_2).f1) x7_3).f1):Int):=of_decide_eq_true (by first|(with_reducible assumption)|assumption);have q352:((rd_T43 ((rd_T35 l0_4 x5_2).f1) x7_3).f1)<(x3_2.length:Int):=of_decide_eq_true (by first|(with_reducible assumption)|assumption);obtain⟨ad352,e352,hx352_0⟩:=Kd.at_bool (aF HO_3.out).2.2 ((rd_T43 ((rd_T35 l0_4 x5_2).f1) x7_3).f1) p352 q352;(try rw [←Nbq20.out] at hx352_0);cases e352;have hn352_0:ad352.block≠gb351:=Kd.own_blk (Kd.R_ne HO_3.out BK351.out (by decide));have hn352_1:ad352.block≠gb351:=Kd.own_blk (Kd.R_ne HO_3.out BK351.out (by decide));replace hx352_0:=(cell_far (p:=⟨gb351,0,none⟩) (by first|(rw [add_block];exact hn352_0)|(show(Addr.add _ _).block≠_;rw [add_block];exact hn352_0)|exact hn352_0) (.bool false)).trans hx352_0;replace hx352_0:=(cell_far (p:=⟨gb351,1,none⟩) (by first|(rw [add_block];exact hn352_1)|(show(Addr.add _ _).block≠_;rw [add_block];exact hn352_1)|exact hn352_1) (.int .i64 ((rd_T43 ((rd_T35 l0_4 x5_2).f1) x7_3).f1))).trans hx352_0;clear hn352_0;clear hn352_1;replace p352:=eq_true p352;replace q352:=eq_true q352))
             go_roundg k3
             case measure=>have:=HK1.out;have:=HK2.out;have:=HK3.out;omega
             case rel=>exact⟨(rdOf false x3_2 ((rd_T43 ((rd_T35 l0_4 x5_2).f1) x7_3).f1)),(wrap64 (x7_3+1)),(by first|rfl|(simp;done)|(simp [*];done)),(by first|rfl|(simp;done)|(simp [*];done)),H',⟨by have:=HK1.out;have:=HK2.out;have:=HK3.out;omega⟩,⟨by(with_reducible repeat(first|apply aA|apply aB|apply aC));exact Kd.R_mono (aE (p:=⟨gb351,1,none⟩) (aE (p:=⟨gb351,0,none⟩) (Kd.R_types HO_3.out BK351.out (by decide)) (fun _ hk=>hk.2) (.bool false)) (fun _ hk=>hk.2) (.int .i64 ((rd_T43 ((rd_T35 l0_4 x5_2).f1) x7_3).f1))) (fun _ hk=>trivial)⟩,⟨by(with_reducible repeat(first|refine aJ ?_ _|refine aK ?_|refine aI ?_ _));refine blk_far ?_ NB343_351.out _;(with_reducible repeat(first|refine aJ ?_ _|refine aK ?_|refine aI ?_ _));refine blk_far ?_ NB343_351.out _;(with_reducible repeat(first|refine aJ ?_ _|refine aK ?_|refine aI ?_ _));exact BK343.out⟩,⟨by repeat(first|(with_reducible first|exact HB.out|apply aN|apply aP|apply aO|refine aL ?_ GE343.out|refine aL ?_ GE351.out)|exact HB.out)⟩⟩
           ·replace c19:=Bool.eq_false_iff.mpr c19
            subst c19
            have H1:(regletref13_Empty.l2 k3 x3_2 x4_2 x5_2 false (wrap64 (x7_3+1)) l0_0 l0_1 a0_2 a0_3 l0_4)=some r:=by rw [if_neg (show ¬(false=true) by decide)] at H;exact H
            clear H
            have H:=H1
            clear H1
            have H':=aM H
            clear H
            have hcz33_0:wr.cell? ⟨gb343,0,none⟩=some (.slice A0_0 l0_0.length c0_0):=(aG BK343.out 0).trans rfl
            have hcz33_1:wr.cell? ⟨gb343,1,none⟩=some (.slice A0_1 l0_1.length c0_1):=(aG BK343.out 1).trans rfl
            have hcz33_2:wr.cell? ⟨gb343,2,none⟩=some (.int .i64 a0_2):=(aG BK343.out 2).trans rfl
            have hcz33_3:wr.cell? ⟨gb343,3,none⟩=some (.int .i64 a0_3):=(aG BK343.out 3).trans rfl
            have hcz33_4:wr.cell? ⟨gb343,4,none⟩=some (.slice A0_4 l0_4.length c0_4):=(aG BK343.out 4).trans rfl
            have hfz33_0:=aH BK343.out 0
            have hfz33_1:=aH BK343.out 1
            have hfz33_2:=aH BK343.out 2
            have hfz33_3:=aH BK343.out 3
            have hfz33_4:=aH BK343.out 4
            have p348:0≤(x5_2:Int):=of_decide_eq_true (by first|(with_reducible assumption)|assumption)
            have q348:x5_2<(l0_4.length:Int):=of_decide_eq_true (by first|(with_reducible assumption)|assumption)
            obtain⟨ad348,A348_1,c348_1,e348,hx348_0,hx348_1,hl348_1,hi348_1⟩:=at_T35 HR0_4.out x5_2 p348 q348
            cases e348
            replace hx348_0:=(HB.out.cell (World.block_lt_of_cell? w _ hx348_0)).trans hx348_0
            replace hx348_1:=(HB.out.cell (World.block_lt_of_cell? w _ hx348_1)).trans hx348_1
            have HR348_1:=aM hi348_1
            have HC348_1:=aM hl348_1
            clear hi348_1 hl348_1
            replace p348:=eq_true p348
            replace q348:=eq_true q348
            have p349:0≤(x5_2:Int):=of_decide_eq_true (by first|(with_reducible assumption)|assumption)
            have q349:x5_2<(l0_4.length:Int):=of_decide_eq_true (by first|(with_reducible assumption)|assumption)
            obtain⟨ad349,A349_1,c349_1,e349,hx349_0,hx349_1,hl349_1,hi349_1⟩:=at_T35 HR0_4.out x5_2 p349 q349
            obtain rfl:ad348=ad349:=(by injection e349)
            replace hx349_0:=(HB.out.cell (World.block_lt_of_cell? w _ hx349_0)).trans hx349_0
            replace hx349_1:=(HB.out.cell (World.block_lt_of_cell? w _ hx349_1)).trans hx349_1
            have HR349_1:=aM hi349_1
            have HC349_1:=aM hl349_1
            clear hi349_1 hl349_1
            replace p349:=eq_true p349
            replace q349:=eq_true q349
            have ea_:=Option.some.inj (hx348_1.symm.trans hx349_1)
            injection ea_ with ea_ en_ ec_
            subst ea_
            subst ec_
            clear en_
            have p350:0≤(x7_3:Int):=of_decide_eq_true (by first|(with_reducible assumption)|assumption)
            have q350:x7_3<(((rd_T35 l0_4 x5_2).f1).length:Int):=of_decide_eq_true (by first|(with_reducible assumption)|assumption)
            obtain⟨ad350,e350,hx350_0,hx350_1⟩:=at_T43 HR349_1.out x7_3 p350 q350
            cases e350
            replace hx350_0:=(HB.out.cell (World.block_lt_of_cell? w _ hx350_0)).trans hx350_0
            replace hx350_1:=(HB.out.cell (World.block_lt_of_cell? w _ hx350_1)).trans hx350_1
            replace p350:=eq_true p350
            replace q350:=eq_true q350
            go_wp2_with (first|((with_reducible refine bJ (N:=8) rfl ?_);refine box_event ?hg (N:=8) ?hd (cs:=#[.bool false,.int .i64 0]) (t:=43) ?hr ?_;(case hd=>rfl);(case hg=>rfl);(case hr=>first|(go_simp;done)|(go_simp;rfl));intro gb351 hg w34 hbox hb;have n0_:=aM (aD (by(with_reducible repeat(first|apply aA|apply aB|apply aC));exact HO_3.out) hb);have n1_:=aM (bF (g:=gb343) (o:= .cells #[.slice A0_0 l0_0.length c0_0,.slice A0_1 l0_1.length c0_1,.int .i64 a0_2,.int .i64 a0_3,.slice (some ad348) l0_4.length c0_4] 26 (0,0)) (by(with_reducible repeat(first|refine aJ ?_ _|refine aK ?_|refine aI ?_ _));exact BK343.out) hb);have n2_:=aM (bG (by repeat(first|(with_reducible first|exact HB.out|apply aN|apply aP|apply aO|refine aL ?_ GE343.out)|exact HB.out)) hb);have n3_:=aM (hbox);have n4_:=aM ((by rw [hg];exact(bH (by repeat(first|(with_reducible first|exact HB.out|apply aN|apply aP|apply aO|refine aL ?_ GE343.out)|exact HB.out))):w.heap.size≤gb351));have n5_:=aM ((by rw [hg];exact(bH (by repeat(first|(with_reducible first|exact HB.out|apply aN|apply aP|apply aO|refine aL ?_ GE343.out)|exact HB.out))):w.heap.size≤gb351));have n6_:=aM ((by rw [hg];exact Nat.ne_of_lt (bN (g:=gb343) (o:= .cells #[.slice A0_0 l0_0.length c0_0,.slice A0_1 l0_1.length c0_1,.int .i64 a0_2,.int .i64 a0_3,.slice (some ad348) l0_4.length c0_4] 26 (0,0)) (by(with_reducible repeat(first|refine aJ ?_ _|refine aK ?_|refine aI ?_ _));exact BK343.out)):gb343≠gb351));have n7_:=aM ((by rw [hg];exact Nat.ne_of_gt (bN (g:=gb343) (o:= .cells #[.slice A0_0 l0_0.length c0_0,.slice A0_1 l0_1.length c0_1,.int .i64 a0_2,.int .i64 a0_3,.slice (some ad348) l0_4.length c0_4] 26 (0,0)) (by(with_reducible repeat(first|refine aJ ?_ _|refine aK ?_|refine aI ?_ _));exact BK343.out)):gb351≠gb343));clear HO_3;clear BK343;clear HB;have HO_3:=n0_;have BK343:=n1_;have HB:=n2_;have BK351:=n3_;have GW351:=n4_;have GE351:=n5_;have NB343_351:=n6_;have NB351_343:=n7_;clear n0_ n1_ n2_ n3_ n4_ n5_ n6_ n7_;clear hb hbox hg;have hnb35:=NB351_343.out;have hnc35:=NB343_351.out;have hcz36_0:w34.cell? ⟨gb351,0,none⟩=some (.bool false):=(aG BK351.out 0).trans rfl;have hcz36_1:w34.cell? ⟨gb351,1,none⟩=some (.int .i64 0):=(aG BK351.out 1).trans rfl;have hfz36_0:=aH BK351.out 0;have hfz36_1:=aH BK351.out 1))
            go_roundg k3
            case measure=>have:=HK1.out;have:=HK2.out;have:=HK3.out;omega
            case rel=>exact⟨(false),(wrap64 (x7_3+1)),(by first|rfl|(simp;done)|(simp [*];done)),(by first|rfl|(simp;done)|(simp [*];done)),H',⟨by have:=HK1.out;have:=HK2.out;have:=HK3.out;omega⟩,⟨by(with_reducible repeat(first|apply aA|apply aB|apply aC));exact Kd.R_mono (aE (p:=⟨gb351,1,none⟩) (aE (p:=⟨gb351,0,none⟩) (Kd.R_types HO_3.out BK351.out (by decide)) (fun _ hk=>hk.2) (.bool ((rd_T43 ((rd_T35 l0_4 x5_2).f1) x7_3).f0))) (fun _ hk=>hk.2) (.int .i64 ((rd_T43 ((rd_T35 l0_4 x5_2).f1) x7_3).f1))) (fun _ hk=>trivial)⟩,⟨by(with_reducible repeat(first|refine aJ ?_ _|refine aK ?_|refine aI ?_ _));refine blk_far ?_ NB343_351.out _;(with_reducible repeat(first|refine aJ ?_ _|refine aK ?_|refine aI ?_ _));refine blk_far ?_ NB343_351.out _;(with_reducible repeat(first|refine aJ ?_ _|refine aK ?_|refine aI ?_ _));exact BK343.out⟩,⟨by repeat(first|(with_reducible first|exact HB.out|apply aN|apply aP|apply aO|refine aL ?_ GE343.out|refine aL ?_ GE351.out)|exact HB.out)⟩⟩
          ·rw [if_neg c17] at H
           have c17b0:decide (x7_3<(((rd_T35 l0_4 x5_2).f1).length:Int))=false:=decide_eq_false c17
           clear c17
           by_cases c37:x6_3=true
           ·subst c37
            have H1:(if 0≤((rd_T35 l0_4 x5_2).f0) then(if((rd_T35 l0_4 x5_2).f0)<(x3_2.length:Int) then(if(rdOf false x3_2 ((rd_T35 l0_4 x5_2).f0)=true) then(regletref13_Empty.l1 k3 x3_2 x4_2 (wrap64 (x5_2+1)) l0_0 l0_1 a0_2 a0_3 l0_4) else(regletref13_Empty.l1 k3 (x3_2.set (((rd_T35 l0_4 x5_2).f0):Int).toNat true) true (wrap64 (x5_2+1)) l0_0 l0_1 a0_2 a0_3 l0_4)) else(none)) else(none))=some r:=by rw [if_pos rfl] at H;exact H
            clear H
            have H:=H1
            clear H1
            by_cases c38:0≤((rd_T35 l0_4 x5_2).f0)
            rotate_left
            ·rw [if_neg c38] at H
             exact absurd H (by simp)
            rw [if_pos c38] at H
            have c38b0:decide (0≤((rd_T35 l0_4 x5_2).f0))=true:=decide_eq_true c38
            clear c38
            by_cases c39:((rd_T35 l0_4 x5_2).f0)<(x3_2.length:Int)
            rotate_left
            ·rw [if_neg c39] at H
             exact absurd H (by simp)
            rw [if_pos c39] at H
            have c39b0:decide (((rd_T35 l0_4 x5_2).f0)<(x3_2.length:Int))=true:=decide_eq_true c39
            clear c39
            obtain⟨bq40,hbq40⟩:∃b_:Bool,b_=(rdOf false x3_2 ((rd_T35 l0_4 x5_2).f0)):=⟨_,rfl⟩
            replace H:(if(bq40=true) then(regletref13_Empty.l1 k3 x3_2 x4_2 (wrap64 (x5_2+1)) l0_0 l0_1 a0_2 a0_3 l0_4) else(regletref13_Empty.l1 k3 (x3_2.set (((rd_T35 l0_4 x5_2).f0):Int).toNat true) true (wrap64 (x5_2+1)) l0_0 l0_1 a0_2 a0_3 l0_4))=some r:=by rw [←hbq40] at H;exact H
            have Nbq40:=aM hbq40
            clear hbq40
            by_cases c41:(bq40=true)
            ·subst c41
             have H1:(regletref13_Empty.l1 k3 x3_2 x4_2 (wrap64 (x5_2+1)) l0_0 l0_1 a0_2 a0_3 l0_4)=some r:=by rw [if_pos rfl] at H;exact H
             clear H
             have H:=H1
             clear H1
             have H':=aM H
             clear H
             have hcz42_0:wr.cell? ⟨gb343,0,none⟩=some (.slice A0_0 l0_0.length c0_0):=(aG BK343.out 0).trans rfl
             have hcz42_1:wr.cell? ⟨gb343,1,none⟩=some (.slice A0_1 l0_1.length c0_1):=(aG BK343.out 1).trans rfl
             have hcz42_2:wr.cell? ⟨gb343,2,none⟩=some (.int .i64 a0_2):=(aG BK343.out 2).trans rfl
             have hcz42_3:wr.cell? ⟨gb343,3,none⟩=some (.int .i64 a0_3):=(aG BK343.out 3).trans rfl
             have hcz42_4:wr.cell? ⟨gb343,4,none⟩=some (.slice A0_4 l0_4.length c0_4):=(aG BK343.out 4).trans rfl
             have hfz42_0:=aH BK343.out 0
             have hfz42_1:=aH BK343.out 1
             have hfz42_2:=aH BK343.out 2
             have hfz42_3:=aH BK343.out 3
             have hfz42_4:=aH BK343.out 4
             have p348:0≤(x5_2:Int):=of_decide_eq_true (by first|(with_reducible assumption)|assumption)
             have q348:x5_2<(l0_4.length:Int):=of_decide_eq_true (by first|(with_reducible assumption)|assumption)
             obtain⟨ad348,A348_1,c348_1,e348,hx348_0,hx348_1,hl348_1,hi348_1⟩:=at_T35 HR0_4.out x5_2 p348 q348
             cases e348
             replace hx348_0:=(HB.out.cell (World.block_lt_of_cell? w _ hx348_0)).trans hx348_0
             replace hx348_1:=(HB.out.cell (World.block_lt_of_cell? w _ hx348_1)).trans hx348_1
             have HR348_1:=aM hi348_1
             have HC348_1:=aM hl348_1
             clear hi348_1 hl348_1
             replace p348:=eq_true p348
             replace q348:=eq_true q348
             have p353:0≤(x5_2:Int):=of_decide_eq_true (by first|(with_reducible assumption)|assumption)
             have q353:x5_2<(l0_4.length:Int):=of_decide_eq_true (by first|(with_reducible assumption)|assumption)
             obtain⟨ad353,A353_1,c353_1,e353,hx353_0,hx353_1,hl353_1,hi353_1⟩:=at_T35 HR0_4.out x5_2 p353 q353
             obtain rfl:ad348=ad353:=(by injection e353)
             replace hx353_0:=(HB.out.cell (World.block_lt_of_cell? w _ hx353_0)).trans hx353_0
             replace hx353_1:=(HB.out.cell (World.block_lt_of_cell? w _ hx353_1)).trans hx353_1
             have HR353_1:=aM hi353_1
             have HC353_1:=aM hl353_1
             clear hi353_1 hl353_1
             replace p353:=eq_true p353
             replace q353:=eq_true q353
             have ea_:=Option.some.inj (hx348_1.symm.trans hx353_1)
             injection ea_ with ea_ en_ ec_
             subst ea_
             subst ec_
             clear en_
             obtain⟨Ao43,co43,eo43⟩:=Kd.R_slice HO_3.out
             subst eo43
             have p354:0≤(((rd_T35 l0_4 x5_2).f0):Int):=of_decide_eq_true (by first|(with_reducible assumption)|assumption)
             have q354:((rd_T35 l0_4 x5_2).f0)<(x3_2.length:Int):=of_decide_eq_true (by first|(with_reducible assumption)|assumption)
             obtain⟨ad354,e354,hx354_0⟩:=Kd.at_bool (aF HO_3.out).2.2 ((rd_T35 l0_4 x5_2).f0) p354 q354
             (try rw [←Nbq40.out] at hx354_0)
             cases e354
             replace p354:=eq_true p354
             replace q354:=eq_true q354
             go_wp2
             go_roundg k3
             case measure=>have:=HK1.out;have:=HK2.out;have:=HK3.out;omega
             case rel=>exact⟨(x3_2),(x4_2),(wrap64 (x5_2+1)),(by first|rfl|(simp;done)|(simp [*];done)),(by first|rfl|(simp;done)|(simp [*];done)),H',⟨by have:=HK1.out;have:=HK2.out;have:=HK3.out;omega⟩,⟨by(with_reducible repeat(first|apply aA|apply aB|apply aC));exact HO_3.out⟩,⟨by(with_reducible repeat(first|refine aJ ?_ _|refine aK ?_|refine aI ?_ _));exact BK343.out⟩,⟨by repeat(first|(with_reducible first|exact HB.out|apply aN|apply aP|apply aO|refine aL ?_ GE343.out)|exact HB.out)⟩⟩
            ·replace c41:=Bool.eq_false_iff.mpr c41
             subst c41
             have H1:(regletref13_Empty.l1 k3 (x3_2.set (((rd_T35 l0_4 x5_2).f0):Int).toNat true) true (wrap64 (x5_2+1)) l0_0 l0_1 a0_2 a0_3 l0_4)=some r:=by rw [if_neg (show ¬(false=true) by decide)] at H;exact H
             clear H
             have H:=H1
             clear H1
             obtain⟨y356,hy356⟩:∃y_:List Bool,y_=(x3_2.set (((rd_T35 l0_4 x5_2).f0):Int).toNat true):=⟨_,rfl⟩
             replace H:(regletref13_Empty.l1 k3 y356 true (wrap64 (x5_2+1)) l0_0 l0_1 a0_2 a0_3 l0_4)=some r:=by first|(rw [hy356];with_reducible exact H)|(have H2_:=(Option.bind_some _ _).symm.trans H;rw [hy356];with_reducible exact H2_)|(have H2_:=(Option.bind_some _ _).symm.trans H;with_reducible exact H2_)|with_reducible exact H|(rw [hy356];exact H)|exact H
             have Ny356:=aM hy356
             clear hy356
             have H':=aM H
             clear H
             have hcz45_0:wr.cell? ⟨gb343,0,none⟩=some (.slice A0_0 l0_0.length c0_0):=(aG BK343.out 0).trans rfl
             have hcz45_1:wr.cell? ⟨gb343,1,none⟩=some (.slice A0_1 l0_1.length c0_1):=(aG BK343.out 1).trans rfl
             have hcz45_2:wr.cell? ⟨gb343,2,none⟩=some (.int .i64 a0_2):=(aG BK343.out 2).trans rfl
             have hcz45_3:wr.cell? ⟨gb343,3,none⟩=some (.int .i64 a0_3):=(aG BK343.out 3).trans rfl
             have hcz45_4:wr.cell? ⟨gb343,4,none⟩=some (.slice A0_4 l0_4.length c0_4):=(aG BK343.out 4).trans rfl
             have hfz45_0:=aH BK343.out 0
             have hfz45_1:=aH BK343.out 1
             have hfz45_2:=aH BK343.out 2
             have hfz45_3:=aH BK343.out 3
             have hfz45_4:=aH BK343.out 4
             have p348:0≤(x5_2:Int):=of_decide_eq_true (by first|(with_reducible assumption)|assumption)
             have q348:x5_2<(l0_4.length:Int):=of_decide_eq_true (by first|(with_reducible assumption)|assumption)
             obtain⟨ad348,A348_1,c348_1,e348,hx348_0,hx348_1,hl348_1,hi348_1⟩:=at_T35 HR0_4.out x5_2 p348 q348
             cases e348
             replace hx348_0:=(HB.out.cell (World.block_lt_of_cell? w _ hx348_0)).trans hx348_0
             replace hx348_1:=(HB.out.cell (World.block_lt_of_cell? w _ hx348_1)).trans hx348_1
             have HR348_1:=aM hi348_1
             have HC348_1:=aM hl348_1
             clear hi348_1 hl348_1
             replace p348:=eq_true p348
             replace q348:=eq_true q348
             have p353:0≤(x5_2:Int):=of_decide_eq_true (by first|(with_reducible assumption)|assumption)
             have q353:x5_2<(l0_4.length:Int):=of_decide_eq_true (by first|(with_reducible assumption)|assumption)
             obtain⟨ad353,A353_1,c353_1,e353,hx353_0,hx353_1,hl353_1,hi353_1⟩:=at_T35 HR0_4.out x5_2 p353 q353
             obtain rfl:ad348=ad353:=(by injection e353)
             replace hx353_0:=(HB.out.cell (World.block_lt_of_cell? w _ hx353_0)).trans hx353_0
             replace hx353_1:=(HB.out.cell (World.block_lt_of_cell? w _ hx353_1)).trans hx353_1
             have HR353_1:=aM hi353_1
             have HC353_1:=aM hl353_1
             clear hi353_1 hl353_1
             replace p353:=eq_true p353
             replace q353:=eq_true q353
             have ea_:=Option.some.inj (hx348_1.symm.trans hx353_1)
             injection ea_ with ea_ en_ ec_
             subst ea_
             subst ec_
             clear en_
             obtain⟨Ao46,co46,eo46⟩:=Kd.R_slice HO_3.out
             subst eo46
             have p354:0≤(((rd_T35 l0_4 x5_2).f0):Int):=of_decide_eq_true (by first|(with_reducible assumption)|assumption)
             have q354:((rd_T35 l0_4 x5_2).f0)<(x3_2.length:Int):=of_decide_eq_true (by first|(with_reducible assumption)|assumption)
             obtain⟨ad354,e354,hx354_0⟩:=Kd.at_bool (aF HO_3.out).2.2 ((rd_T35 l0_4 x5_2).f0) p354 q354
             (try rw [←Nbq40.out] at hx354_0)
             cases e354
             replace p354:=eq_true p354
             replace q354:=eq_true q354
             have p355:0≤(x5_2:Int):=of_decide_eq_true (by first|(with_reducible assumption)|assumption)
             have q355:x5_2<(l0_4.length:Int):=of_decide_eq_true (by first|(with_reducible assumption)|assumption)
             obtain⟨ad355,A355_1,c355_1,e355,hx355_0,hx355_1,hl355_1,hi355_1⟩:=at_T35 HR0_4.out x5_2 p355 q355
             obtain rfl:ad348=ad355:=(by injection e355)
             replace hx355_0:=(HB.out.cell (World.block_lt_of_cell? w _ hx355_0)).trans hx355_0
             replace hx355_1:=(HB.out.cell (World.block_lt_of_cell? w _ hx355_1)).trans hx355_1
             have HR355_1:=aM hi355_1
             have HC355_1:=aM hl355_1
             clear hi355_1 hl355_1
             replace p355:=eq_true p355
             replace q355:=eq_true q355
             have ea_:=Option.some.inj (hx348_1.symm.trans hx355_1)
             injection ea_ with ea_ en_ ec_
             subst ea_
             subst ec_
             clear en_
             have p44:0≤(((rd_T35 l0_4 x5_2).f0):Int):=of_decide_eq_true (by first|(with_reducible assumption)|assumption)
             have q44:(((rd_T35 l0_4 x5_2).f0):Int)<((x3_2.length:Int):Int):=of_decide_eq_true (by first|(with_reducible assumption)|assumption)
             obtain⟨go44,co44,eo44,gb44,gl44,cl44,HG44⟩:=Kd.R_form HO_3.out (by omega)
             (first|cases eo44|(injection eo44 with ea_ en_ ec_;(first|subst ea_|(injection ea_ with ea_;subst ea_));subst ec_;clear en_))
             have GB44:=aM gb44
             have GG44:=aM HG44
             clear gb44 gl44 HG44
             (first|simp only [add_plain] at hx354_0|skip)
             obtain⟨hx44_0,hf44_0⟩:=Kd.R_celln false HO_3.out (((rd_T35 l0_4 x5_2).f0):Int) p44 q44
             replace p44:=eq_true p44
             replace q44:=eq_true q44
             have HP47:=Kd.R_putg HO_3.out (((rd_T35 l0_4 x5_2).f0):Int) true
             go_wp2_with (first|((with_reducible refine gate_store (t:=4) (p:=77) rfl ?_);refine store_event (t:=4) (p:=77) (v:=?vo_w48) (w1:=(wr.setCell ⟨go44,(((rd_T35 l0_4 x5_2).f0):Int).toNat,none⟩ (.bool true))) ?hg ?ho ?hn ?hr ?_;(case ho=>rfl);(case hg=>rfl);(case hn=>rfl);(case hr=>first|(go_simp;done)|(go_simp;rfl));intro w48 hw;have hg:wr.grownBy w48 (some go44):=(by rw [hw];exact HP47.2);have hp_:Kd.R Kd.bool 4 w48 w.heap.size (fun _=>True) (.slice (some ⟨go44,0,none⟩) x3_2.length co46) y356:=(by rw [hw,Ny356.out];exact HP47.1);clear HP47;have n0_:=aM (hp_);have n1_:=aM (blk_grown (g:=gb343) (o:= .cells #[.slice A0_0 l0_0.length c0_0,.slice A0_1 l0_1.length c0_1,.int .i64 a0_2,.int .i64 a0_3,.slice (some ad348) l0_4.length c0_4] 26 (0,0)) (by(with_reducible repeat(first|refine aJ ?_ _|refine aK ?_|refine aI ?_ _));exact BK343.out) hg (Kd.R_ne HO_3.out BK343.out (by decide)));have n2_:=aM ((by rw [hw];exact aL (HB.out) GB44.out:Below w.heap.size w w48));clear HO_3;clear BK343;clear HB;have HO_3:=n0_;have BK343:=n1_;have HB:=n2_;clear n0_ n1_ n2_;clear hg hw hp_))
             go_roundg k3
             case measure=>have:=HK1.out;have:=HK2.out;have:=HK3.out;omega
             case rel=>exact⟨(y356),(true),(wrap64 (x5_2+1)),(by first|rfl|(simp;done)|(simp [*];done)),(by first|rfl|(simp;done)|(simp [*];done)),H',⟨by have:=HK1.out;have:=HK2.out;have:=HK3.out;omega⟩,⟨by(with_reducible repeat(first|apply aA|apply aB|apply aC));exact HO_3.out⟩,⟨by(with_reducible repeat(first|refine aJ ?_ _|refine aK ?_|refine aI ?_ _));exact BK343.out⟩,⟨by repeat(first|(with_reducible first|exact HB.out|apply aN|apply aP|apply aO|refine aL ?_ GE343.out)|exact HB.out)⟩⟩
           ·replace c37:=Bool.eq_false_iff.mpr c37
            subst c37
            have H1:(regletref13_Empty.l1 k3 x3_2 x4_2 (wrap64 (x5_2+1)) l0_0 l0_1 a0_2 a0_3 l0_4)=some r:=by rw [if_neg (show ¬(false=true) by decide)] at H;exact H
            clear H
            have H:=H1
            clear H1
            have H':=aM H
            clear H
            have hcz49_0:wr.cell? ⟨gb343,0,none⟩=some (.slice A0_0 l0_0.length c0_0):=(aG BK343.out 0).trans rfl
            have hcz49_1:wr.cell? ⟨gb343,1,none⟩=some (.slice A0_1 l0_1.length c0_1):=(aG BK343.out 1).trans rfl
            have hcz49_2:wr.cell? ⟨gb343,2,none⟩=some (.int .i64 a0_2):=(aG BK343.out 2).trans rfl
            have hcz49_3:wr.cell? ⟨gb343,3,none⟩=some (.int .i64 a0_3):=(aG BK343.out 3).trans rfl
            have hcz49_4:wr.cell? ⟨gb343,4,none⟩=some (.slice A0_4 l0_4.length c0_4):=(aG BK343.out 4).trans rfl
            have hfz49_0:=aH BK343.out 0
            have hfz49_1:=aH BK343.out 1
            have hfz49_2:=aH BK343.out 2
            have hfz49_3:=aH BK343.out 3
            have hfz49_4:=aH BK343.out 4
            have p348:0≤(x5_2:Int):=of_decide_eq_true (by first|(with_reducible assumption)|assumption)
            have q348:x5_2<(l0_4.length:Int):=of_decide_eq_true (by first|(with_reducible assumption)|assumption)
            obtain⟨ad348,A348_1,c348_1,e348,hx348_0,hx348_1,hl348_1,hi348_1⟩:=at_T35 HR0_4.out x5_2 p348 q348
            cases e348
            replace hx348_0:=(HB.out.cell (World.block_lt_of_cell? w _ hx348_0)).trans hx348_0
            replace hx348_1:=(HB.out.cell (World.block_lt_of_cell? w _ hx348_1)).trans hx348_1
            have HR348_1:=aM hi348_1
            have HC348_1:=aM hl348_1
            clear hi348_1 hl348_1
            replace p348:=eq_true p348
            replace q348:=eq_true q348
            go_wp2
            go_roundg k3
            case measure=>have:=HK1.out;have:=HK2.out;have:=HK3.out;omega
            case rel=>exact⟨(x3_2),(x4_2),(wrap64 (x5_2+1)),(by first|rfl|(simp;done)|(simp [*];done)),(by first|rfl|(simp;done)|(simp [*];done)),H',⟨by have:=HK1.out;have:=HK2.out;have:=HK3.out;omega⟩,⟨by(with_reducible repeat(first|apply aA|apply aB|apply aC));exact HO_3.out⟩,⟨by(with_reducible repeat(first|refine aJ ?_ _|refine aK ?_|refine aI ?_ _));exact BK343.out⟩,⟨by repeat(first|(with_reducible first|exact HB.out|apply aN|apply aP|apply aO|refine aL ?_ GE343.out)|exact HB.out)⟩⟩
       ·rw [if_neg c13] at H
        have c13b0:decide (x5_2<(l0_4.length:Int))=false:=decide_eq_false c13
        clear c13
        have H':=aM H
        clear H
        have hcz50_0:wr.cell? ⟨gb343,0,none⟩=some (.slice A0_0 l0_0.length c0_0):=(aG BK343.out 0).trans rfl
        have hcz50_1:wr.cell? ⟨gb343,1,none⟩=some (.slice A0_1 l0_1.length c0_1):=(aG BK343.out 1).trans rfl
        have hcz50_2:wr.cell? ⟨gb343,2,none⟩=some (.int .i64 a0_2):=(aG BK343.out 2).trans rfl
        have hcz50_3:wr.cell? ⟨gb343,3,none⟩=some (.int .i64 a0_3):=(aG BK343.out 3).trans rfl
        have hcz50_4:wr.cell? ⟨gb343,4,none⟩=some (.slice A0_4 l0_4.length c0_4):=(aG BK343.out 4).trans rfl
        have hfz50_0:=aH BK343.out 0
        have hfz50_1:=aH BK343.out 1
        have hfz50_2:=aH BK343.out 2
        have hfz50_3:=aH BK343.out 3
        have hfz50_4:=aH BK343.out 4
        go_wp2
        go_roundg k2
        case measure=>have:=HK1.out;have:=HK2.out;omega
        case rel=>exact⟨(x3_2),(x4_2),(by first|rfl|(simp;done)|(simp [*];done)),H',⟨by have:=HK1.out;have:=HK2.out;omega⟩,⟨by(with_reducible repeat(first|apply aA|apply aB|apply aC));exact HO_3.out⟩,⟨by(with_reducible repeat(first|refine aJ ?_ _|refine aK ?_|refine aI ?_ _));exact BK343.out⟩,⟨by repeat(first|(with_reducible first|exact HB.out|apply aN|apply aP|apply aO|refine aL ?_ GE343.out)|exact HB.out)⟩⟩
    ·replace c12:=Bool.eq_false_iff.mpr c12
     subst c12
     have H1:(some x3_1)=some r:=by rw [if_neg (show ¬(false=true) by decide)] at H;exact H
     clear H
     have H:=H1
     clear H1
     obtain rfl:=Option.some.inj H
     go_wp2
     go_ret
     exact⟨_,by first|rfl|(simp [errW_none,errW_some]<;>rfl)|(simp [*,errW_none,errW_some]<;>rfl),by(with_reducible repeat(first|apply aA|apply aB|apply aC));exact HO_3.out,by repeat(first|(with_reducible first|exact HB.out|apply aN|apply aP|apply aO|refine aL ?_ GE343.out)|exact HB.out)⟩
 ·replace c3:=Bool.eq_false_iff.mpr c3
  subst c3
  have H1:(some ([]:List Bool))=some r:=by rw [if_neg (show ¬(false=true) by decide)] at H;exact H
  clear H
  have H:=H1
  clear H1
  obtain rfl:=Option.some.inj H
  go_enter Try.func45,Try.ntmps45
  go_wp2_with (first|((with_reducible refine bJ (N:=1) rfl ?_);refine box_event ?hg (N:=1) ?hd (cs:=#[.slice A0_0 l0_0.length c0_0,.slice A0_1 l0_1.length c0_1,.int .i64 a0_2,.int .i64 a0_3,.slice A0_4 l0_4.length c0_4]) (t:=26) ?hr ?_;(case hd=>rfl);(case hg=>rfl);(case hr=>first|(go_simp;done)|(go_simp;rfl));intro gb343 hg w51 hbox hb;have n0_:=aM (bG (by repeat(first|(with_reducible first|exact HB.out|apply aN|apply aP|apply aO)|exact HB.out)) hb);have n1_:=aM (hbox);have n2_:=aM ((by rw [hg];exact(bH (by repeat(first|(with_reducible first|exact HB.out|apply aN|apply aP|apply aO)|exact HB.out))):w.heap.size≤gb343));have n3_:=aM ((by rw [hg];exact(bH (by repeat(first|(with_reducible first|exact HB.out|apply aN|apply aP|apply aO)|exact HB.out))):w.heap.size≤gb343));clear HB;have HB:=n0_;have BK343:=n1_;have GW343:=n2_;have GE343:=n3_;clear n0_ n1_ n2_ n3_;clear hb hbox hg;have hcz52_0:w51.cell? ⟨gb343,0,none⟩=some (.slice A0_0 l0_0.length c0_0):=(aG BK343.out 0).trans rfl;have hcz52_1:w51.cell? ⟨gb343,1,none⟩=some (.slice A0_1 l0_1.length c0_1):=(aG BK343.out 1).trans rfl;have hcz52_2:w51.cell? ⟨gb343,2,none⟩=some (.int .i64 a0_2):=(aG BK343.out 2).trans rfl;have hcz52_3:w51.cell? ⟨gb343,3,none⟩=some (.int .i64 a0_3):=(aG BK343.out 3).trans rfl;have hcz52_4:w51.cell? ⟨gb343,4,none⟩=some (.slice A0_4 l0_4.length c0_4):=(aG BK343.out 4).trans rfl;have hfz52_0:=aH BK343.out 0;have hfz52_1:=aH BK343.out 1;have hfz52_2:=aH BK343.out 2;have hfz52_3:=aH BK343.out 3;have hfz52_4:=aH BK343.out 4)|((with_reducible refine bI (f:=30) rfl ?_);refine goesL_ (some 10) rfl rfl Try.func30 (by kernel_rfl) rfl #[.agg #[.slice A0_0 l0_0.length c0_0,.slice A0_1 l0_1.length c0_1,.int .i64 a0_2,.int .i64 a0_3,.slice A0_4 l0_4.length c0_4]] rfl (by(try simp only [List.map_toArray,List.map_cons,List.map_nil]);first|done|rfl|(simp only [List.length_drop,List.length_take];rfl)) ?_;(with_reducible refine(regletref13_Right.calls k _ _ l0_0 _ _ l0_1 a0_2 a0_3 _ _ l0_4 false _ ?side1 ?side2 ?side3 ?side4 ?side5 ?side6 A2.out).mono ?_);(case side1=>repeat(first|exact(bD HR0_0.out HB.out)|(with_reducible refine Kd.C_alloc ?_ _)|(with_reducible refine Kd.C_drewN ?_ _)|(with_reducible refine bC ?_)));(case side2=>exact HC0_0.out);(case side3=>repeat(first|exact(bD HR0_1.out HB.out)|(with_reducible refine Kd.C_alloc ?_ _)|(with_reducible refine Kd.C_drewN ?_ _)|(with_reducible refine bC ?_)));(case side4=>exact HC0_1.out);(case side5=>repeat(first|exact(bD HR0_4.out HB.out)|(with_reducible refine Kd.C_alloc ?_ _)|(with_reducible refine Kd.C_drewN ?_ _)|(with_reducible refine bC ?_)));(case side6=>exact HC0_4.out);rintro e w53 ⟨rfl,hb⟩;refine⟨_,rfl,?_⟩;have n0_:=aM (bF (g:=gb343) (o:= .cells #[.slice A0_0 l0_0.length c0_0,.slice A0_1 l0_1.length c0_1,.int .i64 a0_2,.int .i64 a0_3,.slice A0_4 l0_4.length c0_4] 26 (0,0)) (by(with_reducible repeat(first|refine aJ ?_ _|refine aK ?_|refine aI ?_ _));exact BK343.out) hb);have n1_:=aM (bG (by repeat(first|(with_reducible first|exact HB.out|apply aN|apply aP|apply aO|refine aL ?_ GE343.out)|exact HB.out)) hb);clear BK343;clear HB;have BK343:=n0_;have HB:=n1_;clear n0_ n1_;(try clear hb);(try clear hb2);(try clear hk);(try clear hi)))
  go_ret
  exact⟨_,by first|rfl|(simp [errW_none,errW_some]<;>rfl)|(simp [*,errW_none,errW_some]<;>rfl),by first|exact Kd.R_nil _ _ _ _ _|exact Kd.N_nil _ _ _ _ _|exact Kd.V_nil _ _ _ _ _|exact Kd.Q_nil _ _ _ _ _|exact Kd.S_nil _ _ _ _ _,by repeat(first|(with_reducible first|exact HB.out|apply aN|apply aP|apply aO|refine aL ?_ GE343.out)|exact HB.out)⟩
end Go.Proofs.Ytapjfnfengefpaa.P
end

section
namespace Go.Proofs.Ytapjfnfengefpaa.P
open Go.RowKit Go.Proofs.YtapjfnfengefpaaW.PrintWords Go.Proofs.YtapjfnfengefpaaW.PrintLast Go.Proofs.YtapjfnfengefpaaW.PrintMore Go.Proofs.Ytapjfnfengefpaa.R
set_option linter.unusedVariables false
set_option linter.unusedSimpArgs false
def regletref13_first.l1 (l0_0:List ByteArray) (l0_1:List (S72)) (a0_2:Int) (a0_3:Int) (l0_4:List (S35)):Nat→List (List Bool)→List Bool→Bool→Int→Option (Bool×List (List Bool))
 |0,_,_,_,_=>none
 |k+1,out,em,more,i=>
  if i<(l0_4.length:Int) then
   if 0≤i then
    (regletref13_begins.f k l0_0 l0_1 a0_2 a0_3 l0_4 (rd_T35 l0_4 i).f1 out em).bind fun m=>
     if 0≤(rd_T35 l0_4 i).f0 then
      if(rd_T35 l0_4 i).f0<(out.length:Int) then
       (regletref13_join.f k (out.getD (rd_T35 l0_4 i).f0.toNat []) m.1).bind fun b=>
        regletref13_first.l1 l0_0 l0_1 a0_2 a0_3 l0_4 k (out.set (rd_T35 l0_4 i).f0.toNat b.2) em (if b.1=true then true else more) (wrap64 (i+1))
      else none
     else none
   else none
  else some (more,out)
def regletref13_first.l0 (l0_0:List ByteArray) (l0_1:List (S72)) (a0_2:Int) (a0_3:Int) (l0_4:List (S35)):Nat→List (List Bool)→List Bool→Bool→Option (List (List Bool))
 |0,_,_,_=>none
 |k+1,out,em,more=>if more=true then(regletref13_first.l1 l0_0 l0_1 a0_2 a0_3 l0_4 k out em false 0).bind fun r=>regletref13_first.l0 l0_0 l0_1 a0_2 a0_3 l0_4 k r.2 em r.1 else some out
def regletref13_first.f (k:Nat) (l0_0:List ByteArray) (l0_1:List (S72)) (a0_2:Int) (a0_3:Int) (l0_4:List (S35)):Option (List (List Bool)):=
 (regletref13_marks.f k l0_0 l0_1 a0_2 a0_3 l0_4).bind fun out=>(regletref13_Empty.f k l0_0 l0_1 a0_2 a0_3 l0_4).bind fun em=>regletref13_first.l0 l0_0 l0_1 a0_2 a0_3 l0_4 k out em true
set_option maxHeartbeats 2000000 in
set_option maxRecDepth 100000 in
theorem regletref13_first.calls (k:Nat) (A0_0:Option Addr) (c0_0:Nat) (l0_0:List ByteArray) (A0_1:Option Addr) (c0_1:Nat) (l0_1:List (S72)) (a0_2:Int) (a0_3:Int) (A0_4:Option Addr) (c0_4:Nat) (l0_4:List (S35)) (r:List (List Bool)) (w:World) (hr0_0:Kd.C Kd.string w A0_0 l0_0.length l0_0) (hc0_0:l0_0.length≤c0_0) (hr0_1:Kd.C k72 w A0_1 l0_1.length l0_1) (hc0_1:l0_1.length≤c0_1) (hr0_4:Kd.C k35 w A0_4 l0_4.length l0_4) (hc0_4:l0_4.length≤c0_4) (h:regletref13_first.f k l0_0 l0_1 a0_2 a0_3 l0_4=some r):
 Calls Try.prog 44 #[.agg #[.slice A0_0 l0_0.length c0_0,.slice A0_1 l0_1.length c0_1,.int .i64 a0_2,.int .i64 a0_3,.slice A0_4 l0_4.length c0_4]] w fun e w'=>∃v0_:Value,e= .returned (v0_)∧Kd.S (Kd.slice 4 Kd.bool) 90 w' w.heap.size (fun _=>True) v0_ r∧Below w.heap.size w w':=by
 obtain⟨m0,hm0,h2⟩:=Option.bind_eq_some_iff.1 h
 clear h
 obtain⟨em,hem,h3⟩:=Option.bind_eq_some_iff.1 h2
 clear h2
 have HM:=aM hm0
 have HE:=aM hem
 have HL:=aM h3
 clear h3 hm0 hem
 have HA1:Aside0 (Below w.heap.size w (w.alloc (.cells #[.slice A0_0 l0_0.length c0_0,.slice A0_1 l0_1.length c0_1,.int .i64 a0_2,.int .i64 a0_3,.slice A0_4 l0_4.length c0_4] 26))):=⟨(Below.refl _ w).alloc (Nat.le_refl _) _⟩
 have HA2:Aside0 ((w.alloc (.cells #[.slice A0_0 l0_0.length c0_0,.slice A0_1 l0_1.length c0_1,.int .i64 a0_2,.int .i64 a0_3,.slice A0_4 l0_4.length c0_4] 26)).heap[w.heap.size]?=some (.cells #[.slice A0_0 l0_0.length c0_0,.slice A0_1 l0_1.length c0_1,.int .i64 a0_2,.int .i64 a0_3,.slice A0_4 l0_4.length c0_4] 26 (0,0))):=⟨by simpa using heap_alloc_new w _⟩
 go_enter Try.func44,Try.ntmps44
 go_wp2_with (go_at_call 43;(with_reducible refine(regletref13_marks.calls k A0_0 c0_0 l0_0 A0_1 c0_1 l0_1 a0_2 a0_3 A0_4 c0_4 l0_4 m0 _ (bD hr0_0 HA1.out) hc0_0 (bD hr0_1 HA1.out) hc0_1 (bD hr0_4 HA1.out) hc0_4 HM.out).mono ?_);rintro e w1 ⟨v1,rfl,hS1,hb1⟩;have HS1:=aM hS1;have HB1:=aM hb1;clear hS1 hb1;have BK1:Aside0 (w1.heap[w.heap.size]?=some (.cells #[.slice A0_0 l0_0.length c0_0,.slice A0_1 l0_1.length c0_1,.int .i64 a0_2,.int .i64 a0_3,.slice A0_4 l0_4.length c0_4] 26 (0,0))):=⟨(HB1.out.block _ (by simp)).trans HA2.out⟩;have BL1:Aside0 (Below w.heap.size w w1):=⟨HA1.out.trans (HB1.out.mono (by simp))⟩;have SZ1:Aside0 (w.heap.size<w1.heap.size):=⟨by have:=HB1.out.size;simp at this;omega⟩;have HS2:Aside0 (Kd.S (Kd.slice 4 Kd.bool) 90 w1 w.heap.size (fun k_=>w.heap.size<k_∧k_<w1.heap.size) v1 m0):=⟨Kd.S_mono (Kd.S_lower (Kd.S_bound HS1.out) (by simp)) (fun k_ hk=>by have:=hk.2.1;have:=hk.2.2.1;simp at *;omega)⟩;clear HS1 HB1 HA1 HA2 HM;have q0:w1.cell? ⟨w.heap.size,0,none⟩=some (.slice A0_0 l0_0.length c0_0):=(aG BK1.out 0).trans rfl;have q1:w1.cell? ⟨w.heap.size,1,none⟩=some (.slice A0_1 l0_1.length c0_1):=(aG BK1.out 1).trans rfl;have q2:w1.cell? ⟨w.heap.size,2,none⟩=some (.int .i64 a0_2):=(aG BK1.out 2).trans rfl;have q3:w1.cell? ⟨w.heap.size,3,none⟩=some (.int .i64 a0_3):=(aG BK1.out 3).trans rfl;have q4:w1.cell? ⟨w.heap.size,4,none⟩=some (.slice A0_4 l0_4.length c0_4):=(aG BK1.out 4).trans rfl)
 go_wp2_with (go_at_call 45;(with_reducible refine(regletref13_Empty.calls k A0_0 c0_0 l0_0 A0_1 c0_1 l0_1 a0_2 a0_3 A0_4 c0_4 l0_4 em _ (bD hr0_0 BL1.out) hc0_0 (bD hr0_1 BL1.out) hc0_1 (bD hr0_4 BL1.out) hc0_4 HE.out).mono ?_);rintro e w2 ⟨v2,rfl,hR2,hb2⟩;have HR2:=aM hR2;have HB2:=aM hb2;clear hR2 hb2 q0 q1 q2 q3 q4;have BK2:Aside0 (w2.heap[w.heap.size]?=some (.cells #[.slice A0_0 l0_0.length c0_0,.slice A0_1 l0_1.length c0_1,.int .i64 a0_2,.int .i64 a0_3,.slice A0_4 l0_4.length c0_4] 26 (0,0))):=⟨(HB2.out.block _ SZ1.out).trans BK1.out⟩;have BL2:Aside0 (Below w.heap.size w w2):=⟨BL1.out.trans (HB2.out.mono (Nat.le_of_lt SZ1.out))⟩;have HS3:Aside0 (Kd.S (Kd.slice 4 Kd.bool) 90 w2 w.heap.size (fun k_=>w.heap.size<k_∧k_<w1.heap.size) v1 m0):=⟨Kd.S_below HS2.out HB2.out⟩;have HR3:Aside0 (Kd.R Kd.bool 4 w2 w.heap.size (fun k_=>w1.heap.size≤k_) v2 em):=⟨Kd.R_mono (bL (Kd.R_bound HR2.out) (Nat.le_of_lt SZ1.out)) (fun k_ hk=>hk.2.1)⟩;have SZ2:Aside0 (w1.heap.size≤w2.heap.size):=⟨HB2.out.size⟩;clear BK1 BL1 HS2 HR2 HB2 HE)
 obtain⟨A1,c1,rfl⟩:=Kd.S_slice HS3.out
 obtain⟨A2,c2,rfl⟩:=Kd.R_slice HR3.out
 go_loopg [5] k (fun kq v5 wr=>∃(m:List (List Bool)) (more:Bool),v5= .bool more∧Aside0 (m.length=m0.length)∧Aside0 (regletref13_first.l0 l0_0 l0_1 a0_2 a0_3 l0_4 kq m em more=some r)∧Aside0 (kq≤k)∧Aside0 (wr.heap[w.heap.size]?=some (.cells #[.slice A0_0 l0_0.length c0_0,.slice A0_1 l0_1.length c0_1,.int .i64 a0_2,.int .i64 a0_3,.slice A0_4 l0_4.length c0_4] 26 (0,0)))∧Aside0 (Below w.heap.size w wr)∧Aside0 (w1.heap.size≤wr.heap.size)∧Aside0 (Kd.S (Kd.slice 4 Kd.bool) 90 wr w.heap.size (fun k_=>w.heap.size<k_∧k_<w1.heap.size) (.slice A1 m0.length c1) m)∧Aside0 (Kd.R Kd.bool 4 wr w.heap.size (fun k_=>w1.heap.size≤k_) (.slice A2 em.length c2) em))
 case atStart=>exact⟨m0,true,rfl,⟨rfl⟩,HL,⟨Nat.le_refl _⟩,BK2,BL2,SZ2,HS3,HR3⟩
 case round=>
  clear BK2 BL2 SZ2 HS3 HR3 HL
  obtain⟨m,more,rfl,LN,HA,HK,BK,BL,SZ,HS,HR⟩:=hrel
  cases gk with
  |zero=>exact absurd HA.out (by simp [regletref13_first.l0])
  |succ k1=>
   have H:=HA.out
   clear HA
   simp only [regletref13_first.l0] at H
   cases more with
   |false=>
    obtain rfl:=Option.some.inj (by simpa using H)
    clear H
    go_wp2
    go_ret
    exact⟨_,rfl,Kd.S_mono HS.out (fun _ _=>trivial),BL.out⟩
   |true=>
    rw [if_pos rfl] at H
    obtain⟨⟨mr,outr⟩,h1,h2⟩:=Option.bind_eq_some_iff.1 H
    clear H
    have H1:=aM h1
    have H2:=aM h2
    clear h1 h2
    go_wp2
    obtain⟨wo,ewo⟩:∃wo:World,wo=wr:=⟨_,rfl⟩
    subst ewo
    go_loopg [5,6] k1 (fun kq v5 v6 wr=>∃(m:List (List Bool)) (more:Bool) (i:Int),v5= .bool more∧v6= .int .i64 i∧Aside0 (m.length=m0.length)∧Aside0 (regletref13_first.l1 l0_0 l0_1 a0_2 a0_3 l0_4 kq m em more i=some (mr,outr))∧Aside0 (kq≤k1)∧Aside0 (wr.heap[w.heap.size]?=some (.cells #[.slice A0_0 l0_0.length c0_0,.slice A0_1 l0_1.length c0_1,.int .i64 a0_2,.int .i64 a0_3,.slice A0_4 l0_4.length c0_4] 26 (0,0)))∧Aside0 (Below w.heap.size w wr)∧Aside0 (w1.heap.size≤wr.heap.size)∧Aside0 (Kd.S (Kd.slice 4 Kd.bool) 90 wr w.heap.size (fun k_=>w.heap.size<k_∧k_<w1.heap.size) (.slice A1 m0.length c1) m)∧Aside0 (Kd.R Kd.bool 4 wr w.heap.size (fun k_=>w1.heap.size≤k_) (.slice A2 em.length c2) em))
    case atStart=>exact⟨m,false,0,rfl,rfl,LN,H1,⟨Nat.le_refl _⟩,BK,BL,SZ,HS,HR⟩
    case round=>
     clear H1 LN BK BL SZ HS HR
     obtain⟨m,more,i,rfl,rfl,LN,HA,HK2,BK,BL,SZ,HS,HR⟩:=hrel
     cases gk with
     |zero=>exact absurd HA.out (by simp [regletref13_first.l1])
     |succ k2=>
      have H:=HA.out
      clear HA
      simp only [regletref13_first.l1] at H
      have q0:wr.cell? ⟨w.heap.size,0,none⟩=some (.slice A0_0 l0_0.length c0_0):=(aG BK.out 0).trans rfl
      have q1:wr.cell? ⟨w.heap.size,1,none⟩=some (.slice A0_1 l0_1.length c0_1):=(aG BK.out 1).trans rfl
      have q2:wr.cell? ⟨w.heap.size,2,none⟩=some (.int .i64 a0_2):=(aG BK.out 2).trans rfl
      have q3:wr.cell? ⟨w.heap.size,3,none⟩=some (.int .i64 a0_3):=(aG BK.out 3).trans rfl
      have q4:wr.cell? ⟨w.heap.size,4,none⟩=some (.slice A0_4 l0_4.length c0_4):=(aG BK.out 4).trans rfl
      by_cases hi:i<(l0_4.length:Int)
      ·rw [if_pos hi] at H
       by_cases hi0:0≤i
       rotate_left
       ·rw [if_neg hi0] at H;exact absurd H (by simp)
       rw [if_pos hi0] at H
       obtain⟨⟨bm,be⟩,hbg,H3⟩:=Option.bind_eq_some_iff.1 H
       clear H
       have HG:=aM hbg
       clear hbg
       simp only at H3
       by_cases hl0:0≤(rd_T35 l0_4 i).f0
       rotate_left
       ·rw [if_neg hl0] at H3;exact absurd H3 (by simp)
       rw [if_pos hl0] at H3
       by_cases hl1:(rd_T35 l0_4 i).f0<(m.length:Int)
       rotate_left
       ·rw [if_neg hl1] at H3;exact absurd H3 (by simp)
       rw [if_pos hl1] at H3
       obtain⟨⟨jb,jr⟩,hj,H4⟩:=Option.bind_eq_some_iff.1 H3
       clear H3
       simp only at H4
       have HJ:=aM hj
       have HN:=aM H4
       clear hj H4
       have AT:Aside0 (∀W:World,Below w.heap.size w W→∃ad A1 c1,A0_4=some ad∧W.cell? (ad.add (i.toNat * 2))=some (.int .i64 (rd_T35 l0_4 i).f0)∧W.cell? ⟨(ad.add (i.toNat * 2)).block,(ad.add (i.toNat * 2)).off+1,none⟩=some (.slice A1 (rd_T35 l0_4 i).f1.length c1)∧(rd_T35 l0_4 i).f1.length≤c1∧Kd.C k43 W A1 (rd_T35 l0_4 i).f1.length (rd_T35 l0_4 i).f1):=⟨fun W hW=>at_T35 (bD hr0_4 hW) i hi0 hi⟩
       generalize rd_T35 l0_4 i=p at AT HG HJ HN hl0 hl1
       obtain⟨ad,A3,c3,ead,e0,e1,hle3,hC3⟩:=AT.out wr BL.out
       cases ead
       have d0:decide (i<(l0_4.length:Int))=true:=decide_eq_true hi
       have p0:=eq_true hi0
       have p1:=eq_true hi
       have HI:=aM (And.intro hi hi0)
       have HLL:=aM (And.intro hl0 hl1)
       clear hi hi0 hl0 hl1
       have HC3:=aM hC3
       have HLE3:=aM hle3
       clear hC3 hle3
       go_wp2
       have SZW:Aside0 (w.heap.size<wr.drew.heap.size):=⟨Nat.lt_of_lt_of_le SZ1.out SZ.out⟩
       have KEEP:Aside0 (∀w3:World,Below wr.drew.heap.size wr.drew w3→w3.cell? ⟨w.heap.size,0,none⟩=some (.slice A0_0 l0_0.length c0_0)∧w3.cell? ⟨w.heap.size,1,none⟩=some (.slice A0_1 l0_1.length c0_1)∧w3.cell? ⟨w.heap.size,2,none⟩=some (.int .i64 a0_2)∧w3.cell? ⟨w.heap.size,3,none⟩=some (.int .i64 a0_3)∧w3.cell? ⟨w.heap.size,4,none⟩=some (.slice (some ad) l0_4.length c0_4)∧w3.cell? ⟨(ad.add (i.toNat * 2)).block,(ad.add (i.toNat * 2)).off+1,none⟩=some (.slice A3 p.f1.length c3)):=⟨fun w3 h3=>⟨(h3.cell (p:=⟨w.heap.size,0,none⟩) SZW.out).trans q0,(h3.cell (p:=⟨w.heap.size,1,none⟩) SZW.out).trans q1,(h3.cell (p:=⟨w.heap.size,2,none⟩) SZW.out).trans q2,(h3.cell (p:=⟨w.heap.size,3,none⟩) SZW.out).trans q3,(h3.cell (p:=⟨w.heap.size,4,none⟩) SZW.out).trans q4,(h3.cell (p:=⟨(ad.add (i.toNat * 2)).block,(ad.add (i.toNat * 2)).off+1,none⟩) (World.block_lt_of_cell? wr _ e1)).trans e1⟩⟩
       have hcon:=regletref13_begins.calls k2 A0_0 c0_0 l0_0 A0_1 c0_1 l0_1 a0_2 a0_3 (some ad) c0_4 l0_4 A3 c3 p.f1 A1 c1 m A2 c2 em bm be wr.drew (bD hr0_0 (aO BL.out)) hc0_0 (bD hr0_1 (aO BL.out)) hc0_1 (bD hr0_4 (aO BL.out)) hc0_4 (bD HC3.out (aO (Below.refl _ _))) HLE3.out (by have:=(Kd.S_reads' (aW HS.out)).2.2;exact this) (by rw [LN.out];exact(Kd.S_reads' HS.out).2.1) (aF (aC HR.out)).2.2 (aF HR.out).2.1 HG.out
       rw [LN.out] at hcon
       go_region_held3 (fun w'=>w'.cell? ⟨w.heap.size,0,none⟩=some (.slice A0_0 l0_0.length c0_0)∧w'.cell? ⟨w.heap.size,1,none⟩=some (.slice A0_1 l0_1.length c0_1)∧w'.cell? ⟨w.heap.size,2,none⟩=some (.int .i64 a0_2)∧w'.cell? ⟨w.heap.size,3,none⟩=some (.int .i64 a0_3)∧w'.cell? ⟨w.heap.size,4,none⟩=some (.slice (some ad) l0_4.length c0_4)∧w'.cell? ⟨(ad.add (i.toNat * 2)).block,(ad.add (i.toNat * 2)).off+1,none⟩=some (.slice A3 p.f1.length c3))
        (first|go_keep|exact KEEP.out _ HB3.out)
        (first|(go_at_call 46;(with_reducible refine hcon.mono ?_);rintro e w3 ⟨v3,rfl,hR5,hb3⟩;have HR5:=aM hR5;have HB3:=aM hb3;clear hR5 hb3))
       have BK3:Aside0 (w3.heap[w.heap.size]?=some (.cells #[.slice A0_0 l0_0.length c0_0,.slice A0_1 l0_1.length c0_1,.int .i64 a0_2,.int .i64 a0_3,.slice (some ad) l0_4.length c0_4] 26 (0,0))):=⟨(HB3.out.block _ SZW.out).trans BK.out⟩
       have BL3:Aside0 (Below w.heap.size w w3):=⟨(aO BL.out).trans (HB3.out.mono (Nat.le_of_lt SZW.out))⟩
       have SZ3:Aside0 (w1.heap.size≤w3.heap.size):=⟨Nat.le_trans SZ.out HB3.out.size⟩
       have HS6:=aM (Kd.S_below (aW HS.out) HB3.out)
       have HR6:=aM (aD (aC HR.out) HB3.out)
       obtain⟨A5,c5,rfl⟩:=Kd.R_slice HR5.out
       obtain⟨g,vr,P,eA,hcell,hRow,hP,hback⟩:=S_row rfl HS6.out p.f0 HLL.out.1 HLL.out.2
       cases eA
       generalize m.getD p.f0.toNat []=row at hRow HJ
       obtain⟨A4,c4,rfl⟩:=Kd.R_slice hRow
       obtain⟨ad',A3',c3',ead,e0',e1',_,_⟩:=AT.out w3 BL3.out
       cases ead
       have hcon2:=regletref13_join.calls k2 P _ _ A5 c5 bm jb jr w w3 BL3.out hRow (fun W_ hk=>(aF (Kd.R_step (Kd.R_bound HR5.out) (fun k_ hk1 hk2=>hk.2 k_ hk2 (fun hk3=>by have:=(hP k_ hk3).1.2;have:=hk1.2.1;have:=SZ.out;simp at *;omega)))).2.2) (aF HR5.out).2.1 HJ.out
       have HBK:=aM hback
       have HP:=aM hP
       clear KEEP hback hP hRow HS6 HR5 HB3 hcon e0 e1 q0 q1 q2 q3 q4 BK BL SZ HS HR
       have q4:w3.cell? ⟨w.heap.size,4,none⟩=some (.slice (some ad) l0_4.length c0_4):=(aG BK3.out 4).trans rfl
       have p2:=eq_true HLL.out.1
       have p3:(p.f0<(m0.length:Int))=True:=eq_true (by have:=HLL.out.2;rw [LN.out] at this;exact this)
       cases jb
       all_goals
        go_wp2_with (go_at_call 47;(with_reducible refine hcon2.mono ?_);rintro e w4 ⟨rfl,hR7,hb4,hk4⟩;have HR7:=aM hR7;have HB4:=aM hb4;have HK4:=aM hk4;clear hR7 hb4 hk4 hcon2)
        have BK4:Aside0 (w4.heap[w.heap.size]?=some (.cells #[.slice A0_0 l0_0.length c0_0,.slice A0_1 l0_1.length c0_1,.int .i64 a0_2,.int .i64 a0_3,.slice (some ad) l0_4.length c0_4] 26 (0,0))):=⟨(HK4.out.2 _ (Nat.lt_of_lt_of_le SZ1.out SZ3.out) (fun hk=>by have:=(HP.out _ hk).1.1;omega)).trans BK3.out⟩
        have SZ4:Aside0 (w1.heap.size≤w4.heap.size):=⟨Nat.le_trans SZ3.out HK4.out.1⟩
        have HS7:=aM (HBK.out w4 _ jr HK4.out HR7.out)
        have HR8:Aside0 (Kd.R Kd.bool 4 w4 w.heap.size (fun k_=>w1.heap.size≤k_) (.slice A2 em.length c2) em):=⟨Kd.R_step HR6.out (fun k_ hk hlt=>HK4.out.2 k_ hlt (fun hk3=>by have:=(HP.out _ hk3).1.2;omega))⟩
        clear HBK HP HR7 HK4 HR6 HJ BK3 BL3 SZ3
        go_roundg k2
        case measure=>omega
        case rel=>exact⟨m.set p.f0.toNat jr,_,_,rfl,rfl,⟨by rw [List.length_set];exact LN.out⟩,HN,⟨by have:=HK2.out;omega⟩,BK4,HB4,SZ4,HS7,HR8⟩
      ·rw [if_neg hi] at H
       have he:=Option.some.inj H
       injection he with e1 e2
       subst e1
       subst e2
       clear H
       have d0:decide (i<(l0_4.length:Int))=false:=decide_eq_false hi
       clear hi
       go_wp2
       go_roundg k1
       case measure=>omega
       case rel=>exact⟨m,more,rfl,LN,H2,⟨by have:=HK.out;omega⟩,BK,BL,SZ,HS,HR⟩
def regletref13_Of.f (k:Nat) (l0_0:List ByteArray) (l0_1:List (S72)) (a0_2:Int) (a0_3:Int) (l0_4:List (S35)) (l1:List (S43)):Option (List Int×Bool):=
 (regletref13_Right.f k l0_0 l0_1 a0_2 a0_3 l0_4).bind fun r=>if r=true then if(l0_0.length:Int)=0 then some ([],false) else(regletref13_Right.f k l0_0 l0_1 a0_2 a0_3 [⟨0,l1⟩]).bind fun r2=>if r2=true then(regletref13_first.f k l0_0 l0_1 a0_2 a0_3 l0_4).bind fun f=>(regletref13_Empty.f k l0_0 l0_1 a0_2 a0_3 l0_4).bind fun e=>(regletref13_begins.f k l0_0 l0_1 a0_2 a0_3 l0_4 l1 f e).bind fun y=>(regletref13_list.f k y.1).bind fun z=>some (z,y.2) else some ([],false) else some ([],false)
set_option maxHeartbeats 4000000 in
theorem regletref13_Of.calls (k:Nat) (A0_0:Option Addr) (c0_0:Nat) (l0_0:List ByteArray) (A0_1:Option Addr) (c0_1:Nat) (l0_1:List (S72)) (a0_2:Int) (a0_3:Int) (A0_4:Option Addr) (c0_4:Nat) (l0_4:List (S35)) (A1:Option Addr) (c1:Nat) (l1:List (S43)) (r1:List Int) (r2:Bool) (w:World) (hr0_0:Kd.C Kd.string w A0_0 l0_0.length l0_0) (hc0_0:l0_0.length≤c0_0) (hr0_1:Kd.C k72 w A0_1 l0_1.length l0_1) (hc0_1:l0_1.length≤c0_1) (hr0_4:Kd.C k35 w A0_4 l0_4.length l0_4) (hc0_4:l0_4.length≤c0_4) (hr1:Kd.C k43 w A1 l1.length l1) (hc1:l1.length≤c1) (h:regletref13_Of.f k l0_0 l0_1 a0_2 a0_3 l0_4 l1=some (r1,r2)):
 Calls Try.prog 32 #[.agg #[.slice A0_0 l0_0.length c0_0,.slice A0_1 l0_1.length c0_1,.int .i64 a0_2,.int .i64 a0_3,.slice A0_4 l0_4.length c0_4],.slice A1 l1.length c1] w fun e w'=>∃v0_:Value,e= .returned (.tuple #[v0_,.bool r2])∧Kd.R (Kd.int .i64) 3 w' w.heap.size (fun _=>True) v0_ r1∧Below w.heap.size w w':=by
 obtain⟨rt,hrt,h2⟩:=Option.bind_eq_some_iff.1 h
 have HRT:=aM hrt
 clear h hrt
 have H0:Aside0 (((((w.alloc (.cells #[.slice A0_0 l0_0.length c0_0,.slice A0_1 l0_1.length c0_1,.int .i64 a0_2,.int .i64 a0_3,.slice A0_4 l0_4.length c0_4] 26)).alloc (.cells #[.int .i64 0,.slice A1 l1.length c1] 35)).alloc (.cells #[.slice A0_0 l0_0.length c0_0,.slice A0_1 l0_1.length c0_1,.int .i64 a0_2,.int .i64 a0_3,.slice (some ⟨w.heap.size+1+1+1,0,none⟩) 1 1] 26)).alloc (.cells #[.int .i64 0,.slice A1 l1.length c1] 35)).heap[w.heap.size]?=some (.cells #[.slice A0_0 l0_0.length c0_0,.slice A0_1 l0_1.length c0_1,.int .i64 a0_2,.int .i64 a0_3,.slice A0_4 l0_4.length c0_4] 26 (0,0))):=⟨aI (aI (aI (heap_alloc_new w _) _) _) _⟩
 have H1:Aside0 (((((w.alloc (.cells #[.slice A0_0 l0_0.length c0_0,.slice A0_1 l0_1.length c0_1,.int .i64 a0_2,.int .i64 a0_3,.slice A0_4 l0_4.length c0_4] 26)).alloc (.cells #[.int .i64 0,.slice A1 l1.length c1] 35)).alloc (.cells #[.slice A0_0 l0_0.length c0_0,.slice A0_1 l0_1.length c0_1,.int .i64 a0_2,.int .i64 a0_3,.slice (some ⟨w.heap.size+1+1+1,0,none⟩) 1 1] 26)).alloc (.cells #[.int .i64 0,.slice A1 l1.length c1] 35)).heap[w.heap.size+1+1]?=some (.cells #[.slice A0_0 l0_0.length c0_0,.slice A0_1 l0_1.length c0_1,.int .i64 a0_2,.int .i64 a0_3,.slice (some ⟨w.heap.size+1+1+1,0,none⟩) 1 1] 26 (0,0))):=⟨aI (by have h:=heap_alloc_new ((w.alloc (.cells #[.slice A0_0 l0_0.length c0_0,.slice A0_1 l0_1.length c0_1,.int .i64 a0_2,.int .i64 a0_3,.slice A0_4 l0_4.length c0_4] 26)).alloc (.cells #[.int .i64 0,.slice A1 l1.length c1] 35)) (.cells #[.slice A0_0 l0_0.length c0_0,.slice A0_1 l0_1.length c0_1,.int .i64 a0_2,.int .i64 a0_3,.slice (some ⟨w.heap.size+1+1+1,0,none⟩) 1 1] 26);simp only [World.size_alloc] at h;exact h) _⟩
 have HC:Aside0 (∀W,Below (w.heap.size+4) ((((w.alloc (.cells #[.slice A0_0 l0_0.length c0_0,.slice A0_1 l0_1.length c0_1,.int .i64 a0_2,.int .i64 a0_3,.slice A0_4 l0_4.length c0_4] 26)).alloc (.cells #[.int .i64 0,.slice A1 l1.length c1] 35)).alloc (.cells #[.slice A0_0 l0_0.length c0_0,.slice A0_1 l0_1.length c0_1,.int .i64 a0_2,.int .i64 a0_3,.slice (some ⟨w.heap.size+1+1+1,0,none⟩) 1 1] 26)).alloc (.cells #[.int .i64 0,.slice A1 l1.length c1] 35)) W→W.cell? ⟨w.heap.size,0,none⟩=some (.slice A0_0 l0_0.length c0_0)∧W.cell? ⟨w.heap.size,1,none⟩=some (.slice A0_1 l0_1.length c0_1)∧W.cell? ⟨w.heap.size,2,none⟩=some (.int .i64 a0_2)∧W.cell? ⟨w.heap.size,3,none⟩=some (.int .i64 a0_3)∧W.cell? ⟨w.heap.size,4,none⟩=some (.slice A0_4 l0_4.length c0_4)):=⟨fun W hW=>⟨(aG ((hW.block _ (by omega)).trans H0.out) 0).trans rfl,(aG ((hW.block _ (by omega)).trans H0.out) 1).trans rfl,(aG ((hW.block _ (by omega)).trans H0.out) 2).trans rfl,(aG ((hW.block _ (by omega)).trans H0.out) 3).trans rfl,(aG ((hW.block _ (by omega)).trans H0.out) 4).trans rfl⟩⟩
 have HD:Aside0 (∀W,Below (w.heap.size+4) ((((w.alloc (.cells #[.slice A0_0 l0_0.length c0_0,.slice A0_1 l0_1.length c0_1,.int .i64 a0_2,.int .i64 a0_3,.slice A0_4 l0_4.length c0_4] 26)).alloc (.cells #[.int .i64 0,.slice A1 l1.length c1] 35)).alloc (.cells #[.slice A0_0 l0_0.length c0_0,.slice A0_1 l0_1.length c0_1,.int .i64 a0_2,.int .i64 a0_3,.slice (some ⟨w.heap.size+1+1+1,0,none⟩) 1 1] 26)).alloc (.cells #[.int .i64 0,.slice A1 l1.length c1] 35)) W→W.cell? ⟨w.heap.size+1+1,0,none⟩=some (.slice A0_0 l0_0.length c0_0)∧W.cell? ⟨w.heap.size+1+1,1,none⟩=some (.slice A0_1 l0_1.length c0_1)∧W.cell? ⟨w.heap.size+1+1,2,none⟩=some (.int .i64 a0_2)∧W.cell? ⟨w.heap.size+1+1,3,none⟩=some (.int .i64 a0_3)∧W.cell? ⟨w.heap.size+1+1,4,none⟩=some (.slice (some ⟨w.heap.size+1+1+1,0,none⟩) 1 1)):=⟨fun W hW=>⟨(aG ((hW.block _ (by omega)).trans H1.out) 0).trans rfl,(aG ((hW.block _ (by omega)).trans H1.out) 1).trans rfl,(aG ((hW.block _ (by omega)).trans H1.out) 2).trans rfl,(aG ((hW.block _ (by omega)).trans H1.out) 3).trans rfl,(aG ((hW.block _ (by omega)).trans H1.out) 4).trans rfl⟩⟩
 have HA4:Aside0 (Below w.heap.size w ((((w.alloc (.cells #[.slice A0_0 l0_0.length c0_0,.slice A0_1 l0_1.length c0_1,.int .i64 a0_2,.int .i64 a0_3,.slice A0_4 l0_4.length c0_4] 26)).alloc (.cells #[.int .i64 0,.slice A1 l1.length c1] 35)).alloc (.cells #[.slice A0_0 l0_0.length c0_0,.slice A0_1 l0_1.length c0_1,.int .i64 a0_2,.int .i64 a0_3,.slice (some ⟨w.heap.size+1+1+1,0,none⟩) 1 1] 26)).alloc (.cells #[.int .i64 0,.slice A1 l1.length c1] 35))):=⟨aN (aN (aN (aN (Below.refl _ w) _) _) _) _⟩
 have HT:Aside0 (∀W,Below (w.heap.size+4) ((((w.alloc (.cells #[.slice A0_0 l0_0.length c0_0,.slice A0_1 l0_1.length c0_1,.int .i64 a0_2,.int .i64 a0_3,.slice A0_4 l0_4.length c0_4] 26)).alloc (.cells #[.int .i64 0,.slice A1 l1.length c1] 35)).alloc (.cells #[.slice A0_0 l0_0.length c0_0,.slice A0_1 l0_1.length c0_1,.int .i64 a0_2,.int .i64 a0_3,.slice (some ⟨w.heap.size+1+1+1,0,none⟩) 1 1] 26)).alloc (.cells #[.int .i64 0,.slice A1 l1.length c1] 35)) W→Kd.C k35 W (some ⟨w.heap.size+1+1+1,0,none⟩) [(⟨0,l1⟩:S35)].length [(⟨0,l1⟩:S35)]):=⟨fun W hW=>by
  have hb:W.heap[w.heap.size+1+1+1]?=some (.cells #[.int .i64 0,.slice A1 l1.length c1] 35 (0,0)):=by
   have h4:=heap_alloc_new (((w.alloc (.cells #[.slice A0_0 l0_0.length c0_0,.slice A0_1 l0_1.length c0_1,.int .i64 a0_2,.int .i64 a0_3,.slice A0_4 l0_4.length c0_4] 26)).alloc (.cells #[.int .i64 0,.slice A1 l1.length c1] 35)).alloc (.cells #[.slice A0_0 l0_0.length c0_0,.slice A0_1 l0_1.length c0_1,.int .i64 a0_2,.int .i64 a0_3,.slice (some ⟨w.heap.size+1+1+1,0,none⟩) 1 1] 26)) (.cells #[.int .i64 0,.slice A1 l1.length c1] 35)
   simp only [World.size_alloc] at h4
   exact(hW.block _ (by omega)).trans h4
  refine⟨rfl,by simp,fun _=>⟨_,rfl,fun j p hj=>?_⟩⟩
  have hj0:j=0:=by
   cases j with
   |zero=>rfl
   |succ j=>simp at hj
  subst hj0
  obtain rfl:(⟨0,l1⟩:S35)=p:=by simpa using hj
  refine⟨_,rfl,k35_mk W ⟨0,l1⟩ hc1 (bD hr1 (HA4.out.trans (hW.mono (by omega)))),fun i u hi=>?_⟩
  rw [Nat.zero_mul,Nat.zero_add,add_plain,aG hb]
  simpa using hi⟩
 cases rt with
 |false=>
  rw [if_neg (by simp)] at h2
  obtain⟨rfl,rfl⟩:=Prod.mk.inj (Option.some.inj h2)
  clear h2
  go_enter Try.func32,Try.ntmps32
  go_wp2_with (go_at_call 30;(with_reducible refine(regletref13_Right.calls k A0_0 c0_0 l0_0 A0_1 c0_1 l0_1 a0_2 a0_3 A0_4 c0_4 l0_4 false _ (bD hr0_0 HA4.out) hc0_0 (bD hr0_1 HA4.out) hc0_1 (bD hr0_4 HA4.out) hc0_4 HRT.out).mono ?_);rintro e w1 ⟨rfl,hb1⟩)
  go_ret2
  exact⟨_,rfl,Kd.R_nil _ _ _ _ _,HA4.out.trans (hb1.mono (by simp;omega))⟩
 |true=>
  rw [if_pos rfl] at h2
  by_cases hz:(l0_0.length:Int)=0
  ·rw [if_pos hz] at h2
   obtain⟨rfl,rfl⟩:=Prod.mk.inj (Option.some.inj h2)
   clear h2
   have hzb:((l0_0.length:Int)==0)=true:=beq_iff_eq.mpr hz
   have hzn:(l0_0.length=0)=True:=eq_true (by omega)
   clear hz
   go_enter Try.func32,Try.ntmps32
   go_wp2_with (first|(go_at_call 30;(with_reducible refine(regletref13_Right.calls k A0_0 c0_0 l0_0 A0_1 c0_1 l0_1 a0_2 a0_3 A0_4 c0_4 l0_4 true _ (bD hr0_0 HA4.out) hc0_0 (bD hr0_1 HA4.out) hc0_1 (bD hr0_4 HA4.out) hc0_4 HRT.out).mono ?_);rintro e w1 ⟨rfl,hb1⟩;have HB1:Aside0 (Below (w.heap.size+4) ((((w.alloc (.cells #[.slice A0_0 l0_0.length c0_0,.slice A0_1 l0_1.length c0_1,.int .i64 a0_2,.int .i64 a0_3,.slice A0_4 l0_4.length c0_4] 26)).alloc (.cells #[.int .i64 0,.slice A1 l1.length c1] 35)).alloc (.cells #[.slice A0_0 l0_0.length c0_0,.slice A0_1 l0_1.length c0_1,.int .i64 a0_2,.int .i64 a0_3,.slice (some ⟨w.heap.size+1+1+1,0,none⟩) 1 1] 26)).alloc (.cells #[.int .i64 0,.slice A1 l1.length c1] 35)) w1):=⟨hb1.mono (by simp)⟩;have HB01:Aside0 (Below w.heap.size w w1):=⟨HA4.out.trans (HB1.out.mono (by omega))⟩;clear hb1;obtain⟨q0,q1,q2,q3,q4⟩:=HC.out w1 HB1.out;obtain⟨t0,t1,t2,t3,t4⟩:=HD.out w1 HB1.out))
   go_ret2
   exact⟨_,rfl,Kd.R_nil _ _ _ _ _,HB01.out⟩
  ·rw [if_neg hz] at h2
   have hzb:((l0_0.length:Int)==0)=false:=beq_eq_false_iff_ne.mpr hz
   have hzn:(l0_0.length=0)=False:=eq_false (by omega)
   clear hz
   obtain⟨rt2,hrt2,h3⟩:=Option.bind_eq_some_iff.1 h2
   have HRT2:=aM hrt2
   clear h2 hrt2
   cases rt2 with
   |false=>
    rw [if_neg (by simp)] at h3
    obtain⟨rfl,rfl⟩:=Prod.mk.inj (Option.some.inj h3)
    clear h3
    go_enter Try.func32,Try.ntmps32
    go_wp2_with (first
     |(go_at_call 30;have hR2:=regletref13_Right.calls k A0_0 c0_0 l0_0 A0_1 c0_1 l0_1 a0_2 a0_3 (some ⟨w.heap.size+1+1+1,0,none⟩) 1 [(⟨0,l1⟩:S35)] false w1 (bD hr0_0 HB01.out) hc0_0 (bD hr0_1 HB01.out) hc0_1 (HT.out w1 HB1.out) (by simp) HRT2.out;simp only [List.length_cons,List.length_nil,Nat.zero_add] at hR2;(with_reducible refine hR2.mono ?_);rintro e w2 ⟨rfl,hb2⟩;have HB2:Aside0 (Below (w.heap.size+4) ((((w.alloc (.cells #[.slice A0_0 l0_0.length c0_0,.slice A0_1 l0_1.length c0_1,.int .i64 a0_2,.int .i64 a0_3,.slice A0_4 l0_4.length c0_4] 26)).alloc (.cells #[.int .i64 0,.slice A1 l1.length c1] 35)).alloc (.cells #[.slice A0_0 l0_0.length c0_0,.slice A0_1 l0_1.length c0_1,.int .i64 a0_2,.int .i64 a0_3,.slice (some ⟨w.heap.size+1+1+1,0,none⟩) 1 1] 26)).alloc (.cells #[.int .i64 0,.slice A1 l1.length c1] 35)) w2):=⟨HB1.out.trans (hb2.mono (by have:=HB1.out.size;simp at this;omega))⟩;have HB02:Aside0 (Below w.heap.size w w2):=⟨HA4.out.trans (HB2.out.mono (by omega))⟩;clear hR2 hb2 t0 t1 t2 t3 t4 q0 q1 q2 q3 q4;obtain⟨q0,q1,q2,q3,q4⟩:=HC.out w2 HB2.out)
     |(go_at_call 30;(with_reducible refine(regletref13_Right.calls k A0_0 c0_0 l0_0 A0_1 c0_1 l0_1 a0_2 a0_3 A0_4 c0_4 l0_4 true _ (bD hr0_0 HA4.out) hc0_0 (bD hr0_1 HA4.out) hc0_1 (bD hr0_4 HA4.out) hc0_4 HRT.out).mono ?_);rintro e w1 ⟨rfl,hb1⟩;have HB1:Aside0 (Below (w.heap.size+4) ((((w.alloc (.cells #[.slice A0_0 l0_0.length c0_0,.slice A0_1 l0_1.length c0_1,.int .i64 a0_2,.int .i64 a0_3,.slice A0_4 l0_4.length c0_4] 26)).alloc (.cells #[.int .i64 0,.slice A1 l1.length c1] 35)).alloc (.cells #[.slice A0_0 l0_0.length c0_0,.slice A0_1 l0_1.length c0_1,.int .i64 a0_2,.int .i64 a0_3,.slice (some ⟨w.heap.size+1+1+1,0,none⟩) 1 1] 26)).alloc (.cells #[.int .i64 0,.slice A1 l1.length c1] 35)) w1):=⟨hb1.mono (by simp)⟩;have HB01:Aside0 (Below w.heap.size w w1):=⟨HA4.out.trans (HB1.out.mono (by omega))⟩;clear hb1;obtain⟨q0,q1,q2,q3,q4⟩:=HC.out w1 HB1.out;obtain⟨t0,t1,t2,t3,t4⟩:=HD.out w1 HB1.out))
    go_ret2
    exact⟨_,rfl,Kd.R_nil _ _ _ _ _,HB02.out⟩
   |true=>
    rw [if_pos rfl] at h3
    obtain⟨f,hf,h4⟩:=Option.bind_eq_some_iff.1 h3
    obtain⟨em,he,h5⟩:=Option.bind_eq_some_iff.1 h4
    obtain⟨⟨bl,bb⟩,hbg,h6⟩:=Option.bind_eq_some_iff.1 h5
    obtain⟨ri,hri,h7⟩:=Option.bind_eq_some_iff.1 h6
    obtain⟨rfl,rfl⟩:=Prod.mk.inj (Option.some.inj h7)
    have HF:=aM hf
    have HE:=aM he
    have HBG:=aM hbg
    have HRI:=aM hri
    clear h3 h4 h5 h6 h7 hf he hbg hri
    go_enter Try.func32,Try.ntmps32
    go_upto_region 6 with(first
     |(go_at_call 30;have hR2:=regletref13_Right.calls k A0_0 c0_0 l0_0 A0_1 c0_1 l0_1 a0_2 a0_3 (some ⟨w.heap.size+1+1+1,0,none⟩) 1 [(⟨0,l1⟩:S35)] true w1 (bD hr0_0 HB01.out) hc0_0 (bD hr0_1 HB01.out) hc0_1 (HT.out w1 HB1.out) (by simp) HRT2.out;simp only [List.length_cons,List.length_nil,Nat.zero_add] at hR2;(with_reducible refine hR2.mono ?_);rintro e w2 ⟨rfl,hb2⟩;have HB2:Aside0 (Below (w.heap.size+4) ((((w.alloc (.cells #[.slice A0_0 l0_0.length c0_0,.slice A0_1 l0_1.length c0_1,.int .i64 a0_2,.int .i64 a0_3,.slice A0_4 l0_4.length c0_4] 26)).alloc (.cells #[.int .i64 0,.slice A1 l1.length c1] 35)).alloc (.cells #[.slice A0_0 l0_0.length c0_0,.slice A0_1 l0_1.length c0_1,.int .i64 a0_2,.int .i64 a0_3,.slice (some ⟨w.heap.size+1+1+1,0,none⟩) 1 1] 26)).alloc (.cells #[.int .i64 0,.slice A1 l1.length c1] 35)) w2):=⟨HB1.out.trans (hb2.mono (by have:=HB1.out.size;simp at this;omega))⟩;have HB02:Aside0 (Below w.heap.size w w2):=⟨HA4.out.trans (HB2.out.mono (by omega))⟩;clear hR2 hb2 t0 t1 t2 t3 t4 q0 q1 q2 q3 q4;obtain⟨q0,q1,q2,q3,q4⟩:=HC.out w2 HB2.out)
     |(go_at_call 30;(with_reducible refine(regletref13_Right.calls k A0_0 c0_0 l0_0 A0_1 c0_1 l0_1 a0_2 a0_3 A0_4 c0_4 l0_4 true _ (bD hr0_0 HA4.out) hc0_0 (bD hr0_1 HA4.out) hc0_1 (bD hr0_4 HA4.out) hc0_4 HRT.out).mono ?_);rintro e w1 ⟨rfl,hb1⟩;have HB1:Aside0 (Below (w.heap.size+4) ((((w.alloc (.cells #[.slice A0_0 l0_0.length c0_0,.slice A0_1 l0_1.length c0_1,.int .i64 a0_2,.int .i64 a0_3,.slice A0_4 l0_4.length c0_4] 26)).alloc (.cells #[.int .i64 0,.slice A1 l1.length c1] 35)).alloc (.cells #[.slice A0_0 l0_0.length c0_0,.slice A0_1 l0_1.length c0_1,.int .i64 a0_2,.int .i64 a0_3,.slice (some ⟨w.heap.size+1+1+1,0,none⟩) 1 1] 26)).alloc (.cells #[.int .i64 0,.slice A1 l1.length c1] 35)) w1):=⟨hb1.mono (by simp)⟩;have HB01:Aside0 (Below w.heap.size w w1):=⟨HA4.out.trans (HB1.out.mono (by omega))⟩;clear hb1;obtain⟨q0,q1,q2,q3,q4⟩:=HC.out w1 HB1.out;obtain⟨t0,t1,t2,t3,t4⟩:=HD.out w1 HB1.out))
    have HFC:Aside0 (∀W:World,Below w.heap.size w W→Calls Try.prog 44 #[.agg #[.slice A0_0 l0_0.length c0_0,.slice A0_1 l0_1.length c0_1,.int .i64 a0_2,.int .i64 a0_3,.slice A0_4 l0_4.length c0_4]] W fun e w'=>∃v0_:Value,e= .returned (v0_)∧Kd.S (Kd.slice 4 Kd.bool) 90 w' W.heap.size (fun _=>True) v0_ f∧Below W.heap.size W w'):=⟨fun W hb=>regletref13_first.calls k A0_0 c0_0 l0_0 A0_1 c0_1 l0_1 a0_2 a0_3 A0_4 c0_4 l0_4 f W (bD hr0_0 hb) hc0_0 (bD hr0_1 hb) hc0_1 (bD hr0_4 hb) hc0_4 HF.out⟩
    have HEC:Aside0 (∀W:World,Below w.heap.size w W→Calls Try.prog 45 #[.agg #[.slice A0_0 l0_0.length c0_0,.slice A0_1 l0_1.length c0_1,.int .i64 a0_2,.int .i64 a0_3,.slice A0_4 l0_4.length c0_4]] W fun e w'=>∃v0_:Value,e= .returned (v0_)∧Kd.R Kd.bool 4 w' W.heap.size (fun _=>True) v0_ em∧Below W.heap.size W w'):=⟨fun W hb=>regletref13_Empty.calls k A0_0 c0_0 l0_0 A0_1 c0_1 l0_1 a0_2 a0_3 A0_4 c0_4 l0_4 em W (bD hr0_0 hb) hc0_0 (bD hr0_1 hb) hc0_1 (bD hr0_4 hb) hc0_4 HE.out⟩
    go_cut [8,9] from 10 (fun s8 s9 wc=>∃A7 c7,s8= .slice A7 bl.length c7∧s9= .bool bb∧Aside0 (Kd.R Kd.bool 4 wc w.heap.size (fun _=>True) (.slice A7 bl.length c7) bl)∧Aside0 (Below w.heap.size w wc))
    case first=>
     go_region_held3 (fun W=>W.cell? ⟨w.heap.size,0,none⟩=some (.slice A0_0 l0_0.length c0_0)∧W.cell? ⟨w.heap.size,1,none⟩=some (.slice A0_1 l0_1.length c0_1)∧W.cell? ⟨w.heap.size,2,none⟩=some (.int .i64 a0_2)∧W.cell? ⟨w.heap.size,3,none⟩=some (.int .i64 a0_3)∧W.cell? ⟨w.heap.size,4,none⟩=some (.slice A0_4 l0_4.length c0_4))
      (first|exact HC.out _ KBB.out|exact HC.out _ KBL.out|exact HC.out _ KB1.out|exact HC.out _ (Below.drew HB2.out)|go_keep)
      (first
       |(go_at_call 44;(with_reducible refine(HFC.out w2.drew (aO HB02.out)).mono ?_);rintro e wf ⟨vf,rfl,hSf,hbf⟩;obtain⟨Af,cf,rfl⟩:=Kd.S_slice hSf;have HSF:=aM hSf;have HBF:Aside0 (Below w.heap.size w wf):=⟨((aO HB02.out)).trans (hbf.mono ((aO HB02.out)).size)⟩;have KB1:Aside0 (Below (w.heap.size+4) ((((w.alloc (.cells #[.slice A0_0 l0_0.length c0_0,.slice A0_1 l0_1.length c0_1,.int .i64 a0_2,.int .i64 a0_3,.slice A0_4 l0_4.length c0_4] 26)).alloc (.cells #[.int .i64 0,.slice A1 l1.length c1] 35)).alloc (.cells #[.slice A0_0 l0_0.length c0_0,.slice A0_1 l0_1.length c0_1,.int .i64 a0_2,.int .i64 a0_3,.slice (some ⟨w.heap.size+1+1+1,0,none⟩) 1 1] 26)).alloc (.cells #[.int .i64 0,.slice A1 l1.length c1] 35)) wf):=⟨((Below.drew HB2.out)).trans (hbf.mono (by have:=((Below.drew HB2.out)).size;simp at this ⊢;omega))⟩;clear hSf hbf q0 q1 q2 q3 q4)
       |(go_at_call 44;(with_reducible refine(HFC.out we HBE.out).mono ?_);rintro e wf ⟨vf,rfl,hSf,hbf⟩;obtain⟨Af,cf,rfl⟩:=Kd.S_slice hSf;have HBL:Aside0 (Below w.heap.size w wf):=⟨(HBE.out).trans (hbf.mono (HBE.out).size)⟩;have KBL:Aside0 (Below (w.heap.size+4) ((((w.alloc (.cells #[.slice A0_0 l0_0.length c0_0,.slice A0_1 l0_1.length c0_1,.int .i64 a0_2,.int .i64 a0_3,.slice A0_4 l0_4.length c0_4] 26)).alloc (.cells #[.int .i64 0,.slice A1 l1.length c1] 35)).alloc (.cells #[.slice A0_0 l0_0.length c0_0,.slice A0_1 l0_1.length c0_1,.int .i64 a0_2,.int .i64 a0_3,.slice (some ⟨w.heap.size+1+1+1,0,none⟩) 1 1] 26)).alloc (.cells #[.int .i64 0,.slice A1 l1.length c1] 35)) wf):=⟨(KB1.out).trans (hbf.mono (by have:=(KB1.out).size;simp at this ⊢;omega))⟩;have CF:=aM (Kd.S_reads' hSf).2;have CE:=aM (And.intro (aF HRE.out).2.1 (bD (aF HRE.out).2.2 hbf));clear hSf hbf)
       |(go_at_call 45;(with_reducible refine(HEC.out w2.drew (aO HB02.out)).mono ?_);rintro e we ⟨ve,rfl,hRe,hbe⟩;obtain⟨Ae,ce,rfl⟩:=Kd.R_slice hRe;have HRE:=aM hRe;have HBE:Aside0 (Below w.heap.size w we):=⟨((aO HB02.out)).trans (hbe.mono ((aO HB02.out)).size)⟩;have KB1:Aside0 (Below (w.heap.size+4) ((((w.alloc (.cells #[.slice A0_0 l0_0.length c0_0,.slice A0_1 l0_1.length c0_1,.int .i64 a0_2,.int .i64 a0_3,.slice A0_4 l0_4.length c0_4] 26)).alloc (.cells #[.int .i64 0,.slice A1 l1.length c1] 35)).alloc (.cells #[.slice A0_0 l0_0.length c0_0,.slice A0_1 l0_1.length c0_1,.int .i64 a0_2,.int .i64 a0_3,.slice (some ⟨w.heap.size+1+1+1,0,none⟩) 1 1] 26)).alloc (.cells #[.int .i64 0,.slice A1 l1.length c1] 35)) we):=⟨((Below.drew HB2.out)).trans (hbe.mono (by have:=((Below.drew HB2.out)).size;simp at this ⊢;omega))⟩;clear hRe hbe q0 q1 q2 q3 q4)
       |(go_at_call 45;(with_reducible refine(HEC.out wf HBF.out).mono ?_);rintro e we ⟨ve,rfl,hRe,hbe⟩;obtain⟨Ae,ce,rfl⟩:=Kd.R_slice hRe;have HBL:Aside0 (Below w.heap.size w we):=⟨(HBF.out).trans (hbe.mono (HBF.out).size)⟩;have KBL:Aside0 (Below (w.heap.size+4) ((((w.alloc (.cells #[.slice A0_0 l0_0.length c0_0,.slice A0_1 l0_1.length c0_1,.int .i64 a0_2,.int .i64 a0_3,.slice A0_4 l0_4.length c0_4] 26)).alloc (.cells #[.int .i64 0,.slice A1 l1.length c1] 35)).alloc (.cells #[.slice A0_0 l0_0.length c0_0,.slice A0_1 l0_1.length c0_1,.int .i64 a0_2,.int .i64 a0_3,.slice (some ⟨w.heap.size+1+1+1,0,none⟩) 1 1] 26)).alloc (.cells #[.int .i64 0,.slice A1 l1.length c1] 35)) we):=⟨(KB1.out).trans (hbe.mono (by have:=(KB1.out).size;simp at this ⊢;omega))⟩;have CE:=aM (aF hRe).2;have CF:=aM (And.intro (Kd.S_reads' HSF.out).2.1 (bD (Kd.S_reads' HSF.out).2.2 hbe));clear hRe hbe)
       |(go_at_call 46;(with_reducible refine(regletref13_begins.calls k A0_0 c0_0 l0_0 A0_1 c0_1 l0_1 a0_2 a0_3 A0_4 c0_4 l0_4 A1 c1 l1 Af cf f Ae ce em bl bb _ (bD hr0_0 HBL.out) hc0_0 (bD hr0_1 HBL.out) hc0_1 (bD hr0_4 HBL.out) hc0_4 (bD hr1 HBL.out) hc1 CF.out.2 CF.out.1 CE.out.2 CE.out.1 HBG.out).mono ?_);rintro e wb ⟨vb,rfl,hRb,hbb⟩;obtain⟨A7,c7,rfl⟩:=Kd.R_slice hRb;have HRB:=aM (bL hRb HBL.out.size);have HBB:Aside0 (Below w.heap.size w wb):=⟨HBL.out.trans (hbb.mono HBL.out.size)⟩;have KBB:Aside0 (Below (w.heap.size+4) ((((w.alloc (.cells #[.slice A0_0 l0_0.length c0_0,.slice A0_1 l0_1.length c0_1,.int .i64 a0_2,.int .i64 a0_3,.slice A0_4 l0_4.length c0_4] 26)).alloc (.cells #[.int .i64 0,.slice A1 l1.length c1] 35)).alloc (.cells #[.slice A0_0 l0_0.length c0_0,.slice A0_1 l0_1.length c0_1,.int .i64 a0_2,.int .i64 a0_3,.slice (some ⟨w.heap.size+1+1+1,0,none⟩) 1 1] 26)).alloc (.cells #[.int .i64 0,.slice A1 l1.length c1] 35)) wb):=⟨KBL.out.trans (hbb.mono (by have:=KBL.out.size;simp at this ⊢;omega))⟩;clear hRb hbb))
     all_goals
      go_wp2_with fail
      go_meet
      case rel=>exact⟨A7,c7,rfl,rfl,HRB,HBB⟩
    case rest=>
     obtain⟨A7,c7,rfl,rfl,HRB,HBB⟩:=hcut
     go_wp2_with (go_at_call 49;(with_reducible refine(regletref13_list.calls k A7 c7 bl ri _ (aF HRB.out).2.2 (aF HRB.out).2.1 HRI.out).mono ?_);rintro e w5 ⟨v5,rfl,hR5,hb5⟩;have HR5:=aM hR5;have HB5:=aM hb5;clear hR5 hb5)
     go_ret2
     exact⟨_,rfl,bL HR5.out HBB.out.size,HBB.out.trans (HB5.out.mono HBB.out.size)⟩
def rJoinRow (k:Nat) (n:Int) (m:List Bool) (out:List (List Bool)):Option (Bool×List (List Bool)):=
 if 0≤n then if n<(out.length:Int) then(regletref13_join.f k (out.getD n.toNat []) m).bind fun b=>some (b.1,out.set n.toNat b.2) else none else none
def rJoinFrom (k:Nat) (left:Int) (m:List Bool) (e:Bool) (out:List (List Bool)):Option (List Bool):=
 if e=true then if 0≤left then if left<(out.length:Int) then(regletref13_join.f k m (out.getD left.toNat [])).bind fun b=>some b.2 else none else none else some m
def rFollowIn (k:Nat) (l0_0:List ByteArray) (l0_1:List (S72)) (a0_2:Int) (a0_3:Int) (l0_4:List (S35)) (f:List (List Bool)) (em:List Bool) (left:Int):List (S43)→Bool→List (List Bool)→Option (Bool×List (List Bool))
 | [],more,out=>some (more,out)
 |y::ys,more,out=>if y.f0=true then rFollowIn k l0_0 l0_1 a0_2 a0_3 l0_4 f em left ys more out else
  (regletref13_begins.f k l0_0 l0_1 a0_2 a0_3 l0_4 ys f em).bind fun l=>(rJoinFrom k left l.1 l.2 out).bind fun m=>(rJoinRow k y.f1 m out).bind fun b=>rFollowIn k l0_0 l0_1 a0_2 a0_3 l0_4 f em left ys (if b.1=true then true else more) b.2
def rFollowPs (k:Nat) (l0_0:List ByteArray) (l0_1:List (S72)) (a0_2:Int) (a0_3:Int) (l0_4:List (S35)) (f:List (List Bool)) (em:List Bool):List (S35)→Bool→List (List Bool)→Option (Bool×List (List Bool))
 | [],more,out=>some (more,out)
 |p::ps,more,out=>(rFollowIn k l0_0 l0_1 a0_2 a0_3 l0_4 f em p.f0 p.f1 more out).bind fun b=>rFollowPs k l0_0 l0_1 a0_2 a0_3 l0_4 f em ps b.1 b.2
def rFollowOut (kk:Nat) (l0_0:List ByteArray) (l0_1:List (S72)) (a0_2:Int) (a0_3:Int) (l0_4:List (S35)) (f:List (List Bool)) (em:List Bool):Nat→List (List Bool)→Bool→Option (List (List Bool))
 |0,_,_=>none
 |k+1,out,more=>if more=true then(rFollowPs kk l0_0 l0_1 a0_2 a0_3 l0_4 f em l0_4 false out).bind fun b=>rFollowOut kk l0_0 l0_1 a0_2 a0_3 l0_4 f em k b.2 b.1 else some out
def rFollow0 (nt:Nat) (out:List (List Bool)):Option (List (List Bool)):=
 if 0<out.length then if nt<(out.getD 0 []).length then some (out.set 0 ((out.getD 0 []).set nt true)) else none else some out
def regletref13_Follow.f (k:Nat) (l0_0:List ByteArray) (l0_1:List (S72)) (a0_2:Int) (a0_3:Int) (l0_4:List (S35)):Option (List (List Int)):=
 if l0_4.length≤9223372036854775807∧l0_4.all (fun p=>decide (p.f1.length≤9223372036854775807))=true then
 (regletref13_Right.f k l0_0 l0_1 a0_2 a0_3 l0_4).bind fun r=>if r=true then(regletref13_marks.f k l0_0 l0_1 a0_2 a0_3 l0_4).bind fun out=>(regletref13_first.f k l0_0 l0_1 a0_2 a0_3 l0_4).bind fun f=>(regletref13_Empty.f k l0_0 l0_1 a0_2 a0_3 l0_4).bind fun em=>(rFollow0 l0_1.length out).bind fun out0=>(rFollowOut k l0_0 l0_1 a0_2 a0_3 l0_4 f em k out0 true).bind fun o=>regletref13_lists.f k o else some []
 else none
structure RFollowI (w w5:World) (lo hi:Nat) (Ao:Option Addr) (co N:Nat) (out:List (List Bool)) (W:World):Prop where
 bel:Below w.heap.size w W
 r:Kd.S (Kd.slice 4 Kd.bool) 90 W w.heap.size (fun k=>lo≤k∧k<hi) (.slice Ao N co) out
 k:Kept w5 W (fun k=>lo≤k∧k<hi)
 h:hi≤W.heap.size
section
variable {w w5:World}{lo hi:Nat}{Ao:Option Addr}{co N:Nat}{out out':List (List Bool)}{W W':World}
theorem RFollowI.below (h:RFollowI w w5 lo hi Ao co N out W) (hb:Below W.heap.size W W'):RFollowI w w5 lo hi Ao co N out W':=
 ⟨h.bel.trans (hb.mono h.bel.size),Kd.S_below h.r hb,h.k.below hb,Nat.le_trans h.h hb.size⟩
end
set_option maxHeartbeats 1000000 in
theorem rjoin_from (k:Nat) (w w5 W:World) (lo hi:Nat) (Ao:Option Addr) (co N:Nat) (out:List (List Bool)) (HI:RFollowI w w5 lo hi Ao co N out W) (left:Int) (hl0:0≤left) (hl1:left<(out.length:Int)) (m m':List Bool) (b:Bool) (B:Nat) (hB:w5.heap.size≤B) (hhi:hi≤w5.heap.size) (hBW:B≤W.heap.size) (A2:Option Addr) (c2:Nat) (hm:Kd.R Kd.bool 4 W w.heap.size (fun k=>B≤k) (.slice A2 m.length c2) m) (h:regletref13_join.f k m (out.getD left.toNat [])=some (b,m')):
 ∃(go:Nat) (A4:Option Addr) (c4 m4:Nat),Ao=some ⟨go,0,none⟩∧W.cell? ⟨go,left.toNat,none⟩=some (.slice A4 m4 c4)∧
  Calls Try.prog 47 #[.slice A2 m.length c2,.slice A4 m4 c4] W fun e w'=>e= .returned (.bool b)∧Aside0 (RFollowI w w5 lo hi Ao co N out w')∧Aside0 (Kd.R Kd.bool 4 w' w.heap.size (fun k=>B≤k) (.slice A2 m.length c2) m')∧Aside0 (Kept W w' (fun k=>B≤k)):=by
 obtain⟨go,vr,P,eA,hcell,hRow,hP,hback⟩:=S_row rfl HI.r left hl0 hl1
 obtain⟨A4,c4,rfl⟩:=Kd.R_slice hRow
 refine⟨go,A4,c4,_,eA,hcell,?_⟩
 refine(regletref13_join.calls k (fun k=>B≤k) _ m A4 c4 (out.getD left.toNat []) b m' w W HI.bel hm (Kd.C_kept_own hRow (fun k hk hh=>by have:=(hP k hk).1.2;omega)) (aF hRow).2.1 h).mono ?_
 rintro e w3 ⟨rfl,hR3,hb3,hk3⟩
 refine⟨rfl,⟨⟨hb3,Kd.S_kept HI.r hk3 (fun k h1 h2=>by omega),HI.k.then_ hk3 (fun k h2=> .inr (Nat.le_trans hB h2)),Nat.le_trans HI.h hk3.1⟩⟩,⟨Kd.R_mono hR3 (fun k hk=>hk.elim id (fun h2=>Nat.le_trans hBW h2))⟩,⟨hk3⟩⟩
set_option maxHeartbeats 1000000 in
theorem rjoin_row (k:Nat) (w w5 W:World) (lo hi:Nat) (Ao:Option Addr) (co N:Nat) (out out':List (List Bool)) (HI:RFollowI w w5 lo hi Ao co N out W) (n:Int) (m:List Bool) (n2:Nat) (b:Bool) (B:Nat) (hhi:hi≤B) (A2:Option Addr) (c2:Nat) (hm:Kd.R Kd.bool 4 W w.heap.size (fun k=>B≤k) (.slice A2 n2 c2) m) (h:rJoinRow k n m out=some (b,out')):
 ∃(go:Nat) (A4:Option Addr) (c4 m4:Nat),0≤n∧n<(out.length:Int)∧Ao=some ⟨go,0,none⟩∧W.cell? ⟨go,n.toNat,none⟩=some (.slice A4 m4 c4)∧out'.length=out.length∧
  Calls Try.prog 47 #[.slice A4 m4 c4,.slice A2 n2 c2] W fun e w'=>e= .returned (.bool b)∧Aside0 (RFollowI w w5 lo hi Ao co N out' w')∧Aside0 (Kept W w' (fun k=>lo≤k∧k<hi)):=by
 unfold rJoinRow at h
 split at h
 case isFalse=>simp at h
 rename_i h0
 split at h
 case isFalse=>simp at h
 rename_i h1
 obtain⟨⟨ab,ar⟩,had,h2⟩:=Option.bind_eq_some_iff.1 h
 obtain⟨rfl,rfl⟩:=Prod.mk.inj (Option.some.inj h2)
 have hn2:=(aF hm).1
 subst hn2
 obtain⟨go,vr,P,eA,hcell,hRow,hP,hback⟩:=S_row rfl HI.r n h0 h1
 obtain⟨A4,c4,rfl⟩:=Kd.R_slice hRow
 refine⟨go,A4,c4,_,h0,h1,eA,hcell,by simp,?_⟩
 refine(regletref13_join.calls k P _ _ A2 c2 m ab ar w W HI.bel hRow (Kd.C_kept_own hm (fun k hk hp=>by have:=(hP k hp).1.2;omega)) (aF hm).2.1 had).mono ?_
 rintro e w3 ⟨rfl,hR3,hb3,hk3⟩
 exact⟨rfl,⟨⟨hb3,hback w3 _ ar hk3 hR3,HI.k.then_ hk3 (fun k h2=> .inl (hP k h2).1),Nat.le_trans HI.h hk3.1⟩⟩,⟨Kept.mono hk3 (fun k hk=>(hP k hk).1)⟩⟩
theorem infoSymR:(Try.prog.info? 43).map (fun i=>(i.zero,i.size,i.bytes))=some (some (.agg #[.bool false,.int .i64 0]),2,16):=by kernel_rfl
set_option maxHeartbeats 4000000 in
set_option maxRecDepth 100000 in
theorem regletref13_Follow.calls (k:Nat) (A0_0:Option Addr) (c0_0:Nat) (l0_0:List ByteArray) (A0_1:Option Addr) (c0_1:Nat) (l0_1:List (S72)) (a0_2:Int) (a0_3:Int) (A0_4:Option Addr) (c0_4:Nat) (l0_4:List (S35)) (r:List (List Int)) (w:World) (hr0_0:Kd.C Kd.string w A0_0 l0_0.length l0_0) (hc0_0:l0_0.length≤c0_0) (hr0_1:Kd.C k72 w A0_1 l0_1.length l0_1) (hc0_1:l0_1.length≤c0_1) (hr0_4:Kd.C k35 w A0_4 l0_4.length l0_4) (hc0_4:l0_4.length≤c0_4) (h:regletref13_Follow.f k l0_0 l0_1 a0_2 a0_3 l0_4=some r):
 Calls Try.prog 31 #[.agg #[.slice A0_0 l0_0.length c0_0,.slice A0_1 l0_1.length c0_1,.int .i64 a0_2,.int .i64 a0_3,.slice A0_4 l0_4.length c0_4]] w fun e w'=>∃v0_:Value,e= .returned (v0_)∧Kd.S (Kd.slice 3 (Kd.int .i64)) 32 w' w.heap.size (fun _=>True) v0_ r∧Below w.heap.size w w':=by
 unfold regletref13_Follow.f at h
 split at h
 case isFalse=>simp at h
 rename_i hsz
 have HSZ:=aM hsz
 clear hsz
 obtain⟨rt,hrt,h2⟩:=Option.bind_eq_some_iff.1 h
 have HRT:=aM hrt
 clear h hrt
 have HA1:Aside0 (Below w.heap.size w (w.alloc (.cells #[.slice A0_0 l0_0.length c0_0,.slice A0_1 l0_1.length c0_1,.int .i64 a0_2,.int .i64 a0_3,.slice A0_4 l0_4.length c0_4] 26))):=⟨(Below.refl _ w).alloc (Nat.le_refl _) _⟩
 have HC:Aside0 (∀W,Below (w.heap.size+1) (w.alloc (.cells #[.slice A0_0 l0_0.length c0_0,.slice A0_1 l0_1.length c0_1,.int .i64 a0_2,.int .i64 a0_3,.slice A0_4 l0_4.length c0_4] 26)) W→W.cell? ⟨w.heap.size,0,none⟩=some (.slice A0_0 l0_0.length c0_0)∧W.cell? ⟨w.heap.size,1,none⟩=some (.slice A0_1 l0_1.length c0_1)∧W.cell? ⟨w.heap.size,2,none⟩=some (.int .i64 a0_2)∧W.cell? ⟨w.heap.size,3,none⟩=some (.int .i64 a0_3)∧W.cell? ⟨w.heap.size,4,none⟩=some (.slice A0_4 l0_4.length c0_4)):=⟨fun W hW=>⟨(hW.cell (p:=⟨w.heap.size,0,none⟩) (by simp)).trans (by simp),(hW.cell (p:=⟨w.heap.size,1,none⟩) (by simp)).trans (by simp),(hW.cell (p:=⟨w.heap.size,2,none⟩) (by simp)).trans (by simp),(hW.cell (p:=⟨w.heap.size,3,none⟩) (by simp)).trans (by simp),(hW.cell (p:=⟨w.heap.size,4,none⟩) (by simp)).trans (by simp)⟩⟩
 cases rt with
 |false=>
  rw [if_neg (by simp)] at h2
  obtain rfl:=Option.some.inj h2
  clear h2
  go_enter Try.func31,Try.ntmps31
  go_wp2_with (go_at_call 30;(with_reducible refine(regletref13_Right.calls k A0_0 c0_0 l0_0 A0_1 c0_1 l0_1 a0_2 a0_3 A0_4 c0_4 l0_4 false _ (bD hr0_0 HA1.out) hc0_0 (bD hr0_1 HA1.out) hc0_1 (bD hr0_4 HA1.out) hc0_4 HRT.out).mono ?_);rintro e w1 ⟨rfl,hb1⟩)
  go_ret
  exact⟨_,rfl,Kd.S_nil _ _ _ _ _,HA1.out.trans (hb1.mono (by simp))⟩
 |true=>
  rw [if_pos rfl] at h2
  obtain⟨m0,hm0,h3⟩:=Option.bind_eq_some_iff.1 h2
  obtain⟨f,hf,h4⟩:=Option.bind_eq_some_iff.1 h3
  obtain⟨em,he,h5⟩:=Option.bind_eq_some_iff.1 h4
  obtain⟨out0,ho0,h6⟩:=Option.bind_eq_some_iff.1 h5
  obtain⟨out,hout,hlists⟩:=Option.bind_eq_some_iff.1 h6
  have HM0:=aM hm0
  have HF:=aM hf
  have HE:=aM he
  have HO0:=aM ho0
  have HOUT:=aM hout
  have HL:=aM hlists
  clear h2 h3 h4 h5 h6 hm0 hf he ho0 hout hlists
  have HFC:Aside0 (∀W:World,Below w.heap.size w W→Calls Try.prog 44 #[.agg #[.slice A0_0 l0_0.length c0_0,.slice A0_1 l0_1.length c0_1,.int .i64 a0_2,.int .i64 a0_3,.slice A0_4 l0_4.length c0_4]] W fun e w'=>∃v0_:Value,e= .returned (v0_)∧Kd.S (Kd.slice 4 Kd.bool) 90 w' W.heap.size (fun _=>True) v0_ f∧Below W.heap.size W w'):=⟨fun W hb=>regletref13_first.calls k A0_0 c0_0 l0_0 A0_1 c0_1 l0_1 a0_2 a0_3 A0_4 c0_4 l0_4 f W (bD hr0_0 hb) hc0_0 (bD hr0_1 hb) hc0_1 (bD hr0_4 hb) hc0_4 HF.out⟩
  have HEC:Aside0 (∀W:World,Below w.heap.size w W→Calls Try.prog 45 #[.agg #[.slice A0_0 l0_0.length c0_0,.slice A0_1 l0_1.length c0_1,.int .i64 a0_2,.int .i64 a0_3,.slice A0_4 l0_4.length c0_4]] W fun e w'=>∃v0_:Value,e= .returned (v0_)∧Kd.R Kd.bool 4 w' W.heap.size (fun _=>True) v0_ em∧Below W.heap.size W w'):=⟨fun W hb=>regletref13_Empty.calls k A0_0 c0_0 l0_0 A0_1 c0_1 l0_1 a0_2 a0_3 A0_4 c0_4 l0_4 em W (bD hr0_0 hb) hc0_0 (bD hr0_1 hb) hc0_1 (bD hr0_4 hb) hc0_4 HE.out⟩
  go_enter Try.func31,Try.ntmps31
  go_upto_region 4 with(first
   |(go_at_call 30;(with_reducible refine(regletref13_Right.calls k A0_0 c0_0 l0_0 A0_1 c0_1 l0_1 a0_2 a0_3 A0_4 c0_4 l0_4 true _ (bD hr0_0 HA1.out) hc0_0 (bD hr0_1 HA1.out) hc0_1 (bD hr0_4 HA1.out) hc0_4 HRT.out).mono ?_);rintro e w1 ⟨rfl,hb1⟩;have HB1:Aside0 (Below (w.heap.size+1) (w.alloc (.cells #[.slice A0_0 l0_0.length c0_0,.slice A0_1 l0_1.length c0_1,.int .i64 a0_2,.int .i64 a0_3,.slice A0_4 l0_4.length c0_4] 26)) w1):=⟨hb1.mono (by simp)⟩;have HB01:Aside0 (Below w.heap.size w w1):=⟨HA1.out.trans (hb1.mono (by simp))⟩;clear hb1;obtain⟨q0,q1,q2,q3,q4⟩:=HC.out w1 HB1.out)
   |(go_at_call 43;(with_reducible refine(regletref13_marks.calls k A0_0 c0_0 l0_0 A0_1 c0_1 l0_1 a0_2 a0_3 A0_4 c0_4 l0_4 m0 _ (bD hr0_0 HB01.out) hc0_0 (bD hr0_1 HB01.out) hc0_1 (bD hr0_4 HB01.out) hc0_4 HM0.out).mono ?_);rintro e w3 ⟨v3,rfl,hS3,hb3⟩;obtain⟨Ao,co,rfl⟩:=Kd.S_slice hS3;have HB3:Aside0 (Below (w.heap.size+1) (w.alloc (.cells #[.slice A0_0 l0_0.length c0_0,.slice A0_1 l0_1.length c0_1,.int .i64 a0_2,.int .i64 a0_3,.slice A0_4 l0_4.length c0_4] 26)) w3):=⟨HB1.out.trans (hb3.mono (by have:=HB1.out.size;simpa using this))⟩;have HB03:Aside0 (Below w.heap.size w w3):=⟨HB01.out.trans (hb3.mono HB01.out.size)⟩;have HS3:Aside0 (Kd.S (Kd.slice 4 Kd.bool) 90 w3 w.heap.size (fun k=>w1.heap.size≤k∧k<w3.heap.size) (.slice Ao m0.length co) m0):=⟨Kd.S_lower (Kd.S_mono (Kd.S_bound hS3) (fun k hk=>⟨hk.2.1,hk.2.2.1⟩)) HB01.out.size⟩;have SZ3:Aside0 (w.heap.size<w1.heap.size∧w1.heap.size≤w3.heap.size):=⟨by have:=HB1.out.size;simp at this;omega,hb3.size⟩;clear hS3 hb3 q0 q1 q2 q3 q4;obtain⟨q0,q1,q2,q3,q4⟩:=HC.out w3 HB3.out))
  go_cut [4,5] from 12 (fun s4 s5 wc=>∃Af cf Ae ce,s4= .slice Af f.length cf∧s5= .slice Ae em.length ce∧Aside0 (Below w3.heap.size w3 wc)∧Aside0 (Kd.S (Kd.slice 4 Kd.bool) 90 wc w.heap.size (fun k=>w3.heap.size≤k) (.slice Af f.length cf) f)∧Aside0 (Kd.R Kd.bool 4 wc w.heap.size (fun k=>w3.heap.size≤k) (.slice Ae em.length ce) em))
  case first=>
   have HC3:Aside0 (∀W,Below w3.heap.size w3 W→W.cell? ⟨w.heap.size,0,none⟩=some (.slice A0_0 l0_0.length c0_0)∧W.cell? ⟨w.heap.size,1,none⟩=some (.slice A0_1 l0_1.length c0_1)∧W.cell? ⟨w.heap.size,2,none⟩=some (.int .i64 a0_2)∧W.cell? ⟨w.heap.size,3,none⟩=some (.int .i64 a0_3)∧W.cell? ⟨w.heap.size,4,none⟩=some (.slice A0_4 l0_4.length c0_4)):=⟨fun W hW=>HC.out W (HB3.out.trans (hW.mono (by have:=HB3.out.size;simpa using this)))⟩
   go_region_held3 (fun W=>W.cell? ⟨w.heap.size,0,none⟩=some (.slice A0_0 l0_0.length c0_0)∧W.cell? ⟨w.heap.size,1,none⟩=some (.slice A0_1 l0_1.length c0_1)∧W.cell? ⟨w.heap.size,2,none⟩=some (.int .i64 a0_2)∧W.cell? ⟨w.heap.size,3,none⟩=some (.int .i64 a0_3)∧W.cell? ⟨w.heap.size,4,none⟩=some (.slice A0_4 l0_4.length c0_4))
    (first|exact HC3.out _ H3L.out|exact HC3.out _ KB1.out|exact HC3.out _ (show Below w3.heap.size w3 w3.drew from aO (Below.refl _ w3))|go_keep)
    (first
     |(go_at_call 44;(with_reducible refine(HFC.out w3.drew (aO HB03.out)).mono ?_);rintro e wf ⟨vf,rfl,hSf,hbf⟩;obtain⟨Af,cf,rfl⟩:=Kd.S_slice hSf;have HSF:=aM (Kd.S_bound hSf);have H3F:Aside0 (Below w3.heap.size w3 wf):=⟨((show Below w3.heap.size w3 w3.drew from aO (Below.refl _ w3))).trans (hbf.mono ((show Below w3.heap.size w3 w3.drew from aO (Below.refl _ w3))).size)⟩;have KB1:=H3F;clear hSf hbf q0 q1 q2 q3 q4)
     |(go_at_call 44;(with_reducible refine(HFC.out we (HB03.out.trans (H3E.out.mono HB03.out.size))).mono ?_);rintro e wf ⟨vf,rfl,hSf,hbf⟩;obtain⟨Af,cf,rfl⟩:=Kd.S_slice hSf;have HSF:=aM (Kd.S_bound hSf);have H3L:Aside0 (Below w3.heap.size w3 wf):=⟨(H3E.out).trans (hbf.mono (H3E.out).size)⟩;have CF:Aside0 (Kd.S (Kd.slice 4 Kd.bool) 90 wf w.heap.size (fun k=>w3.heap.size≤k) (.slice Af f.length cf) f):=⟨Kd.S_lower (Kd.S_mono HSF.out (fun k hk=>Nat.le_trans (H3E.out).size hk.2.1)) (Nat.le_trans HB03.out.size (H3E.out).size)⟩;have CE:Aside0 (Kd.R Kd.bool 4 wf w.heap.size (fun k=>w3.heap.size≤k) (.slice Ae em.length ce) em):=⟨bL (Kd.R_mono (aD HRE.out hbf) (fun k hk=>hk.2.1)) HB03.out.size⟩;clear hSf hbf)
     |(go_at_call 45;(with_reducible refine(HEC.out w3.drew (aO HB03.out)).mono ?_);rintro e we ⟨ve,rfl,hRe,hbe⟩;obtain⟨Ae,ce,rfl⟩:=Kd.R_slice hRe;have HRE:=aM (Kd.R_bound hRe);have H3E:Aside0 (Below w3.heap.size w3 we):=⟨((show Below w3.heap.size w3 w3.drew from aO (Below.refl _ w3))).trans (hbe.mono ((show Below w3.heap.size w3 w3.drew from aO (Below.refl _ w3))).size)⟩;have KB1:=H3E;clear hRe hbe q0 q1 q2 q3 q4)
     |(go_at_call 45;(with_reducible refine(HEC.out wf (HB03.out.trans (H3F.out.mono HB03.out.size))).mono ?_);rintro e we ⟨ve,rfl,hRe,hbe⟩;obtain⟨Ae,ce,rfl⟩:=Kd.R_slice hRe;have HRE:=aM (Kd.R_bound hRe);have H3L:Aside0 (Below w3.heap.size w3 we):=⟨(H3F.out).trans (hbe.mono (H3F.out).size)⟩;have CE:Aside0 (Kd.R Kd.bool 4 we w.heap.size (fun k=>w3.heap.size≤k) (.slice Ae em.length ce) em):=⟨bL (Kd.R_mono HRE.out (fun k hk=>Nat.le_trans (H3F.out).size hk.2.1)) (Nat.le_trans HB03.out.size (H3F.out).size)⟩;have CF:Aside0 (Kd.S (Kd.slice 4 Kd.bool) 90 we w.heap.size (fun k=>w3.heap.size≤k) (.slice Af f.length cf) f):=⟨Kd.S_lower (Kd.S_mono (Kd.S_below HSF.out hbe) (fun k hk=>hk.2.1)) HB03.out.size⟩;clear hRe hbe))
   all_goals
    go_wp2_with fail
    go_meet
    case rel=>exact⟨Af,cf,Ae,ce,rfl,rfl,H3L,CF,CE⟩
  case rest=>
   obtain⟨Af,cf,Ae,ce,rfl,rfl,H35,CF,CE⟩:=hcut
   obtain⟨w5,ew5⟩:∃w5:World,w5=wc:=⟨_,rfl⟩
   subst ew5
   have HI0:Aside0 (RFollowI w w5 w1.heap.size w3.heap.size Ao co m0.length m0 w5):=⟨⟨HB03.out.trans (H35.out.mono HB03.out.size),Kd.S_below HS3.out H35.out,Kept.refl _ _,H35.out.size⟩⟩
   have HC5:Aside0 (∀W,Kept w5 W (fun k=>w1.heap.size≤k∧k<w3.heap.size)→W.cell? ⟨w.heap.size,0,none⟩=some (.slice A0_0 l0_0.length c0_0)∧W.cell? ⟨w.heap.size,1,none⟩=some (.slice A0_1 l0_1.length c0_1)∧W.cell? ⟨w.heap.size,2,none⟩=some (.int .i64 a0_2)∧W.cell? ⟨w.heap.size,3,none⟩=some (.int .i64 a0_3)∧W.cell? ⟨w.heap.size,4,none⟩=some (.slice A0_4 l0_4.length c0_4)):=⟨fun W hk=>by
    obtain⟨a0,a1,a2,a3,a4⟩:=HC.out w5 (HB3.out.trans (H35.out.mono (by have:=HB3.out.size;simpa using this)))
    have hn:¬(w1.heap.size≤w.heap.size∧w.heap.size<w3.heap.size):=by have:=SZ3.out;omega
    exact⟨Go.Proofs.YtapjfnfengefpaaW.PrintWords.cell_kept a0 hk hn,Go.Proofs.YtapjfnfengefpaaW.PrintWords.cell_kept a1 hk hn,Go.Proofs.YtapjfnfengefpaaW.PrintWords.cell_kept a2 hk hn,Go.Proofs.YtapjfnfengefpaaW.PrintWords.cell_kept a3 hk hn,Go.Proofs.YtapjfnfengefpaaW.PrintWords.cell_kept a4 hk hn⟩⟩
   have H35S:Aside0 (w3.heap.size≤w5.heap.size):=⟨H35.out.size⟩
   clear HA1 HM0 HF HE HFC HEC q0 q1 q2 q3 q4
   go_upto_if 23 with fail
   go_cut [] from 12 (fun w6=>Aside0 (RFollowI w w5 w1.heap.size w3.heap.size Ao co m0.length out0 w6))
   case first=>
    by_cases hpos:0<m0.length
    ·have hg:decide (0<m0.length)=true:=decide_eq_true hpos
     rw [hg]
     have H0:=HO0.out
     unfold rFollow0 at H0
     rw [if_pos hpos] at H0
     split at H0
     case isFalse=>simp at H0
     rename_i hnt
     obtain rfl:=Option.some.inj H0
     obtain⟨go,vr,P,eA,hcell,hRow,hP,hback⟩:=S_row rfl HI0.out.r 0 (by omega) (by omega)
     cases eA
     rw [show(0:Int).toNat=0 from rfl] at hRow hcell hback
     obtain⟨gr,c7,hv,_,_,_⟩:=Kd.R_form hRow (by omega)
     subst hv
     obtain⟨hx,hf⟩:=Kd.R_celln false hRow (l0_1.length:Int) (by omega) (by omega)
     have hput:=Kd.R_putg hRow (l0_1.length:Int) true
     rw [Int.toNat_natCast] at hx hf hput
     have hPgr:P gr:=hRow.1 gr (by simp [Value.ownBlock])
     have HGR:=aM (hP gr hPgr)
     have hKs:Kept w5 (w5.setCell ⟨gr,l0_1.length,none⟩ (.bool true)) P:=Kept.setCell (Kept.refl _ _) (.inl hPgr) _
     have hS6:=hback _ P _ hKs hput.1
     have HFS:Aside0 (RFollowI w w5 w1.heap.size w3.heap.size (some ⟨go,0,none⟩) co m0.length (m0.set 0 ((m0.getD 0 []).set l0_1.length true)) (w5.setCell ⟨gr,l0_1.length,none⟩ (.bool true))):=⟨⟨aL HI0.out.bel (show w.heap.size≤gr from by have:=HGR.out.1.1;have:=SZ3.out;omega),hS6,Kept.mono hKs (fun k hk=>(hP k hk).1),by simpa using HI0.out.h⟩⟩
     have hne1:go≠gr:=fun e=>HGR.out.2 e.symm
     have hne3:w.heap.size≠gr:=by have:=HGR.out.1.1;have:=SZ3.out;omega
     obtain⟨q0,q1,q2,q3,q4⟩:=HC5.out w5 (Kept.refl _ _)
     have KEND:=aM (show _∧_ from⟨Go.Proofs.YtapjfnfengefpaaW.PrintWords.cell_kept q1 (Kept.drew (Kept.setCell (Kept.refl w5 (fun k=>k=gr)) (p:=⟨gr,l0_1.length,none⟩) (.inl rfl) (.bool true))) hne3,Go.Proofs.YtapjfnfengefpaaW.PrintWords.cell_kept hcell (Kept.drew (Kept.setCell (Kept.refl w5 (fun k=>k=gr)) (p:=⟨gr,l0_1.length,none⟩) (.inl rfl) (.bool true))) hne1⟩)
     generalize hlr:(m0.getD 0 []).length=lr at hcell hnt KEND
     have p1:((l0_1.length:Int)<(lr:Int))=True:=eq_true (by omega)
     have p2:(0≤(l0_1.length:Int))=True:=eq_true (by omega)
     have p3:((0:Int)<(m0.length:Int))=True:=eq_true (by omega)
     have p4:(0<m0.length)=True:=eq_true hpos
     have p5:(l0_1.length<lr)=True:=eq_true hnt
     clear hRow hback hput hPgr hKs hS6 hP hpos H0 hnt hlr
     go_upto_region 6 with fail
     go_region_held3 (fun W=>W.cell? ⟨w.heap.size,1,none⟩=some (.slice A0_1 l0_1.length c0_1)∧W.cell? ⟨go,0,none⟩=some (.slice (some ⟨gr,0,none⟩) lr c7))
      (first|exact KEND.out|go_keep)
      (fail)
     go_wp2_with fail
     go_meet
     case rel=>exact⟨HFS.out.below (aO (Below.refl _ _))⟩
    ·have hg:decide (0<m0.length)=false:=decide_eq_false hpos
     rw [hg]
     have H0:=HO0.out
     unfold rFollow0 at H0
     rw [if_neg hpos] at H0
     obtain rfl:=Option.some.inj H0
     clear H0
     go_wp2_with fail
     go_meet
     case rel=>exact HI0
   case rest=>
    obtain⟨w6,ew6⟩:∃w6:World,w6=wc:=⟨_,rfl⟩
    subst ew6
    have HI6:=hcut
    have HOUT:=HOUT
    clear hcut HI0 HS3 HO0 HRT H35
    go_wp2
    go_loopg [6] k (fun kq v6 wr=>∃(more:Bool) (out':List (List Bool)),v6= .bool more∧Aside0 (rFollowOut k l0_0 l0_1 a0_2 a0_3 l0_4 f em kq out' more=some out)∧Aside0 (RFollowI w w5 w1.heap.size w3.heap.size Ao co m0.length out' wr))
    case atStart=>exact⟨true,out0,rfl,HOUT,HI6⟩
    case round=>
     clear HOUT HI6
     obtain⟨more,out',rfl,HA,HI⟩:=hrel
     cases gk with
     |zero=>exact absurd HA.out (by simp [rFollowOut])
     |succ k1=>
      have H:=HA.out
      clear HA
      simp only [rFollowOut] at H
      cases more with
      |false=>
       obtain rfl:=Option.some.inj (by simpa using H)
       clear H
       have hN:=(Kd.S_reads' HI.out.r).1
       rw [hN]
       go_wp2_with (go_at_call 48;(with_reducible refine(regletref13_lists.calls k Ao co out' r _ (by have:=(Kd.S_reads' HI.out.r).2.2;exact this) (by have:=(Kd.S_reads' HI.out.r).2.1;omega) HL.out).mono ?_);rintro e w8 ⟨v8,rfl,hS8,hb8⟩;have HS8:=aM hS8;have HB8:=aM hb8;clear hS8 hb8)
       go_ret
       exact⟨_,rfl,Kd.S_lower HS8.out HI.out.bel.size,HI.out.bel.trans (HB8.out.mono HI.out.bel.size)⟩
      |true=>
       rw [if_pos rfl] at H
       obtain⟨⟨mr,outr⟩,h1,h2⟩:=Option.bind_eq_some_iff.1 H
       clear H
       have H1:=aM h1
       have H2:=aM h2
       clear h1 h2
       go_wp2
       obtain⟨wo,ewo⟩:∃wo:World,wo=wr:=⟨_,rfl⟩
       subst ewo
       go_loopg [6,7] l0_4.length (fun kq v6 v7 wr=>∃(more:Bool) (i:Nat) (out':List (List Bool)),v6= .bool more∧v7= .int .i64 i∧i≤l0_4.length∧l0_4.length - i≤kq∧Aside0 (rFollowPs k l0_0 l0_1 a0_2 a0_3 l0_4 f em (l0_4.drop i) more out'=some (mr,outr))∧Aside0 (RFollowI w w5 w1.heap.size w3.heap.size Ao co m0.length out' wr))
       case atStart=>exact⟨false,0,out',rfl,rfl,by omega,by omega,⟨by simpa using H1.out⟩,HI⟩
       case round=>
        clear H1 HI
        obtain⟨more,i,out',rfl,rfl,hi,hm,HA,HI⟩:=hrel
        obtain⟨q0,q1,q2,q3,q4⟩:=HC5.out wr HI.out.k
        by_cases hlt:i<l0_4.length
        ·have hltz:(i:Int)<(l0_4.length:Int):=by omega
         have d0:decide ((i:Int)<(l0_4.length:Int))=true:=decide_eq_true hltz
         have H:=HA.out
         rw [List.drop_eq_getElem_cons hlt] at H
         simp only [rFollowPs] at H
         obtain⟨⟨mi,outi⟩,h1,h3⟩:=Option.bind_eq_some_iff.1 H
         clear H HA
         obtain⟨ad,A5,c5,ead,e0,e1,hle5,hC5⟩:=at_T35 hr0_4 (i:Int) (by omega) hltz
         have hlen:=of_decide_eq_true (List.all_eq_true.1 HSZ.out.2 (l0_4[i]) (List.getElem_mem hlt))
         have hrd:rd_T35 l0_4 (i:Int)=l0_4[i]:=by simp [rd_T35,hlt]
         rw [hrd] at e0 e1 hle5 hC5
         rw [Int.toNat_natCast] at e0 e1
         have B0:=World.block_lt_of_cell? w _ e0
         have B1:=World.block_lt_of_cell? w _ e1
         have hp:∃p,p=l0_4[i]:=⟨_,rfl⟩
         obtain⟨p,hp⟩:=hp
         rw [←hp] at h1 e0 e1 hle5 hC5 hlen
         obtain⟨left,right⟩:=p
         clear hp hrd
         simp only at h1 e0 e1 hle5 hC5 hlen
         have AT:Aside0 (∀W:World,Below w.heap.size w W→W.cell? (ad.add (i * 2))=some (.int .i64 left)∧W.cell? ⟨(ad.add (i * 2)).block,(ad.add (i * 2)).off+1,none⟩=some (.slice A5 right.length c5)):=⟨fun W hb=>⟨(hb.cell B0).trans e0,(hb.cell B1).trans e1⟩⟩
         have HCR:=aM hC5
         have HH1:=aM h1
         have HH3:=aM h3
         have HLT:=aM hlt
         have HM:=aM hm
         have HLEN:=aM hlen
         have HCAP:=aM hle5
         have p0:(0≤(i:Int))=True:=eq_true (by omega)
         have p1:=eq_true hltz
         clear h1 h3 hC5 e0 e1 B0 B1 hlt hm hi hltz hlen hle5
         obtain⟨f0,f1⟩:=AT.out wr HI.out.bel
         cases ead
         go_wp2
         go_loopg [6,9] right.length (fun kq v6 v9 wr=>∃(more:Bool) (j:Nat) (out':List (List Bool)),v6= .bool more∧v9= .int .i64 j∧j≤right.length∧right.length - j≤kq∧Aside0 (rFollowIn k l0_0 l0_1 a0_2 a0_3 l0_4 f em left (right.drop j) more out'=some (mi,outi))∧Aside0 (RFollowI w w5 w1.heap.size w3.heap.size Ao co m0.length out' wr))
         case atStart=>exact⟨more,0,out',rfl,rfl,by omega,by omega,⟨by simpa using HH1.out⟩,HI⟩
         case round=>
          clear HH1 HI f0 f1 q0 q1 q2 q3 q4
          obtain⟨more,j,out',rfl,rfl,hj,hm,HA,HI⟩:=hrel
          obtain⟨q0,q1,q2,q3,q4⟩:=HC5.out wr HI.out.k
          by_cases hlt:j<right.length
          ·have hltz:(j:Int)<(right.length:Int):=by omega
           have d1:decide ((j:Int)<(right.length:Int))=true:=decide_eq_true hltz
           have H:=HA.out
           rw [List.drop_eq_getElem_cons hlt] at H
           simp only [rFollowIn] at H
           obtain⟨ad5,ea5,e0,e1⟩:=at_T43 HCR.out (j:Int) (by omega) hltz
           cases ea5
           have hrd:rd_T43 right (j:Int)=right[j]:=by simp [rd_T43,hlt]
           rw [hrd] at e0 e1
           rw [Int.toNat_natCast] at e0 e1
           generalize right[j]=y at H e0 e1
           obtain⟨tk,n⟩:=y
           simp only at H e0 e1
           have B0:=World.block_lt_of_cell? w _ e0
           have B1:=World.block_lt_of_cell? w _ e1
           have AT5:Aside0 (∀W:World,Below w.heap.size w W→W.cell? (ad5.add (j * 2))=some (.bool tk)∧W.cell? ⟨(ad5.add (j * 2)).block,(ad5.add (j * 2)).off+1,none⟩=some (.int .i64 n)):=⟨fun W hb=>⟨(hb.cell B0).trans e0,(hb.cell B1).trans e1⟩⟩
           have p2:(0≤(j:Int))=True:=eq_true (by omega)
           have p3:=eq_true hltz
           have HLT5:=aM hlt
           have HM5:=aM hm
           clear hlt hltz hj hm hrd HA e0 e1 B0 B1
           obtain⟨f0,f1⟩:=AT5.out wr HI.out.bel
           cases tk with
           |true=>
            rw [if_pos rfl] at H
            have HN:=aM H
            clear H
            go_wp2
            go_roundg (right.length - (j+1))
            case measure=>have:=HM5.out;have:=HLT5.out;omega
            case rel=>exact⟨more,j+1,out',rfl,congrArg (Value.int .i64) (by unfold wrap64;have:=HLT5.out;have:=HLEN.out;omega),by have:=HLT5.out;omega,Nat.le_refl _,HN,HI⟩
           |false=>
            rw [if_neg (by simp)] at H
            obtain⟨⟨m1,me⟩,hbg,H2⟩:=Option.bind_eq_some_iff.1 H
            obtain⟨m2,hjf,H3⟩:=Option.bind_eq_some_iff.1 H2
            obtain⟨⟨mb,out1⟩,hjr,HN⟩:=Option.bind_eq_some_iff.1 H3
            clear H H2 H3
            simp only at hbg hjf hjr HN
            have HNX:=aM HN
            have HJR:=aM hjr
            clear HN hjr
            have hwr:IntKind.i64.wrap ((j:Int)+1)=(j:Int)+1:=by rw [IntKind.wrap_i64];have:=HLT5.out;have:=HLEN.out;omega
            obtain⟨i0,hi0,_,hsz,_⟩:=info_parts infoSymR
            have hcut:=cut_from (P:=Try.prog) 29 43 .i64 Try.underlying29 hi0 2 hsz (some ad5) right.length c5 ((j:Int)+1) (by omega) (by have:=HLT5.out;omega)
            rw [show((j:Int)+1).toNat=j+1 by omega,←List.length_drop] at hcut
            have HCY:Aside0 (∀W',Below w.heap.size w W'→Kd.C k43 W' (if c5=j+1 then some ad5 else(some ad5).map (·.add ((j+1) * 2))) (right.drop (j+1)).length (right.drop (j+1))):=⟨fun W' hk=>Kd.C_drop (bD HCR.out hk) HLT5.out HCAP.out⟩
            generalize (if c5=j+1 then some ad5 else(some ad5).map (·.add ((j+1) * 2)))=A' at hcut HCY
            have hbw:Below w.heap.size w wr.drew:=aO HI.out.bel
            have hcon:=regletref13_begins.calls k A0_0 c0_0 l0_0 A0_1 c0_1 l0_1 a0_2 a0_3 (some ad) c0_4 l0_4 A' (c5 - (j+1)) (right.drop (j+1)) Af cf f Ae ce em m1 me wr.drew (bD hr0_0 hbw) hc0_0 (bD hr0_1 hbw) hc0_1 (bD hr0_4 hbw) hc0_4 (HCY.out _ hbw) (by rw [List.length_drop];have:=HCAP.out;omega) (Kd.C_kept_own (S:=fun k=>w1.heap.size≤k∧k<w3.heap.size) (Kd.S_R CF.out) (fun k hk h2=>by have:=hk;omega) _ (Kept.drew HI.out.k)) (Kd.S_reads' CF.out).2.1 (Kd.C_kept_own (S:=fun k=>w1.heap.size≤k∧k<w3.heap.size) CE.out (fun k hk h2=>by have:=hk;omega) _ (Kept.drew HI.out.k)) (aF CE.out).2.1 hbg
            rw [List.length_drop] at hcon
            have HCON:=aM hcon
            clear hcon hbg hi0 hsz hbw
            have KEEP:Aside0 (∀W:World,Below wr.heap.size wr W→W.cell? ⟨w.heap.size,0,none⟩=some (.slice A0_0 l0_0.length c0_0)∧W.cell? ⟨w.heap.size,1,none⟩=some (.slice A0_1 l0_1.length c0_1)∧W.cell? ⟨w.heap.size,2,none⟩=some (.int .i64 a0_2)∧W.cell? ⟨w.heap.size,3,none⟩=some (.int .i64 a0_3)∧W.cell? ⟨w.heap.size,4,none⟩=some (.slice (some ad) l0_4.length c0_4)):=⟨fun W hb=>HC5.out W (HI.out.k.below hb)⟩
            have HJF:=aM hjf
            clear hjf
            go_wp2
            go_region_held3 (fun W=>W.cell? ⟨w.heap.size,0,none⟩=some (.slice A0_0 l0_0.length c0_0)∧W.cell? ⟨w.heap.size,1,none⟩=some (.slice A0_1 l0_1.length c0_1)∧W.cell? ⟨w.heap.size,2,none⟩=some (.int .i64 a0_2)∧W.cell? ⟨w.heap.size,3,none⟩=some (.int .i64 a0_3)∧W.cell? ⟨w.heap.size,4,none⟩=some (.slice (some ad) l0_4.length c0_4))
             (first|go_keep|exact KEEP.out _ KB.out)
             (first|(go_at_call 46;(with_reducible refine HCON.out.mono ?_);rintro e w2 ⟨v2,rfl,hR2,hb2⟩;obtain⟨A2,c2,rfl⟩:=Kd.R_slice hR2;have HR2:=aM hR2;have KB:Aside0 (Below wr.heap.size wr w2):=⟨(aO (Below.refl _ _)).trans hb2⟩;clear hR2 hb2 q0 q1 q2 q3 q4))
            have HI2:=aM (HI.out.below KB.out)
            have HR3:Aside0 (Kd.R Kd.bool 4 w2 w.heap.size (fun k=>wr.heap.size≤k) (.slice A2 m1.length c2) m1):=⟨bL (Kd.R_mono (Kd.R_bound HR2.out) (fun k hk=>hk.2.1)) (show w.heap.size≤wr.heap.size from HI.out.bel.size)⟩
            have HHI:Aside0 (w3.heap.size≤wr.heap.size):=⟨HI.out.h⟩
            have HBW:Aside0 (wr.heap.size≤w2.heap.size):=⟨KB.out.size⟩
            have HKS:Aside0 (w5.heap.size≤wr.heap.size):=⟨HI.out.k.1⟩
            have HJF0:=HJF.out
            have LEN:Aside0 ((m0.length:Int)=(out'.length:Int)):=⟨by have:=(Kd.S_reads' HI.out.r).1;omega⟩
            clear HCON HR2 hcut HCY f0 f1
            cases me with
            |false=>
             unfold rJoinFrom at HJF0
             rw [if_neg (by simp)] at HJF0
             obtain rfl:=Option.some.inj HJF0
             clear HJF0 HJF
             obtain⟨go,A4,c4,m4,hn0,hn1,eAo,hcell,hlen1,hcon⟩:=rjoin_row k w w5 w2 w1.heap.size w3.heap.size Ao co m0.length out' out1 HI2.out n m1 m1.length mb wr.heap.size HHI.out A2 c2 HR3.out HJR.out
             cases eAo
             have HCON2:=aM hcon
             have p6:=eq_true hn0
             have p7:(n<(m0.length:Int))=True:=eq_true (by rw [LEN.out];exact hn1)
             have y2:=(AT5.out w2 HI2.out.bel).2
             clear hcon hn0 hn1
             cases mb
             all_goals
              go_wp2_with (go_at_call 47;(with_reducible refine HCON2.out.mono ?_);rintro e w4 ⟨rfl,hI4,hK4⟩)
              go_roundg (right.length - (j+1))
              case measure=>have:=HM5.out;have:=HLT5.out;omega
              case rel=>exact⟨_,j+1,out1,rfl,congrArg (Value.int .i64) (by first|rfl|(unfold wrap64;have:=HLT5.out;have:=HLEN.out;omega)),by have:=HLT5.out;omega,Nat.le_refl _,HNX,hI4⟩
            |true=>
             unfold rJoinFrom at HJF0
             rw [if_pos rfl] at HJF0
             split at HJF0
             case isFalse=>simp at HJF0
             rename_i hl0
             split at HJF0
             case isFalse=>simp at HJF0
             rename_i hl1
             obtain⟨⟨jb,jm⟩,hjj,HJ2⟩:=Option.bind_eq_some_iff.1 HJF0
             obtain rfl:=Option.some.inj HJ2
             simp only at HJR HNX hjj
             obtain⟨go,A4,c4,m4,eAo,hcell,hcon⟩:=rjoin_from k w w5 w2 w1.heap.size w3.heap.size Ao co m0.length out' HI2.out left hl0 hl1 m1 jm jb wr.heap.size HKS.out H35S.out HBW.out A2 c2 HR3.out hjj
             cases eAo
             have HCON:=aM hcon
             have p8:=eq_true hl0
             have p9:(left<(m0.length:Int))=True:=eq_true (by rw [LEN.out];exact hl1)
             obtain⟨x0,_⟩:=AT.out w2 HI2.out.bel
             obtain⟨q0,q1,q2,q3,q4⟩:=HC5.out w2 HI2.out.k
             clear hcon hl0 hl1 HJF0 HJ2 hjj HJF q0 q1 q2 q3
             go_upto_region 21 with(go_at_call 47;(with_reducible refine HCON.out.mono ?_);rintro e w6 ⟨rfl,HI6,HR6,HK6⟩)
             clear hcell x0 q4
             obtain⟨go2,A7,c7,m7,hn0,hn1,eAo,hcell,hlen1,hcon⟩:=rjoin_row k w w5 w6 w1.heap.size w3.heap.size (some ⟨go,0,none⟩) co m0.length out' out1 HI6.out n jm m1.length mb wr.heap.size HHI.out A2 c2 HR6.out HJR.out
             obtain rfl:go=go2:=by injection eAo with eAo;injection eAo
             have HCON2:=aM hcon
             have p6:=eq_true hn0
             have p7:(n<(m0.length:Int))=True:=eq_true (by rw [LEN.out];exact hn1)
             have y2:=(AT5.out w6 HI6.out.bel).2
             clear hcon hn0 hn1
             cases mb
             all_goals
              go_wp2_with (go_at_call 47;(with_reducible refine HCON2.out.mono ?_);rintro e w4 ⟨rfl,hI4,hK4⟩)
              go_roundg (right.length - (j+1))
              case measure=>have:=HM5.out;have:=HLT5.out;omega
              case rel=>exact⟨_,j+1,out1,rfl,congrArg (Value.int .i64) (by first|rfl|(unfold wrap64;have:=HLT5.out;have:=HLEN.out;omega)),by have:=HLT5.out;omega,Nat.le_refl _,HNX,hI4⟩
          ·have hir:j=right.length:=by omega
           subst hir
           have d1:decide ((right.length:Int)<(right.length:Int))=false:=decide_eq_false (by omega)
           have H:=HA.out
           rw [List.drop_length] at H
           simp only [rFollowIn] at H
           obtain⟨rfl,rfl⟩:=Prod.mk.inj (Option.some.inj H)
           clear H HA
           go_wp2
           go_roundg (l0_4.length - (i+1))
           case measure=>have:=HM.out;have:=HLT.out;omega
           case rel=>exact⟨_,i+1,_,rfl,congrArg (Value.int .i64) (by unfold wrap64;have:=HLT.out;have:=HSZ.out.1;omega),by have:=HLT.out;omega,Nat.le_refl _,HH3,HI⟩
        ·have hir:i=l0_4.length:=by omega
         subst hir
         have d0:decide ((l0_4.length:Int)<(l0_4.length:Int))=false:=decide_eq_false (by omega)
         have H:=HA.out
         rw [List.drop_length] at H
         simp only [rFollowPs] at H
         obtain⟨rfl,rfl⟩:=Prod.mk.inj (Option.some.inj H)
         clear H HA
         go_wp2
         go_roundg k1
         case measure=>omega
         case rel=>exact⟨_,_,rfl,H2,HI⟩
end Go.Proofs.Ytapjfnfengefpaa.P
end
