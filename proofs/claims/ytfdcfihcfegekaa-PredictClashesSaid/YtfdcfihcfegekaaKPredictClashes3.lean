/- Packed texts of this claim: the walks of the functions, and their plain laws; see the claim's last text. -/
import Derived.WalkMore
import Derived.Deep.AppendLies
import Derived.Deep.Cut
import Derived.Deep.CutRange
import Derived.Shelf.Abstract
import Derived.Laws.BitsLemmas
import Derived.Deep.RegionHeld3
import Derived.Test.YtfdcfihcfegekaaKPredictClashes2
section
namespace Go.Proofs.Ytfdcfihcfegekaa.P
open Go.RowKit Go.Proofs.YtfdcfihcfegekaaW.PrintWords Go.Proofs.YtfdcfihcfegekaaW.PrintLast Go.Proofs.YtfdcfihcfegekaaW.PrintMore
attribute [local go_sem] max2_int min2_int max_two min_two max_three min_three max_four min_four   -- for this text's walks alone
set_option linter.unusedVariables false
set_option linter.unusedSimpArgs false
mutual
def predict_chosen.l0 : Nat → List (List Int) → List (List Bool) → List (S30) → Int → Int → List ByteArray → List (S61) → Int → Int → List (S30) → Option ((List (List Bool)))
  | 0,_,_,_,_,_,_,_,_,_,_ => none
  | k + 1,x3,x4,x18,x19,x20,x143000,x143001,x143002,x143003,x143004 => if x20 < x19 then (if 0 ≤ x20 then (if x20 < (x18.length : Int) then (if 0 ≤ (wrap64 ((x143001.length : Int) + 1)) then (if (wrap64 ((x143001.length : Int) + 1) : Int).toNat ≤ 281474976710656 then (if x20 < (x4.length : Int) then ((some (x4.set (x20 : Int).toNat (List.replicate (wrap64 ((x143001.length : Int) + 1) : Int).toNat false) : List (List Bool))).bind fun y154 => ((firsts_Of.f k x143000 x143001 x143002 x143003 x143004 ((rd_T30 x18 x20).f1)).bind fun bt155 => (if bt155.2 = true then (if 0 ≤ ((rd_T30 x18 x20).f0) then (if ((rd_T30 x18 x20).f0) < (x3.length : Int) then (if bt155.1.length + (rd_L3 x3 ((rd_T30 x18 x20).f0)).length < 17592186044416 then (predict_chosen.j1 k x3 y154 x20 (bt155.1 ++ (rd_L3 x3 ((rd_T30 x18 x20).f0))) x18 x19 x20 x143000 x143001 x143002 x143003 x143004) else (none)) else (none)) else (none)) else (predict_chosen.j1 k x3 y154 x20 bt155.1 x18 x19 x20 x143000 x143001 x143002 x143003 x143004)))) else (none)) else (none)) else (none)) else (none)) else (none)) else (some x4)
def predict_chosen.j1 : Nat → List (List Int) → List (List Bool) → Int → List Int → List (S30) → Int → Int → List ByteArray → List (S61) → Int → Int → List (S30) → Option ((List (List Bool)))
  | 0,_,_,_,_,_,_,_,_,_,_,_,_ => none
  | k + 1,x3,x4,x5,x7,x18,x19,x20,x143000,x143001,x143002,x143003,x143004 => predict_chosen.l1 k x3 x4 x5 x18 x19 x20 x7 (x7.length : Int) 0 x143000 x143001 x143002 x143003 x143004
def predict_chosen.l1 : Nat → List (List Int) → List (List Bool) → Int → List (S30) → Int → Int → List Int → Int → Int → List ByteArray → List (S61) → Int → Int → List (S30) → Option ((List (List Bool)))
  | 0,_,_,_,_,_,_,_,_,_,_,_,_,_,_ => none
  | k + 1,x3,x4,x5,x18,x19,x20,x48,x49,x50,x143000,x143001,x143002,x143003,x143004 => if x50 < x49 then (if 0 ≤ x50 then (if x50 < (x48.length : Int) then (if 0 ≤ x5 then (if x5 < (x4.length : Int) then (if 0 ≤ (rd x48 x50) then (if (rd x48 x50) < ((rd_L13 x4 x5).length : Int) then (predict_chosen.l1 k x3 (x4.set (x5 : Int).toNat ((rd_L13 x4 x5).set ((rd x48 x50) : Int).toNat true)) x5 x18 x19 x20 x48 x49 (wrap64 (x50 + 1)) x143000 x143001 x143002 x143003 x143004) else (none)) else (none)) else (none)) else (none)) else (none)) else (none)) else (predict_chosen.l0 k x3 x4 x18 x19 (wrap64 (x20 + 1)) x143000 x143001 x143002 x143003 x143004)
end
def predict_chosen.f (k : Nat) (l0_0 : List ByteArray) (l0_1 : List (S61)) (a0_2 : Int) (a0_3 : Int) (l0_4 : List (S30)) : Option ((List (List Bool))) := (firsts_Follow.f k l0_0 l0_1 a0_2 a0_3 l0_4).bind fun t143 => (if 0 ≤ (l0_4.length : Int) then (if ((l0_4.length : Int) : Int).toNat ≤ 11728124029610 then (predict_chosen.l0 k t143 (List.replicate ((l0_4.length : Int) : Int).toNat []) l0_4 (l0_4.length : Int) 0 l0_0 l0_1 a0_2 a0_3 l0_4) else (none)) else (none))
set_option maxHeartbeats 8000000 in
set_option maxRecDepth 100000 in
theorem predict_chosen.calls (k : Nat) (A0_0 : Option Addr) (c0_0 : Nat) (l0_0 : List ByteArray) (A0_1 : Option Addr) (c0_1 : Nat) (l0_1 : List (S61)) (a0_2 : Int) (a0_3 : Int) (A0_4 : Option Addr) (c0_4 : Nat) (l0_4 : List (S30)) (r : List (List Bool)) (w : World) (hr0_0 : Kd.C Kd.string w A0_0 l0_0.length l0_0) (hc0_0 : l0_0.length ≤ c0_0) (hr0_1 : Kd.C k61 w A0_1 l0_1.length l0_1) (hc0_1 : l0_1.length ≤ c0_1) (hr0_4 : Kd.C k30 w A0_4 l0_4.length l0_4) (hc0_4 : l0_4.length ≤ c0_4) (h : predict_chosen.f k l0_0 l0_1 a0_2 a0_3 l0_4 = some r) :
    Calls Try.prog 23 #[.agg #[.slice A0_0 l0_0.length c0_0,.slice A0_1 l0_1.length c0_1,.int .i64 a0_2,.int .i64 a0_3,.slice A0_4 l0_4.length c0_4]] w fun e w' => ∃ v0_ : Value,e = .returned (v0_) ∧ Kd.S (Kd.slice 4 Kd.bool) 65 w' w.heap.size (fun _ => True) v0_ r ∧ Below w.heap.size w w' := by
 have hu26:=Try.underlying26
 have hu30:=Try.underlying30
 have HR0_0:=Aside0.mk hr0_0
 have HC0_0:=Aside0.mk hc0_0
 clear hr0_0 hc0_0
 have HR0_1:=Aside0.mk hr0_1
 have HC0_1:=Aside0.mk hc0_1
 clear hr0_1 hc0_1
 have HR0_4:=Aside0.mk hr0_4
 have HC0_4:=Aside0.mk hc0_4
 clear hr0_4 hc0_4
 have HB:=Aside0.mk (Below.refl w.heap.size w)
 have H : ((firsts_Follow.f k l0_0 l0_1 a0_2 a0_3 l0_4).bind fun t143 => (if 0 ≤ (l0_4.length : Int) then (if ((l0_4.length : Int) : Int).toNat ≤ 11728124029610 then (predict_chosen.l0 k t143 (List.replicate ((l0_4.length : Int) : Int).toNat []) l0_4 (l0_4.length : Int) 0 l0_0 l0_1 a0_2 a0_3 l0_4) else (none)) else (none))) = some r:=h
 clear h
 replace H:=Option.bind_eq_some_iff.mp H
 obtain ⟨t143,A20,H⟩ := H
 replace H : (if 0 ≤ (l0_4.length : Int) then (if ((l0_4.length : Int) : Int).toNat ≤ 11728124029610 then (predict_chosen.l0 k t143 (List.replicate ((l0_4.length : Int) : Int).toNat []) l0_4 (l0_4.length : Int) 0 l0_0 l0_1 a0_2 a0_3 l0_4) else (none)) else (none)) = some r:=H
 have A2:=Aside0.mk A20
 clear A20
 by_cases c3 : 0 ≤ (l0_4.length : Int)
 rotate_left
 · rw [if_neg c3] at H
   exact absurd H (by simp)
 rw [if_pos c3] at H
 have c3b0:=eq_true c3
 have c3b1 : decide (0 ≤ (l0_4.length : Int)) = true:=decide_eq_true c3
 clear c3
 by_cases c4 : ((l0_4.length : Int) : Int).toNat ≤ 11728124029610
 rotate_left
 · rw [if_neg c4] at H
   exact absurd H (by simp)
 rw [if_pos c4] at H
 have c4b0:=eq_true c4
 have c4b1 : decide (((l0_4.length : Int) : Int).toNat ≤ 11728124029610) = true:=decide_eq_true c4
 clear c4
 obtain ⟨y146,hy146⟩ : ∃ y_ : List (List Bool),y_ = (List.replicate ((l0_4.length : Int) : Int).toNat []) := ⟨_,rfl⟩
 replace H : (predict_chosen.l0 k t143 y146 l0_4 (l0_4.length : Int) 0 l0_0 l0_1 a0_2 a0_3 l0_4) = some r:=by first | (rw [hy146];with_reducible exact H) | (have H2_:=(Option.bind_some _ _).symm.trans H;rw [hy146];with_reducible exact H2_) | (have H2_:=(Option.bind_some _ _).symm.trans H;with_reducible exact H2_) | with_reducible exact H | (rw [hy146];exact H) | exact H
 have Ny146:=Aside0.mk hy146
 clear hy146
 have H' := Aside0.mk H
 clear H
 go_enter Try.func23,Try.ntmps23
 go_wp2_with (first | ((with_reducible refine gate_dst (N:=1) rfl ?_);refine box_event ?hg (N:=1) ?hd (cs:=#[.slice A0_0 l0_0.length c0_0,.slice A0_1 l0_1.length c0_1,.int .i64 a0_2,.int .i64 a0_3,.slice A0_4 l0_4.length c0_4]) (t:=26) ?hr ?_;(case hd => rfl);(case hg => rfl);(case hr => first | (go_simp;done) | (go_simp;rfl));intro gb142 hg w5 hbox hb;have n0_:=Aside0.mk (below_step (by repeat (first | (with_reducible first | exact HB.out | apply below_alloc | apply pw_below_drewN | apply below_drew1) | exact HB.out)) hb);have n1_:=Aside0.mk (hbox);have n2_:=Aside0.mk ((by rw [hg];exact (below_size (by repeat (first | (with_reducible first | exact HB.out | apply below_alloc | apply pw_below_drewN | apply below_drew1) | exact HB.out))) : w.heap.size ≤ gb142));have n3_:=Aside0.mk ((by rw [hg];exact (below_size (by repeat (first | (with_reducible first | exact HB.out | apply below_alloc | apply pw_below_drewN | apply below_drew1) | exact HB.out))) : w.heap.size ≤ gb142));clear HB;have HB:=n0_;have BK142:=n1_;have GW142:=n2_;have GE142:=n3_;clear n0_ n1_ n2_ n3_;clear hb hbox hg;have hcz6_0 : w5.cell? ⟨gb142,0,none⟩ = some (.slice A0_0 l0_0.length c0_0) := (blk_cell BK142.out 0).trans rfl;have hcz6_1 : w5.cell? ⟨gb142,1,none⟩ = some (.slice A0_1 l0_1.length c0_1) := (blk_cell BK142.out 1).trans rfl;have hcz6_2 : w5.cell? ⟨gb142,2,none⟩ = some (.int .i64 a0_2) := (blk_cell BK142.out 2).trans rfl;have hcz6_3 : w5.cell? ⟨gb142,3,none⟩ = some (.int .i64 a0_3) := (blk_cell BK142.out 3).trans rfl;have hcz6_4 : w5.cell? ⟨gb142,4,none⟩ = some (.slice A0_4 l0_4.length c0_4) := (blk_cell BK142.out 4).trans rfl;have hfz6_0:=blk_frozen BK142.out 0;have hfz6_1:=blk_frozen BK142.out 1;have hfz6_2:=blk_frozen BK142.out 2;have hfz6_3:=blk_frozen BK142.out 3;have hfz6_4:=blk_frozen BK142.out 4) | ((with_reducible refine gate_callee (f:=38) rfl ?_);refine goesL_ (some 12) rfl rfl Try.func38 (by kernel_rfl) rfl #[.agg #[.slice A0_0 l0_0.length c0_0,.slice A0_1 l0_1.length c0_1,.int .i64 a0_2,.int .i64 a0_3,.slice A0_4 l0_4.length c0_4]] rfl (by (try simp only [List.map_toArray,List.map_cons,List.map_nil]);first | done | rfl | (simp only [List.length_drop,List.length_take];rfl)) ?_;(with_reducible refine (firsts_Follow.calls k _ _ l0_0 _ _ l0_1 a0_2 a0_3 _ _ l0_4 t143 _ ?side1 ?side2 ?side3 ?side4 ?side5 ?side6 A2.out).mono ?_);(case side1 => repeat (first | exact (Kd.C_below HR0_0.out HB.out) | (with_reducible refine Kd.C_alloc ?_ _) | (with_reducible refine Kd.C_drewN ?_ _) | (with_reducible refine Kd.C_drew ?_)));(case side2 => exact HC0_0.out);(case side3 => repeat (first | exact (Kd.C_below HR0_1.out HB.out) | (with_reducible refine Kd.C_alloc ?_ _) | (with_reducible refine Kd.C_drewN ?_ _) | (with_reducible refine Kd.C_drew ?_)));(case side4 => exact HC0_1.out);(case side5 => repeat (first | exact (Kd.C_below HR0_4.out HB.out) | (with_reducible refine Kd.C_alloc ?_ _) | (with_reducible refine Kd.C_drewN ?_ _) | (with_reducible refine Kd.C_drew ?_)));(case side6 => exact HC0_4.out);rintro e w7 ⟨v144,rfl,ho0,hb⟩;refine ⟨_,rfl,?_⟩;have n0_:=Aside0.mk (Kd.S_lower ho0 (below_size (by repeat (first | (with_reducible first | exact HB.out | apply below_alloc | apply pw_below_drewN | apply below_drew1 | refine below_set ?_ GE142.out) | exact HB.out))));have n1_:=Aside0.mk (blk_below (g:=gb142) (o := .cells #[.slice A0_0 l0_0.length c0_0,.slice A0_1 l0_1.length c0_1,.int .i64 a0_2,.int .i64 a0_3,.slice A0_4 l0_4.length c0_4] 26 (0,0)) (by (with_reducible repeat (first | refine blk_drewN ?_ _ | refine blk_drew ?_ | refine blk_alloc ?_ _));exact BK142.out) hb);have n2_:=Aside0.mk (below_step (by repeat (first | (with_reducible first | exact HB.out | apply below_alloc | apply pw_below_drewN | apply below_drew1 | refine below_set ?_ GE142.out) | exact HB.out)) hb);clear BK142;clear HB;have HO145:=n0_;have BK142:=n1_;have HB:=n2_;clear n0_ n1_ n2_;(try clear hb);(try clear hb2);(try clear hk);(try clear hi);(try clear ho0);have hcz8_0 : w7.cell? ⟨gb142,0,none⟩ = some (.slice A0_0 l0_0.length c0_0) := (blk_cell BK142.out 0).trans rfl;have hcz8_1 : w7.cell? ⟨gb142,1,none⟩ = some (.slice A0_1 l0_1.length c0_1) := (blk_cell BK142.out 1).trans rfl;have hcz8_2 : w7.cell? ⟨gb142,2,none⟩ = some (.int .i64 a0_2) := (blk_cell BK142.out 2).trans rfl;have hcz8_3 : w7.cell? ⟨gb142,3,none⟩ = some (.int .i64 a0_3) := (blk_cell BK142.out 3).trans rfl;have hcz8_4 : w7.cell? ⟨gb142,4,none⟩ = some (.slice A0_4 l0_4.length c0_4) := (blk_cell BK142.out 4).trans rfl;have hfz8_0:=blk_frozen BK142.out 0;have hfz8_1:=blk_frozen BK142.out 1;have hfz8_2:=blk_frozen BK142.out 2;have hfz8_3:=blk_frozen BK142.out 3;have hfz8_4:=blk_frozen BK142.out 4) | ((with_reducible refine gate_dst (N:=16) rfl ?_);refine Kd.S_make (Kd.slice 4 Kd.bool) _ 65 rfl (N:=16) rfl 62 _ _ rfl (l0_4.length : Int) rfl rfl Try.underlying62 (.slice none 0 0) 24 info65 rfl (by decide) (by omega) [] (ok:=fun _ => True) (okp:=fun _ => True) ⟨_,rfl,Kd.R_nil _ _ _ _ _⟩ (fun _ hk => hk) trivial (of_decide_eq_true (by first | (with_reducible assumption) | assumption)) (Nat.le_trans (Nat.mul_le_mul_right _ (of_decide_eq_true (by first | (with_reducible assumption) | assumption) : (l0_4.length : Int).toNat ≤ 11728124029610)) (by omega)) (Below.refl _ _) (Nat.le_refl _) ?_;intro v147 w9 ho10 hb hg_ hnew_;clear hg_ hnew_;(first | rw [← Ny146.out] at ho10 | (simp only [Int.reduceToNat] at ho10;rw [← Ny146.out] at ho10));have n0_:=Aside0.mk (Kd.S_below (by (with_reducible repeat (first | apply Kd.S_alloc | apply Kd.S_drewN | apply Kd.S_drew));exact HO145.out) hb);have n1_:=Aside0.mk (Kd.S_lower ho10 (below_size (by repeat (first | (with_reducible first | exact HB.out | apply below_alloc | apply pw_below_drewN | apply below_drew1 | refine below_set ?_ GE142.out) | exact HB.out))));have n2_:=Aside0.mk (blk_below (g:=gb142) (o := .cells #[.slice A0_0 l0_0.length c0_0,.slice A0_1 l0_1.length c0_1,.int .i64 a0_2,.int .i64 a0_3,.slice A0_4 l0_4.length c0_4] 26 (0,0)) (by (with_reducible repeat (first | refine blk_drewN ?_ _ | refine blk_drew ?_ | refine blk_alloc ?_ _));exact BK142.out) hb);have n3_:=Aside0.mk (below_step (by repeat (first | (with_reducible first | exact HB.out | apply below_alloc | apply pw_below_drewN | apply below_drew1 | refine below_set ?_ GE142.out) | exact HB.out)) hb);clear HO145;clear BK142;clear HB;have HO145:=n0_;have HO148:=n1_;have BK142:=n2_;have HB:=n3_;clear n0_ n1_ n2_ n3_;clear hb ho10;have hcz11_0 : w9.cell? ⟨gb142,0,none⟩ = some (.slice A0_0 l0_0.length c0_0) := (blk_cell BK142.out 0).trans rfl;have hcz11_1 : w9.cell? ⟨gb142,1,none⟩ = some (.slice A0_1 l0_1.length c0_1) := (blk_cell BK142.out 1).trans rfl;have hcz11_2 : w9.cell? ⟨gb142,2,none⟩ = some (.int .i64 a0_2) := (blk_cell BK142.out 2).trans rfl;have hcz11_3 : w9.cell? ⟨gb142,3,none⟩ = some (.int .i64 a0_3) := (blk_cell BK142.out 3).trans rfl;have hcz11_4 : w9.cell? ⟨gb142,4,none⟩ = some (.slice A0_4 l0_4.length c0_4) := (blk_cell BK142.out 4).trans rfl;have hfz11_0:=blk_frozen BK142.out 0;have hfz11_1:=blk_frozen BK142.out 1;have hfz11_2:=blk_frozen BK142.out 2;have hfz11_3:=blk_frozen BK142.out 3;have hfz11_4:=blk_frozen BK142.out 4))
 go_loopg [20] k (fun kq v20 w' => ∃ (x4_1 : List (List Bool)) (x20_1 : Int),v20 = .int .i64 x20_1 ∧ Aside0 (predict_chosen.l0 kq t143 x4_1 l0_4 (l0_4.length : Int) x20_1 l0_0 l0_1 a0_2 a0_3 l0_4 = some r) ∧ Aside0 (kq ≤ k) ∧ Aside0 (Kd.S (Kd.slice 3 (Kd.int .i64)) 43 w' w.heap.size (fun _ => True) v144 t143) ∧ Aside0 (Kd.S (Kd.slice 4 Kd.bool) 65 w' w.heap.size (fun _ => True) v147 x4_1) ∧ Aside0 (w'.heap[gb142]? = some (.cells #[(.slice A0_0 l0_0.length c0_0),(.slice A0_1 l0_1.length c0_1),.int .i64 a0_2,.int .i64 a0_3,(.slice A0_4 l0_4.length c0_4)] 26 (0,0))) ∧ Aside0 (Below w.heap.size w w'))
 case atStart => exact ⟨(y146),(0),(by first | rfl | (simp;done) | (simp [*];done)),H',⟨Nat.le_refl _⟩,⟨by (with_reducible repeat (first | apply Kd.S_alloc | apply Kd.S_drewN | apply Kd.S_drew));exact HO145.out⟩,⟨by (with_reducible repeat (first | apply Kd.S_alloc | apply Kd.S_drewN | apply Kd.S_drew));exact HO148.out⟩,⟨by (with_reducible repeat (first | refine blk_drewN ?_ _ | refine blk_drew ?_ | refine blk_alloc ?_ _));exact BK142.out⟩,⟨by repeat (first | (with_reducible first | exact HB.out | apply below_alloc | apply pw_below_drewN | apply below_drew1 | refine below_set ?_ GE142.out) | exact HB.out)⟩⟩
 case round =>
  clear H'
  (try clear c2);(try clear p2);(try clear c3);(try clear c3b0);(try clear c3b1);(try clear c4);(try clear c4b0);(try clear c4b1);(try clear hcz11_0);(try clear hcz11_1);(try clear hcz11_2);(try clear hcz11_3);(try clear hcz11_4);(try clear hcz6_0);(try clear hcz6_1);(try clear hcz6_2);(try clear hcz6_3);(try clear hcz6_4);(try clear hcz8_0);(try clear hcz8_1);(try clear hcz8_2);(try clear hcz8_3);(try clear hcz8_4)
  (try clear hfz11_0);(try clear hfz11_1);(try clear hfz11_2);(try clear hfz11_3);(try clear hfz11_4);(try clear hfz6_0);(try clear hfz6_1);(try clear hfz6_2);(try clear hfz6_3);(try clear hfz6_4);(try clear hfz8_0);(try clear hfz8_1);(try clear hfz8_2);(try clear hfz8_3);(try clear hfz8_4)
  obtain ⟨x4_1,x20_1,rfl,HA,HK1,HO_3,HO_4,BK142,HB⟩ := hrel
  cases gk with
  | zero => exact absurd HA.out (by simp [predict_chosen.l0])
  | succ k1 =>
   have H:=HA.out
   clear HA
   simp only [predict_chosen.l0] at H
   by_cases c12 : x20_1 < (l0_4.length : Int)
   · rw [if_pos c12] at H
     have c12b0 : decide (x20_1 < (l0_4.length : Int)) = true:=decide_eq_true c12
     clear c12
     by_cases c13 : 0 ≤ x20_1
     rotate_left
     · rw [if_neg c13] at H
       exact absurd H (by simp)
     rw [if_pos c13] at H
     have c13b0 : decide (0 ≤ x20_1) = true:=decide_eq_true c13
     clear c13
     by_cases c14 : x20_1 < (l0_4.length : Int)
     rotate_left
     · rw [if_neg c14] at H
       exact absurd H (by simp)
     rw [if_pos c14] at H
     have c14b0 : decide (x20_1 < (l0_4.length : Int)) = true:=decide_eq_true c14
     clear c14
     obtain ⟨ji15,hji15⟩ : ∃ j_ : Int,(wrap64 ((l0_1.length : Int) + 1)) = j_:=⟨_,rfl⟩
     replace H : (if 0 ≤ (ji15) then (if (ji15 : Int).toNat ≤ 281474976710656 then (if x20_1 < (x4_1.length : Int) then ((some (x4_1.set (x20_1 : Int).toNat (List.replicate (ji15 : Int).toNat false) : List (List Bool))).bind fun y154 => ((firsts_Of.f k1 l0_0 l0_1 a0_2 a0_3 l0_4 ((rd_T30 l0_4 x20_1).f1)).bind fun bt155 => (if bt155.2 = true then (if 0 ≤ ((rd_T30 l0_4 x20_1).f0) then (if ((rd_T30 l0_4 x20_1).f0) < (t143.length : Int) then (if bt155.1.length + (rd_L3 t143 ((rd_T30 l0_4 x20_1).f0)).length < 17592186044416 then (predict_chosen.j1 k1 t143 y154 x20_1 (bt155.1 ++ (rd_L3 t143 ((rd_T30 l0_4 x20_1).f0))) l0_4 (l0_4.length : Int) x20_1 l0_0 l0_1 a0_2 a0_3 l0_4) else (none)) else (none)) else (none)) else (predict_chosen.j1 k1 t143 y154 x20_1 bt155.1 l0_4 (l0_4.length : Int) x20_1 l0_0 l0_1 a0_2 a0_3 l0_4)))) else (none)) else (none)) else (none)) = some r:=by first | (rw [hji15] at H;exact H) | (simp only [hji15] at H ⊢;exact H)
     have hji15w : (IntKind.i64.wrap ((l0_1.length : Int) + 1)) = ji15:=(i64_w _).trans hji15
     by_cases c16 : 0 ≤ (ji15)
     rotate_left
     · rw [if_neg c16] at H
       exact absurd H (by simp)
     rw [if_pos c16] at H
     have c16b0:=eq_true c16
     have c16b1 : decide (0 ≤ (ji15)) = true:=decide_eq_true c16
     clear c16
     by_cases c17 : (ji15 : Int).toNat ≤ 281474976710656
     rotate_left
     · rw [if_neg c17] at H
       exact absurd H (by simp)
     rw [if_pos c17] at H
     have c17b0:=eq_true c17
     have c17b1 : decide ((ji15 : Int).toNat ≤ 281474976710656) = true:=decide_eq_true c17
     clear c17
     obtain ⟨y151,hy151⟩ : ∃ y_ : List Bool,y_ = (List.replicate (ji15 : Int).toNat false) := ⟨_,rfl⟩
     replace H : (if x20_1 < (x4_1.length : Int) then ((some (x4_1.set (x20_1 : Int).toNat y151 : List (List Bool))).bind fun y154 => ((firsts_Of.f k1 l0_0 l0_1 a0_2 a0_3 l0_4 ((rd_T30 l0_4 x20_1).f1)).bind fun bt155 => (if bt155.2 = true then (if 0 ≤ ((rd_T30 l0_4 x20_1).f0) then (if ((rd_T30 l0_4 x20_1).f0) < (t143.length : Int) then (if bt155.1.length + (rd_L3 t143 ((rd_T30 l0_4 x20_1).f0)).length < 17592186044416 then (predict_chosen.j1 k1 t143 y154 x20_1 (bt155.1 ++ (rd_L3 t143 ((rd_T30 l0_4 x20_1).f0))) l0_4 (l0_4.length : Int) x20_1 l0_0 l0_1 a0_2 a0_3 l0_4) else (none)) else (none)) else (none)) else (predict_chosen.j1 k1 t143 y154 x20_1 bt155.1 l0_4 (l0_4.length : Int) x20_1 l0_0 l0_1 a0_2 a0_3 l0_4)))) else (none)) = some r:=by first | (rw [hy151];with_reducible exact H) | (have H2_:=(Option.bind_some _ _).symm.trans H;rw [hy151];with_reducible exact H2_) | (have H2_:=(Option.bind_some _ _).symm.trans H;with_reducible exact H2_) | with_reducible exact H | (rw [hy151];exact H) | exact H
     have Ny151:=Aside0.mk hy151
     clear hy151
     by_cases c18 : x20_1 < (x4_1.length : Int)
     rotate_left
     · rw [if_neg c18] at H
       exact absurd H (by simp)
     rw [if_pos c18] at H
     have c18b0 : decide (x20_1 < (x4_1.length : Int)) = true:=decide_eq_true c18
     clear c18
     obtain ⟨y154,hy154⟩ : ∃ y_ : List (List Bool),y_ = (x4_1.set (x20_1 : Int).toNat y151) := ⟨_,rfl⟩
     replace H : ((firsts_Of.f k1 l0_0 l0_1 a0_2 a0_3 l0_4 ((rd_T30 l0_4 x20_1).f1)).bind fun bt155 => (if bt155.2 = true then (if 0 ≤ ((rd_T30 l0_4 x20_1).f0) then (if ((rd_T30 l0_4 x20_1).f0) < (t143.length : Int) then (if bt155.1.length + (rd_L3 t143 ((rd_T30 l0_4 x20_1).f0)).length < 17592186044416 then (predict_chosen.j1 k1 t143 y154 x20_1 (bt155.1 ++ (rd_L3 t143 ((rd_T30 l0_4 x20_1).f0))) l0_4 (l0_4.length : Int) x20_1 l0_0 l0_1 a0_2 a0_3 l0_4) else (none)) else (none)) else (none)) else (predict_chosen.j1 k1 t143 y154 x20_1 bt155.1 l0_4 (l0_4.length : Int) x20_1 l0_0 l0_1 a0_2 a0_3 l0_4))) = some r:=by first | (rw [hy154];with_reducible exact H) | (have H2_:=(Option.bind_some _ _).symm.trans H;rw [hy154];with_reducible exact H2_) | (have H2_:=(Option.bind_some _ _).symm.trans H;with_reducible exact H2_) | with_reducible exact H | (rw [hy154];exact H) | exact H
     have Ny154:=Aside0.mk hy154
     clear hy154
     replace H:=Option.bind_eq_some_iff.mp H
     obtain ⟨⟨t155,t158⟩,A200,H⟩ := H
     replace H : (if t158 = true then (if 0 ≤ ((rd_T30 l0_4 x20_1).f0) then (if ((rd_T30 l0_4 x20_1).f0) < (t143.length : Int) then (if t155.length + (rd_L3 t143 ((rd_T30 l0_4 x20_1).f0)).length < 17592186044416 then (predict_chosen.j1 k1 t143 y154 x20_1 (t155 ++ (rd_L3 t143 ((rd_T30 l0_4 x20_1).f0))) l0_4 (l0_4.length : Int) x20_1 l0_0 l0_1 a0_2 a0_3 l0_4) else (none)) else (none)) else (none)) else (predict_chosen.j1 k1 t143 y154 x20_1 t155 l0_4 (l0_4.length : Int) x20_1 l0_0 l0_1 a0_2 a0_3 l0_4)) = some r:=H
     have A20:=Aside0.mk A200
     clear A200
     have HC21:=Aside0.mk H
     clear H
     have p149 : 0 ≤ (x20_1 : Int) := of_decide_eq_true (by first | (with_reducible assumption) | assumption)
     have q149 : x20_1 < (l0_4.length : Int) := of_decide_eq_true (by first | (with_reducible assumption) | assumption)
     obtain ⟨ad149,A149_1,c149_1,e149,hx149_0,hx149_1,hl149_1,hi149_1⟩ := at_T30 HR0_4.out x20_1 p149 q149
     cases e149
     replace hx149_0:=(HB.out.cell (World.block_lt_of_cell? w _ hx149_0)).trans hx149_0
     replace hx149_1:=(HB.out.cell (World.block_lt_of_cell? w _ hx149_1)).trans hx149_1
     have HR149_1:=Aside0.mk hi149_1
     have HC149_1:=Aside0.mk hl149_1
     clear hi149_1 hl149_1
     replace p149:=eq_true p149
     replace q149:=eq_true q149
     go_upto_if 40 with (first | ((with_reducible refine gate_dst (N:=6) rfl ?_);refine box_event ?hg (N:=6) ?hd (cs:=#[.int .i64 0,.slice none 0 0]) (t:=30) ?hr ?_;(case hd => rfl);(case hg => rfl);(case hr => first | (go_simp;done) | (go_simp;rfl));intro gb150 hg w22 hbox hb;have n0_:=Aside0.mk (Kd.S_below (by (with_reducible repeat (first | apply Kd.S_alloc | apply Kd.S_drewN | apply Kd.S_drew));exact HO_3.out) hb);have n1_:=Aside0.mk (Kd.S_below (by (with_reducible repeat (first | apply Kd.S_alloc | apply Kd.S_drewN | apply Kd.S_drew));exact HO_4.out) hb);have n2_:=Aside0.mk (blk_below (g:=gb142) (o := .cells #[.slice A0_0 l0_0.length c0_0,.slice A0_1 l0_1.length c0_1,.int .i64 a0_2,.int .i64 a0_3,.slice (some ad149) l0_4.length c0_4] 26 (0,0)) (by (with_reducible repeat (first | refine blk_drewN ?_ _ | refine blk_drew ?_ | refine blk_alloc ?_ _));exact BK142.out) hb);have n3_:=Aside0.mk (below_step (by repeat (first | (with_reducible first | exact HB.out | apply below_alloc | apply pw_below_drewN | apply below_drew1 | refine below_set ?_ GE142.out) | exact HB.out)) hb);have n4_:=Aside0.mk (hbox);have n5_:=Aside0.mk ((by rw [hg];exact (below_size (by repeat (first | (with_reducible first | exact HB.out | apply below_alloc | apply pw_below_drewN | apply below_drew1 | refine below_set ?_ GE142.out) | exact HB.out))) : w.heap.size ≤ gb150));have n6_:=Aside0.mk ((by rw [hg];exact (below_size (by repeat (first | (with_reducible first | exact HB.out | apply below_alloc | apply pw_below_drewN | apply below_drew1 | refine below_set ?_ GE142.out) | exact HB.out))) : w.heap.size ≤ gb150));have n7_:=Aside0.mk ((by rw [hg];exact Nat.ne_of_lt (blk_lt (g:=gb142) (o := .cells #[.slice A0_0 l0_0.length c0_0,.slice A0_1 l0_1.length c0_1,.int .i64 a0_2,.int .i64 a0_3,.slice (some ad149) l0_4.length c0_4] 26 (0,0)) (by (with_reducible repeat (first | refine blk_drewN ?_ _ | refine blk_drew ?_ | refine blk_alloc ?_ _));exact BK142.out)) : gb142 ≠ gb150));have n8_:=Aside0.mk ((by rw [hg];exact Nat.ne_of_gt (blk_lt (g:=gb142) (o := .cells #[.slice A0_0 l0_0.length c0_0,.slice A0_1 l0_1.length c0_1,.int .i64 a0_2,.int .i64 a0_3,.slice (some ad149) l0_4.length c0_4] 26 (0,0)) (by (with_reducible repeat (first | refine blk_drewN ?_ _ | refine blk_drew ?_ | refine blk_alloc ?_ _));exact BK142.out)) : gb150 ≠ gb142));clear HO_3;clear HO_4;clear BK142;clear HB;have HO_3:=n0_;have HO_4:=n1_;have BK142:=n2_;have HB:=n3_;have BK150:=n4_;have GW150:=n5_;have GE150:=n6_;have NB142_150:=n7_;have NB150_142:=n8_;clear n0_ n1_ n2_ n3_ n4_ n5_ n6_ n7_ n8_;clear hb hbox hg;have hnb23:=NB150_142.out;have hnc23:=NB142_150.out;have hcz24_0 : w22.cell? ⟨gb150,0,none⟩ = some (.int .i64 0) := (blk_cell BK150.out 0).trans rfl;have hcz24_1 : w22.cell? ⟨gb150,1,none⟩ = some (.slice none 0 0) := (blk_cell BK150.out 1).trans rfl;have hfz24_0:=blk_frozen BK150.out 0;have hfz24_1:=blk_frozen BK150.out 1;have hcz25_0 : w22.cell? ⟨gb142,0,none⟩ = some (.slice A0_0 l0_0.length c0_0) := (blk_cell BK142.out 0).trans rfl;have hcz25_1 : w22.cell? ⟨gb142,1,none⟩ = some (.slice A0_1 l0_1.length c0_1) := (blk_cell BK142.out 1).trans rfl;have hcz25_2 : w22.cell? ⟨gb142,2,none⟩ = some (.int .i64 a0_2) := (blk_cell BK142.out 2).trans rfl;have hcz25_3 : w22.cell? ⟨gb142,3,none⟩ = some (.int .i64 a0_3) := (blk_cell BK142.out 3).trans rfl;have hcz25_4 : w22.cell? ⟨gb142,4,none⟩ = some (.slice (some ad149) l0_4.length c0_4) := (blk_cell BK142.out 4).trans rfl;have hfz25_0:=blk_frozen BK142.out 0;have hfz25_1:=blk_frozen BK142.out 1;have hfz25_2:=blk_frozen BK142.out 2;have hfz25_3:=blk_frozen BK142.out 3;have hfz25_4:=blk_frozen BK142.out 4) | ((with_reducible refine gate_dst (N:=31) rfl ?_);refine Kd.R_make Kd.bool _ 4 rfl (N:=31) rfl 65 _ _ rfl ji15 rfl rfl Try.underlying65 (.bool false) 1 info4 rfl (by decide) (by omega) false (ok:=fun _ => True) (okp:=fun _ => True) rfl (fun _ hk => hk) trivial (of_decide_eq_true (by first | (with_reducible assumption) | assumption)) (Nat.le_trans (Nat.mul_le_mul_right _ (of_decide_eq_true (by first | (with_reducible assumption) | assumption) : ji15.toNat ≤ 281474976710656)) (by omega)) (Below.refl _ _) (Nat.le_refl _) ?_;intro v152 w26 ho27 hb hg_ hnew_;clear hg_ hnew_;(first | rw [← Ny151.out] at ho27 | (simp only [Int.reduceToNat] at ho27;rw [← Ny151.out] at ho27));have n0_:=Aside0.mk (Kd.S_below (by (with_reducible repeat (first | apply Kd.S_alloc | apply Kd.S_drewN | apply Kd.S_drew));exact (Kd.S_mono (Kd.S_far (p:=⟨gb150,1,none⟩) (Kd.S_far (p:=⟨gb150,0,none⟩) (Kd.S_types HO_3.out BK150.out (by decide)) (fun _ hk => hk.2) (.int .i64 ((rd_T30 l0_4 x20_1).f0))) (fun _ hk => hk.2) (.slice A149_1 ((rd_T30 l0_4 x20_1).f1).length c149_1)) (fun _ h_ => h_.1))) hb);have n1_:=Aside0.mk (Kd.S_elder' (by (with_reducible repeat (first | apply Kd.S_alloc | apply Kd.S_drewN | apply Kd.S_drew));exact (Kd.S_mono (Kd.S_far (p:=⟨gb150,1,none⟩) (Kd.S_far (p:=⟨gb150,0,none⟩) (Kd.S_types HO_4.out BK150.out (by decide)) (fun _ hk => hk.2) (.int .i64 ((rd_T30 l0_4 x20_1).f0))) (fun _ hk => hk.2) (.slice A149_1 ((rd_T30 l0_4 x20_1).f1).length c149_1)) (fun _ h_ => h_.1))) (Kd.R_base ho27) hb);have n2_:=Aside0.mk (Kd.R_lower ho27 (below_size (by repeat (first | (with_reducible first | exact HB.out | apply below_alloc | apply pw_below_drewN | apply below_drew1 | refine below_set ?_ GE142.out | refine below_set ?_ GE150.out) | exact HB.out))));have n3_:=Aside0.mk (blk_below (g:=gb142) (o := .cells #[.slice A0_0 l0_0.length c0_0,.slice A0_1 l0_1.length c0_1,.int .i64 a0_2,.int .i64 a0_3,.slice (some ad149) l0_4.length c0_4] 26 (0,0)) (by (with_reducible repeat (first | refine blk_drewN ?_ _ | refine blk_drew ?_ | refine blk_alloc ?_ _));refine blk_far ?_ NB142_150.out _;(with_reducible repeat (first | refine blk_drewN ?_ _ | refine blk_drew ?_ | refine blk_alloc ?_ _));refine blk_far ?_ NB142_150.out _;(with_reducible repeat (first | refine blk_drewN ?_ _ | refine blk_drew ?_ | refine blk_alloc ?_ _));exact BK142.out) hb);have n4_:=Aside0.mk (blk_below (g:=gb150) (o := .cells #[.int .i64 ((rd_T30 l0_4 x20_1).f0),.slice A149_1 ((rd_T30 l0_4 x20_1).f1).length c149_1] 30 (0,0)) (by (with_reducible repeat (first | refine blk_drewN ?_ _ | refine blk_drew ?_ | refine blk_alloc ?_ _));refine blk_put (cs:=#[.int .i64 ((rd_T30 l0_4 x20_1).f0),.slice none 0 0]) ?_ 1 _ rfl;(with_reducible repeat (first | refine blk_drewN ?_ _ | refine blk_drew ?_ | refine blk_alloc ?_ _));refine blk_put (cs:=#[.int .i64 0,.slice none 0 0]) ?_ 0 _ rfl;(with_reducible repeat (first | refine blk_drewN ?_ _ | refine blk_drew ?_ | refine blk_alloc ?_ _));exact BK150.out) hb);have n5_:=Aside0.mk (below_step (by repeat (first | (with_reducible first | exact HB.out | apply below_alloc | apply pw_below_drewN | apply below_drew1 | refine below_set ?_ GE142.out | refine below_set ?_ GE150.out) | exact HB.out)) hb);clear HO_3;clear HO_4;clear BK142;clear BK150;clear HB;have HO_3:=n0_;have HO_4:=n1_;have HO153:=n2_;have BK142:=n3_;have BK150:=n4_;have HB:=n5_;clear n0_ n1_ n2_ n3_ n4_ n5_;clear hb ho27;have p19 : 0 ≤ (x20_1 : Int) := of_decide_eq_true (by first | (with_reducible assumption) | assumption);have q19 : (x20_1 : Int) < ((x4_1.length : Int) : Int) := of_decide_eq_true (by first | (with_reducible assumption) | assumption);obtain ⟨go19,co19,eo19,gb19,gl19,cl19,HG19⟩ := Kd.S_form HO_4.out (by omega);(first | cases eo19 | (injection eo19 with ea_ en_ ec_;(first | subst ea_ | (injection ea_ with ea_;subst ea_));subst ec_;clear en_));have GB19:=Aside0.mk gb19;have GG19:=Aside0.mk HG19;clear gb19 gl19 HG19;obtain ⟨_,ce19,hcl19,hM19,hcc19,hfr19,_,_⟩ := Kd.S_elem HO_4.out [] (x20_1 : Int) p19 q19;obtain ⟨ve19_0,rfl,ge19_0⟩ := hM19;have hx19_0:=hcc19 0 _ rfl;have hf19_0:=hfr19 0;(try simp only [show ((Kd.slice 4 Kd.bool)).sz = 1 from rfl,Nat.mul_one,Nat.add_zero] at hx19_0);(try simp only [show ((Kd.slice 4 Kd.bool)).sz = 1 from rfl,Nat.mul_one,Nat.add_zero] at hf19_0);clear hcl19 hcc19 hfr19;(try clear hM19);replace p19:=eq_true p19;replace q19:=eq_true q19;have n_:=Aside0.mk (Kd.S_mono (ok' := (fun k_ => some k_ ≠ (v152 : Value).ownBlock)) HO_4.out (fun k_ hk => hk.2));clear HO_4;have HO_4:=n_;clear n_;have HX28:=Aside0.mk (show Kd.S (Kd.slice 4 Kd.bool) 65 w26 w.heap.size (fun k_ => ((fun _ => True)) k_ ∧ ¬ ((fun k_ => some k_ = (v152 : Value).ownBlock)) k_) (.slice (some ⟨go19,0,none⟩) x4_1.length co19) x4_1 from (by (with_reducible repeat (first | apply Kd.S_alloc | apply Kd.S_drewN | apply Kd.S_drew));exact Kd.S_mono HO_4.out (fun k_ hk => ⟨trivial,fun e_ => hk e_⟩)));obtain ⟨oki28,ce28,hcl28,hM28,hcc28,hfr28,hoki28,hH28⟩ := Kd.S_elem HX28.out [] (x20_1 : Int) (of_decide_eq_true (by first | (with_reducible assumption) | assumption)) (by have h_ : (x20_1 : Int) < ((x4_1.length : Int) : Int) := of_decide_eq_true (by first | (with_reducible assumption) | assumption);first | exact h_ | (have e_:=(Kd.S_reads' HO_4.out).1;omega) | simpa using h_);obtain ⟨ve28_0,rfl,ge28_0⟩ := hM28;have HP28:=Kd.S_seg hH28 (of_decide_eq_true (by first | (with_reducible assumption) | assumption)) (by have h_ : (x20_1 : Int) < ((x4_1.length : Int) : Int) := of_decide_eq_true (by first | (with_reducible assumption) | assumption);first | exact h_ | (have e_:=(Kd.S_reads' HO_4.out).1;omega) | simpa using h_) (seg := [v152]) (j:=0) (show 1 ≤ 1 from by decide) (x' := y151) (Kd.M_row (Kd.R_mono (Kd.R_tight rfl (Kd.R_mono (ok' := fun k_ => ((fun _ => True)) k_ ∧ k_ ≠ go19) (Kd.R_apart' (HO153.out) (Kd.S_typed HO_4.out) (by decide)) (fun k_ hk => ⟨trivial,fun e_ => (hk.2) (by rw [e_];rfl)⟩))) (fun _ h_ => Or.inr (h_)))) (fun _ hk => hk) (fun k_ hk_ => ((Kd.R_mono (ok' := fun k_ => ((fun _ => True)) k_ ∧ k_ ≠ go19) (Kd.R_apart' (HO153.out) (Kd.S_typed HO_4.out) (by decide)) (fun k_ hk => ⟨trivial,fun e_ => (hk.2) (by rw [e_];rfl)⟩))).1 k_ hk_.symm);have hx28_0:=hcc28 0 _ rfl;(try simp only [show ((Kd.slice 4 Kd.bool)).sz = 1 from rfl,Nat.mul_one,Nat.add_zero] at hx28_0);have hf28_0:=hfr28 0;(try simp only [show ((Kd.slice 4 Kd.bool)).sz = 1 from rfl,Nat.mul_one,Nat.add_zero] at hf28_0);clear hcl28 hcc28 hfr28;(try clear hM28);clear hoki28 hH28;(try simp only [show ((Kd.slice 4 Kd.bool)).sz = 1 from rfl,Nat.mul_one,Nat.add_zero] at HP28)) | ((with_reducible refine gate_store (t:=65) (p:=32) rfl ?_);refine store_event (t:=65) (p:=32) (v:=?vo_w29) (w1:=(w26.setCell ⟨go19,(x20_1 : Int).toNat,none⟩ (v152))) ?hg ?ho ?hn ?hr ?_;(case ho => rfl);(case hg => rfl);(case hn => rfl);(case hr => first | (go_simp;done) | (go_simp;rfl) | (obtain ⟨A_,c_,e_⟩ := Kd.R_slice HO153.out;rw [e_];first | (go_simp;done) | (go_simp;rfl)));intro w29 hw;have hg : w26.grownBy w29 (some go19) := (by rw [hw];exact HP28.2);have hp_ : Kd.S (Kd.slice 4 Kd.bool) 65 w29 w.heap.size (fun _ => True) (.slice (some ⟨go19,0,none⟩) x4_1.length co19) y154:=(by rw [hw,Ny154.out];exact HP28.1);clear HP28;have n0_:=Aside0.mk (Kd.S_over' (v:=(.slice (some ⟨go19,0,none⟩) x4_1.length co19)) (by (with_reducible repeat (first | apply Kd.S_alloc | apply Kd.S_drewN | apply Kd.S_drew));exact HO_3.out) (Kd.S_typed HO_4.out) (by decide) hg);have n1_:=Aside0.mk (hp_);have n2_:=Aside0.mk (blk_grown (g:=gb142) (o := .cells #[.slice A0_0 l0_0.length c0_0,.slice A0_1 l0_1.length c0_1,.int .i64 a0_2,.int .i64 a0_3,.slice (some ad149) l0_4.length c0_4] 26 (0,0)) (by (with_reducible repeat (first | refine blk_drewN ?_ _ | refine blk_drew ?_ | refine blk_alloc ?_ _));exact BK142.out) hg (Kd.S_ne HO_4.out BK142.out (by decide)));have n3_:=Aside0.mk (blk_grown (g:=gb150) (o := .cells #[.int .i64 ((rd_T30 l0_4 x20_1).f0),.slice A149_1 ((rd_T30 l0_4 x20_1).f1).length c149_1] 30 (0,0)) (by (with_reducible repeat (first | refine blk_drewN ?_ _ | refine blk_drew ?_ | refine blk_alloc ?_ _));exact BK150.out) hg (Kd.S_ne HO_4.out BK150.out (by decide)));have n4_:=Aside0.mk ((by rw [hw];exact below_set (HB.out) GB19.out : Below w.heap.size w w29));clear HO_3;clear HO_4;clear BK142;clear BK150;clear HB;clear HO153;have HO_3:=n0_;have HO_4:=n1_;have BK142:=n2_;have BK150:=n3_;have HB:=n4_;clear n0_ n1_ n2_ n3_ n4_;clear hg hw hp_;have hcz30_0 : w29.cell? ⟨gb142,0,none⟩ = some (.slice A0_0 l0_0.length c0_0) := (blk_cell BK142.out 0).trans rfl;have hcz30_1 : w29.cell? ⟨gb142,1,none⟩ = some (.slice A0_1 l0_1.length c0_1) := (blk_cell BK142.out 1).trans rfl;have hcz30_2 : w29.cell? ⟨gb142,2,none⟩ = some (.int .i64 a0_2) := (blk_cell BK142.out 2).trans rfl;have hcz30_3 : w29.cell? ⟨gb142,3,none⟩ = some (.int .i64 a0_3) := (blk_cell BK142.out 3).trans rfl;have hcz30_4 : w29.cell? ⟨gb142,4,none⟩ = some (.slice (some ad149) l0_4.length c0_4) := (blk_cell BK142.out 4).trans rfl;have hfz30_0:=blk_frozen BK142.out 0;have hfz30_1:=blk_frozen BK142.out 1;have hfz30_2:=blk_frozen BK142.out 2;have hfz30_3:=blk_frozen BK142.out 3;have hfz30_4:=blk_frozen BK142.out 4;have hcz31_0 : w29.cell? ⟨gb150,0,none⟩ = some (.int .i64 ((rd_T30 l0_4 x20_1).f0)) := (blk_cell BK150.out 0).trans rfl;have hcz31_1 : w29.cell? ⟨gb150,1,none⟩ = some (.slice A149_1 ((rd_T30 l0_4 x20_1).f1).length c149_1) := (blk_cell BK150.out 1).trans rfl;have hfz31_0:=blk_frozen BK150.out 0;have hfz31_1:=blk_frozen BK150.out 1) | ((with_reducible refine gate_callee (f:=39) rfl ?_);refine goesL_ (some 37) rfl rfl Try.func39 (by kernel_rfl) rfl #[.agg #[.slice A0_0 l0_0.length c0_0,.slice A0_1 l0_1.length c0_1,.int .i64 a0_2,.int .i64 a0_3,.slice (some ad149) l0_4.length c0_4],.slice A149_1 ((rd_T30 l0_4 x20_1).f1).length c149_1] rfl (by (try simp only [List.map_toArray,List.map_cons,List.map_nil]);first | done | rfl | (simp only [List.length_drop,List.length_take];rfl)) ?_;(with_reducible refine (firsts_Of.calls k1 _ _ l0_0 _ _ l0_1 a0_2 a0_3 _ _ l0_4 _ _ ((rd_T30 l0_4 x20_1).f1) t155 t158 _ ?side1 ?side2 ?side3 ?side4 ?side5 ?side6 ?side7 ?side8 A20.out).mono ?_);(case side1 => repeat (first | exact (Kd.C_below HR0_0.out HB.out) | (with_reducible refine Kd.C_alloc ?_ _) | (with_reducible refine Kd.C_drewN ?_ _) | (with_reducible refine Kd.C_drew ?_)));(case side2 => exact HC0_0.out);(case side3 => repeat (first | exact (Kd.C_below HR0_1.out HB.out) | (with_reducible refine Kd.C_alloc ?_ _) | (with_reducible refine Kd.C_drewN ?_ _) | (with_reducible refine Kd.C_drew ?_)));(case side4 => exact HC0_1.out);(case side5 => repeat (first | exact (Kd.C_below HR0_4.out HB.out) | (with_reducible refine Kd.C_alloc ?_ _) | (with_reducible refine Kd.C_drewN ?_ _) | (with_reducible refine Kd.C_drew ?_)));(case side6 => exact HC0_4.out);(case side7 => repeat (first | exact (Kd.C_below HR149_1.out HB.out) | (with_reducible refine Kd.C_alloc ?_ _) | (with_reducible refine Kd.C_drewN ?_ _) | (with_reducible refine Kd.C_drew ?_)));(case side8 => exact HC149_1.out);rintro e w32 ⟨v156,rfl,ho0,hb⟩;refine ⟨_,rfl,?_⟩;have n0_:=Aside0.mk (Kd.S_elder' (by (with_reducible repeat (first | apply Kd.S_alloc | apply Kd.S_drewN | apply Kd.S_drew));exact HO_3.out) (Kd.R_base ho0) hb);have n1_:=Aside0.mk (Kd.S_below (by (with_reducible repeat (first | apply Kd.S_alloc | apply Kd.S_drewN | apply Kd.S_drew));exact HO_4.out) hb);have n2_:=Aside0.mk (Kd.R_lower ho0 (below_size (by repeat (first | (with_reducible first | exact HB.out | apply below_alloc | apply pw_below_drewN | apply below_drew1 | refine below_set ?_ GE142.out | refine below_set ?_ GE150.out) | exact HB.out))));have n3_:=Aside0.mk (blk_below (g:=gb142) (o := .cells #[.slice A0_0 l0_0.length c0_0,.slice A0_1 l0_1.length c0_1,.int .i64 a0_2,.int .i64 a0_3,.slice (some ad149) l0_4.length c0_4] 26 (0,0)) (by (with_reducible repeat (first | refine blk_drewN ?_ _ | refine blk_drew ?_ | refine blk_alloc ?_ _));exact BK142.out) hb);have n4_:=Aside0.mk (blk_below (g:=gb150) (o := .cells #[.int .i64 ((rd_T30 l0_4 x20_1).f0),.slice A149_1 ((rd_T30 l0_4 x20_1).f1).length c149_1] 30 (0,0)) (by (with_reducible repeat (first | refine blk_drewN ?_ _ | refine blk_drew ?_ | refine blk_alloc ?_ _));exact BK150.out) hb);have n5_:=Aside0.mk (below_step (by repeat (first | (with_reducible first | exact HB.out | apply below_alloc | apply pw_below_drewN | apply below_drew1 | refine below_set ?_ GE142.out | refine below_set ?_ GE150.out) | exact HB.out)) hb);clear HO_3;clear HO_4;clear BK142;clear BK150;clear HB;have HO_3:=n0_;have HO_4:=n1_;have HO157:=n2_;have BK142:=n3_;have BK150:=n4_;have HB:=n5_;clear n0_ n1_ n2_ n3_ n4_ n5_;(try clear hb);(try clear hb2);(try clear hk);(try clear hi);(try clear ho0)))
     (try simp only [Act.put,List.setIfInBounds_toArray,List.set_cons_zero,List.set_cons_succ])
     go_cut [7] (fun v7 wc => ∃ (kq : Nat) (x7_20 : List Int),Aside0 (predict_chosen.j1 kq t143 y154 x20_1 x7_20 l0_4 (l0_4.length : Int) x20_1 l0_0 l0_1 a0_2 a0_3 l0_4 = some r) ∧ Aside0 (kq ≤ k1) ∧ Aside0 (Kd.S (Kd.slice 3 (Kd.int .i64)) 43 wc w.heap.size (fun k_ => some k_ ≠ (v7 : Value).ownBlock) v144 t143) ∧ Aside0 (Kd.S (Kd.slice 4 Kd.bool) 65 wc w.heap.size (fun _ => True) (.slice (some ⟨go19,0,none⟩) x4_1.length co19) y154) ∧ Aside0 (Kd.R (Kd.int .i64) 3 wc w.heap.size (fun _ => True) v7 x7_20) ∧ Aside0 (wc.heap[gb142]? = some (.cells #[(.slice A0_0 l0_0.length c0_0),(.slice A0_1 l0_1.length c0_1),.int .i64 a0_2,.int .i64 a0_3,(.slice (some ad149) l0_4.length c0_4)] 26 (0,0))) ∧ Aside0 (wc.heap[gb150]? = some (.cells #[.int .i64 ((rd_T30 l0_4 x20_1).f0),(.slice A149_1 ((rd_T30 l0_4 x20_1).f1).length c149_1)] 30 (0,0))) ∧ Aside0 (Below w.heap.size w wc))
     case first =>
      have H:=HC21.out
      clear HC21
      by_cases c33 : t158 = true
      · subst c33
        have H1 : (if 0 ≤ ((rd_T30 l0_4 x20_1).f0) then (if ((rd_T30 l0_4 x20_1).f0) < (t143.length : Int) then (if t155.length + (rd_L3 t143 ((rd_T30 l0_4 x20_1).f0)).length < 17592186044416 then (predict_chosen.j1 k1 t143 y154 x20_1 (t155 ++ (rd_L3 t143 ((rd_T30 l0_4 x20_1).f0))) l0_4 (l0_4.length : Int) x20_1 l0_0 l0_1 a0_2 a0_3 l0_4) else (none)) else (none)) else (none)) = some r:=by rw [if_pos rfl] at H;exact H
        clear H
        have H:=H1
        clear H1
        by_cases c34 : 0 ≤ ((rd_T30 l0_4 x20_1).f0)
        rotate_left
        · rw [if_neg c34] at H
          exact absurd H (by simp)
        rw [if_pos c34] at H
        have c34b0 : decide (0 ≤ ((rd_T30 l0_4 x20_1).f0)) = true:=decide_eq_true c34
        clear c34
        (first | rw [c34b0] | (simp only [i64_w,i32_w];rw [c34b0]) | skip)
        by_cases c35 : ((rd_T30 l0_4 x20_1).f0) < (t143.length : Int)
        rotate_left
        · rw [if_neg c35] at H
          exact absurd H (by simp)
        rw [if_pos c35] at H
        have c35b0 : decide (((rd_T30 l0_4 x20_1).f0) < (t143.length : Int)) = true:=decide_eq_true c35
        clear c35
        by_cases c36 : t155.length + (rd_L3 t143 ((rd_T30 l0_4 x20_1).f0)).length < 17592186044416
        rotate_left
        · rw [if_neg c36] at H
          exact absurd H (by simp)
        rw [if_pos c36] at H
        have LMc36:=Aside0.mk c36
        clear c36
        obtain ⟨y160,hy160⟩ : ∃ y_ : List Int,y_ = (t155 ++ (rd_L3 t143 ((rd_T30 l0_4 x20_1).f0))) := ⟨_,rfl⟩
        replace H : (predict_chosen.j1 k1 t143 y154 x20_1 y160 l0_4 (l0_4.length : Int) x20_1 l0_0 l0_1 a0_2 a0_3 l0_4) = some r:=by first | (rw [hy160];with_reducible exact H) | (have H2_:=(Option.bind_some _ _).symm.trans H;rw [hy160];with_reducible exact H2_) | (have H2_:=(Option.bind_some _ _).symm.trans H;with_reducible exact H2_) | with_reducible exact H | (rw [hy160];exact H) | exact H
        have Ny160:=Aside0.mk hy160
        clear hy160
        have H' := Aside0.mk H
        clear H
        have hnb37:=NB150_142.out
        have hnc37:=NB142_150.out
        have hcz38_0 : w32.cell? ⟨gb150,0,none⟩ = some (.int .i64 ((rd_T30 l0_4 x20_1).f0)) := (blk_cell BK150.out 0).trans rfl
        have hcz38_1 : w32.cell? ⟨gb150,1,none⟩ = some (.slice A149_1 ((rd_T30 l0_4 x20_1).f1).length c149_1) := (blk_cell BK150.out 1).trans rfl
        have hfz38_0:=blk_frozen BK150.out 0
        have hfz38_1:=blk_frozen BK150.out 1
        obtain ⟨Ao39,co39,eo39⟩ := Kd.S_slice HO_3.out
        subst eo39
        have p159 : 0 ≤ (((rd_T30 l0_4 x20_1).f0) : Int) := of_decide_eq_true (by first | (with_reducible assumption) | assumption)
        have q159 : ((rd_T30 l0_4 x20_1).f0) < (t143.length : Int) := of_decide_eq_true (by first | (with_reducible assumption) | assumption)
        obtain ⟨ad159,A159_0,c159_0,e159,hx159_0,hl159_0,hi159_0⟩ := at_L3 (Kd.S_reads' HO_3.out).2.2 ((rd_T30 l0_4 x20_1).f0) p159 q159
        cases e159
        obtain ⟨ce159,hce159,hMe159,hcc159⟩ := Kd.S_get HO_3.out [] ((rd_T30 l0_4 x20_1).f0) p159 (by first | exact q159 | exact of_decide_eq_true (by first | (with_reducible assumption) | assumption) | (have e_:=(Kd.S_reads' HO_3.out).1;omega))
        obtain ⟨ve159_0,rfl,ge159_0⟩ := hMe159
        have hv159_0:=hcc159 0 _ rfl
        rw [Nat.add_zero,show ((Kd.slice 3 (Kd.int .i64))).sz = 1 from rfl,Nat.mul_one] at hv159_0
        replace hv159_0:=Option.some.inj (hv159_0.symm.trans hx159_0)
        rw [hv159_0] at ge159_0
        have HL159_0:=Aside0.mk (show Kd.R (Kd.int .i64) 3 _ _ _ _ (rd_L3 t143 ((rd_T30 l0_4 x20_1).f0)) from ge159_0)
        clear hv159_0 ge159_0
        have HX159_0:=Aside0.mk hx159_0
        clear hcc159 hce159
        have HR159_0:=Aside0.mk hi159_0
        have HC159_0:=Aside0.mk hl159_0
        clear hi159_0 hl159_0
        replace p159:=eq_true p159
        replace q159:=eq_true q159
        go_wp2_with (first | ((with_reducible refine gate_builtin (b := .append) (xs:=#[.tmp 41,.tmp 46]) rfl ?_);at_builtin;refine Kd.R_append_rows (Kd.int .i64) (w0:=w) w.heap.size rfl (.tmp 41) (.tmp 46) 43 3 (.int .i64 0) 8 rfl Try.underlying43 info3 rfl (by decide) (by omega) v156 t155 (rd_L3 t143 ((rd_T30 l0_4 x20_1).f0)) _ _ _ (fun _ => True) (fun _ => False) rfl rfl ?aO ?aR (fun _ _ h => h) (fun _ h => h.elim) ?aF ?aB ?aS ?aL ?_;(case aR => repeat (first | exact (by repeat (first | (with_reducible exact HR159_0.out) | (with_reducible refine Kd.C_alloc ?_ _) | (with_reducible refine Kd.C_drewN ?_ _) | (with_reducible refine Kd.C_drew ?_) | exact HR159_0.out)) | (with_reducible refine Kd.C_alloc ?_ _) | (with_reducible refine Kd.C_drewN ?_ _) | (with_reducible refine Kd.C_drew ?_)));(case aB => exact (by repeat (first | (with_reducible first | exact HB.out | apply below_alloc | apply pw_below_drewN | apply below_drew1 | refine below_set ?_ GE142.out | refine below_set ?_ GE150.out) | exact HB.out)));(case aF => exact (fun _ _ => trivial));(case aO => exact (by (with_reducible repeat (first | apply Kd.R_alloc | apply Kd.R_drewN | apply Kd.R_drew));exact HO157.out));(case aS => exact (below_size (by repeat (first | (with_reducible first | exact HB.out | apply below_alloc | apply pw_below_drewN | apply below_drew1 | refine below_set ?_ GE142.out | refine below_set ?_ GE150.out) | exact HB.out))));(case aL => have:=LMc36.out;omega);intro v161 w40 ho hb hg hat;rw [← Ny160.out] at ho;have n0_:=Aside0.mk (Kd.S_after (ok:=(fun _ => True)) (by (with_reducible repeat (first | apply Kd.S_alloc | apply Kd.S_drewN | apply Kd.S_drew));exact HO_3.out) hg hat);have n1_:=Aside0.mk (Kd.S_over' (by (with_reducible repeat (first | apply Kd.S_alloc | apply Kd.S_drewN | apply Kd.S_drew));exact HO_4.out) (Kd.R_typed (by (with_reducible repeat (first | apply Kd.R_alloc | apply Kd.R_drewN | apply Kd.R_drew));exact HO157.out)) (by decide) hg);have n2_:=Aside0.mk (blk_grown (g:=gb142) (o := .cells #[.slice A0_0 l0_0.length c0_0,.slice A0_1 l0_1.length c0_1,.int .i64 a0_2,.int .i64 a0_3,.slice (some ad149) l0_4.length c0_4] 26 (0,0)) (by (with_reducible repeat (first | refine blk_drewN ?_ _ | refine blk_drew ?_ | refine blk_alloc ?_ _));exact BK142.out) hg (Kd.R_ne HO157.out BK142.out (by decide)));have n3_:=Aside0.mk (blk_grown (g:=gb150) (o := .cells #[.int .i64 ((rd_T30 l0_4 x20_1).f0),.slice A149_1 ((rd_T30 l0_4 x20_1).f1).length c149_1] 30 (0,0)) (by (with_reducible repeat (first | refine blk_drewN ?_ _ | refine blk_drew ?_ | refine blk_alloc ?_ _));exact BK150.out) hg (Kd.R_ne HO157.out BK150.out (by decide)));have n4_:=Aside0.mk (Kd.R_after (ok:=(fun k_ => some k_ ≠ (.slice (some ad159) t143.length co39 : Value).ownBlock)) (by (with_reducible repeat (first | apply Kd.R_alloc | apply Kd.R_drewN | apply Kd.R_drew));exact Kd.R_mono HL159_0.out (fun _ hk => ⟨hk.2,hk.1.2⟩)) hg hat);have n5_:=Aside0.mk (hb);have n6_:=Aside0.mk (ho);clear HO_3;clear HO_4;clear BK142;clear BK150;clear HL159_0;clear HB;clear HO157;have HO_3:=n0_;have HO_4:=n1_;have BK142:=n2_;have BK150:=n3_;have HL159_0:=n4_;have HB:=n5_;have HO162:=n6_;clear n0_ n1_ n2_ n3_ n4_ n5_ n6_;clear ho hb hg hat))
        go_meet
        case rel => exact ⟨_,(y160),H',⟨by have:=HK1.out;first | omega | exact Nat.le_refl _⟩,⟨by (with_reducible repeat (first | apply Kd.S_alloc | apply Kd.S_drewN | apply Kd.S_drew));exact Kd.S_mono HO_3.out (fun _ hk => hk.2)⟩,⟨by (with_reducible repeat (first | apply Kd.S_alloc | apply Kd.S_drewN | apply Kd.S_drew));exact HO_4.out⟩,⟨by (with_reducible repeat (first | apply Kd.R_alloc | apply Kd.R_drewN | apply Kd.R_drew));exact HO162.out⟩,⟨by (with_reducible repeat (first | refine blk_drewN ?_ _ | refine blk_drew ?_ | refine blk_alloc ?_ _));exact BK142.out⟩,⟨by (with_reducible repeat (first | refine blk_drewN ?_ _ | refine blk_drew ?_ | refine blk_alloc ?_ _));exact BK150.out⟩,⟨by repeat (first | (with_reducible first | exact HB.out | apply below_alloc | apply pw_below_drewN | apply below_drew1 | refine below_set ?_ GE142.out | refine below_set ?_ GE150.out) | exact HB.out)⟩⟩
      · replace c33:=Bool.eq_false_iff.mpr c33
        subst c33
        have H1 : (predict_chosen.j1 k1 t143 y154 x20_1 t155 l0_4 (l0_4.length : Int) x20_1 l0_0 l0_1 a0_2 a0_3 l0_4) = some r:=by rw [if_neg (show ¬ (false = true) by decide)] at H;exact H
        clear H
        have H:=H1
        clear H1
        have H' := Aside0.mk H
        clear H
        go_wp2
        go_meet
        case rel => exact ⟨_,(t155),H',⟨by have:=HK1.out;first | omega | exact Nat.le_refl _⟩,⟨by (with_reducible repeat (first | apply Kd.S_alloc | apply Kd.S_drewN | apply Kd.S_drew));exact Kd.S_mono HO_3.out (fun _ hk => hk.2)⟩,⟨by (with_reducible repeat (first | apply Kd.S_alloc | apply Kd.S_drewN | apply Kd.S_drew));exact HO_4.out⟩,⟨by (with_reducible repeat (first | apply Kd.R_alloc | apply Kd.R_drewN | apply Kd.R_drew));exact HO157.out⟩,⟨by (with_reducible repeat (first | refine blk_drewN ?_ _ | refine blk_drew ?_ | refine blk_alloc ?_ _));exact BK142.out⟩,⟨by (with_reducible repeat (first | refine blk_drewN ?_ _ | refine blk_drew ?_ | refine blk_alloc ?_ _));exact BK150.out⟩,⟨by repeat (first | (with_reducible first | exact HB.out | apply below_alloc | apply pw_below_drewN | apply below_drew1 | refine below_set ?_ GE142.out | refine below_set ?_ GE150.out) | exact HB.out)⟩⟩
     case rest =>
      clear HC21
      (try clear c1);(try clear p1);(try clear q1);(try clear hx1);(try clear hf1);(try clear c2);(try clear p2);(try clear hx2);(try clear hf2);(try clear c3);(try clear c3b0);(try clear c3b1);(try clear c4);(try clear c4b0);(try clear c4b1);(try clear p6);(try clear c12);(try clear c12b0);(try clear c13);(try clear c13b0);(try clear c14);(try clear c14b0);(try clear p14);(try clear q14);(try clear hx14)
      (try clear c15);(try clear p15);(try clear q15);(try clear hx15);(try clear c16);(try clear c16b0);(try clear c16b1);(try clear c17);(try clear c17b0);(try clear c17b1);(try clear c18);(try clear c18b0);(try clear c19);(try clear p19);(try clear q19);(try clear hx19);(try clear hf19);(try clear c23);(try clear c28);(try clear hx28);(try clear hf28);(try clear c33);(try clear c34);(try clear c34b0)
      (try clear c35);(try clear c35b0);(try clear c36);(try clear c37);(try clear c38);(try clear c39);(try clear hcz11_0);(try clear hcz11_1);(try clear hcz11_2);(try clear hcz11_3);(try clear hcz11_4);(try clear hcz24_0);(try clear hcz24_1);(try clear hcz25_0);(try clear hcz25_1);(try clear hcz25_2);(try clear hcz25_3);(try clear hcz25_4);(try clear hcz30_0);(try clear hcz30_1);(try clear hcz30_2);(try clear hcz30_3)
      (try clear hcz30_4);(try clear hcz31_0);(try clear hcz31_1);(try clear hcz38_0);(try clear hcz38_1);(try clear hcz6_0);(try clear hcz6_1);(try clear hcz6_2);(try clear hcz6_3);(try clear hcz6_4);(try clear hcz8_0);(try clear hcz8_1);(try clear hcz8_2);(try clear hcz8_3);(try clear hcz8_4);(try clear hfz11_0);(try clear hfz11_1);(try clear hfz11_2);(try clear hfz11_3);(try clear hfz11_4);(try clear hfz24_0)
      (try clear hfz24_1);(try clear hfz25_0);(try clear hfz25_1);(try clear hfz25_2);(try clear hfz25_3);(try clear hfz25_4);(try clear hfz30_0);(try clear hfz30_1);(try clear hfz30_2);(try clear hfz30_3);(try clear hfz30_4);(try clear hfz31_0);(try clear hfz31_1);(try clear hfz38_0);(try clear hfz38_1);(try clear hfz6_0);(try clear hfz6_1);(try clear hfz6_2);(try clear hfz6_3);(try clear hfz6_4);(try clear hfz8_0)
      (try clear hfz8_1);(try clear hfz8_2);(try clear hfz8_3);(try clear hfz8_4);(try clear hx149_0);(try clear hx149_1);(try clear hx159_0);(try clear hx19_0);(try clear hx28_0);(try clear p149);(try clear p159);(try clear p19);(try clear p2);(try clear q149);(try clear q159);(try clear q19)
      obtain ⟨kq,x7_20,HA,HJ20,HO_3,HO_4,HO_7,BK142,BK150,HB⟩ := hcut
      have hl4_20:=(Kd.S_reads' HO_4.out).1
      rw [hl4_20] at HO_4
      (try simp only [hl4_20])
      (try simp only [hl4_20] at BK142)
      (try simp only [hl4_20] at BK150)
      (try simp only [hl4_20] at HO_3)
      (try simp only [hl4_20] at HO_7)
      cases kq with
      | zero => exact absurd HA.out (by simp [predict_chosen.j1])
      | succ kj20 =>
       have H:=HA.out
       clear HA
       simp only [predict_chosen.j1] at H
       have H' := Aside0.mk H
       clear H
       obtain ⟨Ao41,co41,eo41⟩ := Kd.R_slice HO_7.out
       subst eo41
       go_wp2
       go_loopg [50] kj20 (fun kq v50 w' => ∃ (x4_3 : List (List Bool)) (x50_3 : Int),v50 = .int .i64 x50_3 ∧ Aside0 (predict_chosen.l1 kq t143 x4_3 x20_1 l0_4 (l0_4.length : Int) x20_1 x7_20 (x7_20.length : Int) x50_3 l0_0 l0_1 a0_2 a0_3 l0_4 = some r) ∧ Aside0 (kq ≤ kj20) ∧ Aside0 (Kd.S (Kd.slice 3 (Kd.int .i64)) 43 w' w.heap.size (fun k_ => some k_ ≠ ((.slice Ao41 x7_20.length co41) : Value).ownBlock) v144 t143) ∧ Aside0 (Kd.S (Kd.slice 4 Kd.bool) 65 w' w.heap.size (fun _ => True) (.slice (some ⟨go19,0,none⟩) y154.length co19) x4_3) ∧ Aside0 (Kd.R (Kd.int .i64) 3 w' w.heap.size (fun _ => True) (.slice Ao41 x7_20.length co41) x7_20) ∧ Aside0 (w'.heap[gb142]? = some (.cells #[(.slice A0_0 l0_0.length c0_0),(.slice A0_1 l0_1.length c0_1),.int .i64 a0_2,.int .i64 a0_3,(.slice (some ad149) l0_4.length c0_4)] 26 (0,0))) ∧ Aside0 (w'.heap[gb150]? = some (.cells #[.int .i64 ((rd_T30 l0_4 x20_1).f0),(.slice A149_1 ((rd_T30 l0_4 x20_1).f1).length c149_1)] 30 (0,0))) ∧ Aside0 (Below w.heap.size w w'))
       case atStart => exact ⟨(y154),(0),(by first | rfl | (simp;done) | (simp [*];done)),H',⟨Nat.le_refl _⟩,⟨by (try simp only [hl4_20]);(with_reducible repeat (first | apply Kd.S_alloc | apply Kd.S_drewN | apply Kd.S_drew));exact HO_3.out⟩,⟨by (try simp only [hl4_20]);(with_reducible repeat (first | apply Kd.S_alloc | apply Kd.S_drewN | apply Kd.S_drew));exact HO_4.out⟩,⟨by (try simp only [hl4_20]);(with_reducible repeat (first | apply Kd.R_alloc | apply Kd.R_drewN | apply Kd.R_drew));exact HO_7.out⟩,⟨by (try simp only [hl4_20]);(with_reducible repeat (first | refine blk_drewN ?_ _ | refine blk_drew ?_ | refine blk_alloc ?_ _));exact BK142.out⟩,⟨by (try simp only [hl4_20]);(with_reducible repeat (first | refine blk_drewN ?_ _ | refine blk_drew ?_ | refine blk_alloc ?_ _));exact BK150.out⟩,⟨by repeat (first | (with_reducible first | exact HB.out | apply below_alloc | apply pw_below_drewN | apply below_drew1 | refine below_set ?_ GE142.out | refine below_set ?_ GE150.out) | exact HB.out)⟩⟩
       case round =>
        clear H'
        (try clear c1);(try clear p1);(try clear q1);(try clear hx1);(try clear hf1);(try clear c2);(try clear p2);(try clear hx2);(try clear hf2);(try clear c3);(try clear c3b0);(try clear c3b1);(try clear c4);(try clear c4b0);(try clear c4b1);(try clear p6);(try clear c12);(try clear c12b0);(try clear c13);(try clear c13b0);(try clear c14);(try clear c14b0);(try clear p14);(try clear q14);(try clear hx14)
        (try clear c15);(try clear p15);(try clear q15);(try clear hx15);(try clear c16);(try clear c16b0);(try clear c16b1);(try clear c17);(try clear c17b0);(try clear c17b1);(try clear c18);(try clear c18b0);(try clear c19);(try clear p19);(try clear q19);(try clear hx19);(try clear hf19);(try clear c23);(try clear c28);(try clear hx28);(try clear hf28);(try clear c33);(try clear c34);(try clear c34b0)
        (try clear c35);(try clear c35b0);(try clear c36);(try clear c37);(try clear c38);(try clear c39);(try clear hcz11_0);(try clear hcz11_1);(try clear hcz11_2);(try clear hcz11_3);(try clear hcz11_4);(try clear hcz24_0);(try clear hcz24_1);(try clear hcz25_0);(try clear hcz25_1);(try clear hcz25_2);(try clear hcz25_3);(try clear hcz25_4);(try clear hcz30_0);(try clear hcz30_1);(try clear hcz30_2);(try clear hcz30_3)
        (try clear hcz30_4);(try clear hcz31_0);(try clear hcz31_1);(try clear hcz38_0);(try clear hcz38_1);(try clear hcz6_0);(try clear hcz6_1);(try clear hcz6_2);(try clear hcz6_3);(try clear hcz6_4);(try clear hcz8_0);(try clear hcz8_1);(try clear hcz8_2);(try clear hcz8_3);(try clear hcz8_4);(try clear hfz11_0);(try clear hfz11_1);(try clear hfz11_2);(try clear hfz11_3);(try clear hfz11_4);(try clear hfz24_0)
        (try clear hfz24_1);(try clear hfz25_0);(try clear hfz25_1);(try clear hfz25_2);(try clear hfz25_3);(try clear hfz25_4);(try clear hfz30_0);(try clear hfz30_1);(try clear hfz30_2);(try clear hfz30_3);(try clear hfz30_4);(try clear hfz31_0);(try clear hfz31_1);(try clear hfz38_0);(try clear hfz38_1);(try clear hfz6_0);(try clear hfz6_1);(try clear hfz6_2);(try clear hfz6_3);(try clear hfz6_4);(try clear hfz8_0)
        (try clear hfz8_1);(try clear hfz8_2);(try clear hfz8_3);(try clear hfz8_4);(try clear hx149_0);(try clear hx149_1);(try clear hx159_0);(try clear hx19_0);(try clear hx28_0);(try clear p1);(try clear p14);(try clear p149);(try clear p15);(try clear p159);(try clear p19);(try clear p2);(try clear p6);(try clear q1);(try clear q14);(try clear q149);(try clear q15);(try clear q159);(try clear q19)
        obtain ⟨x4_3,x50_3,rfl,HA,HK3,HO_3,HO_4,HO_48,BK142,BK150,HB⟩ := hrel
        have hl4_3:=(Kd.S_reads' HO_4.out).1
        rw [hl4_3] at HO_4
        (try simp only [hl4_3])
        (try simp only [hl4_3] at BK142)
        (try simp only [hl4_3] at BK150)
        (try simp only [hl4_3] at HO_3)
        (try simp only [hl4_3] at HO_48)
        cases gk with
        | zero => exact absurd HA.out (by simp [predict_chosen.l1])
        | succ k3 =>
         have H:=HA.out
         clear HA
         simp only [predict_chosen.l1] at H
         by_cases c42 : x50_3 < (x7_20.length : Int)
         · rw [if_pos c42] at H
           have c42b0 : decide (x50_3 < (x7_20.length : Int)) = true:=decide_eq_true c42
           (try (have c42z0:=c42b0;simp only [hl4_20,hl4_3] at c42z0))
           clear c42
           by_cases c43 : 0 ≤ x50_3
           rotate_left
           · rw [if_neg c43] at H
             exact absurd H (by simp)
           rw [if_pos c43] at H
           have c43b0 : decide (0 ≤ x50_3) = true:=decide_eq_true c43
           clear c43
           by_cases c44 : x50_3 < (x7_20.length : Int)
           rotate_left
           · rw [if_neg c44] at H
             exact absurd H (by simp)
           rw [if_pos c44] at H
           have c44b0 : decide (x50_3 < (x7_20.length : Int)) = true:=decide_eq_true c44
           (try (have c44z0:=c44b0;simp only [hl4_20,hl4_3] at c44z0))
           clear c44
           by_cases c45 : 0 ≤ x20_1
           rotate_left
           · rw [if_neg c45] at H
             exact absurd H (by simp)
           rw [if_pos c45] at H
           have c45b0 : decide (0 ≤ x20_1) = true:=decide_eq_true c45
           clear c45
           by_cases c46 : x20_1 < (x4_3.length : Int)
           rotate_left
           · rw [if_neg c46] at H
             exact absurd H (by simp)
           rw [if_pos c46] at H
           have c46b0 : decide (x20_1 < (x4_3.length : Int)) = true:=decide_eq_true c46
           (try (have c46z0:=c46b0;simp only [hl4_20,hl4_3] at c46z0))
           clear c46
           by_cases c47 : 0 ≤ (rd x7_20 x50_3)
           rotate_left
           · rw [if_neg c47] at H
             exact absurd H (by simp)
           rw [if_pos c47] at H
           have c47b0 : decide (0 ≤ (rd x7_20 x50_3)) = true:=decide_eq_true c47
           clear c47
           by_cases c48 : (rd x7_20 x50_3) < ((rd_L13 x4_3 x20_1).length : Int)
           rotate_left
           · rw [if_neg c48] at H
             exact absurd H (by simp)
           rw [if_pos c48] at H
           have c48b0 : decide ((rd x7_20 x50_3) < ((rd_L13 x4_3 x20_1).length : Int)) = true:=decide_eq_true c48
           (try (have c48z0:=c48b0;simp only [hl4_20,hl4_3] at c48z0))
           clear c48
           obtain ⟨y165,hy165⟩ : ∃ y_ : List Bool,y_ = ((rd_L13 x4_3 x20_1).set ((rd x7_20 x50_3) : Int).toNat true) := ⟨_,rfl⟩
           replace H : (predict_chosen.l1 k3 t143 (x4_3.set (x20_1 : Int).toNat y165) x20_1 l0_4 (l0_4.length : Int) x20_1 x7_20 (x7_20.length : Int) (wrap64 (x50_3 + 1)) l0_0 l0_1 a0_2 a0_3 l0_4) = some r:=by first | (rw [hy165];with_reducible exact H) | (have H2_:=(Option.bind_some _ _).symm.trans H;rw [hy165];with_reducible exact H2_) | (have H2_:=(Option.bind_some _ _).symm.trans H;with_reducible exact H2_) | with_reducible exact H | (rw [hy165];exact H) | exact H
           have Ny165:=Aside0.mk hy165
           clear hy165
           obtain ⟨y167,hy167⟩ : ∃ y_ : List (List Bool),y_ = (x4_3.set (x20_1 : Int).toNat y165) := ⟨_,rfl⟩
           replace H : (predict_chosen.l1 k3 t143 y167 x20_1 l0_4 (l0_4.length : Int) x20_1 x7_20 (x7_20.length : Int) (wrap64 (x50_3 + 1)) l0_0 l0_1 a0_2 a0_3 l0_4) = some r:=by first | (rw [hy167];with_reducible exact H) | (have H2_:=(Option.bind_some _ _).symm.trans H;rw [hy167];with_reducible exact H2_) | (have H2_:=(Option.bind_some _ _).symm.trans H;with_reducible exact H2_) | with_reducible exact H | (rw [hy167];exact H) | exact H
           have Ny167:=Aside0.mk hy167
           clear hy167
           have H' := Aside0.mk H
           clear H
           have p163 : 0 ≤ (x50_3 : Int) := of_decide_eq_true (by first | (with_reducible assumption) | assumption)
           have q163 : x50_3 < (x7_20.length : Int) := of_decide_eq_true (by first | (with_reducible assumption) | assumption)
           obtain ⟨ad163,e163,hx163_0⟩ := Kd.at_int (Kd.R_reads' HO_48.out).2.2 x50_3 p163 q163
           cases e163
           replace p163:=eq_true p163
           replace q163:=eq_true q163
           have p164 : 0 ≤ (x20_1 : Int) := of_decide_eq_true (by first | (with_reducible assumption) | assumption)
           have q164 : x20_1 < (x4_3.length : Int) := of_decide_eq_true (by first | (with_reducible assumption) | assumption)
           obtain ⟨ad164,A164_0,c164_0,e164,hx164_0,hl164_0,hi164_0⟩ := at_L13 (Kd.S_reads' HO_4.out).2.2 x20_1 p164 q164
           obtain rfl : (⟨go19,0,none⟩ : Addr) = ad164:=(by injection e164)
           obtain ⟨ce164,hce164,hMe164,hcc164⟩ := Kd.S_get HO_4.out [] x20_1 p164 (by first | exact q164 | exact of_decide_eq_true (by first | (with_reducible assumption) | assumption) | (have e_:=(Kd.S_reads' HO_4.out).1;omega))
           obtain ⟨ve164_0,rfl,ge164_0⟩ := hMe164
           have hv164_0:=hcc164 0 _ rfl
           rw [Nat.add_zero,show ((Kd.slice 4 Kd.bool)).sz = 1 from rfl,Nat.mul_one] at hv164_0
           replace hv164_0:=Option.some.inj (hv164_0.symm.trans hx164_0)
           rw [hv164_0] at ge164_0
           have HL164_0:=Aside0.mk (show Kd.R Kd.bool 4 _ _ _ _ (rd_L13 x4_3 x20_1) from ge164_0)
           clear hv164_0 ge164_0
           have HX164_0:=Aside0.mk hx164_0
           clear hcc164 hce164
           (first | simp only [add_plain] at hx164_0 | simp only [add_at] at hx164_0 | simp only [Addr.add,Nat.zero_add] at hx164_0 | skip)
           have HR164_0:=Aside0.mk hi164_0
           have HC164_0:=Aside0.mk hl164_0
           clear hi164_0 hl164_0
           replace p164:=eq_true p164
           replace q164:=eq_true q164
           have p49 : 0 ≤ ((rd x7_20 x50_3) : Int) := of_decide_eq_true (by first | (with_reducible assumption) | assumption)
           have q49 : ((rd x7_20 x50_3) : Int) < (((rd_L13 x4_3 x20_1).length : Int) : Int) := of_decide_eq_true (by first | (with_reducible assumption) | assumption)
           obtain ⟨go49,co49,eo49,gb49,gl49,cl49,HG49⟩ := Kd.R_form HL164_0.out (by omega)
           (first | cases eo49 | (injection eo49 with ea_ en_ ec_;(first | subst ea_ | (injection ea_ with ea_;subst ea_));subst ec_;clear en_))
           have GB49:=Aside0.mk gb49
           have GG49:=Aside0.mk HG49
           clear gb49 gl49 HG49
           obtain ⟨hx49_0,hf49_0⟩ := Kd.R_celln false HL164_0.out ((rd x7_20 x50_3) : Int) p49 q49
           replace p49:=eq_true p49
           replace q49:=eq_true q49
           have hq50 : (x20_1 : Int) < (x4_3.length : Int) := (by have h_ : (x20_1 : Int) < ((x4_3.length : Int) : Int) := of_decide_eq_true (by first | (with_reducible assumption) | assumption);first | exact h_ | (have e_:=(Kd.S_reads' HO_4.out).1;omega) | simpa only [List.length_set,List.length_set] using h_)
           obtain ⟨oki50,ce50,hcl50,hM50,hcc50,hok50,hbk50⟩ := Kd.S_borrow HO_4.out [] (x20_1 : Int) (of_decide_eq_true (by first | (with_reducible assumption) | assumption)) hq50
           obtain ⟨ve50_0,rfl,ge50_0⟩ := hM50
           have hv50:=hcc50 0 _ rfl
           rw [Nat.add_zero,show ((Kd.slice 4 Kd.bool)).sz = 1 from rfl,Nat.mul_one] at hv50
           replace hv50:=Option.some.inj (hv50.symm.trans HX164_0.out)
           subst hv50
           clear hcc50 hcl50
           replace ge50_0:=(show Kd.R Kd.bool 4 _ _ _ _ (rd_L13 x4_3 x20_1) from ge50_0)
           have HP50:=Kd.R_putg ge50_0 ((rd x7_20 x50_3) : Int) true
           go_wp2_with (first | ((with_reducible refine gate_store (t:=4) (p:=59) rfl ?_);refine store_event (t:=4) (p:=59) (v:=?vo_w51) (w1:=(wr.setCell ⟨go49,((rd x7_20 x50_3) : Int).toNat,none⟩ (.bool true))) ?hg ?ho ?hn ?hr ?_;(case ho => rfl);(case hg => rfl);(case hn => rfl);(case hr => first | (go_simp;done) | (go_simp;rfl));intro w51 hw;have hg : wr.grownBy w51 (some go49) := (by rw [hw];exact HP50.2);have hz_ : Kd.R Kd.bool 4 w51 w.heap.size oki50 (.slice (some ⟨go49,0,none⟩) (rd_L13 x4_3 x20_1).length c164_0) y165:=(by rw [hw,Ny165.out];exact HP50.1);have hp_ : Kd.S (Kd.slice 4 Kd.bool) 65 w51 w.heap.size (fun _ => True) (.slice (some ⟨go19,0,none⟩) x4_3.length co19) y167:=(by rw [Ny167.out];exact hbk50 hg (fun k_ e_ => by injection e_ with e_;subst e_;exact ge50_0.1 _ rfl) (Kd.M_row hz_));have hm_:=Kd.R_mono hz_ hok50;clear HP50 hbk50;have n0_:=Aside0.mk (Kd.S_over' (v:=(.slice (some ⟨go49,0,none⟩) (rd_L13 x4_3 x20_1).length c164_0)) (by (with_reducible repeat (first | apply Kd.S_alloc | apply Kd.S_drewN | apply Kd.S_drew));exact HO_3.out) (Kd.R_typed HL164_0.out) (by decide) hg);have n1_:=Aside0.mk (hp_);have n2_:=Aside0.mk (Kd.R_over' (v:=(.slice (some ⟨go49,0,none⟩) (rd_L13 x4_3 x20_1).length c164_0)) (by (with_reducible repeat (first | apply Kd.R_alloc | apply Kd.R_drewN | apply Kd.R_drew));exact HO_48.out) (Kd.R_typed HL164_0.out) (by decide) hg);have n3_:=Aside0.mk (blk_grown (g:=gb142) (o := .cells #[.slice A0_0 l0_0.length c0_0,.slice A0_1 l0_1.length c0_1,.int .i64 a0_2,.int .i64 a0_3,.slice (some ad149) l0_4.length c0_4] 26 (0,0)) (by (with_reducible repeat (first | refine blk_drewN ?_ _ | refine blk_drew ?_ | refine blk_alloc ?_ _));exact BK142.out) hg (Kd.R_ne HL164_0.out BK142.out (by decide)));have n4_:=Aside0.mk (blk_grown (g:=gb150) (o := .cells #[.int .i64 ((rd_T30 l0_4 x20_1).f0),.slice A149_1 ((rd_T30 l0_4 x20_1).f1).length c149_1] 30 (0,0)) (by (with_reducible repeat (first | refine blk_drewN ?_ _ | refine blk_drew ?_ | refine blk_alloc ?_ _));exact BK150.out) hg (Kd.R_ne HL164_0.out BK150.out (by decide)));have n5_:=Aside0.mk ((by rw [hw];exact below_set (HB.out) GB49.out : Below w.heap.size w w51));have n6_:=Aside0.mk (hm_);have n7_:=Aside0.mk ((Kd.R_reads' hm_).2.1);clear HO_3;clear HO_4;clear HO_48;clear BK142;clear BK150;clear HB;clear HL164_0;have HO_3:=n0_;have HO_4:=n1_;have HO_48:=n2_;have BK142:=n3_;have BK150:=n4_;have HB:=n5_;have HL168:=n6_;have HC166:=n7_;clear n0_ n1_ n2_ n3_ n4_ n5_ n6_ n7_;clear hg hw hp_ hz_ hm_ hok50))
           (try simp only [← hl4_3])
           go_roundg k3
           case measure => have:=HK1.out;have:=HJ20.out;have:=HK3.out;omega
           case rel => exact ⟨(y167),(wrap64 (x50_3 + 1)),(by first | rfl | (simp;done) | (simp [*];done)),H',⟨by have:=HK1.out;have:=HJ20.out;have:=HK3.out;omega⟩,⟨by (try simp only [hl4_20]);(try simp only [hl4_3]);(with_reducible repeat (first | apply Kd.S_alloc | apply Kd.S_drewN | apply Kd.S_drew));exact HO_3.out⟩,⟨by (try simp only [hl4_20]);(try simp only [hl4_3]);(with_reducible repeat (first | apply Kd.S_alloc | apply Kd.S_drewN | apply Kd.S_drew));exact HO_4.out⟩,⟨by (try simp only [hl4_20]);(try simp only [hl4_3]);(with_reducible repeat (first | apply Kd.R_alloc | apply Kd.R_drewN | apply Kd.R_drew));exact HO_48.out⟩,⟨by (try simp only [hl4_20]);(try simp only [hl4_3]);(with_reducible repeat (first | refine blk_drewN ?_ _ | refine blk_drew ?_ | refine blk_alloc ?_ _));exact BK142.out⟩,⟨by (try simp only [hl4_20]);(try simp only [hl4_3]);(with_reducible repeat (first | refine blk_drewN ?_ _ | refine blk_drew ?_ | refine blk_alloc ?_ _));exact BK150.out⟩,⟨by repeat (first | (with_reducible first | exact HB.out | apply below_alloc | apply pw_below_drewN | apply below_drew1 | refine below_set ?_ GE142.out | refine below_set ?_ GE150.out) | exact HB.out)⟩⟩
         · rw [if_neg c42] at H
           have c42b0 : decide (x50_3 < (x7_20.length : Int)) = false:=decide_eq_false c42
           (try (have c42z0:=c42b0;simp only [hl4_20,hl4_3] at c42z0))
           clear c42
           have H' := Aside0.mk H
           clear H
           go_wp2
           (try simp only [← hl4_20,← hl4_3])
           go_roundg k3
           case measure => have:=HK1.out;have:=HJ20.out;have:=HK3.out;omega
           case rel => exact ⟨(x4_3),(wrap64 (x20_1 + 1)),(by first | rfl | (simp;done) | (simp [*];done)),H',⟨by have:=HK1.out;have:=HJ20.out;have:=HK3.out;omega⟩,⟨by (try simp only [hl4_20]);(try simp only [hl4_3]);(with_reducible repeat (first | apply Kd.S_alloc | apply Kd.S_drewN | apply Kd.S_drew));exact Kd.S_mono HO_3.out (fun _ hk => trivial)⟩,⟨by (try simp only [hl4_20]);(try simp only [hl4_3]);(with_reducible repeat (first | apply Kd.S_alloc | apply Kd.S_drewN | apply Kd.S_drew));exact HO_4.out⟩,⟨by (try simp only [hl4_20]);(try simp only [hl4_3]);(with_reducible repeat (first | refine blk_drewN ?_ _ | refine blk_drew ?_ | refine blk_alloc ?_ _));exact BK142.out⟩,⟨by repeat (first | (with_reducible first | exact HB.out | apply below_alloc | apply pw_below_drewN | apply below_drew1 | refine below_set ?_ GE142.out | refine below_set ?_ GE150.out) | exact HB.out)⟩⟩
   · rw [if_neg c12] at H
     have c12b0 : decide (x20_1 < (l0_4.length : Int)) = false:=decide_eq_false c12
     clear c12
     obtain rfl:=Option.some.inj H
     go_wp2
     go_ret
     exact ⟨_,by first | rfl | (simp [errW_none,errW_some] <;> rfl) | (simp [*,errW_none,errW_some] <;> rfl),by (with_reducible repeat (first | apply Kd.S_alloc | apply Kd.S_drewN | apply Kd.S_drew));exact HO_4.out,by repeat (first | (with_reducible first | exact HB.out | apply below_alloc | apply pw_below_drewN | apply below_drew1 | refine below_set ?_ GE142.out) | exact HB.out)⟩
end Go.Proofs.Ytfdcfihcfegekaa.P
end

section
namespace Go.Proofs.Ytfdcfihcfegekaa.P
open Go.RowKit Go.Proofs.YtfdcfihcfegekaaW.PrintWords Go.Proofs.YtfdcfihcfegekaaW.PrintLast Go.Proofs.YtfdcfihcfegekaaW.PrintMore Go.Proofs.Ytfdcfihcfegekaa.R
set_option linter.unusedVariables false
set_option linter.unusedSimpArgs false
def prStep (b : List (List Bool)) (r look i : Nat) (p : S30) (st : Int × List (S50)) : Int × List (S50) :=
  if p.f0 = (r : Int) ∧ (b.getD i []).getD look false = true then (if st.1 < 0 then ((i : Int),st.2) else (st.1,st.2 ++ [⟨(r : Int),(look : Int),st.1,(i : Int)⟩])) else st
def prIn (b : List (List Bool)) (r look : Nat) : Nat → List (S30) → Int × List (S50) → Int × List (S50)
  | _,[],st => st
  | i,p :: ps,st => prIn b r look (i + 1) ps (prStep b r look i p st)
def prRow (b : List (List Bool)) (ps : List (S30)) (r : Nat) : Nat → Nat → List Int × List (S50) → List Int × List (S50)
  | 0,_,st => st
  | n + 1,look,st => prRow b ps r n (look + 1) (st.1.set look (prIn b r look 0 ps (st.1.getD look 0,st.2)).1,(prIn b r look 0 ps (st.1.getD look 0,st.2)).2)
def prAll (b : List (List Bool)) (ps : List (S30)) : Nat → Nat → List (List Int) × List (S50) → List (List Int) × List (S50)
  | 0,_,st => st
  | n + 1,r,st => prAll b ps n (r + 1) (st.1.set r (prRow b ps r (st.1.getD r []).length 0 (st.1.getD r [],st.2)).1,(prRow b ps r (st.1.getD r []).length 0 (st.1.getD r [],st.2)).2)
theorem prStep_le (b : List (List Bool)) (r look i : Nat) (p : S30) (st : Int × List (S50)) : st.2.length ≤ (prStep b r look i p st).2.length:=by
 unfold prStep;split
 · split <;> simp
 · exact Nat.le_refl _
theorem prIn_le (b : List (List Bool)) (r look : Nat) : ∀ (ps : List (S30)) (i : Nat) (st : Int × List (S50)),st.2.length ≤ (prIn b r look i ps st).2.length
  | [],_,_ => Nat.le_refl _
  | p :: ps,i,st => Nat.le_trans (prStep_le b r look i p st) (prIn_le b r look ps (i + 1) _)
theorem prRow_le (b : List (List Bool)) (ps : List (S30)) (r : Nat) : ∀ (n look : Nat) (st : List Int × List (S50)),st.2.length ≤ (prRow b ps r n look st).2.length
  | 0,_,_ => Nat.le_refl _
  | n + 1,look,st => Nat.le_trans (prIn_le b r look ps 0 (st.1.getD look 0,st.2)) (prRow_le b ps r n (look + 1) (st.1.set look (prIn b r look 0 ps (st.1.getD look 0,st.2)).1,(prIn b r look 0 ps (st.1.getD look 0,st.2)).2))
theorem prAll_le (b : List (List Bool)) (ps : List (S30)) : ∀ (n r : Nat) (st : List (List Int) × List (S50)),st.2.length ≤ (prAll b ps n r st).2.length
  | 0,_,_ => Nat.le_refl _
  | n + 1,r,st => Nat.le_trans (prRow_le b ps r (st.1.getD r []).length 0 (st.1.getD r [],st.2)) (prAll_le b ps n (r + 1) (st.1.set r (prRow b ps r (st.1.getD r []).length 0 (st.1.getD r [],st.2)).1,(prRow b ps r (st.1.getD r []).length 0 (st.1.getD r [],st.2)).2))
theorem prIn_drop (b : List (List Bool)) (r look i : Nat) (ps : List (S30)) (hi : i < ps.length) (st : Int × List (S50)) : prIn b r look i (ps.drop i) st = prIn b r look (i + 1) (ps.drop (i + 1)) (prStep b r look i ps[i] st) := by
 rw [List.drop_eq_getElem_cons hi];rfl
def prOk (b : List (List Bool)) (ps : List (S30)) (out : List (List Int)) : Bool:=decide (ps.length = b.length) && out.all (fun row => decide (row.length ≤ 1000000) && b.all (fun x => decide (row.length ≤ x.length)))
theorem prOk_get {b : List (List Bool)} {ps : List (S30)} {out : List (List Int)} (h : prOk b ps out = true) {r : Nat} (hr : r < out.length) {i : Nat} (hi : i < ps.length) : i < b.length ∧ (out.getD r []).length ≤ 1000000 ∧ (out.getD r []).length ≤ (b.getD i []).length:=by
 unfold prOk at h
 simp only [Bool.and_eq_true,decide_eq_true_eq,List.all_eq_true] at h
 have hb : i < b.length:=by omega
 rw [List.getD_eq_getElem?_getD,List.getElem?_eq_getElem hr,List.getD_eq_getElem?_getD,List.getElem?_eq_getElem hb]
 have:=h.2 _ (List.getElem_mem hr)
 exact ⟨hb,this.1,this.2 _ (List.getElem_mem hb)⟩
theorem prOk_row {b : List (List Bool)} {ps : List (S30)} {out : List (List Int)} (h : prOk b ps out = true) {r : Nat} (hr : r < out.length) : (out.getD r []).length ≤ 1000000:=by
 unfold prOk at h
 simp only [Bool.and_eq_true,decide_eq_true_eq,List.all_eq_true] at h
 rw [List.getD_eq_getElem?_getD,List.getElem?_eq_getElem hr]
 exact (h.2 _ (List.getElem_mem hr)).1
theorem set_set {α : Type} (l : List α) (i : Nat) (x y : α) : (l.set i x).set i y = l.set i y:=by simp
theorem get_set {α : Type} {l : List α} {i : Nat} (x d : α) (h : i < l.length) : (l.set i x).getD i d = x:=by
 rw [List.getD_eq_getElem?_getD,List.getElem?_set_self h];rfl
theorem set_get {α : Type} (l : List α) (i : Nat) (d : α) (h : i < l.length) : l.set i (l.getD i d) = l:=by
 rw [List.getD_eq_getElem?_getD,List.getElem?_eq_getElem h];simp
theorem lens_set {m : List (List Int)} {L : Nat → Nat} (h : ∀ i,(m.getD i []).length = L i) {r : Nat} {row : List Int} (hr : row.length = L r) (i : Nat) : ((m.set r row).getD i []).length = L i:=by
 by_cases hi : r = i
 rotate_left
 · rw [List.getD_eq_getElem?_getD,List.getElem?_set_ne hi,← List.getD_eq_getElem?_getD];exact h i
 subst hi
 by_cases hl : r < m.length
 rotate_left
 · rw [List.set_eq_of_length_le (by omega)];exact h r
 rw [get_set _ _ hl];exact hr
def predict_Predict.f (k : Nat) (l0_0 : List ByteArray) (l0_1 : List (S61)) (a0_2 : Int) (a0_3 : Int) (l0_4 : List (S30)) : Option (List (List Int) × List (S50)) :=
  (firsts_Right.f l0_0 l0_1 a0_2 a0_3 l0_4).bind fun rt => if rt = true then (predict_chosen.f k l0_0 l0_1 a0_2 a0_3 l0_4).bind fun b => (predict_rows.f k l0_0 l0_1 a0_2 a0_3 l0_4).bind fun out => if prOk b l0_4 out = true ∧ l0_4.length ≤ 1000000 ∧ out.length ≤ 1000000 ∧ (prAll b l0_4 out.length 0 (out,[])).2.length ≤ 1000000 then some (prAll b l0_4 out.length 0 (out,[])) else none else some ([],[])
set_option maxHeartbeats 4000000 in
set_option maxRecDepth 100000 in
theorem predict_Predict.calls (k : Nat) (A0_0 : Option Addr) (c0_0 : Nat) (l0_0 : List ByteArray) (A0_1 : Option Addr) (c0_1 : Nat) (l0_1 : List (S61)) (a0_2 : Int) (a0_3 : Int) (A0_4 : Option Addr) (c0_4 : Nat) (l0_4 : List (S30)) (r1 : List (List Int)) (r2 : List (S50)) (w : World) (hr0_0 : Kd.C Kd.string w A0_0 l0_0.length l0_0) (hc0_0 : l0_0.length ≤ c0_0) (hr0_1 : Kd.C k61 w A0_1 l0_1.length l0_1) (hc0_1 : l0_1.length ≤ c0_1) (hr0_4 : Kd.C k30 w A0_4 l0_4.length l0_4) (hc0_4 : l0_4.length ≤ c0_4) (h : predict_Predict.f k l0_0 l0_1 a0_2 a0_3 l0_4 = some (r1,r2)) :
    Calls Try.prog 13 #[.agg #[.slice A0_0 l0_0.length c0_0,.slice A0_1 l0_1.length c0_1,.int .i64 a0_2,.int .i64 a0_3,.slice A0_4 l0_4.length c0_4]] w fun e w' => ∃ v0_ v1_ : Value,e = .returned (.tuple #[v0_,v1_]) ∧ Kd.S (Kd.slice 3 (Kd.int .i64)) 43 w' w.heap.size (fun _ => True) v0_ r1 ∧ Kd.R k50 50 w' w.heap.size (fun _ => True) v1_ r2 ∧ Below w.heap.size w w' := by
 obtain ⟨rt,hrt,h2⟩ := Option.bind_eq_some_iff.1 h
 have HRT:=Aside0.mk hrt
 clear h hrt
 have HA1 : Aside0 (Below w.heap.size w (w.alloc (.cells #[.slice A0_0 l0_0.length c0_0,.slice A0_1 l0_1.length c0_1,.int .i64 a0_2,.int .i64 a0_3,.slice A0_4 l0_4.length c0_4] 26))) := ⟨(Below.refl _ w).alloc (Nat.le_refl _) _⟩
 have HC : Aside0 (∀ W,Below (w.heap.size + 1) (w.alloc (.cells #[.slice A0_0 l0_0.length c0_0,.slice A0_1 l0_1.length c0_1,.int .i64 a0_2,.int .i64 a0_3,.slice A0_4 l0_4.length c0_4] 26)) W → W.cell? ⟨w.heap.size,0,none⟩ = some (.slice A0_0 l0_0.length c0_0) ∧ W.cell? ⟨w.heap.size,1,none⟩ = some (.slice A0_1 l0_1.length c0_1) ∧ W.cell? ⟨w.heap.size,2,none⟩ = some (.int .i64 a0_2) ∧ W.cell? ⟨w.heap.size,3,none⟩ = some (.int .i64 a0_3) ∧ W.cell? ⟨w.heap.size,4,none⟩ = some (.slice A0_4 l0_4.length c0_4)) := ⟨fun W hW => ⟨(hW.cell (p:=⟨w.heap.size,0,none⟩) (by simp)).trans (by simp),(hW.cell (p:=⟨w.heap.size,1,none⟩) (by simp)).trans (by simp),(hW.cell (p:=⟨w.heap.size,2,none⟩) (by simp)).trans (by simp),(hW.cell (p:=⟨w.heap.size,3,none⟩) (by simp)).trans (by simp),(hW.cell (p:=⟨w.heap.size,4,none⟩) (by simp)).trans (by simp)⟩⟩
 cases rt with
 | false =>
  rw [if_neg (by simp)] at h2
  obtain ⟨rfl,rfl⟩ := Prod.mk.inj (Option.some.inj h2)
  clear h2
  go_enter Try.func13,Try.ntmps13
  go_wp2_with (go_at_call 22;(with_reducible refine (firsts_Right.calls A0_0 c0_0 l0_0 A0_1 c0_1 l0_1 a0_2 a0_3 A0_4 c0_4 l0_4 false _ (Kd.C_below hr0_0 HA1.out) hc0_0 (Kd.C_below hr0_1 HA1.out) hc0_1 (Kd.C_below hr0_4 HA1.out) hc0_4 HRT.out).mono ?_);rintro e w1 ⟨rfl,hb1⟩)
  go_ret2
  exact ⟨_,_,rfl,Kd.S_nil _ _ _ _ _,Kd.R_nil _ _ _ _ _,HA1.out.trans (hb1.mono (by simp))⟩
 | true =>
  rw [if_pos rfl] at h2
  obtain ⟨b,hb,h3⟩ := Option.bind_eq_some_iff.1 h2
  obtain ⟨out,hout,h4⟩ := Option.bind_eq_some_iff.1 h3
  split at h4
  case isFalse => cases h4
  rename_i hg
  have hfin:=Option.some.inj h4
  clear h2 h3 h4
  obtain ⟨hok,hps,hon,hbad⟩ := hg
  have HB:=Aside0.mk hb
  have HOUT:=Aside0.mk hout
  have HOK:=Aside0.mk (fun (r : Nat) (hr : r < out.length) (i : Nat) (hi : i < l0_4.length) => prOk_get hok hr hi)
  have HROW:=Aside0.mk (fun (r : Nat) (hr : r < out.length) => prOk_row hok hr)
  have HPS:=Aside0.mk hps
  have HON:=Aside0.mk hon
  have HFIN:=Aside0.mk hfin
  have HBAD : Aside0 (r2.length ≤ 1000000) := ⟨by rw [hfin] at hbad;exact hbad⟩
  have HR0:=Aside0.mk hr0_0
  have HR1:=Aside0.mk hr0_1
  have HR4:=Aside0.mk hr0_4
  have HK0:=Aside0.mk (And.intro hc0_0 (And.intro hc0_1 hc0_4))
  have P1:=Aside0.mk (firsts_Right.calls A0_0 c0_0 l0_0 A0_1 c0_1 l0_1 a0_2 a0_3 A0_4 c0_4 l0_4 true _ (Kd.C_below hr0_0 HA1.out) hc0_0 (Kd.C_below hr0_1 HA1.out) hc0_1 (Kd.C_below hr0_4 HA1.out) hc0_4 HRT.out)
  have P2 : Aside0 (∀ W,Below w.heap.size w W → Calls Try.prog 23 #[.agg #[.slice A0_0 l0_0.length c0_0,.slice A0_1 l0_1.length c0_1,.int .i64 a0_2,.int .i64 a0_3,.slice A0_4 l0_4.length c0_4]] W fun e w' => ∃ v0_ : Value,e = .returned (v0_) ∧ Kd.S (Kd.slice 4 Kd.bool) 65 w' W.heap.size (fun _ => True) v0_ b ∧ Below W.heap.size W w') := ⟨fun W hW => predict_chosen.calls k A0_0 c0_0 l0_0 A0_1 c0_1 l0_1 a0_2 a0_3 A0_4 c0_4 l0_4 b W (Kd.C_below HR0.out hW) HK0.out.1 (Kd.C_below HR1.out hW) HK0.out.2.1 (Kd.C_below HR4.out hW) HK0.out.2.2 HB.out⟩
  have P3 : Aside0 (∀ W,Below w.heap.size w W → Calls Try.prog 24 #[.agg #[.slice A0_0 l0_0.length c0_0,.slice A0_1 l0_1.length c0_1,.int .i64 a0_2,.int .i64 a0_3,.slice A0_4 l0_4.length c0_4]] W fun e w' => ∃ v0_ : Value,e = .returned (v0_) ∧ Kd.S (Kd.slice 3 (Kd.int .i64)) 43 w' W.heap.size (fun _ => True) v0_ out ∧ Below W.heap.size W w') := ⟨fun W hW => predict_rows.calls k A0_0 c0_0 l0_0 A0_1 c0_1 l0_1 a0_2 a0_3 A0_4 c0_4 l0_4 out W (Kd.C_below HR0.out hW) HK0.out.1 (Kd.C_below HR1.out hW) HK0.out.2.1 (Kd.C_below HR4.out hW) HK0.out.2.2 HOUT.out⟩
  clear hb hout hok hps hon hfin hbad hr0_0 hr0_1 hr0_4 hc0_0 hc0_1 hc0_4
  go_enter Try.func13,Try.ntmps13
  go_upto_region 5 with (first
    | (go_at_call 22;(with_reducible refine P1.out.mono ?_);rintro e w1 ⟨rfl,hb1⟩;have HB1:=Aside0.mk hb1;obtain ⟨q0,q1,q2,q3,q4⟩ := HC.out w1 (hb1.mono (by simp));clear P1 hb1)
    | (go_at_call 23;(with_reducible refine (P2.out _ (HA1.out.trans (HB1.out.mono HA1.out.size))).mono ?_);rintro e w2 ⟨v2,rfl,hS2,hb2⟩;have HS2:=Aside0.mk hS2;have HB12:=Aside0.mk hb2;have HB2 : Aside0 (Below w.heap.size w w2) := ⟨(HA1.out.trans (HB1.out.mono HA1.out.size)).trans (hb2.mono (HA1.out.trans (HB1.out.mono HA1.out.size)).size)⟩;have HA2 : Aside0 (Below (w.heap.size + 1) (w.alloc (.cells #[.slice A0_0 l0_0.length c0_0,.slice A0_1 l0_1.length c0_1,.int .i64 a0_2,.int .i64 a0_3,.slice A0_4 l0_4.length c0_4] 26)) w2) := ⟨(HB1.out.mono (by simp)).trans (hb2.mono (by have:=HB1.out.size;simp at this;omega))⟩;clear q0 q1 q2 q3 q4;obtain ⟨q0,q1,q2,q3,q4⟩ := HC.out w2 HA2.out;clear P2 hS2 hb2)
    | (go_at_call 24;(with_reducible refine (P3.out _ HB2.out).mono ?_);rintro e w3 ⟨v3,rfl,hS3,hb3⟩;have HS3:=Aside0.mk hS3;have HB3:=Aside0.mk hb3;clear P3 hS3 hb3))
  obtain ⟨Ab,cb,rfl⟩ := Kd.S_slice HS2.out
  obtain ⟨Ao,co,rfl⟩ := Kd.S_slice HS3.out
  have CB : Aside0 (∀ W,Below w2.heap.size w2 W → Kd.C (Kd.slice 4 Kd.bool) W Ab b.length b) := ⟨fun W hW => Kd.C_below (Kd.S_reads' HS2.out).2.2 hW⟩
  have CP : Aside0 (∀ W,Below w2.heap.size w2 W → Kd.C k30 W A0_4 l0_4.length l0_4) := ⟨fun W hW => Kd.C_below HR4.out (HB2.out.trans (hW.mono HB2.out.size))⟩
  have HQ : Aside0 (∀ W,Below w2.heap.size w2 W → W.cell? ⟨w.heap.size,4,none⟩ = some (.slice A0_4 l0_4.length c0_4)) := ⟨fun W hW => (HC.out W (HA2.out.trans (hW.mono (by have:=HA2.out.size;simp at this;omega)))).2.2.2.2⟩
  clear q0 q1 q2 q3 q4 HS2 HC HA2 HB12 HB1 HA1 HB HOUT HR0 HR1 HR4 HK0 HRT
  have HLO:=(Kd.S_reads' HS3.out).2.1
  have HLO:=Aside0.mk HLO
  have HBASE:=Aside0.mk HB2.out.size
  go_wp2
  go_loopg [3,19] out.length (fun kq v3 v19 wr => ∃ (r : Nat) (m : List (List Int)) (bad : List (S50)),v19 = .int .i64 (r : Int) ∧ r ≤ out.length ∧ out.length - r ≤ kq ∧ Aside0 (prAll b l0_4 (out.length - r) r (m,bad) = (r1,r2)) ∧ Aside0 (m.length = out.length ∧ ∀ i,(m.getD i []).length = (out.getD i []).length) ∧ Aside0 (Kd.S (Kd.slice 3 (Kd.int .i64)) 43 wr w2.heap.size (fun _ => True) (.slice Ao out.length co) m) ∧ Aside0 (Kd.R k50 50 wr w2.heap.size (fun _ => True) v3 bad) ∧ Aside0 (Below w2.heap.size w2 wr))
  case atStart => exact ⟨0,out,[],rfl,by omega,by omega,HFIN,⟨rfl,fun _ => rfl⟩,HS3,⟨Kd.R_nil _ _ _ _ _⟩,HB3⟩
  case round =>
   obtain ⟨r,m,bad,rfl,hr,hkq,HF,HM,HS,HRB,HBR⟩ := hrel
   have hwr : IntKind.i64.wrap ((r : Int) + 1) = (r : Int) + 1:=by rw [IntKind.wrap_i64];have:=HON.out;omega
   by_cases hlt : r < out.length
   · have d0 : decide ((r : Int) < (out.length : Int)) = true:=decide_eq_true (by omega)
     have d1 : decide (r < out.length) = true:=decide_eq_true hlt
     obtain ⟨ado,A6,c6,rfl,hc6,hl6,hC6⟩ := at_rows (Kd.S_reads' HS.out).2.2 (r : Int) (by omega) (by have:=HM.out.1;omega)
     rw [Int.toNat_natCast,HM.out.2 r] at hc6
     have HLT:=Aside0.mk hlt
     have HKQ:=Aside0.mk hkq
     have HC6:=Aside0.mk hc6
     have p0 : (0 ≤ (r : Int)) = True:=eq_true (by omega)
     have p1 : ((r : Int) < (out.length : Int)) = True:=eq_true (by omega)
     have p2 : (r < out.length) = True:=eq_true hlt
     clear hlt hkq hl6 hC6 hr
     obtain ⟨nr,enr⟩ : ∃ nr,nr = (out.getD r []).length:=⟨_,rfl⟩
     have hnr : nr ≤ 1000000:=by rw [enr];exact HROW.out r HLT.out
     have HNR:=Aside0.mk hnr
     have hlens:=HM.out.2
     have HLEN : Aside0 (m.length = out.length ∧ ∀ i,(m.getD i []).length = (out.getD i []).length) := ⟨HM.out⟩
     have HBROW : Aside0 (∀ i,i < l0_4.length → i < b.length ∧ nr ≤ (b.getD i []).length) := ⟨fun i hi => ⟨(HOK.out r HLT.out i hi).1,by rw [enr];exact (HOK.out r HLT.out i hi).2.2⟩⟩
     have HMR : Aside0 ((m.getD r []).length = nr) := ⟨by rw [enr];exact HM.out.2 r⟩
     rw [← enr] at hc6 HC6
     have HENR:=Aside0.mk enr
     have h1 : prAll b l0_4 (out.length - (r + 1)) (r + 1) (m.set r (prRow b l0_4 r nr 0 (m.getD r [],bad)).1,(prRow b l0_4 r nr 0 (m.getD r [],bad)).2) = (r1,r2) := by
      have h:=HF.out
      rw [show out.length - r = out.length - (r + 1) + 1 by have:=HLT.out;omega] at h
      rw [← HMR.out]
      exact h
     obtain ⟨K1,eK1⟩ : ∃ K : List Int × List (S50) → Prop,K = fun x => prAll b l0_4 (out.length - (r + 1)) (r + 1) (m.set r x.1,x.2) = (r1,r2) := ⟨_,rfl⟩
     have HK1 : Aside0 (K1 (prRow b l0_4 r nr 0 (m.getD r [],bad))) := ⟨by rw [eK1];exact h1⟩
     have HB1 : Aside0 (∀ x,K1 x → x.2.length ≤ 1000000) := ⟨fun x hx => by rw [eK1] at hx;have h:=prAll_le b l0_4 (out.length - (r + 1)) (r + 1) (m.set r x.1,x.2);rw [hx] at h;exact Nat.le_trans h HBAD.out⟩
     have EK1:=Aside0.mk eK1
     have HS0 : Aside0 (Kd.S (Kd.slice 3 (Kd.int .i64)) 43 wr w2.heap.size (fun _ => True) (.slice (some ado) out.length co) (m.set r (m.getD r []))) := ⟨by rw [set_get _ _ _ (by have:=HLEN.out.1;have:=HLT.out;omega)];exact HS.out⟩
     clear h1 eK1 enr hnr hlens
     go_wp2
     go_loopg [3,26] nr (fun kq v3 v26 wr => ∃ (look : Nat) (row : List Int) (bad : List (S50)),v26 = .int .i64 (look : Int) ∧ look ≤ nr ∧ nr - look ≤ kq ∧ Aside0 (K1 (prRow b l0_4 r (nr - look) look (row,bad))) ∧ Aside0 (row.length = nr) ∧ Aside0 (Kd.S (Kd.slice 3 (Kd.int .i64)) 43 wr w2.heap.size (fun _ => True) (.slice (some ado) out.length co) (m.set r row)) ∧ Aside0 (Kd.R k50 50 wr w2.heap.size (fun _ => True) v3 bad) ∧ Aside0 (Below w2.heap.size w2 wr) ∧ Aside0 (wr.cell? (ado.add r) = some (.slice A6 nr c6)))
     case atStart => exact ⟨0,m.getD r [],bad,rfl,by omega,by omega,HK1,HMR,HS0,HRB,HBR,HC6⟩
     case round =>
      clear HS HRB HBR HC6 HS0 HK1
      obtain ⟨look,row,bad,rfl,hlk,hkq,HK1,HRL,HS,HRB,HBR,HC6⟩ := hrel
      have hwl : IntKind.i64.wrap ((look : Int) + 1) = (look : Int) + 1:=by rw [IntKind.wrap_i64];have:=HNR.out;omega
      by_cases hlt2 : look < nr
      · have d2 : decide ((look : Int) < (nr : Int)) = true:=decide_eq_true (by omega)
        have d3 : decide (look < nr) = true:=decide_eq_true hlt2
        have HLT2:=Aside0.mk hlt2
        have HKQ2:=Aside0.mk hkq
        clear hlt2 hkq hlk
        obtain ⟨K2,eK2⟩ : ∃ K : Int × List (S50) → Prop,K = fun y => K1 (prRow b l0_4 r (nr - (look + 1)) (look + 1) (row.set look y.1,y.2)) := ⟨_,rfl⟩
        have HK2 : Aside0 (K2 (prIn b r look 0 l0_4 (row.getD look 0,bad))) := ⟨by
         rw [eK2]
         have h:=HK1.out
         rw [show nr - look = nr - (look + 1) + 1 by have:=HLT2.out;omega] at h
         exact h⟩
        have HB2' : Aside0 (∀ y,K2 y → y.2.length ≤ 1000000) := ⟨fun y hy => by rw [eK2] at hy;exact Nat.le_trans (prRow_le b l0_4 r (nr - (look + 1)) (look + 1) (row.set look y.1,y.2)) (HB1.out _ hy)⟩
        have EK2:=Aside0.mk eK2
        have HS0 : Aside0 (Kd.S (Kd.slice 3 (Kd.int .i64)) 43 wr w2.heap.size (fun _ => True) (.slice (some ado) out.length co) (m.set r (row.set look (row.getD look 0)))) := ⟨by rw [set_get _ _ _ (by have:=HRL.out;have:=HLT2.out;omega)];exact HS.out⟩
        have k0 : (0 ≤ (look : Int)) = True:=eq_true (by omega)
        have k1 : ((look : Int) < (nr : Int)) = True:=eq_true (by have:=HLT2.out;omega)
        have k2 : (look < nr) = True:=eq_true HLT2.out
        clear eK2
        obtain ⟨q4⟩ := Aside0.mk (HQ.out wr HBR.out)
        go_wp2
        go_step3
        go_wp2
        go_step3
        go_wp2
        go_loopg [3,32] l0_4.length (fun kq v3 v32 wr => ∃ (i : Nat) (x : Int) (bad : List (S50)),v32 = .int .i64 (i : Int) ∧ i ≤ l0_4.length ∧ l0_4.length - i ≤ kq ∧ Aside0 (K2 (prIn b r look i (l0_4.drop i) (x,bad))) ∧ Aside0 (Kd.S (Kd.slice 3 (Kd.int .i64)) 43 wr w2.heap.size (fun _ => True) (.slice (some ado) out.length co) (m.set r (row.set look x))) ∧ Aside0 (Kd.R k50 50 wr w2.heap.size (fun _ => True) v3 bad) ∧ Aside0 (Below w2.heap.size w2 wr) ∧ Aside0 (wr.cell? (ado.add r) = some (.slice A6 nr c6)))
        case atStart => exact ⟨0,row.getD look 0,bad,rfl,by omega,by omega,HK2,HS0,HRB,HBR,HC6⟩
        case round =>
         clear HS HRB HBR HC6 HS0 HK2 q4
         obtain ⟨i,x,bad,rfl,hii,hkq,HK2,HS,HRB,HBR,HC6⟩ := hrel
         have hwi : IntKind.i64.wrap ((i : Int) + 1) = (i : Int) + 1:=by rw [IntKind.wrap_i64];have:=HPS.out;omega
         by_cases hlt3 : i < l0_4.length
         · have d4 : decide ((i : Int) < (l0_4.length : Int)) = true:=decide_eq_true (by omega)
           have d5 : decide (i < l0_4.length) = true:=decide_eq_true hlt3
           have HLT3:=Aside0.mk hlt3
           have HKQ3:=Aside0.mk hkq
           have i0 : (0 ≤ (i : Int)) = True:=eq_true (by omega)
           have i1 : ((i : Int) < (l0_4.length : Int)) = True:=eq_true (by omega)
           have i2 : (i < l0_4.length) = True:=eq_true hlt3
           clear hlt3 hkq hii
           obtain ⟨hib,hnb⟩ := HBROW.out i HLT3.out
           have j0 : ((i : Int) < (b.length : Int)) = True:=eq_true (by omega)
           have j1 : (i < b.length) = True:=eq_true hib
           have hlk:=HLT2.out
           have j2 : ((look : Int) < ((b.getD i []).length : Int)) = True:=eq_true (by omega)
           have j3 : (look < (b.getD i []).length) = True:=eq_true (by omega)
           obtain ⟨adp,A9,c9,eap,e0,e1,_,hC9⟩ := at_T30 (CP.out wr HBR.out) (i : Int) (by omega) (by have:=HLT3.out;omega)
           rw [Int.toNat_natCast] at e0 e1
           have hrdp : rd_T30 l0_4 (i : Int) = l0_4[i]'HLT3.out:=by simp [rd_T30,HLT3.out]
           rw [hrdp] at e0 e1
           have HSTEP : Aside0 (prIn b r look i (l0_4.drop i) (x,bad) = prIn b r look (i + 1) (l0_4.drop (i + 1)) (prStep b r look i (l0_4[i]'HLT3.out) (x,bad))) := ⟨prIn_drop b r look i l0_4 HLT3.out (x,bad)⟩
           clear hC9 hrdp
           generalize l0_4[i]'HLT3.out = p at e0 e1 HSTEP
           obtain ⟨left,right⟩ := p
           simp only at e0 e1
           cases eap
           go_upto_region 15 with fail
           have HPB : Aside0 ((wr.alloc (.cells #[.int .i64 left,.slice A9 right.length c9] 30)).heap[wr.heap.size]? = some (.cells #[.int .i64 left,.slice A9 right.length c9] 30 (0,0))) := ⟨heap_alloc_new wr _⟩
           have hb5 : Below wr.heap.size wr (wr.alloc (.cells #[.int .i64 left,.slice A9 right.length c9] 30)) := below_alloc (Below.refl _ _) _
           have HBR5 : Aside0 (Below w2.heap.size w2 (wr.alloc (.cells #[.int .i64 left,.slice A9 right.length c9] 30))) := ⟨HBR.out.trans (hb5.mono HBR.out.size)⟩
           have HS5:=Aside0.mk (Kd.S_below HS.out hb5)
           have HRB5:=Aside0.mk (Kd.R_below HRB.out hb5)
           have HC65:=Aside0.mk (pw_cell_below hb5 HC6.out)
           generalize wr.alloc (.cells #[.int .i64 left,.slice A9 right.length c9] 30) = w5 at HPB hb5 HBR5 HS5 HRB5 HC65 ⊢
           generalize wr.heap.size = PB at HPB ⊢
           clear hb5 HS HRB HBR HC6 e0 e1
           obtain ⟨gq,gv,cv,eg,hcg,_,hcx,hfx,hgb,hgl,hgne,hgt,hset⟩ := S_cell HS5.out r look (by rw [List.length_set];have:=HLEN.out.1;have:=HLT.out;omega) (by rw [get_set _ _ (by have:=HLEN.out.1;have:=HLT.out;omega),List.length_set,HRL.out];exact hlk)
           have hml : r < m.length:=by have:=HLEN.out.1;have:=HLT.out;omega
           have hrl : look < row.length:=by rw [HRL.out];exact hlk
           simp only [get_set _ _ hml,List.length_set,HRL.out,get_set _ _ hrl,set_set] at hcg hcx hset
           have HADO : Aside0 (ado = ⟨gq,0,none⟩) := ⟨Option.some.inj eg⟩
           clear eg
           have hc6' : w5.cell? ⟨gq,r,none⟩ = some (.slice A6 nr c6) := by rw [← add_plain,← HADO.out];exact HC65.out
           rw [hc6'] at hcg
           injection hcg with hcg
           injection hcg with hA6 _ hc6e
           subst hA6 hc6e
           obtain ⟨adb,Ar,cr,eab,hcb,_,hCr⟩ := at_rows (CB.out w5 HBR5.out) (i : Int) (by omega) (by omega)
           rw [Int.toNat_natCast] at hcb hCr
           obtain ⟨adr,ear,hcy⟩ := Kd.at_bool hCr (look : Int) (by omega) (by omega)
           rw [Int.toNat_natCast,show rdOf false (b.getD i []) (look : Int) = (b.getD i []).getD look false by simp [rdOf]] at hcy
           cases eab;cases ear
           clear hCr hib hnb hml hrl hc6'
           have HSET:=Aside0.mk hset
           have HGV:=Aside0.mk (And.intro hgb (And.intro hgl hgne))
           generalize hy : (b.getD i []).getD look false = y at hcy HSTEP
           generalize (b.getD i []).length = nb at *
           have HSTP : Aside0 (prStep b r look i ⟨left,right⟩ (x,bad) = if left = (r : Int) ∧ y = true then (if x < 0 then ((i : Int),bad) else (x,bad ++ [⟨(r : Int),(look : Int),x,(i : Int)⟩])) else (x,bad)) := ⟨by rw [prStep,hy]⟩
           obtain ⟨cellsT,hgt⟩ := hgt;have HGT:=Aside0.mk hgt
           clear hset hgb hgl hgne hgt hy hlk
           have hpb0:=(blk_cell HPB.out 0).trans (show (#[Value.int .i64 left,.slice A9 right.length c9])[0]? = some (.int .i64 left) from rfl)
           have l0 : (0 ≤ (look : Int)) = True:=k0
           by_cases hl : left = (r : Int)
           · subst hl
             have y1 : ((r : Int) == (r : Int)) = true:=by simp
             have y2 : ((r : Int) != (r : Int)) = false:=by simp
             cases y with
             | false =>
              have HNX : Aside0 (K2 (prIn b r look (i + 1) (l0_4.drop (i + 1)) (x,bad))) := ⟨by have h:=HK2.out;rw [HSTEP.out,HSTP.out,if_neg (by simp)] at h;exact h⟩
              go_wp2
              go_roundg (l0_4.length - (i + 1))
              case measure => have:=HKQ3.out;have:=HLT3.out;omega
              case rel => exact ⟨i + 1,x,bad,rfl,by have:=HLT3.out;omega,Nat.le_refl _,HNX,HS5,HRB5,HBR5,HC65⟩
             | true =>
              by_cases hx : x < 0
              · have x1 : decide (x < 0) = true:=decide_eq_true hx
                have HNX : Aside0 (K2 (prIn b r look (i + 1) (l0_4.drop (i + 1)) ((i : Int),bad))) := ⟨by have h:=HK2.out;rw [HSTEP.out,HSTP.out,if_pos ⟨rfl,rfl⟩,if_pos hx] at h;exact h⟩
                clear hx
                go_wp2
                go_roundg (l0_4.length - (i + 1))
                case measure => have:=HKQ3.out;have:=HLT3.out;omega
                case rel => exact ⟨i + 1,(i : Int),bad,rfl,by have:=HLT3.out;omega,Nat.le_refl _,HNX,⟨HSET.out (i : Int)⟩,⟨Kd.R_set HRB5.out HGT.out (by decide) look _⟩,⟨below_set HBR5.out HGV.out.1⟩,⟨by rw [HADO.out,add_plain,cell_far (by show gq ≠ gv;exact (Ne.symm HGV.out.2.2)),← add_plain,← HADO.out];exact HC65.out⟩⟩
              · have x1 : decide (x < 0) = false:=decide_eq_false hx
                have HNX : Aside0 (K2 (prIn b r look (i + 1) (l0_4.drop (i + 1)) (x,bad ++ [⟨(r : Int),(look : Int),x,(i : Int)⟩]))) := ⟨by have h:=HK2.out;rw [HSTEP.out,HSTP.out,if_pos ⟨rfl,rfl⟩,if_neg hx] at h;exact h⟩
                have HLB : Aside0 (bad.length + 1 ≤ 1000000) := ⟨by
                 have h1:=HB2'.out _ HNX.out
                 have h2:=prIn_le b r look (l0_4.drop (i + 1)) (i + 1) (x,bad ++ [⟨(r : Int),(look : Int),x,(i : Int)⟩])
                 simp only [List.length_append,List.length_cons,List.length_nil] at h2
                 omega⟩
                clear hx
                go_wp2_with (first | ((with_reducible refine gate_builtin (b := .append) (xs:=#[.tmp 37,.tmp 46]) rfl ?_);at_builtin;refine Kd.R_append k50 (w0:=w2) w2.heap.size rfl (.tmp 37) (.tmp 46) 37 50 (.agg #[(.int .i64 0),(.int .i64 0),(.int .i64 0),(.int .i64 0)]) 32 rfl Try.underlying37 info50 rfl (by decide) (by omega) u3 bad (⟨(r : Int),(look : Int),x,(i : Int)⟩ : S50) [.int .i64 (r : Int),.int .i64 (look : Int),.int .i64 x,.int .i64 (i : Int)] (fun _ => True) (fun _ => False) rfl rfl ?aP (fun _ hk => hk.elim) ?aF ?aO ?aB ?aS ?aL ?_;(case aP => exact k50_mkM _ _ _ (⟨(r : Int),(look : Int),x,(i : Int)⟩ : S50));(case aB => exact HBR5.out);(case aF => exact (fun _ _ => trivial));(case aO => exact HRB5.out);(case aS => exact HBR5.out.size);(case aL => have:=HLB.out;omega);intro v6 w6 ho hb hg hat;have HO6:=Aside0.mk ho;have HB6:=Aside0.mk hb;have HS6:=Aside0.mk (Kd.S_over' HS5.out (Kd.R_typed HRB5.out) (by decide) hg);have HG6:=Aside0.mk hg;clear ho hb hg hat))
                have HC66 : Aside0 (w6.cell? (ado.add r) = some (.slice (some ⟨gv,0,none⟩) nr c6)) := ⟨by
                 obtain ⟨gs,cps,es,_,_,cellsS,hbs⟩ := Kd.S_form HS5.out (by rw [List.length_set];have:=HLEN.out.1;have:=HLT.out;omega)
                 have hgs : ado.block = gs:=by injection es with es;injection es with es;rw [es]
                 have hne : u3.ownBlock ≠ some ado.block:=fun e => by
                  obtain ⟨c2,h2⟩ := Kd.R_typed HRB5.out ado.block e
                  rw [hgs,hbs] at h2
                  injection h2 with h2
                  injection h2 with _ h2
                  exact absurd h2 (by decide)
                 rw [(World.grownBy.cell_far HG6.out (ado.add r) (by rw [add_block,hgs];exact (blk_lt hbs)) (by rw [add_block];exact Ne.symm hne))]
                 exact HC65.out⟩
                go_roundg (l0_4.length - (i + 1))
                case measure => have:=HKQ3.out;have:=HLT3.out;omega
                case rel => exact ⟨i + 1,x,_,rfl,by have:=HLT3.out;omega,Nat.le_refl _,HNX,HS6,HO6,HB6,HC66⟩
           · have y1 : (left == (r : Int)) = false:=by simp [hl]
             have y2 : (left != (r : Int)) = true:=by simp [hl]
             have y3 : decide (left = (r : Int)) = false:=decide_eq_false hl
             have y4 : (left = (r : Int)) = False:=eq_false hl
             have HNX : Aside0 (K2 (prIn b r look (i + 1) (l0_4.drop (i + 1)) (x,bad))) := ⟨by have h:=HK2.out;rw [HSTEP.out,HSTP.out,if_neg (fun h2 => hl h2.1)] at h;exact h⟩
             clear hl
             go_wp2
             go_roundg (l0_4.length - (i + 1))
             case measure => have:=HKQ3.out;have:=HLT3.out;omega
             case rel => exact ⟨i + 1,x,bad,rfl,by have:=HLT3.out;omega,Nat.le_refl _,HNX,HS5,HRB5,HBR5,HC65⟩
         · obtain rfl : i = l0_4.length:=by omega
           have d4 : decide ((l0_4.length : Int) < (l0_4.length : Int)) = false:=decide_eq_false (by omega)
           have d5 : decide (l0_4.length < l0_4.length) = false:=decide_eq_false (by omega)
           go_wp2
           go_roundg (nr - (look + 1))
           case measure => have:=HKQ2.out;have:=HLT2.out;omega
           case rel => exact ⟨look + 1,row.set look x,bad,rfl,by have:=HLT2.out;omega,Nat.le_refl _,⟨by have h:=HK2.out;rw [List.drop_length,EK2.out] at h;exact h⟩,⟨by rw [List.length_set];exact HRL.out⟩,HS,HRB,HBR,HC6⟩
      · obtain rfl : look = nr:=by omega
        have d2 : decide ((look : Int) < (look : Int)) = false:=decide_eq_false (by omega)
        have d3 : decide (look < look) = false:=decide_eq_false (by omega)
        go_wp2
        go_roundg (out.length - (r + 1))
        case measure => have:=HKQ.out;have:=HLT.out;omega
        case rel => exact ⟨r + 1,m.set r row,bad,rfl,by have:=HLT.out;omega,Nat.le_refl _,⟨by have h:=HK1.out;rw [Nat.sub_self,EK1.out] at h;exact h⟩,⟨by rw [List.length_set];exact HLEN.out.1,lens_set HLEN.out.2 (by rw [HRL.out,HENR.out])⟩,HS,HRB,HBR⟩
   · obtain rfl : r = out.length:=by omega
     have d0 : decide ((out.length : Int) < (out.length : Int)) = false:=decide_eq_false (by omega)
     go_wp2
     go_ret2
     have hfin:=HF.out
     rw [Nat.sub_self] at hfin
     simp only [prAll] at hfin
     obtain ⟨rfl,rfl⟩ := Prod.mk.inj hfin
     exact ⟨_,_,rfl,Kd.S_lower HS.out HBASE.out,Kd.R_lower HRB.out HBASE.out,HB2.out.trans (HBR.out.mono HB2.out.size)⟩
end Go.Proofs.Ytfdcfihcfegekaa.P
end

section
namespace Go.Proofs.Ytfdcfihcfegekaa.P
open Go.RowKit Go.Proofs.YtfdcfihcfegekaaW.PrintWords Go.Proofs.YtfdcfihcfegekaaW.PrintLast Go.Proofs.YtfdcfihcfegekaaW.PrintMore
attribute [local go_sem] max2_int min2_int max_two min_two max_three min_three max_four min_four   -- for this text's walks alone
set_option linter.unusedVariables false
set_option linter.unusedSimpArgs false
attribute [local go_sem high] eqA50
def regletlaw14_awake.f (k : Nat)  : Option (Bool) := (some (([(⟨#[97]⟩ : ByteArray)] : List ByteArray) : List ByteArray)).bind fun y188 => (if 1 ≤ 2706490160679 then ((some (List.replicate 1 z61 : List (S61))).bind fun y191 => ((some (([(⟨0,(([(⟨true,0⟩ : S53),(⟨false,0⟩ : S53)] : List (S53)))⟩ : S30),(⟨0,([] : List (S53))⟩ : S30)] : List (S30)) : List (S30))).bind fun y197 => ((predict_Predict.f k y188 y191 0 0 y197).bind fun bt201 => (if y197.length < 4398046511104 then ((predict_Predict.f k y188 y191 0 0 (y197 ++ [(⟨0,([] : List (S53))⟩ : S30)])).bind fun bt210 => (if (bt201.2.length : Int) = 0 then ((regletref13_SameLists.f k bt201.1 (([(([0,1] : List Int))] : List (List Int)))).bind fun t222 => (if t222 = true then (if (bt210.2.length : Int) = 1 then (if 0 < (bt210.2.length : Int) then (some (((rd_T50 bt210.2 0).f0) == 0 && (((rd_T50 bt210.2 0).f1) == 1 && (((rd_T50 bt210.2 0).f2) == 1 && (((rd_T50 bt210.2 0).f3) == 2))))) else (none)) else (none)) else (none))) else (none))) else (none))))) else (none))
set_option maxHeartbeats 8000000 in
set_option maxRecDepth 100000 in
theorem regletlaw14_awake.calls (k : Nat)  (r : Bool) (w : World) (h : regletlaw14_awake.f k  = some r) :
    Calls Try.prog 9 #[] w fun e w' => e = .returned (.bool r) ∧ Below w.heap.size w w' := by
 have hu53:=Try.underlying53
 have hu30:=Try.underlying30
 have hu26:=Try.underlying26
 have hu50:=Try.underlying50
 have HB:=Aside0.mk (Below.refl w.heap.size w)
 have H : ((some (([(⟨#[97]⟩ : ByteArray)] : List ByteArray) : List ByteArray)).bind fun y188 => (if 1 ≤ 2706490160679 then ((some (List.replicate 1 z61 : List (S61))).bind fun y191 => ((some (([(⟨0,(([(⟨true,0⟩ : S53),(⟨false,0⟩ : S53)] : List (S53)))⟩ : S30),(⟨0,([] : List (S53))⟩ : S30)] : List (S30)) : List (S30))).bind fun y197 => ((predict_Predict.f k y188 y191 0 0 y197).bind fun bt201 => (if y197.length < 4398046511104 then ((predict_Predict.f k y188 y191 0 0 (y197 ++ [(⟨0,([] : List (S53))⟩ : S30)])).bind fun bt210 => (if (bt201.2.length : Int) = 0 then ((regletref13_SameLists.f k bt201.1 (([(([0,1] : List Int))] : List (List Int)))).bind fun t222 => (if t222 = true then (if (bt210.2.length : Int) = 1 then (if 0 < (bt210.2.length : Int) then (some (((rd_T50 bt210.2 0).f0) == 0 && (((rd_T50 bt210.2 0).f1) == 1 && (((rd_T50 bt210.2 0).f2) == 1 && (((rd_T50 bt210.2 0).f3) == 2))))) else (none)) else (none)) else (none))) else (none))) else (none))))) else (none))) = some r:=h
 clear h
 obtain ⟨y188,hy188⟩ : ∃ y_ : List ByteArray,y_ = (([(⟨#[97]⟩ : ByteArray)] : List ByteArray)) := ⟨_,rfl⟩
 replace H : (if 1 ≤ 2706490160679 then ((some (List.replicate 1 z61 : List (S61))).bind fun y191 => ((some (([(⟨0,(([(⟨true,0⟩ : S53),(⟨false,0⟩ : S53)] : List (S53)))⟩ : S30),(⟨0,([] : List (S53))⟩ : S30)] : List (S30)) : List (S30))).bind fun y197 => ((predict_Predict.f k y188 y191 0 0 y197).bind fun bt201 => (if y197.length < 4398046511104 then ((predict_Predict.f k y188 y191 0 0 (y197 ++ [(⟨0,([] : List (S53))⟩ : S30)])).bind fun bt210 => (if (bt201.2.length : Int) = 0 then ((regletref13_SameLists.f k bt201.1 (([(([0,1] : List Int))] : List (List Int)))).bind fun t222 => (if t222 = true then (if (bt210.2.length : Int) = 1 then (if 0 < (bt210.2.length : Int) then (some (((rd_T50 bt210.2 0).f0) == 0 && (((rd_T50 bt210.2 0).f1) == 1 && (((rd_T50 bt210.2 0).f2) == 1 && (((rd_T50 bt210.2 0).f3) == 2))))) else (none)) else (none)) else (none))) else (none))) else (none))))) else (none)) = some r:=by first | (rw [hy188];with_reducible exact H) | (have H2_:=(Option.bind_some _ _).symm.trans H;rw [hy188];with_reducible exact H2_) | (have H2_:=(Option.bind_some _ _).symm.trans H;with_reducible exact H2_) | with_reducible exact H | (rw [hy188];exact H) | exact H
 have Ny188:=Aside0.mk hy188
 clear hy188
 by_cases c1 : 1 ≤ 2706490160679
 rotate_left
 · rw [if_neg c1] at H
   exact absurd H (by simp)
 rw [if_pos c1] at H
 have c1b0:=eq_true c1
 have c1b1 : decide (1 ≤ 2706490160679) = true:=decide_eq_true c1
 clear c1
 obtain ⟨y191,hy191⟩ : ∃ y_ : List (S61),y_ = (List.replicate 1 z61) := ⟨_,rfl⟩
 replace H : ((some (([(⟨0,(([(⟨true,0⟩ : S53),(⟨false,0⟩ : S53)] : List (S53)))⟩ : S30),(⟨0,([] : List (S53))⟩ : S30)] : List (S30)) : List (S30))).bind fun y197 => ((predict_Predict.f k y188 y191 0 0 y197).bind fun bt201 => (if y197.length < 4398046511104 then ((predict_Predict.f k y188 y191 0 0 (y197 ++ [(⟨0,([] : List (S53))⟩ : S30)])).bind fun bt210 => (if (bt201.2.length : Int) = 0 then ((regletref13_SameLists.f k bt201.1 (([(([0,1] : List Int))] : List (List Int)))).bind fun t222 => (if t222 = true then (if (bt210.2.length : Int) = 1 then (if 0 < (bt210.2.length : Int) then (some (((rd_T50 bt210.2 0).f0) == 0 && (((rd_T50 bt210.2 0).f1) == 1 && (((rd_T50 bt210.2 0).f2) == 1 && (((rd_T50 bt210.2 0).f3) == 2))))) else (none)) else (none)) else (none))) else (none))) else (none)))) = some r:=by first | (rw [hy191];with_reducible exact H) | (have H2_:=(Option.bind_some _ _).symm.trans H;rw [hy191];with_reducible exact H2_) | (have H2_:=(Option.bind_some _ _).symm.trans H;with_reducible exact H2_) | with_reducible exact H | (rw [hy191];exact H) | exact H
 have Ny191:=Aside0.mk hy191
 clear hy191
 obtain ⟨y194,hy194⟩ : ∃ y_ : List (S53),y_ = (([(⟨true,0⟩ : S53),(⟨false,0⟩ : S53)] : List (S53))) := ⟨_,rfl⟩
 replace H : ((some (([(⟨0,y194⟩ : S30),(⟨0,([] : List (S53))⟩ : S30)] : List (S30)) : List (S30))).bind fun y197 => ((predict_Predict.f k y188 y191 0 0 y197).bind fun bt201 => (if y197.length < 4398046511104 then ((predict_Predict.f k y188 y191 0 0 (y197 ++ [(⟨0,([] : List (S53))⟩ : S30)])).bind fun bt210 => (if (bt201.2.length : Int) = 0 then ((regletref13_SameLists.f k bt201.1 (([(([0,1] : List Int))] : List (List Int)))).bind fun t222 => (if t222 = true then (if (bt210.2.length : Int) = 1 then (if 0 < (bt210.2.length : Int) then (some (((rd_T50 bt210.2 0).f0) == 0 && (((rd_T50 bt210.2 0).f1) == 1 && (((rd_T50 bt210.2 0).f2) == 1 && (((rd_T50 bt210.2 0).f3) == 2))))) else (none)) else (none)) else (none))) else (none))) else (none)))) = some r:=by first | (rw [hy194];with_reducible exact H) | (have H2_:=(Option.bind_some _ _).symm.trans H;rw [hy194];with_reducible exact H2_) | (have H2_:=(Option.bind_some _ _).symm.trans H;with_reducible exact H2_) | with_reducible exact H | (rw [hy194];exact H) | exact H
 have Ny194:=Aside0.mk hy194
 clear hy194
 obtain ⟨y197,hy197⟩ : ∃ y_ : List (S30),y_ = (([(⟨0,y194⟩ : S30),(⟨0,([] : List (S53))⟩ : S30)] : List (S30))) := ⟨_,rfl⟩
 replace H : ((predict_Predict.f k y188 y191 0 0 y197).bind fun bt201 => (if y197.length < 4398046511104 then ((predict_Predict.f k y188 y191 0 0 (y197 ++ [(⟨0,([] : List (S53))⟩ : S30)])).bind fun bt210 => (if (bt201.2.length : Int) = 0 then ((regletref13_SameLists.f k bt201.1 (([(([0,1] : List Int))] : List (List Int)))).bind fun t222 => (if t222 = true then (if (bt210.2.length : Int) = 1 then (if 0 < (bt210.2.length : Int) then (some (((rd_T50 bt210.2 0).f0) == 0 && (((rd_T50 bt210.2 0).f1) == 1 && (((rd_T50 bt210.2 0).f2) == 1 && (((rd_T50 bt210.2 0).f3) == 2))))) else (none)) else (none)) else (none))) else (none))) else (none))) = some r:=by first | (rw [hy197];with_reducible exact H) | (have H2_:=(Option.bind_some _ _).symm.trans H;rw [hy197];with_reducible exact H2_) | (have H2_:=(Option.bind_some _ _).symm.trans H;with_reducible exact H2_) | with_reducible exact H | (rw [hy197];exact H) | exact H
 have Ny197:=Aside0.mk hy197
 clear hy197
 replace H:=Option.bind_eq_some_iff.mp H
 obtain ⟨⟨t201,t204⟩,A20,H⟩ := H
 replace H : (if y197.length < 4398046511104 then ((predict_Predict.f k y188 y191 0 0 (y197 ++ [(⟨0,([] : List (S53))⟩ : S30)])).bind fun bt210 => (if (t204.length : Int) = 0 then ((regletref13_SameLists.f k t201 (([(([0,1] : List Int))] : List (List Int)))).bind fun t222 => (if t222 = true then (if (bt210.2.length : Int) = 1 then (if 0 < (bt210.2.length : Int) then (some (((rd_T50 bt210.2 0).f0) == 0 && (((rd_T50 bt210.2 0).f1) == 1 && (((rd_T50 bt210.2 0).f2) == 1 && (((rd_T50 bt210.2 0).f3) == 2))))) else (none)) else (none)) else (none))) else (none))) else (none)) = some r:=H
 have A2:=Aside0.mk A20
 clear A20
 by_cases c3 : y197.length < 4398046511104
 rotate_left
 · rw [if_neg c3] at H
   exact absurd H (by simp)
 rw [if_pos c3] at H
 have LMc3:=Aside0.mk c3
 clear c3
 obtain ⟨y207,hy207⟩ : ∃ y_ : List (S30),y_ = (y197 ++ [(⟨0,([] : List (S53))⟩ : S30)]) := ⟨_,rfl⟩
 replace H : ((predict_Predict.f k y188 y191 0 0 y207).bind fun bt210 => (if (t204.length : Int) = 0 then ((regletref13_SameLists.f k t201 (([(([0,1] : List Int))] : List (List Int)))).bind fun t222 => (if t222 = true then (if (bt210.2.length : Int) = 1 then (if 0 < (bt210.2.length : Int) then (some (((rd_T50 bt210.2 0).f0) == 0 && (((rd_T50 bt210.2 0).f1) == 1 && (((rd_T50 bt210.2 0).f2) == 1 && (((rd_T50 bt210.2 0).f3) == 2))))) else (none)) else (none)) else (none))) else (none))) = some r:=by first | (rw [hy207];with_reducible exact H) | (have H2_:=(Option.bind_some _ _).symm.trans H;rw [hy207];with_reducible exact H2_) | (have H2_:=(Option.bind_some _ _).symm.trans H;with_reducible exact H2_) | with_reducible exact H | (rw [hy207];exact H) | exact H
 have Ny207:=Aside0.mk hy207
 clear hy207
 replace H:=Option.bind_eq_some_iff.mp H
 obtain ⟨⟨t210,t213⟩,A40,H⟩ := H
 replace H : (if (t204.length : Int) = 0 then ((regletref13_SameLists.f k t201 (([(([0,1] : List Int))] : List (List Int)))).bind fun t222 => (if t222 = true then (if (t213.length : Int) = 1 then (if 0 < (t213.length : Int) then (some (((rd_T50 t213 0).f0) == 0 && (((rd_T50 t213 0).f1) == 1 && (((rd_T50 t213 0).f2) == 1 && (((rd_T50 t213 0).f3) == 2))))) else (none)) else (none)) else (none))) else (none)) = some r:=H
 have A4:=Aside0.mk A40
 clear A40
 by_cases c5 : (t204.length : Int) = 0
 rotate_left
 · rw [if_neg c5] at H
   exact absurd H (by simp)
 rw [if_pos c5] at H
 have c5b0 : ((t204.length : Int) == 0) = true:=beq_iff_eq.mpr c5
 have c5b1 : ((t204.length : Int) != 0) = false:=bne_eq_false_iff_eq.mpr c5
 clear c5
 obtain ⟨y216,hy216⟩ : ∃ y_ : List Int,y_ = (([0,1] : List Int)) := ⟨_,rfl⟩
 replace H : ((regletref13_SameLists.f k t201 (([y216] : List (List Int)))).bind fun t222 => (if t222 = true then (if (t213.length : Int) = 1 then (if 0 < (t213.length : Int) then (some (((rd_T50 t213 0).f0) == 0 && (((rd_T50 t213 0).f1) == 1 && (((rd_T50 t213 0).f2) == 1 && (((rd_T50 t213 0).f3) == 2))))) else (none)) else (none)) else (none))) = some r:=by first | (rw [hy216];with_reducible exact H) | (have H2_:=(Option.bind_some _ _).symm.trans H;rw [hy216];with_reducible exact H2_) | (have H2_:=(Option.bind_some _ _).symm.trans H;with_reducible exact H2_) | with_reducible exact H | (rw [hy216];exact H) | exact H
 have Ny216:=Aside0.mk hy216
 clear hy216
 obtain ⟨y219,hy219⟩ : ∃ y_ : List (List Int),y_ = (([y216] : List (List Int))) := ⟨_,rfl⟩
 replace H : ((regletref13_SameLists.f k t201 y219).bind fun t222 => (if t222 = true then (if (t213.length : Int) = 1 then (if 0 < (t213.length : Int) then (some (((rd_T50 t213 0).f0) == 0 && (((rd_T50 t213 0).f1) == 1 && (((rd_T50 t213 0).f2) == 1 && (((rd_T50 t213 0).f3) == 2))))) else (none)) else (none)) else (none))) = some r:=by first | (rw [hy219];with_reducible exact H) | (have H2_:=(Option.bind_some _ _).symm.trans H;rw [hy219];with_reducible exact H2_) | (have H2_:=(Option.bind_some _ _).symm.trans H;with_reducible exact H2_) | with_reducible exact H | (rw [hy219];exact H) | exact H
 have Ny219:=Aside0.mk hy219
 clear hy219
 replace H:=Option.bind_eq_some_iff.mp H
 obtain ⟨t222,A60,H⟩ := H
 replace H : (if t222 = true then (if (t213.length : Int) = 1 then (if 0 < (t213.length : Int) then (some (((rd_T50 t213 0).f0) == 0 && (((rd_T50 t213 0).f1) == 1 && (((rd_T50 t213 0).f2) == 1 && (((rd_T50 t213 0).f3) == 2))))) else (none)) else (none)) else (none)) = some r:=H
 have A6:=Aside0.mk A60
 clear A60
 by_cases c7 : t222 = true
 · subst c7
   have H1 : (if (t213.length : Int) = 1 then (if 0 < (t213.length : Int) then (some (((rd_T50 t213 0).f0) == 0 && (((rd_T50 t213 0).f1) == 1 && (((rd_T50 t213 0).f2) == 1 && (((rd_T50 t213 0).f3) == 2))))) else (none)) else (none)) = some r:=by rw [if_pos rfl] at H;exact H
   clear H
   have H:=H1
   clear H1
   by_cases c8 : (t213.length : Int) = 1
   rotate_left
   · rw [if_neg c8] at H
     exact absurd H (by simp)
   rw [if_pos c8] at H
   have c8b0 : ((t213.length : Int) == 1) = true:=beq_iff_eq.mpr c8
   have c8b1 : ((t213.length : Int) != 1) = false:=bne_eq_false_iff_eq.mpr c8
   clear c8
   by_cases c9 : 0 < (t213.length : Int)
   rotate_left
   · rw [if_neg c9] at H
     exact absurd H (by simp)
   rw [if_pos c9] at H
   have c9b0 : decide (0 < (t213.length : Int)) = true:=decide_eq_true c9
   have c9b1 : decide (0 < t213.length) = true:=decide_eq_true (by omega)
   clear c9
   obtain rfl:=Option.some.inj H
   go_enter Try.func9,Try.ntmps9
   go_wp2_with (first | ((with_reducible refine gate_dst (N:=6) rfl ?_);(try (refine gate_guard (by rfl) ?_;dsimp only));refine Kd.R_lit Kd.string _ 9 ?hg (N:=6) ?hd (xs:=([(⟨#[97]⟩ : ByteArray)] : List ByteArray)) (inner := [.string (⟨#[97]⟩ : ByteArray)]) (ok:=fun _ => True) (okp:=fun _ => True) ?hr ?hp (fun _ hk => hk) trivial (Below.refl _ _) (Nat.le_refl _) (by simp) ?_;(case hd => rfl);(case hg => rfl);(case hr => first | (go_simp;done) | (go_simp;rfl));(case hp => exact (Reps.one (show Kd.M Kd.string _ _ _ (⟨#[97]⟩ : ByteArray) [.string (⟨#[97]⟩ : ByteArray)] from rfl) (Reps.none _ _)));intro v189 w10 ho11 hb hg_ hnew_;clear hg_ hnew_;(first | rw [← Ny188.out] at ho11 | (simp only [Int.reduceToNat] at ho11;rw [← Ny188.out] at ho11));have n0_:=Aside0.mk (Kd.R_lower ho11 (below_size (by repeat (first | (with_reducible first | exact HB.out | apply below_alloc | apply pw_below_drewN | apply below_drew1) | exact HB.out))));have n1_:=Aside0.mk (below_step (by repeat (first | (with_reducible first | exact HB.out | apply below_alloc | apply pw_below_drewN | apply below_drew1) | exact HB.out)) hb);clear HB;have HO190:=n0_;have HB:=n1_;clear n0_ n1_;clear hb ho11) | ((with_reducible refine gate_dst (N:=7) rfl ?_);(try (refine gate_guard (by rfl) ?_;dsimp only));refine Kd.N_make k61 _ 61 rfl (N' := 7) rfl 23 _ _ rfl 1 rfl rfl Try.underlying23 (.agg #[(.string ⟨#[]⟩),(.int .i64 0),(.string ⟨#[]⟩),(.slice none 0 0),(.int .i64 0),(.int .i64 0),(.slice none 0 0)]) 104 info61 rfl (by decide) (by omega) z61 (ok:=fun k_ => w10.heap.size ≤ k_) (okp:=fun _ => False) (k61_mkF _ _ z61 (Nat.le_refl _) (Kd.F_nil _ _ _) (Nat.le_refl _) (Kd.F_nil _ _ _)) (fun _ hk => hk.elim) (Nat.le_refl _) (by omega) (by omega) (Below.refl _ _) (Nat.le_refl _) ?_;intro v192 w12 ho13 hb hg_ hnew_;clear hg_ hnew_;(first | rw [← Ny191.out] at ho13 | (simp only [Int.reduceToNat] at ho13;rw [← Ny191.out] at ho13));have n0_:=Aside0.mk (Kd.R_below (by (with_reducible repeat (first | apply Kd.R_alloc | apply Kd.R_drewN | apply Kd.R_drew));exact HO190.out) hb);have n1_:=Aside0.mk (Kd.N_lower (Kd.N_mono (ok' := fun k_ => some k_ ≠ (v189 : Value).ownBlock) ho13 (fun k_ hk_ => (Kd.fresh' (Kd.R_lt (by (with_reducible repeat (first | apply Kd.R_alloc | apply Kd.R_drewN | apply Kd.R_drew));exact HO190.out)) k_ hk_))) (below_size (by repeat (first | (with_reducible first | exact HB.out | apply below_alloc | apply pw_below_drewN | apply below_drew1) | exact HB.out))));have n2_:=Aside0.mk (below_step (by repeat (first | (with_reducible first | exact HB.out | apply below_alloc | apply pw_below_drewN | apply below_drew1) | exact HB.out)) hb);clear HO190;clear HB;have HO190:=n0_;have HO193:=n1_;have HB:=n2_;clear n0_ n1_ n2_;clear hb ho13) | ((with_reducible refine gate_dst (N:=10) rfl ?_);(try (refine gate_guard (by rfl) ?_;dsimp only));refine Kd.R_lit k53 _ 53 ?hg (N:=10) ?hd (xs:=([(⟨true,0⟩ : S53),(⟨false,0⟩ : S53)] : List (S53))) (inner := [.bool true,.int .i64 0,.bool false,.int .i64 0]) (ok:=fun _ => True) (okp:=fun _ => True) ?hr ?hp (fun _ hk => hk) trivial (Below.refl _ _) (Nat.le_refl _) (by simp) ?_;(case hd => rfl);(case hg => rfl);(case hr => first | (go_simp;done) | (go_simp;rfl));(case hp => exact (Reps.c2 (show Kd.M k53 _ _ _ (⟨true,0⟩ : S53) [.bool true,.int .i64 0] from (k53_mkM _ _ _ (⟨true,0⟩ : S53) )) (Reps.c2 (show Kd.M k53 _ _ _ (⟨false,0⟩ : S53) [.bool false,.int .i64 0] from (k53_mkM _ _ _ (⟨false,0⟩ : S53) )) (Reps.none _ _))));intro v195 w14 ho15 hb hg_ hnew_;clear hg_ hnew_;(first | rw [← Ny194.out] at ho15 | (simp only [Int.reduceToNat] at ho15;rw [← Ny194.out] at ho15));have n0_:=Aside0.mk (Kd.R_below (by (with_reducible repeat (first | apply Kd.R_alloc | apply Kd.R_drewN | apply Kd.R_drew));exact HO190.out) hb);have n1_:=Aside0.mk (Kd.N_elder' (by (with_reducible repeat (first | apply Kd.N_alloc | apply Kd.N_drewN | apply Kd.N_drew));exact HO193.out) (Kd.R_base ho15) hb);have n2_:=Aside0.mk (Kd.R_lower ho15 (below_size (by repeat (first | (with_reducible first | exact HB.out | apply below_alloc | apply pw_below_drewN | apply below_drew1) | exact HB.out))));have n3_:=Aside0.mk (below_step (by repeat (first | (with_reducible first | exact HB.out | apply below_alloc | apply pw_below_drewN | apply below_drew1) | exact HB.out)) hb);clear HO190;clear HO193;clear HB;have HO190:=n0_;have HO193:=n1_;have HO196:=n2_;have HB:=n3_;clear n0_ n1_ n2_ n3_;clear hb ho15;obtain ⟨Ao16,co16,eo16⟩ := Kd.R_slice HO196.out;subst eo16) | ((with_reducible refine gate_dst (N:=13) rfl ?_);(try (refine gate_guard (by rfl) ?_;dsimp only));refine Kd.N_lit k30 _ 30 ?hg (N' := 13) ?hd (xs:=([(⟨0,y194⟩ : S30),(⟨0,([] : List (S53))⟩ : S30)] : List (S30))) (inner := [.int .i64 0,.slice Ao16 y194.length co16,.int .i64 0,.slice none 0 0]) (ok:=(fun k_ => some k_ ≠ (v189 : Value).ownBlock ∧ some k_ ≠ (v192 : Value).ownBlock)) (okp:=(fun k_ => some k_ ≠ (v189 : Value).ownBlock ∧ some k_ ≠ (v192 : Value).ownBlock)) ?hr ?hp (fun _ hk => hk) ((show ∀ k_,w14.heap.size ≤ k_ → (fun k_ => some k_ ≠ (v189 : Value).ownBlock ∧ some k_ ≠ (v192 : Value).ownBlock) k_ from fun k_ hk => ⟨Kd.fresh' (Kd.R_lt (by (with_reducible repeat (first | apply Kd.R_alloc | apply Kd.R_drewN | apply Kd.R_drew));exact HO190.out)) k_ hk,Kd.fresh' (Kd.N_lt (by (with_reducible repeat (first | apply Kd.N_alloc | apply Kd.N_drewN | apply Kd.N_drew));exact HO193.out)) k_ hk⟩) _ (Nat.le_refl _)) (Below.refl _ _) (Nat.le_refl _) (by simp) ?_;(case hd => rfl);(case hg => rfl);(case hr => first | (go_simp;done) | (go_simp;rfl));(case hp => exact (Reps.c2 (show Kd.FK k30 _ _ (⟨0,y194⟩ : S30) [.int .i64 0,.slice Ao16 y194.length co16] from (k30_mkF _ _ (⟨0,y194⟩ : S30) (Kd.R_reads' (Kd.R_mono (ok' := (fun k_ => some k_ ≠ (v189 : Value).ownBlock ∧ some k_ ≠ (v192 : Value).ownBlock)) (Kd.R_apart' (Kd.R_apart' (HO196.out) (Kd.R_typed HO190.out) (by decide)) (Kd.N_typed HO193.out) (by decide)) (fun k_ hk => ⟨hk.1.2,hk.2⟩))).2.1 (Kd.R_F (Kd.R_mono (ok' := (fun k_ => some k_ ≠ (v189 : Value).ownBlock ∧ some k_ ≠ (v192 : Value).ownBlock)) (Kd.R_apart' (Kd.R_apart' (HO196.out) (Kd.R_typed HO190.out) (by decide)) (Kd.N_typed HO193.out) (by decide)) (fun k_ hk => ⟨hk.1.2,hk.2⟩))))) (Reps.c2 (show Kd.FK k30 _ _ (⟨0,([] : List (S53))⟩ : S30) [.int .i64 0,.slice none 0 0] from (k30_mkF _ _ (⟨0,([] : List (S53))⟩ : S30) (Nat.le_refl _) (Kd.F_nil _ _ _))) (Reps.none _ _))));intro v198 w17 ho18 hb hg_ hnew_;clear hg_ hnew_;(first | rw [← Ny197.out] at ho18 | (simp only [Int.reduceToNat] at ho18;rw [← Ny197.out] at ho18));have n0_:=Aside0.mk (Kd.R_below (by (with_reducible repeat (first | apply Kd.R_alloc | apply Kd.R_drewN | apply Kd.R_drew));exact HO190.out) hb);have n1_:=Aside0.mk (Kd.N_elder' (by (with_reducible repeat (first | apply Kd.N_alloc | apply Kd.N_drewN | apply Kd.N_drew));exact HO193.out) (Kd.N_base ho18) hb);have n2_:=Aside0.mk (Kd.N_lower ho18 (below_size (by repeat (first | (with_reducible first | exact HB.out | apply below_alloc | apply pw_below_drewN | apply below_drew1) | exact HB.out))));have n3_:=Aside0.mk (below_step (by repeat (first | (with_reducible first | exact HB.out | apply below_alloc | apply pw_below_drewN | apply below_drew1) | exact HB.out)) hb);clear HO190;clear HO193;clear HB;clear HO196;have HO190:=n0_;have HO193:=n1_;have HO199:=n2_;have HB:=n3_;clear n0_ n1_ n2_ n3_;clear hb ho18;obtain ⟨Ao19,co19,eo19⟩ := Kd.N_slice HO199.out;subst eo19;obtain ⟨Ao20,co20,eo20⟩ := Kd.N_slice HO193.out;subst eo20;obtain ⟨Ao21,co21,eo21⟩ := Kd.R_slice HO190.out;subst eo21) | ((with_reducible refine gate_dst (N:=1) rfl ?_);(try (refine gate_guard (by rfl) ?_;dsimp only));refine box_event ?hg (N:=1) ?hd (cs:=#[.slice none 0 0,.slice none 0 0,.int .i64 0,.int .i64 0,.slice none 0 0]) (t:=26) ?hr ?_;(case hd => rfl);(case hg => rfl);(case hr => first | (go_simp;done) | (go_simp;rfl));intro gb200 hg w22 hbox hb;have n0_:=Aside0.mk (Kd.R_below (by (with_reducible repeat (first | apply Kd.R_alloc | apply Kd.R_drewN | apply Kd.R_drew));exact HO190.out) hb);have n1_:=Aside0.mk (Kd.N_below (Kd.N_elderB (by (with_reducible repeat (first | apply Kd.N_alloc | apply Kd.N_drewN | apply Kd.N_drew));exact HO193.out) gb200 (Nat.le_of_eq hg.symm)) hb);have n2_:=Aside0.mk (Kd.N_below (Kd.N_elderB (by (with_reducible repeat (first | apply Kd.N_alloc | apply Kd.N_drewN | apply Kd.N_drew));exact HO199.out) gb200 (Nat.le_of_eq hg.symm)) hb);have n3_:=Aside0.mk (below_step (by repeat (first | (with_reducible first | exact HB.out | apply below_alloc | apply pw_below_drewN | apply below_drew1) | exact HB.out)) hb);have n4_:=Aside0.mk (hbox);have n5_:=Aside0.mk ((by rw [hg];exact (below_size (by repeat (first | (with_reducible first | exact HB.out | apply below_alloc | apply pw_below_drewN | apply below_drew1) | exact HB.out))) : w.heap.size ≤ gb200));have n6_:=Aside0.mk ((by rw [hg];exact (below_size (by repeat (first | (with_reducible first | exact HB.out | apply below_alloc | apply pw_below_drewN | apply below_drew1) | exact HB.out))) : w.heap.size ≤ gb200));clear HO190;clear HO193;clear HO199;clear HB;have HO190:=n0_;have HO193:=n1_;have HO199:=n2_;have HB:=n3_;have BK200:=n4_;have GW200:=n5_;have GE200:=n6_;clear n0_ n1_ n2_ n3_ n4_ n5_ n6_;clear hb hbox hg;have hcz23_0 : w22.cell? ⟨gb200,0,none⟩ = some (.slice none 0 0) := (blk_cell BK200.out 0).trans rfl;have hcz23_1 : w22.cell? ⟨gb200,1,none⟩ = some (.slice none 0 0) := (blk_cell BK200.out 1).trans rfl;have hcz23_2 : w22.cell? ⟨gb200,2,none⟩ = some (.int .i64 0) := (blk_cell BK200.out 2).trans rfl;have hcz23_3 : w22.cell? ⟨gb200,3,none⟩ = some (.int .i64 0) := (blk_cell BK200.out 3).trans rfl;have hcz23_4 : w22.cell? ⟨gb200,4,none⟩ = some (.slice none 0 0) := (blk_cell BK200.out 4).trans rfl;have hfz23_0:=blk_frozen BK200.out 0;have hfz23_1:=blk_frozen BK200.out 1;have hfz23_2:=blk_frozen BK200.out 2;have hfz23_3:=blk_frozen BK200.out 3;have hfz23_4:=blk_frozen BK200.out 4) | ((with_reducible refine gate_callee (f:=13) rfl ?_);refine goesL_ (some 17) rfl rfl Try.func13 (by kernel_rfl) rfl #[.agg #[.slice Ao21 y188.length co21,.slice Ao20 y191.length co20,.int .i64 0,.int .i64 0,.slice Ao19 y197.length co19]] rfl (by (try simp only [List.map_toArray,List.map_cons,List.map_nil]);first | done | rfl | (simp only [List.length_drop,List.length_take];rfl)) ?_;(with_reducible refine (predict_Predict.calls k _ _ y188 _ _ y191 0 0 _ _ y197 t201 t204 _ ?side1 ?side2 ?side3 ?side4 ?side5 ?side6 A2.out).mono ?_);(case side1 => refine (Kd.R_reads' (e:=9) (base:=w.heap.size) (ok:=fun k_ => True) (n:=y188.length) (c:=co21) ?_).2.2;exact (by (with_reducible repeat (first | apply Kd.R_alloc | apply Kd.R_drewN | apply Kd.R_drew));exact (Kd.R_mono (Kd.R_far (p:=⟨gb200,4,none⟩) (Kd.R_far (p:=⟨gb200,3,none⟩) (Kd.R_far (p:=⟨gb200,2,none⟩) (Kd.R_far (p:=⟨gb200,1,none⟩) (Kd.R_far (p:=⟨gb200,0,none⟩) (Kd.R_types HO190.out BK200.out (by decide)) (fun _ hk => hk.2) (.slice Ao21 y188.length co21)) (fun _ hk => hk.2) (.slice Ao20 y191.length co20)) (fun _ hk => hk.2) (.int .i64 0)) (fun _ hk => hk.2) (.int .i64 0)) (fun _ hk => hk.2) (.slice Ao19 y197.length co19)) (fun _ h_ => h_.1))));(case side2 => exact (Kd.R_reads' HO190.out).2.1);(case side3 => exact (Kd.N_reads' (Kd.N_mono (Kd.N_far (p:=⟨gb200,4,none⟩) (Kd.N_far (p:=⟨gb200,3,none⟩) (Kd.N_far (p:=⟨gb200,2,none⟩) (Kd.N_far (p:=⟨gb200,1,none⟩) (Kd.N_far (p:=⟨gb200,0,none⟩) (Kd.N_mono HO193.out (fun k_ hk => (⟨hk,hk.2⟩ : _ ∧ k_ ≠ gb200))) (fun _ hk => hk.2) (.slice Ao21 y188.length co21)) (fun _ hk => hk.2) (.slice Ao20 y191.length co20)) (fun _ hk => hk.2) (.int .i64 0)) (fun _ hk => hk.2) (.int .i64 0)) (fun _ hk => hk.2) (.slice Ao19 y197.length co19)) (fun _ h_ => h_.1))).2.2);(case side4 => exact (Kd.N_reads' HO193.out).2.1);(case side5 => refine (Kd.N_reads' (e:=30) (base:=w.heap.size) (ok:=fun k_ => ((some k_ ≠ (.slice Ao21 y188.length co21 : Value).ownBlock ∧ some k_ ≠ (.slice Ao20 y191.length co20 : Value).ownBlock) ∧ k_ ≠ gb200)) (n:=y197.length) (c:=co19) ?_).2.2;exact (by (with_reducible repeat (first | apply Kd.N_alloc | apply Kd.N_drewN | apply Kd.N_drew));exact (Kd.N_mono (Kd.N_far (p:=⟨gb200,4,none⟩) (Kd.N_far (p:=⟨gb200,3,none⟩) (Kd.N_far (p:=⟨gb200,2,none⟩) (Kd.N_far (p:=⟨gb200,1,none⟩) (Kd.N_far (p:=⟨gb200,0,none⟩) (Kd.N_mono HO199.out (fun k_ hk => (⟨hk,hk.2⟩ : _ ∧ k_ ≠ gb200))) (fun _ hk => hk.2) (.slice Ao21 y188.length co21)) (fun _ hk => hk.2) (.slice Ao20 y191.length co20)) (fun _ hk => hk.2) (.int .i64 0)) (fun _ hk => hk.2) (.int .i64 0)) (fun _ hk => hk.2) (.slice Ao19 y197.length co19)) (fun _ h_ => h_.1))));(case side6 => exact (Kd.N_reads' HO199.out).2.1);rintro e w24 ⟨v202,v205,rfl,ho0,ho1,hb⟩;refine ⟨_,rfl,?_⟩;have n0_:=Aside0.mk (Kd.R_below (by (with_reducible repeat (first | apply Kd.R_alloc | apply Kd.R_drewN | apply Kd.R_drew));exact (Kd.R_mono (Kd.R_far (p:=⟨gb200,4,none⟩) (Kd.R_far (p:=⟨gb200,3,none⟩) (Kd.R_far (p:=⟨gb200,2,none⟩) (Kd.R_far (p:=⟨gb200,1,none⟩) (Kd.R_far (p:=⟨gb200,0,none⟩) (Kd.R_types HO190.out BK200.out (by decide)) (fun _ hk => hk.2) (.slice Ao21 y188.length co21)) (fun _ hk => hk.2) (.slice Ao20 y191.length co20)) (fun _ hk => hk.2) (.int .i64 0)) (fun _ hk => hk.2) (.int .i64 0)) (fun _ hk => hk.2) (.slice Ao19 y197.length co19)) (fun _ h_ => h_.1))) hb);have n1_:=Aside0.mk (Kd.N_mono (Kd.N_told (Kd.N_told (Kd.N_old (by (with_reducible repeat (first | apply Kd.N_alloc | apply Kd.N_drewN | apply Kd.N_drew));exact (Kd.N_mono (Kd.N_far (p:=⟨gb200,4,none⟩) (Kd.N_far (p:=⟨gb200,3,none⟩) (Kd.N_far (p:=⟨gb200,2,none⟩) (Kd.N_far (p:=⟨gb200,1,none⟩) (Kd.N_far (p:=⟨gb200,0,none⟩) (Kd.N_mono HO193.out (fun k_ hk => (⟨hk,hk.2⟩ : _ ∧ k_ ≠ gb200))) (fun _ hk => hk.2) (.slice Ao21 y188.length co21)) (fun _ hk => hk.2) (.slice Ao20 y191.length co20)) (fun _ hk => hk.2) (.int .i64 0)) (fun _ hk => hk.2) (.int .i64 0)) (fun _ hk => hk.2) (.slice Ao19 y197.length co19)) (fun _ h_ => h_.1))) hb) (Kd.N_base (Kd.S_N ho0))) (Kd.R_base ho1)) (fun _ h_ => h_.1));have n2_:=Aside0.mk (Kd.N_mono (Kd.N_told (Kd.N_told (Kd.N_old (by (with_reducible repeat (first | apply Kd.N_alloc | apply Kd.N_drewN | apply Kd.N_drew));exact (Kd.N_mono (Kd.N_far (p:=⟨gb200,4,none⟩) (Kd.N_far (p:=⟨gb200,3,none⟩) (Kd.N_far (p:=⟨gb200,2,none⟩) (Kd.N_far (p:=⟨gb200,1,none⟩) (Kd.N_far (p:=⟨gb200,0,none⟩) (Kd.N_mono HO199.out (fun k_ hk => (⟨hk,hk.2⟩ : _ ∧ k_ ≠ gb200))) (fun _ hk => hk.2) (.slice Ao21 y188.length co21)) (fun _ hk => hk.2) (.slice Ao20 y191.length co20)) (fun _ hk => hk.2) (.int .i64 0)) (fun _ hk => hk.2) (.int .i64 0)) (fun _ hk => hk.2) (.slice Ao19 y197.length co19)) (fun _ h_ => h_.1))) hb) (Kd.N_base (Kd.S_N ho0))) (Kd.R_base ho1)) (fun _ h_ => h_.1));have n3_:=Aside0.mk (Kd.N_lower (Kd.N_mono (ok' := fun k_ => some k_ ≠ (v205 : Value).ownBlock ∧ some k_ ≠ (.slice Ao21 y188.length co21 : Value).ownBlock ∧ some k_ ≠ (.slice Ao20 y191.length co20 : Value).ownBlock ∧ some k_ ≠ (.slice Ao19 y197.length co19 : Value).ownBlock ∧ k_ ≠ gb200) (Kd.S_N (Kd.S_bound (Kd.S_apart' ho0 (Kd.R_typed ho1) (by decide)))) (fun k_ hk_ => ⟨hk_.1.2,(Kd.fresh' (Kd.R_lt (by (with_reducible repeat (first | apply Kd.R_alloc | apply Kd.R_drewN | apply Kd.R_drew));exact (Kd.R_mono (Kd.R_far (p:=⟨gb200,4,none⟩) (Kd.R_far (p:=⟨gb200,3,none⟩) (Kd.R_far (p:=⟨gb200,2,none⟩) (Kd.R_far (p:=⟨gb200,1,none⟩) (Kd.R_far (p:=⟨gb200,0,none⟩) (Kd.R_types HO190.out BK200.out (by decide)) (fun _ hk => hk.2) (.slice Ao21 y188.length co21)) (fun _ hk => hk.2) (.slice Ao20 y191.length co20)) (fun _ hk => hk.2) (.int .i64 0)) (fun _ hk => hk.2) (.int .i64 0)) (fun _ hk => hk.2) (.slice Ao19 y197.length co19)) (fun _ h_ => h_.1)))) k_ hk_.2.1),(Kd.fresh' (Kd.N_lt (by (with_reducible repeat (first | apply Kd.N_alloc | apply Kd.N_drewN | apply Kd.N_drew));exact (Kd.N_mono (Kd.N_far (p:=⟨gb200,4,none⟩) (Kd.N_far (p:=⟨gb200,3,none⟩) (Kd.N_far (p:=⟨gb200,2,none⟩) (Kd.N_far (p:=⟨gb200,1,none⟩) (Kd.N_far (p:=⟨gb200,0,none⟩) (Kd.N_mono HO193.out (fun k_ hk => (⟨hk,hk.2⟩ : _ ∧ k_ ≠ gb200))) (fun _ hk => hk.2) (.slice Ao21 y188.length co21)) (fun _ hk => hk.2) (.slice Ao20 y191.length co20)) (fun _ hk => hk.2) (.int .i64 0)) (fun _ hk => hk.2) (.int .i64 0)) (fun _ hk => hk.2) (.slice Ao19 y197.length co19)) (fun _ h_ => h_.1)))) k_ hk_.2.1),(Kd.fresh' (Kd.N_lt (by (with_reducible repeat (first | apply Kd.N_alloc | apply Kd.N_drewN | apply Kd.N_drew));exact (Kd.N_mono (Kd.N_far (p:=⟨gb200,4,none⟩) (Kd.N_far (p:=⟨gb200,3,none⟩) (Kd.N_far (p:=⟨gb200,2,none⟩) (Kd.N_far (p:=⟨gb200,1,none⟩) (Kd.N_far (p:=⟨gb200,0,none⟩) (Kd.N_mono HO199.out (fun k_ hk => (⟨hk,hk.2⟩ : _ ∧ k_ ≠ gb200))) (fun _ hk => hk.2) (.slice Ao21 y188.length co21)) (fun _ hk => hk.2) (.slice Ao20 y191.length co20)) (fun _ hk => hk.2) (.int .i64 0)) (fun _ hk => hk.2) (.int .i64 0)) (fun _ hk => hk.2) (.slice Ao19 y197.length co19)) (fun _ h_ => h_.1)))) k_ hk_.2.1),(Kd.freshB (g:=gb200) (o := .cells #[.slice Ao21 y188.length co21,.slice Ao20 y191.length co20,.int .i64 0,.int .i64 0,.slice Ao19 y197.length co19] 26 (0,0)) (by (with_reducible repeat (first | refine blk_drewN ?_ _ | refine blk_drew ?_ | refine blk_alloc ?_ _));refine blk_put (cs:=#[.slice Ao21 y188.length co21,.slice Ao20 y191.length co20,.int .i64 0,.int .i64 0,.slice none 0 0]) ?_ 4 _ rfl;(with_reducible repeat (first | refine blk_drewN ?_ _ | refine blk_drew ?_ | refine blk_alloc ?_ _));refine blk_put (cs:=#[.slice Ao21 y188.length co21,.slice Ao20 y191.length co20,.int .i64 0,.int .i64 0,.slice none 0 0]) ?_ 3 _ rfl;(with_reducible repeat (first | refine blk_drewN ?_ _ | refine blk_drew ?_ | refine blk_alloc ?_ _));refine blk_put (cs:=#[.slice Ao21 y188.length co21,.slice Ao20 y191.length co20,.int .i64 0,.int .i64 0,.slice none 0 0]) ?_ 2 _ rfl;(with_reducible repeat (first | refine blk_drewN ?_ _ | refine blk_drew ?_ | refine blk_alloc ?_ _));refine blk_put (cs:=#[.slice Ao21 y188.length co21,.slice none 0 0,.int .i64 0,.int .i64 0,.slice none 0 0]) ?_ 1 _ rfl;(with_reducible repeat (first | refine blk_drewN ?_ _ | refine blk_drew ?_ | refine blk_alloc ?_ _));refine blk_put (cs:=#[.slice none 0 0,.slice none 0 0,.int .i64 0,.int .i64 0,.slice none 0 0]) ?_ 0 _ rfl;(with_reducible repeat (first | refine blk_drewN ?_ _ | refine blk_drew ?_ | refine blk_alloc ?_ _));exact BK200.out) k_ hk_.2.1)⟩)) (below_size (by repeat (first | (with_reducible first | exact HB.out | apply below_alloc | apply pw_below_drewN | apply below_drew1 | refine below_set ?_ GE200.out) | exact HB.out))));have n4_:=Aside0.mk (Kd.R_lower ho1 (below_size (by repeat (first | (with_reducible first | exact HB.out | apply below_alloc | apply pw_below_drewN | apply below_drew1 | refine below_set ?_ GE200.out) | exact HB.out))));have n5_:=Aside0.mk (blk_below (g:=gb200) (o := .cells #[.slice Ao21 y188.length co21,.slice Ao20 y191.length co20,.int .i64 0,.int .i64 0,.slice Ao19 y197.length co19] 26 (0,0)) (by (with_reducible repeat (first | refine blk_drewN ?_ _ | refine blk_drew ?_ | refine blk_alloc ?_ _));refine blk_put (cs:=#[.slice Ao21 y188.length co21,.slice Ao20 y191.length co20,.int .i64 0,.int .i64 0,.slice none 0 0]) ?_ 4 _ rfl;(with_reducible repeat (first | refine blk_drewN ?_ _ | refine blk_drew ?_ | refine blk_alloc ?_ _));refine blk_put (cs:=#[.slice Ao21 y188.length co21,.slice Ao20 y191.length co20,.int .i64 0,.int .i64 0,.slice none 0 0]) ?_ 3 _ rfl;(with_reducible repeat (first | refine blk_drewN ?_ _ | refine blk_drew ?_ | refine blk_alloc ?_ _));refine blk_put (cs:=#[.slice Ao21 y188.length co21,.slice Ao20 y191.length co20,.int .i64 0,.int .i64 0,.slice none 0 0]) ?_ 2 _ rfl;(with_reducible repeat (first | refine blk_drewN ?_ _ | refine blk_drew ?_ | refine blk_alloc ?_ _));refine blk_put (cs:=#[.slice Ao21 y188.length co21,.slice none 0 0,.int .i64 0,.int .i64 0,.slice none 0 0]) ?_ 1 _ rfl;(with_reducible repeat (first | refine blk_drewN ?_ _ | refine blk_drew ?_ | refine blk_alloc ?_ _));refine blk_put (cs:=#[.slice none 0 0,.slice none 0 0,.int .i64 0,.int .i64 0,.slice none 0 0]) ?_ 0 _ rfl;(with_reducible repeat (first | refine blk_drewN ?_ _ | refine blk_drew ?_ | refine blk_alloc ?_ _));exact BK200.out) hb);have n6_:=Aside0.mk (below_step (by repeat (first | (with_reducible first | exact HB.out | apply below_alloc | apply pw_below_drewN | apply below_drew1 | refine below_set ?_ GE200.out) | exact HB.out)) hb);clear HO190;clear HO193;clear HO199;clear BK200;clear HB;have HO190:=n0_;have HO193:=n1_;have HO199:=n2_;have HO203:=n3_;have HO206:=n4_;have BK200:=n5_;have HB:=n6_;clear n0_ n1_ n2_ n3_ n4_ n5_ n6_;(try clear hb);(try clear hb2);(try clear hk);(try clear hi);(try clear ho0);(try clear ho1);have hcz25_0 : w24.cell? ⟨gb200,0,none⟩ = some (.slice Ao21 y188.length co21) := (blk_cell BK200.out 0).trans rfl;have hcz25_1 : w24.cell? ⟨gb200,1,none⟩ = some (.slice Ao20 y191.length co20) := (blk_cell BK200.out 1).trans rfl;have hcz25_2 : w24.cell? ⟨gb200,2,none⟩ = some (.int .i64 0) := (blk_cell BK200.out 2).trans rfl;have hcz25_3 : w24.cell? ⟨gb200,3,none⟩ = some (.int .i64 0) := (blk_cell BK200.out 3).trans rfl;have hcz25_4 : w24.cell? ⟨gb200,4,none⟩ = some (.slice Ao19 y197.length co19) := (blk_cell BK200.out 4).trans rfl;have hfz25_0:=blk_frozen BK200.out 0;have hfz25_1:=blk_frozen BK200.out 1;have hfz25_2:=blk_frozen BK200.out 2;have hfz25_3:=blk_frozen BK200.out 3;have hfz25_4:=blk_frozen BK200.out 4) | ((with_reducible refine gate_builtin (b := .append) (xs:=#[.tmp 21,.tmp 23]) rfl ?_);(try (refine gate_guard (by rfl) ?_;dsimp only));at_builtin;refine Kd.N_append k30 (w0:=w) w.heap.size rfl (.tmp 21) (.tmp 23) 24 30 (.agg #[(.int .i64 0),(.slice none 0 0)]) 32 rfl Try.underlying24 info30 rfl (by decide) (by omega) (.slice Ao19 y197.length co19) y197 (⟨0,([] : List (S53))⟩ : S30) [.int .i64 0,.slice none 0 0] (fun k_ => some k_ ≠ (.slice Ao21 y188.length co21 : Value).ownBlock ∧ some k_ ≠ (.slice Ao20 y191.length co20 : Value).ownBlock ∧ some k_ ≠ (v202 : Value).ownBlock ∧ some k_ ≠ (v205 : Value).ownBlock ∧ k_ ≠ gb200) (fun k_ => ((fun k_ => some k_ ≠ (.slice Ao21 y188.length co21 : Value).ownBlock ∧ some k_ ≠ (.slice Ao20 y191.length co20 : Value).ownBlock ∧ some k_ ≠ (v202 : Value).ownBlock ∧ some k_ ≠ (v205 : Value).ownBlock ∧ k_ ≠ gb200)) k_ ∧ some k_ ≠ (.slice Ao19 y197.length co19 : Value).ownBlock) rfl rfl ?aP (fun _ hk => hk) ?aF ?aO ?aB ?aS ?aL ?_;(case aP => exact (k30_mkF _ _ (⟨0,([] : List (S53))⟩ : S30) (Nat.le_refl _) (Kd.F_nil _ _ _)));(case aB => exact (by repeat (first | (with_reducible first | exact HB.out | apply below_alloc | apply pw_below_drewN | apply below_drew1 | refine below_set ?_ GE200.out) | exact HB.out)));(case aF => exact (fun k_ hk => ⟨Kd.fresh' (Kd.R_lt (by (with_reducible repeat (first | apply Kd.R_alloc | apply Kd.R_drewN | apply Kd.R_drew));exact HO190.out)) k_ hk,Kd.fresh' (Kd.N_lt (by (with_reducible repeat (first | apply Kd.N_alloc | apply Kd.N_drewN | apply Kd.N_drew));exact HO193.out)) k_ hk,Kd.fresh' (Kd.N_lt (by (with_reducible repeat (first | apply Kd.N_alloc | apply Kd.N_drewN | apply Kd.N_drew));exact HO203.out)) k_ hk,Kd.fresh' (Kd.R_lt (by (with_reducible repeat (first | apply Kd.R_alloc | apply Kd.R_drewN | apply Kd.R_drew));exact HO206.out)) k_ hk,Kd.freshB (g:=gb200) (o := .cells #[.slice Ao21 y188.length co21,.slice Ao20 y191.length co20,.int .i64 0,.int .i64 0,.slice Ao19 y197.length co19] 26 (0,0)) (by (with_reducible repeat (first | refine blk_drewN ?_ _ | refine blk_drew ?_ | refine blk_alloc ?_ _));exact BK200.out) k_ hk⟩));(case aO => exact (by (with_reducible repeat (first | apply Kd.N_alloc | apply Kd.N_drewN | apply Kd.N_drew));exact Kd.N_mono HO199.out (fun _ hk => ⟨hk.1.1.1.1,⟨hk.1.1.1.2,⟨hk.1.2,⟨hk.2,hk.1.1.2⟩⟩⟩⟩)));(case aS => exact (below_size (by repeat (first | (with_reducible first | exact HB.out | apply below_alloc | apply pw_below_drewN | apply below_drew1 | refine below_set ?_ GE200.out) | exact HB.out))));(case aL => have:=LMc3.out;omega);intro v208 w26 ho hb hg hat;rw [← Ny207.out] at ho;have n0_:=Aside0.mk (Kd.R_over' (by (with_reducible repeat (first | apply Kd.R_alloc | apply Kd.R_drewN | apply Kd.R_drew));exact HO190.out) (Kd.N_typed (by (with_reducible repeat (first | apply Kd.N_alloc | apply Kd.N_drewN | apply Kd.N_drew));exact HO199.out)) (by decide) hg);have n1_:=Aside0.mk (Kd.N_afterv (ok:=(fun k_ => some k_ ≠ (.slice Ao21 y188.length co21 : Value).ownBlock ∧ some k_ ≠ (v202 : Value).ownBlock ∧ some k_ ≠ (v205 : Value).ownBlock ∧ k_ ≠ gb200)) (by (with_reducible repeat (first | apply Kd.N_alloc | apply Kd.N_drewN | apply Kd.N_drew));exact Kd.N_mono HO193.out (fun _ hk => ⟨⟨hk.1.1.1.1.1,⟨hk.1.2,⟨hk.2,hk.1.1.2⟩⟩⟩,hk.1.1.1.2⟩)) hg hat);have n2_:=Aside0.mk (blk_grown (g:=gb200) (o := .cells #[.slice Ao21 y188.length co21,.slice Ao20 y191.length co20,.int .i64 0,.int .i64 0,.slice Ao19 y197.length co19] 26 (0,0)) (by (with_reducible repeat (first | refine blk_drewN ?_ _ | refine blk_drew ?_ | refine blk_alloc ?_ _));exact BK200.out) hg (Kd.N_ne HO199.out BK200.out (by decide)));have n3_:=Aside0.mk (Kd.N_afterv (ok:=(fun k_ => some k_ ≠ (.slice Ao21 y188.length co21 : Value).ownBlock ∧ some k_ ≠ (.slice Ao20 y191.length co20 : Value).ownBlock ∧ some k_ ≠ (v205 : Value).ownBlock ∧ k_ ≠ gb200)) (by (with_reducible repeat (first | apply Kd.N_alloc | apply Kd.N_drewN | apply Kd.N_drew));exact Kd.N_mono HO203.out (fun _ hk => ⟨⟨hk.2.1,⟨hk.2.2.1,⟨hk.1,hk.2.2.2.2⟩⟩⟩,hk.2.2.2.1⟩)) hg hat);have n4_:=Aside0.mk (Kd.R_over' (by (with_reducible repeat (first | apply Kd.R_alloc | apply Kd.R_drewN | apply Kd.R_drew));exact HO206.out) (Kd.N_typed (by (with_reducible repeat (first | apply Kd.N_alloc | apply Kd.N_drewN | apply Kd.N_drew));exact HO199.out)) (by decide) hg);have n5_:=Aside0.mk (hb);have n6_:=Aside0.mk (ho);clear HO190;clear HO193;clear BK200;clear HO203;clear HO206;clear HB;clear HO199;have HO190:=n0_;have HO193:=n1_;have BK200:=n2_;have HO203:=n3_;have HO206:=n4_;have HB:=n5_;have HO209:=n6_;clear n0_ n1_ n2_ n3_ n4_ n5_ n6_;clear ho hb hg hat;obtain ⟨Ao27,co27,eo27⟩ := Kd.N_slice HO209.out;subst eo27;have hcz28_0 : w26.cell? ⟨gb200,0,none⟩ = some (.slice Ao21 y188.length co21) := (blk_cell BK200.out 0).trans rfl;have hcz28_1 : w26.cell? ⟨gb200,1,none⟩ = some (.slice Ao20 y191.length co20) := (blk_cell BK200.out 1).trans rfl;have hcz28_2 : w26.cell? ⟨gb200,2,none⟩ = some (.int .i64 0) := (blk_cell BK200.out 2).trans rfl;have hcz28_3 : w26.cell? ⟨gb200,3,none⟩ = some (.int .i64 0) := (blk_cell BK200.out 3).trans rfl;have hcz28_4 : w26.cell? ⟨gb200,4,none⟩ = some (.slice Ao19 y197.length co19) := (blk_cell BK200.out 4).trans rfl;have hfz28_0:=blk_frozen BK200.out 0;have hfz28_1:=blk_frozen BK200.out 1;have hfz28_2:=blk_frozen BK200.out 2;have hfz28_3:=blk_frozen BK200.out 3;have hfz28_4:=blk_frozen BK200.out 4) | ((with_reducible refine gate_callee (f:=13) rfl ?_);refine goesL_ (some 28) rfl rfl Try.func13 (by kernel_rfl) rfl #[.agg #[.slice Ao21 y188.length co21,.slice Ao20 y191.length co20,.int .i64 0,.int .i64 0,.slice Ao27 y207.length co27]] rfl (by (try simp only [List.map_toArray,List.map_cons,List.map_nil]);first | done | rfl | (simp only [List.length_drop,List.length_take];rfl)) ?_;(with_reducible refine (predict_Predict.calls k _ _ y188 _ _ y191 0 0 _ _ y207 t210 t213 _ ?side1 ?side2 ?side3 ?side4 ?side5 ?side6 A4.out).mono ?_);(case side1 => refine (Kd.R_reads' (e:=9) (base:=w.heap.size) (ok:=fun k_ => True) (n:=y188.length) (c:=co21) ?_).2.2;exact (by (with_reducible repeat (first | apply Kd.R_alloc | apply Kd.R_drewN | apply Kd.R_drew));exact (Kd.R_mono (Kd.R_far (p:=⟨gb200,4,none⟩) (Kd.R_types HO190.out BK200.out (by decide)) (fun _ hk => hk.2) (.slice Ao27 y207.length co27)) (fun _ h_ => h_.1))));(case side2 => exact (Kd.R_reads' HO190.out).2.1);(case side3 => refine (Kd.N_reads' (e:=61) (base:=w.heap.size) (ok:=fun k_ => ((some k_ ≠ (.slice Ao21 y188.length co21 : Value).ownBlock ∧ (some k_ ≠ (v202 : Value).ownBlock ∧ (some k_ ≠ (v205 : Value).ownBlock ∧ k_ ≠ gb200))) ∧ some k_ ≠ (.slice Ao27 y207.length co27 : Value).ownBlock)) (n:=y191.length) (c:=co20) ?_).2.2;exact (by (with_reducible repeat (first | apply Kd.N_alloc | apply Kd.N_drewN | apply Kd.N_drew));exact (Kd.N_mono (Kd.N_far (p:=⟨gb200,4,none⟩) (Kd.N_mono HO193.out (fun k_ hk => (⟨hk,hk.1.2.2.2⟩ : _ ∧ k_ ≠ gb200))) (fun _ hk => hk.2) (.slice Ao27 y207.length co27)) (fun _ h_ => h_.1))));(case side4 => exact (Kd.N_reads' HO193.out).2.1);(case side5 => refine (Kd.N_reads' (e:=30) (base:=w.heap.size) (ok:=fun k_ => (some k_ ≠ (.slice Ao21 y188.length co21 : Value).ownBlock ∧ (some k_ ≠ (.slice Ao20 y191.length co20 : Value).ownBlock ∧ (some k_ ≠ (v202 : Value).ownBlock ∧ (some k_ ≠ (v205 : Value).ownBlock ∧ k_ ≠ gb200))))) (n:=y207.length) (c:=co27) ?_).2.2;exact (by (with_reducible repeat (first | apply Kd.N_alloc | apply Kd.N_drewN | apply Kd.N_drew));exact (Kd.N_mono (Kd.N_far (p:=⟨gb200,4,none⟩) (Kd.N_mono HO209.out (fun k_ hk => (⟨hk,hk.2.2.2.2⟩ : _ ∧ k_ ≠ gb200))) (fun _ hk => hk.2) (.slice Ao27 y207.length co27)) (fun _ h_ => h_.1))));(case side6 => exact (Kd.N_reads' HO209.out).2.1);rintro e w29 ⟨v211,v214,rfl,ho0,ho1,hb⟩;refine ⟨_,rfl,?_⟩;have n0_:=Aside0.mk (Kd.R_below (by (with_reducible repeat (first | apply Kd.R_alloc | apply Kd.R_drewN | apply Kd.R_drew));exact (Kd.R_mono (Kd.R_far (p:=⟨gb200,4,none⟩) (Kd.R_types HO190.out BK200.out (by decide)) (fun _ hk => hk.2) (.slice Ao27 y207.length co27)) (fun _ h_ => h_.1))) hb);have n1_:=Aside0.mk (Kd.N_mono (Kd.N_told (Kd.N_told (Kd.N_old (by (with_reducible repeat (first | apply Kd.N_alloc | apply Kd.N_drewN | apply Kd.N_drew));exact (Kd.N_mono (Kd.N_far (p:=⟨gb200,4,none⟩) (Kd.N_mono HO193.out (fun k_ hk => (⟨hk,hk.1.2.2.2⟩ : _ ∧ k_ ≠ gb200))) (fun _ hk => hk.2) (.slice Ao27 y207.length co27)) (fun _ h_ => h_.1))) hb) (Kd.N_base (Kd.S_N ho0))) (Kd.R_base ho1)) (fun _ h_ => h_.1));have n2_:=Aside0.mk (Kd.N_mono (Kd.N_told (Kd.N_told (Kd.N_old (by (with_reducible repeat (first | apply Kd.N_alloc | apply Kd.N_drewN | apply Kd.N_drew));exact (Kd.N_mono (Kd.N_far (p:=⟨gb200,4,none⟩) (Kd.N_mono HO203.out (fun k_ hk => (⟨hk,hk.1.2.2.2⟩ : _ ∧ k_ ≠ gb200))) (fun _ hk => hk.2) (.slice Ao27 y207.length co27)) (fun _ h_ => h_.1))) hb) (Kd.N_base (Kd.S_N ho0))) (Kd.R_base ho1)) (fun _ h_ => h_.1));have n3_:=Aside0.mk (Kd.R_elder' (by (with_reducible repeat (first | apply Kd.R_alloc | apply Kd.R_drewN | apply Kd.R_drew));exact (Kd.R_mono (Kd.R_far (p:=⟨gb200,4,none⟩) (Kd.R_types HO206.out BK200.out (by decide)) (fun _ hk => hk.2) (.slice Ao27 y207.length co27)) (fun _ h_ => h_.1))) (Kd.R_base ho1) hb);have n4_:=Aside0.mk (Kd.N_mono (Kd.N_told (Kd.N_told (Kd.N_old (by (with_reducible repeat (first | apply Kd.N_alloc | apply Kd.N_drewN | apply Kd.N_drew));exact (Kd.N_mono (Kd.N_far (p:=⟨gb200,4,none⟩) (Kd.N_mono HO209.out (fun k_ hk => (⟨hk,hk.2.2.2.2⟩ : _ ∧ k_ ≠ gb200))) (fun _ hk => hk.2) (.slice Ao27 y207.length co27)) (fun _ h_ => h_.1))) hb) (Kd.N_base (Kd.S_N ho0))) (Kd.R_base ho1)) (fun _ h_ => h_.1));have n5_:=Aside0.mk (Kd.N_lower (Kd.N_mono (ok' := fun k_ => some k_ ≠ (v214 : Value).ownBlock ∧ some k_ ≠ (.slice Ao21 y188.length co21 : Value).ownBlock ∧ some k_ ≠ (.slice Ao20 y191.length co20 : Value).ownBlock ∧ some k_ ≠ (v202 : Value).ownBlock ∧ some k_ ≠ (v205 : Value).ownBlock ∧ some k_ ≠ (.slice Ao27 y207.length co27 : Value).ownBlock ∧ k_ ≠ gb200) (Kd.S_N (Kd.S_bound (Kd.S_apart' ho0 (Kd.R_typed ho1) (by decide)))) (fun k_ hk_ => ⟨hk_.1.2,(Kd.fresh' (Kd.R_lt (by (with_reducible repeat (first | apply Kd.R_alloc | apply Kd.R_drewN | apply Kd.R_drew));exact (Kd.R_mono (Kd.R_far (p:=⟨gb200,4,none⟩) (Kd.R_types HO190.out BK200.out (by decide)) (fun _ hk => hk.2) (.slice Ao27 y207.length co27)) (fun _ h_ => h_.1)))) k_ hk_.2.1),(Kd.fresh' (Kd.N_lt (by (with_reducible repeat (first | apply Kd.N_alloc | apply Kd.N_drewN | apply Kd.N_drew));exact (Kd.N_mono (Kd.N_far (p:=⟨gb200,4,none⟩) (Kd.N_mono HO193.out (fun k_ hk => (⟨hk,hk.1.2.2.2⟩ : _ ∧ k_ ≠ gb200))) (fun _ hk => hk.2) (.slice Ao27 y207.length co27)) (fun _ h_ => h_.1)))) k_ hk_.2.1),(Kd.fresh' (Kd.N_lt (by (with_reducible repeat (first | apply Kd.N_alloc | apply Kd.N_drewN | apply Kd.N_drew));exact (Kd.N_mono (Kd.N_far (p:=⟨gb200,4,none⟩) (Kd.N_mono HO203.out (fun k_ hk => (⟨hk,hk.1.2.2.2⟩ : _ ∧ k_ ≠ gb200))) (fun _ hk => hk.2) (.slice Ao27 y207.length co27)) (fun _ h_ => h_.1)))) k_ hk_.2.1),(Kd.fresh' (Kd.R_lt (by (with_reducible repeat (first | apply Kd.R_alloc | apply Kd.R_drewN | apply Kd.R_drew));exact (Kd.R_mono (Kd.R_far (p:=⟨gb200,4,none⟩) (Kd.R_types HO206.out BK200.out (by decide)) (fun _ hk => hk.2) (.slice Ao27 y207.length co27)) (fun _ h_ => h_.1)))) k_ hk_.2.1),(Kd.fresh' (Kd.N_lt (by (with_reducible repeat (first | apply Kd.N_alloc | apply Kd.N_drewN | apply Kd.N_drew));exact (Kd.N_mono (Kd.N_far (p:=⟨gb200,4,none⟩) (Kd.N_mono HO209.out (fun k_ hk => (⟨hk,hk.2.2.2.2⟩ : _ ∧ k_ ≠ gb200))) (fun _ hk => hk.2) (.slice Ao27 y207.length co27)) (fun _ h_ => h_.1)))) k_ hk_.2.1),(Kd.freshB (g:=gb200) (o := .cells #[.slice Ao21 y188.length co21,.slice Ao20 y191.length co20,.int .i64 0,.int .i64 0,.slice Ao27 y207.length co27] 26 (0,0)) (by (with_reducible repeat (first | refine blk_drewN ?_ _ | refine blk_drew ?_ | refine blk_alloc ?_ _));refine blk_put (cs:=#[.slice Ao21 y188.length co21,.slice Ao20 y191.length co20,.int .i64 0,.int .i64 0,.slice Ao19 y197.length co19]) ?_ 4 _ rfl;(with_reducible repeat (first | refine blk_drewN ?_ _ | refine blk_drew ?_ | refine blk_alloc ?_ _));exact BK200.out) k_ hk_.2.1)⟩)) (below_size (by repeat (first | (with_reducible first | exact HB.out | apply below_alloc | apply pw_below_drewN | apply below_drew1 | refine below_set ?_ GE200.out) | exact HB.out))));have n6_:=Aside0.mk (Kd.R_lower (Kd.R_new' ho1 (Kd.R_lt (by (with_reducible repeat (first | apply Kd.R_alloc | apply Kd.R_drewN | apply Kd.R_drew));exact (Kd.R_mono (Kd.R_far (p:=⟨gb200,4,none⟩) (Kd.R_types HO206.out BK200.out (by decide)) (fun _ hk => hk.2) (.slice Ao27 y207.length co27)) (fun _ h_ => h_.1))))) (below_size (by repeat (first | (with_reducible first | exact HB.out | apply below_alloc | apply pw_below_drewN | apply below_drew1 | refine below_set ?_ GE200.out) | exact HB.out))));have n7_:=Aside0.mk (blk_below (g:=gb200) (o := .cells #[.slice Ao21 y188.length co21,.slice Ao20 y191.length co20,.int .i64 0,.int .i64 0,.slice Ao27 y207.length co27] 26 (0,0)) (by (with_reducible repeat (first | refine blk_drewN ?_ _ | refine blk_drew ?_ | refine blk_alloc ?_ _));refine blk_put (cs:=#[.slice Ao21 y188.length co21,.slice Ao20 y191.length co20,.int .i64 0,.int .i64 0,.slice Ao19 y197.length co19]) ?_ 4 _ rfl;(with_reducible repeat (first | refine blk_drewN ?_ _ | refine blk_drew ?_ | refine blk_alloc ?_ _));exact BK200.out) hb);have n8_:=Aside0.mk (below_step (by repeat (first | (with_reducible first | exact HB.out | apply below_alloc | apply pw_below_drewN | apply below_drew1 | refine below_set ?_ GE200.out) | exact HB.out)) hb);clear HO190;clear HO193;clear HO203;clear HO206;clear HO209;clear BK200;clear HB;have HO190:=n0_;have HO193:=n1_;have HO203:=n2_;have HO206:=n3_;have HO209:=n4_;have HO212:=n5_;have HO215:=n6_;have BK200:=n7_;have HB:=n8_;clear n0_ n1_ n2_ n3_ n4_ n5_ n6_ n7_ n8_;(try clear hb);(try clear hb2);(try clear hk);(try clear hi);(try clear ho0);(try clear ho1);obtain ⟨Ao30,co30,eo30⟩ := Kd.R_slice HO206.out;subst eo30) | ((with_reducible refine gate_dst (N:=36) rfl ?_);(try (refine gate_guard (by rfl) ?_;dsimp only));refine Kd.R_lit (Kd.int .i64) _ 3 ?hg (N:=36) ?hd (xs:=([0,1] : List Int)) (inner := [.int .i64 0,.int .i64 1]) (ok:=fun _ => True) (okp:=fun _ => True) ?hr ?hp (fun _ hk => hk) trivial (Below.refl _ _) (Nat.le_refl _) (by simp) ?_;(case hd => rfl);(case hg => rfl);(case hr => first | (go_simp;done) | (go_simp;rfl));(case hp => exact (Reps.one (show Kd.M (Kd.int .i64) _ _ _ 0 [.int .i64 0] from rfl) (Reps.one (show Kd.M (Kd.int .i64) _ _ _ 1 [.int .i64 1] from rfl) (Reps.none _ _))));intro v217 w31 ho32 hb hg_ hnew_;clear hg_ hnew_;(first | rw [← Ny216.out] at ho32 | (simp only [Int.reduceToNat] at ho32;rw [← Ny216.out] at ho32));have n0_:=Aside0.mk (Kd.R_below (by (with_reducible repeat (first | apply Kd.R_alloc | apply Kd.R_drewN | apply Kd.R_drew));exact HO190.out) hb);have n1_:=Aside0.mk (Kd.N_elder' (by (with_reducible repeat (first | apply Kd.N_alloc | apply Kd.N_drewN | apply Kd.N_drew));exact HO193.out) (Kd.R_base ho32) hb);have n2_:=Aside0.mk (Kd.N_elder' (by (with_reducible repeat (first | apply Kd.N_alloc | apply Kd.N_drewN | apply Kd.N_drew));exact HO203.out) (Kd.R_base ho32) hb);have n3_:=Aside0.mk (Kd.R_below (by (with_reducible repeat (first | apply Kd.R_alloc | apply Kd.R_drewN | apply Kd.R_drew));exact HO206.out) hb);have n4_:=Aside0.mk (Kd.N_elder' (by (with_reducible repeat (first | apply Kd.N_alloc | apply Kd.N_drewN | apply Kd.N_drew));exact HO209.out) (Kd.R_base ho32) hb);have n5_:=Aside0.mk (Kd.N_elder' (by (with_reducible repeat (first | apply Kd.N_alloc | apply Kd.N_drewN | apply Kd.N_drew));exact HO212.out) (Kd.R_base ho32) hb);have n6_:=Aside0.mk (Kd.R_below (by (with_reducible repeat (first | apply Kd.R_alloc | apply Kd.R_drewN | apply Kd.R_drew));exact HO215.out) hb);have n7_:=Aside0.mk (Kd.R_lower ho32 (below_size (by repeat (first | (with_reducible first | exact HB.out | apply below_alloc | apply pw_below_drewN | apply below_drew1 | refine below_set ?_ GE200.out) | exact HB.out))));have n8_:=Aside0.mk (blk_below (g:=gb200) (o := .cells #[.slice Ao21 y188.length co21,.slice Ao20 y191.length co20,.int .i64 0,.int .i64 0,.slice Ao27 y207.length co27] 26 (0,0)) (by (with_reducible repeat (first | refine blk_drewN ?_ _ | refine blk_drew ?_ | refine blk_alloc ?_ _));exact BK200.out) hb);have n9_:=Aside0.mk (below_step (by repeat (first | (with_reducible first | exact HB.out | apply below_alloc | apply pw_below_drewN | apply below_drew1 | refine below_set ?_ GE200.out) | exact HB.out)) hb);clear HO190;clear HO193;clear HO203;clear HO206;clear HO209;clear HO212;clear HO215;clear BK200;clear HB;have HO190:=n0_;have HO193:=n1_;have HO203:=n2_;have HO206:=n3_;have HO209:=n4_;have HO212:=n5_;have HO215:=n6_;have HO218:=n7_;have BK200:=n8_;have HB:=n9_;clear n0_ n1_ n2_ n3_ n4_ n5_ n6_ n7_ n8_ n9_;clear hb ho32;obtain ⟨Ao33,co33,eo33⟩ := Kd.R_slice HO218.out;subst eo33) | ((with_reducible refine gate_dst (N:=37) rfl ?_);(try (refine gate_guard (by rfl) ?_;dsimp only));refine Kd.N_lit (Kd.slice 3 (Kd.int .i64)) _ 43 ?hg (N' := 37) ?hd (xs:=([y216] : List (List Int))) (inner := [.slice Ao33 y216.length co33]) (ok:=(fun k_ => some k_ ≠ (.slice Ao21 y188.length co21 : Value).ownBlock ∧ some k_ ≠ (.slice Ao20 y191.length co20 : Value).ownBlock ∧ some k_ ≠ (v202 : Value).ownBlock ∧ some k_ ≠ (.slice Ao30 t204.length co30 : Value).ownBlock ∧ some k_ ≠ (.slice Ao27 y207.length co27 : Value).ownBlock ∧ some k_ ≠ (v211 : Value).ownBlock ∧ some k_ ≠ (v214 : Value).ownBlock ∧ k_ ≠ gb200)) (okp:=(fun k_ => some k_ ≠ (.slice Ao21 y188.length co21 : Value).ownBlock ∧ some k_ ≠ (.slice Ao20 y191.length co20 : Value).ownBlock ∧ some k_ ≠ (v202 : Value).ownBlock ∧ some k_ ≠ (.slice Ao30 t204.length co30 : Value).ownBlock ∧ some k_ ≠ (.slice Ao27 y207.length co27 : Value).ownBlock ∧ some k_ ≠ (v211 : Value).ownBlock ∧ some k_ ≠ (v214 : Value).ownBlock ∧ k_ ≠ gb200)) ?hr ?hp (fun _ hk => hk) ((show ∀ k_,w31.heap.size ≤ k_ → (fun k_ => some k_ ≠ (.slice Ao21 y188.length co21 : Value).ownBlock ∧ some k_ ≠ (.slice Ao20 y191.length co20 : Value).ownBlock ∧ some k_ ≠ (v202 : Value).ownBlock ∧ some k_ ≠ (.slice Ao30 t204.length co30 : Value).ownBlock ∧ some k_ ≠ (.slice Ao27 y207.length co27 : Value).ownBlock ∧ some k_ ≠ (v211 : Value).ownBlock ∧ some k_ ≠ (v214 : Value).ownBlock ∧ k_ ≠ gb200) k_ from fun k_ hk => ⟨Kd.fresh' (Kd.R_lt (by (with_reducible repeat (first | apply Kd.R_alloc | apply Kd.R_drewN | apply Kd.R_drew));exact HO190.out)) k_ hk,Kd.fresh' (Kd.N_lt (by (with_reducible repeat (first | apply Kd.N_alloc | apply Kd.N_drewN | apply Kd.N_drew));exact HO193.out)) k_ hk,Kd.fresh' (Kd.N_lt (by (with_reducible repeat (first | apply Kd.N_alloc | apply Kd.N_drewN | apply Kd.N_drew));exact HO203.out)) k_ hk,Kd.fresh' (Kd.R_lt (by (with_reducible repeat (first | apply Kd.R_alloc | apply Kd.R_drewN | apply Kd.R_drew));exact HO206.out)) k_ hk,Kd.fresh' (Kd.N_lt (by (with_reducible repeat (first | apply Kd.N_alloc | apply Kd.N_drewN | apply Kd.N_drew));exact HO209.out)) k_ hk,Kd.fresh' (Kd.N_lt (by (with_reducible repeat (first | apply Kd.N_alloc | apply Kd.N_drewN | apply Kd.N_drew));exact HO212.out)) k_ hk,Kd.fresh' (Kd.R_lt (by (with_reducible repeat (first | apply Kd.R_alloc | apply Kd.R_drewN | apply Kd.R_drew));exact HO215.out)) k_ hk,Kd.freshB (g:=gb200) (o := .cells #[.slice Ao21 y188.length co21,.slice Ao20 y191.length co20,.int .i64 0,.int .i64 0,.slice Ao27 y207.length co27] 26 (0,0)) (by (with_reducible repeat (first | refine blk_drewN ?_ _ | refine blk_drew ?_ | refine blk_alloc ?_ _));exact BK200.out) k_ hk⟩) _ (Nat.le_refl _)) (Below.refl _ _) (Nat.le_refl _) (by simp) ?_;(case hd => rfl);(case hg => rfl);(case hr => first | (go_simp;done) | (go_simp;rfl));(case hp => exact (Reps.one (show Kd.FK (Kd.slice 3 (Kd.int .i64)) _ _ y216 [.slice Ao33 y216.length co33] from (Kd.FK_slice_mk (Kd.R_reads' (Kd.R_mono (ok' := (fun k_ => some k_ ≠ (.slice Ao21 y188.length co21 : Value).ownBlock ∧ some k_ ≠ (.slice Ao20 y191.length co20 : Value).ownBlock ∧ some k_ ≠ (v202 : Value).ownBlock ∧ some k_ ≠ (.slice Ao30 t204.length co30 : Value).ownBlock ∧ some k_ ≠ (.slice Ao27 y207.length co27 : Value).ownBlock ∧ some k_ ≠ (v211 : Value).ownBlock ∧ some k_ ≠ (v214 : Value).ownBlock ∧ k_ ≠ gb200)) (Kd.R_types (Kd.R_apart' (Kd.R_apart' (Kd.R_apart' (Kd.R_apart' (Kd.R_apart' (Kd.R_apart' (Kd.R_apart' (HO218.out) (Kd.R_typed HO190.out) (by decide)) (Kd.N_typed HO193.out) (by decide)) (Kd.N_typed HO203.out) (by decide)) (Kd.R_typed HO206.out) (by decide)) (Kd.N_typed HO209.out) (by decide)) (Kd.N_typed HO212.out) (by decide)) (Kd.R_typed HO215.out) (by decide)) BK200.out (by decide)) (fun k_ hk => ⟨hk.1.1.1.1.1.1.1.2,⟨hk.1.1.1.1.1.1.2,⟨hk.1.1.1.1.1.2,⟨hk.1.1.1.1.2,⟨hk.1.1.1.2,⟨hk.1.1.2,⟨hk.1.2,hk.2⟩⟩⟩⟩⟩⟩⟩))).2.1 (Kd.R_F (Kd.R_mono (ok' := (fun k_ => some k_ ≠ (.slice Ao21 y188.length co21 : Value).ownBlock ∧ some k_ ≠ (.slice Ao20 y191.length co20 : Value).ownBlock ∧ some k_ ≠ (v202 : Value).ownBlock ∧ some k_ ≠ (.slice Ao30 t204.length co30 : Value).ownBlock ∧ some k_ ≠ (.slice Ao27 y207.length co27 : Value).ownBlock ∧ some k_ ≠ (v211 : Value).ownBlock ∧ some k_ ≠ (v214 : Value).ownBlock ∧ k_ ≠ gb200)) (Kd.R_types (Kd.R_apart' (Kd.R_apart' (Kd.R_apart' (Kd.R_apart' (Kd.R_apart' (Kd.R_apart' (Kd.R_apart' (HO218.out) (Kd.R_typed HO190.out) (by decide)) (Kd.N_typed HO193.out) (by decide)) (Kd.N_typed HO203.out) (by decide)) (Kd.R_typed HO206.out) (by decide)) (Kd.N_typed HO209.out) (by decide)) (Kd.N_typed HO212.out) (by decide)) (Kd.R_typed HO215.out) (by decide)) BK200.out (by decide)) (fun k_ hk => ⟨hk.1.1.1.1.1.1.1.2,⟨hk.1.1.1.1.1.1.2,⟨hk.1.1.1.1.1.2,⟨hk.1.1.1.1.2,⟨hk.1.1.1.2,⟨hk.1.1.2,⟨hk.1.2,hk.2⟩⟩⟩⟩⟩⟩⟩))))) (Reps.none _ _)));intro v220 w34 ho35 hb hg_ hnew_;clear hg_ hnew_;(first | rw [← Ny219.out] at ho35 | (simp only [Int.reduceToNat] at ho35;rw [← Ny219.out] at ho35));have n0_:=Aside0.mk (Kd.R_below (by (with_reducible repeat (first | apply Kd.R_alloc | apply Kd.R_drewN | apply Kd.R_drew));exact HO190.out) hb);have n1_:=Aside0.mk (Kd.N_elder' (by (with_reducible repeat (first | apply Kd.N_alloc | apply Kd.N_drewN | apply Kd.N_drew));exact HO193.out) (Kd.N_base ho35) hb);have n2_:=Aside0.mk (Kd.N_elder' (by (with_reducible repeat (first | apply Kd.N_alloc | apply Kd.N_drewN | apply Kd.N_drew));exact HO203.out) (Kd.N_base ho35) hb);have n3_:=Aside0.mk (Kd.R_below (by (with_reducible repeat (first | apply Kd.R_alloc | apply Kd.R_drewN | apply Kd.R_drew));exact HO206.out) hb);have n4_:=Aside0.mk (Kd.N_elder' (by (with_reducible repeat (first | apply Kd.N_alloc | apply Kd.N_drewN | apply Kd.N_drew));exact HO209.out) (Kd.N_base ho35) hb);have n5_:=Aside0.mk (Kd.N_elder' (by (with_reducible repeat (first | apply Kd.N_alloc | apply Kd.N_drewN | apply Kd.N_drew));exact HO212.out) (Kd.N_base ho35) hb);have n6_:=Aside0.mk (Kd.R_below (by (with_reducible repeat (first | apply Kd.R_alloc | apply Kd.R_drewN | apply Kd.R_drew));exact HO215.out) hb);have n7_:=Aside0.mk (Kd.N_lower ho35 (below_size (by repeat (first | (with_reducible first | exact HB.out | apply below_alloc | apply pw_below_drewN | apply below_drew1 | refine below_set ?_ GE200.out) | exact HB.out))));have n8_:=Aside0.mk (blk_below (g:=gb200) (o := .cells #[.slice Ao21 y188.length co21,.slice Ao20 y191.length co20,.int .i64 0,.int .i64 0,.slice Ao27 y207.length co27] 26 (0,0)) (by (with_reducible repeat (first | refine blk_drewN ?_ _ | refine blk_drew ?_ | refine blk_alloc ?_ _));exact BK200.out) hb);have n9_:=Aside0.mk (below_step (by repeat (first | (with_reducible first | exact HB.out | apply below_alloc | apply pw_below_drewN | apply below_drew1 | refine below_set ?_ GE200.out) | exact HB.out)) hb);clear HO190;clear HO193;clear HO203;clear HO206;clear HO209;clear HO212;clear HO215;clear BK200;clear HB;clear HO218;have HO190:=n0_;have HO193:=n1_;have HO203:=n2_;have HO206:=n3_;have HO209:=n4_;have HO212:=n5_;have HO215:=n6_;have HO221:=n7_;have BK200:=n8_;have HB:=n9_;clear n0_ n1_ n2_ n3_ n4_ n5_ n6_ n7_ n8_ n9_;clear hb ho35;obtain ⟨Ao36,co36,eo36⟩ := Kd.N_slice HO203.out;subst eo36;obtain ⟨Ao37,co37,eo37⟩ := Kd.N_slice HO221.out;subst eo37) | (go_at_call 18;(with_reducible refine (regletref13_SameLists.calls k _ _ t201 _ _ y219 true _ ?side1 ?side2 ?side3 ?side4 A6.out).mono ?_);(case side1 => repeat (first | exact (Kd.N_reads' HO203.out).2.2 | (with_reducible refine Kd.C_alloc ?_ _) | (with_reducible refine Kd.C_drewN ?_ _) | (with_reducible refine Kd.C_drew ?_)));(case side2 => exact (Kd.N_reads' HO203.out).2.1);(case side3 => repeat (first | exact (Kd.N_reads' HO221.out).2.2 | (with_reducible refine Kd.C_alloc ?_ _) | (with_reducible refine Kd.C_drewN ?_ _) | (with_reducible refine Kd.C_drew ?_)));(case side4 => exact (Kd.N_reads' HO221.out).2.1);rintro e w' ⟨rfl,⟨nd,rfl⟩⟩;obtain ⟨Ao38,co38,eo38⟩ := Kd.R_slice HO215.out;subst eo38;have p223 : 0 ≤ (0 : Int) := (by omega);have q223 : 0 < (t213.length : Int) := of_decide_eq_true (by first | (with_reducible assumption) | assumption);obtain ⟨ad223,e223,hx223_0,hx223_1,hx223_2,hx223_3⟩ := at_T50 (Kd.R_reads' HO215.out).2.2 0 p223 q223;cases e223;have qi223 : (0 < t213.length) = True:=eq_true (by omega);(try rw [show ((0 : Int)).toNat = 0 from rfl] at hx223_0);(try rw [show 0 * 4 = 0 from rfl] at hx223_0);(try rw [Addr.add_zero'] at hx223_0);(try rw [show ((0 : Int)).toNat = 0 from rfl] at hx223_1);(try rw [show 0 * 4 = 0 from rfl] at hx223_1);(try rw [Addr.add_zero'] at hx223_1);(try rw [show ((0 : Int)).toNat = 0 from rfl] at hx223_2);(try rw [show 0 * 4 = 0 from rfl] at hx223_2);(try rw [Addr.add_zero'] at hx223_2);(try rw [show ((0 : Int)).toNat = 0 from rfl] at hx223_3);(try rw [show 0 * 4 = 0 from rfl] at hx223_3);(try rw [Addr.add_zero'] at hx223_3);replace p223:=eq_true p223;replace q223:=eq_true q223))
   go_ret
   exact ⟨by first | rfl | (simp [errW_none,errW_some] <;> rfl) | (simp [*,errW_none,errW_some] <;> rfl),by repeat (first | (with_reducible first | exact HB.out | apply below_alloc | apply pw_below_drewN | apply below_drew1 | refine below_set ?_ GE200.out) | exact HB.out)⟩
 · replace c7:=Bool.eq_false_iff.mpr c7
   subst c7
   have H1 : (none) = some r:=by rw [if_neg (show ¬ (false = true) by decide)] at H;exact H
   clear H
   have H:=H1
   clear H1
   exact absurd H (by simp)
end Go.Proofs.Ytfdcfihcfegekaa.P
end

section
namespace Go.Proofs.Ytfdcfihcfegekaa.H
open Go.RowKit Go.Proofs.YtfdcfihcfegekaaW.PrintWords Go.Proofs.YtfdcfihcfegekaaW.PrintLast Go.Proofs.YtfdcfihcfegekaaW.PrintMore
theorem Ev.pos {α : Type} {c : Prop} [Decidable c] {f g : Nat → Option α} {r : α} (h : c) (k : Ev f r) : Ev (fun n => if c then f n else g n) r :=
  Ev.congr (fun _ => if_pos h) k
theorem Ev.neg {α : Type} {c : Prop} [Decidable c] {f g : Nat → Option α} {r : α} (h : ¬ c) (k : Ev g r) : Ev (fun n => if c then f n else g n) r :=
  Ev.congr (fun _ => if_neg h) k
theorem Ev.some {α : Type} {r s : α} (h : r = s) : Ev (fun _ => Option.some r) s:=h ▸ Ev.now r
theorem Ev.some' {α : Type} {g : Option α} {r : α} (h : g = Option.some r) : Ev (fun _ => g) r:=⟨0,fun _ _ => h⟩
theorem Ev.bind0 {α β : Type} {g : Option α} {f : Nat → α → Option β} {a : α} {r : β} (h : g = Option.some a) (k : Ev (fun n => f n a) r) : Ev (fun n => g.bind (f n)) r :=
  Ev.congr (fun _ => by rw [h];rfl) k
theorem Ev.val {α : Type} {g : Nat → Option α} {r s : α} (h : Ev g r) (e : r = s) : Ev g s:=e ▸ h
theorem wrap64_id {x : Int} (h0 : -9223372036854775808 ≤ x) (h1 : x ≤ 9223372036854775807) : wrap64 x = x:=by
 unfold wrap64;omega
theorem wf_u8 {x : Int} (h : (Lit.int .u8 x).wf = true) : 0 ≤ x ∧ x ≤ 255:=by
 simp [Lit.wf,IntKind.min,IntKind.max,IntKind.bits,IntKind.signed] at h;omega
end Go.Proofs.Ytfdcfihcfegekaa.H
end

section
namespace Go.Proofs.Ytfdcfihcfegekaa.P
open Go.RowKit Go.Proofs.YtfdcfihcfegekaaW.PrintWords Go.Proofs.YtfdcfihcfegekaaW.PrintLast Go.Proofs.YtfdcfihcfegekaaW.PrintMore
set_option linter.unusedVariables false
set_option linter.unusedSimpArgs false
abbrev T : Bool := true
abbrev F : Bool := false
theorem pq : (∀ (a : Act) (d : Option Tmp) (v : Value), a.put d v = match d with | none => a | some i => { a with tmps := a.tmps.setIfInBounds i v }) ∧ (∀ (l : List Value) (i : Nat) (a : Value), l.toArray.setIfInBounds i a = (l.set i a).toArray) ∧ (∀ (x : Value) (l : List Value) (a : Value), (x :: l).set 0 a = a :: l) ∧ (∀ (x : Value) (l : List Value) (n : Nat) (a : Value), (x :: l).set (n + 1) a = x :: l.set n a) ∧ (∀ n, IntKind.i64.wrap n = wrap64 n) ∧ ∀ n, IntKind.i32.wrap n = wrap32 n := ⟨fun _ d _ => by cases d <;> rfl, fun _ _ _ => List.setIfInBounds_toArray .., fun _ _ _ => rfl, fun _ _ _ _ => rfl, i64_w, i32_w⟩
def mPick (l : List Int) (at_ : Nat) (n : Int) : Int:=if l.length < at_ + 1 then 0 else Int.tmod (l.getD at_ 0) n
theorem wrap_u8 {x : Int} (h0 : 0 ≤ x) (h1 : x ≤ 255) : IntKind.i64.wrap x = x:=by rw [IntKind.wrap_i64];omega
theorem wrap_tmod {x n : Int} (h0 : 0 ≤ x) (h1 : x ≤ 255) : IntKind.i64.wrap (x.tmod n) = x.tmod n:=by
 have h2 : 0 ≤ x.tmod n:=Int.tmod_nonneg n h0
 have h3 : x.tmod n ≤ x:=by
  obtain ⟨a,rfl⟩ := Int.eq_ofNat_of_zero_le h0
  rcases Int.lt_or_le n 0 with hn | hn
  · obtain ⟨b,hb⟩ := Int.eq_ofNat_of_zero_le (show 0 ≤ -n by omega)
    have : (a : Int).tmod n = (a : Int).tmod b:=by rw [show n = -(b : Int) by omega,Int.tmod_neg]
    rw [this,← Int.ofNat_tmod]
    exact_mod_cast Nat.mod_le a b
  · obtain ⟨b,rfl⟩ := Int.eq_ofNat_of_zero_le hn
    rw [← Int.ofNat_tmod]
    exact_mod_cast Nat.mod_le a b
 rw [IntKind.wrap_i64];omega
set_option maxHeartbeats 1000000 in
theorem pick_any (l : List Int) (A0 : Option Addr) (c0 at_ : Nat) (n : Int) (LB AB : Nat) (W : World) (hne : LB ≠ AB) (hl : W.cell? ⟨LB,0,none⟩ = some (.slice A0 l.length c0)) (hab : W.heap[AB]? = some (.cells #[.int .i64 (at_ : Int)] 3 (0,0)))
    (hr : ∀ W',Kept W W' (fun k => k = AB) → Kd.C (Kd.int .u8) W' A0 l.length l) (hn : n ≠ 0) (hat : at_ < 1000000) (hu : ∀ x ∈ l,0 ≤ x ∧ x ≤ 255) :
    Calls Try.prog 21 #[.int .i64 n,.pointer (some ⟨AB,0,none⟩),.pointer (some ⟨LB,0,none⟩)] W fun e w' => e = .returned (.int .i64 (mPick l at_ n)) ∧ Aside0 (Kept W w' (fun k => k = AB)) ∧ Aside0 (w'.heap[AB]? = some (.cells #[.int .i64 ((at_ + 1 : Nat) : Int)] 3 (0,0))) ∧ Aside0 (Below AB W w') := by
 have ha : W.cell? ⟨AB,0,none⟩ = some (.int .i64 (at_ : Int)) := (blk_cell hab 0).trans rfl
 have hf:=blk_frozen hab 0
 have HA3:=Aside0.mk (blk_put hab 0 (.int .i64 ((at_ : Int) + 1)) (cs' := #[.int .i64 ((at_ + 1 : Nat) : Int)]) rfl)
 have hK:=Kept.setCell (Kept.refl W (fun k => k = AB)) (p:=⟨AB,0,none⟩) (.inl rfl) (.int .i64 ((at_ : Int) + 1))
 have hw1 : IntKind.i64.wrap ((at_ : Int) + 1) = (at_ : Int) + 1:=by rw [IntKind.wrap_i64];omega
 have hw2 : IntKind.i64.wrap ((at_ : Int) + 1 - 1) = (at_ : Int) := by rw [IntKind.wrap_i64];omega
 have hl2 : (W.setCell ⟨AB,0,none⟩ (.int .i64 ((at_ : Int) + 1))).cell? ⟨LB,0,none⟩ = some (.slice A0 l.length c0) := cell_kept hl hK hne
 have ha2 : (W.setCell ⟨AB,0,none⟩ (.int .i64 ((at_ : Int) + 1))).cell? ⟨AB,0,none⟩ = some (.int .i64 ((at_ : Int) + 1)) := World.cell?_setCell_same' _ _ _ (by rw [ha];rfl)
 have HB : Aside0 (Below AB W (W.setCell ⟨AB,0,none⟩ (.int .i64 ((at_ : Int) + 1)))) := ⟨(Below.refl AB W).setCell (Nat.le_refl _) _⟩
 have HK:=Aside0.mk hK
 have HU:=Aside0.mk hu
 have HR:=Aside0.mk hr
 clear hK hu hr hab
 by_cases hlt : l.length < at_ + 1
 · have e : mPick l at_ n = 0:=if_pos hlt
   rw [e]
   have d0 : decide ((at_ : Int) + 1 > (l.length : Int)) = true:=decide_eq_true (by omega)
   clear hlt e
   go_enter Try.func21,Try.ntmps21
   go_wp2
   go_ret
   exact ⟨rfl,HK,HA3,HB⟩
 · have e : mPick l at_ n = Int.tmod (l.getD at_ 0) n:=if_neg hlt
   rw [e]
   have d0 : decide ((at_ : Int) + 1 > (l.length : Int)) = false:=decide_eq_false (by omega)
   obtain ⟨ad,ead,hc⟩ := Kd.at_int (HR.out _ HK.out) (at_ : Int) (by omega) (by omega)
   cases ead
   have p0 : (0 ≤ (at_ : Int)) = True:=eq_true (by omega)
   have p1 : ((at_ : Int) < (l.length : Int)) = True:=eq_true (by omega)
   have hx:=HU.out (l.getD at_ 0) (by rw [List.getD_eq_getElem?_getD,List.getElem?_eq_getElem (by omega)];exact List.getElem_mem _)
   have hx0 : rd l (at_ : Int) = l.getD at_ 0:=rfl
   rw [hx0] at hc
   generalize l.getD at_ 0 = x at hc hx
   have hw3:=wrap_u8 hx.1 hx.2
   have hw4:=wrap_tmod (n:=n) hx.1 hx.2
   rw [Int.toNat_natCast] at hc
   clear hx hx0 hlt e
   go_enter Try.func21,Try.ntmps21
   go_wp2
   go_ret
   exact ⟨rfl,HK,HA3,HB⟩
theorem mPick_lt {l : List Int} (hu : ∀ x ∈ l,0 ≤ x ∧ x ≤ 255) (at_ : Nat) {n : Int} (hn : 0 < n) : 0 ≤ mPick l at_ n ∧ mPick l at_ n < n:=by
 unfold mPick
 split
 · omega
 · have hx:=hu (l.getD at_ 0) (by rw [List.getD_eq_getElem?_getD,List.getElem?_eq_getElem (by omega)];exact List.getElem_mem _)
   exact ⟨Int.tmod_nonneg n hx.1,Int.tmod_lt_of_pos _ hn⟩
def mRight (l : List Int) (n t : Int) : Nat → Nat → List S53 → List S53 × Nat
  | 0,at_,acc => (acc,at_)
  | c + 1,at_,acc => mRight l n t c (at_ + 2) (acc ++ [if mPick l at_ 2 = 0 then ⟨true,mPick l (at_ + 1) t⟩ else ⟨false,mPick l (at_ + 1) n⟩])
def mProds (l : List Int) (n t : Int) : Nat → Nat → List S30 → List S30
  | 0,_,acc => acc
  | i + 1,at_,acc => mProds l n t i (mRight l n t (mPick l (at_ + 1) 4).toNat (at_ + 2) []).2 (acc ++ [⟨mPick l at_ n,(mRight l n t (mPick l (at_ + 1) 4).toNat (at_ + 2) []).1⟩])
def mNames : List ByteArray := [⟨#[97]⟩,⟨#[98]⟩,⟨#[99]⟩,⟨#[100]⟩,⟨#[101]⟩]
def mTexts : List ByteArray := [⟨#[120]⟩,⟨#[121]⟩,⟨#[122]⟩,⟨#[119]⟩]
def mTok (s : ByteArray) : S61:=⟨⟨#[]⟩,⟨5,s,[],0,0,[]⟩⟩
def regletlaw13_Made.f (k : Nat) (l : List Int) : Option (List ByteArray × List S61 × Int × Int × List S30) :=
  if l.all (fun x => decide (0 ≤ x ∧ x ≤ 255)) = true then some (mNames.take (1 + mPick l 0 5).toNat,(mTexts.map mTok).take (1 + mPick l 1 4).toNat,0,0,mProds l (1 + mPick l 0 5) (1 + mPick l 1 4) (1 + mPick l 2 10).toNat 3 []) else none
structure MadeI (w : World) (A0 : Option Addr) (n0 c0 : Nat) (at_ : Nat) (vn vt vp : Value) (W : World) : Prop where
  bel : Below w.heap.size w W
  l : W.heap[w.heap.size]? = some (.cells #[.slice A0 n0 c0] 32 (0,0))
  r : W.heap[w.heap.size + 1]? = some (.cells #[.slice none 0 0,.slice none 0 0,.int .i64 0,.int .i64 0,.slice none 0 0] 26 (0,0))
  s : W.heap[w.heap.size + 2]? = some (.cells #[vn,vt,.int .i64 0,.int .i64 0,vp] 26 (0,0))
  a : W.heap[w.heap.size + 3]? = some (.cells #[.int .i64 (at_ : Int)] 3 (0,0))
theorem MadeI.pick {w W W' : World} {A0 : Option Addr} {n0 c0 at_ : Nat} {vn vt vp : Value} (h : MadeI w A0 n0 c0 at_ vn vt vp W) (hk : Kept W W' (fun k => k = w.heap.size + 3)) (ha : W'.heap[w.heap.size + 3]? = some (.cells #[.int .i64 ((at_ + 1 : Nat) : Int)] 3 (0,0))) (hb : Below (w.heap.size + 3) W W') : MadeI w A0 n0 c0 (at_ + 1) vn vt vp W' :=
  ⟨h.bel.trans (hb.mono (by omega)),blk_kept h.l hk (by simp),blk_kept h.r hk (by simp),blk_kept h.s hk (by simp),ha⟩
theorem MadeI.calls {w W : World} {A0 : Option Addr} {l : List Int} {c0 at_ : Nat} {vn vt vp : Value} (h : MadeI w A0 l.length c0 at_ vn vt vp W) (hr : Kd.C (Kd.int .u8) w A0 l.length l) (n : Int) (hn : n ≠ 0) (hat : at_ < 1000000) (hu : ∀ x ∈ l,0 ≤ x ∧ x ≤ 255) :
    Calls Try.prog 21 #[.int .i64 n,.pointer (some ⟨w.heap.size + 3,0,none⟩),.pointer (some ⟨w.heap.size,0,none⟩)] W fun e w' => e = .returned (.int .i64 (mPick l at_ n)) ∧ Aside0 (MadeI w A0 l.length c0 (at_ + 1) vn vt vp w') ∧ Aside0 (Kept W w' (fun k => k = w.heap.size + 3)) := by
 refine (pick_any l A0 c0 at_ n w.heap.size (w.heap.size + 3) W (by omega) ((blk_cell h.l 0).trans rfl) h.a (fun W' hk => ?_) hn hat hu).mono ?_
 · refine Kd.C_kept_came (Kd.heap_int _) hr h.bel (S:=fun k => k = w.heap.size + 3) (fun k hk => by omega) W' hk
 · rintro e w' ⟨rfl,hk,ha,hb⟩
   exact ⟨rfl,⟨h.pick hk.out ha.out hb.out⟩,hk⟩
theorem miStr : (Try.prog.info? 9).map (fun i => (i.zero,i.size,i.bytes)) = some (some (.string ⟨#[]⟩),1,16) := by kernel_rfl
theorem miSym : (Try.prog.info? 53).map (fun i => (i.zero,i.size,i.bytes)) = some (some (.agg #[.bool false,.int .i64 0]),2,16) := by kernel_rfl
theorem miTok : (Try.prog.info? 61).map (fun i => (i.zero,i.size,i.bytes)) = some (some (.agg #[.string ⟨#[]⟩,.int .i64 0,.string ⟨#[]⟩,.slice none 0 0,.int .i64 0,.int .i64 0,.slice none 0 0]),7,104) := by kernel_rfl
theorem miProd : (Try.prog.info? 30).map (fun i => (i.zero,i.size,i.bytes)) = some (some (.agg #[.int .i64 0,.slice none 0 0]),2,32) := by kernel_rfl
section
variable {w W W' : World} {A0 : Option Addr} {n0 c0 at_ : Nat} {vn vt vp : Value}
theorem MadeI.below (h : MadeI w A0 n0 c0 at_ vn vt vp W) (hb : Below W.heap.size W W') : MadeI w A0 n0 c0 at_ vn vt vp W' :=
  ⟨h.bel.trans (hb.mono h.bel.size),(hb.block _ (blk_lt h.l)).trans h.l,(hb.block _ (blk_lt h.r)).trans h.r,(hb.block _ (blk_lt h.s)).trans h.s,(hb.block _ (blk_lt h.a)).trans h.a⟩
theorem MadeI.below4 (h : MadeI w A0 n0 c0 at_ vn vt vp W) (hb : Below (w.heap.size + 4) W W') : MadeI w A0 n0 c0 at_ vn vt vp W' :=
  ⟨h.bel.trans (hb.mono (by omega)),(hb.block _ (by omega)).trans h.l,(hb.block _ (by omega)).trans h.r,(hb.block _ (by omega)).trans h.s,(hb.block _ (by omega)).trans h.a⟩
theorem MadeI.size (h : MadeI w A0 n0 c0 at_ vn vt vp W) : w.heap.size + 4 ≤ W.heap.size:=blk_lt h.a
theorem MadeI.put0 (h : MadeI w A0 n0 c0 at_ vn vt vp W) (v : Value) : MadeI w A0 n0 c0 at_ v vt vp (W.setCell ⟨w.heap.size + 2,0,none⟩ v) :=
  ⟨below_set h.bel (by simp),blk_far h.l (by simp) _,blk_far h.r (by simp) _,blk_put h.s 0 v rfl,blk_far h.a (by simp) _⟩
theorem MadeI.put1 (h : MadeI w A0 n0 c0 at_ vn vt vp W) (v : Value) : MadeI w A0 n0 c0 at_ vn v vp (W.setCell ⟨w.heap.size + 2,1,none⟩ v) :=
  ⟨below_set h.bel (by simp),blk_far h.l (by simp) _,blk_far h.r (by simp) _,blk_put h.s 1 v rfl,blk_far h.a (by simp) _⟩
theorem MadeI.put4 (h : MadeI w A0 n0 c0 at_ vn vt vp W) (v : Value) : MadeI w A0 n0 c0 at_ vn vt v (W.setCell ⟨w.heap.size + 2,4,none⟩ v) :=
  ⟨below_set h.bel (by simp),blk_far h.l (by simp) _,blk_far h.r (by simp) _,blk_put h.s 4 v rfl,blk_far h.a (by simp) _⟩
end
theorem set5_kept (W : World) (g : Nat) (v0 v1 v2 v3 v4 : Value) : Kept W (((((W.setCell ⟨g,0,none⟩ v0).setCell ⟨g,1,none⟩ v1).setCell ⟨g,2,none⟩ v2).setCell ⟨g,3,none⟩ v3).setCell ⟨g,4,none⟩ v4) (fun k => k = g) := by
 have h0:=Kept.setCell (Kept.refl W (fun k => k = g)) (p:=⟨g,0,none⟩) (.inl rfl) v0
 have h1:=Kept.setCell h0 (p:=⟨g,1,none⟩) (.inl rfl) v1
 have h2:=Kept.setCell h1 (p:=⟨g,2,none⟩) (.inl rfl) v2
 have h3:=Kept.setCell h2 (p:=⟨g,3,none⟩) (.inl rfl) v3
 exact Kept.setCell h3 (p:=⟨g,4,none⟩) (.inl rfl) v4
theorem set5_below {w W : World} {g : Nat} (h : Below w.heap.size w W) (hg : w.heap.size ≤ g) (v0 v1 v2 v3 v4 : Value) : Below w.heap.size w (((((W.setCell ⟨g,0,none⟩ v0).setCell ⟨g,1,none⟩ v1).setCell ⟨g,2,none⟩ v2).setCell ⟨g,3,none⟩ v3).setCell ⟨g,4,none⟩ v4) := by
 have h0:=below_set (j:=0) (v:=v0) h hg
 have h1:=below_set (j:=1) (v:=v1) h0 hg
 have h2:=below_set (j:=2) (v:=v2) h1 hg
 have h3:=below_set (j:=3) (v:=v3) h2 hg
 exact below_set (j:=4) (v:=v4) h3 hg
theorem name_at (i : Nat) (h : i < 5) : ([Value.string ⟨#[97]⟩,Value.string ⟨#[98]⟩,Value.string ⟨#[99]⟩,Value.string ⟨#[100]⟩,Value.string ⟨#[101]⟩] : List Value)[i]? = some (.string (mNames.getD i ⟨#[]⟩)) := by
 match i,h with
 | 0,_ => rfl
 | 1,_ => rfl
 | 2,_ => rfl
 | 3,_ => rfl
 | 4,_ => rfl
theorem text_at (i : Nat) (h : i < 4) : ([Value.string ⟨#[120]⟩,Value.string ⟨#[121]⟩,Value.string ⟨#[122]⟩,Value.string ⟨#[119]⟩] : List Value)[i]? = some (.string (mTexts.getD i ⟨#[]⟩)) := by
 match i,h with
 | 0,_ => rfl
 | 1,_ => rfl
 | 2,_ => rfl
 | 3,_ => rfl
theorem take_next {α : Type} (xs : List α) (d : α) (i : Nat) (h : i < xs.length) : xs.take i ++ [xs.getD i d] = xs.take (i + 1) := by
 rw [List.take_add_one,List.getD_eq_getElem?_getD,List.getElem?_eq_getElem h];rfl
set_option maxHeartbeats 4000000 in
set_option maxRecDepth 100000 in
theorem regletlaw13_Made.calls (k : Nat) (A0 : Option Addr) (c0 : Nat) (l0 : List Int) (r1 : List ByteArray) (r2 : List S61) (r3 r4 : Int) (r5 : List S30) (w : World) (hr0 : Kd.C (Kd.int .u8) w A0 l0.length l0) (hc0 : l0.length ≤ c0) (h : regletlaw13_Made.f k l0 = some (r1,r2,r3,r4,r5)) :
    Calls Try.prog 11 #[.slice A0 l0.length c0] w fun e w' => ∃ v0_ v1_ v2_ : Value,e = .returned (.agg #[v0_,v1_,.int .i64 r3,.int .i64 r4,v2_]) ∧ Kd.R Kd.string 9 w' w.heap.size (fun _ => True) v0_ r1 ∧ Kd.R k61 61 w' w.heap.size (fun _ => True) v1_ r2 ∧ Kd.S k30 30 w' w.heap.size (fun _ => True) v2_ r5 ∧ Below w.heap.size w w' := by
 unfold regletlaw13_Made.f at h
 split at h
 case isFalse => simp at h
 rename_i hall
 have hu : ∀ x ∈ l0,0 ≤ x ∧ x ≤ 255:=fun x hx => of_decide_eq_true (List.all_eq_true.1 hall x hx)
 obtain ⟨h1,h2⟩ := Prod.mk.inj (Option.some.inj h)
 obtain ⟨h2,h3⟩ := Prod.mk.inj h2
 obtain ⟨h3,h4⟩ := Prod.mk.inj h3
 obtain ⟨h4,h5⟩ := Prod.mk.inj h4
 subst h1 h2 h3 h4 h5
 have HU:=Aside0.mk hu
 have HR0:=Aside0.mk hr0
 clear h hall hu hr0 hc0
 clear h2 h3 h4
 have hI0 : MadeI w A0 l0.length c0 0 (.slice none 0 0) (.slice none 0 0) (.slice none 0 0) ((((w.alloc (.cells #[.slice A0 l0.length c0] 32)).alloc (.cells #[.slice none 0 0,.slice none 0 0,.int .i64 0,.int .i64 0,.slice none 0 0] 26)).alloc (.cells #[.slice none 0 0,.slice none 0 0,.int .i64 0,.int .i64 0,.slice none 0 0] 26)).alloc (.cells #[.int .i64 0] 3)) := by
  refine ⟨below_alloc (below_alloc (below_alloc (below_alloc (Below.refl _ w) _) _) _) _,?_,?_,?_,?_⟩
  · exact blk_alloc (blk_alloc (blk_alloc (heap_alloc_new w _) _) _) _
  · have h:=heap_alloc_new (w.alloc (.cells #[.slice A0 l0.length c0] 32)) (.cells #[.slice none 0 0,.slice none 0 0,.int .i64 0,.int .i64 0,.slice none 0 0] 26)
    rw [World.size_alloc] at h
    exact blk_alloc (blk_alloc h _) _
  · have h:=heap_alloc_new ((w.alloc (.cells #[.slice A0 l0.length c0] 32)).alloc (.cells #[.slice none 0 0,.slice none 0 0,.int .i64 0,.int .i64 0,.slice none 0 0] 26)) (.cells #[.slice none 0 0,.slice none 0 0,.int .i64 0,.int .i64 0,.slice none 0 0] 26)
    rw [World.size_alloc,World.size_alloc] at h
    exact blk_alloc h _
  · have h:=heap_alloc_new (((w.alloc (.cells #[.slice A0 l0.length c0] 32)).alloc (.cells #[.slice none 0 0,.slice none 0 0,.int .i64 0,.int .i64 0,.slice none 0 0] 26)).alloc (.cells #[.slice none 0 0,.slice none 0 0,.int .i64 0,.int .i64 0,.slice none 0 0] 26)) (.cells #[.int .i64 0] 3)
    rw [World.size_alloc,World.size_alloc,World.size_alloc] at h
    exact h
 have HI0:=Aside0.mk hI0
 clear hI0
 have eg : ∀ args w,(callFunc 21 args).run Try.prog w = .ok (.enter 21 args) w:=enters_of Try.func21 (by kernel_rfl) rfl
 have hp0:=mPick_lt HU.out 0 (n:=5) (by decide)
 have hp1:=mPick_lt HU.out 1 (n:=4) (by decide)
 have hp2:=mPick_lt HU.out 2 (n:=10) (by decide)
 obtain ⟨m,em,hm1,hm5⟩ : ∃ m : Nat,1 + mPick l0 0 5 = (m : Int) ∧ 1 ≤ m ∧ m ≤ 5:=⟨(1 + mPick l0 0 5).toNat,by omega,by omega,by omega⟩
 obtain ⟨q,eq_,hq1,hq4⟩ : ∃ q : Nat,1 + mPick l0 1 4 = (q : Int) ∧ 1 ≤ q ∧ q ≤ 4:=⟨(1 + mPick l0 1 4).toNat,by omega,by omega,by omega⟩
 obtain ⟨c,ec,hc1,hc10⟩ : ∃ c : Nat,1 + mPick l0 2 10 = (c : Int) ∧ 1 ≤ c ∧ c ≤ 10:=⟨(1 + mPick l0 2 10).toNat,by omega,by omega,by omega⟩
 simp only [em,eq_,ec,Int.toNat_natCast]
 have EM:=Aside0.mk em
 have EQ:=Aside0.mk eq_
 have EC:=Aside0.mk ec
 clear em eq_ ec hp0 hp1 hp2
 go_enter Try.func11,Try.ntmps11
 go_upto_region 4 with fail
 simp only [Nat.add_assoc,Nat.reduceAdd]
 generalize ((((w.alloc (.cells #[.slice A0 l0.length c0] 32)).alloc (.cells #[.slice none 0 0,.slice none 0 0,.int .i64 0,.int .i64 0,.slice none 0 0] 26)).alloc (.cells #[.slice none 0 0,.slice none 0 0,.int .i64 0,.int .i64 0,.slice none 0 0] 26)).alloc (.cells #[.int .i64 0] 3)) = W0 at HI0 ⊢
 go_cut [6,7] from 14 (fun s6 s7 wc => s6 = .int .i64 (m : Int) ∧ s7 = .int .i64 (q : Int) ∧ Aside0 (MadeI w A0 l0.length c0 2 (.slice none 0 0) (.slice none 0 0) (.slice none 0 0) wc))
 case first =>
  have P1:=Aside0.mk (HI0.out.calls HR0.out 5 (by decide) (by decide) HU.out)
  have hw1 : IntKind.i64.wrap (1 + mPick l0 0 5) = 1 + mPick l0 0 5:=by have:=mPick_lt HU.out 0 (n:=5) (by decide);rw [IntKind.wrap_i64];omega
  have hw2 : IntKind.i64.wrap (1 + mPick l0 1 4) = 1 + mPick l0 1 4:=by have:=mPick_lt HU.out 1 (n:=4) (by decide);rw [IntKind.wrap_i64];omega
  go_wp2_with (first
    | (go_at_fn 21;(with_reducible refine P1.out.mono ?_);rintro e w1 ⟨rfl,HI1,hk1⟩;have P2:=Aside0.mk (HI1.out.calls HR0.out 4 (by decide) (by decide) HU.out);clear P1)
    | (go_at_fn 21;(with_reducible refine P2.out.mono ?_);rintro e w2 ⟨rfl,HI2,hk2⟩;clear P2))
  go_meet
  case rel => exact ⟨congrArg _ EM.out,congrArg _ EQ.out,HI2⟩
 case rest =>
  obtain ⟨rfl,rfl,HI2⟩ := hcut
  obtain ⟨w2,ew2⟩ : ∃ w2 : World,w2 = wc:=⟨_,rfl⟩
  subst ew2
  clear HI0
  have M5:=Aside0.mk hm5
  have Q4:=Aside0.mk hq4
  have C10:=Aside0.mk hc10
  have M1:=Aside0.mk hm1
  have Q1:=Aside0.mk hq1
  have C1:=Aside0.mk hc1
  clear hm5 hq4 hc10 hm1 hq1 hc1
  go_upto_region 5 with fail
  iterate 7 (first | go_values | go_skip | go_guarded | go_step | go_upon | go_back | (simp only [Int.not_lt,Int.not_le] at *;go_simp))
  go_cut [8] from 14 (fun s8 wc => ∃ vn : Value,Aside0 (MadeI w A0 l0.length c0 2 vn (.slice none 0 0) (.slice none 0 0) wc) ∧ Aside0 (Kd.R Kd.string 9 wc (w.heap.size + 4) (fun k => w.heap.size + 4 ≤ k) vn (mNames.take m)))
  case first =>
   go_wp2
   go_loopg [8] m (fun kq v8 wr => ∃ (i : Nat) (vn : Value),v8 = .int .i64 i ∧ i ≤ m ∧ m - i ≤ kq ∧ Aside0 (MadeI w A0 l0.length c0 2 vn (.slice none 0 0) (.slice none 0 0) wr) ∧ Aside0 (Kd.R Kd.string 9 wr (w.heap.size + 4) (fun k => w.heap.size + 4 ≤ k) vn (mNames.take i)))
   case atStart => exact ⟨0,.slice none 0 0,rfl,by omega,by omega,HI2,⟨Kd.R_nil _ _ _ _ _⟩⟩
   case round =>
    clear HI2
    obtain ⟨i,vn,rfl,hi,hm,HI,HN⟩ := hrel
    by_cases hlt : i < m
    · have d0 : decide (i < m) = true:=decide_eq_true hlt
      have d1 : (i < m) = True:=eq_true hlt
      have HLT:=Aside0.mk hlt
      have HM:=Aside0.mk hm
      have p0 : (0 ≤ (i : Int)) = True:=eq_true (by omega)
      have p1 : ((i : Int) < 5) = True:=eq_true (by have:=M5.out;omega)
      have hwr : IntKind.i64.wrap ((i : Int) + 1) = (i : Int) + 1:=by rw [IntKind.wrap_i64];have:=M5.out;omega
      have H1:=Aside0.mk (HI.out.below (below_drew1 (Below.refl _ wr)))
      have H2:=Aside0.mk (H1.out.below (below_alloc (Below.refl _ wr.drew) (.cells #[.string ⟨#[97]⟩,.string ⟨#[98]⟩,.string ⟨#[99]⟩,.string ⟨#[100]⟩,.string ⟨#[101]⟩] 9)))
      obtain ⟨nm,enm⟩ : ∃ nm : ByteArray,nm = mNames.getD i ⟨#[]⟩ := ⟨_,rfl⟩
      have c8 : ([Value.string ⟨#[97]⟩,Value.string ⟨#[98]⟩,Value.string ⟨#[99]⟩,Value.string ⟨#[100]⟩,Value.string ⟨#[101]⟩] : List Value)[i]? = some (.string nm) := by rw [enm];exact name_at i (by have:=M5.out;omega)
      have ENM:=Aside0.mk enm
      clear enm
      have HS2:=Aside0.mk H2.out.size
      clear hlt hm hi
      go_wp2
      refine start_ (n:=10) (S:=fun w' => w'.cell? ⟨w.heap.size + 2,0,none⟩ = some vn) (ds := [9]) #[F,F,F,F,F,F,F,F,F,F] (by kernel_rfl) rfl rfl ((blk_cell HI.out.s 0).trans rfl) (fun hHeld => ?_)
      refine pure_ (i:=0) (N:=some 25) (v:=?_) (a' := ?_) #[T,F,F,F,F,F,F,F,F,F] rfl rfl (by kernel_rfl) (fun _ _ _ h => h) (Or.inl ⟨by rfl,?_⟩) ?_ ?_
      rotate_left;(intro w';go_simp;with_reducible rfl);rotate_left;(simp only [pq];rfl)
      refine pure_ (i:=3) (N:=some 28) (v:=?_) (a' := ?_) #[T,F,F,T,F,F,F,F,F,F] rfl rfl (by kernel_rfl) (fun _ _ _ h => h) (Or.inl ⟨by rfl,?_⟩) ?_ ?_
      rotate_left;(intro w';go_simp;with_reducible rfl);rotate_left;(simp only [pq];rfl)
      refine take_ (i:=1) (N:=some 26) (v:=?_) (a' := ?_) #[T,T,F,T,F,F,F,F,F,F] rfl rfl (by kernel_rfl) (fun _ _ _ h => h) (Or.inl ⟨by rfl,?_⟩) hHeld ?_ ?_
      rotate_left
      · intro w' s0
        go_simp
        with_reducible rfl
      rotate_left
      · simp only [pq]
        rfl
      refine one_ (i:=2) (N:=some 27) #[T,T,T,T,F,F,F,F,F,F] rfl rfl (by kernel_rfl) (by decide) (fun K hK => ?_)
      refine value_ (w1:=?_) (v:=?_) (by rfl) rfl ?_ ?_
      rotate_left 2
      · go_simp
        constructor
        · rfl
        · rfl
      refine hK.out _ _ ((blk_cell H2.out.s 0).trans rfl) (fun hHeld => ?_)
      clear hK K
      refine norm_ (a' := ?_) ?_ ?_
      rotate_left
      · show Act.put _ (some 27) _ = _
        simp only [pq]
        rfl
      refine pure_ (i:=4) (N:=some 29) (v:=?_) (a' := ?_) #[T,T,T,T,T,F,F,F,F,F] rfl rfl (by kernel_rfl) (fun _ _ _ h => h) (Or.inl ⟨by rfl,?_⟩) ?_ ?_
      rotate_left;(intro w';go_simp;with_reducible rfl);rotate_left;(simp only [pq];rfl)
      refine one_ (i:=5) (N:=some 30) #[T,T,T,T,T,T,F,F,F,F] rfl rfl (by kernel_rfl) (by decide) (fun K hK => ?_)
      refine value_ (w1:=?_) (v:=?_) (by rfl) rfl ?_ ?_
      rotate_left 2
      · go_simp
        constructor
        · rfl
        · rfl
      refine hK.out _ _ (hHeld) (fun hHeld => ?_)
      clear hK K
      refine norm_ (a' := ?_) ?_ ?_
      rotate_left
      · show Act.put _ (some 30) _ = _
        simp only [pq]
        rfl
      refine one_ (i:=6) (N:=some 31) #[T,T,T,T,T,T,T,F,F,F] rfl rfl (by kernel_rfl) (by decide) (fun K hK => ?_)
      refine value_ (w1:=?_) (v:=?_) (by rfl) rfl ?_ ?_
      rotate_left 2
      · go_simp
        constructor
        · rfl
        · rfl
      refine hK.out _ _ ((blk_cell (H2.out.below (below_alloc (Below.refl _ _) _)).s 0).trans rfl) (fun hHeld => ?_)
      clear hK K
      refine norm_ (a' := ?_) ?_ ?_
      rotate_left
      · show Act.put _ (some 31) _ = _
        simp only [pq]
        rfl
      refine one_ (i:=7) (N:=some 32) #[T,T,T,T,T,T,T,T,F,F] rfl rfl (by kernel_rfl) (by decide) (fun K hK => ?_)
      refine Kd.R_append_step Kd.string (w0:=wr.drew.alloc (.cells #[.string ⟨#[97]⟩,.string ⟨#[98]⟩,.string ⟨#[99]⟩,.string ⟨#[100]⟩,.string ⟨#[101]⟩] 9)) (w.heap.size + 4) (by rfl) (.tmp 26) (.tmp 31) 22 9 (.string ⟨#[]⟩) 16 rfl Try.underlying22 miStr rfl (by decide) (by omega) vn (mNames.take i) nm [.string nm] (fun k => w.heap.size + 4 ≤ k) (fun _ => False) rfl (by rw [World.size_alloc];rfl) rfl (fun _ hk => hk.elim) (fun k hk => Nat.le_trans HS2.out hk) (Kd.R_alloc (Kd.R_drew HN.out) _) (Below.refl _ _) HS2.out (by have:=M5.out;have:=HLT.out;have:=List.length_take_le i mNames;omega) ?_
      intro v1 w1 ho hb hg hat
      obtain ⟨An,ln,cn,rfl⟩ : ∃ An ln cn,v1 = .slice An ln cn:=by obtain ⟨An,cn,e⟩ := Kd.R_slice ho;exact ⟨An,_,cn,e⟩
      rw [ENM.out,take_next mNames ⟨#[]⟩ i (by have:=M5.out;have:=HLT.out;show i < 5;omega)] at ho
      have H3:=Aside0.mk (H2.out.below4 hb)
      have HN3:=Aside0.mk ho
      have f3:=blk_frozen H3.out.s 0
      clear ho hb hg hat
      refine hK.out _ _ ((blk_cell H3.out.s 0).trans rfl) (fun hHeld => ?_)
      clear hK K
      refine norm_ (a' := ?_) ?_ ?_
      rotate_left
      · show Act.put _ (some 32) _ = _
        simp only [pq]
        rfl
      refine pure_ (i:=8) (N:=some 33) (v:=?_) (a' := ?_) #[T,T,T,T,T,T,T,T,T,F] rfl rfl (by kernel_rfl) (fun _ _ _ h => h) (Or.inl ⟨by rfl,?_⟩) ?_ ?_
      rotate_left;(intro w';go_simp;with_reducible rfl);rotate_left;(simp only [pq];rfl)
      refine last_ (i:=9) (N:=none) #[T,T,T,T,T,T,T,T,T,T] rfl rfl (by kernel_rfl) (by decide) (fun K hK => ?_)
      refine skip_ (w1:=?_) (by rfl) rfl ?_ ?_
      rotate_left
      · go_simp
        rfl
      refine hK.out _ _ ?_
      clear hK K
      refine done_ (by kernel_rfl) ?_
      go_wp2
      go_roundg (m - (i + 1))
      case measure => have:=HM.out;have:=HLT.out;omega
      case rel => exact ⟨i + 1,_,rfl,by have:=HLT.out;omega,Nat.le_refl _,⟨H3.out.put0 _⟩,⟨Kd.R_kept HN3.out (Kept.setCell (Kept.refl _ (fun k => k = w.heap.size + 2)) (.inl rfl) _) (fun k hk => by omega)⟩⟩
    · obtain rfl : i = m:=by omega
      have d0 : decide ((i : Int) < (i : Int)) = false:=decide_eq_false (by omega)
      clear hlt
      go_wp2
      go_meet
      case rel => exact ⟨vn,HI,HN⟩
  case rest =>
   obtain ⟨vn,HI3,HN3⟩ := hcut
   obtain ⟨w3,ew3⟩ : ∃ w3 : World,w3 = wc:=⟨_,rfl⟩
   subst ew3
   clear HI2
   have HB3:=Aside0.mk HI3.out.size
   have HN3b : Aside0 (Kd.R Kd.string 9 w3 (w.heap.size + 4) (fun k => w.heap.size + 4 ≤ k ∧ k < w3.heap.size) vn (mNames.take m)) := ⟨Kd.R_mono (Kd.R_bound HN3.out) (fun k hk => ⟨hk.2.1,hk.2.2.1⟩)⟩
   clear HN3
   go_upto_region 9 with fail
   iterate 7 (first | go_values | go_skip | go_guarded | go_step | go_upon | go_back | (simp only [Int.not_lt,Int.not_le] at *;go_simp))
   go_cut [9] from 14 (fun s9 wc => ∃ vt : Value,Aside0 (MadeI w A0 l0.length c0 2 vn vt (.slice none 0 0) wc) ∧ Aside0 (Kept w3 wc (fun k => k < w.heap.size + 4 ∨ w3.heap.size ≤ k)) ∧ Aside0 (Kd.R k61 61 wc (w.heap.size + 4) (fun k => w3.heap.size ≤ k) vt ((mTexts.map mTok).take q)))
   case first =>
    go_wp2
    go_loopg [9] q (fun kq v9 wr => ∃ (i : Nat) (vt : Value),v9 = .int .i64 i ∧ i ≤ q ∧ q - i ≤ kq ∧ Aside0 (MadeI w A0 l0.length c0 2 vn vt (.slice none 0 0) wr) ∧ Aside0 (Kept w3 wr (fun k => k < w.heap.size + 4 ∨ w3.heap.size ≤ k)) ∧ Aside0 (Kd.R k61 61 wr (w.heap.size + 4) (fun k => w3.heap.size ≤ k) vt ((mTexts.map mTok).take i)))
    case atStart => exact ⟨0,.slice none 0 0,rfl,by omega,by omega,HI3,⟨Kept.refl _ _⟩,⟨Kd.R_nil _ _ _ _ _⟩⟩
    case round =>
     clear HI3
     obtain ⟨i,vt,rfl,hi,hm,HI,HK,HT⟩ := hrel
     by_cases hlt : i < q
     · have d0 : decide (i < q) = true:=decide_eq_true hlt
       have d1 : (i < q) = True:=eq_true hlt
       have HLT:=Aside0.mk hlt
       have HM:=Aside0.mk hm
       have p0 : (0 ≤ (i : Int)) = True:=eq_true (by omega)
       have p1 : ((i : Int) < 4) = True:=eq_true (by have:=Q4.out;omega)
       have hwr : IntKind.i64.wrap ((i : Int) + 1) = (i : Int) + 1:=by rw [IntKind.wrap_i64];have:=Q4.out;omega
       have H1:=Aside0.mk (HI.out.below (below_drew1 (Below.refl _ wr)))
       have H2:=Aside0.mk (H1.out.below (below_alloc (Below.refl _ wr.drew) (.cells #[.string ⟨#[120]⟩,.string ⟨#[121]⟩,.string ⟨#[122]⟩,.string ⟨#[119]⟩] 9)))
       have HK2 : Aside0 (Kept w3 (wr.drew.alloc (.cells #[.string ⟨#[120]⟩,.string ⟨#[121]⟩,.string ⟨#[122]⟩,.string ⟨#[119]⟩] 9)) (fun k => k < w.heap.size + 4 ∨ w3.heap.size ≤ k)) := ⟨Kept.alloc (Kept.drew HK.out) _⟩
       obtain ⟨tx,etx⟩ : ∃ tx : ByteArray,tx = mTexts.getD i ⟨#[]⟩ := ⟨_,rfl⟩
       have c8 : ([Value.string ⟨#[120]⟩,Value.string ⟨#[121]⟩,Value.string ⟨#[122]⟩,Value.string ⟨#[119]⟩] : List Value)[i]? = some (.string tx) := by rw [etx];exact text_at i (by have:=Q4.out;omega)
       have ETX : Aside0 (mTok tx = (mTexts.map mTok).getD i (mTok ⟨#[]⟩)) := ⟨by rw [etx,List.getD_eq_getElem?_getD,List.getD_eq_getElem?_getD,List.getElem?_map,List.getElem?_eq_getElem (show i < mTexts.length by have:=Q4.out;show i < 4;omega)];rfl⟩
       have HS2:=Aside0.mk H2.out.size
       have HZ2 : Aside0 (w3.heap.size ≤ (wr.drew.alloc (.cells #[.string ⟨#[120]⟩,.string ⟨#[121]⟩,.string ⟨#[122]⟩,.string ⟨#[119]⟩] 9)).heap.size) := ⟨HK2.out.1⟩
       clear hlt hm hi etx
       go_wp2
       refine start_ (n:=12) (S:=fun w' => w'.cell? ⟨w.heap.size + 2,1,none⟩ = some vt) (ds := [11]) #[F,F,F,F,F,F,F,F,F,F,F,F] (by kernel_rfl) rfl rfl ((blk_cell HI.out.s 1).trans rfl) (fun hHeld => ?_)
       refine pure_ (i:=0) (N:=some 39) (v:=?_) (a' := ?_) #[T,F,F,F,F,F,F,F,F,F,F,F] rfl rfl (by kernel_rfl) (fun _ _ _ h => h) (Or.inl ⟨by rfl,?_⟩) ?_ ?_
       rotate_left;(intro w';go_simp;with_reducible rfl);rotate_left;(simp only [pq];rfl)
       refine pure_ (i:=3) (N:=some 42) (v:=?_) (a' := ?_) #[T,F,F,T,F,F,F,F,F,F,F,F] rfl rfl (by kernel_rfl) (fun _ _ _ h => h) (Or.inl ⟨by rfl,?_⟩) ?_ ?_
       rotate_left;(intro w';go_simp;with_reducible rfl);rotate_left;(simp only [pq];rfl)
       refine take_ (i:=1) (N:=some 40) (v:=?_) (a' := ?_) #[T,T,F,T,F,F,F,F,F,F,F,F] rfl rfl (by kernel_rfl) (fun _ _ _ h => h) (Or.inl ⟨by rfl,?_⟩) hHeld ?_ ?_
       rotate_left
       · intro w' s0
         go_simp
         with_reducible rfl
       rotate_left
       · simp only [pq]
         rfl
       refine one_ (i:=2) (N:=some 41) #[T,T,T,T,F,F,F,F,F,F,F,F] rfl rfl (by kernel_rfl) (by decide) (fun K hK => ?_)
       refine value_ (w1:=?_) (v:=?_) (by rfl) rfl ?_ ?_
       rotate_left 2
       · go_simp
         constructor
         · rfl
         · rfl
       refine hK.out _ _ ((blk_cell H2.out.s 1).trans rfl) (fun hHeld => ?_)
       clear hK K
       refine norm_ (a' := ?_) ?_ ?_
       rotate_left
       · show Act.put _ (some 41) _ = _
         simp only [pq]
         rfl
       refine pure_ (i:=4) (N:=some 43) (v:=?_) (a' := ?_) #[T,T,T,T,T,F,F,F,F,F,F,F] rfl rfl (by kernel_rfl) (fun _ _ _ h => h) (Or.inl ⟨by rfl,?_⟩) ?_ ?_
       rotate_left;(intro w';go_simp;with_reducible rfl);rotate_left;(simp only [pq];rfl)
       refine one_ (i:=5) (N:=some 44) #[T,T,T,T,T,T,F,F,F,F,F,F] rfl rfl (by kernel_rfl) (by decide) (fun K hK => ?_)
       refine value_ (w1:=?_) (v:=?_) (by rfl) rfl ?_ ?_
       rotate_left 2
       · go_simp
         constructor
         · rfl
         · rfl
       refine hK.out _ _ (hHeld) (fun hHeld => ?_)
       clear hK K
       refine norm_ (a' := ?_) ?_ ?_
       rotate_left
       · show Act.put _ (some 44) _ = _
         simp only [pq]
         rfl
       refine pure_ (i:=6) (N:=some 45) (v:=?_) (a' := ?_) #[T,T,T,T,T,T,T,F,F,F,F,F] rfl rfl (by kernel_rfl) (fun _ _ _ h => h) (Or.inl ⟨by rfl,?_⟩) ?_ ?_
       rotate_left;(intro w';go_simp;with_reducible rfl);rotate_left;(simp only [pq];rfl)
       refine pure_ (i:=7) (N:=some 46) (v:=?_) (a' := ?_) #[T,T,T,T,T,T,T,T,F,F,F,F] rfl rfl (by kernel_rfl) (fun _ _ _ h => h) (Or.inl ⟨by rfl,?_⟩) ?_ ?_
       rotate_left;(intro w';go_simp;with_reducible rfl);rotate_left;(simp only [pq];rfl)
       refine one_ (i:=8) (N:=some 47) #[T,T,T,T,T,T,T,T,T,F,F,F] rfl rfl (by kernel_rfl) (by decide) (fun K hK => ?_)
       refine value_ (w1:=?_) (v:=?_) (by rfl) rfl ?_ ?_
       rotate_left 2
       · go_simp
         constructor
         · rfl
         · rfl
       refine hK.out _ _ ((blk_cell (H2.out.below (below_alloc (Below.refl _ _) _)).s 1).trans rfl) (fun hHeld => ?_)
       clear hK K
       refine norm_ (a' := ?_) ?_ ?_
       rotate_left
       · show Act.put _ (some 47) _ = _
         simp only [pq]
         rfl
       refine one_ (i:=9) (N:=some 48) #[T,T,T,T,T,T,T,T,T,T,F,F] rfl rfl (by kernel_rfl) (by decide) (fun K hK => ?_)
       refine Kd.R_append_step k61 (w0:=wr.drew.alloc (.cells #[.string ⟨#[120]⟩,.string ⟨#[121]⟩,.string ⟨#[122]⟩,.string ⟨#[119]⟩] 9)) (w.heap.size + 4) (by rfl) (.tmp 40) (.tmp 47) 23 61 (.agg #[.string ⟨#[]⟩,.int .i64 0,.string ⟨#[]⟩,.slice none 0 0,.int .i64 0,.int .i64 0,.slice none 0 0]) 104 rfl Try.underlying23 miTok rfl (by decide) (by omega) vt ((mTexts.map mTok).take i) (mTok tx) [.string ⟨#[]⟩,.int .i64 5,.string tx,.slice none 0 0,.int .i64 0,.int .i64 0,.slice none 0 0] (fun k => w3.heap.size ≤ k) (fun _ => False) rfl (by rw [World.size_alloc];rfl) (k61_mkM _ _ _ (mTok tx) (Kd.R_nil _ _ _ _ _) (Kd.R_nil _ _ _ _ _)) (fun _ hk => hk.elim) (fun k hk => Nat.le_trans HZ2.out hk) (Kd.R_alloc (Kd.R_drew HT.out) _) (Below.refl _ _) HS2.out (by have:=Q4.out;have:=HLT.out;have:=List.length_take_le i (mTexts.map mTok);omega) ?_
       intro v1 w1 ho hb hg hat
       obtain ⟨An,ln,cn,rfl⟩ : ∃ An ln cn,v1 = .slice An ln cn:=by obtain ⟨An,cn,e⟩ := Kd.R_slice ho;exact ⟨An,_,cn,e⟩
       rw [ETX.out,take_next (mTexts.map mTok) (mTok ⟨#[]⟩) i (by have:=Q4.out;have:=HLT.out;show i < 4;omega)] at ho
       have H3:=Aside0.mk (H2.out.below4 hb)
       have HK3:=Aside0.mk (Kept.of_grown hg HK2.out (fun k hk => .inl (.inr (HT.out.1 k hk))))
       have HT3:=Aside0.mk ho
       have f3:=blk_frozen H3.out.s 1
       clear ho hb hg hat
       refine hK.out _ _ ((blk_cell H3.out.s 1).trans rfl) (fun hHeld => ?_)
       clear hK K
       refine norm_ (a' := ?_) ?_ ?_
       rotate_left
       · show Act.put _ (some 48) _ = _
         simp only [pq]
         rfl
       refine pure_ (i:=10) (N:=some 49) (v:=?_) (a' := ?_) #[T,T,T,T,T,T,T,T,T,T,T,F] rfl rfl (by kernel_rfl) (fun _ _ _ h => h) (Or.inl ⟨by rfl,?_⟩) ?_ ?_
       rotate_left;(intro w';go_simp;with_reducible rfl);rotate_left;(simp only [pq];rfl)
       refine last_ (i:=11) (N:=none) #[T,T,T,T,T,T,T,T,T,T,T,T] rfl rfl (by kernel_rfl) (by decide) (fun K hK => ?_)
       refine skip_ (w1:=?_) (by rfl) rfl ?_ ?_
       rotate_left
       · go_simp
         rfl
       refine hK.out _ _ ?_
       clear hK K
       refine done_ (by kernel_rfl) ?_
       go_wp2
       go_roundg (q - (i + 1))
       case measure => have:=HM.out;have:=HLT.out;omega
       case rel => exact ⟨i + 1,_,rfl,by have:=HLT.out;omega,Nat.le_refl _,⟨H3.out.put1 _⟩,⟨Kept.setCell HK3.out (.inl (.inl (by simp))) _⟩,⟨Kd.R_kept HT3.out (Kept.setCell (Kept.refl _ (fun k => k = w.heap.size + 2)) (.inl rfl) _) (fun k hk => by have:=HB3.out;omega)⟩⟩
     · obtain rfl : i = q:=by omega
       clear hlt
       go_wp2
       go_meet
       case rel => exact ⟨vt,HI,HK,HT⟩
   case rest =>
    obtain ⟨vt,HI4,HK4,HT4⟩ := hcut
    obtain ⟨w4,ew4⟩ : ∃ w4 : World,w4 = wc:=⟨_,rfl⟩
    subst ew4
    clear HI3
    have HN4:=Aside0.mk (Kd.R_kept HN3b.out HK4.out (fun k hk h => by omega))
    clear HN3b
    go_upto_region 13 with fail
    have P3:=Aside0.mk (HI4.out.calls HR0.out 10 (by decide) (by decide) HU.out)
    have hw3 : IntKind.i64.wrap (1 + mPick l0 2 10) = 1 + mPick l0 2 10:=by have:=EC.out;have:=C10.out;rw [IntKind.wrap_i64];omega
    go_cut [10] from 14 (fun s10 wc => s10 = .int .i64 (c : Int) ∧ Aside0 (MadeI w A0 l0.length c0 3 vn vt (.slice none 0 0) wc) ∧ Aside0 (Kept w4 wc (fun k => k < w.heap.size + 4 ∨ w4.heap.size ≤ k)))
    case first =>
     go_wp2_with (first
       | (go_at_fn 21;(with_reducible refine P3.out.mono ?_);rintro e w5 ⟨rfl,HI5,HK5⟩;clear P3))
     go_meet
     case rel => exact ⟨congrArg _ EC.out,HI5,⟨Kept.mono HK5.out (fun k hk => .inl (by omega))⟩⟩
    case rest =>
     obtain ⟨rfl,HI5,HK5⟩ := hcut
     obtain ⟨w5,ew5⟩ : ∃ w5 : World,w5 = wc:=⟨_,rfl⟩
     subst ew5
     clear P3 hw3 HI4
     have HS4 : Aside0 (w.heap.size + 4 ≤ w4.heap.size) := ⟨by have:=HK4.out.1;have:=HB3.out;omega⟩
     go_wp2
     go_loopg [10,11,12] c (fun kq v10 v11 v12 wr => ∃ (i at_ : Nat) (vp : Value) (acc : List S30),v10 = .int .i64 (i : Int) ∧ i ≤ kq ∧ Aside0 (acc.length + i = c) ∧ Aside0 (at_ + 8 * i ≤ 3 + 8 * c) ∧ Aside0 (mProds l0 m q i at_ acc = mProds l0 m q c 3 []) ∧ Aside0 (MadeI w A0 l0.length c0 at_ vn vt vp wr) ∧ Aside0 (Kept w4 wr (fun k => k < w.heap.size + 4 ∨ w4.heap.size ≤ k)) ∧ Aside0 (Kd.S k30 30 wr (w.heap.size + 4) (fun k => w4.heap.size ≤ k) vp acc))
     case atStart => exact ⟨c,3,.slice none 0 0,[],rfl,by omega,⟨by simp⟩,⟨by omega⟩,⟨rfl⟩,HI5,HK5,⟨Kd.S_nil _ _ _ _ _⟩⟩
     case round =>
      clear HI5 HK5
      obtain ⟨i,at_,vp,acc,rfl,hi,HL,HAT,HM,HI,HK,HP⟩ := hrel
      cases i with
      | zero =>
       obtain ⟨An,ln,kn,rfl⟩ : ∃ An ln kn,vn = .slice An ln kn:=by obtain ⟨An,cn,e⟩ := Kd.R_slice HN4.out;exact ⟨An,_,cn,e⟩
       obtain ⟨At,lt,kt,rfl⟩ : ∃ At lt kt,vt = .slice At lt kt:=by obtain ⟨An,cn,e⟩ := Kd.R_slice HT4.out;exact ⟨An,_,cn,e⟩
       obtain ⟨Ap,lp,kp,rfl⟩ : ∃ Ap lp kp,vp = .slice Ap lp kp:=by obtain ⟨An,cn,e⟩ := Kd.S_slice HP.out;exact ⟨An,_,cn,e⟩
       obtain ⟨q0,q1,q2,q3,q4⟩ : wr.cell? ⟨w.heap.size + 2,0,none⟩ = some (.slice An ln kn) ∧ wr.cell? ⟨w.heap.size + 2,1,none⟩ = some (.slice At lt kt) ∧ wr.cell? ⟨w.heap.size + 2,2,none⟩ = some (.int .i64 0) ∧ wr.cell? ⟨w.heap.size + 2,3,none⟩ = some (.int .i64 0) ∧ wr.cell? ⟨w.heap.size + 2,4,none⟩ = some (.slice Ap lp kp) := ⟨(blk_cell HI.out.s 0).trans rfl,(blk_cell HI.out.s 1).trans rfl,(blk_cell HI.out.s 2).trans rfl,(blk_cell HI.out.s 3).trans rfl,(blk_cell HI.out.s 4).trans rfl⟩
       obtain ⟨q5,q6,q7,q8,q9⟩ : wr.cell? ⟨w.heap.size + 1,0,none⟩ = some (.slice none 0 0) ∧ wr.cell? ⟨w.heap.size + 1,1,none⟩ = some (.slice none 0 0) ∧ wr.cell? ⟨w.heap.size + 1,2,none⟩ = some (.int .i64 0) ∧ wr.cell? ⟨w.heap.size + 1,3,none⟩ = some (.int .i64 0) ∧ wr.cell? ⟨w.heap.size + 1,4,none⟩ = some (.slice none 0 0) := ⟨(blk_cell HI.out.r 0).trans rfl,(blk_cell HI.out.r 1).trans rfl,(blk_cell HI.out.r 2).trans rfl,(blk_cell HI.out.r 3).trans rfl,(blk_cell HI.out.r 4).trans rfl⟩
       have f5:=blk_frozen HI.out.r 0
       have f6:=blk_frozen HI.out.r 1
       have f7:=blk_frozen HI.out.r 2
       have f8:=blk_frozen HI.out.r 3
       have f9:=blk_frozen HI.out.r 4
       go_wp2
       refine bodyPost_ret (results_cell_row rfl _ _ (w.heap.size + 1) 26 #[.slice An ln kn,.slice At lt kt,.int .i64 0,.int .i64 0,.slice Ap lp kp] (0,0) _ rfl (by refine blk_put (cs:=#[.slice An ln kn,.slice At lt kt,.int .i64 0,.int .i64 0,.slice none 0 0]) ?_ 4 _ rfl;refine blk_put (cs:=#[.slice An ln kn,.slice At lt kt,.int .i64 0,.int .i64 0,.slice none 0 0]) ?_ 3 _ rfl;refine blk_put (cs:=#[.slice An ln kn,.slice At lt kt,.int .i64 0,.int .i64 0,.slice none 0 0]) ?_ 2 _ rfl;refine blk_put (cs:=#[.slice An ln kn,.slice none 0 0,.int .i64 0,.int .i64 0,.slice none 0 0]) ?_ 1 _ rfl;refine blk_put (cs:=#[.slice none 0 0,.slice none 0 0,.int .i64 0,.int .i64 0,.slice none 0 0]) ?_ 0 _ rfl;exact HI.out.r) Try.underlying26 rfl (by kernel_rfl)) rfl ?_
       have hS34 : w3.heap.size ≤ w4.heap.size:=HK4.out.1
       refine ⟨_,_,_,rfl,?_,?_,?_,?_⟩
       · exact Kd.R_lower (Kd.R_mono (Kd.R_kept (Kd.R_kept HN4.out HK.out (fun k hk h => by have:=HS4.out;omega)) (set5_kept wr _ _ _ _ _ _) (fun k hk h => by omega)) (fun _ _ => trivial)) (by omega)
       · exact Kd.R_lower (Kd.R_mono (Kd.R_kept (Kd.R_kept (Kd.R_mono (ok' := fun k => w3.heap.size ≤ k ∧ k < w4.heap.size) (Kd.R_bound HT4.out) (fun k hk => ⟨hk.1,hk.2.2.1⟩)) HK.out (fun k hk h => by have:=HB3.out;omega)) (set5_kept wr _ _ _ _ _ _) (fun k hk h => by have:=HB3.out;omega)) (fun _ _ => trivial)) (by omega)
       · have hp:=HM.out
         rw [mProds] at hp
         rw [← hp]
         exact Kd.S_lower (Kd.S_mono (Kd.S_kept HP.out (set5_kept wr _ _ _ _ _ _) (fun k hk h => by have:=HS4.out;omega)) (fun _ _ => trivial)) (by omega)
       · exact set5_below HI.out.bel (by omega) _ _ _ _ _
      | succ i =>
       have d0 : decide (((i + 1 : Nat) : Int) > 0) = true:=decide_eq_true (by omega)
       have d0b : (0 < ((i : Int) + 1)) = True:=eq_true (by omega)
       have P6:=Aside0.mk (HI.out.calls HR0.out (m : Int) (by have:=M1.out;omega) (by have:=HAT.out;have:=C10.out;omega) HU.out)
       have hpn:=mPick_lt HU.out (at_ + 1) (n:=4) (by decide)
       obtain ⟨cn,ecn,hcn⟩ : ∃ cn : Nat,mPick l0 (at_ + 1) 4 = (cn : Int) ∧ cn ≤ 3:=⟨(mPick l0 (at_ + 1) 4).toNat,by omega,by omega⟩
       have HATB : Aside0 (at_ + 8 * (i + 1) ≤ 83) := ⟨by have:=HAT.out;have:=C10.out;omega⟩
       have HCN:=Aside0.mk hcn
       have ECN:=Aside0.mk ecn
       clear hpn hcn ecn
       go_wp2_with (first
         | (go_at_fn 21;(with_reducible refine P6.out.mono ?_);rintro e w6 ⟨rfl,HI6,HK6⟩;clear P6;have HI7:=Aside0.mk (HI6.out.below (below_alloc (Below.refl _ w6) (.cells #[.int .i64 (mPick l0 at_ (m : Int)),.slice none 0 0] 30)));have P7:=Aside0.mk (HI7.out.calls HR0.out 4 (by decide) (by have:=HATB.out;omega) HU.out);rw [ECN.out] at P7)
         | (go_at_fn 21;(with_reducible refine P7.out.mono ?_);rintro e w7 ⟨rfl,HI8,HK8⟩;clear P7))
       have HB8:=Aside0.mk (blk_kept (heap_alloc_new w6 (.cells #[.int .i64 (mPick l0 at_ (m : Int)),.slice none 0 0] 30)) HK8.out (fun h => by have:=HI6.out.size;omega))
       have HSZ6 : Aside0 (wr.heap.size ≤ w6.heap.size ∧ w.heap.size + 4 ≤ wr.heap.size ∧ w4.heap.size ≤ wr.heap.size) := ⟨HK6.out.1,HI.out.size,HK.out.1⟩
       have HK9 : Aside0 (Kept wr w7 (fun k => k < w.heap.size + 4 ∨ wr.heap.size ≤ k)) := ⟨Kept.then_ (Kept.alloc (Kept.mono HK6.out (fun k hk => .inl (by omega))) (.cells #[.int .i64 (mPick l0 at_ (m : Int)),.slice none 0 0] 30)) HK8.out (fun k hk => .inl (.inl (by omega)))⟩
       clear HI7 HI6 HK6 HK8
       have HQI:=Aside0.mk hi
       have hwi : IntKind.i64.wrap (((i + 1 : Nat) : Int) - 1) = (i : Int) := by rw [IntKind.wrap_i64];have:=HL.out;have:=C10.out;omega
       clear hi
       obtain ⟨wo,ewo⟩ : ∃ wo : World,wo = wr:=⟨_,rfl⟩
       subst ewo
       go_loopg [12] cn (fun kq v12 wr => ∃ (j a2 : Nat) (vr : Value) (ar : List S53),v12 = .int .i64 (j : Int) ∧ j ≤ kq ∧ Aside0 (ar.length + j = cn) ∧ Aside0 (a2 + 2 * j ≤ at_ + 2 + 2 * cn) ∧ Aside0 (mRight l0 m q j a2 ar = mRight l0 m q cn (at_ + 2) []) ∧ Aside0 (MadeI w A0 l0.length c0 a2 vn vt vp wr) ∧ Aside0 (wr.heap[w6.heap.size]? = some (.cells #[.int .i64 (mPick l0 at_ (m : Int)),vr] 30 (0,0))) ∧ Aside0 (Kept wo wr (fun k => k < w.heap.size + 4 ∨ wo.heap.size ≤ k)) ∧ Aside0 (Kd.R k53 53 wr (w.heap.size + 4) (fun k => w6.heap.size < k) vr ar))
       case atStart => exact ⟨cn,at_ + 2,.slice none 0 0,[],rfl,by omega,⟨by simp⟩,⟨by omega⟩,⟨rfl⟩,HI8,HB8,HK9,⟨Kd.R_nil _ _ _ _ _⟩⟩
       case round =>
        clear HI8 HB8 HK9
        obtain ⟨j,a2,vr,ar,rfl,hj,HJL,HA2,HMR,HI8,HB8,HK9,HR8⟩ := hrel
        cases j with
        | zero =>
         have b0 : wr.cell? ⟨w6.heap.size,0,none⟩ = some (.int .i64 (mPick l0 at_ (m : Int))) := (blk_cell HB8.out 0).trans rfl
         have b1 : wr.cell? ⟨w6.heap.size,1,none⟩ = some vr:=(blk_cell HB8.out 1).trans rfl
         have q4 : wr.cell? ⟨w.heap.size + 2,4,none⟩ = some vp:=(blk_cell HI8.out.s 4).trans rfl
         have HPB:=Aside0.mk (Kd.S_kept (Kd.S_mono (ok' := fun k => w4.heap.size ≤ k ∧ k < wo.heap.size) (Kd.S_bound HP.out) (fun k hk => ⟨hk.1,hk.2.2.1⟩)) HK9.out (fun k hk h => by have:=HS4.out;omega))
         have HKw:=Aside0.mk (Kept.then_ HK.out HK9.out (fun k hk => hk.elim (fun h => .inl (.inl h)) (fun h => .inl (.inr (by have:=HSZ6.out;omega)))))
         have HSi:=Aside0.mk HI8.out.size
         have HSw : Aside0 (w4.heap.size ≤ wr.heap.size) := ⟨HKw.out.1⟩
         have HACC : Aside0 (acc.length ≤ 10) := ⟨by have:=HL.out;have:=C10.out;omega⟩
         go_wp2_with (first
           | ((with_reducible refine gate_builtin (b := .append) (xs:=#[.tmp 89,.tmp 91]) rfl ?_);at_builtin;refine Kd.S_append k30 (w0:=wr) (w.heap.size + 4) rfl (.tmp 89) (.tmp 91) 24 30 (.agg #[.int .i64 0,.slice none 0 0]) 32 rfl Try.underlying24 miProd rfl (by decide) (by omega) vp acc (⟨mPick l0 at_ (m : Int),ar⟩ : S30) [.int .i64 (mPick l0 at_ (m : Int)),vr] (fun k => w4.heap.size ≤ k) (fun k => w6.heap.size < k) rfl rfl (k30_mkM _ _ _ (⟨mPick l0 at_ (m : Int),ar⟩ : S30) HR8.out) (fun k hk => ⟨by have:=HSZ6.out;omega,fun e => by have:=(Kd.S_R HPB.out).1 k e.symm;have:=HSZ6.out;omega⟩) (fun k hk => Nat.le_trans HSw.out hk) (Kd.S_mono HPB.out (fun k hk => ⟨hk.1,by have:=HSZ6.out;omega⟩)) (Below.refl _ _) HSi.out (by have:=HACC.out;omega) ?_;intro v1 w10 ho hb hg hat;obtain ⟨Ap,lp,kp,rfl⟩ : ∃ An ln cn,v1 = .slice An ln cn:=(by obtain ⟨An,cn,e⟩ := Kd.S_slice ho;exact ⟨An,_,cn,e⟩);have HI12:=Aside0.mk (HI8.out.below4 hb);have HK12:=Aside0.mk (Kept.of_grown hg HKw.out (fun k hk => .inl (.inr ((Kd.S_R HPB.out).1 k hk).1)));have HS12:=Aside0.mk ho;have f4:=blk_frozen HI12.out.s 4;have q4' : w10.cell? ⟨w.heap.size + 2,4,none⟩ = some vp:=(blk_cell HI12.out.s 4).trans rfl;clear ho hb hg hat q4 b0 b1))
         go_roundg i
         case measure => have:=HQI.out;omega
         case rel => exact ⟨i,a2,_,acc ++ [⟨mPick l0 at_ (m : Int),ar⟩],congrArg (Value.int .i64) (by unfold wrap64;have:=HACC.out;have:=HL.out;have:=C10.out;omega),Nat.le_refl _,⟨by have:=HL.out;simp;omega⟩,⟨by have:=HAT.out;have:=HA2.out;have:=HCN.out;omega⟩,⟨by have h:=HM.out;rw [mProds,ECN.out,Int.toNat_natCast,← HMR.out,mRight] at h;exact h⟩,⟨HI12.out.put4 _⟩,⟨Kept.setCell HK12.out (.inl (.inl (by simp))) _⟩,⟨Kd.S_kept HS12.out (Kept.setCell (Kept.refl _ (fun k => k = w.heap.size + 2)) (.inl rfl) _) (fun k hk h => by have:=HS4.out;omega)⟩⟩
        | succ j =>
         have d2 : (0 < ((j : Int) + 1)) = True:=eq_true (by omega)
         have P8:=Aside0.mk (HI8.out.calls HR0.out 2 (by decide) (by have:=HATB.out;have:=HA2.out;have:=HCN.out;omega) HU.out)
         have HJ:=Aside0.mk hj
         clear hj
         by_cases hz : mPick l0 a2 2 = 0
         · rw [hz] at P8
           go_wp2_with (first
             | (go_at_fn 21;(with_reducible refine P8.out.mono ?_);rintro e w8 ⟨rfl,HI10,HK10⟩;clear P8))
           have HZ:=Aside0.mk hz
           clear hz
           have HI10d:=Aside0.mk (HI10.out.below (below_drew1 (Below.refl _ w8)))
           have P9:=Aside0.mk (HI10d.out.calls HR0.out (q : Int) (by have:=Q1.out;omega) (by have:=HATB.out;have:=HA2.out;have:=HCN.out;omega) HU.out)
           obtain ⟨x,ex⟩ : ∃ x : Int,x = mPick l0 (a2 + 1) (q : Int) := ⟨_,rfl⟩
           rw [← ex] at P9
           have EX:=Aside0.mk ex
           have HB10:=Aside0.mk (blk_kept HB8.out HK10.out (fun h => by have:=HSZ6.out;omega))
           have HR10:=Aside0.mk (Kd.R_kept HR8.out HK10.out (fun k hk h => by have:=HSZ6.out;omega))
           have HK12:=Aside0.mk (Kept.then_ HK9.out HK10.out (fun k hk => .inl (.inl (by omega))))
           have HARL : Aside0 (ar.length ≤ 3) := ⟨by have:=HJL.out;have:=HCN.out;omega⟩
           clear ex
           refine start_ (n:=10) (S:=fun w' => w'.cell? ⟨w6.heap.size,1,none⟩ = some vr) (ds := [9]) #[F,F,F,F,F,F,F,F,F,F] (by kernel_rfl) rfl rfl ((blk_cell HB10.out 1).trans rfl) (fun hHeld => ?_)
           refine pure_ (i:=0) (N:=some 70) (v:=?_) (a' := ?_) #[T,F,F,F,F,F,F,F,F,F] rfl rfl (by kernel_rfl) (fun _ _ _ h => h) (Or.inl ⟨by rfl,?_⟩) ?_ ?_
           rotate_left;(intro w';go_simp;with_reducible rfl);rotate_left;(simp only [pq];rfl)
           refine pure_ (i:=2) (N:=some 72) (v:=?_) (a' := ?_) #[T,F,T,F,F,F,F,F,F,F] rfl rfl (by kernel_rfl) (fun _ _ _ h => h) (Or.inl ⟨by rfl,?_⟩) ?_ ?_
           rotate_left;(intro w';go_simp;with_reducible rfl);rotate_left;(simp only [pq];rfl)
           refine pure_ (i:=3) (N:=some 73) (v:=?_) (a' := ?_) #[T,F,T,T,F,F,F,F,F,F] rfl rfl (by kernel_rfl) (fun _ _ _ h => h) (Or.inl ⟨by rfl,?_⟩) ?_ ?_
           rotate_left;(intro w';go_simp;with_reducible rfl);rotate_left;(simp only [pq];rfl)
           refine take_ (i:=1) (N:=some 71) (v:=?_) (a' := ?_) #[T,T,T,T,F,F,F,F,F,F] rfl rfl (by kernel_rfl) (fun _ _ _ h => h) (Or.inl ⟨by rfl,?_⟩) hHeld ?_ ?_
           rotate_left
           · intro w' s0
             go_simp
             with_reducible rfl
           rotate_left
           · simp only [pq]
             rfl
           refine one_ (i:=4) (N:=some 74) #[T,T,T,T,T,F,F,F,F,F] rfl rfl (by kernel_rfl) (by decide) (fun K hK => ?_)
           refine call_ 21 #[.int .i64 (q : Int),.pointer (some ⟨w.heap.size + 3,0,none⟩),.pointer (some ⟨w.heap.size,0,none⟩)] (by rfl) rfl (by unfold execOp;simp [resolve,Deferred.ofValue,invoke,Act.eval,eg]) ?_
           with_reducible refine P9.out.mono ?_
           rintro e w9 ⟨rfl,HI11,HK11⟩
           refine ⟨_,rfl,?_⟩
           have HB11:=Aside0.mk (blk_kept (W:=w8.drew) HB10.out HK11.out (fun h => by have:=HSZ6.out;omega))
           have HR11:=Aside0.mk (Kd.R_kept (Kd.R_drew HR10.out) HK11.out (fun k hk h => by have:=HSZ6.out;omega))
           have HK13:=Aside0.mk (Kept.then_ (Kept.drew HK12.out) HK11.out (fun k hk => .inl (.inl (by omega))))
           have HS11:=Aside0.mk HI11.out.size
           have HL11 : Aside0 (w6.heap.size < w9.heap.size) := ⟨blk_lt HB11.out⟩
           refine hK.out _ _ ((blk_cell HB11.out 1).trans rfl) (fun hHeld => ?_)
           clear hK K
           refine norm_ (a' := ?_) ?_ ?_
           rotate_left
           · show Act.put _ (some 74) _ = _
             simp only [pq]
             rfl
           refine pure_ (i:=5) (N:=some 75) (v:=?_) (a' := ?_) #[T,T,T,T,T,T,F,F,F,F] rfl rfl (by kernel_rfl) (fun _ _ _ h => h) (Or.inl ⟨by rfl,?_⟩) ?_ ?_
           rotate_left;(intro w';go_simp;with_reducible rfl);rotate_left;(simp only [pq];rfl)
           refine one_ (i:=6) (N:=some 76) #[T,T,T,T,T,T,T,F,F,F] rfl rfl (by kernel_rfl) (by decide) (fun K hK => ?_)
           refine value_ (w1:=?_) (v:=?_) (by rfl) rfl ?_ ?_
           rotate_left 2
           · go_simp
             constructor
             · rfl
             · rfl
           refine hK.out _ _ ((blk_cell (blk_alloc HB11.out _) 1).trans rfl) (fun hHeld => ?_)
           clear hK K
           refine norm_ (a' := ?_) ?_ ?_
           rotate_left
           · show Act.put _ (some 76) _ = _
             simp only [pq]
             rfl
           refine one_ (i:=7) (N:=some 77) #[T,T,T,T,T,T,T,T,F,F] rfl rfl (by kernel_rfl) (by decide) (fun K hK => ?_)
           refine Kd.R_append_step k53 (w0:=w9) (w.heap.size + 4) (by rfl) (.tmp 71) (.tmp 76) 28 53 (.agg #[.bool false,.int .i64 0]) 16 rfl Try.underlying28 miSym rfl (by decide) (by omega) vr ar (⟨true,x⟩ : S53) [.bool true,.int .i64 x] (fun k => w6.heap.size < k) (fun _ => False) rfl rfl (k53_mkM _ _ _ (⟨true,x⟩ : S53)) (fun _ hk => hk.elim) (fun k hk => Nat.lt_of_lt_of_le HL11.out hk) HR11.out (Below.refl _ _) HS11.out (by have:=HARL.out;omega) ?_
           intro v1 w1 ho hb hg hat
           obtain ⟨An,ln,kn,rfl⟩ : ∃ An ln cn,v1 = .slice An ln cn:=by obtain ⟨An,cn,e⟩ := Kd.R_slice ho;exact ⟨An,_,cn,e⟩
           have HI12:=Aside0.mk (HI11.out.below4 hb)
           have HB12:=Aside0.mk (blk_grown HB11.out hg (fun e => Nat.lt_irrefl _ (HR11.out.1 _ e.symm)))
           have HK14:=Aside0.mk (Kept.of_grown hg HK13.out (fun k hk => .inl (.inr (by have:=HR11.out.1 k hk;have:=HSZ6.out;omega))))
           have HR12:=Aside0.mk ho
           have f3:=blk_frozen HB12.out 1
           clear ho hb hg hat
           refine hK.out _ _ ((blk_cell HB12.out 1).trans rfl) (fun hHeld => ?_)
           clear hK K
           refine norm_ (a' := ?_) ?_ ?_
           rotate_left
           · show Act.put _ (some 77) _ = _
             simp only [pq]
             rfl
           refine pure_ (i:=8) (N:=some 78) (v:=?_) (a' := ?_) #[T,T,T,T,T,T,T,T,T,F] rfl rfl (by kernel_rfl) (fun _ _ _ h => h) (Or.inl ⟨by rfl,?_⟩) ?_ ?_
           rotate_left;(intro w';go_simp;with_reducible rfl);rotate_left;(simp only [pq];rfl)
           refine last_ (i:=9) (N:=none) #[T,T,T,T,T,T,T,T,T,T] rfl rfl (by kernel_rfl) (by decide) (fun K hK => ?_)
           refine skip_ (w1:=?_) (by rfl) rfl ?_ ?_
           rotate_left
           · go_simp
             rfl
           refine hK.out _ _ ?_
           clear hK K
           refine done_ (by kernel_rfl) ?_
           go_wp2
           go_roundg j
           case measure => have:=HJ.out;omega
           case rel => exact ⟨j,a2 + 2,_,ar ++ [⟨true,x⟩],congrArg (Value.int .i64) (by unfold wrap64;have:=HJL.out;have:=HCN.out;omega),Nat.le_refl _,⟨by have:=HJL.out;simp;omega⟩,⟨by have:=HA2.out;omega⟩,⟨by have h:=HMR.out;rw [mRight,if_pos HZ.out,← EX.out] at h;exact h⟩,⟨HI12.out.below4 ((Below.refl _ _).setCell (show w.heap.size + 4 ≤ w6.heap.size by have:=HSZ6.out;omega) _)⟩,⟨blk_put HB12.out 1 _ rfl⟩,⟨Kept.setCell HK14.out (.inl (.inr (show wo.heap.size ≤ w6.heap.size from HSZ6.out.1))) _⟩,⟨Kd.R_kept HR12.out (Kept.setCell (Kept.refl _ (fun k => k = w6.heap.size)) (.inl rfl) _) (fun k hk h => by omega)⟩⟩
         · have hzd : (mPick l0 a2 2 = 0) = False:=eq_false hz
           go_wp2_with (first
             | (go_at_fn 21;(with_reducible refine P8.out.mono ?_);rintro e w8 ⟨rfl,HI10,HK10⟩;clear P8))
           have HZ:=Aside0.mk hz
           clear hz
           have HI10d:=Aside0.mk (HI10.out.below (below_drew1 (Below.refl _ w8)))
           have P9:=Aside0.mk (HI10d.out.calls HR0.out (m : Int) (by have:=M1.out;omega) (by have:=HATB.out;have:=HA2.out;have:=HCN.out;omega) HU.out)
           obtain ⟨x,ex⟩ : ∃ x : Int,x = mPick l0 (a2 + 1) (m : Int) := ⟨_,rfl⟩
           rw [← ex] at P9
           have EX:=Aside0.mk ex
           have HB10:=Aside0.mk (blk_kept HB8.out HK10.out (fun h => by have:=HSZ6.out;omega))
           have HR10:=Aside0.mk (Kd.R_kept HR8.out HK10.out (fun k hk h => by have:=HSZ6.out;omega))
           have HK12:=Aside0.mk (Kept.then_ HK9.out HK10.out (fun k hk => .inl (.inl (by omega))))
           have HARL : Aside0 (ar.length ≤ 3) := ⟨by have:=HJL.out;have:=HCN.out;omega⟩
           clear ex
           refine start_ (n:=10) (S:=fun w' => w'.cell? ⟨w6.heap.size,1,none⟩ = some vr) (ds := [9]) #[F,F,F,F,F,F,F,F,F,F] (by kernel_rfl) rfl rfl ((blk_cell HB10.out 1).trans rfl) (fun hHeld => ?_)
           refine pure_ (i:=0) (N:=some 79) (v:=?_) (a' := ?_) #[T,F,F,F,F,F,F,F,F,F] rfl rfl (by kernel_rfl) (fun _ _ _ h => h) (Or.inl ⟨by rfl,?_⟩) ?_ ?_
           rotate_left;(intro w';go_simp;with_reducible rfl);rotate_left;(simp only [pq];rfl)
           refine pure_ (i:=2) (N:=some 81) (v:=?_) (a' := ?_) #[T,F,T,F,F,F,F,F,F,F] rfl rfl (by kernel_rfl) (fun _ _ _ h => h) (Or.inl ⟨by rfl,?_⟩) ?_ ?_
           rotate_left;(intro w';go_simp;with_reducible rfl);rotate_left;(simp only [pq];rfl)
           refine pure_ (i:=3) (N:=some 82) (v:=?_) (a' := ?_) #[T,F,T,T,F,F,F,F,F,F] rfl rfl (by kernel_rfl) (fun _ _ _ h => h) (Or.inl ⟨by rfl,?_⟩) ?_ ?_
           rotate_left;(intro w';go_simp;with_reducible rfl);rotate_left;(simp only [pq];rfl)
           refine take_ (i:=1) (N:=some 80) (v:=?_) (a' := ?_) #[T,T,T,T,F,F,F,F,F,F] rfl rfl (by kernel_rfl) (fun _ _ _ h => h) (Or.inl ⟨by rfl,?_⟩) hHeld ?_ ?_
           rotate_left
           · intro w' s0
             go_simp
             with_reducible rfl
           rotate_left
           · simp only [pq]
             rfl
           refine one_ (i:=4) (N:=some 83) #[T,T,T,T,T,F,F,F,F,F] rfl rfl (by kernel_rfl) (by decide) (fun K hK => ?_)
           refine call_ 21 #[.int .i64 (m : Int),.pointer (some ⟨w.heap.size + 3,0,none⟩),.pointer (some ⟨w.heap.size,0,none⟩)] (by rfl) rfl (by unfold execOp;simp [resolve,Deferred.ofValue,invoke,Act.eval,eg]) ?_
           with_reducible refine P9.out.mono ?_
           rintro e w9 ⟨rfl,HI11,HK11⟩
           refine ⟨_,rfl,?_⟩
           have HB11:=Aside0.mk (blk_kept (W:=w8.drew) HB10.out HK11.out (fun h => by have:=HSZ6.out;omega))
           have HR11:=Aside0.mk (Kd.R_kept (Kd.R_drew HR10.out) HK11.out (fun k hk h => by have:=HSZ6.out;omega))
           have HK13:=Aside0.mk (Kept.then_ (Kept.drew HK12.out) HK11.out (fun k hk => .inl (.inl (by omega))))
           have HS11:=Aside0.mk HI11.out.size
           have HL11 : Aside0 (w6.heap.size < w9.heap.size) := ⟨blk_lt HB11.out⟩
           refine hK.out _ _ ((blk_cell HB11.out 1).trans rfl) (fun hHeld => ?_)
           clear hK K
           refine norm_ (a' := ?_) ?_ ?_
           rotate_left
           · show Act.put _ (some 83) _ = _
             simp only [pq]
             rfl
           refine pure_ (i:=5) (N:=some 84) (v:=?_) (a' := ?_) #[T,T,T,T,T,T,F,F,F,F] rfl rfl (by kernel_rfl) (fun _ _ _ h => h) (Or.inl ⟨by rfl,?_⟩) ?_ ?_
           rotate_left;(intro w';go_simp;with_reducible rfl);rotate_left;(simp only [pq];rfl)
           refine one_ (i:=6) (N:=some 85) #[T,T,T,T,T,T,T,F,F,F] rfl rfl (by kernel_rfl) (by decide) (fun K hK => ?_)
           refine value_ (w1:=?_) (v:=?_) (by rfl) rfl ?_ ?_
           rotate_left 2
           · go_simp
             constructor
             · rfl
             · rfl
           refine hK.out _ _ ((blk_cell (blk_alloc HB11.out _) 1).trans rfl) (fun hHeld => ?_)
           clear hK K
           refine norm_ (a' := ?_) ?_ ?_
           rotate_left
           · show Act.put _ (some 85) _ = _
             simp only [pq]
             rfl
           refine one_ (i:=7) (N:=some 86) #[T,T,T,T,T,T,T,T,F,F] rfl rfl (by kernel_rfl) (by decide) (fun K hK => ?_)
           refine Kd.R_append_step k53 (w0:=w9) (w.heap.size + 4) (by rfl) (.tmp 80) (.tmp 85) 28 53 (.agg #[.bool false,.int .i64 0]) 16 rfl Try.underlying28 miSym rfl (by decide) (by omega) vr ar (⟨false,x⟩ : S53) [.bool false,.int .i64 x] (fun k => w6.heap.size < k) (fun _ => False) rfl rfl (k53_mkM _ _ _ (⟨false,x⟩ : S53)) (fun _ hk => hk.elim) (fun k hk => Nat.lt_of_lt_of_le HL11.out hk) HR11.out (Below.refl _ _) HS11.out (by have:=HARL.out;omega) ?_
           intro v1 w1 ho hb hg hat
           obtain ⟨An,ln,kn,rfl⟩ : ∃ An ln cn,v1 = .slice An ln cn:=by obtain ⟨An,cn,e⟩ := Kd.R_slice ho;exact ⟨An,_,cn,e⟩
           have HI12:=Aside0.mk (HI11.out.below4 hb)
           have HB12:=Aside0.mk (blk_grown HB11.out hg (fun e => Nat.lt_irrefl _ (HR11.out.1 _ e.symm)))
           have HK14:=Aside0.mk (Kept.of_grown hg HK13.out (fun k hk => .inl (.inr (by have:=HR11.out.1 k hk;have:=HSZ6.out;omega))))
           have HR12:=Aside0.mk ho
           have f3:=blk_frozen HB12.out 1
           clear ho hb hg hat
           refine hK.out _ _ ((blk_cell HB12.out 1).trans rfl) (fun hHeld => ?_)
           clear hK K
           refine norm_ (a' := ?_) ?_ ?_
           rotate_left
           · show Act.put _ (some 86) _ = _
             simp only [pq]
             rfl
           refine pure_ (i:=8) (N:=some 87) (v:=?_) (a' := ?_) #[T,T,T,T,T,T,T,T,T,F] rfl rfl (by kernel_rfl) (fun _ _ _ h => h) (Or.inl ⟨by rfl,?_⟩) ?_ ?_
           rotate_left;(intro w';go_simp;with_reducible rfl);rotate_left;(simp only [pq];rfl)
           refine last_ (i:=9) (N:=none) #[T,T,T,T,T,T,T,T,T,T] rfl rfl (by kernel_rfl) (by decide) (fun K hK => ?_)
           refine skip_ (w1:=?_) (by rfl) rfl ?_ ?_
           rotate_left
           · go_simp
             rfl
           refine hK.out _ _ ?_
           clear hK K
           refine done_ (by kernel_rfl) ?_
           go_wp2
           go_roundg j
           case measure => have:=HJ.out;omega
           case rel => exact ⟨j,a2 + 2,_,ar ++ [⟨false,x⟩],congrArg (Value.int .i64) (by unfold wrap64;have:=HJL.out;have:=HCN.out;omega),Nat.le_refl _,⟨by have:=HJL.out;simp;omega⟩,⟨by have:=HA2.out;omega⟩,⟨by have h:=HMR.out;rw [mRight,if_neg HZ.out,← EX.out] at h;exact h⟩,⟨HI12.out.below4 ((Below.refl _ _).setCell (show w.heap.size + 4 ≤ w6.heap.size by have:=HSZ6.out;omega) _)⟩,⟨blk_put HB12.out 1 _ rfl⟩,⟨Kept.setCell HK14.out (.inl (.inr (show wo.heap.size ≤ w6.heap.size from HSZ6.out.1))) _⟩,⟨Kd.R_kept HR12.out (Kept.setCell (Kept.refl _ (fun k => k = w6.heap.size)) (.inl rfl) _) (fun k hk h => by omega)⟩⟩
end Go.Proofs.Ytfdcfihcfegekaa.P
end
