/- Packed texts of this claim: the walks of the functions, and their plain laws; see the claim's last text. -/
import Derived.Deep.RegionHeld3
import Derived.WalkSpells
import Derived.Outline
import Derived.BigQuiet
import Derived.Deep.Cut
import Derived.Test.YtfdcfihcfegekaaKPredictClashes3
section
namespace Go.Proofs.Ytfdcfihcfegekaa.P
open Go.RowKit Go.Proofs.YtfdcfihcfegekaaW.PrintWords Go.Proofs.YtfdcfihcfegekaaW.PrintLast Go.Proofs.YtfdcfihcfegekaaW.PrintMore
attribute [local go_sem] max2_int min2_int max_two min_two max_three min_three max_four min_four   -- for this text's walks alone
set_option linter.unusedVariables false
set_option linter.unusedSimpArgs false
mutual
def regletref13_Right.l0 : Nat → Int → List ByteArray → List (S61) → Int → Int → List (S30) → Option (Bool)
  | 0,_,_,_,_,_,_ => none
  | k + 1,x3,x225000,x225001,x225002,x225003,x225004 => if x3 < (x225004.length : Int) then (if 0 ≤ x3 then (if ((rd_T30 x225004 x3).f0) < 0 then (regletref13_Right.j1 k x3 true x225000 x225001 x225002 x225003 x225004 ((rd_T30 x225004 x3).f0) ((rd_T30 x225004 x3).f1)) else (regletref13_Right.j1 k x3 (decide (((rd_T30 x225004 x3).f0) ≥ (x225000.length : Int))) x225000 x225001 x225002 x225003 x225004 ((rd_T30 x225004 x3).f0) ((rd_T30 x225004 x3).f1))) else (none)) else (some true)
def regletref13_Right.j1 : Nat → Int → Bool → List ByteArray → List (S61) → Int → Int → List (S30) → Int → List (S53) → Option (Bool)
  | 0,_,_,_,_,_,_,_,_,_ => none
  | k + 1,x3,x29,x225000,x225001,x225002,x225003,x225004,x227000,x227001 => if x29 = true then (some false) else (regletref13_Right.l1 k x3 0 x225000 x225001 x225002 x225003 x225004 x227000 x227001)
def regletref13_Right.l1 : Nat → Int → Int → List ByteArray → List (S61) → Int → Int → List (S30) → Int → List (S53) → Option (Bool)
  | 0,_,_,_,_,_,_,_,_,_ => none
  | k + 1,x3,x5,x225000,x225001,x225002,x225003,x225004,x227000,x227001 => if x5 < (x227001.length : Int) then (if 0 ≤ x5 then (if (rd_T53 x227001 x5).f0 = true then (if ((rd_T53 x227001 x5).f1) < 0 then (some false) else (if ((rd_T53 x227001 x5).f1) ≥ (x225001.length : Int) then (some false) else (regletref13_Right.l1 k x3 (wrap64 (x5 + 1)) x225000 x225001 x225002 x225003 x225004 x227000 x227001))) else (if ((rd_T53 x227001 x5).f1) < 0 then (some false) else (if ((rd_T53 x227001 x5).f1) ≥ (x225000.length : Int) then (some false) else (regletref13_Right.l1 k x3 (wrap64 (x5 + 1)) x225000 x225001 x225002 x225003 x225004 x227000 x227001)))) else (none)) else (regletref13_Right.l0 k (wrap64 (x3 + 1)) x225000 x225001 x225002 x225003 x225004)
end
def regletref13_Right.f (k : Nat) (l0_0 : List ByteArray) (l0_1 : List (S61)) (a0_2 : Int) (a0_3 : Int) (l0_4 : List (S30)) : Option (Bool) := regletref13_Right.l0 k 0 l0_0 l0_1 a0_2 a0_3 l0_4
set_option maxHeartbeats 8000000 in
set_option maxRecDepth 100000 in
theorem regletref13_Right.calls (k : Nat) (A0_0 : Option Addr) (c0_0 : Nat) (l0_0 : List ByteArray) (A0_1 : Option Addr) (c0_1 : Nat) (l0_1 : List (S61)) (a0_2 : Int) (a0_3 : Int) (A0_4 : Option Addr) (c0_4 : Nat) (l0_4 : List (S30)) (r : Bool) (w : World) (hr0_0 : Kd.C Kd.string w A0_0 l0_0.length l0_0) (hc0_0 : l0_0.length ≤ c0_0) (hr0_1 : Kd.C k61 w A0_1 l0_1.length l0_1) (hc0_1 : l0_1.length ≤ c0_1) (hr0_4 : Kd.C k30 w A0_4 l0_4.length l0_4) (hc0_4 : l0_4.length ≤ c0_4) (h : regletref13_Right.f k l0_0 l0_1 a0_2 a0_3 l0_4 = some r) :
    Calls Try.prog 25 #[.agg #[.slice A0_0 l0_0.length c0_0,.slice A0_1 l0_1.length c0_1,.int .i64 a0_2,.int .i64 a0_3,.slice A0_4 l0_4.length c0_4]] w fun e w' => e = .returned (.bool r) ∧ Below w.heap.size w w' := by
 have hu26:=Try.underlying26
 have hu30:=Try.underlying30
 have HR0_0:=Aside0.mk hr0_0
 have HC0_0:=Aside0.mk hc0_0
 clear hr0_0 hc0_0
 have HR0_1:=Aside0.mk hr0_1
 have HC0_1:=Aside0.mk hc0_1
 clear hr0_1 hc0_1
 have HR0_4:=Aside0.mk hr0_4
 have HC0_4:=Aside0.mk hc0_4
 clear hr0_4 hc0_4
 have HB:=Aside0.mk (Below.refl w.heap.size w)
 have H : (regletref13_Right.l0 k 0 l0_0 l0_1 a0_2 a0_3 l0_4) = some r:=h
 clear h
 have H' := Aside0.mk H
 clear H
 go_enter Try.func25,Try.ntmps25
 go_wp2_with (first | ((with_reducible refine gate_dst (N:=1) rfl ?_);(try (refine gate_guard (by rfl) ?_;dsimp only));refine box_event ?hg (N:=1) ?hd (cs:=#[.slice A0_0 l0_0.length c0_0,.slice A0_1 l0_1.length c0_1,.int .i64 a0_2,.int .i64 a0_3,.slice A0_4 l0_4.length c0_4]) (t:=26) ?hr ?_;(case hd => rfl);(case hg => rfl);(case hr => first | (go_simp;done) | (go_simp;rfl));intro gb224 hg w2 hbox hb;have n0_:=Aside0.mk (below_step (by repeat (first | (with_reducible first | exact HB.out | apply below_alloc | apply pw_below_drewN | apply below_drew1) | exact HB.out)) hb);have n1_:=Aside0.mk (hbox);have n2_:=Aside0.mk ((by rw [hg];exact (below_size (by repeat (first | (with_reducible first | exact HB.out | apply below_alloc | apply pw_below_drewN | apply below_drew1) | exact HB.out))) : w.heap.size ≤ gb224));have n3_:=Aside0.mk ((by rw [hg];exact (below_size (by repeat (first | (with_reducible first | exact HB.out | apply below_alloc | apply pw_below_drewN | apply below_drew1) | exact HB.out))) : w.heap.size ≤ gb224));clear HB;have HB:=n0_;have BK224:=n1_;have GW224:=n2_;have GE224:=n3_;clear n0_ n1_ n2_ n3_;clear hb hbox hg))
 go_loopg [3] k (fun kq v3 w' => ∃ (x3_1 : Int),v3 = .int .i64 x3_1 ∧ Aside0 (regletref13_Right.l0 kq x3_1 l0_0 l0_1 a0_2 a0_3 l0_4 = some r) ∧ Aside0 (kq ≤ k) ∧ Aside0 (w'.heap[gb224]? = some (.cells #[(.slice A0_0 l0_0.length c0_0),(.slice A0_1 l0_1.length c0_1),.int .i64 a0_2,.int .i64 a0_3,(.slice A0_4 l0_4.length c0_4)] 26 (0,0))) ∧ Aside0 (Below w.heap.size w w'))
 case atStart => exact ⟨(0),(by first | rfl | (simp;done) | (simp [*];done)),H',⟨Nat.le_refl _⟩,⟨by (with_reducible repeat (first | refine blk_drewN ?_ _ | refine blk_drew ?_ | refine blk_alloc ?_ _));exact BK224.out⟩,⟨by repeat (first | (with_reducible first | exact HB.out | apply below_alloc | apply pw_below_drewN | apply below_drew1 | refine below_set ?_ GE224.out) | exact HB.out)⟩⟩
 case round =>
  clear H'
  (try clear c2);(try clear p2)
  obtain ⟨x3_1,rfl,HA,HK1,BK224,HB⟩ := hrel
  cases gk with
  | zero => exact absurd HA.out (by simp [regletref13_Right.l0])
  | succ k1 =>
   have H:=HA.out
   clear HA
   simp only [regletref13_Right.l0] at H
   by_cases c3 : x3_1 < (l0_4.length : Int)
   · rw [if_pos c3] at H
     have c3b0 : decide (x3_1 < (l0_4.length : Int)) = true:=decide_eq_true c3
     clear c3
     by_cases c4 : 0 ≤ x3_1
     rotate_left
     · rw [if_neg c4] at H
       exact absurd H (by simp)
     rw [if_pos c4] at H
     have c4b0 : decide (0 ≤ x3_1) = true:=decide_eq_true c4
     clear c4
     have HC5:=Aside0.mk H
     clear H
     have hcz6_0 : wr.cell? ⟨gb224,0,none⟩ = some (.slice A0_0 l0_0.length c0_0) := (blk_cell BK224.out 0).trans rfl
     have hcz6_1 : wr.cell? ⟨gb224,1,none⟩ = some (.slice A0_1 l0_1.length c0_1) := (blk_cell BK224.out 1).trans rfl
     have hcz6_2 : wr.cell? ⟨gb224,2,none⟩ = some (.int .i64 a0_2) := (blk_cell BK224.out 2).trans rfl
     have hcz6_3 : wr.cell? ⟨gb224,3,none⟩ = some (.int .i64 a0_3) := (blk_cell BK224.out 3).trans rfl
     have hcz6_4 : wr.cell? ⟨gb224,4,none⟩ = some (.slice A0_4 l0_4.length c0_4) := (blk_cell BK224.out 4).trans rfl
     have hfz6_0:=blk_frozen BK224.out 0
     have hfz6_1:=blk_frozen BK224.out 1
     have hfz6_2:=blk_frozen BK224.out 2
     have hfz6_3:=blk_frozen BK224.out 3
     have hfz6_4:=blk_frozen BK224.out 4
     have p225 : 0 ≤ (x3_1 : Int) := of_decide_eq_true (by first | (with_reducible assumption) | assumption)
     have q225 : x3_1 < (l0_4.length : Int) := of_decide_eq_true (by first | (with_reducible assumption) | assumption)
     obtain ⟨ad225,A225_1,c225_1,e225,hx225_0,hx225_1,hl225_1,hi225_1⟩ := at_T30 HR0_4.out x3_1 p225 q225
     cases e225
     replace hx225_0:=(HB.out.cell (World.block_lt_of_cell? w _ hx225_0)).trans hx225_0
     replace hx225_1:=(HB.out.cell (World.block_lt_of_cell? w _ hx225_1)).trans hx225_1
     have HR225_1:=Aside0.mk hi225_1
     have HC225_1:=Aside0.mk hl225_1
     clear hi225_1 hl225_1
     replace p225:=eq_true p225
     replace q225:=eq_true q225
     go_upto_region 5 with (first | ((with_reducible refine gate_dst (N:=4) rfl ?_);(try (refine gate_guard (by rfl) ?_;dsimp only));refine box_event ?hg (N:=4) ?hd (cs:=#[.int .i64 0,.slice none 0 0]) (t:=30) ?hr ?_;(case hd => rfl);(case hg => rfl);(case hr => first | (go_simp;done) | (go_simp;rfl));intro gb226 hg w7 hbox hb;have n0_:=Aside0.mk (blk_below (g:=gb224) (o := .cells #[.slice A0_0 l0_0.length c0_0,.slice A0_1 l0_1.length c0_1,.int .i64 a0_2,.int .i64 a0_3,.slice (some ad225) l0_4.length c0_4] 26 (0,0)) (by (with_reducible repeat (first | refine blk_drewN ?_ _ | refine blk_drew ?_ | refine blk_alloc ?_ _));exact BK224.out) hb);have n1_:=Aside0.mk (below_step (by repeat (first | (with_reducible first | exact HB.out | apply below_alloc | apply pw_below_drewN | apply below_drew1 | refine below_set ?_ GE224.out) | exact HB.out)) hb);have n2_:=Aside0.mk (hbox);have n3_:=Aside0.mk ((by rw [hg];exact (below_size (by repeat (first | (with_reducible first | exact HB.out | apply below_alloc | apply pw_below_drewN | apply below_drew1 | refine below_set ?_ GE224.out) | exact HB.out))) : w.heap.size ≤ gb226));have n4_:=Aside0.mk ((by rw [hg];exact (below_size (by repeat (first | (with_reducible first | exact HB.out | apply below_alloc | apply pw_below_drewN | apply below_drew1 | refine below_set ?_ GE224.out) | exact HB.out))) : w.heap.size ≤ gb226));have n5_:=Aside0.mk ((by rw [hg];exact Nat.ne_of_lt (blk_lt (g:=gb224) (o := .cells #[.slice A0_0 l0_0.length c0_0,.slice A0_1 l0_1.length c0_1,.int .i64 a0_2,.int .i64 a0_3,.slice (some ad225) l0_4.length c0_4] 26 (0,0)) (by (with_reducible repeat (first | refine blk_drewN ?_ _ | refine blk_drew ?_ | refine blk_alloc ?_ _));exact BK224.out)) : gb224 ≠ gb226));have n6_:=Aside0.mk ((by rw [hg];exact Nat.ne_of_gt (blk_lt (g:=gb224) (o := .cells #[.slice A0_0 l0_0.length c0_0,.slice A0_1 l0_1.length c0_1,.int .i64 a0_2,.int .i64 a0_3,.slice (some ad225) l0_4.length c0_4] 26 (0,0)) (by (with_reducible repeat (first | refine blk_drewN ?_ _ | refine blk_drew ?_ | refine blk_alloc ?_ _));exact BK224.out)) : gb226 ≠ gb224));clear BK224;clear HB;have BK224:=n0_;have HB:=n1_;have BK226:=n2_;have GW226:=n3_;have GE226:=n4_;have NB224_226:=n5_;have NB226_224:=n6_;clear n0_ n1_ n2_ n3_ n4_ n5_ n6_;clear hb hbox hg;have hnb8:=NB226_224.out;have hnc8:=NB224_226.out;have hcz9_0 : w7.cell? ⟨gb226,0,none⟩ = some (.int .i64 0) := (blk_cell BK226.out 0).trans rfl;have hcz9_1 : w7.cell? ⟨gb226,1,none⟩ = some (.slice none 0 0) := (blk_cell BK226.out 1).trans rfl;have hfz9_0:=blk_frozen BK226.out 0;have hfz9_1:=blk_frozen BK226.out 1))
     (try simp only [Act.put,List.setIfInBounds_toArray,List.set_cons_zero,List.set_cons_succ])
     go_cut [29] (fun v29 wc => ∃ (kq : Nat) (x29_4 : Bool),v29 = .bool x29_4 ∧ Aside0 (regletref13_Right.j1 kq x3_1 x29_4 l0_0 l0_1 a0_2 a0_3 l0_4 ((rd_T30 l0_4 x3_1).f0) ((rd_T30 l0_4 x3_1).f1) = some r) ∧ Aside0 (kq ≤ k1) ∧ Aside0 (wc.heap[gb224]? = some (.cells #[(.slice A0_0 l0_0.length c0_0),(.slice A0_1 l0_1.length c0_1),.int .i64 a0_2,.int .i64 a0_3,(.slice (some ad225) l0_4.length c0_4)] 26 (0,0))) ∧ Aside0 (wc.heap[gb226]? = some (.cells #[.int .i64 ((rd_T30 l0_4 x3_1).f0),(.slice A225_1 ((rd_T30 l0_4 x3_1).f1).length c225_1)] 30 (0,0))) ∧ Aside0 (Below w.heap.size w wc))
     case first =>
      have H:=HC5.out
      clear HC5
      by_cases c10 : ((rd_T30 l0_4 x3_1).f0) < 0
      · rw [if_pos c10] at H
        have c10b0 : decide (((rd_T30 l0_4 x3_1).f0) < 0) = true:=decide_eq_true c10
        clear c10
        (first | rw [c10b0] | (simp only [i64_w,i32_w];rw [c10b0]) | skip)
        have H' := Aside0.mk H
        clear H
        have hnb11:=NB226_224.out
        have hnc11:=NB224_226.out
        have hcz12_0 : w7.cell? ⟨gb226,0,none⟩ = some (.int .i64 0) := (blk_cell BK226.out 0).trans rfl
        have hcz12_1 : w7.cell? ⟨gb226,1,none⟩ = some (.slice none 0 0) := (blk_cell BK226.out 1).trans rfl
        have hfz12_0:=blk_frozen BK226.out 0
        have hfz12_1:=blk_frozen BK226.out 1
        go_wp2
        go_meet
        case rel => exact ⟨_,(true),(by first | rfl | (simp;done) | (simp [*];done)),H',⟨by have:=HK1.out;first | omega | exact Nat.le_refl _⟩,⟨by (with_reducible repeat (first | refine blk_drewN ?_ _ | refine blk_drew ?_ | refine blk_alloc ?_ _));refine blk_far ?_ NB224_226.out _;(with_reducible repeat (first | refine blk_drewN ?_ _ | refine blk_drew ?_ | refine blk_alloc ?_ _));refine blk_far ?_ NB224_226.out _;(with_reducible repeat (first | refine blk_drewN ?_ _ | refine blk_drew ?_ | refine blk_alloc ?_ _));exact BK224.out⟩,⟨by (with_reducible repeat (first | refine blk_drewN ?_ _ | refine blk_drew ?_ | refine blk_alloc ?_ _));refine blk_put (cs:=#[.int .i64 ((rd_T30 l0_4 x3_1).f0),.slice none 0 0]) ?_ 1 _ rfl;(with_reducible repeat (first | refine blk_drewN ?_ _ | refine blk_drew ?_ | refine blk_alloc ?_ _));refine blk_put (cs:=#[.int .i64 0,.slice none 0 0]) ?_ 0 _ rfl;(with_reducible repeat (first | refine blk_drewN ?_ _ | refine blk_drew ?_ | refine blk_alloc ?_ _));exact BK226.out⟩,⟨by repeat (first | (with_reducible first | exact HB.out | apply below_alloc | apply pw_below_drewN | apply below_drew1 | refine below_set ?_ GE224.out | refine below_set ?_ GE226.out) | exact HB.out)⟩⟩
      · rw [if_neg c10] at H
        have c10b0 : decide (((rd_T30 l0_4 x3_1).f0) < 0) = false:=decide_eq_false c10
        clear c10
        (first | rw [c10b0] | (simp only [i64_w,i32_w];rw [c10b0]) | skip)
        have H' := Aside0.mk H
        clear H
        have hnb13:=NB226_224.out
        have hnc13:=NB224_226.out
        have hcz14_0 : w7.cell? ⟨gb226,0,none⟩ = some (.int .i64 0) := (blk_cell BK226.out 0).trans rfl
        have hcz14_1 : w7.cell? ⟨gb226,1,none⟩ = some (.slice none 0 0) := (blk_cell BK226.out 1).trans rfl
        have hfz14_0:=blk_frozen BK226.out 0
        have hfz14_1:=blk_frozen BK226.out 1
        have hcz15_0 : w7.cell? ⟨gb224,0,none⟩ = some (.slice A0_0 l0_0.length c0_0) := (blk_cell BK224.out 0).trans rfl
        have hcz15_1 : w7.cell? ⟨gb224,1,none⟩ = some (.slice A0_1 l0_1.length c0_1) := (blk_cell BK224.out 1).trans rfl
        have hcz15_2 : w7.cell? ⟨gb224,2,none⟩ = some (.int .i64 a0_2) := (blk_cell BK224.out 2).trans rfl
        have hcz15_3 : w7.cell? ⟨gb224,3,none⟩ = some (.int .i64 a0_3) := (blk_cell BK224.out 3).trans rfl
        have hcz15_4 : w7.cell? ⟨gb224,4,none⟩ = some (.slice (some ad225) l0_4.length c0_4) := (blk_cell BK224.out 4).trans rfl
        have hfz15_0:=blk_frozen BK224.out 0
        have hfz15_1:=blk_frozen BK224.out 1
        have hfz15_2:=blk_frozen BK224.out 2
        have hfz15_3:=blk_frozen BK224.out 3
        have hfz15_4:=blk_frozen BK224.out 4
        go_wp2
        go_meet
        case rel => exact ⟨_,(decide (((rd_T30 l0_4 x3_1).f0) ≥ (l0_0.length : Int))),(by first | rfl | (simp;done) | (simp [*];done)),H',⟨by have:=HK1.out;first | omega | exact Nat.le_refl _⟩,⟨by (with_reducible repeat (first | refine blk_drewN ?_ _ | refine blk_drew ?_ | refine blk_alloc ?_ _));refine blk_far ?_ NB224_226.out _;(with_reducible repeat (first | refine blk_drewN ?_ _ | refine blk_drew ?_ | refine blk_alloc ?_ _));refine blk_far ?_ NB224_226.out _;(with_reducible repeat (first | refine blk_drewN ?_ _ | refine blk_drew ?_ | refine blk_alloc ?_ _));exact BK224.out⟩,⟨by (with_reducible repeat (first | refine blk_drewN ?_ _ | refine blk_drew ?_ | refine blk_alloc ?_ _));refine blk_put (cs:=#[.int .i64 ((rd_T30 l0_4 x3_1).f0),.slice none 0 0]) ?_ 1 _ rfl;(with_reducible repeat (first | refine blk_drewN ?_ _ | refine blk_drew ?_ | refine blk_alloc ?_ _));refine blk_put (cs:=#[.int .i64 0,.slice none 0 0]) ?_ 0 _ rfl;(with_reducible repeat (first | refine blk_drewN ?_ _ | refine blk_drew ?_ | refine blk_alloc ?_ _));exact BK226.out⟩,⟨by repeat (first | (with_reducible first | exact HB.out | apply below_alloc | apply pw_below_drewN | apply below_drew1 | refine below_set ?_ GE224.out | refine below_set ?_ GE226.out) | exact HB.out)⟩⟩
     case rest =>
      clear HC5
      (try clear c1);(try clear c2);(try clear p2);(try clear q2);(try clear hx2);(try clear c3);(try clear c3b0);(try clear c4);(try clear c4b0);(try clear c8);(try clear c10);(try clear c10b0);(try clear c11);(try clear c13);(try clear hcz12_0);(try clear hcz12_1);(try clear hcz14_0);(try clear hcz14_1);(try clear hcz15_0);(try clear hcz15_1);(try clear hcz15_2);(try clear hcz15_3);(try clear hcz15_4)
      (try clear hcz6_0);(try clear hcz6_1);(try clear hcz6_2);(try clear hcz6_3);(try clear hcz6_4);(try clear hcz9_0);(try clear hcz9_1);(try clear hfz12_0);(try clear hfz12_1);(try clear hfz14_0);(try clear hfz14_1);(try clear hfz15_0);(try clear hfz15_1);(try clear hfz15_2);(try clear hfz15_3);(try clear hfz15_4);(try clear hfz6_0);(try clear hfz6_1);(try clear hfz6_2);(try clear hfz6_3);(try clear hfz6_4)
      (try clear hfz9_0);(try clear hfz9_1);(try clear hx225_0);(try clear hx225_1);(try clear p2);(try clear p225);(try clear q225)
      obtain ⟨kq,x29_4,rfl,HA,HJ4,BK224,BK226,HB⟩ := hcut
      cases kq with
      | zero => exact absurd HA.out (by simp [regletref13_Right.j1])
      | succ kj4 =>
       have H:=HA.out
       clear HA
       simp only [regletref13_Right.j1] at H
       by_cases c16 : x29_4 = true
       · subst c16
         have H1 : (some false) = some r:=by rw [if_pos rfl] at H;exact H
         clear H
         have H:=H1
         clear H1
         obtain rfl:=Option.some.inj H
         go_wp2
         go_ret
         exact ⟨by first | rfl | (simp [errW_none,errW_some] <;> rfl) | (simp [*,errW_none,errW_some] <;> rfl),by repeat (first | (with_reducible first | exact HB.out | apply below_alloc | apply pw_below_drewN | apply below_drew1 | refine below_set ?_ GE224.out | refine below_set ?_ GE226.out) | exact HB.out)⟩
       · replace c16:=Bool.eq_false_iff.mpr c16
         subst c16
         have H1 : (regletref13_Right.l1 kj4 x3_1 0 l0_0 l0_1 a0_2 a0_3 l0_4 ((rd_T30 l0_4 x3_1).f0) ((rd_T30 l0_4 x3_1).f1)) = some r:=by rw [if_neg (show ¬ (false = true) by decide)] at H;exact H
         clear H
         have H:=H1
         clear H1
         have H' := Aside0.mk H
         clear H
         go_wp2
         go_loopg [5] kj4 (fun kq v5 w' => ∃ (x5_3 : Int),v5 = .int .i64 x5_3 ∧ Aside0 (regletref13_Right.l1 kq x3_1 x5_3 l0_0 l0_1 a0_2 a0_3 l0_4 ((rd_T30 l0_4 x3_1).f0) ((rd_T30 l0_4 x3_1).f1) = some r) ∧ Aside0 (kq ≤ kj4) ∧ Aside0 (w'.heap[gb224]? = some (.cells #[(.slice A0_0 l0_0.length c0_0),(.slice A0_1 l0_1.length c0_1),.int .i64 a0_2,.int .i64 a0_3,(.slice (some ad225) l0_4.length c0_4)] 26 (0,0))) ∧ Aside0 (w'.heap[gb226]? = some (.cells #[.int .i64 ((rd_T30 l0_4 x3_1).f0),(.slice A225_1 ((rd_T30 l0_4 x3_1).f1).length c225_1)] 30 (0,0))) ∧ Aside0 (Below w.heap.size w w'))
         case atStart => exact ⟨(0),(by first | rfl | (simp;done) | (simp [*];done)),H',⟨Nat.le_refl _⟩,⟨by (with_reducible repeat (first | refine blk_drewN ?_ _ | refine blk_drew ?_ | refine blk_alloc ?_ _));exact BK224.out⟩,⟨by (with_reducible repeat (first | refine blk_drewN ?_ _ | refine blk_drew ?_ | refine blk_alloc ?_ _));exact BK226.out⟩,⟨by repeat (first | (with_reducible first | exact HB.out | apply below_alloc | apply pw_below_drewN | apply below_drew1 | refine below_set ?_ GE224.out | refine below_set ?_ GE226.out) | exact HB.out)⟩⟩
         case round =>
          clear H'
          (try clear c1);(try clear c2);(try clear p2);(try clear q2);(try clear hx2);(try clear c3);(try clear c3b0);(try clear c4);(try clear c4b0);(try clear c8);(try clear c10);(try clear c10b0);(try clear c11);(try clear c13);(try clear c16);(try clear hcz12_0);(try clear hcz12_1);(try clear hcz14_0);(try clear hcz14_1);(try clear hcz15_0);(try clear hcz15_1);(try clear hcz15_2);(try clear hcz15_3);(try clear hcz15_4)
          (try clear hcz6_0);(try clear hcz6_1);(try clear hcz6_2);(try clear hcz6_3);(try clear hcz6_4);(try clear hcz9_0);(try clear hcz9_1);(try clear hfz12_0);(try clear hfz12_1);(try clear hfz14_0);(try clear hfz14_1);(try clear hfz15_0);(try clear hfz15_1);(try clear hfz15_2);(try clear hfz15_3);(try clear hfz15_4);(try clear hfz6_0);(try clear hfz6_1);(try clear hfz6_2);(try clear hfz6_3);(try clear hfz6_4)
          (try clear hfz9_0);(try clear hfz9_1);(try clear hx225_0);(try clear hx225_1);(try clear p2);(try clear p225);(try clear q2);(try clear q225)
          obtain ⟨x5_3,rfl,HA,HK3,BK224,BK226,HB⟩ := hrel
          cases gk with
          | zero => exact absurd HA.out (by simp [regletref13_Right.l1])
          | succ k3 =>
           have H:=HA.out
           clear HA
           simp only [regletref13_Right.l1] at H
           by_cases c17 : x5_3 < (((rd_T30 l0_4 x3_1).f1).length : Int)
           · rw [if_pos c17] at H
             have c17b0 : decide (x5_3 < (((rd_T30 l0_4 x3_1).f1).length : Int)) = true:=decide_eq_true c17
             clear c17
             by_cases c18 : 0 ≤ x5_3
             rotate_left
             · rw [if_neg c18] at H
               exact absurd H (by simp)
             rw [if_pos c18] at H
             have c18b0 : decide (0 ≤ x5_3) = true:=decide_eq_true c18
             clear c18
             obtain ⟨bq19,hbq19⟩ : ∃ b_ : Bool,b_ = ((rd_T53 ((rd_T30 l0_4 x3_1).f1) x5_3).f0) := ⟨_,rfl⟩
             replace H : (if bq19 = true then (if ((rd_T53 ((rd_T30 l0_4 x3_1).f1) x5_3).f1) < 0 then (some false) else (if ((rd_T53 ((rd_T30 l0_4 x3_1).f1) x5_3).f1) ≥ (l0_1.length : Int) then (some false) else (regletref13_Right.l1 k3 x3_1 (wrap64 (x5_3 + 1)) l0_0 l0_1 a0_2 a0_3 l0_4 ((rd_T30 l0_4 x3_1).f0) ((rd_T30 l0_4 x3_1).f1)))) else (if ((rd_T53 ((rd_T30 l0_4 x3_1).f1) x5_3).f1) < 0 then (some false) else (if ((rd_T53 ((rd_T30 l0_4 x3_1).f1) x5_3).f1) ≥ (l0_0.length : Int) then (some false) else (regletref13_Right.l1 k3 x3_1 (wrap64 (x5_3 + 1)) l0_0 l0_1 a0_2 a0_3 l0_4 ((rd_T30 l0_4 x3_1).f0) ((rd_T30 l0_4 x3_1).f1))))) = some r:=by rw [← hbq19] at H;exact H
             have Nbq19:=Aside0.mk hbq19
             clear hbq19
             by_cases c20 : bq19 = true
             · subst c20
               have H1 : (if ((rd_T53 ((rd_T30 l0_4 x3_1).f1) x5_3).f1) < 0 then (some false) else (if ((rd_T53 ((rd_T30 l0_4 x3_1).f1) x5_3).f1) ≥ (l0_1.length : Int) then (some false) else (regletref13_Right.l1 k3 x3_1 (wrap64 (x5_3 + 1)) l0_0 l0_1 a0_2 a0_3 l0_4 ((rd_T30 l0_4 x3_1).f0) ((rd_T30 l0_4 x3_1).f1)))) = some r:=by rw [if_pos rfl] at H;exact H
               clear H
               have H:=H1
               clear H1
               by_cases c21 : ((rd_T53 ((rd_T30 l0_4 x3_1).f1) x5_3).f1) < 0
               · rw [if_pos c21] at H
                 have c21b0 : decide (((rd_T53 ((rd_T30 l0_4 x3_1).f1) x5_3).f1) < 0) = true:=decide_eq_true c21
                 clear c21
                 obtain rfl:=Option.some.inj H
                 have hnb22:=NB226_224.out
                 have hnc22:=NB224_226.out
                 have hcz23_0 : wr.cell? ⟨gb226,0,none⟩ = some (.int .i64 ((rd_T30 l0_4 x3_1).f0)) := (blk_cell BK226.out 0).trans rfl
                 have hcz23_1 : wr.cell? ⟨gb226,1,none⟩ = some (.slice A225_1 ((rd_T30 l0_4 x3_1).f1).length c225_1) := (blk_cell BK226.out 1).trans rfl
                 have hfz23_0:=blk_frozen BK226.out 0
                 have hfz23_1:=blk_frozen BK226.out 1
                 have hcz24_0 : wr.cell? ⟨gb224,0,none⟩ = some (.slice A0_0 l0_0.length c0_0) := (blk_cell BK224.out 0).trans rfl
                 have hcz24_1 : wr.cell? ⟨gb224,1,none⟩ = some (.slice A0_1 l0_1.length c0_1) := (blk_cell BK224.out 1).trans rfl
                 have hcz24_2 : wr.cell? ⟨gb224,2,none⟩ = some (.int .i64 a0_2) := (blk_cell BK224.out 2).trans rfl
                 have hcz24_3 : wr.cell? ⟨gb224,3,none⟩ = some (.int .i64 a0_3) := (blk_cell BK224.out 3).trans rfl
                 have hcz24_4 : wr.cell? ⟨gb224,4,none⟩ = some (.slice (some ad225) l0_4.length c0_4) := (blk_cell BK224.out 4).trans rfl
                 have hfz24_0:=blk_frozen BK224.out 0
                 have hfz24_1:=blk_frozen BK224.out 1
                 have hfz24_2:=blk_frozen BK224.out 2
                 have hfz24_3:=blk_frozen BK224.out 3
                 have hfz24_4:=blk_frozen BK224.out 4
                 have p227 : 0 ≤ (x5_3 : Int) := of_decide_eq_true (by first | (with_reducible assumption) | assumption)
                 have q227 : x5_3 < (((rd_T30 l0_4 x3_1).f1).length : Int) := of_decide_eq_true (by first | (with_reducible assumption) | assumption)
                 obtain ⟨ad227,e227,hx227_0,hx227_1⟩ := at_T53 HR225_1.out x5_3 p227 q227
                 (try rw [← Nbq19.out] at hx227_0)
                 cases e227
                 replace hx227_0:=(HB.out.cell (World.block_lt_of_cell? w _ hx227_0)).trans hx227_0
                 replace hx227_1:=(HB.out.cell (World.block_lt_of_cell? w _ hx227_1)).trans hx227_1
                 replace p227:=eq_true p227
                 replace q227:=eq_true q227
                 have p228 : 0 ≤ (x5_3 : Int) := of_decide_eq_true (by first | (with_reducible assumption) | assumption)
                 have q228 : x5_3 < (((rd_T30 l0_4 x3_1).f1).length : Int) := of_decide_eq_true (by first | (with_reducible assumption) | assumption)
                 obtain ⟨ad228,e228,hx228_0,hx228_1⟩ := at_T53 HR225_1.out x5_3 p228 q228
                 (try rw [← Nbq19.out] at hx228_0)
                 obtain rfl : ad227 = ad228:=(by injection e228)
                 replace hx228_0:=(HB.out.cell (World.block_lt_of_cell? w _ hx228_0)).trans hx228_0
                 replace hx228_1:=(HB.out.cell (World.block_lt_of_cell? w _ hx228_1)).trans hx228_1
                 replace p228:=eq_true p228
                 replace q228:=eq_true q228
                 go_wp2
                 go_ret
                 exact ⟨by first | rfl | (simp [errW_none,errW_some] <;> rfl) | (simp [*,errW_none,errW_some] <;> rfl),by repeat (first | (with_reducible first | exact HB.out | apply below_alloc | apply pw_below_drewN | apply below_drew1 | refine below_set ?_ GE224.out | refine below_set ?_ GE226.out) | exact HB.out)⟩
               · rw [if_neg c21] at H
                 have c21b0 : decide (((rd_T53 ((rd_T30 l0_4 x3_1).f1) x5_3).f1) < 0) = false:=decide_eq_false c21
                 clear c21
                 by_cases c25 : ((rd_T53 ((rd_T30 l0_4 x3_1).f1) x5_3).f1) ≥ (l0_1.length : Int)
                 · rw [if_pos c25] at H
                   have c25b0 : decide ((l0_1.length : Int) ≤ ((rd_T53 ((rd_T30 l0_4 x3_1).f1) x5_3).f1)) = true:=decide_eq_true c25
                   clear c25
                   obtain rfl:=Option.some.inj H
                   have hnb26:=NB226_224.out
                   have hnc26:=NB224_226.out
                   have hcz27_0 : wr.cell? ⟨gb226,0,none⟩ = some (.int .i64 ((rd_T30 l0_4 x3_1).f0)) := (blk_cell BK226.out 0).trans rfl
                   have hcz27_1 : wr.cell? ⟨gb226,1,none⟩ = some (.slice A225_1 ((rd_T30 l0_4 x3_1).f1).length c225_1) := (blk_cell BK226.out 1).trans rfl
                   have hfz27_0:=blk_frozen BK226.out 0
                   have hfz27_1:=blk_frozen BK226.out 1
                   have hcz28_0 : wr.cell? ⟨gb224,0,none⟩ = some (.slice A0_0 l0_0.length c0_0) := (blk_cell BK224.out 0).trans rfl
                   have hcz28_1 : wr.cell? ⟨gb224,1,none⟩ = some (.slice A0_1 l0_1.length c0_1) := (blk_cell BK224.out 1).trans rfl
                   have hcz28_2 : wr.cell? ⟨gb224,2,none⟩ = some (.int .i64 a0_2) := (blk_cell BK224.out 2).trans rfl
                   have hcz28_3 : wr.cell? ⟨gb224,3,none⟩ = some (.int .i64 a0_3) := (blk_cell BK224.out 3).trans rfl
                   have hcz28_4 : wr.cell? ⟨gb224,4,none⟩ = some (.slice (some ad225) l0_4.length c0_4) := (blk_cell BK224.out 4).trans rfl
                   have hfz28_0:=blk_frozen BK224.out 0
                   have hfz28_1:=blk_frozen BK224.out 1
                   have hfz28_2:=blk_frozen BK224.out 2
                   have hfz28_3:=blk_frozen BK224.out 3
                   have hfz28_4:=blk_frozen BK224.out 4
                   have p227 : 0 ≤ (x5_3 : Int) := of_decide_eq_true (by first | (with_reducible assumption) | assumption)
                   have q227 : x5_3 < (((rd_T30 l0_4 x3_1).f1).length : Int) := of_decide_eq_true (by first | (with_reducible assumption) | assumption)
                   obtain ⟨ad227,e227,hx227_0,hx227_1⟩ := at_T53 HR225_1.out x5_3 p227 q227
                   (try rw [← Nbq19.out] at hx227_0)
                   cases e227
                   replace hx227_0:=(HB.out.cell (World.block_lt_of_cell? w _ hx227_0)).trans hx227_0
                   replace hx227_1:=(HB.out.cell (World.block_lt_of_cell? w _ hx227_1)).trans hx227_1
                   replace p227:=eq_true p227
                   replace q227:=eq_true q227
                   have p228 : 0 ≤ (x5_3 : Int) := of_decide_eq_true (by first | (with_reducible assumption) | assumption)
                   have q228 : x5_3 < (((rd_T30 l0_4 x3_1).f1).length : Int) := of_decide_eq_true (by first | (with_reducible assumption) | assumption)
                   obtain ⟨ad228,e228,hx228_0,hx228_1⟩ := at_T53 HR225_1.out x5_3 p228 q228
                   (try rw [← Nbq19.out] at hx228_0)
                   obtain rfl : ad227 = ad228:=(by injection e228)
                   replace hx228_0:=(HB.out.cell (World.block_lt_of_cell? w _ hx228_0)).trans hx228_0
                   replace hx228_1:=(HB.out.cell (World.block_lt_of_cell? w _ hx228_1)).trans hx228_1
                   replace p228:=eq_true p228
                   replace q228:=eq_true q228
                   have p229 : 0 ≤ (x5_3 : Int) := of_decide_eq_true (by first | (with_reducible assumption) | assumption)
                   have q229 : x5_3 < (((rd_T30 l0_4 x3_1).f1).length : Int) := of_decide_eq_true (by first | (with_reducible assumption) | assumption)
                   obtain ⟨ad229,e229,hx229_0,hx229_1⟩ := at_T53 HR225_1.out x5_3 p229 q229
                   (try rw [← Nbq19.out] at hx229_0)
                   obtain rfl : ad227 = ad229:=(by injection e229)
                   replace hx229_0:=(HB.out.cell (World.block_lt_of_cell? w _ hx229_0)).trans hx229_0
                   replace hx229_1:=(HB.out.cell (World.block_lt_of_cell? w _ hx229_1)).trans hx229_1
                   replace p229:=eq_true p229
                   replace q229:=eq_true q229
                   go_wp2
                   go_ret
                   exact ⟨by first | rfl | (simp [errW_none,errW_some] <;> rfl) | (simp [*,errW_none,errW_some] <;> rfl),by repeat (first | (with_reducible first | exact HB.out | apply below_alloc | apply pw_below_drewN | apply below_drew1 | refine below_set ?_ GE224.out | refine below_set ?_ GE226.out) | exact HB.out)⟩
                 · rw [if_neg c25] at H
                   have c25b0 : decide ((l0_1.length : Int) ≤ ((rd_T53 ((rd_T30 l0_4 x3_1).f1) x5_3).f1)) = false:=decide_eq_false c25
                   clear c25
                   have H' := Aside0.mk H
                   clear H
                   have hnb29:=NB226_224.out
                   have hnc29:=NB224_226.out
                   have hcz30_0 : wr.cell? ⟨gb226,0,none⟩ = some (.int .i64 ((rd_T30 l0_4 x3_1).f0)) := (blk_cell BK226.out 0).trans rfl
                   have hcz30_1 : wr.cell? ⟨gb226,1,none⟩ = some (.slice A225_1 ((rd_T30 l0_4 x3_1).f1).length c225_1) := (blk_cell BK226.out 1).trans rfl
                   have hfz30_0:=blk_frozen BK226.out 0
                   have hfz30_1:=blk_frozen BK226.out 1
                   have hcz31_0 : wr.cell? ⟨gb224,0,none⟩ = some (.slice A0_0 l0_0.length c0_0) := (blk_cell BK224.out 0).trans rfl
                   have hcz31_1 : wr.cell? ⟨gb224,1,none⟩ = some (.slice A0_1 l0_1.length c0_1) := (blk_cell BK224.out 1).trans rfl
                   have hcz31_2 : wr.cell? ⟨gb224,2,none⟩ = some (.int .i64 a0_2) := (blk_cell BK224.out 2).trans rfl
                   have hcz31_3 : wr.cell? ⟨gb224,3,none⟩ = some (.int .i64 a0_3) := (blk_cell BK224.out 3).trans rfl
                   have hcz31_4 : wr.cell? ⟨gb224,4,none⟩ = some (.slice (some ad225) l0_4.length c0_4) := (blk_cell BK224.out 4).trans rfl
                   have hfz31_0:=blk_frozen BK224.out 0
                   have hfz31_1:=blk_frozen BK224.out 1
                   have hfz31_2:=blk_frozen BK224.out 2
                   have hfz31_3:=blk_frozen BK224.out 3
                   have hfz31_4:=blk_frozen BK224.out 4
                   have p227 : 0 ≤ (x5_3 : Int) := of_decide_eq_true (by first | (with_reducible assumption) | assumption)
                   have q227 : x5_3 < (((rd_T30 l0_4 x3_1).f1).length : Int) := of_decide_eq_true (by first | (with_reducible assumption) | assumption)
                   obtain ⟨ad227,e227,hx227_0,hx227_1⟩ := at_T53 HR225_1.out x5_3 p227 q227
                   (try rw [← Nbq19.out] at hx227_0)
                   cases e227
                   replace hx227_0:=(HB.out.cell (World.block_lt_of_cell? w _ hx227_0)).trans hx227_0
                   replace hx227_1:=(HB.out.cell (World.block_lt_of_cell? w _ hx227_1)).trans hx227_1
                   replace p227:=eq_true p227
                   replace q227:=eq_true q227
                   have p228 : 0 ≤ (x5_3 : Int) := of_decide_eq_true (by first | (with_reducible assumption) | assumption)
                   have q228 : x5_3 < (((rd_T30 l0_4 x3_1).f1).length : Int) := of_decide_eq_true (by first | (with_reducible assumption) | assumption)
                   obtain ⟨ad228,e228,hx228_0,hx228_1⟩ := at_T53 HR225_1.out x5_3 p228 q228
                   (try rw [← Nbq19.out] at hx228_0)
                   obtain rfl : ad227 = ad228:=(by injection e228)
                   replace hx228_0:=(HB.out.cell (World.block_lt_of_cell? w _ hx228_0)).trans hx228_0
                   replace hx228_1:=(HB.out.cell (World.block_lt_of_cell? w _ hx228_1)).trans hx228_1
                   replace p228:=eq_true p228
                   replace q228:=eq_true q228
                   have p229 : 0 ≤ (x5_3 : Int) := of_decide_eq_true (by first | (with_reducible assumption) | assumption)
                   have q229 : x5_3 < (((rd_T30 l0_4 x3_1).f1).length : Int) := of_decide_eq_true (by first | (with_reducible assumption) | assumption)
                   obtain ⟨ad229,e229,hx229_0,hx229_1⟩ := at_T53 HR225_1.out x5_3 p229 q229
                   (try rw [← Nbq19.out] at hx229_0)
                   obtain rfl : ad227 = ad229:=(by injection e229)
                   replace hx229_0:=(HB.out.cell (World.block_lt_of_cell? w _ hx229_0)).trans hx229_0
                   replace hx229_1:=(HB.out.cell (World.block_lt_of_cell? w _ hx229_1)).trans hx229_1
                   replace p229:=eq_true p229
                   replace q229:=eq_true q229
                   go_wp2
                   go_roundg k3
                   case measure => have:=HK1.out;have:=HJ4.out;have:=HK3.out;omega
                   case rel => exact ⟨(wrap64 (x5_3 + 1)),(by first | rfl | (simp;done) | (simp [*];done)),H',⟨by have:=HK1.out;have:=HJ4.out;have:=HK3.out;omega⟩,⟨by (with_reducible repeat (first | refine blk_drewN ?_ _ | refine blk_drew ?_ | refine blk_alloc ?_ _));exact BK224.out⟩,⟨by (with_reducible repeat (first | refine blk_drewN ?_ _ | refine blk_drew ?_ | refine blk_alloc ?_ _));exact BK226.out⟩,⟨by repeat (first | (with_reducible first | exact HB.out | apply below_alloc | apply pw_below_drewN | apply below_drew1 | refine below_set ?_ GE224.out | refine below_set ?_ GE226.out) | exact HB.out)⟩⟩
             · replace c20:=Bool.eq_false_iff.mpr c20
               subst c20
               have H1 : (if ((rd_T53 ((rd_T30 l0_4 x3_1).f1) x5_3).f1) < 0 then (some false) else (if ((rd_T53 ((rd_T30 l0_4 x3_1).f1) x5_3).f1) ≥ (l0_0.length : Int) then (some false) else (regletref13_Right.l1 k3 x3_1 (wrap64 (x5_3 + 1)) l0_0 l0_1 a0_2 a0_3 l0_4 ((rd_T30 l0_4 x3_1).f0) ((rd_T30 l0_4 x3_1).f1)))) = some r:=by rw [if_neg (show ¬ (false = true) by decide)] at H;exact H
               clear H
               have H:=H1
               clear H1
               by_cases c32 : ((rd_T53 ((rd_T30 l0_4 x3_1).f1) x5_3).f1) < 0
               · rw [if_pos c32] at H
                 have c32b0 : decide (((rd_T53 ((rd_T30 l0_4 x3_1).f1) x5_3).f1) < 0) = true:=decide_eq_true c32
                 clear c32
                 obtain rfl:=Option.some.inj H
                 have hnb33:=NB226_224.out
                 have hnc33:=NB224_226.out
                 have hcz34_0 : wr.cell? ⟨gb226,0,none⟩ = some (.int .i64 ((rd_T30 l0_4 x3_1).f0)) := (blk_cell BK226.out 0).trans rfl
                 have hcz34_1 : wr.cell? ⟨gb226,1,none⟩ = some (.slice A225_1 ((rd_T30 l0_4 x3_1).f1).length c225_1) := (blk_cell BK226.out 1).trans rfl
                 have hfz34_0:=blk_frozen BK226.out 0
                 have hfz34_1:=blk_frozen BK226.out 1
                 have hcz35_0 : wr.cell? ⟨gb224,0,none⟩ = some (.slice A0_0 l0_0.length c0_0) := (blk_cell BK224.out 0).trans rfl
                 have hcz35_1 : wr.cell? ⟨gb224,1,none⟩ = some (.slice A0_1 l0_1.length c0_1) := (blk_cell BK224.out 1).trans rfl
                 have hcz35_2 : wr.cell? ⟨gb224,2,none⟩ = some (.int .i64 a0_2) := (blk_cell BK224.out 2).trans rfl
                 have hcz35_3 : wr.cell? ⟨gb224,3,none⟩ = some (.int .i64 a0_3) := (blk_cell BK224.out 3).trans rfl
                 have hcz35_4 : wr.cell? ⟨gb224,4,none⟩ = some (.slice (some ad225) l0_4.length c0_4) := (blk_cell BK224.out 4).trans rfl
                 have hfz35_0:=blk_frozen BK224.out 0
                 have hfz35_1:=blk_frozen BK224.out 1
                 have hfz35_2:=blk_frozen BK224.out 2
                 have hfz35_3:=blk_frozen BK224.out 3
                 have hfz35_4:=blk_frozen BK224.out 4
                 have p227 : 0 ≤ (x5_3 : Int) := of_decide_eq_true (by first | (with_reducible assumption) | assumption)
                 have q227 : x5_3 < (((rd_T30 l0_4 x3_1).f1).length : Int) := of_decide_eq_true (by first | (with_reducible assumption) | assumption)
                 obtain ⟨ad227,e227,hx227_0,hx227_1⟩ := at_T53 HR225_1.out x5_3 p227 q227
                 (try rw [← Nbq19.out] at hx227_0)
                 cases e227
                 replace hx227_0:=(HB.out.cell (World.block_lt_of_cell? w _ hx227_0)).trans hx227_0
                 replace hx227_1:=(HB.out.cell (World.block_lt_of_cell? w _ hx227_1)).trans hx227_1
                 replace p227:=eq_true p227
                 replace q227:=eq_true q227
                 have p230 : 0 ≤ (x5_3 : Int) := of_decide_eq_true (by first | (with_reducible assumption) | assumption)
                 have q230 : x5_3 < (((rd_T30 l0_4 x3_1).f1).length : Int) := of_decide_eq_true (by first | (with_reducible assumption) | assumption)
                 obtain ⟨ad230,e230,hx230_0,hx230_1⟩ := at_T53 HR225_1.out x5_3 p230 q230
                 (try rw [← Nbq19.out] at hx230_0)
                 obtain rfl : ad227 = ad230:=(by injection e230)
                 replace hx230_0:=(HB.out.cell (World.block_lt_of_cell? w _ hx230_0)).trans hx230_0
                 replace hx230_1:=(HB.out.cell (World.block_lt_of_cell? w _ hx230_1)).trans hx230_1
                 replace p230:=eq_true p230
                 replace q230:=eq_true q230
                 go_wp2
                 go_ret
                 exact ⟨by first | rfl | (simp [errW_none,errW_some] <;> rfl) | (simp [*,errW_none,errW_some] <;> rfl),by repeat (first | (with_reducible first | exact HB.out | apply below_alloc | apply pw_below_drewN | apply below_drew1 | refine below_set ?_ GE224.out | refine below_set ?_ GE226.out) | exact HB.out)⟩
               · rw [if_neg c32] at H
                 have c32b0 : decide (((rd_T53 ((rd_T30 l0_4 x3_1).f1) x5_3).f1) < 0) = false:=decide_eq_false c32
                 clear c32
                 by_cases c36 : ((rd_T53 ((rd_T30 l0_4 x3_1).f1) x5_3).f1) ≥ (l0_0.length : Int)
                 · rw [if_pos c36] at H
                   have c36b0 : decide ((l0_0.length : Int) ≤ ((rd_T53 ((rd_T30 l0_4 x3_1).f1) x5_3).f1)) = true:=decide_eq_true c36
                   clear c36
                   obtain rfl:=Option.some.inj H
                   have hnb37:=NB226_224.out
                   have hnc37:=NB224_226.out
                   have hcz38_0 : wr.cell? ⟨gb226,0,none⟩ = some (.int .i64 ((rd_T30 l0_4 x3_1).f0)) := (blk_cell BK226.out 0).trans rfl
                   have hcz38_1 : wr.cell? ⟨gb226,1,none⟩ = some (.slice A225_1 ((rd_T30 l0_4 x3_1).f1).length c225_1) := (blk_cell BK226.out 1).trans rfl
                   have hfz38_0:=blk_frozen BK226.out 0
                   have hfz38_1:=blk_frozen BK226.out 1
                   have hcz39_0 : wr.cell? ⟨gb224,0,none⟩ = some (.slice A0_0 l0_0.length c0_0) := (blk_cell BK224.out 0).trans rfl
                   have hcz39_1 : wr.cell? ⟨gb224,1,none⟩ = some (.slice A0_1 l0_1.length c0_1) := (blk_cell BK224.out 1).trans rfl
                   have hcz39_2 : wr.cell? ⟨gb224,2,none⟩ = some (.int .i64 a0_2) := (blk_cell BK224.out 2).trans rfl
                   have hcz39_3 : wr.cell? ⟨gb224,3,none⟩ = some (.int .i64 a0_3) := (blk_cell BK224.out 3).trans rfl
                   have hcz39_4 : wr.cell? ⟨gb224,4,none⟩ = some (.slice (some ad225) l0_4.length c0_4) := (blk_cell BK224.out 4).trans rfl
                   have hfz39_0:=blk_frozen BK224.out 0
                   have hfz39_1:=blk_frozen BK224.out 1
                   have hfz39_2:=blk_frozen BK224.out 2
                   have hfz39_3:=blk_frozen BK224.out 3
                   have hfz39_4:=blk_frozen BK224.out 4
                   have p227 : 0 ≤ (x5_3 : Int) := of_decide_eq_true (by first | (with_reducible assumption) | assumption)
                   have q227 : x5_3 < (((rd_T30 l0_4 x3_1).f1).length : Int) := of_decide_eq_true (by first | (with_reducible assumption) | assumption)
                   obtain ⟨ad227,e227,hx227_0,hx227_1⟩ := at_T53 HR225_1.out x5_3 p227 q227
                   (try rw [← Nbq19.out] at hx227_0)
                   cases e227
                   replace hx227_0:=(HB.out.cell (World.block_lt_of_cell? w _ hx227_0)).trans hx227_0
                   replace hx227_1:=(HB.out.cell (World.block_lt_of_cell? w _ hx227_1)).trans hx227_1
                   replace p227:=eq_true p227
                   replace q227:=eq_true q227
                   have p230 : 0 ≤ (x5_3 : Int) := of_decide_eq_true (by first | (with_reducible assumption) | assumption)
                   have q230 : x5_3 < (((rd_T30 l0_4 x3_1).f1).length : Int) := of_decide_eq_true (by first | (with_reducible assumption) | assumption)
                   obtain ⟨ad230,e230,hx230_0,hx230_1⟩ := at_T53 HR225_1.out x5_3 p230 q230
                   (try rw [← Nbq19.out] at hx230_0)
                   obtain rfl : ad227 = ad230:=(by injection e230)
                   replace hx230_0:=(HB.out.cell (World.block_lt_of_cell? w _ hx230_0)).trans hx230_0
                   replace hx230_1:=(HB.out.cell (World.block_lt_of_cell? w _ hx230_1)).trans hx230_1
                   replace p230:=eq_true p230
                   replace q230:=eq_true q230
                   have p231 : 0 ≤ (x5_3 : Int) := of_decide_eq_true (by first | (with_reducible assumption) | assumption)
                   have q231 : x5_3 < (((rd_T30 l0_4 x3_1).f1).length : Int) := of_decide_eq_true (by first | (with_reducible assumption) | assumption)
                   obtain ⟨ad231,e231,hx231_0,hx231_1⟩ := at_T53 HR225_1.out x5_3 p231 q231
                   (try rw [← Nbq19.out] at hx231_0)
                   obtain rfl : ad227 = ad231:=(by injection e231)
                   replace hx231_0:=(HB.out.cell (World.block_lt_of_cell? w _ hx231_0)).trans hx231_0
                   replace hx231_1:=(HB.out.cell (World.block_lt_of_cell? w _ hx231_1)).trans hx231_1
                   replace p231:=eq_true p231
                   replace q231:=eq_true q231
                   go_wp2
                   go_ret
                   exact ⟨by first | rfl | (simp [errW_none,errW_some] <;> rfl) | (simp [*,errW_none,errW_some] <;> rfl),by repeat (first | (with_reducible first | exact HB.out | apply below_alloc | apply pw_below_drewN | apply below_drew1 | refine below_set ?_ GE224.out | refine below_set ?_ GE226.out) | exact HB.out)⟩
                 · rw [if_neg c36] at H
                   have c36b0 : decide ((l0_0.length : Int) ≤ ((rd_T53 ((rd_T30 l0_4 x3_1).f1) x5_3).f1)) = false:=decide_eq_false c36
                   clear c36
                   have H' := Aside0.mk H
                   clear H
                   have hnb40:=NB226_224.out
                   have hnc40:=NB224_226.out
                   have hcz41_0 : wr.cell? ⟨gb226,0,none⟩ = some (.int .i64 ((rd_T30 l0_4 x3_1).f0)) := (blk_cell BK226.out 0).trans rfl
                   have hcz41_1 : wr.cell? ⟨gb226,1,none⟩ = some (.slice A225_1 ((rd_T30 l0_4 x3_1).f1).length c225_1) := (blk_cell BK226.out 1).trans rfl
                   have hfz41_0:=blk_frozen BK226.out 0
                   have hfz41_1:=blk_frozen BK226.out 1
                   have hcz42_0 : wr.cell? ⟨gb224,0,none⟩ = some (.slice A0_0 l0_0.length c0_0) := (blk_cell BK224.out 0).trans rfl
                   have hcz42_1 : wr.cell? ⟨gb224,1,none⟩ = some (.slice A0_1 l0_1.length c0_1) := (blk_cell BK224.out 1).trans rfl
                   have hcz42_2 : wr.cell? ⟨gb224,2,none⟩ = some (.int .i64 a0_2) := (blk_cell BK224.out 2).trans rfl
                   have hcz42_3 : wr.cell? ⟨gb224,3,none⟩ = some (.int .i64 a0_3) := (blk_cell BK224.out 3).trans rfl
                   have hcz42_4 : wr.cell? ⟨gb224,4,none⟩ = some (.slice (some ad225) l0_4.length c0_4) := (blk_cell BK224.out 4).trans rfl
                   have hfz42_0:=blk_frozen BK224.out 0
                   have hfz42_1:=blk_frozen BK224.out 1
                   have hfz42_2:=blk_frozen BK224.out 2
                   have hfz42_3:=blk_frozen BK224.out 3
                   have hfz42_4:=blk_frozen BK224.out 4
                   have p227 : 0 ≤ (x5_3 : Int) := of_decide_eq_true (by first | (with_reducible assumption) | assumption)
                   have q227 : x5_3 < (((rd_T30 l0_4 x3_1).f1).length : Int) := of_decide_eq_true (by first | (with_reducible assumption) | assumption)
                   obtain ⟨ad227,e227,hx227_0,hx227_1⟩ := at_T53 HR225_1.out x5_3 p227 q227
                   (try rw [← Nbq19.out] at hx227_0)
                   cases e227
                   replace hx227_0:=(HB.out.cell (World.block_lt_of_cell? w _ hx227_0)).trans hx227_0
                   replace hx227_1:=(HB.out.cell (World.block_lt_of_cell? w _ hx227_1)).trans hx227_1
                   replace p227:=eq_true p227
                   replace q227:=eq_true q227
                   have p230 : 0 ≤ (x5_3 : Int) := of_decide_eq_true (by first | (with_reducible assumption) | assumption)
                   have q230 : x5_3 < (((rd_T30 l0_4 x3_1).f1).length : Int) := of_decide_eq_true (by first | (with_reducible assumption) | assumption)
                   obtain ⟨ad230,e230,hx230_0,hx230_1⟩ := at_T53 HR225_1.out x5_3 p230 q230
                   (try rw [← Nbq19.out] at hx230_0)
                   obtain rfl : ad227 = ad230:=(by injection e230)
                   replace hx230_0:=(HB.out.cell (World.block_lt_of_cell? w _ hx230_0)).trans hx230_0
                   replace hx230_1:=(HB.out.cell (World.block_lt_of_cell? w _ hx230_1)).trans hx230_1
                   replace p230:=eq_true p230
                   replace q230:=eq_true q230
                   have p231 : 0 ≤ (x5_3 : Int) := of_decide_eq_true (by first | (with_reducible assumption) | assumption)
                   have q231 : x5_3 < (((rd_T30 l0_4 x3_1).f1).length : Int) := of_decide_eq_true (by first | (with_reducible assumption) | assumption)
                   obtain ⟨ad231,e231,hx231_0,hx231_1⟩ := at_T53 HR225_1.out x5_3 p231 q231
                   (try rw [← Nbq19.out] at hx231_0)
                   obtain rfl : ad227 = ad231:=(by injection e231)
                   replace hx231_0:=(HB.out.cell (World.block_lt_of_cell? w _ hx231_0)).trans hx231_0
                   replace hx231_1:=(HB.out.cell (World.block_lt_of_cell? w _ hx231_1)).trans hx231_1
                   replace p231:=eq_true p231
                   replace q231:=eq_true q231
                   go_wp2
                   go_roundg k3
                   case measure => have:=HK1.out;have:=HJ4.out;have:=HK3.out;omega
                   case rel => exact ⟨(wrap64 (x5_3 + 1)),(by first | rfl | (simp;done) | (simp [*];done)),H',⟨by have:=HK1.out;have:=HJ4.out;have:=HK3.out;omega⟩,⟨by (with_reducible repeat (first | refine blk_drewN ?_ _ | refine blk_drew ?_ | refine blk_alloc ?_ _));exact BK224.out⟩,⟨by (with_reducible repeat (first | refine blk_drewN ?_ _ | refine blk_drew ?_ | refine blk_alloc ?_ _));exact BK226.out⟩,⟨by repeat (first | (with_reducible first | exact HB.out | apply below_alloc | apply pw_below_drewN | apply below_drew1 | refine below_set ?_ GE224.out | refine below_set ?_ GE226.out) | exact HB.out)⟩⟩
           · rw [if_neg c17] at H
             have c17b0 : decide (x5_3 < (((rd_T30 l0_4 x3_1).f1).length : Int)) = false:=decide_eq_false c17
             clear c17
             have H' := Aside0.mk H
             clear H
             have hnb43:=NB226_224.out
             have hnc43:=NB224_226.out
             have hcz44_0 : wr.cell? ⟨gb226,0,none⟩ = some (.int .i64 ((rd_T30 l0_4 x3_1).f0)) := (blk_cell BK226.out 0).trans rfl
             have hcz44_1 : wr.cell? ⟨gb226,1,none⟩ = some (.slice A225_1 ((rd_T30 l0_4 x3_1).f1).length c225_1) := (blk_cell BK226.out 1).trans rfl
             have hfz44_0:=blk_frozen BK226.out 0
             have hfz44_1:=blk_frozen BK226.out 1
             go_wp2
             go_roundg k3
             case measure => have:=HK1.out;have:=HJ4.out;have:=HK3.out;omega
             case rel => exact ⟨(wrap64 (x3_1 + 1)),(by first | rfl | (simp;done) | (simp [*];done)),H',⟨by have:=HK1.out;have:=HJ4.out;have:=HK3.out;omega⟩,⟨by (with_reducible repeat (first | refine blk_drewN ?_ _ | refine blk_drew ?_ | refine blk_alloc ?_ _));exact BK224.out⟩,⟨by repeat (first | (with_reducible first | exact HB.out | apply below_alloc | apply pw_below_drewN | apply below_drew1 | refine below_set ?_ GE224.out | refine below_set ?_ GE226.out) | exact HB.out)⟩⟩
   · rw [if_neg c3] at H
     have c3b0 : decide (x3_1 < (l0_4.length : Int)) = false:=decide_eq_false c3
     clear c3
     obtain rfl:=Option.some.inj H
     have hcz45_0 : wr.cell? ⟨gb224,0,none⟩ = some (.slice A0_0 l0_0.length c0_0) := (blk_cell BK224.out 0).trans rfl
     have hcz45_1 : wr.cell? ⟨gb224,1,none⟩ = some (.slice A0_1 l0_1.length c0_1) := (blk_cell BK224.out 1).trans rfl
     have hcz45_2 : wr.cell? ⟨gb224,2,none⟩ = some (.int .i64 a0_2) := (blk_cell BK224.out 2).trans rfl
     have hcz45_3 : wr.cell? ⟨gb224,3,none⟩ = some (.int .i64 a0_3) := (blk_cell BK224.out 3).trans rfl
     have hcz45_4 : wr.cell? ⟨gb224,4,none⟩ = some (.slice A0_4 l0_4.length c0_4) := (blk_cell BK224.out 4).trans rfl
     have hfz45_0:=blk_frozen BK224.out 0
     have hfz45_1:=blk_frozen BK224.out 1
     have hfz45_2:=blk_frozen BK224.out 2
     have hfz45_3:=blk_frozen BK224.out 3
     have hfz45_4:=blk_frozen BK224.out 4
     go_wp2
     go_ret
     exact ⟨by first | rfl | (simp [errW_none,errW_some] <;> rfl) | (simp [*,errW_none,errW_some] <;> rfl),by repeat (first | (with_reducible first | exact HB.out | apply below_alloc | apply pw_below_drewN | apply below_drew1 | refine below_set ?_ GE224.out) | exact HB.out)⟩
def regletref13_marks.l0 : Nat → List (List Bool) → Int → List ByteArray → List (S61) → Int → Int → List (S30) → Option ((List (List Bool)))
  | 0,_,_,_,_,_,_,_ => none
  | k + 1,x3,x4,x233000,x233001,x233002,x233003,x233004 => if x4 < (x233000.length : Int) then (if 0 ≤ (wrap64 ((x233001.length : Int) + 1)) then (if (wrap64 ((x233001.length : Int) + 1) : Int).toNat ≤ 281474976710656 then (if x3.length < 5864062014805 then (regletref13_marks.l0 k (x3 ++ [(List.replicate (wrap64 ((x233001.length : Int) + 1) : Int).toNat false)]) (wrap64 (x4 + 1)) x233000 x233001 x233002 x233003 x233004) else (none)) else (none)) else (none)) else (some x3)
def regletref13_marks.f (k : Nat) (l0_0 : List ByteArray) (l0_1 : List (S61)) (a0_2 : Int) (a0_3 : Int) (l0_4 : List (S30)) : Option ((List (List Bool))) := regletref13_marks.l0 k ([] : List (List Bool)) 0 l0_0 l0_1 a0_2 a0_3 l0_4
set_option maxHeartbeats 8000000 in
set_option maxRecDepth 100000 in
theorem regletref13_marks.calls (k : Nat) (A0_0 : Option Addr) (c0_0 : Nat) (l0_0 : List ByteArray) (A0_1 : Option Addr) (c0_1 : Nat) (l0_1 : List (S61)) (a0_2 : Int) (a0_3 : Int) (A0_4 : Option Addr) (c0_4 : Nat) (l0_4 : List (S30)) (r : List (List Bool)) (w : World) (hr0_0 : Kd.C Kd.string w A0_0 l0_0.length l0_0) (hc0_0 : l0_0.length ≤ c0_0) (hr0_1 : Kd.C k61 w A0_1 l0_1.length l0_1) (hc0_1 : l0_1.length ≤ c0_1) (hr0_4 : Kd.C k30 w A0_4 l0_4.length l0_4) (hc0_4 : l0_4.length ≤ c0_4) (h : regletref13_marks.f k l0_0 l0_1 a0_2 a0_3 l0_4 = some r) :
    Calls Try.prog 26 #[.agg #[.slice A0_0 l0_0.length c0_0,.slice A0_1 l0_1.length c0_1,.int .i64 a0_2,.int .i64 a0_3,.slice A0_4 l0_4.length c0_4]] w fun e w' => ∃ v0_ : Value,e = .returned (v0_) ∧ Kd.S (Kd.slice 4 Kd.bool) 65 w' w.heap.size (fun _ => True) v0_ r ∧ Below w.heap.size w w' := by
 have hu26:=Try.underlying26
 have HR0_0:=Aside0.mk hr0_0
 have HC0_0:=Aside0.mk hc0_0
 clear hr0_0 hc0_0
 have HR0_1:=Aside0.mk hr0_1
 have HC0_1:=Aside0.mk hc0_1
 clear hr0_1 hc0_1
 have HR0_4:=Aside0.mk hr0_4
 have HC0_4:=Aside0.mk hc0_4
 clear hr0_4 hc0_4
 have HB:=Aside0.mk (Below.refl w.heap.size w)
 have H : (regletref13_marks.l0 k ([] : List (List Bool)) 0 l0_0 l0_1 a0_2 a0_3 l0_4) = some r:=h
 clear h
 have H' := Aside0.mk H
 clear H
 go_enter Try.func26,Try.ntmps26
 go_wp2_with (first | ((with_reducible refine gate_dst (N:=1) rfl ?_);refine box_event ?hg (N:=1) ?hd (cs:=#[.slice A0_0 l0_0.length c0_0,.slice A0_1 l0_1.length c0_1,.int .i64 a0_2,.int .i64 a0_3,.slice A0_4 l0_4.length c0_4]) (t:=26) ?hr ?_;(case hd => rfl);(case hg => rfl);(case hr => first | (go_simp;done) | (go_simp;rfl));intro gb232 hg w2 hbox hb;have n0_:=Aside0.mk (below_step (by repeat (first | (with_reducible first | exact HB.out | apply below_alloc | apply pw_below_drewN | apply below_drew1) | exact HB.out)) hb);have n1_:=Aside0.mk (hbox);have n2_:=Aside0.mk ((by rw [hg];exact (below_size (by repeat (first | (with_reducible first | exact HB.out | apply below_alloc | apply pw_below_drewN | apply below_drew1) | exact HB.out))) : w.heap.size ≤ gb232));have n3_:=Aside0.mk ((by rw [hg];exact (below_size (by repeat (first | (with_reducible first | exact HB.out | apply below_alloc | apply pw_below_drewN | apply below_drew1) | exact HB.out))) : w.heap.size ≤ gb232));clear HB;have HB:=n0_;have BK232:=n1_;have GW232:=n2_;have GE232:=n3_;clear n0_ n1_ n2_ n3_;clear hb hbox hg))
 go_loopg [3,4] k (fun kq v3 v4 w' => ∃ (x3_1 : List (List Bool)) (x4_1 : Int),v4 = .int .i64 x4_1 ∧ Aside0 (regletref13_marks.l0 kq x3_1 x4_1 l0_0 l0_1 a0_2 a0_3 l0_4 = some r) ∧ Aside0 (kq ≤ k) ∧ Aside0 (Kd.S (Kd.slice 4 Kd.bool) 65 w' w.heap.size (fun _ => True) v3 x3_1) ∧ Aside0 (w'.heap[gb232]? = some (.cells #[(.slice A0_0 l0_0.length c0_0),(.slice A0_1 l0_1.length c0_1),.int .i64 a0_2,.int .i64 a0_3,(.slice A0_4 l0_4.length c0_4)] 26 (0,0))) ∧ Aside0 (Below w.heap.size w w'))
 case atStart => exact ⟨(([] : List (List Bool))),(0),(by first | rfl | (simp;done) | (simp [*];done)),H',⟨Nat.le_refl _⟩,⟨by first | exact Kd.S_nil _ _ _ _ _ | exact Kd.N_nil _ _ _ _ _ | exact Kd.V_nil _ _ _ _ _ | exact Kd.Q_nil _ _ _ _ _ | exact Kd.R_nil _ _ _ _ _⟩,⟨by (with_reducible repeat (first | refine blk_drewN ?_ _ | refine blk_drew ?_ | refine blk_alloc ?_ _));exact BK232.out⟩,⟨by repeat (first | (with_reducible first | exact HB.out | apply below_alloc | apply pw_below_drewN | apply below_drew1 | refine below_set ?_ GE232.out) | exact HB.out)⟩⟩
 case round =>
  clear H'
  (try clear c2);(try clear p2)
  obtain ⟨x3_1,x4_1,rfl,HA,HK1,HO_3,BK232,HB⟩ := hrel
  cases gk with
  | zero => exact absurd HA.out (by simp [regletref13_marks.l0])
  | succ k1 =>
   have H:=HA.out
   clear HA
   simp only [regletref13_marks.l0] at H
   by_cases c3 : x4_1 < (l0_0.length : Int)
   · rw [if_pos c3] at H
     have c3b0 : decide (x4_1 < (l0_0.length : Int)) = true:=decide_eq_true c3
     clear c3
     obtain ⟨ji4,hji4⟩ : ∃ j_ : Int,(wrap64 ((l0_1.length : Int) + 1)) = j_:=⟨_,rfl⟩
     replace H : (if 0 ≤ (ji4) then (if (ji4 : Int).toNat ≤ 281474976710656 then (if x3_1.length < 5864062014805 then (regletref13_marks.l0 k1 (x3_1 ++ [(List.replicate (ji4 : Int).toNat false)]) (wrap64 (x4_1 + 1)) l0_0 l0_1 a0_2 a0_3 l0_4) else (none)) else (none)) else (none)) = some r:=by first | (rw [hji4] at H;exact H) | (simp only [hji4] at H ⊢;exact H)
     have hji4w : (IntKind.i64.wrap ((l0_1.length : Int) + 1)) = ji4:=(i64_w _).trans hji4
     by_cases c5 : 0 ≤ (ji4)
     rotate_left
     · rw [if_neg c5] at H
       exact absurd H (by simp)
     rw [if_pos c5] at H
     have c5b0:=eq_true c5
     have c5b1 : decide (0 ≤ (ji4)) = true:=decide_eq_true c5
     clear c5
     by_cases c6 : (ji4 : Int).toNat ≤ 281474976710656
     rotate_left
     · rw [if_neg c6] at H
       exact absurd H (by simp)
     rw [if_pos c6] at H
     have c6b0:=eq_true c6
     have c6b1 : decide ((ji4 : Int).toNat ≤ 281474976710656) = true:=decide_eq_true c6
     clear c6
     obtain ⟨y233,hy233⟩ : ∃ y_ : List Bool,y_ = (List.replicate (ji4 : Int).toNat false) := ⟨_,rfl⟩
     replace H : (if x3_1.length < 5864062014805 then (regletref13_marks.l0 k1 (x3_1 ++ [y233]) (wrap64 (x4_1 + 1)) l0_0 l0_1 a0_2 a0_3 l0_4) else (none)) = some r:=by first | (rw [hy233];with_reducible exact H) | (have H2_:=(Option.bind_some _ _).symm.trans H;rw [hy233];with_reducible exact H2_) | (have H2_:=(Option.bind_some _ _).symm.trans H;with_reducible exact H2_) | with_reducible exact H | (rw [hy233];exact H) | exact H
     have Ny233:=Aside0.mk hy233
     clear hy233
     by_cases c7 : x3_1.length < 5864062014805
     rotate_left
     · rw [if_neg c7] at H
       exact absurd H (by simp)
     rw [if_pos c7] at H
     have LMc7:=Aside0.mk c7
     clear c7
     obtain ⟨y236,hy236⟩ : ∃ y_ : List (List Bool),y_ = (x3_1 ++ [y233]) := ⟨_,rfl⟩
     replace H : (regletref13_marks.l0 k1 y236 (wrap64 (x4_1 + 1)) l0_0 l0_1 a0_2 a0_3 l0_4) = some r:=by first | (rw [hy236];with_reducible exact H) | (have H2_:=(Option.bind_some _ _).symm.trans H;rw [hy236];with_reducible exact H2_) | (have H2_:=(Option.bind_some _ _).symm.trans H;with_reducible exact H2_) | with_reducible exact H | (rw [hy236];exact H) | exact H
     have Ny236:=Aside0.mk hy236
     clear hy236
     have H' := Aside0.mk H
     clear H
     have hcz8_0 : wr.cell? ⟨gb232,0,none⟩ = some (.slice A0_0 l0_0.length c0_0) := (blk_cell BK232.out 0).trans rfl
     have hcz8_1 : wr.cell? ⟨gb232,1,none⟩ = some (.slice A0_1 l0_1.length c0_1) := (blk_cell BK232.out 1).trans rfl
     have hcz8_2 : wr.cell? ⟨gb232,2,none⟩ = some (.int .i64 a0_2) := (blk_cell BK232.out 2).trans rfl
     have hcz8_3 : wr.cell? ⟨gb232,3,none⟩ = some (.int .i64 a0_3) := (blk_cell BK232.out 3).trans rfl
     have hcz8_4 : wr.cell? ⟨gb232,4,none⟩ = some (.slice A0_4 l0_4.length c0_4) := (blk_cell BK232.out 4).trans rfl
     have hfz8_0:=blk_frozen BK232.out 0
     have hfz8_1:=blk_frozen BK232.out 1
     have hfz8_2:=blk_frozen BK232.out 2
     have hfz8_3:=blk_frozen BK232.out 3
     have hfz8_4:=blk_frozen BK232.out 4
     go_wp2_with (first | ((with_reducible refine gate_dst (N:=17) rfl ?_);refine Kd.R_make Kd.bool _ 4 rfl (N:=17) rfl 65 _ _ rfl ji4 rfl rfl Try.underlying65 (.bool false) 1 info4 rfl (by decide) (by omega) false (ok:=fun _ => True) (okp:=fun _ => True) rfl (fun _ hk => hk) trivial (of_decide_eq_true (by first | (with_reducible assumption) | assumption)) (Nat.le_trans (Nat.mul_le_mul_right _ (of_decide_eq_true (by first | (with_reducible assumption) | assumption) : ji4.toNat ≤ 281474976710656)) (by omega)) (Below.refl _ _) (Nat.le_refl _) ?_;intro v234 w9 ho10 hb hg_ hnew_;clear hg_ hnew_;(first | rw [← Ny233.out] at ho10 | (simp only [Int.reduceToNat] at ho10;rw [← Ny233.out] at ho10));have n0_:=Aside0.mk (Kd.S_elder' (by (with_reducible repeat (first | apply Kd.S_alloc | apply Kd.S_drewN | apply Kd.S_drew));exact HO_3.out) (Kd.R_base ho10) hb);have n1_:=Aside0.mk (Kd.R_lower ho10 (below_size (by repeat (first | (with_reducible first | exact HB.out | apply below_alloc | apply pw_below_drewN | apply below_drew1 | refine below_set ?_ GE232.out) | exact HB.out))));have n2_:=Aside0.mk (blk_below (g:=gb232) (o := .cells #[.slice A0_0 l0_0.length c0_0,.slice A0_1 l0_1.length c0_1,.int .i64 a0_2,.int .i64 a0_3,.slice A0_4 l0_4.length c0_4] 26 (0,0)) (by (with_reducible repeat (first | refine blk_drewN ?_ _ | refine blk_drew ?_ | refine blk_alloc ?_ _));exact BK232.out) hb);have n3_:=Aside0.mk (below_step (by repeat (first | (with_reducible first | exact HB.out | apply below_alloc | apply pw_below_drewN | apply below_drew1 | refine below_set ?_ GE232.out) | exact HB.out)) hb);clear HO_3;clear BK232;clear HB;have HO_3:=n0_;have HO235:=n1_;have BK232:=n2_;have HB:=n3_;clear n0_ n1_ n2_ n3_;clear hb ho10;obtain ⟨Ao12,co12,eo12⟩ := Kd.R_slice HO235.out;subst eo12) | ((with_reducible refine gate_builtin (b := .append) (xs:=#[.tmp 12,.tmp 18]) rfl ?_);at_builtin;refine Kd.S_append (Kd.slice 4 Kd.bool) (w0:=w) w.heap.size rfl (.tmp 12) (.tmp 18) 62 65 (.slice none 0 0) 24 rfl Try.underlying62 info65 rfl (by decide) (by omega) u3 x3_1 y233 [.slice Ao12 y233.length co12] (fun _ => True) (fun k_ => some k_ = (.slice Ao12 y233.length co12 : Value).ownBlock) rfl rfl ?aP (fun k_ hk_ => ((Kd.R_mono (ok' := fun k_ => ((fun _ => True)) k_ ∧ some k_ ≠ (u3 : Value).ownBlock) (Kd.R_apart' (HO235.out) (Kd.S_typed HO_3.out) (by decide)) (fun k_ hk => ⟨trivial,hk.2⟩))).1 k_ hk_.symm) ?aF ?aO ?aB ?aS ?aL ?_;(case aP => exact Kd.M_row (Kd.R_mono (Kd.R_tight rfl (Kd.R_mono (ok' := fun k_ => ((fun _ => True)) k_ ∧ some k_ ≠ (u3 : Value).ownBlock) (Kd.R_apart' (HO235.out) (Kd.S_typed HO_3.out) (by decide)) (fun k_ hk => ⟨trivial,hk.2⟩))) (fun _ h_ => h_)));(case aB => exact (by repeat (first | (with_reducible first | exact HB.out | apply below_alloc | apply pw_below_drewN | apply below_drew1 | refine below_set ?_ GE232.out) | exact HB.out)));(case aF => exact (fun _ _ => trivial));(case aO => exact (by (with_reducible repeat (first | apply Kd.S_alloc | apply Kd.S_drewN | apply Kd.S_drew));exact Kd.S_mono HO_3.out (fun k_ hk => ⟨trivial,fun e_ => hk.2 e_⟩)));(case aS => exact (below_size (by repeat (first | (with_reducible first | exact HB.out | apply below_alloc | apply pw_below_drewN | apply below_drew1 | refine below_set ?_ GE232.out) | exact HB.out))));(case aL => have:=LMc7.out;omega);intro v237 w11 ho hb hg hat;rw [← Ny236.out] at ho;have n0_:=Aside0.mk (blk_grown (g:=gb232) (o := .cells #[.slice A0_0 l0_0.length c0_0,.slice A0_1 l0_1.length c0_1,.int .i64 a0_2,.int .i64 a0_3,.slice A0_4 l0_4.length c0_4] 26 (0,0)) (by (with_reducible repeat (first | refine blk_drewN ?_ _ | refine blk_drew ?_ | refine blk_alloc ?_ _));exact BK232.out) hg (Kd.S_ne HO_3.out BK232.out (by decide)));have n1_:=Aside0.mk (hb);have n2_:=Aside0.mk (ho);clear BK232;clear HB;clear HO_3;clear HO235;have BK232:=n0_;have HB:=n1_;have HO238:=n2_;clear n0_ n1_ n2_;clear ho hb hg hat))
     go_roundg k1
     case measure => have:=HK1.out;omega
     case rel => exact ⟨(y236),(wrap64 (x4_1 + 1)),(by first | rfl | (simp;done) | (simp [*];done)),H',⟨by have:=HK1.out;omega⟩,⟨by (with_reducible repeat (first | apply Kd.S_alloc | apply Kd.S_drewN | apply Kd.S_drew));exact HO238.out⟩,⟨by (with_reducible repeat (first | refine blk_drewN ?_ _ | refine blk_drew ?_ | refine blk_alloc ?_ _));exact BK232.out⟩,⟨by repeat (first | (with_reducible first | exact HB.out | apply below_alloc | apply pw_below_drewN | apply below_drew1 | refine below_set ?_ GE232.out) | exact HB.out)⟩⟩
   · rw [if_neg c3] at H
     have c3b0 : decide (x4_1 < (l0_0.length : Int)) = false:=decide_eq_false c3
     clear c3
     obtain rfl:=Option.some.inj H
     have hcz13_0 : wr.cell? ⟨gb232,0,none⟩ = some (.slice A0_0 l0_0.length c0_0) := (blk_cell BK232.out 0).trans rfl
     have hcz13_1 : wr.cell? ⟨gb232,1,none⟩ = some (.slice A0_1 l0_1.length c0_1) := (blk_cell BK232.out 1).trans rfl
     have hcz13_2 : wr.cell? ⟨gb232,2,none⟩ = some (.int .i64 a0_2) := (blk_cell BK232.out 2).trans rfl
     have hcz13_3 : wr.cell? ⟨gb232,3,none⟩ = some (.int .i64 a0_3) := (blk_cell BK232.out 3).trans rfl
     have hcz13_4 : wr.cell? ⟨gb232,4,none⟩ = some (.slice A0_4 l0_4.length c0_4) := (blk_cell BK232.out 4).trans rfl
     have hfz13_0:=blk_frozen BK232.out 0
     have hfz13_1:=blk_frozen BK232.out 1
     have hfz13_2:=blk_frozen BK232.out 2
     have hfz13_3:=blk_frozen BK232.out 3
     have hfz13_4:=blk_frozen BK232.out 4
     go_wp2
     go_ret
     exact ⟨_,by first | rfl | (simp [errW_none,errW_some] <;> rfl) | (simp [*,errW_none,errW_some] <;> rfl),by (with_reducible repeat (first | apply Kd.S_alloc | apply Kd.S_drewN | apply Kd.S_drew));exact HO_3.out,by repeat (first | (with_reducible first | exact HB.out | apply below_alloc | apply pw_below_drewN | apply below_drew1 | refine below_set ?_ GE232.out) | exact HB.out)⟩
attribute [local go_sem] max2_int min2_int max_two min_two max_three min_three max_four min_four   -- for this text's walks alone
set_option linter.unusedVariables false
set_option linter.unusedSimpArgs false
def regletref13_join.l0 : Nat → List Bool → List Bool → Bool → Int → Option (Bool × List Bool)
  | 0,_,_,_,_ => none
  | k + 1,x0,x1,x5,x6 => if x6 < (x0.length : Int) then (if x5 = true then (if 0 ≤ x6 then (if rdOf false x0 x6 = true then (regletref13_join.l0 k (x0.set (x6 : Int).toNat true) x1 true (wrap64 (x6 + 1))) else (if x6 < (x1.length : Int) then (regletref13_join.l0 k (x0.set (x6 : Int).toNat (rdOf false x1 x6)) x1 true (wrap64 (x6 + 1))) else (none))) else (none)) else (if 0 ≤ x6 then (if x6 < (x1.length : Int) then (if rdOf false x1 x6 = true then (if rdOf false x0 x6 = true then (regletref13_join.l0 k (x0.set (x6 : Int).toNat true) x1 (!(rdOf false x0 x6)) (wrap64 (x6 + 1))) else (regletref13_join.l0 k (x0.set (x6 : Int).toNat (rdOf false x1 x6)) x1 (!(rdOf false x0 x6)) (wrap64 (x6 + 1)))) else (if rdOf false x0 x6 = true then (regletref13_join.l0 k (x0.set (x6 : Int).toNat true) x1 false (wrap64 (x6 + 1))) else (regletref13_join.l0 k (x0.set (x6 : Int).toNat (rdOf false x1 x6)) x1 false (wrap64 (x6 + 1))))) else (none)) else (none))) else (some (x5,x0))
def regletref13_join.f (k : Nat) (l0 : List Bool) (l1 : List Bool) : Option (Bool × List Bool) := regletref13_join.l0 k l0 l1 false 0
set_option maxHeartbeats 8000000 in
set_option maxRecDepth 100000 in
theorem regletref13_join.calls (k : Nat) (P0_ : Nat → Prop) (u9000_ : Value) (l0 : List Bool) (A1 : Option Addr) (c1 : Nat) (l1 : List Bool) (r1 : Bool) (r2 : List Bool) (w0 w : World) (hB : Below w0.heap.size w0 w) (ho0 : Kd.R Kd.bool 4 w w0.heap.size P0_ u9000_ l0) (hr1 : ∀ W_,Kept w W_ (fun k_ => P0_ k_) → Kd.C Kd.bool W_ A1 l1.length l1) (hc1 : l1.length ≤ c1) (h : regletref13_join.f k l0 l1 = some (r1,r2)) :
    Calls Try.prog 30 #[u9000_,.slice A1 l1.length c1] w fun e w' => e = .returned (.bool r1) ∧ Kd.R Kd.bool 4 w' w0.heap.size (fun k_ => (P0_ k_ ∨ w.heap.size ≤ k_)) u9000_ r2 ∧ Below w0.heap.size w0 w' ∧ Kept w w' (fun k_ => P0_ k_) := by
 have HO0:=Aside0.mk (show Kd.R Kd.bool 4 w w0.heap.size (fun k_ => (P0_ k_ ∨ w.heap.size ≤ k_)) u9000_ l0 from Kd.R_mono ho0 (fun k_ hk => (.inl hk)))
 have HR1:=Aside0.mk hr1
 have HC1:=Aside0.mk hc1
 clear hr1 hc1
 have HK:=Aside0.mk (Kept.refl w (fun k_ => P0_ k_))
 have HW0:=Aside0.mk hB.size
 have HB:=Aside0.mk hB
 clear hB
 have H : (regletref13_join.l0 k l0 l1 false 0) = some (r1,r2) := h
 clear h
 have H' := Aside0.mk H
 clear H
 go_enter Try.func30,Try.ntmps30
 go_wp2
 go_loopg [5,6] k (fun kq v5 v6 w' => ∃ (x0_1 : List Bool) (x5_1 : Bool) (x6_1 : Int),v5 = .bool x5_1 ∧ v6 = .int .i64 x6_1 ∧ Aside0 (regletref13_join.l0 kq x0_1 l1 x5_1 x6_1 = some (r1,r2)) ∧ Aside0 (kq ≤ k) ∧ Aside0 (Kd.R Kd.bool 4 w' w0.heap.size (fun k_ => (P0_ k_ ∨ w.heap.size ≤ k_)) u9000_ x0_1) ∧ Aside0 (Kept w w' (fun k_ => P0_ k_)) ∧ Aside0 (Below w0.heap.size w0 w'))
 case atStart => exact ⟨(l0),(false),(0),(by first | rfl | (simp;done) | (simp [*];done)),(by first | rfl | (simp;done) | (simp [*];done)),H',⟨Nat.le_refl _⟩,⟨by (with_reducible repeat (first | apply Kd.R_alloc | apply Kd.R_drewN | apply Kd.R_drew));exact HO0.out⟩,⟨by repeat (first | (with_reducible first | exact HK.out | apply Kept.alloc | apply Kept.drewN | apply Kept.drew) | exact HK.out)⟩,⟨by repeat (first | (with_reducible first | exact HB.out | apply below_alloc | apply pw_below_drewN | apply below_drew1) | exact HB.out)⟩⟩
 case round =>
  clear H'
  (try clear c1);(try clear p2)
  obtain ⟨x0_1,x5_1,x6_1,rfl,rfl,HA,HK1,HO_0,HK,HB⟩ := hrel
  cases gk with
  | zero => exact absurd HA.out (by simp [regletref13_join.l0])
  | succ k1 =>
   have H:=HA.out
   clear HA
   simp only [regletref13_join.l0] at H
   by_cases c3 : x6_1 < (x0_1.length : Int)
   · rw [if_pos c3] at H
     have c3b0 : decide (x6_1 < (x0_1.length : Int)) = true:=decide_eq_true c3
     clear c3
     by_cases c4 : x5_1 = true
     · subst c4
       have H1 : (if 0 ≤ x6_1 then (if rdOf false x0_1 x6_1 = true then (regletref13_join.l0 k1 (x0_1.set (x6_1 : Int).toNat true) l1 true (wrap64 (x6_1 + 1))) else (if x6_1 < (l1.length : Int) then (regletref13_join.l0 k1 (x0_1.set (x6_1 : Int).toNat (rdOf false l1 x6_1)) l1 true (wrap64 (x6_1 + 1))) else (none))) else (none)) = some (r1,r2) := by rw [if_pos rfl] at H;exact H
       clear H
       have H:=H1
       clear H1
       by_cases c5 : 0 ≤ x6_1
       rotate_left
       · rw [if_neg c5] at H
         exact absurd H (by simp)
       rw [if_pos c5] at H
       have c5b0 : decide (0 ≤ x6_1) = true:=decide_eq_true c5
       clear c5
       obtain ⟨bq6,hbq6⟩ : ∃ b_ : Bool,b_ = (rdOf false x0_1 x6_1) := ⟨_,rfl⟩
       replace H : (if bq6 = true then (regletref13_join.l0 k1 (x0_1.set (x6_1 : Int).toNat true) l1 true (wrap64 (x6_1 + 1))) else (if x6_1 < (l1.length : Int) then (regletref13_join.l0 k1 (x0_1.set (x6_1 : Int).toNat (rdOf false l1 x6_1)) l1 true (wrap64 (x6_1 + 1))) else (none))) = some (r1,r2) := by rw [← hbq6] at H;exact H
       have Nbq6:=Aside0.mk hbq6
       clear hbq6
       by_cases c7 : bq6 = true
       · subst c7
         have H1 : (regletref13_join.l0 k1 (x0_1.set (x6_1 : Int).toNat true) l1 true (wrap64 (x6_1 + 1))) = some (r1,r2) := by rw [if_pos rfl] at H;exact H
         clear H
         have H:=H1
         clear H1
         obtain ⟨y254,hy254⟩ : ∃ y_ : List Bool,y_ = (x0_1.set (x6_1 : Int).toNat true) := ⟨_,rfl⟩
         replace H : (regletref13_join.l0 k1 y254 l1 true (wrap64 (x6_1 + 1))) = some (r1,r2) := by first | (rw [hy254];with_reducible exact H) | (have H2_:=(Option.bind_some _ _).symm.trans H;rw [hy254];with_reducible exact H2_) | (have H2_:=(Option.bind_some _ _).symm.trans H;with_reducible exact H2_) | with_reducible exact H | (rw [hy254];exact H) | exact H
         have Ny254:=Aside0.mk hy254
         clear hy254
         have H' := Aside0.mk H
         clear H
         obtain ⟨Ao9,co9,eo9⟩ := Kd.R_slice HO_0.out
         subst eo9
         have p253 : 0 ≤ (x6_1 : Int) := of_decide_eq_true (by first | (with_reducible assumption) | assumption)
         have q253 : x6_1 < (x0_1.length : Int) := of_decide_eq_true (by first | (with_reducible assumption) | assumption)
         obtain ⟨ad253,e253,hx253_0⟩ := Kd.at_bool (Kd.R_reads' HO_0.out).2.2 x6_1 p253 q253
         (try rw [← Nbq6.out] at hx253_0)
         cases e253
         replace p253:=eq_true p253
         replace q253:=eq_true q253
         have p8 : 0 ≤ (x6_1 : Int) := of_decide_eq_true (by first | (with_reducible assumption) | assumption)
         have q8 : (x6_1 : Int) < ((x0_1.length : Int) : Int) := of_decide_eq_true (by first | (with_reducible assumption) | assumption)
         obtain ⟨go8,co8,eo8,gb8,gl8,cl8,HG8⟩ := Kd.R_form HO_0.out (by omega)
         (first | cases eo8 | (injection eo8 with ea_ en_ ec_;(first | subst ea_ | (injection ea_ with ea_;subst ea_));subst ec_;clear en_))
         have GB8:=Aside0.mk gb8
         have GG8:=Aside0.mk HG8
         clear gb8 gl8 HG8
         have HMgo8:=Aside0.mk (show (P0_ go8 ∨ w.heap.size ≤ go8) from (HO_0.out.1 _ rfl))
         (first | simp only [add_plain] at hx253_0 | skip)
         obtain ⟨hx8_0,hf8_0⟩ := Kd.R_celln false HO_0.out (x6_1 : Int) p8 q8
         replace p8:=eq_true p8
         replace q8:=eq_true q8
         have HP10:=Kd.R_putg HO_0.out (x6_1 : Int) true
         go_wp2_with (first | ((with_reducible refine gate_store (t:=4) (p:=39) rfl ?_);refine store_event (t:=4) (p:=39) (v:=?vo_w11) (w1:=(wr.setCell ⟨go8,(x6_1 : Int).toNat,none⟩ (.bool true))) ?hg ?ho ?hn ?hr ?_;(case ho => rfl);(case hg => rfl);(case hn => rfl);(case hr => first | (go_simp;done) | (go_simp;rfl));intro w11 hw;have hg : wr.grownBy w11 (some go8) := (by rw [hw];exact HP10.2);have hp_ : Kd.R Kd.bool 4 w11 w0.heap.size (fun k_ => (P0_ k_ ∨ w.heap.size ≤ k_)) (.slice (some ⟨go8,0,none⟩) x0_1.length co9) y254:=(by rw [hw,Ny254.out];exact HP10.1);clear HP10;have n0_:=Aside0.mk (hp_);have n1_:=Aside0.mk ((by rw [hw];exact below_set (HB.out) GB8.out : Below w0.heap.size w0 w11));have n2_:=Aside0.mk (Kept.of_grown (S:=(fun k_ => P0_ k_)) hg (by repeat (first | (with_reducible first | exact HK.out | apply Kept.alloc | apply Kept.drewN | apply Kept.drew) | exact HK.out)) (fun k_ e_ => (HO_0.out.1 k_ e_)));clear HO_0;clear HB;clear HK;have HO_0:=n0_;have HB:=n1_;have HK:=n2_;clear n0_ n1_ n2_;clear hg hw hp_))
         go_roundg k1
         case measure => have:=HK1.out;omega
         case rel => exact ⟨(y254),(true),(wrap64 (x6_1 + 1)),(by first | rfl | (simp;done) | (simp [*];done)),(by first | rfl | (simp;done) | (simp [*];done)),H',⟨by have:=HK1.out;omega⟩,⟨by (with_reducible repeat (first | apply Kd.R_alloc | apply Kd.R_drewN | apply Kd.R_drew));exact HO_0.out⟩,⟨by repeat (first | (with_reducible first | exact HK.out | apply Kept.alloc | apply Kept.drewN | apply Kept.drew) | exact HK.out)⟩,⟨by repeat (first | (with_reducible first | exact HB.out | apply below_alloc | apply pw_below_drewN | apply below_drew1) | exact HB.out)⟩⟩
       · replace c7:=Bool.eq_false_iff.mpr c7
         subst c7
         have H1 : (if x6_1 < (l1.length : Int) then (regletref13_join.l0 k1 (x0_1.set (x6_1 : Int).toNat (rdOf false l1 x6_1)) l1 true (wrap64 (x6_1 + 1))) else (none)) = some (r1,r2) := by rw [if_neg (show ¬ (false = true) by decide)] at H;exact H
         clear H
         have H:=H1
         clear H1
         by_cases c12 : x6_1 < (l1.length : Int)
         rotate_left
         · rw [if_neg c12] at H
           exact absurd H (by simp)
         rw [if_pos c12] at H
         have c12b0 : decide (x6_1 < (l1.length : Int)) = true:=decide_eq_true c12
         clear c12
         obtain ⟨y256,hy256⟩ : ∃ y_ : List Bool,y_ = (x0_1.set (x6_1 : Int).toNat (rdOf false l1 x6_1)) := ⟨_,rfl⟩
         replace H : (regletref13_join.l0 k1 y256 l1 true (wrap64 (x6_1 + 1))) = some (r1,r2) := by first | (rw [hy256];with_reducible exact H) | (have H2_:=(Option.bind_some _ _).symm.trans H;rw [hy256];with_reducible exact H2_) | (have H2_:=(Option.bind_some _ _).symm.trans H;with_reducible exact H2_) | with_reducible exact H | (rw [hy256];exact H) | exact H
         have Ny256:=Aside0.mk hy256
         clear hy256
         have H' := Aside0.mk H
         clear H
         obtain ⟨Ao14,co14,eo14⟩ := Kd.R_slice HO_0.out
         subst eo14
         have p253 : 0 ≤ (x6_1 : Int) := of_decide_eq_true (by first | (with_reducible assumption) | assumption)
         have q253 : x6_1 < (x0_1.length : Int) := of_decide_eq_true (by first | (with_reducible assumption) | assumption)
         obtain ⟨ad253,e253,hx253_0⟩ := Kd.at_bool (Kd.R_reads' HO_0.out).2.2 x6_1 p253 q253
         (try rw [← Nbq6.out] at hx253_0)
         cases e253
         replace p253:=eq_true p253
         replace q253:=eq_true q253
         have p255 : 0 ≤ (x6_1 : Int) := of_decide_eq_true (by first | (with_reducible assumption) | assumption)
         have q255 : x6_1 < (l1.length : Int) := of_decide_eq_true (by first | (with_reducible assumption) | assumption)
         obtain ⟨ad255,e255,hx255_0⟩ := Kd.at_bool (Kd.C_kept_now HR1.out HK.out) x6_1 p255 q255
         (try rw [← Nbq6.out] at hx255_0)
         cases e255
         replace p255:=eq_true p255
         replace q255:=eq_true q255
         have p13 : 0 ≤ (x6_1 : Int) := of_decide_eq_true (by first | (with_reducible assumption) | assumption)
         have q13 : (x6_1 : Int) < ((x0_1.length : Int) : Int) := of_decide_eq_true (by first | (with_reducible assumption) | assumption)
         obtain ⟨go13,co13,eo13,gb13,gl13,cl13,HG13⟩ := Kd.R_form HO_0.out (by omega)
         (first | cases eo13 | (injection eo13 with ea_ en_ ec_;(first | subst ea_ | (injection ea_ with ea_;subst ea_));subst ec_;clear en_))
         have GB13:=Aside0.mk gb13
         have GG13:=Aside0.mk HG13
         clear gb13 gl13 HG13
         have HMgo13:=Aside0.mk (show (P0_ go13 ∨ w.heap.size ≤ go13) from (HO_0.out.1 _ rfl))
         (first | simp only [add_plain] at hx253_0 | skip)
         obtain ⟨hx13_0,hf13_0⟩ := Kd.R_celln false HO_0.out (x6_1 : Int) p13 q13
         replace p13:=eq_true p13
         replace q13:=eq_true q13
         have HP15:=Kd.R_putg HO_0.out (x6_1 : Int) (rdOf false l1 x6_1)
         go_wp2_with (first | ((with_reducible refine gate_store (t:=4) (p:=39) rfl ?_);refine store_event (t:=4) (p:=39) (v:=?vo_w16) (w1:=(wr.setCell ⟨go13,(x6_1 : Int).toNat,none⟩ (.bool (rdOf false l1 x6_1)))) ?hg ?ho ?hn ?hr ?_;(case ho => rfl);(case hg => rfl);(case hn => rfl);(case hr => first | (go_simp;done) | (go_simp;rfl));intro w16 hw;have hg : wr.grownBy w16 (some go13) := (by rw [hw];exact HP15.2);have hp_ : Kd.R Kd.bool 4 w16 w0.heap.size (fun k_ => (P0_ k_ ∨ w.heap.size ≤ k_)) (.slice (some ⟨go13,0,none⟩) x0_1.length co14) y256:=(by rw [hw,Ny256.out];exact HP15.1);clear HP15;have n0_:=Aside0.mk (hp_);have n1_:=Aside0.mk ((by rw [hw];exact below_set (HB.out) GB13.out : Below w0.heap.size w0 w16));have n2_:=Aside0.mk (Kept.of_grown (S:=(fun k_ => P0_ k_)) hg (by repeat (first | (with_reducible first | exact HK.out | apply Kept.alloc | apply Kept.drewN | apply Kept.drew) | exact HK.out)) (fun k_ e_ => (HO_0.out.1 k_ e_)));clear HO_0;clear HB;clear HK;have HO_0:=n0_;have HB:=n1_;have HK:=n2_;clear n0_ n1_ n2_;clear hg hw hp_))
         go_roundg k1
         case measure => have:=HK1.out;omega
         case rel => exact ⟨(y256),(true),(wrap64 (x6_1 + 1)),(by first | rfl | (simp;done) | (simp [*];done)),(by first | rfl | (simp;done) | (simp [*];done)),H',⟨by have:=HK1.out;omega⟩,⟨by (with_reducible repeat (first | apply Kd.R_alloc | apply Kd.R_drewN | apply Kd.R_drew));exact HO_0.out⟩,⟨by repeat (first | (with_reducible first | exact HK.out | apply Kept.alloc | apply Kept.drewN | apply Kept.drew) | exact HK.out)⟩,⟨by repeat (first | (with_reducible first | exact HB.out | apply below_alloc | apply pw_below_drewN | apply below_drew1) | exact HB.out)⟩⟩
     · replace c4:=Bool.eq_false_iff.mpr c4
       subst c4
       have H1 : (if 0 ≤ x6_1 then (if x6_1 < (l1.length : Int) then (if rdOf false l1 x6_1 = true then (if rdOf false x0_1 x6_1 = true then (regletref13_join.l0 k1 (x0_1.set (x6_1 : Int).toNat true) l1 (!(rdOf false x0_1 x6_1)) (wrap64 (x6_1 + 1))) else (regletref13_join.l0 k1 (x0_1.set (x6_1 : Int).toNat (rdOf false l1 x6_1)) l1 (!(rdOf false x0_1 x6_1)) (wrap64 (x6_1 + 1)))) else (if rdOf false x0_1 x6_1 = true then (regletref13_join.l0 k1 (x0_1.set (x6_1 : Int).toNat true) l1 false (wrap64 (x6_1 + 1))) else (regletref13_join.l0 k1 (x0_1.set (x6_1 : Int).toNat (rdOf false l1 x6_1)) l1 false (wrap64 (x6_1 + 1))))) else (none)) else (none)) = some (r1,r2) := by rw [if_neg (show ¬ (false = true) by decide)] at H;exact H
       clear H
       have H:=H1
       clear H1
       by_cases c17 : 0 ≤ x6_1
       rotate_left
       · rw [if_neg c17] at H
         exact absurd H (by simp)
       rw [if_pos c17] at H
       have c17b0 : decide (0 ≤ x6_1) = true:=decide_eq_true c17
       clear c17
       by_cases c18 : x6_1 < (l1.length : Int)
       rotate_left
       · rw [if_neg c18] at H
         exact absurd H (by simp)
       rw [if_pos c18] at H
       have c18b0 : decide (x6_1 < (l1.length : Int)) = true:=decide_eq_true c18
       clear c18
       obtain ⟨bq19,hbq19⟩ : ∃ b_ : Bool,b_ = (rdOf false l1 x6_1) := ⟨_,rfl⟩
       replace H : (if bq19 = true then (if rdOf false x0_1 x6_1 = true then (regletref13_join.l0 k1 (x0_1.set (x6_1 : Int).toNat true) l1 (!(rdOf false x0_1 x6_1)) (wrap64 (x6_1 + 1))) else (regletref13_join.l0 k1 (x0_1.set (x6_1 : Int).toNat (bq19)) l1 (!(rdOf false x0_1 x6_1)) (wrap64 (x6_1 + 1)))) else (if rdOf false x0_1 x6_1 = true then (regletref13_join.l0 k1 (x0_1.set (x6_1 : Int).toNat true) l1 false (wrap64 (x6_1 + 1))) else (regletref13_join.l0 k1 (x0_1.set (x6_1 : Int).toNat (bq19)) l1 false (wrap64 (x6_1 + 1))))) = some (r1,r2) := by rw [← hbq19] at H;exact H
       have Nbq19:=Aside0.mk hbq19
       clear hbq19
       by_cases c20 : bq19 = true
       · subst c20
         have H1 : (if rdOf false x0_1 x6_1 = true then (regletref13_join.l0 k1 (x0_1.set (x6_1 : Int).toNat true) l1 (!(rdOf false x0_1 x6_1)) (wrap64 (x6_1 + 1))) else (regletref13_join.l0 k1 (x0_1.set (x6_1 : Int).toNat (true)) l1 (!(rdOf false x0_1 x6_1)) (wrap64 (x6_1 + 1)))) = some (r1,r2) := by rw [if_pos rfl] at H;exact H
         clear H
         have H:=H1
         clear H1
         obtain ⟨bq21,hbq21⟩ : ∃ b_ : Bool,b_ = (rdOf false x0_1 x6_1) := ⟨_,rfl⟩
         replace H : (if bq21 = true then (regletref13_join.l0 k1 (x0_1.set (x6_1 : Int).toNat true) l1 (!(bq21)) (wrap64 (x6_1 + 1))) else (regletref13_join.l0 k1 (x0_1.set (x6_1 : Int).toNat (true)) l1 (!(bq21)) (wrap64 (x6_1 + 1)))) = some (r1,r2) := by rw [← hbq21] at H;exact H
         have Nbq21:=Aside0.mk hbq21
         clear hbq21
         by_cases c22 : bq21 = true
         · subst c22
           have H1 : (regletref13_join.l0 k1 (x0_1.set (x6_1 : Int).toNat true) l1 (!(true)) (wrap64 (x6_1 + 1))) = some (r1,r2) := by rw [if_pos rfl] at H;exact H
           clear H
           have H:=H1
           clear H1
           obtain ⟨y260,hy260⟩ : ∃ y_ : List Bool,y_ = (x0_1.set (x6_1 : Int).toNat true) := ⟨_,rfl⟩
           replace H : (regletref13_join.l0 k1 y260 l1 (!(true)) (wrap64 (x6_1 + 1))) = some (r1,r2) := by first | (rw [hy260];with_reducible exact H) | (have H2_:=(Option.bind_some _ _).symm.trans H;rw [hy260];with_reducible exact H2_) | (have H2_:=(Option.bind_some _ _).symm.trans H;with_reducible exact H2_) | with_reducible exact H | (rw [hy260];exact H) | exact H
           have Ny260:=Aside0.mk hy260
           clear hy260
           have H' := Aside0.mk H
           clear H
           obtain ⟨Ao24,co24,eo24⟩ := Kd.R_slice HO_0.out
           subst eo24
           have p257 : 0 ≤ (x6_1 : Int) := of_decide_eq_true (by first | (with_reducible assumption) | assumption)
           have q257 : x6_1 < (l1.length : Int) := of_decide_eq_true (by first | (with_reducible assumption) | assumption)
           obtain ⟨ad257,e257,hx257_0⟩ := Kd.at_bool (Kd.C_kept_now HR1.out HK.out) x6_1 p257 q257
           (try rw [← Nbq19.out] at hx257_0)
           (try rw [← Nbq21.out] at hx257_0)
           cases e257
           replace p257:=eq_true p257
           replace q257:=eq_true q257
           have p258 : 0 ≤ (x6_1 : Int) := of_decide_eq_true (by first | (with_reducible assumption) | assumption)
           have q258 : x6_1 < (x0_1.length : Int) := of_decide_eq_true (by first | (with_reducible assumption) | assumption)
           obtain ⟨ad258,e258,hx258_0⟩ := Kd.at_bool (Kd.R_reads' HO_0.out).2.2 x6_1 p258 q258
           (try rw [← Nbq19.out] at hx258_0)
           (try rw [← Nbq21.out] at hx258_0)
           cases e258
           replace p258:=eq_true p258
           replace q258:=eq_true q258
           have p259 : 0 ≤ (x6_1 : Int) := of_decide_eq_true (by first | (with_reducible assumption) | assumption)
           have q259 : x6_1 < (x0_1.length : Int) := of_decide_eq_true (by first | (with_reducible assumption) | assumption)
           obtain ⟨ad259,e259,hx259_0⟩ := Kd.at_bool (Kd.R_reads' HO_0.out).2.2 x6_1 p259 q259
           (try rw [← Nbq19.out] at hx259_0)
           (try rw [← Nbq21.out] at hx259_0)
           obtain rfl : ad258 = ad259:=(by injection e259)
           replace p259:=eq_true p259
           replace q259:=eq_true q259
           have p23 : 0 ≤ (x6_1 : Int) := of_decide_eq_true (by first | (with_reducible assumption) | assumption)
           have q23 : (x6_1 : Int) < ((x0_1.length : Int) : Int) := of_decide_eq_true (by first | (with_reducible assumption) | assumption)
           obtain ⟨go23,co23,eo23,gb23,gl23,cl23,HG23⟩ := Kd.R_form HO_0.out (by omega)
           (first | cases eo23 | (injection eo23 with ea_ en_ ec_;(first | subst ea_ | (injection ea_ with ea_;subst ea_));subst ec_;clear en_))
           have GB23:=Aside0.mk gb23
           have GG23:=Aside0.mk HG23
           clear gb23 gl23 HG23
           have HMgo23:=Aside0.mk (show (P0_ go23 ∨ w.heap.size ≤ go23) from (HO_0.out.1 _ rfl))
           (first | simp only [add_plain] at hx258_0 | skip)
           (first | simp only [add_plain] at hx259_0 | skip)
           obtain ⟨hx23_0,hf23_0⟩ := Kd.R_celln false HO_0.out (x6_1 : Int) p23 q23
           replace p23:=eq_true p23
           replace q23:=eq_true q23
           have HP25:=Kd.R_putg HO_0.out (x6_1 : Int) true
           go_wp2_with (first | ((with_reducible refine gate_store (t:=4) (p:=39) rfl ?_);refine store_event (t:=4) (p:=39) (v:=?vo_w26) (w1:=(wr.setCell ⟨go23,(x6_1 : Int).toNat,none⟩ (.bool true))) ?hg ?ho ?hn ?hr ?_;(case ho => rfl);(case hg => rfl);(case hn => rfl);(case hr => first | (go_simp;done) | (go_simp;rfl));intro w26 hw;have hg : wr.grownBy w26 (some go23) := (by rw [hw];exact HP25.2);have hp_ : Kd.R Kd.bool 4 w26 w0.heap.size (fun k_ => (P0_ k_ ∨ w.heap.size ≤ k_)) (.slice (some ⟨go23,0,none⟩) x0_1.length co24) y260:=(by rw [hw,Ny260.out];exact HP25.1);clear HP25;have n0_:=Aside0.mk (hp_);have n1_:=Aside0.mk ((by rw [hw];exact below_set (HB.out) GB23.out : Below w0.heap.size w0 w26));have n2_:=Aside0.mk (Kept.of_grown (S:=(fun k_ => P0_ k_)) hg (by repeat (first | (with_reducible first | exact HK.out | apply Kept.alloc | apply Kept.drewN | apply Kept.drew) | exact HK.out)) (fun k_ e_ => (HO_0.out.1 k_ e_)));clear HO_0;clear HB;clear HK;have HO_0:=n0_;have HB:=n1_;have HK:=n2_;clear n0_ n1_ n2_;clear hg hw hp_))
           go_roundg k1
           case measure => have:=HK1.out;omega
           case rel => exact ⟨(y260),(!(true)),(wrap64 (x6_1 + 1)),(by first | rfl | (simp;done) | (simp [*];done)),(by first | rfl | (simp;done) | (simp [*];done)),H',⟨by have:=HK1.out;omega⟩,⟨by (with_reducible repeat (first | apply Kd.R_alloc | apply Kd.R_drewN | apply Kd.R_drew));exact HO_0.out⟩,⟨by repeat (first | (with_reducible first | exact HK.out | apply Kept.alloc | apply Kept.drewN | apply Kept.drew) | exact HK.out)⟩,⟨by repeat (first | (with_reducible first | exact HB.out | apply below_alloc | apply pw_below_drewN | apply below_drew1) | exact HB.out)⟩⟩
         · replace c22:=Bool.eq_false_iff.mpr c22
           subst c22
           have H1 : (regletref13_join.l0 k1 (x0_1.set (x6_1 : Int).toNat (true)) l1 (!(false)) (wrap64 (x6_1 + 1))) = some (r1,r2) := by rw [if_neg (show ¬ (false = true) by decide)] at H;exact H
           clear H
           have H:=H1
           clear H1
           obtain ⟨y262,hy262⟩ : ∃ y_ : List Bool,y_ = (x0_1.set (x6_1 : Int).toNat (true)) := ⟨_,rfl⟩
           replace H : (regletref13_join.l0 k1 y262 l1 (!(false)) (wrap64 (x6_1 + 1))) = some (r1,r2) := by first | (rw [hy262];with_reducible exact H) | (have H2_:=(Option.bind_some _ _).symm.trans H;rw [hy262];with_reducible exact H2_) | (have H2_:=(Option.bind_some _ _).symm.trans H;with_reducible exact H2_) | with_reducible exact H | (rw [hy262];exact H) | exact H
           have Ny262:=Aside0.mk hy262
           clear hy262
           have H' := Aside0.mk H
           clear H
           obtain ⟨Ao28,co28,eo28⟩ := Kd.R_slice HO_0.out
           subst eo28
           have p257 : 0 ≤ (x6_1 : Int) := of_decide_eq_true (by first | (with_reducible assumption) | assumption)
           have q257 : x6_1 < (l1.length : Int) := of_decide_eq_true (by first | (with_reducible assumption) | assumption)
           obtain ⟨ad257,e257,hx257_0⟩ := Kd.at_bool (Kd.C_kept_now HR1.out HK.out) x6_1 p257 q257
           (try rw [← Nbq19.out] at hx257_0)
           (try rw [← Nbq21.out] at hx257_0)
           cases e257
           replace p257:=eq_true p257
           replace q257:=eq_true q257
           have p258 : 0 ≤ (x6_1 : Int) := of_decide_eq_true (by first | (with_reducible assumption) | assumption)
           have q258 : x6_1 < (x0_1.length : Int) := of_decide_eq_true (by first | (with_reducible assumption) | assumption)
           obtain ⟨ad258,e258,hx258_0⟩ := Kd.at_bool (Kd.R_reads' HO_0.out).2.2 x6_1 p258 q258
           (try rw [← Nbq19.out] at hx258_0)
           (try rw [← Nbq21.out] at hx258_0)
           cases e258
           replace p258:=eq_true p258
           replace q258:=eq_true q258
           have p259 : 0 ≤ (x6_1 : Int) := of_decide_eq_true (by first | (with_reducible assumption) | assumption)
           have q259 : x6_1 < (x0_1.length : Int) := of_decide_eq_true (by first | (with_reducible assumption) | assumption)
           obtain ⟨ad259,e259,hx259_0⟩ := Kd.at_bool (Kd.R_reads' HO_0.out).2.2 x6_1 p259 q259
           (try rw [← Nbq19.out] at hx259_0)
           (try rw [← Nbq21.out] at hx259_0)
           obtain rfl : ad258 = ad259:=(by injection e259)
           replace p259:=eq_true p259
           replace q259:=eq_true q259
           have p261 : 0 ≤ (x6_1 : Int) := of_decide_eq_true (by first | (with_reducible assumption) | assumption)
           have q261 : x6_1 < (l1.length : Int) := of_decide_eq_true (by first | (with_reducible assumption) | assumption)
           obtain ⟨ad261,e261,hx261_0⟩ := Kd.at_bool (Kd.C_kept_now HR1.out HK.out) x6_1 p261 q261
           (try rw [← Nbq19.out] at hx261_0)
           (try rw [← Nbq21.out] at hx261_0)
           obtain rfl : ad257 = ad261:=(by injection e261)
           replace p261:=eq_true p261
           replace q261:=eq_true q261
           have p27 : 0 ≤ (x6_1 : Int) := of_decide_eq_true (by first | (with_reducible assumption) | assumption)
           have q27 : (x6_1 : Int) < ((x0_1.length : Int) : Int) := of_decide_eq_true (by first | (with_reducible assumption) | assumption)
           obtain ⟨go27,co27,eo27,gb27,gl27,cl27,HG27⟩ := Kd.R_form HO_0.out (by omega)
           (first | cases eo27 | (injection eo27 with ea_ en_ ec_;(first | subst ea_ | (injection ea_ with ea_;subst ea_));subst ec_;clear en_))
           have GB27:=Aside0.mk gb27
           have GG27:=Aside0.mk HG27
           clear gb27 gl27 HG27
           have HMgo27:=Aside0.mk (show (P0_ go27 ∨ w.heap.size ≤ go27) from (HO_0.out.1 _ rfl))
           (first | simp only [add_plain] at hx258_0 | skip)
           (first | simp only [add_plain] at hx259_0 | skip)
           obtain ⟨hx27_0,hf27_0⟩ := Kd.R_celln false HO_0.out (x6_1 : Int) p27 q27
           replace p27:=eq_true p27
           replace q27:=eq_true q27
           have HP29:=Kd.R_putg HO_0.out (x6_1 : Int) true
           go_wp2_with (first | ((with_reducible refine gate_store (t:=4) (p:=39) rfl ?_);refine store_event (t:=4) (p:=39) (v:=?vo_w30) (w1:=(wr.setCell ⟨go27,(x6_1 : Int).toNat,none⟩ (.bool true))) ?hg ?ho ?hn ?hr ?_;(case ho => rfl);(case hg => rfl);(case hn => rfl);(case hr => first | (go_simp;done) | (go_simp;rfl));intro w30 hw;have hg : wr.grownBy w30 (some go27) := (by rw [hw];exact HP29.2);have hp_ : Kd.R Kd.bool 4 w30 w0.heap.size (fun k_ => (P0_ k_ ∨ w.heap.size ≤ k_)) (.slice (some ⟨go27,0,none⟩) x0_1.length co28) y262:=(by rw [hw,Ny262.out];exact HP29.1);clear HP29;have n0_:=Aside0.mk (hp_);have n1_:=Aside0.mk ((by rw [hw];exact below_set (HB.out) GB27.out : Below w0.heap.size w0 w30));have n2_:=Aside0.mk (Kept.of_grown (S:=(fun k_ => P0_ k_)) hg (by repeat (first | (with_reducible first | exact HK.out | apply Kept.alloc | apply Kept.drewN | apply Kept.drew) | exact HK.out)) (fun k_ e_ => (HO_0.out.1 k_ e_)));clear HO_0;clear HB;clear HK;have HO_0:=n0_;have HB:=n1_;have HK:=n2_;clear n0_ n1_ n2_;clear hg hw hp_))
           go_roundg k1
           case measure => have:=HK1.out;omega
           case rel => exact ⟨(y262),(!(false)),(wrap64 (x6_1 + 1)),(by first | rfl | (simp;done) | (simp [*];done)),(by first | rfl | (simp;done) | (simp [*];done)),H',⟨by have:=HK1.out;omega⟩,⟨by (with_reducible repeat (first | apply Kd.R_alloc | apply Kd.R_drewN | apply Kd.R_drew));exact HO_0.out⟩,⟨by repeat (first | (with_reducible first | exact HK.out | apply Kept.alloc | apply Kept.drewN | apply Kept.drew) | exact HK.out)⟩,⟨by repeat (first | (with_reducible first | exact HB.out | apply below_alloc | apply pw_below_drewN | apply below_drew1) | exact HB.out)⟩⟩
       · replace c20:=Bool.eq_false_iff.mpr c20
         subst c20
         have H1 : (if rdOf false x0_1 x6_1 = true then (regletref13_join.l0 k1 (x0_1.set (x6_1 : Int).toNat true) l1 false (wrap64 (x6_1 + 1))) else (regletref13_join.l0 k1 (x0_1.set (x6_1 : Int).toNat (false)) l1 false (wrap64 (x6_1 + 1)))) = some (r1,r2) := by rw [if_neg (show ¬ (false = true) by decide)] at H;exact H
         clear H
         have H:=H1
         clear H1
         obtain ⟨bq31,hbq31⟩ : ∃ b_ : Bool,b_ = (rdOf false x0_1 x6_1) := ⟨_,rfl⟩
         replace H : (if bq31 = true then (regletref13_join.l0 k1 (x0_1.set (x6_1 : Int).toNat true) l1 false (wrap64 (x6_1 + 1))) else (regletref13_join.l0 k1 (x0_1.set (x6_1 : Int).toNat (false)) l1 false (wrap64 (x6_1 + 1)))) = some (r1,r2) := by rw [← hbq31] at H;exact H
         have Nbq31:=Aside0.mk hbq31
         clear hbq31
         by_cases c32 : bq31 = true
         · subst c32
           have H1 : (regletref13_join.l0 k1 (x0_1.set (x6_1 : Int).toNat true) l1 false (wrap64 (x6_1 + 1))) = some (r1,r2) := by rw [if_pos rfl] at H;exact H
           clear H
           have H:=H1
           clear H1
           obtain ⟨y264,hy264⟩ : ∃ y_ : List Bool,y_ = (x0_1.set (x6_1 : Int).toNat true) := ⟨_,rfl⟩
           replace H : (regletref13_join.l0 k1 y264 l1 false (wrap64 (x6_1 + 1))) = some (r1,r2) := by first | (rw [hy264];with_reducible exact H) | (have H2_:=(Option.bind_some _ _).symm.trans H;rw [hy264];with_reducible exact H2_) | (have H2_:=(Option.bind_some _ _).symm.trans H;with_reducible exact H2_) | with_reducible exact H | (rw [hy264];exact H) | exact H
           have Ny264:=Aside0.mk hy264
           clear hy264
           have H' := Aside0.mk H
           clear H
           obtain ⟨Ao34,co34,eo34⟩ := Kd.R_slice HO_0.out
           subst eo34
           have p257 : 0 ≤ (x6_1 : Int) := of_decide_eq_true (by first | (with_reducible assumption) | assumption)
           have q257 : x6_1 < (l1.length : Int) := of_decide_eq_true (by first | (with_reducible assumption) | assumption)
           obtain ⟨ad257,e257,hx257_0⟩ := Kd.at_bool (Kd.C_kept_now HR1.out HK.out) x6_1 p257 q257
           (try rw [← Nbq19.out] at hx257_0)
           (try rw [← Nbq31.out] at hx257_0)
           cases e257
           replace p257:=eq_true p257
           replace q257:=eq_true q257
           have p263 : 0 ≤ (x6_1 : Int) := of_decide_eq_true (by first | (with_reducible assumption) | assumption)
           have q263 : x6_1 < (x0_1.length : Int) := of_decide_eq_true (by first | (with_reducible assumption) | assumption)
           obtain ⟨ad263,e263,hx263_0⟩ := Kd.at_bool (Kd.R_reads' HO_0.out).2.2 x6_1 p263 q263
           (try rw [← Nbq19.out] at hx263_0)
           (try rw [← Nbq31.out] at hx263_0)
           cases e263
           replace p263:=eq_true p263
           replace q263:=eq_true q263
           have p33 : 0 ≤ (x6_1 : Int) := of_decide_eq_true (by first | (with_reducible assumption) | assumption)
           have q33 : (x6_1 : Int) < ((x0_1.length : Int) : Int) := of_decide_eq_true (by first | (with_reducible assumption) | assumption)
           obtain ⟨go33,co33,eo33,gb33,gl33,cl33,HG33⟩ := Kd.R_form HO_0.out (by omega)
           (first | cases eo33 | (injection eo33 with ea_ en_ ec_;(first | subst ea_ | (injection ea_ with ea_;subst ea_));subst ec_;clear en_))
           have GB33:=Aside0.mk gb33
           have GG33:=Aside0.mk HG33
           clear gb33 gl33 HG33
           have HMgo33:=Aside0.mk (show (P0_ go33 ∨ w.heap.size ≤ go33) from (HO_0.out.1 _ rfl))
           (first | simp only [add_plain] at hx263_0 | skip)
           obtain ⟨hx33_0,hf33_0⟩ := Kd.R_celln false HO_0.out (x6_1 : Int) p33 q33
           replace p33:=eq_true p33
           replace q33:=eq_true q33
           have HP35:=Kd.R_putg HO_0.out (x6_1 : Int) true
           go_wp2_with (first | ((with_reducible refine gate_store (t:=4) (p:=39) rfl ?_);refine store_event (t:=4) (p:=39) (v:=?vo_w36) (w1:=(wr.setCell ⟨go33,(x6_1 : Int).toNat,none⟩ (.bool true))) ?hg ?ho ?hn ?hr ?_;(case ho => rfl);(case hg => rfl);(case hn => rfl);(case hr => first | (go_simp;done) | (go_simp;rfl));intro w36 hw;have hg : wr.grownBy w36 (some go33) := (by rw [hw];exact HP35.2);have hp_ : Kd.R Kd.bool 4 w36 w0.heap.size (fun k_ => (P0_ k_ ∨ w.heap.size ≤ k_)) (.slice (some ⟨go33,0,none⟩) x0_1.length co34) y264:=(by rw [hw,Ny264.out];exact HP35.1);clear HP35;have n0_:=Aside0.mk (hp_);have n1_:=Aside0.mk ((by rw [hw];exact below_set (HB.out) GB33.out : Below w0.heap.size w0 w36));have n2_:=Aside0.mk (Kept.of_grown (S:=(fun k_ => P0_ k_)) hg (by repeat (first | (with_reducible first | exact HK.out | apply Kept.alloc | apply Kept.drewN | apply Kept.drew) | exact HK.out)) (fun k_ e_ => (HO_0.out.1 k_ e_)));clear HO_0;clear HB;clear HK;have HO_0:=n0_;have HB:=n1_;have HK:=n2_;clear n0_ n1_ n2_;clear hg hw hp_))
           go_roundg k1
           case measure => have:=HK1.out;omega
           case rel => exact ⟨(y264),(false),(wrap64 (x6_1 + 1)),(by first | rfl | (simp;done) | (simp [*];done)),(by first | rfl | (simp;done) | (simp [*];done)),H',⟨by have:=HK1.out;omega⟩,⟨by (with_reducible repeat (first | apply Kd.R_alloc | apply Kd.R_drewN | apply Kd.R_drew));exact HO_0.out⟩,⟨by repeat (first | (with_reducible first | exact HK.out | apply Kept.alloc | apply Kept.drewN | apply Kept.drew) | exact HK.out)⟩,⟨by repeat (first | (with_reducible first | exact HB.out | apply below_alloc | apply pw_below_drewN | apply below_drew1) | exact HB.out)⟩⟩
         · replace c32:=Bool.eq_false_iff.mpr c32
           subst c32
           have H1 : (regletref13_join.l0 k1 (x0_1.set (x6_1 : Int).toNat (false)) l1 false (wrap64 (x6_1 + 1))) = some (r1,r2) := by rw [if_neg (show ¬ (false = true) by decide)] at H;exact H
           clear H
           have H:=H1
           clear H1
           obtain ⟨y266,hy266⟩ : ∃ y_ : List Bool,y_ = (x0_1.set (x6_1 : Int).toNat (false)) := ⟨_,rfl⟩
           replace H : (regletref13_join.l0 k1 y266 l1 false (wrap64 (x6_1 + 1))) = some (r1,r2) := by first | (rw [hy266];with_reducible exact H) | (have H2_:=(Option.bind_some _ _).symm.trans H;rw [hy266];with_reducible exact H2_) | (have H2_:=(Option.bind_some _ _).symm.trans H;with_reducible exact H2_) | with_reducible exact H | (rw [hy266];exact H) | exact H
           have Ny266:=Aside0.mk hy266
           clear hy266
           have H' := Aside0.mk H
           clear H
           obtain ⟨Ao38,co38,eo38⟩ := Kd.R_slice HO_0.out
           subst eo38
           have p257 : 0 ≤ (x6_1 : Int) := of_decide_eq_true (by first | (with_reducible assumption) | assumption)
           have q257 : x6_1 < (l1.length : Int) := of_decide_eq_true (by first | (with_reducible assumption) | assumption)
           obtain ⟨ad257,e257,hx257_0⟩ := Kd.at_bool (Kd.C_kept_now HR1.out HK.out) x6_1 p257 q257
           (try rw [← Nbq19.out] at hx257_0)
           (try rw [← Nbq31.out] at hx257_0)
           cases e257
           replace p257:=eq_true p257
           replace q257:=eq_true q257
           have p263 : 0 ≤ (x6_1 : Int) := of_decide_eq_true (by first | (with_reducible assumption) | assumption)
           have q263 : x6_1 < (x0_1.length : Int) := of_decide_eq_true (by first | (with_reducible assumption) | assumption)
           obtain ⟨ad263,e263,hx263_0⟩ := Kd.at_bool (Kd.R_reads' HO_0.out).2.2 x6_1 p263 q263
           (try rw [← Nbq19.out] at hx263_0)
           (try rw [← Nbq31.out] at hx263_0)
           cases e263
           replace p263:=eq_true p263
           replace q263:=eq_true q263
           have p265 : 0 ≤ (x6_1 : Int) := of_decide_eq_true (by first | (with_reducible assumption) | assumption)
           have q265 : x6_1 < (l1.length : Int) := of_decide_eq_true (by first | (with_reducible assumption) | assumption)
           obtain ⟨ad265,e265,hx265_0⟩ := Kd.at_bool (Kd.C_kept_now HR1.out HK.out) x6_1 p265 q265
           (try rw [← Nbq19.out] at hx265_0)
           (try rw [← Nbq31.out] at hx265_0)
           obtain rfl : ad257 = ad265:=(by injection e265)
           replace p265:=eq_true p265
           replace q265:=eq_true q265
           have p37 : 0 ≤ (x6_1 : Int) := of_decide_eq_true (by first | (with_reducible assumption) | assumption)
           have q37 : (x6_1 : Int) < ((x0_1.length : Int) : Int) := of_decide_eq_true (by first | (with_reducible assumption) | assumption)
           obtain ⟨go37,co37,eo37,gb37,gl37,cl37,HG37⟩ := Kd.R_form HO_0.out (by omega)
           (first | cases eo37 | (injection eo37 with ea_ en_ ec_;(first | subst ea_ | (injection ea_ with ea_;subst ea_));subst ec_;clear en_))
           have GB37:=Aside0.mk gb37
           have GG37:=Aside0.mk HG37
           clear gb37 gl37 HG37
           have HMgo37:=Aside0.mk (show (P0_ go37 ∨ w.heap.size ≤ go37) from (HO_0.out.1 _ rfl))
           (first | simp only [add_plain] at hx263_0 | skip)
           obtain ⟨hx37_0,hf37_0⟩ := Kd.R_celln false HO_0.out (x6_1 : Int) p37 q37
           replace p37:=eq_true p37
           replace q37:=eq_true q37
           have HP39:=Kd.R_putg HO_0.out (x6_1 : Int) false
           go_wp2_with (first | ((with_reducible refine gate_store (t:=4) (p:=39) rfl ?_);refine store_event (t:=4) (p:=39) (v:=?vo_w40) (w1:=(wr.setCell ⟨go37,(x6_1 : Int).toNat,none⟩ (.bool false))) ?hg ?ho ?hn ?hr ?_;(case ho => rfl);(case hg => rfl);(case hn => rfl);(case hr => first | (go_simp;done) | (go_simp;rfl));intro w40 hw;have hg : wr.grownBy w40 (some go37) := (by rw [hw];exact HP39.2);have hp_ : Kd.R Kd.bool 4 w40 w0.heap.size (fun k_ => (P0_ k_ ∨ w.heap.size ≤ k_)) (.slice (some ⟨go37,0,none⟩) x0_1.length co38) y266:=(by rw [hw,Ny266.out];exact HP39.1);clear HP39;have n0_:=Aside0.mk (hp_);have n1_:=Aside0.mk ((by rw [hw];exact below_set (HB.out) GB37.out : Below w0.heap.size w0 w40));have n2_:=Aside0.mk (Kept.of_grown (S:=(fun k_ => P0_ k_)) hg (by repeat (first | (with_reducible first | exact HK.out | apply Kept.alloc | apply Kept.drewN | apply Kept.drew) | exact HK.out)) (fun k_ e_ => (HO_0.out.1 k_ e_)));clear HO_0;clear HB;clear HK;have HO_0:=n0_;have HB:=n1_;have HK:=n2_;clear n0_ n1_ n2_;clear hg hw hp_))
           go_roundg k1
           case measure => have:=HK1.out;omega
           case rel => exact ⟨(y266),(false),(wrap64 (x6_1 + 1)),(by first | rfl | (simp;done) | (simp [*];done)),(by first | rfl | (simp;done) | (simp [*];done)),H',⟨by have:=HK1.out;omega⟩,⟨by (with_reducible repeat (first | apply Kd.R_alloc | apply Kd.R_drewN | apply Kd.R_drew));exact HO_0.out⟩,⟨by repeat (first | (with_reducible first | exact HK.out | apply Kept.alloc | apply Kept.drewN | apply Kept.drew) | exact HK.out)⟩,⟨by repeat (first | (with_reducible first | exact HB.out | apply below_alloc | apply pw_below_drewN | apply below_drew1) | exact HB.out)⟩⟩
   · rw [if_neg c3] at H
     have c3b0 : decide (x6_1 < (x0_1.length : Int)) = false:=decide_eq_false c3
     clear c3
     simp only [Option.some.injEq,Prod.mk.injEq] at H
     obtain ⟨rfl,rfl⟩ := H
     obtain ⟨Ao41,co41,eo41⟩ := Kd.R_slice HO_0.out
     subst eo41
     go_wp2
     go_ret
     exact ⟨by first | rfl | (simp [errW_none,errW_some] <;> rfl) | (simp [*,errW_none,errW_some] <;> rfl),by (with_reducible repeat (first | apply Kd.R_alloc | apply Kd.R_drewN | apply Kd.R_drew));exact HO_0.out,by repeat (first | (with_reducible first | exact HB.out | apply below_alloc | apply pw_below_drewN | apply below_drew1) | exact HB.out),by repeat (first | (with_reducible first | exact HK.out | apply Kept.alloc | apply Kept.drewN | apply Kept.drew) | exact HK.out)⟩
def regletref13_begins.l0 : Nat → List (S53) → List (List Bool) → List Bool → List Bool → Int → Option (List Bool × Bool)
  | 0,_,_,_,_,_ => none
  | k + 1,x1,x2,x3,x10,x11 => if x11 < (x1.length : Int) then (if 0 ≤ x11 then (if (rd_T53 x1 x11).f0 = true then (if 0 ≤ ((rd_T53 x1 x11).f1) then (if ((rd_T53 x1 x11).f1) < (x10.length : Int) then (some ((x10.set (((rd_T53 x1 x11).f1) : Int).toNat true),false)) else (none)) else (none)) else (if 0 ≤ ((rd_T53 x1 x11).f1) then (if ((rd_T53 x1 x11).f1) < (x2.length : Int) then ((regletref13_join.f k x10 (rd_L13 x2 ((rd_T53 x1 x11).f1))).bind fun bt276 => (if ((rd_T53 x1 x11).f1) < (x3.length : Int) then (if (rdOf false x3 ((rd_T53 x1 x11).f1) = true) then (regletref13_begins.l0 k x1 x2 x3 bt276.2 (wrap64 (x11 + 1))) else (some (bt276.2,false))) else (none))) else (none)) else (none))) else (none)) else (some (x10,true))
def regletref13_begins.f (k : Nat) (l0_0 : List ByteArray) (l0_1 : List (S61)) (a0_2 : Int) (a0_3 : Int) (l0_4 : List (S30)) (l1 : List (S53)) (l2 : List (List Bool)) (l3 : List Bool) : Option (List Bool × Bool) := if 0 ≤ (wrap64 ((l0_1.length : Int) + 1)) then (if (wrap64 ((l0_1.length : Int) + 1) : Int).toNat ≤ 281474976710656 then (regletref13_begins.l0 k l1 l2 l3 (List.replicate (wrap64 ((l0_1.length : Int) + 1) : Int).toNat false) 0) else (none)) else (none)
set_option maxHeartbeats 8000000 in
set_option maxRecDepth 100000 in
theorem regletref13_begins.calls (k : Nat) (A0_0 : Option Addr) (c0_0 : Nat) (l0_0 : List ByteArray) (A0_1 : Option Addr) (c0_1 : Nat) (l0_1 : List (S61)) (a0_2 : Int) (a0_3 : Int) (A0_4 : Option Addr) (c0_4 : Nat) (l0_4 : List (S30)) (A1 : Option Addr) (c1 : Nat) (l1 : List (S53)) (A2 : Option Addr) (c2 : Nat) (l2 : List (List Bool)) (A3 : Option Addr) (c3 : Nat) (l3 : List Bool) (r1 : List Bool) (r2 : Bool) (w : World) (hr0_0 : Kd.C Kd.string w A0_0 l0_0.length l0_0) (hc0_0 : l0_0.length ≤ c0_0) (hr0_1 : Kd.C k61 w A0_1 l0_1.length l0_1) (hc0_1 : l0_1.length ≤ c0_1) (hr0_4 : Kd.C k30 w A0_4 l0_4.length l0_4) (hc0_4 : l0_4.length ≤ c0_4) (hr1 : Kd.C k53 w A1 l1.length l1) (hc1 : l1.length ≤ c1) (hr2 : Kd.C (Kd.slice 4 Kd.bool) w A2 l2.length l2) (hc2 : l2.length ≤ c2) (hr3 : Kd.C Kd.bool w A3 l3.length l3) (hc3 : l3.length ≤ c3) (h : regletref13_begins.f k l0_0 l0_1 a0_2 a0_3 l0_4 l1 l2 l3 = some (r1,r2)) :
    Calls Try.prog 29 #[.agg #[.slice A0_0 l0_0.length c0_0,.slice A0_1 l0_1.length c0_1,.int .i64 a0_2,.int .i64 a0_3,.slice A0_4 l0_4.length c0_4],.slice A1 l1.length c1,.slice A2 l2.length c2,.slice A3 l3.length c3] w fun e w' => ∃ v0_ : Value,e = .returned (.tuple #[v0_,.bool r2]) ∧ Kd.R Kd.bool 4 w' w.heap.size (fun _ => True) v0_ r1 ∧ Below w.heap.size w w' := by
 have hu26:=Try.underlying26
 have HR0_0:=Aside0.mk hr0_0
 have HC0_0:=Aside0.mk hc0_0
 clear hr0_0 hc0_0
 have HR0_1:=Aside0.mk hr0_1
 have HC0_1:=Aside0.mk hc0_1
 clear hr0_1 hc0_1
 have HR0_4:=Aside0.mk hr0_4
 have HC0_4:=Aside0.mk hc0_4
 clear hr0_4 hc0_4
 have HR1:=Aside0.mk hr1
 have HC1:=Aside0.mk hc1
 clear hr1 hc1
 have HR2:=Aside0.mk hr2
 have HC2:=Aside0.mk hc2
 clear hr2 hc2
 have HR3:=Aside0.mk hr3
 have HC3:=Aside0.mk hc3
 clear hr3 hc3
 have HB:=Aside0.mk (Below.refl w.heap.size w)
 have H : (if 0 ≤ (wrap64 ((l0_1.length : Int) + 1)) then (if (wrap64 ((l0_1.length : Int) + 1) : Int).toNat ≤ 281474976710656 then (regletref13_begins.l0 k l1 l2 l3 (List.replicate (wrap64 ((l0_1.length : Int) + 1) : Int).toNat false) 0) else (none)) else (none)) = some (r1,r2) := h
 clear h
 obtain ⟨ji5,hji5⟩ : ∃ j_ : Int,(wrap64 ((l0_1.length : Int) + 1)) = j_:=⟨_,rfl⟩
 replace H : (if 0 ≤ (ji5) then (if (ji5 : Int).toNat ≤ 281474976710656 then (regletref13_begins.l0 k l1 l2 l3 (List.replicate (ji5 : Int).toNat false) 0) else (none)) else (none)) = some (r1,r2) := by first | (rw [hji5] at H;exact H) | (simp only [hji5] at H ⊢;exact H)
 have hji5w : (IntKind.i64.wrap ((l0_1.length : Int) + 1)) = ji5:=(i64_w _).trans hji5
 by_cases c6 : 0 ≤ (ji5)
 rotate_left
 · rw [if_neg c6] at H
   exact absurd H (by simp)
 rw [if_pos c6] at H
 have c6b0:=eq_true c6
 have c6b1 : decide (0 ≤ (ji5)) = true:=decide_eq_true c6
 clear c6
 by_cases c7 : (ji5 : Int).toNat ≤ 281474976710656
 rotate_left
 · rw [if_neg c7] at H
   exact absurd H (by simp)
 rw [if_pos c7] at H
 have c7b0:=eq_true c7
 have c7b1 : decide ((ji5 : Int).toNat ≤ 281474976710656) = true:=decide_eq_true c7
 clear c7
 obtain ⟨y268,hy268⟩ : ∃ y_ : List Bool,y_ = (List.replicate (ji5 : Int).toNat false) := ⟨_,rfl⟩
 replace H : (regletref13_begins.l0 k l1 l2 l3 y268 0) = some (r1,r2) := by first | (rw [hy268];with_reducible exact H) | (have H2_:=(Option.bind_some _ _).symm.trans H;rw [hy268];with_reducible exact H2_) | (have H2_:=(Option.bind_some _ _).symm.trans H;with_reducible exact H2_) | with_reducible exact H | (rw [hy268];exact H) | exact H
 have Ny268:=Aside0.mk hy268
 clear hy268
 have H' := Aside0.mk H
 clear H
 go_enter Try.func29,Try.ntmps29
 go_wp2_with (first | ((with_reducible refine gate_dst (N:=4) rfl ?_);refine box_event ?hg (N:=4) ?hd (cs:=#[.slice A0_0 l0_0.length c0_0,.slice A0_1 l0_1.length c0_1,.int .i64 a0_2,.int .i64 a0_3,.slice A0_4 l0_4.length c0_4]) (t:=26) ?hr ?_;(case hd => rfl);(case hg => rfl);(case hr => first | (go_simp;done) | (go_simp;rfl));intro gb267 hg w8 hbox hb;have n0_:=Aside0.mk (below_step (by repeat (first | (with_reducible first | exact HB.out | apply below_alloc | apply pw_below_drewN | apply below_drew1) | exact HB.out)) hb);have n1_:=Aside0.mk (hbox);have n2_:=Aside0.mk ((by rw [hg];exact (below_size (by repeat (first | (with_reducible first | exact HB.out | apply below_alloc | apply pw_below_drewN | apply below_drew1) | exact HB.out))) : w.heap.size ≤ gb267));have n3_:=Aside0.mk ((by rw [hg];exact (below_size (by repeat (first | (with_reducible first | exact HB.out | apply below_alloc | apply pw_below_drewN | apply below_drew1) | exact HB.out))) : w.heap.size ≤ gb267));clear HB;have HB:=n0_;have BK267:=n1_;have GW267:=n2_;have GE267:=n3_;clear n0_ n1_ n2_ n3_;clear hb hbox hg;have hcz9_0 : w8.cell? ⟨gb267,0,none⟩ = some (.slice A0_0 l0_0.length c0_0) := (blk_cell BK267.out 0).trans rfl;have hcz9_1 : w8.cell? ⟨gb267,1,none⟩ = some (.slice A0_1 l0_1.length c0_1) := (blk_cell BK267.out 1).trans rfl;have hcz9_2 : w8.cell? ⟨gb267,2,none⟩ = some (.int .i64 a0_2) := (blk_cell BK267.out 2).trans rfl;have hcz9_3 : w8.cell? ⟨gb267,3,none⟩ = some (.int .i64 a0_3) := (blk_cell BK267.out 3).trans rfl;have hcz9_4 : w8.cell? ⟨gb267,4,none⟩ = some (.slice A0_4 l0_4.length c0_4) := (blk_cell BK267.out 4).trans rfl;have hfz9_0:=blk_frozen BK267.out 0;have hfz9_1:=blk_frozen BK267.out 1;have hfz9_2:=blk_frozen BK267.out 2;have hfz9_3:=blk_frozen BK267.out 3;have hfz9_4:=blk_frozen BK267.out 4) | ((with_reducible refine gate_dst (N:=16) rfl ?_);refine Kd.R_make Kd.bool _ 4 rfl (N:=16) rfl 65 _ _ rfl ji5 rfl rfl Try.underlying65 (.bool false) 1 info4 rfl (by decide) (by omega) false (ok:=fun _ => True) (okp:=fun _ => True) rfl (fun _ hk => hk) trivial (of_decide_eq_true (by first | (with_reducible assumption) | assumption)) (Nat.le_trans (Nat.mul_le_mul_right _ (of_decide_eq_true (by first | (with_reducible assumption) | assumption) : ji5.toNat ≤ 281474976710656)) (by omega)) (Below.refl _ _) (Nat.le_refl _) ?_;intro v269 w10 ho11 hb hg_ hnew_;clear hg_ hnew_;(first | rw [← Ny268.out] at ho11 | (simp only [Int.reduceToNat] at ho11;rw [← Ny268.out] at ho11));have n0_:=Aside0.mk (Kd.R_lower ho11 (below_size (by repeat (first | (with_reducible first | exact HB.out | apply below_alloc | apply pw_below_drewN | apply below_drew1 | refine below_set ?_ GE267.out) | exact HB.out))));have n1_:=Aside0.mk (blk_below (g:=gb267) (o := .cells #[.slice A0_0 l0_0.length c0_0,.slice A0_1 l0_1.length c0_1,.int .i64 a0_2,.int .i64 a0_3,.slice A0_4 l0_4.length c0_4] 26 (0,0)) (by (with_reducible repeat (first | refine blk_drewN ?_ _ | refine blk_drew ?_ | refine blk_alloc ?_ _));exact BK267.out) hb);have n2_:=Aside0.mk (below_step (by repeat (first | (with_reducible first | exact HB.out | apply below_alloc | apply pw_below_drewN | apply below_drew1 | refine below_set ?_ GE267.out) | exact HB.out)) hb);clear BK267;clear HB;have HO270:=n0_;have BK267:=n1_;have HB:=n2_;clear n0_ n1_ n2_;clear hb ho11))
 go_loopg [11] k (fun kq v11 w' => ∃ (x10_1 : List Bool) (x11_1 : Int),v11 = .int .i64 x11_1 ∧ Aside0 (regletref13_begins.l0 kq l1 l2 l3 x10_1 x11_1 = some (r1,r2)) ∧ Aside0 (kq ≤ k) ∧ Aside0 (Kd.R Kd.bool 4 w' w.heap.size (fun _ => True) v269 x10_1) ∧ Aside0 (w'.heap[gb267]? = some (.cells #[(.slice A0_0 l0_0.length c0_0),(.slice A0_1 l0_1.length c0_1),.int .i64 a0_2,.int .i64 a0_3,(.slice A0_4 l0_4.length c0_4)] 26 (0,0))) ∧ Aside0 (Below w.heap.size w w'))
 case atStart => exact ⟨(y268),(0),(by first | rfl | (simp;done) | (simp [*];done)),H',⟨Nat.le_refl _⟩,⟨by (with_reducible repeat (first | apply Kd.R_alloc | apply Kd.R_drewN | apply Kd.R_drew));exact HO270.out⟩,⟨by (with_reducible repeat (first | refine blk_drewN ?_ _ | refine blk_drew ?_ | refine blk_alloc ?_ _));exact BK267.out⟩,⟨by repeat (first | (with_reducible first | exact HB.out | apply below_alloc | apply pw_below_drewN | apply below_drew1 | refine below_set ?_ GE267.out) | exact HB.out)⟩⟩
 case round =>
  clear H'
  (try clear c1);(try clear c2);(try clear p2);(try clear c3);(try clear c6);(try clear c6b0);(try clear c6b1);(try clear p6);(try clear c7);(try clear c7b0);(try clear c7b1);(try clear hcz9_0);(try clear hcz9_1);(try clear hcz9_2);(try clear hcz9_3);(try clear hcz9_4);(try clear hfz9_0);(try clear hfz9_1);(try clear hfz9_2);(try clear hfz9_3);(try clear hfz9_4)
  obtain ⟨x10_1,x11_1,rfl,HA,HK1,HO_10,BK267,HB⟩ := hrel
  cases gk with
  | zero => exact absurd HA.out (by simp [regletref13_begins.l0])
  | succ k1 =>
   have H:=HA.out
   clear HA
   simp only [regletref13_begins.l0] at H
   by_cases c12 : x11_1 < (l1.length : Int)
   · rw [if_pos c12] at H
     have c12b0 : decide (x11_1 < (l1.length : Int)) = true:=decide_eq_true c12
     clear c12
     by_cases c13 : 0 ≤ x11_1
     rotate_left
     · rw [if_neg c13] at H
       exact absurd H (by simp)
     rw [if_pos c13] at H
     have c13b0 : decide (0 ≤ x11_1) = true:=decide_eq_true c13
     clear c13
     obtain ⟨bq14,hbq14⟩ : ∃ b_ : Bool,b_ = ((rd_T53 l1 x11_1).f0) := ⟨_,rfl⟩
     replace H : (if bq14 = true then (if 0 ≤ ((rd_T53 l1 x11_1).f1) then (if ((rd_T53 l1 x11_1).f1) < (x10_1.length : Int) then (some ((x10_1.set (((rd_T53 l1 x11_1).f1) : Int).toNat true),false)) else (none)) else (none)) else (if 0 ≤ ((rd_T53 l1 x11_1).f1) then (if ((rd_T53 l1 x11_1).f1) < (l2.length : Int) then ((regletref13_join.f k1 x10_1 (rd_L13 l2 ((rd_T53 l1 x11_1).f1))).bind fun bt276 => (if ((rd_T53 l1 x11_1).f1) < (l3.length : Int) then (if (rdOf false l3 ((rd_T53 l1 x11_1).f1) = true) then (regletref13_begins.l0 k1 l1 l2 l3 bt276.2 (wrap64 (x11_1 + 1))) else (some (bt276.2,false))) else (none))) else (none)) else (none))) = some (r1,r2) := by rw [← hbq14] at H;exact H
     have Nbq14:=Aside0.mk hbq14
     clear hbq14
     by_cases c15 : bq14 = true
     · subst c15
       have H1 : (if 0 ≤ ((rd_T53 l1 x11_1).f1) then (if ((rd_T53 l1 x11_1).f1) < (x10_1.length : Int) then (some ((x10_1.set (((rd_T53 l1 x11_1).f1) : Int).toNat true),false)) else (none)) else (none)) = some (r1,r2) := by rw [if_pos rfl] at H;exact H
       clear H
       have H:=H1
       clear H1
       by_cases c16 : 0 ≤ ((rd_T53 l1 x11_1).f1)
       rotate_left
       · rw [if_neg c16] at H
         exact absurd H (by simp)
       rw [if_pos c16] at H
       have c16b0 : decide (0 ≤ ((rd_T53 l1 x11_1).f1)) = true:=decide_eq_true c16
       clear c16
       by_cases c17 : ((rd_T53 l1 x11_1).f1) < (x10_1.length : Int)
       rotate_left
       · rw [if_neg c17] at H
         exact absurd H (by simp)
       rw [if_pos c17] at H
       have c17b0 : decide (((rd_T53 l1 x11_1).f1) < (x10_1.length : Int)) = true:=decide_eq_true c17
       clear c17
       obtain ⟨y273,hy273⟩ : ∃ y_ : List Bool,y_ = (x10_1.set (((rd_T53 l1 x11_1).f1) : Int).toNat true) := ⟨_,rfl⟩
       replace H : (some (y273,false)) = some (r1,r2) := by first | (rw [hy273];with_reducible exact H) | (have H2_:=(Option.bind_some _ _).symm.trans H;rw [hy273];with_reducible exact H2_) | (have H2_:=(Option.bind_some _ _).symm.trans H;with_reducible exact H2_) | with_reducible exact H | (rw [hy273];exact H) | exact H
       have Ny273:=Aside0.mk hy273
       clear hy273
       simp only [Option.some.injEq,Prod.mk.injEq] at H
       obtain ⟨rfl,rfl⟩ := H
       have p271 : 0 ≤ (x11_1 : Int) := of_decide_eq_true (by first | (with_reducible assumption) | assumption)
       have q271 : x11_1 < (l1.length : Int) := of_decide_eq_true (by first | (with_reducible assumption) | assumption)
       obtain ⟨ad271,e271,hx271_0,hx271_1⟩ := at_T53 HR1.out x11_1 p271 q271
       (try rw [← Nbq14.out] at hx271_0)
       cases e271
       replace hx271_0:=(HB.out.cell (World.block_lt_of_cell? w _ hx271_0)).trans hx271_0
       replace hx271_1:=(HB.out.cell (World.block_lt_of_cell? w _ hx271_1)).trans hx271_1
       replace p271:=eq_true p271
       replace q271:=eq_true q271
       have p272 : 0 ≤ (x11_1 : Int) := of_decide_eq_true (by first | (with_reducible assumption) | assumption)
       have q272 : x11_1 < (l1.length : Int) := of_decide_eq_true (by first | (with_reducible assumption) | assumption)
       obtain ⟨ad272,e272,hx272_0,hx272_1⟩ := at_T53 HR1.out x11_1 p272 q272
       (try rw [← Nbq14.out] at hx272_0)
       obtain rfl : ad271 = ad272:=(by injection e272)
       replace hx272_0:=(HB.out.cell (World.block_lt_of_cell? w _ hx272_0)).trans hx272_0
       replace hx272_1:=(HB.out.cell (World.block_lt_of_cell? w _ hx272_1)).trans hx272_1
       replace p272:=eq_true p272
       replace q272:=eq_true q272
       have p18 : 0 ≤ (((rd_T53 l1 x11_1).f1) : Int) := of_decide_eq_true (by first | (with_reducible assumption) | assumption)
       have q18 : (((rd_T53 l1 x11_1).f1) : Int) < ((x10_1.length : Int) : Int) := of_decide_eq_true (by first | (with_reducible assumption) | assumption)
       obtain ⟨go18,co18,eo18,gb18,gl18,cl18,HG18⟩ := Kd.R_form HO_10.out (by omega)
       (first | cases eo18 | (injection eo18 with ea_ en_ ec_;(first | subst ea_ | (injection ea_ with ea_;subst ea_));subst ec_;clear en_))
       have GB18:=Aside0.mk gb18
       have GG18:=Aside0.mk HG18
       clear gb18 gl18 HG18
       obtain ⟨hx18_0,hf18_0⟩ := Kd.R_celln false HO_10.out (((rd_T53 l1 x11_1).f1) : Int) p18 q18
       replace p18:=eq_true p18
       replace q18:=eq_true q18
       have HP19:=Kd.R_putg HO_10.out (((rd_T53 l1 x11_1).f1) : Int) true
       go_wp2_with (first | ((with_reducible refine gate_store (t:=4) (p:=34) rfl ?_);refine store_event (t:=4) (p:=34) (v:=?vo_w20) (w1:=(wr.setCell ⟨go18,(((rd_T53 l1 x11_1).f1) : Int).toNat,none⟩ (.bool true))) ?hg ?ho ?hn ?hr ?_;(case ho => rfl);(case hg => rfl);(case hn => rfl);(case hr => first | (go_simp;done) | (go_simp;rfl));intro w20 hw;have hg : wr.grownBy w20 (some go18) := (by rw [hw];exact HP19.2);have hp_ : Kd.R Kd.bool 4 w20 w.heap.size (fun _ => True) (.slice (some ⟨go18,0,none⟩) x10_1.length co18) y273:=(by rw [hw,Ny273.out];exact HP19.1);clear HP19;have n0_:=Aside0.mk (hp_);have n1_:=Aside0.mk (blk_grown (g:=gb267) (o := .cells #[.slice A0_0 l0_0.length c0_0,.slice A0_1 l0_1.length c0_1,.int .i64 a0_2,.int .i64 a0_3,.slice A0_4 l0_4.length c0_4] 26 (0,0)) (by (with_reducible repeat (first | refine blk_drewN ?_ _ | refine blk_drew ?_ | refine blk_alloc ?_ _));exact BK267.out) hg (Kd.R_ne HO_10.out BK267.out (by decide)));have n2_:=Aside0.mk ((by rw [hw];exact below_set (HB.out) GB18.out : Below w.heap.size w w20));clear HO_10;clear BK267;clear HB;have HO_10:=n0_;have BK267:=n1_;have HB:=n2_;clear n0_ n1_ n2_;clear hg hw hp_))
       go_ret2
       exact ⟨_,by first | rfl | (simp [errW_none,errW_some] <;> rfl) | (simp only [← hji5];first | rfl | (simp [errW_none,errW_some] <;> rfl)) | (simp [*,errW_none,errW_some] <;> rfl),by (with_reducible repeat (first | apply Kd.R_alloc | apply Kd.R_drewN | apply Kd.R_drew));exact HO_10.out,by repeat (first | (with_reducible first | exact HB.out | apply below_alloc | apply pw_below_drewN | apply below_drew1 | refine below_set ?_ GE267.out) | exact HB.out)⟩
     · replace c15:=Bool.eq_false_iff.mpr c15
       subst c15
       have H1 : (if 0 ≤ ((rd_T53 l1 x11_1).f1) then (if ((rd_T53 l1 x11_1).f1) < (l2.length : Int) then ((regletref13_join.f k1 x10_1 (rd_L13 l2 ((rd_T53 l1 x11_1).f1))).bind fun bt276 => (if ((rd_T53 l1 x11_1).f1) < (l3.length : Int) then (if (rdOf false l3 ((rd_T53 l1 x11_1).f1) = true) then (regletref13_begins.l0 k1 l1 l2 l3 bt276.2 (wrap64 (x11_1 + 1))) else (some (bt276.2,false))) else (none))) else (none)) else (none)) = some (r1,r2) := by rw [if_neg (show ¬ (false = true) by decide)] at H;exact H
       clear H
       have H:=H1
       clear H1
       by_cases c21 : 0 ≤ ((rd_T53 l1 x11_1).f1)
       rotate_left
       · rw [if_neg c21] at H
         exact absurd H (by simp)
       rw [if_pos c21] at H
       have c21b0 : decide (0 ≤ ((rd_T53 l1 x11_1).f1)) = true:=decide_eq_true c21
       clear c21
       by_cases c22 : ((rd_T53 l1 x11_1).f1) < (l2.length : Int)
       rotate_left
       · rw [if_neg c22] at H
         exact absurd H (by simp)
       rw [if_pos c22] at H
       have c22b0 : decide (((rd_T53 l1 x11_1).f1) < (l2.length : Int)) = true:=decide_eq_true c22
       clear c22
       replace H:=Option.bind_eq_some_iff.mp H
       obtain ⟨⟨t276,t277⟩,A230,H⟩ := H
       replace H : (if ((rd_T53 l1 x11_1).f1) < (l3.length : Int) then (if (rdOf false l3 ((rd_T53 l1 x11_1).f1) = true) then (regletref13_begins.l0 k1 l1 l2 l3 t277 (wrap64 (x11_1 + 1))) else (some (t277,false))) else (none)) = some (r1,r2) := H
       have A23:=Aside0.mk A230
       clear A230
       by_cases c24 : ((rd_T53 l1 x11_1).f1) < (l3.length : Int)
       rotate_left
       · rw [if_neg c24] at H
         exact absurd H (by simp)
       rw [if_pos c24] at H
       have c24b0 : decide (((rd_T53 l1 x11_1).f1) < (l3.length : Int)) = true:=decide_eq_true c24
       clear c24
       obtain ⟨bq25,hbq25⟩ : ∃ b_ : Bool,b_ = (rdOf false l3 ((rd_T53 l1 x11_1).f1)) := ⟨_,rfl⟩
       replace H : (if (bq25 = true) then (regletref13_begins.l0 k1 l1 l2 l3 t277 (wrap64 (x11_1 + 1))) else (some (t277,false))) = some (r1,r2) := by rw [← hbq25] at H;exact H
       have Nbq25:=Aside0.mk hbq25
       clear hbq25
       by_cases c26 : (bq25 = true)
       · subst c26
         have H1 : (regletref13_begins.l0 k1 l1 l2 l3 t277 (wrap64 (x11_1 + 1))) = some (r1,r2) := by rw [if_pos rfl] at H;exact H
         clear H
         have H:=H1
         clear H1
         have H' := Aside0.mk H
         clear H
         have p271 : 0 ≤ (x11_1 : Int) := of_decide_eq_true (by first | (with_reducible assumption) | assumption)
         have q271 : x11_1 < (l1.length : Int) := of_decide_eq_true (by first | (with_reducible assumption) | assumption)
         obtain ⟨ad271,e271,hx271_0,hx271_1⟩ := at_T53 HR1.out x11_1 p271 q271
         (try rw [← Nbq14.out] at hx271_0)
         (try rw [← Nbq25.out] at hx271_0)
         cases e271
         replace hx271_0:=(HB.out.cell (World.block_lt_of_cell? w _ hx271_0)).trans hx271_0
         replace hx271_1:=(HB.out.cell (World.block_lt_of_cell? w _ hx271_1)).trans hx271_1
         replace p271:=eq_true p271
         replace q271:=eq_true q271
         have p274 : 0 ≤ (x11_1 : Int) := of_decide_eq_true (by first | (with_reducible assumption) | assumption)
         have q274 : x11_1 < (l1.length : Int) := of_decide_eq_true (by first | (with_reducible assumption) | assumption)
         obtain ⟨ad274,e274,hx274_0,hx274_1⟩ := at_T53 HR1.out x11_1 p274 q274
         (try rw [← Nbq14.out] at hx274_0)
         (try rw [← Nbq25.out] at hx274_0)
         obtain rfl : ad271 = ad274:=(by injection e274)
         replace hx274_0:=(HB.out.cell (World.block_lt_of_cell? w _ hx274_0)).trans hx274_0
         replace hx274_1:=(HB.out.cell (World.block_lt_of_cell? w _ hx274_1)).trans hx274_1
         replace p274:=eq_true p274
         replace q274:=eq_true q274
         have p275 : 0 ≤ (((rd_T53 l1 x11_1).f1) : Int) := of_decide_eq_true (by first | (with_reducible assumption) | assumption)
         have q275 : ((rd_T53 l1 x11_1).f1) < (l2.length : Int) := of_decide_eq_true (by first | (with_reducible assumption) | assumption)
         obtain ⟨ad275,A275_0,c275_0,e275,hx275_0,hl275_0,hi275_0⟩ := at_L13 HR2.out ((rd_T53 l1 x11_1).f1) p275 q275
         cases e275
         replace hx275_0:=(HB.out.cell (World.block_lt_of_cell? w _ hx275_0)).trans hx275_0
         have HR275_0:=Aside0.mk hi275_0
         have HC275_0:=Aside0.mk hl275_0
         clear hi275_0 hl275_0
         replace p275:=eq_true p275
         replace q275:=eq_true q275
         obtain ⟨Ao27,co27,eo27⟩ := Kd.R_slice HO_10.out
         subst eo27
         go_wp2_with (first | ((with_reducible refine gate_callee (f:=30) rfl ?_);refine goesL_ (some 45) rfl rfl Try.func30 (by kernel_rfl) rfl #[.slice Ao27 x10_1.length co27,.slice A275_0 (rd_L13 l2 ((rd_T53 l1 x11_1).f1)).length c275_0] rfl (by (try simp only [List.map_toArray,List.map_cons,List.map_nil]);first | done | rfl | (simp only [List.length_drop,List.length_take];rfl)) ?_;(with_reducible refine (regletref13_join.calls k1 (fun k_ => some k_ = (.slice Ao27 x10_1.length co27 : Value).ownBlock) (.slice Ao27 x10_1.length co27) x10_1 _ _ (rd_L13 l2 ((rd_T53 l1 x11_1).f1)) t276 t277 w _ ?side1 ?side2 ?side3 ?side4 A23.out).mono ?_);(case side1 => repeat (first | (with_reducible first | exact HB.out | apply below_alloc | apply pw_below_drewN | apply below_drew1 | refine below_set ?_ GE267.out) | exact HB.out));(case side2 => exact Kd.R_tight rfl HO_10.out);(case side3 => exact Kd.C_kept_came Kd.heap_bool HR275_0.out (by repeat (first | (with_reducible first | exact HB.out | apply below_alloc | apply pw_below_drewN | apply below_drew1 | refine below_set ?_ GE267.out) | exact HB.out)) (fun k_ hs_ => (fun e_ => Kd.R_base HO_10.out k_ e_.symm) hs_));(case side4 => exact HC275_0.out);rintro e w28 ⟨rfl,hy0,hb,hkp⟩;refine ⟨_,rfl,?_⟩;have n0_:=Aside0.mk (Kd.R_reok rfl hy0 (fun k_ e_ => HO_10.out.1 k_ e_));have n1_:=Aside0.mk (blk_kept (by (with_reducible repeat (first | refine blk_drewN ?_ _ | refine blk_drew ?_ | refine blk_alloc ?_ _));exact BK267.out) hkp (fun hs_ => (fun e_ => (Kd.R_ne HO_10.out BK267.out (by decide)) e_) hs_));have n2_:=Aside0.mk (hb);clear HO_10;clear BK267;clear HB;have HO_10:=n0_;have BK267:=n1_;have HB:=n2_;clear n0_ n1_ n2_;(try clear hb);(try clear hkp);(try clear hy0);have p278 : 0 ≤ (x11_1 : Int) := of_decide_eq_true (by first | (with_reducible assumption) | assumption);have q278 : x11_1 < (l1.length : Int) := of_decide_eq_true (by first | (with_reducible assumption) | assumption);obtain ⟨ad278,e278,hx278_0,hx278_1⟩ := at_T53 HR1.out x11_1 p278 q278;(try rw [← Nbq14.out] at hx278_0);(try rw [← Nbq25.out] at hx278_0);obtain rfl : ad271 = ad278:=(by injection e278);replace hx278_0:=(HB.out.cell (World.block_lt_of_cell? w _ hx278_0)).trans hx278_0;replace hx278_1:=(HB.out.cell (World.block_lt_of_cell? w _ hx278_1)).trans hx278_1;replace p278:=eq_true p278;replace q278:=eq_true q278;have p279 : 0 ≤ (((rd_T53 l1 x11_1).f1) : Int) := of_decide_eq_true (by first | (with_reducible assumption) | assumption);have q279 : ((rd_T53 l1 x11_1).f1) < (l3.length : Int) := of_decide_eq_true (by first | (with_reducible assumption) | assumption);obtain ⟨ad279,e279,hx279_0⟩ := Kd.at_bool HR3.out ((rd_T53 l1 x11_1).f1) p279 q279;(try rw [← Nbq14.out] at hx279_0);(try rw [← Nbq25.out] at hx279_0);cases e279;replace hx279_0:=(HB.out.cell (World.block_lt_of_cell? w _ hx279_0)).trans hx279_0;replace p279:=eq_true p279;replace q279:=eq_true q279))
         go_roundg k1
         case measure => have:=HK1.out;omega
         case rel => exact ⟨(t277),(wrap64 (x11_1 + 1)),(by first | rfl | (simp;done) | (simp [*];done)),H',⟨by have:=HK1.out;omega⟩,⟨by (with_reducible repeat (first | apply Kd.R_alloc | apply Kd.R_drewN | apply Kd.R_drew));exact HO_10.out⟩,⟨by (with_reducible repeat (first | refine blk_drewN ?_ _ | refine blk_drew ?_ | refine blk_alloc ?_ _));exact BK267.out⟩,⟨by repeat (first | (with_reducible first | exact HB.out | apply below_alloc | apply pw_below_drewN | apply below_drew1 | refine below_set ?_ GE267.out) | exact HB.out)⟩⟩
       · replace c26:=Bool.eq_false_iff.mpr c26
         subst c26
         have H1 : (some (t277,false)) = some (r1,r2) := by rw [if_neg (show ¬ (false = true) by decide)] at H;exact H
         clear H
         have H:=H1
         clear H1
         simp only [Option.some.injEq,Prod.mk.injEq] at H
         obtain ⟨rfl,rfl⟩ := H
         have p271 : 0 ≤ (x11_1 : Int) := of_decide_eq_true (by first | (with_reducible assumption) | assumption)
         have q271 : x11_1 < (l1.length : Int) := of_decide_eq_true (by first | (with_reducible assumption) | assumption)
         obtain ⟨ad271,e271,hx271_0,hx271_1⟩ := at_T53 HR1.out x11_1 p271 q271
         (try rw [← Nbq14.out] at hx271_0)
         (try rw [← Nbq25.out] at hx271_0)
         cases e271
         replace hx271_0:=(HB.out.cell (World.block_lt_of_cell? w _ hx271_0)).trans hx271_0
         replace hx271_1:=(HB.out.cell (World.block_lt_of_cell? w _ hx271_1)).trans hx271_1
         replace p271:=eq_true p271
         replace q271:=eq_true q271
         have p274 : 0 ≤ (x11_1 : Int) := of_decide_eq_true (by first | (with_reducible assumption) | assumption)
         have q274 : x11_1 < (l1.length : Int) := of_decide_eq_true (by first | (with_reducible assumption) | assumption)
         obtain ⟨ad274,e274,hx274_0,hx274_1⟩ := at_T53 HR1.out x11_1 p274 q274
         (try rw [← Nbq14.out] at hx274_0)
         (try rw [← Nbq25.out] at hx274_0)
         obtain rfl : ad271 = ad274:=(by injection e274)
         replace hx274_0:=(HB.out.cell (World.block_lt_of_cell? w _ hx274_0)).trans hx274_0
         replace hx274_1:=(HB.out.cell (World.block_lt_of_cell? w _ hx274_1)).trans hx274_1
         replace p274:=eq_true p274
         replace q274:=eq_true q274
         have p275 : 0 ≤ (((rd_T53 l1 x11_1).f1) : Int) := of_decide_eq_true (by first | (with_reducible assumption) | assumption)
         have q275 : ((rd_T53 l1 x11_1).f1) < (l2.length : Int) := of_decide_eq_true (by first | (with_reducible assumption) | assumption)
         obtain ⟨ad275,A275_0,c275_0,e275,hx275_0,hl275_0,hi275_0⟩ := at_L13 HR2.out ((rd_T53 l1 x11_1).f1) p275 q275
         cases e275
         replace hx275_0:=(HB.out.cell (World.block_lt_of_cell? w _ hx275_0)).trans hx275_0
         have HR275_0:=Aside0.mk hi275_0
         have HC275_0:=Aside0.mk hl275_0
         clear hi275_0 hl275_0
         replace p275:=eq_true p275
         replace q275:=eq_true q275
         obtain ⟨Ao29,co29,eo29⟩ := Kd.R_slice HO_10.out
         subst eo29
         go_wp2_with (first | ((with_reducible refine gate_callee (f:=30) rfl ?_);refine goesL_ (some 45) rfl rfl Try.func30 (by kernel_rfl) rfl #[.slice Ao29 x10_1.length co29,.slice A275_0 (rd_L13 l2 ((rd_T53 l1 x11_1).f1)).length c275_0] rfl (by (try simp only [List.map_toArray,List.map_cons,List.map_nil]);first | done | rfl | (simp only [List.length_drop,List.length_take];rfl)) ?_;(with_reducible refine (regletref13_join.calls k1 (fun k_ => some k_ = (.slice Ao29 x10_1.length co29 : Value).ownBlock) (.slice Ao29 x10_1.length co29) x10_1 _ _ (rd_L13 l2 ((rd_T53 l1 x11_1).f1)) t276 t277 w _ ?side1 ?side2 ?side3 ?side4 A23.out).mono ?_);(case side1 => repeat (first | (with_reducible first | exact HB.out | apply below_alloc | apply pw_below_drewN | apply below_drew1 | refine below_set ?_ GE267.out) | exact HB.out));(case side2 => exact Kd.R_tight rfl HO_10.out);(case side3 => exact Kd.C_kept_came Kd.heap_bool HR275_0.out (by repeat (first | (with_reducible first | exact HB.out | apply below_alloc | apply pw_below_drewN | apply below_drew1 | refine below_set ?_ GE267.out) | exact HB.out)) (fun k_ hs_ => (fun e_ => Kd.R_base HO_10.out k_ e_.symm) hs_));(case side4 => exact HC275_0.out);rintro e w30 ⟨rfl,hy0,hb,hkp⟩;refine ⟨_,rfl,?_⟩;have n0_:=Aside0.mk (Kd.R_reok rfl hy0 (fun k_ e_ => HO_10.out.1 k_ e_));have n1_:=Aside0.mk (blk_kept (by (with_reducible repeat (first | refine blk_drewN ?_ _ | refine blk_drew ?_ | refine blk_alloc ?_ _));exact BK267.out) hkp (fun hs_ => (fun e_ => (Kd.R_ne HO_10.out BK267.out (by decide)) e_) hs_));have n2_:=Aside0.mk (hb);clear HO_10;clear BK267;clear HB;have HO_10:=n0_;have BK267:=n1_;have HB:=n2_;clear n0_ n1_ n2_;(try clear hb);(try clear hkp);(try clear hy0);have p278 : 0 ≤ (x11_1 : Int) := of_decide_eq_true (by first | (with_reducible assumption) | assumption);have q278 : x11_1 < (l1.length : Int) := of_decide_eq_true (by first | (with_reducible assumption) | assumption);obtain ⟨ad278,e278,hx278_0,hx278_1⟩ := at_T53 HR1.out x11_1 p278 q278;(try rw [← Nbq14.out] at hx278_0);(try rw [← Nbq25.out] at hx278_0);obtain rfl : ad271 = ad278:=(by injection e278);replace hx278_0:=(HB.out.cell (World.block_lt_of_cell? w _ hx278_0)).trans hx278_0;replace hx278_1:=(HB.out.cell (World.block_lt_of_cell? w _ hx278_1)).trans hx278_1;replace p278:=eq_true p278;replace q278:=eq_true q278;have p279 : 0 ≤ (((rd_T53 l1 x11_1).f1) : Int) := of_decide_eq_true (by first | (with_reducible assumption) | assumption);have q279 : ((rd_T53 l1 x11_1).f1) < (l3.length : Int) := of_decide_eq_true (by first | (with_reducible assumption) | assumption);obtain ⟨ad279,e279,hx279_0⟩ := Kd.at_bool HR3.out ((rd_T53 l1 x11_1).f1) p279 q279;(try rw [← Nbq14.out] at hx279_0);(try rw [← Nbq25.out] at hx279_0);cases e279;replace hx279_0:=(HB.out.cell (World.block_lt_of_cell? w _ hx279_0)).trans hx279_0;replace p279:=eq_true p279;replace q279:=eq_true q279))
         go_ret2
         exact ⟨_,by first | rfl | (simp [errW_none,errW_some] <;> rfl) | (simp only [← hji5];first | rfl | (simp [errW_none,errW_some] <;> rfl)) | (simp [*,errW_none,errW_some] <;> rfl),by (with_reducible repeat (first | apply Kd.R_alloc | apply Kd.R_drewN | apply Kd.R_drew));exact HO_10.out,by repeat (first | (with_reducible first | exact HB.out | apply below_alloc | apply pw_below_drewN | apply below_drew1 | refine below_set ?_ GE267.out) | exact HB.out)⟩
   · rw [if_neg c12] at H
     have c12b0 : decide (x11_1 < (l1.length : Int)) = false:=decide_eq_false c12
     clear c12
     simp only [Option.some.injEq,Prod.mk.injEq] at H
     obtain ⟨rfl,rfl⟩ := H
     go_wp2
     go_ret2
     exact ⟨_,by first | rfl | (simp [errW_none,errW_some] <;> rfl) | (simp only [← hji5];first | rfl | (simp [errW_none,errW_some] <;> rfl)) | (simp [*,errW_none,errW_some] <;> rfl),by (with_reducible repeat (first | apply Kd.R_alloc | apply Kd.R_drewN | apply Kd.R_drew));exact HO_10.out,by repeat (first | (with_reducible first | exact HB.out | apply below_alloc | apply pw_below_drewN | apply below_drew1 | refine below_set ?_ GE267.out) | exact HB.out)⟩
attribute [local go_sem] max2_int min2_int max_two min_two max_three min_three max_four min_four   -- for this text's walks alone
set_option linter.unusedVariables false
set_option linter.unusedSimpArgs false
mutual
def regletref13_Empty.l0 : Nat → List Bool → Bool → List ByteArray → List (S61) → Int → Int → List (S30) → Option (List Bool)
  | 0,_,_,_,_,_,_,_ => none
  | k + 1,x3,x4,x240000,x240001,x240002,x240003,x240004 => if x4 = true then (regletref13_Empty.l1 k x3 false 0 x240000 x240001 x240002 x240003 x240004) else (some x3)
def regletref13_Empty.l1 : Nat → List Bool → Bool → Int → List ByteArray → List (S61) → Int → Int → List (S30) → Option (List Bool)
  | 0,_,_,_,_,_,_,_,_ => none
  | k + 1,x3,x4,x5,x240000,x240001,x240002,x240003,x240004 => if x5 < (x240004.length : Int) then (regletref13_Empty.l2 k x3 x4 x5 true 0 x240000 x240001 x240002 x240003 x240004) else (regletref13_Empty.l0 k x3 x4 x240000 x240001 x240002 x240003 x240004)
def regletref13_Empty.l2 : Nat → List Bool → Bool → Int → Bool → Int → List ByteArray → List (S61) → Int → Int → List (S30) → Option (List Bool)
  | 0,_,_,_,_,_,_,_,_,_,_ => none
  | k + 1,x3,x4,x5,x6,x7,x240000,x240001,x240002,x240003,x240004 => if 0 ≤ x5 then (if x5 < (x240004.length : Int) then (if x7 < (((rd_T30 x240004 x5).f1).length : Int) then (if 0 ≤ x7 then (if x6 = true then (if ((rd_T53 ((rd_T30 x240004 x5).f1) x7).f0 = true) then (regletref13_Empty.l2 k x3 x4 x5 false (wrap64 (x7 + 1)) x240000 x240001 x240002 x240003 x240004) else (if 0 ≤ ((rd_T53 ((rd_T30 x240004 x5).f1) x7).f1) then (if ((rd_T53 ((rd_T30 x240004 x5).f1) x7).f1) < (x3.length : Int) then (regletref13_Empty.l2 k x3 x4 x5 (rdOf false x3 ((rd_T53 ((rd_T30 x240004 x5).f1) x7).f1)) (wrap64 (x7 + 1)) x240000 x240001 x240002 x240003 x240004) else (none)) else (none))) else (regletref13_Empty.l2 k x3 x4 x5 false (wrap64 (x7 + 1)) x240000 x240001 x240002 x240003 x240004)) else (none)) else (if x6 = true then (if 0 ≤ ((rd_T30 x240004 x5).f0) then (if ((rd_T30 x240004 x5).f0) < (x3.length : Int) then (if (rdOf false x3 ((rd_T30 x240004 x5).f0) = true) then (regletref13_Empty.l1 k x3 x4 (wrap64 (x5 + 1)) x240000 x240001 x240002 x240003 x240004) else (regletref13_Empty.l1 k (x3.set (((rd_T30 x240004 x5).f0) : Int).toNat true) true (wrap64 (x5 + 1)) x240000 x240001 x240002 x240003 x240004)) else (none)) else (none)) else (regletref13_Empty.l1 k x3 x4 (wrap64 (x5 + 1)) x240000 x240001 x240002 x240003 x240004))) else (none)) else (none)
end
def regletref13_Empty.f (k : Nat) (l0_0 : List ByteArray) (l0_1 : List (S61)) (a0_2 : Int) (a0_3 : Int) (l0_4 : List (S30)) : Option (List Bool) := (regletref13_Right.f k l0_0 l0_1 a0_2 a0_3 l0_4).bind fun t240 => (if t240 = true then (if 0 ≤ (l0_0.length : Int) then (if ((l0_0.length : Int) : Int).toNat ≤ 281474976710656 then (regletref13_Empty.l0 k (List.replicate ((l0_0.length : Int) : Int).toNat false) true l0_0 l0_1 a0_2 a0_3 l0_4) else (none)) else (none)) else (some ([] : List Bool)))
set_option maxHeartbeats 8000000 in
set_option maxRecDepth 100000 in
theorem regletref13_Empty.calls (k : Nat) (A0_0 : Option Addr) (c0_0 : Nat) (l0_0 : List ByteArray) (A0_1 : Option Addr) (c0_1 : Nat) (l0_1 : List (S61)) (a0_2 : Int) (a0_3 : Int) (A0_4 : Option Addr) (c0_4 : Nat) (l0_4 : List (S30)) (r : List Bool) (w : World) (hr0_0 : Kd.C Kd.string w A0_0 l0_0.length l0_0) (hc0_0 : l0_0.length ≤ c0_0) (hr0_1 : Kd.C k61 w A0_1 l0_1.length l0_1) (hc0_1 : l0_1.length ≤ c0_1) (hr0_4 : Kd.C k30 w A0_4 l0_4.length l0_4) (hc0_4 : l0_4.length ≤ c0_4) (h : regletref13_Empty.f k l0_0 l0_1 a0_2 a0_3 l0_4 = some r) :
    Calls Try.prog 28 #[.agg #[.slice A0_0 l0_0.length c0_0,.slice A0_1 l0_1.length c0_1,.int .i64 a0_2,.int .i64 a0_3,.slice A0_4 l0_4.length c0_4]] w fun e w' => ∃ v0_ : Value,e = .returned (v0_) ∧ Kd.R Kd.bool 4 w' w.heap.size (fun _ => True) v0_ r ∧ Below w.heap.size w w' := by
 have hu26:=Try.underlying26
 have hu53:=Try.underlying53
 have HR0_0:=Aside0.mk hr0_0
 have HC0_0:=Aside0.mk hc0_0
 clear hr0_0 hc0_0
 have HR0_1:=Aside0.mk hr0_1
 have HC0_1:=Aside0.mk hc0_1
 clear hr0_1 hc0_1
 have HR0_4:=Aside0.mk hr0_4
 have HC0_4:=Aside0.mk hc0_4
 clear hr0_4 hc0_4
 have HB:=Aside0.mk (Below.refl w.heap.size w)
 have H : ((regletref13_Right.f k l0_0 l0_1 a0_2 a0_3 l0_4).bind fun t240 => (if t240 = true then (if 0 ≤ (l0_0.length : Int) then (if ((l0_0.length : Int) : Int).toNat ≤ 281474976710656 then (regletref13_Empty.l0 k (List.replicate ((l0_0.length : Int) : Int).toNat false) true l0_0 l0_1 a0_2 a0_3 l0_4) else (none)) else (none)) else (some ([] : List Bool)))) = some r:=h
 clear h
 replace H:=Option.bind_eq_some_iff.mp H
 obtain ⟨t240,A20,H⟩ := H
 replace H : (if t240 = true then (if 0 ≤ (l0_0.length : Int) then (if ((l0_0.length : Int) : Int).toNat ≤ 281474976710656 then (regletref13_Empty.l0 k (List.replicate ((l0_0.length : Int) : Int).toNat false) true l0_0 l0_1 a0_2 a0_3 l0_4) else (none)) else (none)) else (some ([] : List Bool))) = some r:=H
 have A2:=Aside0.mk A20
 clear A20
 by_cases c3 : t240 = true
 · subst c3
   have H1 : (if 0 ≤ (l0_0.length : Int) then (if ((l0_0.length : Int) : Int).toNat ≤ 281474976710656 then (regletref13_Empty.l0 k (List.replicate ((l0_0.length : Int) : Int).toNat false) true l0_0 l0_1 a0_2 a0_3 l0_4) else (none)) else (none)) = some r:=by rw [if_pos rfl] at H;exact H
   clear H
   have H:=H1
   clear H1
   by_cases c4 : 0 ≤ (l0_0.length : Int)
   rotate_left
   · rw [if_neg c4] at H
     exact absurd H (by simp)
   rw [if_pos c4] at H
   have c4b0:=eq_true c4
   have c4b1 : decide (0 ≤ (l0_0.length : Int)) = true:=decide_eq_true c4
   clear c4
   by_cases c5 : ((l0_0.length : Int) : Int).toNat ≤ 281474976710656
   rotate_left
   · rw [if_neg c5] at H
     exact absurd H (by simp)
   rw [if_pos c5] at H
   have c5b0:=eq_true c5
   have c5b1 : decide (((l0_0.length : Int) : Int).toNat ≤ 281474976710656) = true:=decide_eq_true c5
   clear c5
   obtain ⟨y241,hy241⟩ : ∃ y_ : List Bool,y_ = (List.replicate ((l0_0.length : Int) : Int).toNat false) := ⟨_,rfl⟩
   replace H : (regletref13_Empty.l0 k y241 true l0_0 l0_1 a0_2 a0_3 l0_4) = some r:=by first | (rw [hy241];with_reducible exact H) | (have H2_:=(Option.bind_some _ _).symm.trans H;rw [hy241];with_reducible exact H2_) | (have H2_:=(Option.bind_some _ _).symm.trans H;with_reducible exact H2_) | with_reducible exact H | (rw [hy241];exact H) | exact H
   have Ny241:=Aside0.mk hy241
   clear hy241
   have H' := Aside0.mk H
   clear H
   go_enter Try.func28,Try.ntmps28
   go_wp2_with (first | ((with_reducible refine gate_dst (N:=1) rfl ?_);refine box_event ?hg (N:=1) ?hd (cs:=#[.slice A0_0 l0_0.length c0_0,.slice A0_1 l0_1.length c0_1,.int .i64 a0_2,.int .i64 a0_3,.slice A0_4 l0_4.length c0_4]) (t:=26) ?hr ?_;(case hd => rfl);(case hg => rfl);(case hr => first | (go_simp;done) | (go_simp;rfl));intro gb239 hg w6 hbox hb;have n0_:=Aside0.mk (below_step (by repeat (first | (with_reducible first | exact HB.out | apply below_alloc | apply pw_below_drewN | apply below_drew1) | exact HB.out)) hb);have n1_:=Aside0.mk (hbox);have n2_:=Aside0.mk ((by rw [hg];exact (below_size (by repeat (first | (with_reducible first | exact HB.out | apply below_alloc | apply pw_below_drewN | apply below_drew1) | exact HB.out))) : w.heap.size ≤ gb239));have n3_:=Aside0.mk ((by rw [hg];exact (below_size (by repeat (first | (with_reducible first | exact HB.out | apply below_alloc | apply pw_below_drewN | apply below_drew1) | exact HB.out))) : w.heap.size ≤ gb239));clear HB;have HB:=n0_;have BK239:=n1_;have GW239:=n2_;have GE239:=n3_;clear n0_ n1_ n2_ n3_;clear hb hbox hg;have hcz7_0 : w6.cell? ⟨gb239,0,none⟩ = some (.slice A0_0 l0_0.length c0_0) := (blk_cell BK239.out 0).trans rfl;have hcz7_1 : w6.cell? ⟨gb239,1,none⟩ = some (.slice A0_1 l0_1.length c0_1) := (blk_cell BK239.out 1).trans rfl;have hcz7_2 : w6.cell? ⟨gb239,2,none⟩ = some (.int .i64 a0_2) := (blk_cell BK239.out 2).trans rfl;have hcz7_3 : w6.cell? ⟨gb239,3,none⟩ = some (.int .i64 a0_3) := (blk_cell BK239.out 3).trans rfl;have hcz7_4 : w6.cell? ⟨gb239,4,none⟩ = some (.slice A0_4 l0_4.length c0_4) := (blk_cell BK239.out 4).trans rfl;have hfz7_0:=blk_frozen BK239.out 0;have hfz7_1:=blk_frozen BK239.out 1;have hfz7_2:=blk_frozen BK239.out 2;have hfz7_3:=blk_frozen BK239.out 3;have hfz7_4:=blk_frozen BK239.out 4) | ((with_reducible refine gate_callee (f:=25) rfl ?_);refine goesL_ (some 10) rfl rfl Try.func25 (by kernel_rfl) rfl #[.agg #[.slice A0_0 l0_0.length c0_0,.slice A0_1 l0_1.length c0_1,.int .i64 a0_2,.int .i64 a0_3,.slice A0_4 l0_4.length c0_4]] rfl (by (try simp only [List.map_toArray,List.map_cons,List.map_nil]);first | done | rfl | (simp only [List.length_drop,List.length_take];rfl)) ?_;(with_reducible refine (regletref13_Right.calls k _ _ l0_0 _ _ l0_1 a0_2 a0_3 _ _ l0_4 true _ ?side1 ?side2 ?side3 ?side4 ?side5 ?side6 A2.out).mono ?_);(case side1 => repeat (first | exact (Kd.C_below HR0_0.out HB.out) | (with_reducible refine Kd.C_alloc ?_ _) | (with_reducible refine Kd.C_drewN ?_ _) | (with_reducible refine Kd.C_drew ?_)));(case side2 => exact HC0_0.out);(case side3 => repeat (first | exact (Kd.C_below HR0_1.out HB.out) | (with_reducible refine Kd.C_alloc ?_ _) | (with_reducible refine Kd.C_drewN ?_ _) | (with_reducible refine Kd.C_drew ?_)));(case side4 => exact HC0_1.out);(case side5 => repeat (first | exact (Kd.C_below HR0_4.out HB.out) | (with_reducible refine Kd.C_alloc ?_ _) | (with_reducible refine Kd.C_drewN ?_ _) | (with_reducible refine Kd.C_drew ?_)));(case side6 => exact HC0_4.out);rintro e w8 ⟨rfl,hb⟩;refine ⟨_,rfl,?_⟩;have n0_:=Aside0.mk (blk_below (g:=gb239) (o := .cells #[.slice A0_0 l0_0.length c0_0,.slice A0_1 l0_1.length c0_1,.int .i64 a0_2,.int .i64 a0_3,.slice A0_4 l0_4.length c0_4] 26 (0,0)) (by (with_reducible repeat (first | refine blk_drewN ?_ _ | refine blk_drew ?_ | refine blk_alloc ?_ _));exact BK239.out) hb);have n1_:=Aside0.mk (below_step (by repeat (first | (with_reducible first | exact HB.out | apply below_alloc | apply pw_below_drewN | apply below_drew1 | refine below_set ?_ GE239.out) | exact HB.out)) hb);clear BK239;clear HB;have BK239:=n0_;have HB:=n1_;clear n0_ n1_;(try clear hb);(try clear hb2);(try clear hk);(try clear hi);have hcz9_0 : w8.cell? ⟨gb239,0,none⟩ = some (.slice A0_0 l0_0.length c0_0) := (blk_cell BK239.out 0).trans rfl;have hcz9_1 : w8.cell? ⟨gb239,1,none⟩ = some (.slice A0_1 l0_1.length c0_1) := (blk_cell BK239.out 1).trans rfl;have hcz9_2 : w8.cell? ⟨gb239,2,none⟩ = some (.int .i64 a0_2) := (blk_cell BK239.out 2).trans rfl;have hcz9_3 : w8.cell? ⟨gb239,3,none⟩ = some (.int .i64 a0_3) := (blk_cell BK239.out 3).trans rfl;have hcz9_4 : w8.cell? ⟨gb239,4,none⟩ = some (.slice A0_4 l0_4.length c0_4) := (blk_cell BK239.out 4).trans rfl;have hfz9_0:=blk_frozen BK239.out 0;have hfz9_1:=blk_frozen BK239.out 1;have hfz9_2:=blk_frozen BK239.out 2;have hfz9_3:=blk_frozen BK239.out 3;have hfz9_4:=blk_frozen BK239.out 4) | ((with_reducible refine gate_dst (N:=15) rfl ?_);refine Kd.R_make Kd.bool _ 4 rfl (N:=15) rfl 65 _ _ rfl (l0_0.length : Int) rfl rfl Try.underlying65 (.bool false) 1 info4 rfl (by decide) (by omega) false (ok:=fun _ => True) (okp:=fun _ => True) rfl (fun _ hk => hk) trivial (of_decide_eq_true (by first | (with_reducible assumption) | assumption)) (Nat.le_trans (Nat.mul_le_mul_right _ (of_decide_eq_true (by first | (with_reducible assumption) | assumption) : (l0_0.length : Int).toNat ≤ 281474976710656)) (by omega)) (Below.refl _ _) (Nat.le_refl _) ?_;intro v242 w10 ho11 hb hg_ hnew_;clear hg_ hnew_;(first | rw [← Ny241.out] at ho11 | (simp only [Int.reduceToNat] at ho11;rw [← Ny241.out] at ho11));have n0_:=Aside0.mk (Kd.R_lower ho11 (below_size (by repeat (first | (with_reducible first | exact HB.out | apply below_alloc | apply pw_below_drewN | apply below_drew1 | refine below_set ?_ GE239.out) | exact HB.out))));have n1_:=Aside0.mk (blk_below (g:=gb239) (o := .cells #[.slice A0_0 l0_0.length c0_0,.slice A0_1 l0_1.length c0_1,.int .i64 a0_2,.int .i64 a0_3,.slice A0_4 l0_4.length c0_4] 26 (0,0)) (by (with_reducible repeat (first | refine blk_drewN ?_ _ | refine blk_drew ?_ | refine blk_alloc ?_ _));exact BK239.out) hb);have n2_:=Aside0.mk (below_step (by repeat (first | (with_reducible first | exact HB.out | apply below_alloc | apply pw_below_drewN | apply below_drew1 | refine below_set ?_ GE239.out) | exact HB.out)) hb);clear BK239;clear HB;have HO243:=n0_;have BK239:=n1_;have HB:=n2_;clear n0_ n1_ n2_;clear hb ho11))
   go_loopg [4] k (fun kq v4 w' => ∃ (x3_1 : List Bool) (x4_1 : Bool),v4 = .bool x4_1 ∧ Aside0 (regletref13_Empty.l0 kq x3_1 x4_1 l0_0 l0_1 a0_2 a0_3 l0_4 = some r) ∧ Aside0 (kq ≤ k) ∧ Aside0 (Kd.R Kd.bool 4 w' w.heap.size (fun _ => True) v242 x3_1) ∧ Aside0 (w'.heap[gb239]? = some (.cells #[(.slice A0_0 l0_0.length c0_0),(.slice A0_1 l0_1.length c0_1),.int .i64 a0_2,.int .i64 a0_3,(.slice A0_4 l0_4.length c0_4)] 26 (0,0))) ∧ Aside0 (Below w.heap.size w w'))
   case atStart => exact ⟨(y241),(true),(by first | rfl | (simp;done) | (simp [*];done)),H',⟨Nat.le_refl _⟩,⟨by (with_reducible repeat (first | apply Kd.R_alloc | apply Kd.R_drewN | apply Kd.R_drew));exact HO243.out⟩,⟨by (with_reducible repeat (first | refine blk_drewN ?_ _ | refine blk_drew ?_ | refine blk_alloc ?_ _));exact BK239.out⟩,⟨by repeat (first | (with_reducible first | exact HB.out | apply below_alloc | apply pw_below_drewN | apply below_drew1 | refine below_set ?_ GE239.out) | exact HB.out)⟩⟩
   case round =>
    clear H'
    (try clear c2);(try clear p2);(try clear c3);(try clear c4);(try clear c4b0);(try clear c4b1);(try clear c5);(try clear c5b0);(try clear c5b1);(try clear hcz7_0);(try clear hcz7_1);(try clear hcz7_2);(try clear hcz7_3);(try clear hcz7_4);(try clear hcz9_0);(try clear hcz9_1);(try clear hcz9_2);(try clear hcz9_3);(try clear hcz9_4);(try clear hfz7_0);(try clear hfz7_1);(try clear hfz7_2);(try clear hfz7_3)
    (try clear hfz7_4);(try clear hfz9_0);(try clear hfz9_1);(try clear hfz9_2);(try clear hfz9_3);(try clear hfz9_4)
    obtain ⟨x3_1,x4_1,rfl,HA,HK1,HO_3,BK239,HB⟩ := hrel
    cases gk with
    | zero => exact absurd HA.out (by simp [regletref13_Empty.l0])
    | succ k1 =>
     have H:=HA.out
     clear HA
     simp only [regletref13_Empty.l0] at H
     by_cases c12 : x4_1 = true
     · subst c12
       have H1 : (regletref13_Empty.l1 k1 x3_1 false 0 l0_0 l0_1 a0_2 a0_3 l0_4) = some r:=by rw [if_pos rfl] at H;exact H
       clear H
       have H:=H1
       clear H1
       have H' := Aside0.mk H
       clear H
       go_wp2
       go_loopg [4,5] k1 (fun kq v4 v5 w' => ∃ (x3_2 : List Bool) (x4_2 : Bool) (x5_2 : Int),v4 = .bool x4_2 ∧ v5 = .int .i64 x5_2 ∧ Aside0 (regletref13_Empty.l1 kq x3_2 x4_2 x5_2 l0_0 l0_1 a0_2 a0_3 l0_4 = some r) ∧ Aside0 (kq ≤ k1) ∧ Aside0 (Kd.R Kd.bool 4 w' w.heap.size (fun _ => True) v242 x3_2) ∧ Aside0 (w'.heap[gb239]? = some (.cells #[(.slice A0_0 l0_0.length c0_0),(.slice A0_1 l0_1.length c0_1),.int .i64 a0_2,.int .i64 a0_3,(.slice A0_4 l0_4.length c0_4)] 26 (0,0))) ∧ Aside0 (Below w.heap.size w w'))
       case atStart => exact ⟨(x3_1),(false),(0),(by first | rfl | (simp;done) | (simp [*];done)),(by first | rfl | (simp;done) | (simp [*];done)),H',⟨Nat.le_refl _⟩,⟨by (with_reducible repeat (first | apply Kd.R_alloc | apply Kd.R_drewN | apply Kd.R_drew));exact HO_3.out⟩,⟨by (with_reducible repeat (first | refine blk_drewN ?_ _ | refine blk_drew ?_ | refine blk_alloc ?_ _));exact BK239.out⟩,⟨by repeat (first | (with_reducible first | exact HB.out | apply below_alloc | apply pw_below_drewN | apply below_drew1 | refine below_set ?_ GE239.out) | exact HB.out)⟩⟩
       case round =>
        clear H'
        (try clear c1);(try clear c2);(try clear p2);(try clear c3);(try clear c4);(try clear c4b0);(try clear c4b1);(try clear c5);(try clear c5b0);(try clear c5b1);(try clear c12);(try clear hcz7_0);(try clear hcz7_1);(try clear hcz7_2);(try clear hcz7_3);(try clear hcz7_4);(try clear hcz9_0);(try clear hcz9_1);(try clear hcz9_2);(try clear hcz9_3);(try clear hcz9_4);(try clear hfz7_0);(try clear hfz7_1)
        (try clear hfz7_2);(try clear hfz7_3);(try clear hfz7_4);(try clear hfz9_0);(try clear hfz9_1);(try clear hfz9_2);(try clear hfz9_3);(try clear hfz9_4);(try clear p2)
        obtain ⟨x3_2,x4_2,x5_2,rfl,rfl,HA,HK2,HO_3,BK239,HB⟩ := hrel
        cases gk with
        | zero => exact absurd HA.out (by simp [regletref13_Empty.l1])
        | succ k2 =>
         have H:=HA.out
         clear HA
         simp only [regletref13_Empty.l1] at H
         by_cases c13 : x5_2 < (l0_4.length : Int)
         · rw [if_pos c13] at H
           have c13b0 : decide (x5_2 < (l0_4.length : Int)) = true:=decide_eq_true c13
           clear c13
           have H' := Aside0.mk H
           clear H
           have hcz14_0 : wr.cell? ⟨gb239,0,none⟩ = some (.slice A0_0 l0_0.length c0_0) := (blk_cell BK239.out 0).trans rfl
           have hcz14_1 : wr.cell? ⟨gb239,1,none⟩ = some (.slice A0_1 l0_1.length c0_1) := (blk_cell BK239.out 1).trans rfl
           have hcz14_2 : wr.cell? ⟨gb239,2,none⟩ = some (.int .i64 a0_2) := (blk_cell BK239.out 2).trans rfl
           have hcz14_3 : wr.cell? ⟨gb239,3,none⟩ = some (.int .i64 a0_3) := (blk_cell BK239.out 3).trans rfl
           have hcz14_4 : wr.cell? ⟨gb239,4,none⟩ = some (.slice A0_4 l0_4.length c0_4) := (blk_cell BK239.out 4).trans rfl
           have hfz14_0:=blk_frozen BK239.out 0
           have hfz14_1:=blk_frozen BK239.out 1
           have hfz14_2:=blk_frozen BK239.out 2
           have hfz14_3:=blk_frozen BK239.out 3
           have hfz14_4:=blk_frozen BK239.out 4
           go_wp2
           go_loopg [6,7] k2 (fun kq v6 v7 w' => ∃ (x6_3 : Bool) (x7_3 : Int),v6 = .bool x6_3 ∧ v7 = .int .i64 x7_3 ∧ Aside0 (regletref13_Empty.l2 kq x3_2 x4_2 x5_2 x6_3 x7_3 l0_0 l0_1 a0_2 a0_3 l0_4 = some r) ∧ Aside0 (kq ≤ k2) ∧ Aside0 (Kd.R Kd.bool 4 w' w.heap.size (fun _ => True) v242 x3_2) ∧ Aside0 (w'.heap[gb239]? = some (.cells #[(.slice A0_0 l0_0.length c0_0),(.slice A0_1 l0_1.length c0_1),.int .i64 a0_2,.int .i64 a0_3,(.slice A0_4 l0_4.length c0_4)] 26 (0,0))) ∧ Aside0 (Below w.heap.size w w'))
           case atStart => exact ⟨(true),(0),(by first | rfl | (simp;done) | (simp [*];done)),(by first | rfl | (simp;done) | (simp [*];done)),H',⟨Nat.le_refl _⟩,⟨by (with_reducible repeat (first | apply Kd.R_alloc | apply Kd.R_drewN | apply Kd.R_drew));exact HO_3.out⟩,⟨by (with_reducible repeat (first | refine blk_drewN ?_ _ | refine blk_drew ?_ | refine blk_alloc ?_ _));exact BK239.out⟩,⟨by repeat (first | (with_reducible first | exact HB.out | apply below_alloc | apply pw_below_drewN | apply below_drew1 | refine below_set ?_ GE239.out) | exact HB.out)⟩⟩
           case round =>
            clear H'
            (try clear c1);(try clear c2);(try clear p2);(try clear c3);(try clear c4);(try clear c4b0);(try clear c4b1);(try clear c5);(try clear c5b0);(try clear c5b1);(try clear c12);(try clear c13);(try clear c13b0);(try clear hcz14_0);(try clear hcz14_1);(try clear hcz14_2);(try clear hcz14_3);(try clear hcz14_4);(try clear hcz7_0);(try clear hcz7_1);(try clear hcz7_2);(try clear hcz7_3);(try clear hcz7_4)
            (try clear hcz9_0);(try clear hcz9_1);(try clear hcz9_2);(try clear hcz9_3);(try clear hcz9_4);(try clear hfz14_0);(try clear hfz14_1);(try clear hfz14_2);(try clear hfz14_3);(try clear hfz14_4);(try clear hfz7_0);(try clear hfz7_1);(try clear hfz7_2);(try clear hfz7_3);(try clear hfz7_4);(try clear hfz9_0);(try clear hfz9_1);(try clear hfz9_2);(try clear hfz9_3);(try clear hfz9_4);(try clear p2)
            obtain ⟨x6_3,x7_3,rfl,rfl,HA,HK3,HO_3,BK239,HB⟩ := hrel
            cases gk with
            | zero => exact absurd HA.out (by simp [regletref13_Empty.l2])
            | succ k3 =>
             have H:=HA.out
             clear HA
             simp only [regletref13_Empty.l2] at H
             by_cases c15 : 0 ≤ x5_2
             rotate_left
             · rw [if_neg c15] at H
               exact absurd H (by simp)
             rw [if_pos c15] at H
             have c15b0 : decide (0 ≤ x5_2) = true:=decide_eq_true c15
             clear c15
             by_cases c16 : x5_2 < (l0_4.length : Int)
             rotate_left
             · rw [if_neg c16] at H
               exact absurd H (by simp)
             rw [if_pos c16] at H
             have c16b0 : decide (x5_2 < (l0_4.length : Int)) = true:=decide_eq_true c16
             clear c16
             by_cases c17 : x7_3 < (((rd_T30 l0_4 x5_2).f1).length : Int)
             · rw [if_pos c17] at H
               have c17b0 : decide (x7_3 < (((rd_T30 l0_4 x5_2).f1).length : Int)) = true:=decide_eq_true c17
               clear c17
               by_cases c18 : 0 ≤ x7_3
               rotate_left
               · rw [if_neg c18] at H
                 exact absurd H (by simp)
               rw [if_pos c18] at H
               have c18b0 : decide (0 ≤ x7_3) = true:=decide_eq_true c18
               clear c18
               by_cases c19 : x6_3 = true
               · subst c19
                 have H1 : (if ((rd_T53 ((rd_T30 l0_4 x5_2).f1) x7_3).f0 = true) then (regletref13_Empty.l2 k3 x3_2 x4_2 x5_2 false (wrap64 (x7_3 + 1)) l0_0 l0_1 a0_2 a0_3 l0_4) else (if 0 ≤ ((rd_T53 ((rd_T30 l0_4 x5_2).f1) x7_3).f1) then (if ((rd_T53 ((rd_T30 l0_4 x5_2).f1) x7_3).f1) < (x3_2.length : Int) then (regletref13_Empty.l2 k3 x3_2 x4_2 x5_2 (rdOf false x3_2 ((rd_T53 ((rd_T30 l0_4 x5_2).f1) x7_3).f1)) (wrap64 (x7_3 + 1)) l0_0 l0_1 a0_2 a0_3 l0_4) else (none)) else (none))) = some r:=by rw [if_pos rfl] at H;exact H
                 clear H
                 have H:=H1
                 clear H1
                 obtain ⟨bq20,hbq20⟩ : ∃ b_ : Bool,b_ = ((rd_T53 ((rd_T30 l0_4 x5_2).f1) x7_3).f0) := ⟨_,rfl⟩
                 replace H : (if (bq20 = true) then (regletref13_Empty.l2 k3 x3_2 x4_2 x5_2 false (wrap64 (x7_3 + 1)) l0_0 l0_1 a0_2 a0_3 l0_4) else (if 0 ≤ ((rd_T53 ((rd_T30 l0_4 x5_2).f1) x7_3).f1) then (if ((rd_T53 ((rd_T30 l0_4 x5_2).f1) x7_3).f1) < (x3_2.length : Int) then (regletref13_Empty.l2 k3 x3_2 x4_2 x5_2 (rdOf false x3_2 ((rd_T53 ((rd_T30 l0_4 x5_2).f1) x7_3).f1)) (wrap64 (x7_3 + 1)) l0_0 l0_1 a0_2 a0_3 l0_4) else (none)) else (none))) = some r:=by rw [← hbq20] at H;exact H
                 have Nbq20:=Aside0.mk hbq20
                 clear hbq20
                 by_cases c21 : (bq20 = true)
                 · subst c21
                   have H1 : (regletref13_Empty.l2 k3 x3_2 x4_2 x5_2 false (wrap64 (x7_3 + 1)) l0_0 l0_1 a0_2 a0_3 l0_4) = some r:=by rw [if_pos rfl] at H;exact H
                   clear H
                   have H:=H1
                   clear H1
                   have H' := Aside0.mk H
                   clear H
                   have hcz22_0 : wr.cell? ⟨gb239,0,none⟩ = some (.slice A0_0 l0_0.length c0_0) := (blk_cell BK239.out 0).trans rfl
                   have hcz22_1 : wr.cell? ⟨gb239,1,none⟩ = some (.slice A0_1 l0_1.length c0_1) := (blk_cell BK239.out 1).trans rfl
                   have hcz22_2 : wr.cell? ⟨gb239,2,none⟩ = some (.int .i64 a0_2) := (blk_cell BK239.out 2).trans rfl
                   have hcz22_3 : wr.cell? ⟨gb239,3,none⟩ = some (.int .i64 a0_3) := (blk_cell BK239.out 3).trans rfl
                   have hcz22_4 : wr.cell? ⟨gb239,4,none⟩ = some (.slice A0_4 l0_4.length c0_4) := (blk_cell BK239.out 4).trans rfl
                   have hfz22_0:=blk_frozen BK239.out 0
                   have hfz22_1:=blk_frozen BK239.out 1
                   have hfz22_2:=blk_frozen BK239.out 2
                   have hfz22_3:=blk_frozen BK239.out 3
                   have hfz22_4:=blk_frozen BK239.out 4
                   have p244 : 0 ≤ (x5_2 : Int) := of_decide_eq_true (by first | (with_reducible assumption) | assumption)
                   have q244 : x5_2 < (l0_4.length : Int) := of_decide_eq_true (by first | (with_reducible assumption) | assumption)
                   obtain ⟨ad244,A244_1,c244_1,e244,hx244_0,hx244_1,hl244_1,hi244_1⟩ := at_T30 HR0_4.out x5_2 p244 q244
                   cases e244
                   replace hx244_0:=(HB.out.cell (World.block_lt_of_cell? w _ hx244_0)).trans hx244_0
                   replace hx244_1:=(HB.out.cell (World.block_lt_of_cell? w _ hx244_1)).trans hx244_1
                   have HR244_1:=Aside0.mk hi244_1
                   have HC244_1:=Aside0.mk hl244_1
                   clear hi244_1 hl244_1
                   replace p244:=eq_true p244
                   replace q244:=eq_true q244
                   have p245 : 0 ≤ (x5_2 : Int) := of_decide_eq_true (by first | (with_reducible assumption) | assumption)
                   have q245 : x5_2 < (l0_4.length : Int) := of_decide_eq_true (by first | (with_reducible assumption) | assumption)
                   obtain ⟨ad245,A245_1,c245_1,e245,hx245_0,hx245_1,hl245_1,hi245_1⟩ := at_T30 HR0_4.out x5_2 p245 q245
                   obtain rfl : ad244 = ad245:=(by injection e245)
                   replace hx245_0:=(HB.out.cell (World.block_lt_of_cell? w _ hx245_0)).trans hx245_0
                   replace hx245_1:=(HB.out.cell (World.block_lt_of_cell? w _ hx245_1)).trans hx245_1
                   have HR245_1:=Aside0.mk hi245_1
                   have HC245_1:=Aside0.mk hl245_1
                   clear hi245_1 hl245_1
                   replace p245:=eq_true p245
                   replace q245:=eq_true q245
                   have ea_:=Option.some.inj (hx244_1.symm.trans hx245_1)
                   injection ea_ with ea_ en_ ec_
                   subst ea_
                   subst ec_
                   clear en_
                   have p246 : 0 ≤ (x7_3 : Int) := of_decide_eq_true (by first | (with_reducible assumption) | assumption)
                   have q246 : x7_3 < (((rd_T30 l0_4 x5_2).f1).length : Int) := of_decide_eq_true (by first | (with_reducible assumption) | assumption)
                   obtain ⟨ad246,e246,hx246_0,hx246_1⟩ := at_T53 HR245_1.out x7_3 p246 q246
                   (try rw [← Nbq20.out] at hx246_0)
                   cases e246
                   replace hx246_0:=(HB.out.cell (World.block_lt_of_cell? w _ hx246_0)).trans hx246_0
                   replace hx246_1:=(HB.out.cell (World.block_lt_of_cell? w _ hx246_1)).trans hx246_1
                   replace p246:=eq_true p246
                   replace q246:=eq_true q246
                   go_wp2_with (first | ((with_reducible refine gate_dst (N:=8) rfl ?_);refine box_event ?hg (N:=8) ?hd (cs:=#[.bool false,.int .i64 0]) (t:=53) ?hr ?_;(case hd => rfl);(case hg => rfl);(case hr => first | (go_simp;done) | (go_simp;rfl));intro gb247 hg w23 hbox hb;have n0_:=Aside0.mk (Kd.R_below (by (with_reducible repeat (first | apply Kd.R_alloc | apply Kd.R_drewN | apply Kd.R_drew));exact HO_3.out) hb);have n1_:=Aside0.mk (blk_below (g:=gb239) (o := .cells #[.slice A0_0 l0_0.length c0_0,.slice A0_1 l0_1.length c0_1,.int .i64 a0_2,.int .i64 a0_3,.slice (some ad244) l0_4.length c0_4] 26 (0,0)) (by (with_reducible repeat (first | refine blk_drewN ?_ _ | refine blk_drew ?_ | refine blk_alloc ?_ _));exact BK239.out) hb);have n2_:=Aside0.mk (below_step (by repeat (first | (with_reducible first | exact HB.out | apply below_alloc | apply pw_below_drewN | apply below_drew1 | refine below_set ?_ GE239.out) | exact HB.out)) hb);have n3_:=Aside0.mk (hbox);have n4_:=Aside0.mk ((by rw [hg];exact (below_size (by repeat (first | (with_reducible first | exact HB.out | apply below_alloc | apply pw_below_drewN | apply below_drew1 | refine below_set ?_ GE239.out) | exact HB.out))) : w.heap.size ≤ gb247));have n5_:=Aside0.mk ((by rw [hg];exact (below_size (by repeat (first | (with_reducible first | exact HB.out | apply below_alloc | apply pw_below_drewN | apply below_drew1 | refine below_set ?_ GE239.out) | exact HB.out))) : w.heap.size ≤ gb247));have n6_:=Aside0.mk ((by rw [hg];exact Nat.ne_of_lt (blk_lt (g:=gb239) (o := .cells #[.slice A0_0 l0_0.length c0_0,.slice A0_1 l0_1.length c0_1,.int .i64 a0_2,.int .i64 a0_3,.slice (some ad244) l0_4.length c0_4] 26 (0,0)) (by (with_reducible repeat (first | refine blk_drewN ?_ _ | refine blk_drew ?_ | refine blk_alloc ?_ _));exact BK239.out)) : gb239 ≠ gb247));have n7_:=Aside0.mk ((by rw [hg];exact Nat.ne_of_gt (blk_lt (g:=gb239) (o := .cells #[.slice A0_0 l0_0.length c0_0,.slice A0_1 l0_1.length c0_1,.int .i64 a0_2,.int .i64 a0_3,.slice (some ad244) l0_4.length c0_4] 26 (0,0)) (by (with_reducible repeat (first | refine blk_drewN ?_ _ | refine blk_drew ?_ | refine blk_alloc ?_ _));exact BK239.out)) : gb247 ≠ gb239));clear HO_3;clear BK239;clear HB;have HO_3:=n0_;have BK239:=n1_;have HB:=n2_;have BK247:=n3_;have GW247:=n4_;have GE247:=n5_;have NB239_247:=n6_;have NB247_239:=n7_;clear n0_ n1_ n2_ n3_ n4_ n5_ n6_ n7_;clear hb hbox hg;have hnb24:=NB247_239.out;have hnc24:=NB239_247.out;have hcz25_0 : w23.cell? ⟨gb247,0,none⟩ = some (.bool false) := (blk_cell BK247.out 0).trans rfl;have hcz25_1 : w23.cell? ⟨gb247,1,none⟩ = some (.int .i64 0) := (blk_cell BK247.out 1).trans rfl;have hfz25_0:=blk_frozen BK247.out 0;have hfz25_1:=blk_frozen BK247.out 1))
                   go_roundg k3
                   case measure => have:=HK1.out;have:=HK2.out;have:=HK3.out;omega
                   case rel => exact ⟨(false),(wrap64 (x7_3 + 1)),(by first | rfl | (simp;done) | (simp [*];done)),(by first | rfl | (simp;done) | (simp [*];done)),H',⟨by have:=HK1.out;have:=HK2.out;have:=HK3.out;omega⟩,⟨by (with_reducible repeat (first | apply Kd.R_alloc | apply Kd.R_drewN | apply Kd.R_drew));exact Kd.R_mono (Kd.R_far (p:=⟨gb247,1,none⟩) (Kd.R_far (p:=⟨gb247,0,none⟩) (Kd.R_types HO_3.out BK247.out (by decide)) (fun _ hk => hk.2) (.bool true)) (fun _ hk => hk.2) (.int .i64 ((rd_T53 ((rd_T30 l0_4 x5_2).f1) x7_3).f1))) (fun _ hk => trivial)⟩,⟨by (with_reducible repeat (first | refine blk_drewN ?_ _ | refine blk_drew ?_ | refine blk_alloc ?_ _));refine blk_far ?_ NB239_247.out _;(with_reducible repeat (first | refine blk_drewN ?_ _ | refine blk_drew ?_ | refine blk_alloc ?_ _));refine blk_far ?_ NB239_247.out _;(with_reducible repeat (first | refine blk_drewN ?_ _ | refine blk_drew ?_ | refine blk_alloc ?_ _));exact BK239.out⟩,⟨by repeat (first | (with_reducible first | exact HB.out | apply below_alloc | apply pw_below_drewN | apply below_drew1 | refine below_set ?_ GE239.out | refine below_set ?_ GE247.out) | exact HB.out)⟩⟩
                 · replace c21:=Bool.eq_false_iff.mpr c21
                   subst c21
                   have H1 : (if 0 ≤ ((rd_T53 ((rd_T30 l0_4 x5_2).f1) x7_3).f1) then (if ((rd_T53 ((rd_T30 l0_4 x5_2).f1) x7_3).f1) < (x3_2.length : Int) then (regletref13_Empty.l2 k3 x3_2 x4_2 x5_2 (rdOf false x3_2 ((rd_T53 ((rd_T30 l0_4 x5_2).f1) x7_3).f1)) (wrap64 (x7_3 + 1)) l0_0 l0_1 a0_2 a0_3 l0_4) else (none)) else (none)) = some r:=by rw [if_neg (show ¬ (false = true) by decide)] at H;exact H
                   clear H
                   have H:=H1
                   clear H1
                   by_cases c26 : 0 ≤ ((rd_T53 ((rd_T30 l0_4 x5_2).f1) x7_3).f1)
                   rotate_left
                   · rw [if_neg c26] at H
                     exact absurd H (by simp)
                   rw [if_pos c26] at H
                   have c26b0 : decide (0 ≤ ((rd_T53 ((rd_T30 l0_4 x5_2).f1) x7_3).f1)) = true:=decide_eq_true c26
                   clear c26
                   by_cases c27 : ((rd_T53 ((rd_T30 l0_4 x5_2).f1) x7_3).f1) < (x3_2.length : Int)
                   rotate_left
                   · rw [if_neg c27] at H
                     exact absurd H (by simp)
                   rw [if_pos c27] at H
                   have c27b0 : decide (((rd_T53 ((rd_T30 l0_4 x5_2).f1) x7_3).f1) < (x3_2.length : Int)) = true:=decide_eq_true c27
                   clear c27
                   have H' := Aside0.mk H
                   clear H
                   have hcz28_0 : wr.cell? ⟨gb239,0,none⟩ = some (.slice A0_0 l0_0.length c0_0) := (blk_cell BK239.out 0).trans rfl
                   have hcz28_1 : wr.cell? ⟨gb239,1,none⟩ = some (.slice A0_1 l0_1.length c0_1) := (blk_cell BK239.out 1).trans rfl
                   have hcz28_2 : wr.cell? ⟨gb239,2,none⟩ = some (.int .i64 a0_2) := (blk_cell BK239.out 2).trans rfl
                   have hcz28_3 : wr.cell? ⟨gb239,3,none⟩ = some (.int .i64 a0_3) := (blk_cell BK239.out 3).trans rfl
                   have hcz28_4 : wr.cell? ⟨gb239,4,none⟩ = some (.slice A0_4 l0_4.length c0_4) := (blk_cell BK239.out 4).trans rfl
                   have hfz28_0:=blk_frozen BK239.out 0
                   have hfz28_1:=blk_frozen BK239.out 1
                   have hfz28_2:=blk_frozen BK239.out 2
                   have hfz28_3:=blk_frozen BK239.out 3
                   have hfz28_4:=blk_frozen BK239.out 4
                   have p244 : 0 ≤ (x5_2 : Int) := of_decide_eq_true (by first | (with_reducible assumption) | assumption)
                   have q244 : x5_2 < (l0_4.length : Int) := of_decide_eq_true (by first | (with_reducible assumption) | assumption)
                   obtain ⟨ad244,A244_1,c244_1,e244,hx244_0,hx244_1,hl244_1,hi244_1⟩ := at_T30 HR0_4.out x5_2 p244 q244
                   cases e244
                   replace hx244_0:=(HB.out.cell (World.block_lt_of_cell? w _ hx244_0)).trans hx244_0
                   replace hx244_1:=(HB.out.cell (World.block_lt_of_cell? w _ hx244_1)).trans hx244_1
                   have HR244_1:=Aside0.mk hi244_1
                   have HC244_1:=Aside0.mk hl244_1
                   clear hi244_1 hl244_1
                   replace p244:=eq_true p244
                   replace q244:=eq_true q244
                   have p245 : 0 ≤ (x5_2 : Int) := of_decide_eq_true (by first | (with_reducible assumption) | assumption)
                   have q245 : x5_2 < (l0_4.length : Int) := of_decide_eq_true (by first | (with_reducible assumption) | assumption)
                   obtain ⟨ad245,A245_1,c245_1,e245,hx245_0,hx245_1,hl245_1,hi245_1⟩ := at_T30 HR0_4.out x5_2 p245 q245
                   obtain rfl : ad244 = ad245:=(by injection e245)
                   replace hx245_0:=(HB.out.cell (World.block_lt_of_cell? w _ hx245_0)).trans hx245_0
                   replace hx245_1:=(HB.out.cell (World.block_lt_of_cell? w _ hx245_1)).trans hx245_1
                   have HR245_1:=Aside0.mk hi245_1
                   have HC245_1:=Aside0.mk hl245_1
                   clear hi245_1 hl245_1
                   replace p245:=eq_true p245
                   replace q245:=eq_true q245
                   have ea_:=Option.some.inj (hx244_1.symm.trans hx245_1)
                   injection ea_ with ea_ en_ ec_
                   subst ea_
                   subst ec_
                   clear en_
                   have p246 : 0 ≤ (x7_3 : Int) := of_decide_eq_true (by first | (with_reducible assumption) | assumption)
                   have q246 : x7_3 < (((rd_T30 l0_4 x5_2).f1).length : Int) := of_decide_eq_true (by first | (with_reducible assumption) | assumption)
                   obtain ⟨ad246,e246,hx246_0,hx246_1⟩ := at_T53 HR245_1.out x7_3 p246 q246
                   (try rw [← Nbq20.out] at hx246_0)
                   cases e246
                   replace hx246_0:=(HB.out.cell (World.block_lt_of_cell? w _ hx246_0)).trans hx246_0
                   replace hx246_1:=(HB.out.cell (World.block_lt_of_cell? w _ hx246_1)).trans hx246_1
                   replace p246:=eq_true p246
                   replace q246:=eq_true q246
                   go_wp2_with (first | ((with_reducible refine gate_dst (N:=8) rfl ?_);refine box_event ?hg (N:=8) ?hd (cs:=#[.bool false,.int .i64 0]) (t:=53) ?hr ?_;(case hd => rfl);(case hg => rfl);(case hr => first | (go_simp;done) | (go_simp;rfl));intro gb247 hg w29 hbox hb;have n0_:=Aside0.mk (Kd.R_below (by (with_reducible repeat (first | apply Kd.R_alloc | apply Kd.R_drewN | apply Kd.R_drew));exact HO_3.out) hb);have n1_:=Aside0.mk (blk_below (g:=gb239) (o := .cells #[.slice A0_0 l0_0.length c0_0,.slice A0_1 l0_1.length c0_1,.int .i64 a0_2,.int .i64 a0_3,.slice (some ad244) l0_4.length c0_4] 26 (0,0)) (by (with_reducible repeat (first | refine blk_drewN ?_ _ | refine blk_drew ?_ | refine blk_alloc ?_ _));exact BK239.out) hb);have n2_:=Aside0.mk (below_step (by repeat (first | (with_reducible first | exact HB.out | apply below_alloc | apply pw_below_drewN | apply below_drew1 | refine below_set ?_ GE239.out) | exact HB.out)) hb);have n3_:=Aside0.mk (hbox);have n4_:=Aside0.mk ((by rw [hg];exact (below_size (by repeat (first | (with_reducible first | exact HB.out | apply below_alloc | apply pw_below_drewN | apply below_drew1 | refine below_set ?_ GE239.out) | exact HB.out))) : w.heap.size ≤ gb247));have n5_:=Aside0.mk ((by rw [hg];exact (below_size (by repeat (first | (with_reducible first | exact HB.out | apply below_alloc | apply pw_below_drewN | apply below_drew1 | refine below_set ?_ GE239.out) | exact HB.out))) : w.heap.size ≤ gb247));have n6_:=Aside0.mk ((by rw [hg];exact Nat.ne_of_lt (blk_lt (g:=gb239) (o := .cells #[.slice A0_0 l0_0.length c0_0,.slice A0_1 l0_1.length c0_1,.int .i64 a0_2,.int .i64 a0_3,.slice (some ad244) l0_4.length c0_4] 26 (0,0)) (by (with_reducible repeat (first | refine blk_drewN ?_ _ | refine blk_drew ?_ | refine blk_alloc ?_ _));exact BK239.out)) : gb239 ≠ gb247));have n7_:=Aside0.mk ((by rw [hg];exact Nat.ne_of_gt (blk_lt (g:=gb239) (o := .cells #[.slice A0_0 l0_0.length c0_0,.slice A0_1 l0_1.length c0_1,.int .i64 a0_2,.int .i64 a0_3,.slice (some ad244) l0_4.length c0_4] 26 (0,0)) (by (with_reducible repeat (first | refine blk_drewN ?_ _ | refine blk_drew ?_ | refine blk_alloc ?_ _));exact BK239.out)) : gb247 ≠ gb239));clear HO_3;clear BK239;clear HB;have HO_3:=n0_;have BK239:=n1_;have HB:=n2_;have BK247:=n3_;have GW247:=n4_;have GE247:=n5_;have NB239_247:=n6_;have NB247_239:=n7_;clear n0_ n1_ n2_ n3_ n4_ n5_ n6_ n7_;clear hb hbox hg;have hnb30:=NB247_239.out;have hnc30:=NB239_247.out;have hcz31_0 : w29.cell? ⟨gb247,0,none⟩ = some (.bool false) := (blk_cell BK247.out 0).trans rfl;have hcz31_1 : w29.cell? ⟨gb247,1,none⟩ = some (.int .i64 0) := (blk_cell BK247.out 1).trans rfl;have hfz31_0:=blk_frozen BK247.out 0;have hfz31_1:=blk_frozen BK247.out 1;obtain ⟨Ao32,co32,eo32⟩ := Kd.R_slice HO_3.out;subst eo32;have p248 : 0 ≤ (((rd_T53 ((rd_T30 l0_4 x5_2).f1) x7_3).f1) : Int) := of_decide_eq_true (by first | (with_reducible assumption) | assumption);have q248 : ((rd_T53 ((rd_T30 l0_4 x5_2).f1) x7_3).f1) < (x3_2.length : Int) := of_decide_eq_true (by first | (with_reducible assumption) | assumption);obtain ⟨ad248,e248,hx248_0⟩ := Kd.at_bool (Kd.R_reads' HO_3.out).2.2 ((rd_T53 ((rd_T30 l0_4 x5_2).f1) x7_3).f1) p248 q248;(try rw [← Nbq20.out] at hx248_0);cases e248;have hn248_0 : ad248.block ≠ gb247:=Kd.own_blk (Kd.R_ne HO_3.out BK247.out (by decide));have hn248_1 : ad248.block ≠ gb247:=Kd.own_blk (Kd.R_ne HO_3.out BK247.out (by decide));replace hx248_0:=(cell_far (p:=⟨gb247,0,none⟩) (by first | (rw [add_block];exact hn248_0) | (show (Addr.add _ _).block ≠ _;rw [add_block];exact hn248_0) | exact hn248_0) (.bool false)).trans hx248_0;replace hx248_0:=(cell_far (p:=⟨gb247,1,none⟩) (by first | (rw [add_block];exact hn248_1) | (show (Addr.add _ _).block ≠ _;rw [add_block];exact hn248_1) | exact hn248_1) (.int .i64 ((rd_T53 ((rd_T30 l0_4 x5_2).f1) x7_3).f1))).trans hx248_0;clear hn248_0;clear hn248_1;replace p248:=eq_true p248;replace q248:=eq_true q248))
                   go_roundg k3
                   case measure => have:=HK1.out;have:=HK2.out;have:=HK3.out;omega
                   case rel => exact ⟨(rdOf false x3_2 ((rd_T53 ((rd_T30 l0_4 x5_2).f1) x7_3).f1)),(wrap64 (x7_3 + 1)),(by first | rfl | (simp;done) | (simp [*];done)),(by first | rfl | (simp;done) | (simp [*];done)),H',⟨by have:=HK1.out;have:=HK2.out;have:=HK3.out;omega⟩,⟨by (with_reducible repeat (first | apply Kd.R_alloc | apply Kd.R_drewN | apply Kd.R_drew));exact Kd.R_mono (Kd.R_far (p:=⟨gb247,1,none⟩) (Kd.R_far (p:=⟨gb247,0,none⟩) (Kd.R_types HO_3.out BK247.out (by decide)) (fun _ hk => hk.2) (.bool false)) (fun _ hk => hk.2) (.int .i64 ((rd_T53 ((rd_T30 l0_4 x5_2).f1) x7_3).f1))) (fun _ hk => trivial)⟩,⟨by (with_reducible repeat (first | refine blk_drewN ?_ _ | refine blk_drew ?_ | refine blk_alloc ?_ _));refine blk_far ?_ NB239_247.out _;(with_reducible repeat (first | refine blk_drewN ?_ _ | refine blk_drew ?_ | refine blk_alloc ?_ _));refine blk_far ?_ NB239_247.out _;(with_reducible repeat (first | refine blk_drewN ?_ _ | refine blk_drew ?_ | refine blk_alloc ?_ _));exact BK239.out⟩,⟨by repeat (first | (with_reducible first | exact HB.out | apply below_alloc | apply pw_below_drewN | apply below_drew1 | refine below_set ?_ GE239.out | refine below_set ?_ GE247.out) | exact HB.out)⟩⟩
               · replace c19:=Bool.eq_false_iff.mpr c19
                 subst c19
                 have H1 : (regletref13_Empty.l2 k3 x3_2 x4_2 x5_2 false (wrap64 (x7_3 + 1)) l0_0 l0_1 a0_2 a0_3 l0_4) = some r:=by rw [if_neg (show ¬ (false = true) by decide)] at H;exact H
                 clear H
                 have H:=H1
                 clear H1
                 have H' := Aside0.mk H
                 clear H
                 have hcz33_0 : wr.cell? ⟨gb239,0,none⟩ = some (.slice A0_0 l0_0.length c0_0) := (blk_cell BK239.out 0).trans rfl
                 have hcz33_1 : wr.cell? ⟨gb239,1,none⟩ = some (.slice A0_1 l0_1.length c0_1) := (blk_cell BK239.out 1).trans rfl
                 have hcz33_2 : wr.cell? ⟨gb239,2,none⟩ = some (.int .i64 a0_2) := (blk_cell BK239.out 2).trans rfl
                 have hcz33_3 : wr.cell? ⟨gb239,3,none⟩ = some (.int .i64 a0_3) := (blk_cell BK239.out 3).trans rfl
                 have hcz33_4 : wr.cell? ⟨gb239,4,none⟩ = some (.slice A0_4 l0_4.length c0_4) := (blk_cell BK239.out 4).trans rfl
                 have hfz33_0:=blk_frozen BK239.out 0
                 have hfz33_1:=blk_frozen BK239.out 1
                 have hfz33_2:=blk_frozen BK239.out 2
                 have hfz33_3:=blk_frozen BK239.out 3
                 have hfz33_4:=blk_frozen BK239.out 4
                 have p244 : 0 ≤ (x5_2 : Int) := of_decide_eq_true (by first | (with_reducible assumption) | assumption)
                 have q244 : x5_2 < (l0_4.length : Int) := of_decide_eq_true (by first | (with_reducible assumption) | assumption)
                 obtain ⟨ad244,A244_1,c244_1,e244,hx244_0,hx244_1,hl244_1,hi244_1⟩ := at_T30 HR0_4.out x5_2 p244 q244
                 cases e244
                 replace hx244_0:=(HB.out.cell (World.block_lt_of_cell? w _ hx244_0)).trans hx244_0
                 replace hx244_1:=(HB.out.cell (World.block_lt_of_cell? w _ hx244_1)).trans hx244_1
                 have HR244_1:=Aside0.mk hi244_1
                 have HC244_1:=Aside0.mk hl244_1
                 clear hi244_1 hl244_1
                 replace p244:=eq_true p244
                 replace q244:=eq_true q244
                 have p245 : 0 ≤ (x5_2 : Int) := of_decide_eq_true (by first | (with_reducible assumption) | assumption)
                 have q245 : x5_2 < (l0_4.length : Int) := of_decide_eq_true (by first | (with_reducible assumption) | assumption)
                 obtain ⟨ad245,A245_1,c245_1,e245,hx245_0,hx245_1,hl245_1,hi245_1⟩ := at_T30 HR0_4.out x5_2 p245 q245
                 obtain rfl : ad244 = ad245:=(by injection e245)
                 replace hx245_0:=(HB.out.cell (World.block_lt_of_cell? w _ hx245_0)).trans hx245_0
                 replace hx245_1:=(HB.out.cell (World.block_lt_of_cell? w _ hx245_1)).trans hx245_1
                 have HR245_1:=Aside0.mk hi245_1
                 have HC245_1:=Aside0.mk hl245_1
                 clear hi245_1 hl245_1
                 replace p245:=eq_true p245
                 replace q245:=eq_true q245
                 have ea_:=Option.some.inj (hx244_1.symm.trans hx245_1)
                 injection ea_ with ea_ en_ ec_
                 subst ea_
                 subst ec_
                 clear en_
                 have p246 : 0 ≤ (x7_3 : Int) := of_decide_eq_true (by first | (with_reducible assumption) | assumption)
                 have q246 : x7_3 < (((rd_T30 l0_4 x5_2).f1).length : Int) := of_decide_eq_true (by first | (with_reducible assumption) | assumption)
                 obtain ⟨ad246,e246,hx246_0,hx246_1⟩ := at_T53 HR245_1.out x7_3 p246 q246
                 cases e246
                 replace hx246_0:=(HB.out.cell (World.block_lt_of_cell? w _ hx246_0)).trans hx246_0
                 replace hx246_1:=(HB.out.cell (World.block_lt_of_cell? w _ hx246_1)).trans hx246_1
                 replace p246:=eq_true p246
                 replace q246:=eq_true q246
                 go_wp2_with (first | ((with_reducible refine gate_dst (N:=8) rfl ?_);refine box_event ?hg (N:=8) ?hd (cs:=#[.bool false,.int .i64 0]) (t:=53) ?hr ?_;(case hd => rfl);(case hg => rfl);(case hr => first | (go_simp;done) | (go_simp;rfl));intro gb247 hg w34 hbox hb;have n0_:=Aside0.mk (Kd.R_below (by (with_reducible repeat (first | apply Kd.R_alloc | apply Kd.R_drewN | apply Kd.R_drew));exact HO_3.out) hb);have n1_:=Aside0.mk (blk_below (g:=gb239) (o := .cells #[.slice A0_0 l0_0.length c0_0,.slice A0_1 l0_1.length c0_1,.int .i64 a0_2,.int .i64 a0_3,.slice (some ad244) l0_4.length c0_4] 26 (0,0)) (by (with_reducible repeat (first | refine blk_drewN ?_ _ | refine blk_drew ?_ | refine blk_alloc ?_ _));exact BK239.out) hb);have n2_:=Aside0.mk (below_step (by repeat (first | (with_reducible first | exact HB.out | apply below_alloc | apply pw_below_drewN | apply below_drew1 | refine below_set ?_ GE239.out) | exact HB.out)) hb);have n3_:=Aside0.mk (hbox);have n4_:=Aside0.mk ((by rw [hg];exact (below_size (by repeat (first | (with_reducible first | exact HB.out | apply below_alloc | apply pw_below_drewN | apply below_drew1 | refine below_set ?_ GE239.out) | exact HB.out))) : w.heap.size ≤ gb247));have n5_:=Aside0.mk ((by rw [hg];exact (below_size (by repeat (first | (with_reducible first | exact HB.out | apply below_alloc | apply pw_below_drewN | apply below_drew1 | refine below_set ?_ GE239.out) | exact HB.out))) : w.heap.size ≤ gb247));have n6_:=Aside0.mk ((by rw [hg];exact Nat.ne_of_lt (blk_lt (g:=gb239) (o := .cells #[.slice A0_0 l0_0.length c0_0,.slice A0_1 l0_1.length c0_1,.int .i64 a0_2,.int .i64 a0_3,.slice (some ad244) l0_4.length c0_4] 26 (0,0)) (by (with_reducible repeat (first | refine blk_drewN ?_ _ | refine blk_drew ?_ | refine blk_alloc ?_ _));exact BK239.out)) : gb239 ≠ gb247));have n7_:=Aside0.mk ((by rw [hg];exact Nat.ne_of_gt (blk_lt (g:=gb239) (o := .cells #[.slice A0_0 l0_0.length c0_0,.slice A0_1 l0_1.length c0_1,.int .i64 a0_2,.int .i64 a0_3,.slice (some ad244) l0_4.length c0_4] 26 (0,0)) (by (with_reducible repeat (first | refine blk_drewN ?_ _ | refine blk_drew ?_ | refine blk_alloc ?_ _));exact BK239.out)) : gb247 ≠ gb239));clear HO_3;clear BK239;clear HB;have HO_3:=n0_;have BK239:=n1_;have HB:=n2_;have BK247:=n3_;have GW247:=n4_;have GE247:=n5_;have NB239_247:=n6_;have NB247_239:=n7_;clear n0_ n1_ n2_ n3_ n4_ n5_ n6_ n7_;clear hb hbox hg;have hnb35:=NB247_239.out;have hnc35:=NB239_247.out;have hcz36_0 : w34.cell? ⟨gb247,0,none⟩ = some (.bool false) := (blk_cell BK247.out 0).trans rfl;have hcz36_1 : w34.cell? ⟨gb247,1,none⟩ = some (.int .i64 0) := (blk_cell BK247.out 1).trans rfl;have hfz36_0:=blk_frozen BK247.out 0;have hfz36_1:=blk_frozen BK247.out 1))
                 go_roundg k3
                 case measure => have:=HK1.out;have:=HK2.out;have:=HK3.out;omega
                 case rel => exact ⟨(false),(wrap64 (x7_3 + 1)),(by first | rfl | (simp;done) | (simp [*];done)),(by first | rfl | (simp;done) | (simp [*];done)),H',⟨by have:=HK1.out;have:=HK2.out;have:=HK3.out;omega⟩,⟨by (with_reducible repeat (first | apply Kd.R_alloc | apply Kd.R_drewN | apply Kd.R_drew));exact Kd.R_mono (Kd.R_far (p:=⟨gb247,1,none⟩) (Kd.R_far (p:=⟨gb247,0,none⟩) (Kd.R_types HO_3.out BK247.out (by decide)) (fun _ hk => hk.2) (.bool ((rd_T53 ((rd_T30 l0_4 x5_2).f1) x7_3).f0))) (fun _ hk => hk.2) (.int .i64 ((rd_T53 ((rd_T30 l0_4 x5_2).f1) x7_3).f1))) (fun _ hk => trivial)⟩,⟨by (with_reducible repeat (first | refine blk_drewN ?_ _ | refine blk_drew ?_ | refine blk_alloc ?_ _));refine blk_far ?_ NB239_247.out _;(with_reducible repeat (first | refine blk_drewN ?_ _ | refine blk_drew ?_ | refine blk_alloc ?_ _));refine blk_far ?_ NB239_247.out _;(with_reducible repeat (first | refine blk_drewN ?_ _ | refine blk_drew ?_ | refine blk_alloc ?_ _));exact BK239.out⟩,⟨by repeat (first | (with_reducible first | exact HB.out | apply below_alloc | apply pw_below_drewN | apply below_drew1 | refine below_set ?_ GE239.out | refine below_set ?_ GE247.out) | exact HB.out)⟩⟩
             · rw [if_neg c17] at H
               have c17b0 : decide (x7_3 < (((rd_T30 l0_4 x5_2).f1).length : Int)) = false:=decide_eq_false c17
               clear c17
               by_cases c37 : x6_3 = true
               · subst c37
                 have H1 : (if 0 ≤ ((rd_T30 l0_4 x5_2).f0) then (if ((rd_T30 l0_4 x5_2).f0) < (x3_2.length : Int) then (if (rdOf false x3_2 ((rd_T30 l0_4 x5_2).f0) = true) then (regletref13_Empty.l1 k3 x3_2 x4_2 (wrap64 (x5_2 + 1)) l0_0 l0_1 a0_2 a0_3 l0_4) else (regletref13_Empty.l1 k3 (x3_2.set (((rd_T30 l0_4 x5_2).f0) : Int).toNat true) true (wrap64 (x5_2 + 1)) l0_0 l0_1 a0_2 a0_3 l0_4)) else (none)) else (none)) = some r:=by rw [if_pos rfl] at H;exact H
                 clear H
                 have H:=H1
                 clear H1
                 by_cases c38 : 0 ≤ ((rd_T30 l0_4 x5_2).f0)
                 rotate_left
                 · rw [if_neg c38] at H
                   exact absurd H (by simp)
                 rw [if_pos c38] at H
                 have c38b0 : decide (0 ≤ ((rd_T30 l0_4 x5_2).f0)) = true:=decide_eq_true c38
                 clear c38
                 by_cases c39 : ((rd_T30 l0_4 x5_2).f0) < (x3_2.length : Int)
                 rotate_left
                 · rw [if_neg c39] at H
                   exact absurd H (by simp)
                 rw [if_pos c39] at H
                 have c39b0 : decide (((rd_T30 l0_4 x5_2).f0) < (x3_2.length : Int)) = true:=decide_eq_true c39
                 clear c39
                 obtain ⟨bq40,hbq40⟩ : ∃ b_ : Bool,b_ = (rdOf false x3_2 ((rd_T30 l0_4 x5_2).f0)) := ⟨_,rfl⟩
                 replace H : (if (bq40 = true) then (regletref13_Empty.l1 k3 x3_2 x4_2 (wrap64 (x5_2 + 1)) l0_0 l0_1 a0_2 a0_3 l0_4) else (regletref13_Empty.l1 k3 (x3_2.set (((rd_T30 l0_4 x5_2).f0) : Int).toNat true) true (wrap64 (x5_2 + 1)) l0_0 l0_1 a0_2 a0_3 l0_4)) = some r:=by rw [← hbq40] at H;exact H
                 have Nbq40:=Aside0.mk hbq40
                 clear hbq40
                 by_cases c41 : (bq40 = true)
                 · subst c41
                   have H1 : (regletref13_Empty.l1 k3 x3_2 x4_2 (wrap64 (x5_2 + 1)) l0_0 l0_1 a0_2 a0_3 l0_4) = some r:=by rw [if_pos rfl] at H;exact H
                   clear H
                   have H:=H1
                   clear H1
                   have H' := Aside0.mk H
                   clear H
                   have hcz42_0 : wr.cell? ⟨gb239,0,none⟩ = some (.slice A0_0 l0_0.length c0_0) := (blk_cell BK239.out 0).trans rfl
                   have hcz42_1 : wr.cell? ⟨gb239,1,none⟩ = some (.slice A0_1 l0_1.length c0_1) := (blk_cell BK239.out 1).trans rfl
                   have hcz42_2 : wr.cell? ⟨gb239,2,none⟩ = some (.int .i64 a0_2) := (blk_cell BK239.out 2).trans rfl
                   have hcz42_3 : wr.cell? ⟨gb239,3,none⟩ = some (.int .i64 a0_3) := (blk_cell BK239.out 3).trans rfl
                   have hcz42_4 : wr.cell? ⟨gb239,4,none⟩ = some (.slice A0_4 l0_4.length c0_4) := (blk_cell BK239.out 4).trans rfl
                   have hfz42_0:=blk_frozen BK239.out 0
                   have hfz42_1:=blk_frozen BK239.out 1
                   have hfz42_2:=blk_frozen BK239.out 2
                   have hfz42_3:=blk_frozen BK239.out 3
                   have hfz42_4:=blk_frozen BK239.out 4
                   have p244 : 0 ≤ (x5_2 : Int) := of_decide_eq_true (by first | (with_reducible assumption) | assumption)
                   have q244 : x5_2 < (l0_4.length : Int) := of_decide_eq_true (by first | (with_reducible assumption) | assumption)
                   obtain ⟨ad244,A244_1,c244_1,e244,hx244_0,hx244_1,hl244_1,hi244_1⟩ := at_T30 HR0_4.out x5_2 p244 q244
                   cases e244
                   replace hx244_0:=(HB.out.cell (World.block_lt_of_cell? w _ hx244_0)).trans hx244_0
                   replace hx244_1:=(HB.out.cell (World.block_lt_of_cell? w _ hx244_1)).trans hx244_1
                   have HR244_1:=Aside0.mk hi244_1
                   have HC244_1:=Aside0.mk hl244_1
                   clear hi244_1 hl244_1
                   replace p244:=eq_true p244
                   replace q244:=eq_true q244
                   have p249 : 0 ≤ (x5_2 : Int) := of_decide_eq_true (by first | (with_reducible assumption) | assumption)
                   have q249 : x5_2 < (l0_4.length : Int) := of_decide_eq_true (by first | (with_reducible assumption) | assumption)
                   obtain ⟨ad249,A249_1,c249_1,e249,hx249_0,hx249_1,hl249_1,hi249_1⟩ := at_T30 HR0_4.out x5_2 p249 q249
                   obtain rfl : ad244 = ad249:=(by injection e249)
                   replace hx249_0:=(HB.out.cell (World.block_lt_of_cell? w _ hx249_0)).trans hx249_0
                   replace hx249_1:=(HB.out.cell (World.block_lt_of_cell? w _ hx249_1)).trans hx249_1
                   have HR249_1:=Aside0.mk hi249_1
                   have HC249_1:=Aside0.mk hl249_1
                   clear hi249_1 hl249_1
                   replace p249:=eq_true p249
                   replace q249:=eq_true q249
                   have ea_:=Option.some.inj (hx244_1.symm.trans hx249_1)
                   injection ea_ with ea_ en_ ec_
                   subst ea_
                   subst ec_
                   clear en_
                   obtain ⟨Ao43,co43,eo43⟩ := Kd.R_slice HO_3.out
                   subst eo43
                   have p250 : 0 ≤ (((rd_T30 l0_4 x5_2).f0) : Int) := of_decide_eq_true (by first | (with_reducible assumption) | assumption)
                   have q250 : ((rd_T30 l0_4 x5_2).f0) < (x3_2.length : Int) := of_decide_eq_true (by first | (with_reducible assumption) | assumption)
                   obtain ⟨ad250,e250,hx250_0⟩ := Kd.at_bool (Kd.R_reads' HO_3.out).2.2 ((rd_T30 l0_4 x5_2).f0) p250 q250
                   (try rw [← Nbq40.out] at hx250_0)
                   cases e250
                   replace p250:=eq_true p250
                   replace q250:=eq_true q250
                   go_wp2
                   go_roundg k3
                   case measure => have:=HK1.out;have:=HK2.out;have:=HK3.out;omega
                   case rel => exact ⟨(x3_2),(x4_2),(wrap64 (x5_2 + 1)),(by first | rfl | (simp;done) | (simp [*];done)),(by first | rfl | (simp;done) | (simp [*];done)),H',⟨by have:=HK1.out;have:=HK2.out;have:=HK3.out;omega⟩,⟨by (with_reducible repeat (first | apply Kd.R_alloc | apply Kd.R_drewN | apply Kd.R_drew));exact HO_3.out⟩,⟨by (with_reducible repeat (first | refine blk_drewN ?_ _ | refine blk_drew ?_ | refine blk_alloc ?_ _));exact BK239.out⟩,⟨by repeat (first | (with_reducible first | exact HB.out | apply below_alloc | apply pw_below_drewN | apply below_drew1 | refine below_set ?_ GE239.out) | exact HB.out)⟩⟩
                 · replace c41:=Bool.eq_false_iff.mpr c41
                   subst c41
                   have H1 : (regletref13_Empty.l1 k3 (x3_2.set (((rd_T30 l0_4 x5_2).f0) : Int).toNat true) true (wrap64 (x5_2 + 1)) l0_0 l0_1 a0_2 a0_3 l0_4) = some r:=by rw [if_neg (show ¬ (false = true) by decide)] at H;exact H
                   clear H
                   have H:=H1
                   clear H1
                   obtain ⟨y252,hy252⟩ : ∃ y_ : List Bool,y_ = (x3_2.set (((rd_T30 l0_4 x5_2).f0) : Int).toNat true) := ⟨_,rfl⟩
                   replace H : (regletref13_Empty.l1 k3 y252 true (wrap64 (x5_2 + 1)) l0_0 l0_1 a0_2 a0_3 l0_4) = some r:=by first | (rw [hy252];with_reducible exact H) | (have H2_:=(Option.bind_some _ _).symm.trans H;rw [hy252];with_reducible exact H2_) | (have H2_:=(Option.bind_some _ _).symm.trans H;with_reducible exact H2_) | with_reducible exact H | (rw [hy252];exact H) | exact H
                   have Ny252:=Aside0.mk hy252
                   clear hy252
                   have H' := Aside0.mk H
                   clear H
                   have hcz45_0 : wr.cell? ⟨gb239,0,none⟩ = some (.slice A0_0 l0_0.length c0_0) := (blk_cell BK239.out 0).trans rfl
                   have hcz45_1 : wr.cell? ⟨gb239,1,none⟩ = some (.slice A0_1 l0_1.length c0_1) := (blk_cell BK239.out 1).trans rfl
                   have hcz45_2 : wr.cell? ⟨gb239,2,none⟩ = some (.int .i64 a0_2) := (blk_cell BK239.out 2).trans rfl
                   have hcz45_3 : wr.cell? ⟨gb239,3,none⟩ = some (.int .i64 a0_3) := (blk_cell BK239.out 3).trans rfl
                   have hcz45_4 : wr.cell? ⟨gb239,4,none⟩ = some (.slice A0_4 l0_4.length c0_4) := (blk_cell BK239.out 4).trans rfl
                   have hfz45_0:=blk_frozen BK239.out 0
                   have hfz45_1:=blk_frozen BK239.out 1
                   have hfz45_2:=blk_frozen BK239.out 2
                   have hfz45_3:=blk_frozen BK239.out 3
                   have hfz45_4:=blk_frozen BK239.out 4
                   have p244 : 0 ≤ (x5_2 : Int) := of_decide_eq_true (by first | (with_reducible assumption) | assumption)
                   have q244 : x5_2 < (l0_4.length : Int) := of_decide_eq_true (by first | (with_reducible assumption) | assumption)
                   obtain ⟨ad244,A244_1,c244_1,e244,hx244_0,hx244_1,hl244_1,hi244_1⟩ := at_T30 HR0_4.out x5_2 p244 q244
                   cases e244
                   replace hx244_0:=(HB.out.cell (World.block_lt_of_cell? w _ hx244_0)).trans hx244_0
                   replace hx244_1:=(HB.out.cell (World.block_lt_of_cell? w _ hx244_1)).trans hx244_1
                   have HR244_1:=Aside0.mk hi244_1
                   have HC244_1:=Aside0.mk hl244_1
                   clear hi244_1 hl244_1
                   replace p244:=eq_true p244
                   replace q244:=eq_true q244
                   have p249 : 0 ≤ (x5_2 : Int) := of_decide_eq_true (by first | (with_reducible assumption) | assumption)
                   have q249 : x5_2 < (l0_4.length : Int) := of_decide_eq_true (by first | (with_reducible assumption) | assumption)
                   obtain ⟨ad249,A249_1,c249_1,e249,hx249_0,hx249_1,hl249_1,hi249_1⟩ := at_T30 HR0_4.out x5_2 p249 q249
                   obtain rfl : ad244 = ad249:=(by injection e249)
                   replace hx249_0:=(HB.out.cell (World.block_lt_of_cell? w _ hx249_0)).trans hx249_0
                   replace hx249_1:=(HB.out.cell (World.block_lt_of_cell? w _ hx249_1)).trans hx249_1
                   have HR249_1:=Aside0.mk hi249_1
                   have HC249_1:=Aside0.mk hl249_1
                   clear hi249_1 hl249_1
                   replace p249:=eq_true p249
                   replace q249:=eq_true q249
                   have ea_:=Option.some.inj (hx244_1.symm.trans hx249_1)
                   injection ea_ with ea_ en_ ec_
                   subst ea_
                   subst ec_
                   clear en_
                   obtain ⟨Ao46,co46,eo46⟩ := Kd.R_slice HO_3.out
                   subst eo46
                   have p250 : 0 ≤ (((rd_T30 l0_4 x5_2).f0) : Int) := of_decide_eq_true (by first | (with_reducible assumption) | assumption)
                   have q250 : ((rd_T30 l0_4 x5_2).f0) < (x3_2.length : Int) := of_decide_eq_true (by first | (with_reducible assumption) | assumption)
                   obtain ⟨ad250,e250,hx250_0⟩ := Kd.at_bool (Kd.R_reads' HO_3.out).2.2 ((rd_T30 l0_4 x5_2).f0) p250 q250
                   (try rw [← Nbq40.out] at hx250_0)
                   cases e250
                   replace p250:=eq_true p250
                   replace q250:=eq_true q250
                   have p251 : 0 ≤ (x5_2 : Int) := of_decide_eq_true (by first | (with_reducible assumption) | assumption)
                   have q251 : x5_2 < (l0_4.length : Int) := of_decide_eq_true (by first | (with_reducible assumption) | assumption)
                   obtain ⟨ad251,A251_1,c251_1,e251,hx251_0,hx251_1,hl251_1,hi251_1⟩ := at_T30 HR0_4.out x5_2 p251 q251
                   obtain rfl : ad244 = ad251:=(by injection e251)
                   replace hx251_0:=(HB.out.cell (World.block_lt_of_cell? w _ hx251_0)).trans hx251_0
                   replace hx251_1:=(HB.out.cell (World.block_lt_of_cell? w _ hx251_1)).trans hx251_1
                   have HR251_1:=Aside0.mk hi251_1
                   have HC251_1:=Aside0.mk hl251_1
                   clear hi251_1 hl251_1
                   replace p251:=eq_true p251
                   replace q251:=eq_true q251
                   have ea_:=Option.some.inj (hx244_1.symm.trans hx251_1)
                   injection ea_ with ea_ en_ ec_
                   subst ea_
                   subst ec_
                   clear en_
                   have p44 : 0 ≤ (((rd_T30 l0_4 x5_2).f0) : Int) := of_decide_eq_true (by first | (with_reducible assumption) | assumption)
                   have q44 : (((rd_T30 l0_4 x5_2).f0) : Int) < ((x3_2.length : Int) : Int) := of_decide_eq_true (by first | (with_reducible assumption) | assumption)
                   obtain ⟨go44,co44,eo44,gb44,gl44,cl44,HG44⟩ := Kd.R_form HO_3.out (by omega)
                   (first | cases eo44 | (injection eo44 with ea_ en_ ec_;(first | subst ea_ | (injection ea_ with ea_;subst ea_));subst ec_;clear en_))
                   have GB44:=Aside0.mk gb44
                   have GG44:=Aside0.mk HG44
                   clear gb44 gl44 HG44
                   (first | simp only [add_plain] at hx250_0 | skip)
                   obtain ⟨hx44_0,hf44_0⟩ := Kd.R_celln false HO_3.out (((rd_T30 l0_4 x5_2).f0) : Int) p44 q44
                   replace p44:=eq_true p44
                   replace q44:=eq_true q44
                   have HP47:=Kd.R_putg HO_3.out (((rd_T30 l0_4 x5_2).f0) : Int) true
                   go_wp2_with (first | ((with_reducible refine gate_store (t:=4) (p:=77) rfl ?_);refine store_event (t:=4) (p:=77) (v:=?vo_w48) (w1:=(wr.setCell ⟨go44,(((rd_T30 l0_4 x5_2).f0) : Int).toNat,none⟩ (.bool true))) ?hg ?ho ?hn ?hr ?_;(case ho => rfl);(case hg => rfl);(case hn => rfl);(case hr => first | (go_simp;done) | (go_simp;rfl));intro w48 hw;have hg : wr.grownBy w48 (some go44) := (by rw [hw];exact HP47.2);have hp_ : Kd.R Kd.bool 4 w48 w.heap.size (fun _ => True) (.slice (some ⟨go44,0,none⟩) x3_2.length co46) y252:=(by rw [hw,Ny252.out];exact HP47.1);clear HP47;have n0_:=Aside0.mk (hp_);have n1_:=Aside0.mk (blk_grown (g:=gb239) (o := .cells #[.slice A0_0 l0_0.length c0_0,.slice A0_1 l0_1.length c0_1,.int .i64 a0_2,.int .i64 a0_3,.slice (some ad244) l0_4.length c0_4] 26 (0,0)) (by (with_reducible repeat (first | refine blk_drewN ?_ _ | refine blk_drew ?_ | refine blk_alloc ?_ _));exact BK239.out) hg (Kd.R_ne HO_3.out BK239.out (by decide)));have n2_:=Aside0.mk ((by rw [hw];exact below_set (HB.out) GB44.out : Below w.heap.size w w48));clear HO_3;clear BK239;clear HB;have HO_3:=n0_;have BK239:=n1_;have HB:=n2_;clear n0_ n1_ n2_;clear hg hw hp_))
                   go_roundg k3
                   case measure => have:=HK1.out;have:=HK2.out;have:=HK3.out;omega
                   case rel => exact ⟨(y252),(true),(wrap64 (x5_2 + 1)),(by first | rfl | (simp;done) | (simp [*];done)),(by first | rfl | (simp;done) | (simp [*];done)),H',⟨by have:=HK1.out;have:=HK2.out;have:=HK3.out;omega⟩,⟨by (with_reducible repeat (first | apply Kd.R_alloc | apply Kd.R_drewN | apply Kd.R_drew));exact HO_3.out⟩,⟨by (with_reducible repeat (first | refine blk_drewN ?_ _ | refine blk_drew ?_ | refine blk_alloc ?_ _));exact BK239.out⟩,⟨by repeat (first | (with_reducible first | exact HB.out | apply below_alloc | apply pw_below_drewN | apply below_drew1 | refine below_set ?_ GE239.out) | exact HB.out)⟩⟩
               · replace c37:=Bool.eq_false_iff.mpr c37
                 subst c37
                 have H1 : (regletref13_Empty.l1 k3 x3_2 x4_2 (wrap64 (x5_2 + 1)) l0_0 l0_1 a0_2 a0_3 l0_4) = some r:=by rw [if_neg (show ¬ (false = true) by decide)] at H;exact H
                 clear H
                 have H:=H1
                 clear H1
                 have H' := Aside0.mk H
                 clear H
                 have hcz49_0 : wr.cell? ⟨gb239,0,none⟩ = some (.slice A0_0 l0_0.length c0_0) := (blk_cell BK239.out 0).trans rfl
                 have hcz49_1 : wr.cell? ⟨gb239,1,none⟩ = some (.slice A0_1 l0_1.length c0_1) := (blk_cell BK239.out 1).trans rfl
                 have hcz49_2 : wr.cell? ⟨gb239,2,none⟩ = some (.int .i64 a0_2) := (blk_cell BK239.out 2).trans rfl
                 have hcz49_3 : wr.cell? ⟨gb239,3,none⟩ = some (.int .i64 a0_3) := (blk_cell BK239.out 3).trans rfl
                 have hcz49_4 : wr.cell? ⟨gb239,4,none⟩ = some (.slice A0_4 l0_4.length c0_4) := (blk_cell BK239.out 4).trans rfl
                 have hfz49_0:=blk_frozen BK239.out 0
                 have hfz49_1:=blk_frozen BK239.out 1
                 have hfz49_2:=blk_frozen BK239.out 2
                 have hfz49_3:=blk_frozen BK239.out 3
                 have hfz49_4:=blk_frozen BK239.out 4
                 have p244 : 0 ≤ (x5_2 : Int) := of_decide_eq_true (by first | (with_reducible assumption) | assumption)
                 have q244 : x5_2 < (l0_4.length : Int) := of_decide_eq_true (by first | (with_reducible assumption) | assumption)
                 obtain ⟨ad244,A244_1,c244_1,e244,hx244_0,hx244_1,hl244_1,hi244_1⟩ := at_T30 HR0_4.out x5_2 p244 q244
                 cases e244
                 replace hx244_0:=(HB.out.cell (World.block_lt_of_cell? w _ hx244_0)).trans hx244_0
                 replace hx244_1:=(HB.out.cell (World.block_lt_of_cell? w _ hx244_1)).trans hx244_1
                 have HR244_1:=Aside0.mk hi244_1
                 have HC244_1:=Aside0.mk hl244_1
                 clear hi244_1 hl244_1
                 replace p244:=eq_true p244
                 replace q244:=eq_true q244
                 go_wp2
                 go_roundg k3
                 case measure => have:=HK1.out;have:=HK2.out;have:=HK3.out;omega
                 case rel => exact ⟨(x3_2),(x4_2),(wrap64 (x5_2 + 1)),(by first | rfl | (simp;done) | (simp [*];done)),(by first | rfl | (simp;done) | (simp [*];done)),H',⟨by have:=HK1.out;have:=HK2.out;have:=HK3.out;omega⟩,⟨by (with_reducible repeat (first | apply Kd.R_alloc | apply Kd.R_drewN | apply Kd.R_drew));exact HO_3.out⟩,⟨by (with_reducible repeat (first | refine blk_drewN ?_ _ | refine blk_drew ?_ | refine blk_alloc ?_ _));exact BK239.out⟩,⟨by repeat (first | (with_reducible first | exact HB.out | apply below_alloc | apply pw_below_drewN | apply below_drew1 | refine below_set ?_ GE239.out) | exact HB.out)⟩⟩
         · rw [if_neg c13] at H
           have c13b0 : decide (x5_2 < (l0_4.length : Int)) = false:=decide_eq_false c13
           clear c13
           have H' := Aside0.mk H
           clear H
           have hcz50_0 : wr.cell? ⟨gb239,0,none⟩ = some (.slice A0_0 l0_0.length c0_0) := (blk_cell BK239.out 0).trans rfl
           have hcz50_1 : wr.cell? ⟨gb239,1,none⟩ = some (.slice A0_1 l0_1.length c0_1) := (blk_cell BK239.out 1).trans rfl
           have hcz50_2 : wr.cell? ⟨gb239,2,none⟩ = some (.int .i64 a0_2) := (blk_cell BK239.out 2).trans rfl
           have hcz50_3 : wr.cell? ⟨gb239,3,none⟩ = some (.int .i64 a0_3) := (blk_cell BK239.out 3).trans rfl
           have hcz50_4 : wr.cell? ⟨gb239,4,none⟩ = some (.slice A0_4 l0_4.length c0_4) := (blk_cell BK239.out 4).trans rfl
           have hfz50_0:=blk_frozen BK239.out 0
           have hfz50_1:=blk_frozen BK239.out 1
           have hfz50_2:=blk_frozen BK239.out 2
           have hfz50_3:=blk_frozen BK239.out 3
           have hfz50_4:=blk_frozen BK239.out 4
           go_wp2
           go_roundg k2
           case measure => have:=HK1.out;have:=HK2.out;omega
           case rel => exact ⟨(x3_2),(x4_2),(by first | rfl | (simp;done) | (simp [*];done)),H',⟨by have:=HK1.out;have:=HK2.out;omega⟩,⟨by (with_reducible repeat (first | apply Kd.R_alloc | apply Kd.R_drewN | apply Kd.R_drew));exact HO_3.out⟩,⟨by (with_reducible repeat (first | refine blk_drewN ?_ _ | refine blk_drew ?_ | refine blk_alloc ?_ _));exact BK239.out⟩,⟨by repeat (first | (with_reducible first | exact HB.out | apply below_alloc | apply pw_below_drewN | apply below_drew1 | refine below_set ?_ GE239.out) | exact HB.out)⟩⟩
     · replace c12:=Bool.eq_false_iff.mpr c12
       subst c12
       have H1 : (some x3_1) = some r:=by rw [if_neg (show ¬ (false = true) by decide)] at H;exact H
       clear H
       have H:=H1
       clear H1
       obtain rfl:=Option.some.inj H
       go_wp2
       go_ret
       exact ⟨_,by first | rfl | (simp [errW_none,errW_some] <;> rfl) | (simp [*,errW_none,errW_some] <;> rfl),by (with_reducible repeat (first | apply Kd.R_alloc | apply Kd.R_drewN | apply Kd.R_drew));exact HO_3.out,by repeat (first | (with_reducible first | exact HB.out | apply below_alloc | apply pw_below_drewN | apply below_drew1 | refine below_set ?_ GE239.out) | exact HB.out)⟩
 · replace c3:=Bool.eq_false_iff.mpr c3
   subst c3
   have H1 : (some ([] : List Bool)) = some r:=by rw [if_neg (show ¬ (false = true) by decide)] at H;exact H
   clear H
   have H:=H1
   clear H1
   obtain rfl:=Option.some.inj H
   go_enter Try.func28,Try.ntmps28
   go_wp2_with (first | ((with_reducible refine gate_dst (N:=1) rfl ?_);refine box_event ?hg (N:=1) ?hd (cs:=#[.slice A0_0 l0_0.length c0_0,.slice A0_1 l0_1.length c0_1,.int .i64 a0_2,.int .i64 a0_3,.slice A0_4 l0_4.length c0_4]) (t:=26) ?hr ?_;(case hd => rfl);(case hg => rfl);(case hr => first | (go_simp;done) | (go_simp;rfl));intro gb239 hg w51 hbox hb;have n0_:=Aside0.mk (below_step (by repeat (first | (with_reducible first | exact HB.out | apply below_alloc | apply pw_below_drewN | apply below_drew1) | exact HB.out)) hb);have n1_:=Aside0.mk (hbox);have n2_:=Aside0.mk ((by rw [hg];exact (below_size (by repeat (first | (with_reducible first | exact HB.out | apply below_alloc | apply pw_below_drewN | apply below_drew1) | exact HB.out))) : w.heap.size ≤ gb239));have n3_:=Aside0.mk ((by rw [hg];exact (below_size (by repeat (first | (with_reducible first | exact HB.out | apply below_alloc | apply pw_below_drewN | apply below_drew1) | exact HB.out))) : w.heap.size ≤ gb239));clear HB;have HB:=n0_;have BK239:=n1_;have GW239:=n2_;have GE239:=n3_;clear n0_ n1_ n2_ n3_;clear hb hbox hg;have hcz52_0 : w51.cell? ⟨gb239,0,none⟩ = some (.slice A0_0 l0_0.length c0_0) := (blk_cell BK239.out 0).trans rfl;have hcz52_1 : w51.cell? ⟨gb239,1,none⟩ = some (.slice A0_1 l0_1.length c0_1) := (blk_cell BK239.out 1).trans rfl;have hcz52_2 : w51.cell? ⟨gb239,2,none⟩ = some (.int .i64 a0_2) := (blk_cell BK239.out 2).trans rfl;have hcz52_3 : w51.cell? ⟨gb239,3,none⟩ = some (.int .i64 a0_3) := (blk_cell BK239.out 3).trans rfl;have hcz52_4 : w51.cell? ⟨gb239,4,none⟩ = some (.slice A0_4 l0_4.length c0_4) := (blk_cell BK239.out 4).trans rfl;have hfz52_0:=blk_frozen BK239.out 0;have hfz52_1:=blk_frozen BK239.out 1;have hfz52_2:=blk_frozen BK239.out 2;have hfz52_3:=blk_frozen BK239.out 3;have hfz52_4:=blk_frozen BK239.out 4) | ((with_reducible refine gate_callee (f:=25) rfl ?_);refine goesL_ (some 10) rfl rfl Try.func25 (by kernel_rfl) rfl #[.agg #[.slice A0_0 l0_0.length c0_0,.slice A0_1 l0_1.length c0_1,.int .i64 a0_2,.int .i64 a0_3,.slice A0_4 l0_4.length c0_4]] rfl (by (try simp only [List.map_toArray,List.map_cons,List.map_nil]);first | done | rfl | (simp only [List.length_drop,List.length_take];rfl)) ?_;(with_reducible refine (regletref13_Right.calls k _ _ l0_0 _ _ l0_1 a0_2 a0_3 _ _ l0_4 false _ ?side1 ?side2 ?side3 ?side4 ?side5 ?side6 A2.out).mono ?_);(case side1 => repeat (first | exact (Kd.C_below HR0_0.out HB.out) | (with_reducible refine Kd.C_alloc ?_ _) | (with_reducible refine Kd.C_drewN ?_ _) | (with_reducible refine Kd.C_drew ?_)));(case side2 => exact HC0_0.out);(case side3 => repeat (first | exact (Kd.C_below HR0_1.out HB.out) | (with_reducible refine Kd.C_alloc ?_ _) | (with_reducible refine Kd.C_drewN ?_ _) | (with_reducible refine Kd.C_drew ?_)));(case side4 => exact HC0_1.out);(case side5 => repeat (first | exact (Kd.C_below HR0_4.out HB.out) | (with_reducible refine Kd.C_alloc ?_ _) | (with_reducible refine Kd.C_drewN ?_ _) | (with_reducible refine Kd.C_drew ?_)));(case side6 => exact HC0_4.out);rintro e w53 ⟨rfl,hb⟩;refine ⟨_,rfl,?_⟩;have n0_:=Aside0.mk (blk_below (g:=gb239) (o := .cells #[.slice A0_0 l0_0.length c0_0,.slice A0_1 l0_1.length c0_1,.int .i64 a0_2,.int .i64 a0_3,.slice A0_4 l0_4.length c0_4] 26 (0,0)) (by (with_reducible repeat (first | refine blk_drewN ?_ _ | refine blk_drew ?_ | refine blk_alloc ?_ _));exact BK239.out) hb);have n1_:=Aside0.mk (below_step (by repeat (first | (with_reducible first | exact HB.out | apply below_alloc | apply pw_below_drewN | apply below_drew1 | refine below_set ?_ GE239.out) | exact HB.out)) hb);clear BK239;clear HB;have BK239:=n0_;have HB:=n1_;clear n0_ n1_;(try clear hb);(try clear hb2);(try clear hk);(try clear hi)))
   go_ret
   exact ⟨_,by first | rfl | (simp [errW_none,errW_some] <;> rfl) | (simp [*,errW_none,errW_some] <;> rfl),by first | exact Kd.R_nil _ _ _ _ _ | exact Kd.N_nil _ _ _ _ _ | exact Kd.V_nil _ _ _ _ _ | exact Kd.Q_nil _ _ _ _ _ | exact Kd.S_nil _ _ _ _ _,by repeat (first | (with_reducible first | exact HB.out | apply below_alloc | apply pw_below_drewN | apply below_drew1 | refine below_set ?_ GE239.out) | exact HB.out)⟩
end Go.Proofs.Ytfdcfihcfegekaa.P
end

section
namespace Go.Proofs.Ytfdcfihcfegekaa.P
open Go.RowKit Go.Proofs.YtfdcfihcfegekaaW.PrintWords Go.Proofs.YtfdcfihcfegekaaW.PrintLast Go.Proofs.YtfdcfihcfegekaaW.PrintMore Go.Proofs.Ytfdcfihcfegekaa.R
set_option linter.unusedVariables false
set_option linter.unusedSimpArgs false
def regletref13_first.l1 (l0_0 : List ByteArray) (l0_1 : List (S61)) (a0_2 : Int) (a0_3 : Int) (l0_4 : List (S30)) : Nat → List (List Bool) → List Bool → Bool → Int → Option (Bool × List (List Bool))
  | 0,_,_,_,_ => none
  | k + 1,out,em,more,i =>
    if i < (l0_4.length : Int) then
      if 0 ≤ i then
        (regletref13_begins.f k l0_0 l0_1 a0_2 a0_3 l0_4 (rd_T30 l0_4 i).f1 out em).bind fun m =>
          if 0 ≤ (rd_T30 l0_4 i).f0 then
            if (rd_T30 l0_4 i).f0 < (out.length : Int) then
              (regletref13_join.f k (out.getD (rd_T30 l0_4 i).f0.toNat []) m.1).bind fun b =>
                regletref13_first.l1 l0_0 l0_1 a0_2 a0_3 l0_4 k (out.set (rd_T30 l0_4 i).f0.toNat b.2) em (if b.1 = true then true else more) (wrap64 (i + 1))
            else none
          else none
      else none
    else some (more,out)
def regletref13_first.l0 (l0_0 : List ByteArray) (l0_1 : List (S61)) (a0_2 : Int) (a0_3 : Int) (l0_4 : List (S30)) : Nat → List (List Bool) → List Bool → Bool → Option (List (List Bool))
  | 0,_,_,_ => none
  | k + 1,out,em,more => if more = true then (regletref13_first.l1 l0_0 l0_1 a0_2 a0_3 l0_4 k out em false 0).bind fun r => regletref13_first.l0 l0_0 l0_1 a0_2 a0_3 l0_4 k r.2 em r.1 else some out
def regletref13_first.f (k : Nat) (l0_0 : List ByteArray) (l0_1 : List (S61)) (a0_2 : Int) (a0_3 : Int) (l0_4 : List (S30)) : Option (List (List Bool)) :=
  (regletref13_marks.f k l0_0 l0_1 a0_2 a0_3 l0_4).bind fun out => (regletref13_Empty.f k l0_0 l0_1 a0_2 a0_3 l0_4).bind fun em => regletref13_first.l0 l0_0 l0_1 a0_2 a0_3 l0_4 k out em true
set_option maxHeartbeats 2000000 in
set_option maxRecDepth 100000 in
theorem regletref13_first.calls (k : Nat) (A0_0 : Option Addr) (c0_0 : Nat) (l0_0 : List ByteArray) (A0_1 : Option Addr) (c0_1 : Nat) (l0_1 : List (S61)) (a0_2 : Int) (a0_3 : Int) (A0_4 : Option Addr) (c0_4 : Nat) (l0_4 : List (S30)) (r : List (List Bool)) (w : World) (hr0_0 : Kd.C Kd.string w A0_0 l0_0.length l0_0) (hc0_0 : l0_0.length ≤ c0_0) (hr0_1 : Kd.C k61 w A0_1 l0_1.length l0_1) (hc0_1 : l0_1.length ≤ c0_1) (hr0_4 : Kd.C k30 w A0_4 l0_4.length l0_4) (hc0_4 : l0_4.length ≤ c0_4) (h : regletref13_first.f k l0_0 l0_1 a0_2 a0_3 l0_4 = some r) :
    Calls Try.prog 27 #[.agg #[.slice A0_0 l0_0.length c0_0,.slice A0_1 l0_1.length c0_1,.int .i64 a0_2,.int .i64 a0_3,.slice A0_4 l0_4.length c0_4]] w fun e w' => ∃ v0_ : Value,e = .returned (v0_) ∧ Kd.S (Kd.slice 4 Kd.bool) 65 w' w.heap.size (fun _ => True) v0_ r ∧ Below w.heap.size w w' := by
 obtain ⟨m0,hm0,h2⟩ := Option.bind_eq_some_iff.1 h
 clear h
 obtain ⟨em,hem,h3⟩ := Option.bind_eq_some_iff.1 h2
 clear h2
 have HM:=Aside0.mk hm0
 have HE:=Aside0.mk hem
 have HL:=Aside0.mk h3
 clear h3 hm0 hem
 have HA1 : Aside0 (Below w.heap.size w (w.alloc (.cells #[.slice A0_0 l0_0.length c0_0,.slice A0_1 l0_1.length c0_1,.int .i64 a0_2,.int .i64 a0_3,.slice A0_4 l0_4.length c0_4] 26))) := ⟨(Below.refl _ w).alloc (Nat.le_refl _) _⟩
 have HA2 : Aside0 ((w.alloc (.cells #[.slice A0_0 l0_0.length c0_0,.slice A0_1 l0_1.length c0_1,.int .i64 a0_2,.int .i64 a0_3,.slice A0_4 l0_4.length c0_4] 26)).heap[w.heap.size]? = some (.cells #[.slice A0_0 l0_0.length c0_0,.slice A0_1 l0_1.length c0_1,.int .i64 a0_2,.int .i64 a0_3,.slice A0_4 l0_4.length c0_4] 26 (0,0))) := ⟨by simpa using heap_alloc_new w _⟩
 go_enter Try.func27,Try.ntmps27
 go_wp2_with (go_at_call 26;(with_reducible refine (regletref13_marks.calls k A0_0 c0_0 l0_0 A0_1 c0_1 l0_1 a0_2 a0_3 A0_4 c0_4 l0_4 m0 _ (Kd.C_below hr0_0 HA1.out) hc0_0 (Kd.C_below hr0_1 HA1.out) hc0_1 (Kd.C_below hr0_4 HA1.out) hc0_4 HM.out).mono ?_);rintro e w1 ⟨v1,rfl,hS1,hb1⟩;have HS1:=Aside0.mk hS1;have HB1:=Aside0.mk hb1;clear hS1 hb1;have BK1 : Aside0 (w1.heap[w.heap.size]? = some (.cells #[.slice A0_0 l0_0.length c0_0,.slice A0_1 l0_1.length c0_1,.int .i64 a0_2,.int .i64 a0_3,.slice A0_4 l0_4.length c0_4] 26 (0,0))) := ⟨(HB1.out.block _ (by simp)).trans HA2.out⟩;have BL1 : Aside0 (Below w.heap.size w w1) := ⟨HA1.out.trans (HB1.out.mono (by simp))⟩;have SZ1 : Aside0 (w.heap.size < w1.heap.size) := ⟨by have:=HB1.out.size;simp at this;omega⟩;have HS2 : Aside0 (Kd.S (Kd.slice 4 Kd.bool) 65 w1 w.heap.size (fun k_ => w.heap.size < k_ ∧ k_ < w1.heap.size) v1 m0) := ⟨Kd.S_mono (Kd.S_lower (Kd.S_bound HS1.out) (by simp)) (fun k_ hk => by have:=hk.2.1;have:=hk.2.2.1;simp at *;omega)⟩;clear HS1 HB1 HA1 HA2 HM;have q0 : w1.cell? ⟨w.heap.size,0,none⟩ = some (.slice A0_0 l0_0.length c0_0) := (blk_cell BK1.out 0).trans rfl;have q1 : w1.cell? ⟨w.heap.size,1,none⟩ = some (.slice A0_1 l0_1.length c0_1) := (blk_cell BK1.out 1).trans rfl;have q2 : w1.cell? ⟨w.heap.size,2,none⟩ = some (.int .i64 a0_2) := (blk_cell BK1.out 2).trans rfl;have q3 : w1.cell? ⟨w.heap.size,3,none⟩ = some (.int .i64 a0_3) := (blk_cell BK1.out 3).trans rfl;have q4 : w1.cell? ⟨w.heap.size,4,none⟩ = some (.slice A0_4 l0_4.length c0_4) := (blk_cell BK1.out 4).trans rfl)
 go_wp2_with (go_at_call 28;(with_reducible refine (regletref13_Empty.calls k A0_0 c0_0 l0_0 A0_1 c0_1 l0_1 a0_2 a0_3 A0_4 c0_4 l0_4 em _ (Kd.C_below hr0_0 BL1.out) hc0_0 (Kd.C_below hr0_1 BL1.out) hc0_1 (Kd.C_below hr0_4 BL1.out) hc0_4 HE.out).mono ?_);rintro e w2 ⟨v2,rfl,hR2,hb2⟩;have HR2:=Aside0.mk hR2;have HB2:=Aside0.mk hb2;clear hR2 hb2 q0 q1 q2 q3 q4;have BK2 : Aside0 (w2.heap[w.heap.size]? = some (.cells #[.slice A0_0 l0_0.length c0_0,.slice A0_1 l0_1.length c0_1,.int .i64 a0_2,.int .i64 a0_3,.slice A0_4 l0_4.length c0_4] 26 (0,0))) := ⟨(HB2.out.block _ SZ1.out).trans BK1.out⟩;have BL2 : Aside0 (Below w.heap.size w w2) := ⟨BL1.out.trans (HB2.out.mono (Nat.le_of_lt SZ1.out))⟩;have HS3 : Aside0 (Kd.S (Kd.slice 4 Kd.bool) 65 w2 w.heap.size (fun k_ => w.heap.size < k_ ∧ k_ < w1.heap.size) v1 m0) := ⟨Kd.S_below HS2.out HB2.out⟩;have HR3 : Aside0 (Kd.R Kd.bool 4 w2 w.heap.size (fun k_ => w1.heap.size ≤ k_) v2 em) := ⟨Kd.R_mono (Kd.R_lower (Kd.R_bound HR2.out) (Nat.le_of_lt SZ1.out)) (fun k_ hk => hk.2.1)⟩;have SZ2 : Aside0 (w1.heap.size ≤ w2.heap.size) := ⟨HB2.out.size⟩;clear BK1 BL1 HS2 HR2 HB2 HE)
 obtain ⟨A1,c1,rfl⟩ := Kd.S_slice HS3.out
 obtain ⟨A2,c2,rfl⟩ := Kd.R_slice HR3.out
 go_loopg [5] k (fun kq v5 wr => ∃ (m : List (List Bool)) (more : Bool),v5 = .bool more ∧ Aside0 (m.length = m0.length) ∧ Aside0 (regletref13_first.l0 l0_0 l0_1 a0_2 a0_3 l0_4 kq m em more = some r) ∧ Aside0 (kq ≤ k) ∧ Aside0 (wr.heap[w.heap.size]? = some (.cells #[.slice A0_0 l0_0.length c0_0,.slice A0_1 l0_1.length c0_1,.int .i64 a0_2,.int .i64 a0_3,.slice A0_4 l0_4.length c0_4] 26 (0,0))) ∧ Aside0 (Below w.heap.size w wr) ∧ Aside0 (w1.heap.size ≤ wr.heap.size) ∧ Aside0 (Kd.S (Kd.slice 4 Kd.bool) 65 wr w.heap.size (fun k_ => w.heap.size < k_ ∧ k_ < w1.heap.size) (.slice A1 m0.length c1) m) ∧ Aside0 (Kd.R Kd.bool 4 wr w.heap.size (fun k_ => w1.heap.size ≤ k_) (.slice A2 em.length c2) em))
 case atStart => exact ⟨m0,true,rfl,⟨rfl⟩,HL,⟨Nat.le_refl _⟩,BK2,BL2,SZ2,HS3,HR3⟩
 case round =>
  clear BK2 BL2 SZ2 HS3 HR3 HL
  obtain ⟨m,more,rfl,LN,HA,HK,BK,BL,SZ,HS,HR⟩ := hrel
  cases gk with
  | zero => exact absurd HA.out (by simp [regletref13_first.l0])
  | succ k1 =>
   have H:=HA.out
   clear HA
   simp only [regletref13_first.l0] at H
   cases more with
   | false =>
    obtain rfl:=Option.some.inj (by simpa using H)
    clear H
    go_wp2
    go_ret
    exact ⟨_,rfl,Kd.S_mono HS.out (fun _ _ => trivial),BL.out⟩
   | true =>
    rw [if_pos rfl] at H
    obtain ⟨⟨mr,outr⟩,h1,h2⟩ := Option.bind_eq_some_iff.1 H
    clear H
    have H1:=Aside0.mk h1
    have H2:=Aside0.mk h2
    clear h1 h2
    go_wp2
    obtain ⟨wo,ewo⟩ : ∃ wo : World,wo = wr:=⟨_,rfl⟩
    subst ewo
    go_loopg [5,6] k1 (fun kq v5 v6 wr => ∃ (m : List (List Bool)) (more : Bool) (i : Int),v5 = .bool more ∧ v6 = .int .i64 i ∧ Aside0 (m.length = m0.length) ∧ Aside0 (regletref13_first.l1 l0_0 l0_1 a0_2 a0_3 l0_4 kq m em more i = some (mr,outr)) ∧ Aside0 (kq ≤ k1) ∧ Aside0 (wr.heap[w.heap.size]? = some (.cells #[.slice A0_0 l0_0.length c0_0,.slice A0_1 l0_1.length c0_1,.int .i64 a0_2,.int .i64 a0_3,.slice A0_4 l0_4.length c0_4] 26 (0,0))) ∧ Aside0 (Below w.heap.size w wr) ∧ Aside0 (w1.heap.size ≤ wr.heap.size) ∧ Aside0 (Kd.S (Kd.slice 4 Kd.bool) 65 wr w.heap.size (fun k_ => w.heap.size < k_ ∧ k_ < w1.heap.size) (.slice A1 m0.length c1) m) ∧ Aside0 (Kd.R Kd.bool 4 wr w.heap.size (fun k_ => w1.heap.size ≤ k_) (.slice A2 em.length c2) em))
    case atStart => exact ⟨m,false,0,rfl,rfl,LN,H1,⟨Nat.le_refl _⟩,BK,BL,SZ,HS,HR⟩
    case round =>
     clear H1 LN BK BL SZ HS HR
     obtain ⟨m,more,i,rfl,rfl,LN,HA,HK2,BK,BL,SZ,HS,HR⟩ := hrel
     cases gk with
     | zero => exact absurd HA.out (by simp [regletref13_first.l1])
     | succ k2 =>
      have H:=HA.out
      clear HA
      simp only [regletref13_first.l1] at H
      have q0 : wr.cell? ⟨w.heap.size,0,none⟩ = some (.slice A0_0 l0_0.length c0_0) := (blk_cell BK.out 0).trans rfl
      have q1 : wr.cell? ⟨w.heap.size,1,none⟩ = some (.slice A0_1 l0_1.length c0_1) := (blk_cell BK.out 1).trans rfl
      have q2 : wr.cell? ⟨w.heap.size,2,none⟩ = some (.int .i64 a0_2) := (blk_cell BK.out 2).trans rfl
      have q3 : wr.cell? ⟨w.heap.size,3,none⟩ = some (.int .i64 a0_3) := (blk_cell BK.out 3).trans rfl
      have q4 : wr.cell? ⟨w.heap.size,4,none⟩ = some (.slice A0_4 l0_4.length c0_4) := (blk_cell BK.out 4).trans rfl
      by_cases hi : i < (l0_4.length : Int)
      · rw [if_pos hi] at H
        by_cases hi0 : 0 ≤ i
        rotate_left
        · rw [if_neg hi0] at H;exact absurd H (by simp)
        rw [if_pos hi0] at H
        obtain ⟨⟨bm,be⟩,hbg,H3⟩ := Option.bind_eq_some_iff.1 H
        clear H
        have HG:=Aside0.mk hbg
        clear hbg
        simp only at H3
        by_cases hl0 : 0 ≤ (rd_T30 l0_4 i).f0
        rotate_left
        · rw [if_neg hl0] at H3;exact absurd H3 (by simp)
        rw [if_pos hl0] at H3
        by_cases hl1 : (rd_T30 l0_4 i).f0 < (m.length : Int)
        rotate_left
        · rw [if_neg hl1] at H3;exact absurd H3 (by simp)
        rw [if_pos hl1] at H3
        obtain ⟨⟨jb,jr⟩,hj,H4⟩ := Option.bind_eq_some_iff.1 H3
        clear H3
        simp only at H4
        have HJ:=Aside0.mk hj
        have HN:=Aside0.mk H4
        clear hj H4
        have AT : Aside0 (∀ W : World,Below w.heap.size w W → ∃ ad A1 c1,A0_4 = some ad ∧ W.cell? (ad.add (i.toNat * 2)) = some (.int .i64 (rd_T30 l0_4 i).f0) ∧ W.cell? ⟨(ad.add (i.toNat * 2)).block,(ad.add (i.toNat * 2)).off + 1,none⟩ = some (.slice A1 (rd_T30 l0_4 i).f1.length c1) ∧ (rd_T30 l0_4 i).f1.length ≤ c1 ∧ Kd.C k53 W A1 (rd_T30 l0_4 i).f1.length (rd_T30 l0_4 i).f1) := ⟨fun W hW => at_T30 (Kd.C_below hr0_4 hW) i hi0 hi⟩
        generalize rd_T30 l0_4 i = p at AT HG HJ HN hl0 hl1
        obtain ⟨ad,A3,c3,ead,e0,e1,hle3,hC3⟩ := AT.out wr BL.out
        cases ead
        have d0 : decide (i < (l0_4.length : Int)) = true:=decide_eq_true hi
        have p0:=eq_true hi0
        have p1:=eq_true hi
        have HI:=Aside0.mk (And.intro hi hi0)
        have HLL:=Aside0.mk (And.intro hl0 hl1)
        clear hi hi0 hl0 hl1
        have HC3:=Aside0.mk hC3
        have HLE3:=Aside0.mk hle3
        clear hC3 hle3
        go_wp2
        have SZW : Aside0 (w.heap.size < wr.drew.heap.size) := ⟨Nat.lt_of_lt_of_le SZ1.out SZ.out⟩
        have KEEP : Aside0 (∀ w3 : World,Below wr.drew.heap.size wr.drew w3 → w3.cell? ⟨w.heap.size,0,none⟩ = some (.slice A0_0 l0_0.length c0_0) ∧ w3.cell? ⟨w.heap.size,1,none⟩ = some (.slice A0_1 l0_1.length c0_1) ∧ w3.cell? ⟨w.heap.size,2,none⟩ = some (.int .i64 a0_2) ∧ w3.cell? ⟨w.heap.size,3,none⟩ = some (.int .i64 a0_3) ∧ w3.cell? ⟨w.heap.size,4,none⟩ = some (.slice (some ad) l0_4.length c0_4) ∧ w3.cell? ⟨(ad.add (i.toNat * 2)).block,(ad.add (i.toNat * 2)).off + 1,none⟩ = some (.slice A3 p.f1.length c3)) := ⟨fun w3 h3 => ⟨(h3.cell (p:=⟨w.heap.size,0,none⟩) SZW.out).trans q0,(h3.cell (p:=⟨w.heap.size,1,none⟩) SZW.out).trans q1,(h3.cell (p:=⟨w.heap.size,2,none⟩) SZW.out).trans q2,(h3.cell (p:=⟨w.heap.size,3,none⟩) SZW.out).trans q3,(h3.cell (p:=⟨w.heap.size,4,none⟩) SZW.out).trans q4,(h3.cell (p:=⟨(ad.add (i.toNat * 2)).block,(ad.add (i.toNat * 2)).off + 1,none⟩) (World.block_lt_of_cell? wr _ e1)).trans e1⟩⟩
        have hcon:=regletref13_begins.calls k2 A0_0 c0_0 l0_0 A0_1 c0_1 l0_1 a0_2 a0_3 (some ad) c0_4 l0_4 A3 c3 p.f1 A1 c1 m A2 c2 em bm be wr.drew (Kd.C_below hr0_0 (below_drew1 BL.out)) hc0_0 (Kd.C_below hr0_1 (below_drew1 BL.out)) hc0_1 (Kd.C_below hr0_4 (below_drew1 BL.out)) hc0_4 (Kd.C_below HC3.out (below_drew1 (Below.refl _ _))) HLE3.out (by have:=(Kd.S_reads' (Kd.S_drew HS.out)).2.2;exact this) (by rw [LN.out];exact (Kd.S_reads' HS.out).2.1) (Kd.R_reads' (Kd.R_drew HR.out)).2.2 (Kd.R_reads' HR.out).2.1 HG.out
        rw [LN.out] at hcon
        go_region_held3 (fun w' => w'.cell? ⟨w.heap.size,0,none⟩ = some (.slice A0_0 l0_0.length c0_0) ∧ w'.cell? ⟨w.heap.size,1,none⟩ = some (.slice A0_1 l0_1.length c0_1) ∧ w'.cell? ⟨w.heap.size,2,none⟩ = some (.int .i64 a0_2) ∧ w'.cell? ⟨w.heap.size,3,none⟩ = some (.int .i64 a0_3) ∧ w'.cell? ⟨w.heap.size,4,none⟩ = some (.slice (some ad) l0_4.length c0_4) ∧ w'.cell? ⟨(ad.add (i.toNat * 2)).block,(ad.add (i.toNat * 2)).off + 1,none⟩ = some (.slice A3 p.f1.length c3))
          (first | go_keep | exact KEEP.out _ HB3.out)
          (first | (go_at_call 29;(with_reducible refine hcon.mono ?_);rintro e w3 ⟨v3,rfl,hR5,hb3⟩;have HR5:=Aside0.mk hR5;have HB3:=Aside0.mk hb3;clear hR5 hb3))
        have BK3 : Aside0 (w3.heap[w.heap.size]? = some (.cells #[.slice A0_0 l0_0.length c0_0,.slice A0_1 l0_1.length c0_1,.int .i64 a0_2,.int .i64 a0_3,.slice (some ad) l0_4.length c0_4] 26 (0,0))) := ⟨(HB3.out.block _ SZW.out).trans BK.out⟩
        have BL3 : Aside0 (Below w.heap.size w w3) := ⟨(below_drew1 BL.out).trans (HB3.out.mono (Nat.le_of_lt SZW.out))⟩
        have SZ3 : Aside0 (w1.heap.size ≤ w3.heap.size) := ⟨Nat.le_trans SZ.out HB3.out.size⟩
        have HS6:=Aside0.mk (Kd.S_below (Kd.S_drew HS.out) HB3.out)
        have HR6:=Aside0.mk (Kd.R_below (Kd.R_drew HR.out) HB3.out)
        obtain ⟨A5,c5,rfl⟩ := Kd.R_slice HR5.out
        obtain ⟨g,vr,P,eA,hcell,hRow,hP,hback⟩ := S_row rfl HS6.out p.f0 HLL.out.1 HLL.out.2
        cases eA
        generalize m.getD p.f0.toNat [] = row at hRow HJ
        obtain ⟨A4,c4,rfl⟩ := Kd.R_slice hRow
        obtain ⟨ad',A3',c3',ead,e0',e1',_,_⟩ := AT.out w3 BL3.out
        cases ead
        have hcon2:=regletref13_join.calls k2 P _ _ A5 c5 bm jb jr w w3 BL3.out hRow (fun W_ hk => (Kd.R_reads' (Kd.R_step (Kd.R_bound HR5.out) (fun k_ hk1 hk2 => hk.2 k_ hk2 (fun hk3 => by have:=(hP k_ hk3).1.2;have:=hk1.2.1;have:=SZ.out;simp at *;omega)))).2.2) (Kd.R_reads' HR5.out).2.1 HJ.out
        have HBK:=Aside0.mk hback
        have HP:=Aside0.mk hP
        clear KEEP hback hP hRow HS6 HR5 HB3 hcon e0 e1 q0 q1 q2 q3 q4 BK BL SZ HS HR
        have q4 : w3.cell? ⟨w.heap.size,4,none⟩ = some (.slice (some ad) l0_4.length c0_4) := (blk_cell BK3.out 4).trans rfl
        have p2:=eq_true HLL.out.1
        have p3 : (p.f0 < (m0.length : Int)) = True:=eq_true (by have:=HLL.out.2;rw [LN.out] at this;exact this)
        cases jb
        all_goals
          go_wp2_with (go_at_call 30;(with_reducible refine hcon2.mono ?_);rintro e w4 ⟨rfl,hR7,hb4,hk4⟩;have HR7:=Aside0.mk hR7;have HB4:=Aside0.mk hb4;have HK4:=Aside0.mk hk4;clear hR7 hb4 hk4 hcon2)
          have BK4 : Aside0 (w4.heap[w.heap.size]? = some (.cells #[.slice A0_0 l0_0.length c0_0,.slice A0_1 l0_1.length c0_1,.int .i64 a0_2,.int .i64 a0_3,.slice (some ad) l0_4.length c0_4] 26 (0,0))) := ⟨(HK4.out.2 _ (Nat.lt_of_lt_of_le SZ1.out SZ3.out) (fun hk => by have:=(HP.out _ hk).1.1;omega)).trans BK3.out⟩
          have SZ4 : Aside0 (w1.heap.size ≤ w4.heap.size) := ⟨Nat.le_trans SZ3.out HK4.out.1⟩
          have HS7:=Aside0.mk (HBK.out w4 _ jr HK4.out HR7.out)
          have HR8 : Aside0 (Kd.R Kd.bool 4 w4 w.heap.size (fun k_ => w1.heap.size ≤ k_) (.slice A2 em.length c2) em) := ⟨Kd.R_step HR6.out (fun k_ hk hlt => HK4.out.2 k_ hlt (fun hk3 => by have:=(HP.out _ hk3).1.2;omega))⟩
          clear HBK HP HR7 HK4 HR6 HJ BK3 BL3 SZ3
          go_roundg k2
          case measure => omega
          case rel => exact ⟨m.set p.f0.toNat jr,_,_,rfl,rfl,⟨by rw [List.length_set];exact LN.out⟩,HN,⟨by have:=HK2.out;omega⟩,BK4,HB4,SZ4,HS7,HR8⟩
      · rw [if_neg hi] at H
        have he:=Option.some.inj H
        injection he with e1 e2
        subst e1
        subst e2
        clear H
        have d0 : decide (i < (l0_4.length : Int)) = false:=decide_eq_false hi
        clear hi
        go_wp2
        go_roundg k1
        case measure => omega
        case rel => exact ⟨m,more,rfl,LN,H2,⟨by have:=HK.out;omega⟩,BK,BL,SZ,HS,HR⟩
end Go.Proofs.Ytfdcfihcfegekaa.P
end

section
namespace Go.Proofs.Ytfdcfihcfegekaa.P
open Go.RowKit Go.Proofs.YtfdcfihcfegekaaW.PrintWords Go.Proofs.YtfdcfihcfegekaaW.PrintLast Go.Proofs.YtfdcfihcfegekaaW.PrintMore
attribute [local go_sem] max2_int min2_int max_two min_two max_three min_three max_four min_four   -- for this text's walks alone
set_option linter.unusedVariables false
set_option linter.unusedSimpArgs false
attribute [local go_sem high] eqA50
def regletref13_list.l0 : Nat → List Bool → List Int → Int → Option (List Int)
  | 0,_,_,_ => none
  | k + 1,x0,x3,x4 => if x4 < (x0.length : Int) then (if 0 ≤ x4 then (if rdOf false x0 x4 = true then (if x3.length < 17592186044416 then (regletref13_list.l0 k x0 (x3 ++ [x4]) (wrap64 (x4 + 1))) else (none)) else (regletref13_list.l0 k x0 x3 (wrap64 (x4 + 1)))) else (none)) else (some x3)
def regletref13_list.f (k : Nat) (l0 : List Bool) : Option (List Int) := regletref13_list.l0 k l0 ([] : List Int) 0
set_option maxHeartbeats 8000000 in
set_option maxRecDepth 100000 in
theorem regletref13_list.calls (k : Nat) (A0 : Option Addr) (c0 : Nat) (l0 : List Bool) (r : List Int) (w : World) (hr0 : Kd.C Kd.bool w A0 l0.length l0) (hc0 : l0.length ≤ c0) (h : regletref13_list.f k l0 = some r) :
    Calls Try.prog 32 #[.slice A0 l0.length c0] w fun e w' => ∃ v0_ : Value,e = .returned (v0_) ∧ Kd.R (Kd.int .i64) 3 w' w.heap.size (fun _ => True) v0_ r ∧ Below w.heap.size w w' := by
 have HR0:=Aside0.mk hr0
 have HC0:=Aside0.mk hc0
 clear hr0 hc0
 have HB:=Aside0.mk (Below.refl w.heap.size w)
 have H : (regletref13_list.l0 k l0 ([] : List Int) 0) = some r:=h
 clear h
 have H' := Aside0.mk H
 clear H
 go_enter Try.func32,Try.ntmps32
 go_wp2
 go_loopg [3,4] k (fun kq v3 v4 w' => ∃ (x3_1 : List Int) (x4_1 : Int),v4 = .int .i64 x4_1 ∧ Aside0 (regletref13_list.l0 kq l0 x3_1 x4_1 = some r) ∧ Aside0 (kq ≤ k) ∧ Aside0 (Kd.R (Kd.int .i64) 3 w' w.heap.size (fun _ => True) v3 x3_1) ∧ Aside0 (Below w.heap.size w w'))
 case atStart => exact ⟨(([] : List Int)),(0),(by first | rfl | (simp;done) | (simp [*];done)),H',⟨Nat.le_refl _⟩,⟨by first | exact Kd.R_nil _ _ _ _ _ | exact Kd.N_nil _ _ _ _ _ | exact Kd.V_nil _ _ _ _ _ | exact Kd.Q_nil _ _ _ _ _ | exact Kd.S_nil _ _ _ _ _⟩,⟨by repeat (first | (with_reducible first | exact HB.out | apply below_alloc | apply pw_below_drewN | apply below_drew1) | exact HB.out)⟩⟩
 case round =>
  clear H'
  obtain ⟨x3_1,x4_1,rfl,HA,HK1,HO_3,HB⟩ := hrel
  cases gk with
  | zero => exact absurd HA.out (by simp [regletref13_list.l0])
  | succ k1 =>
   have H:=HA.out
   clear HA
   simp only [regletref13_list.l0] at H
   by_cases c2 : x4_1 < (l0.length : Int)
   · rw [if_pos c2] at H
     have c2b0 : decide (x4_1 < (l0.length : Int)) = true:=decide_eq_true c2
     clear c2
     by_cases c3 : 0 ≤ x4_1
     rotate_left
     · rw [if_neg c3] at H
       exact absurd H (by simp)
     rw [if_pos c3] at H
     have c3b0 : decide (0 ≤ x4_1) = true:=decide_eq_true c3
     clear c3
     obtain ⟨bq4,hbq4⟩ : ∃ b_ : Bool,b_ = (rdOf false l0 x4_1) := ⟨_,rfl⟩
     replace H : (if bq4 = true then (if x3_1.length < 17592186044416 then (regletref13_list.l0 k1 l0 (x3_1 ++ [x4_1]) (wrap64 (x4_1 + 1))) else (none)) else (regletref13_list.l0 k1 l0 x3_1 (wrap64 (x4_1 + 1)))) = some r:=by rw [← hbq4] at H;exact H
     have Nbq4:=Aside0.mk hbq4
     clear hbq4
     by_cases c5 : bq4 = true
     · subst c5
       have H1 : (if x3_1.length < 17592186044416 then (regletref13_list.l0 k1 l0 (x3_1 ++ [x4_1]) (wrap64 (x4_1 + 1))) else (none)) = some r:=by rw [if_pos rfl] at H;exact H
       clear H
       have H:=H1
       clear H1
       by_cases c6 : x3_1.length < 17592186044416
       rotate_left
       · rw [if_neg c6] at H
         exact absurd H (by simp)
       rw [if_pos c6] at H
       have LMc6:=Aside0.mk c6
       clear c6
       obtain ⟨y281,hy281⟩ : ∃ y_ : List Int,y_ = (x3_1 ++ [x4_1]) := ⟨_,rfl⟩
       replace H : (regletref13_list.l0 k1 l0 y281 (wrap64 (x4_1 + 1))) = some r:=by first | (rw [hy281];with_reducible exact H) | (have H2_:=(Option.bind_some _ _).symm.trans H;rw [hy281];with_reducible exact H2_) | (have H2_:=(Option.bind_some _ _).symm.trans H;with_reducible exact H2_) | with_reducible exact H | (rw [hy281];exact H) | exact H
       have Ny281:=Aside0.mk hy281
       clear hy281
       have H' := Aside0.mk H
       clear H
       have p280 : 0 ≤ (x4_1 : Int) := of_decide_eq_true (by first | (with_reducible assumption) | assumption)
       have q280 : x4_1 < (l0.length : Int) := of_decide_eq_true (by first | (with_reducible assumption) | assumption)
       obtain ⟨ad280,e280,hx280_0⟩ := Kd.at_bool HR0.out x4_1 p280 q280
       (try rw [← Nbq4.out] at hx280_0)
       cases e280
       replace hx280_0:=(HB.out.cell (World.block_lt_of_cell? w _ hx280_0)).trans hx280_0
       replace p280:=eq_true p280
       replace q280:=eq_true q280
       go_wp2_with (first | ((with_reducible refine gate_builtin (b := .append) (xs:=#[.tmp 15,.tmp 17]) rfl ?_);at_builtin;refine Kd.R_append (Kd.int .i64) (w0:=w) w.heap.size rfl (.tmp 15) (.tmp 17) 43 3 (.int .i64 0) 8 rfl Try.underlying43 info3 rfl (by decide) (by omega) u3 x3_1 x4_1 [.int .i64 x4_1] (fun _ => True) (fun _ => False) rfl rfl ?aP (fun _ hk => hk.elim) ?aF ?aO ?aB ?aS ?aL ?_;(case aP => exact rfl);(case aB => exact (by repeat (first | (with_reducible first | exact HB.out | apply below_alloc | apply pw_below_drewN | apply below_drew1) | exact HB.out)));(case aF => exact (fun _ _ => trivial));(case aO => exact (by (with_reducible repeat (first | apply Kd.R_alloc | apply Kd.R_drewN | apply Kd.R_drew));exact HO_3.out));(case aS => exact (below_size (by repeat (first | (with_reducible first | exact HB.out | apply below_alloc | apply pw_below_drewN | apply below_drew1) | exact HB.out))));(case aL => have:=LMc6.out;omega);intro v282 w7 ho hb hg hat;rw [← Ny281.out] at ho;have n0_:=Aside0.mk (hb);have n1_:=Aside0.mk (ho);clear HB;clear HO_3;have HB:=n0_;have HO283:=n1_;clear n0_ n1_;clear ho hb hg hat))
       go_roundg k1
       case measure => have:=HK1.out;omega
       case rel => exact ⟨(y281),(wrap64 (x4_1 + 1)),(by first | rfl | (simp;done) | (simp [*];done)),H',⟨by have:=HK1.out;omega⟩,⟨by (with_reducible repeat (first | apply Kd.R_alloc | apply Kd.R_drewN | apply Kd.R_drew));exact HO283.out⟩,⟨by repeat (first | (with_reducible first | exact HB.out | apply below_alloc | apply pw_below_drewN | apply below_drew1) | exact HB.out)⟩⟩
     · replace c5:=Bool.eq_false_iff.mpr c5
       subst c5
       have H1 : (regletref13_list.l0 k1 l0 x3_1 (wrap64 (x4_1 + 1))) = some r:=by rw [if_neg (show ¬ (false = true) by decide)] at H;exact H
       clear H
       have H:=H1
       clear H1
       have H' := Aside0.mk H
       clear H
       have p280 : 0 ≤ (x4_1 : Int) := of_decide_eq_true (by first | (with_reducible assumption) | assumption)
       have q280 : x4_1 < (l0.length : Int) := of_decide_eq_true (by first | (with_reducible assumption) | assumption)
       obtain ⟨ad280,e280,hx280_0⟩ := Kd.at_bool HR0.out x4_1 p280 q280
       (try rw [← Nbq4.out] at hx280_0)
       cases e280
       replace hx280_0:=(HB.out.cell (World.block_lt_of_cell? w _ hx280_0)).trans hx280_0
       replace p280:=eq_true p280
       replace q280:=eq_true q280
       go_wp2
       go_roundg k1
       case measure => have:=HK1.out;omega
       case rel => exact ⟨(x3_1),(wrap64 (x4_1 + 1)),(by first | rfl | (simp;done) | (simp [*];done)),H',⟨by have:=HK1.out;omega⟩,⟨by (with_reducible repeat (first | apply Kd.R_alloc | apply Kd.R_drewN | apply Kd.R_drew));exact HO_3.out⟩,⟨by repeat (first | (with_reducible first | exact HB.out | apply below_alloc | apply pw_below_drewN | apply below_drew1) | exact HB.out)⟩⟩
   · rw [if_neg c2] at H
     have c2b0 : decide (x4_1 < (l0.length : Int)) = false:=decide_eq_false c2
     clear c2
     obtain rfl:=Option.some.inj H
     go_wp2
     go_ret
     exact ⟨_,by first | rfl | (simp [errW_none,errW_some] <;> rfl) | (simp [*,errW_none,errW_some] <;> rfl),by (with_reducible repeat (first | apply Kd.R_alloc | apply Kd.R_drewN | apply Kd.R_drew));exact HO_3.out,by repeat (first | (with_reducible first | exact HB.out | apply below_alloc | apply pw_below_drewN | apply below_drew1) | exact HB.out)⟩
def regletref13_lists.l0 : Nat → List (List Bool) → List (List Int) → Int → Option ((List (List Int)))
  | 0,_,_,_ => none
  | k + 1,x0,x3,x4 => if x4 < (x0.length : Int) then (if 0 ≤ x4 then ((regletref13_list.f k (rd_L13 x0 x4)).bind fun t285 => (if x3.length < 5864062014805 then (regletref13_lists.l0 k x0 (x3 ++ [t285]) (wrap64 (x4 + 1))) else (none))) else (none)) else (some x3)
def regletref13_lists.f (k : Nat) (l0 : List (List Bool)) : Option ((List (List Int))) := regletref13_lists.l0 k l0 ([] : List (List Int)) 0
set_option maxHeartbeats 8000000 in
set_option maxRecDepth 100000 in
theorem regletref13_lists.calls (k : Nat) (A0 : Option Addr) (c0 : Nat) (l0 : List (List Bool)) (r : List (List Int)) (w : World) (hr0 : Kd.C (Kd.slice 4 Kd.bool) w A0 l0.length l0) (hc0 : l0.length ≤ c0) (h : regletref13_lists.f k l0 = some r) :
    Calls Try.prog 31 #[.slice A0 l0.length c0] w fun e w' => ∃ v0_ : Value,e = .returned (v0_) ∧ Kd.S (Kd.slice 3 (Kd.int .i64)) 43 w' w.heap.size (fun _ => True) v0_ r ∧ Below w.heap.size w w' := by
 have HR0:=Aside0.mk hr0
 have HC0:=Aside0.mk hc0
 clear hr0 hc0
 have HB:=Aside0.mk (Below.refl w.heap.size w)
 have H : (regletref13_lists.l0 k l0 ([] : List (List Int)) 0) = some r:=h
 clear h
 have H' := Aside0.mk H
 clear H
 go_enter Try.func31,Try.ntmps31
 go_wp2
 go_loopg [3,4] k (fun kq v3 v4 w' => ∃ (x3_1 : List (List Int)) (x4_1 : Int),v4 = .int .i64 x4_1 ∧ Aside0 (regletref13_lists.l0 kq l0 x3_1 x4_1 = some r) ∧ Aside0 (kq ≤ k) ∧ Aside0 (Kd.S (Kd.slice 3 (Kd.int .i64)) 43 w' w.heap.size (fun _ => True) v3 x3_1) ∧ Aside0 (Below w.heap.size w w'))
 case atStart => exact ⟨(([] : List (List Int))),(0),(by first | rfl | (simp;done) | (simp [*];done)),H',⟨Nat.le_refl _⟩,⟨by first | exact Kd.S_nil _ _ _ _ _ | exact Kd.N_nil _ _ _ _ _ | exact Kd.V_nil _ _ _ _ _ | exact Kd.Q_nil _ _ _ _ _ | exact Kd.R_nil _ _ _ _ _⟩,⟨by repeat (first | (with_reducible first | exact HB.out | apply below_alloc | apply pw_below_drewN | apply below_drew1) | exact HB.out)⟩⟩
 case round =>
  clear H'
  obtain ⟨x3_1,x4_1,rfl,HA,HK1,HO_3,HB⟩ := hrel
  cases gk with
  | zero => exact absurd HA.out (by simp [regletref13_lists.l0])
  | succ k1 =>
   have H:=HA.out
   clear HA
   simp only [regletref13_lists.l0] at H
   by_cases c2 : x4_1 < (l0.length : Int)
   · rw [if_pos c2] at H
     have c2b0 : decide (x4_1 < (l0.length : Int)) = true:=decide_eq_true c2
     clear c2
     by_cases c3 : 0 ≤ x4_1
     rotate_left
     · rw [if_neg c3] at H
       exact absurd H (by simp)
     rw [if_pos c3] at H
     have c3b0 : decide (0 ≤ x4_1) = true:=decide_eq_true c3
     clear c3
     replace H:=Option.bind_eq_some_iff.mp H
     obtain ⟨t285,A40,H⟩ := H
     replace H : (if x3_1.length < 5864062014805 then (regletref13_lists.l0 k1 l0 (x3_1 ++ [t285]) (wrap64 (x4_1 + 1))) else (none)) = some r:=H
     have A4:=Aside0.mk A40
     clear A40
     by_cases c5 : x3_1.length < 5864062014805
     rotate_left
     · rw [if_neg c5] at H
       exact absurd H (by simp)
     rw [if_pos c5] at H
     have LMc5:=Aside0.mk c5
     clear c5
     obtain ⟨y288,hy288⟩ : ∃ y_ : List (List Int),y_ = (x3_1 ++ [t285]) := ⟨_,rfl⟩
     replace H : (regletref13_lists.l0 k1 l0 y288 (wrap64 (x4_1 + 1))) = some r:=by first | (rw [hy288];with_reducible exact H) | (have H2_:=(Option.bind_some _ _).symm.trans H;rw [hy288];with_reducible exact H2_) | (have H2_:=(Option.bind_some _ _).symm.trans H;with_reducible exact H2_) | with_reducible exact H | (rw [hy288];exact H) | exact H
     have Ny288:=Aside0.mk hy288
     clear hy288
     have H' := Aside0.mk H
     clear H
     have p284 : 0 ≤ (x4_1 : Int) := of_decide_eq_true (by first | (with_reducible assumption) | assumption)
     have q284 : x4_1 < (l0.length : Int) := of_decide_eq_true (by first | (with_reducible assumption) | assumption)
     obtain ⟨ad284,A284_0,c284_0,e284,hx284_0,hl284_0,hi284_0⟩ := at_L13 HR0.out x4_1 p284 q284
     cases e284
     replace hx284_0:=(HB.out.cell (World.block_lt_of_cell? w _ hx284_0)).trans hx284_0
     have HR284_0:=Aside0.mk hi284_0
     have HC284_0:=Aside0.mk hl284_0
     clear hi284_0 hl284_0
     replace p284:=eq_true p284
     replace q284:=eq_true q284
     go_wp2_with (first | ((with_reducible refine gate_callee (f:=32) rfl ?_);refine goesL_ (some 16) rfl rfl Try.func32 (by kernel_rfl) rfl #[.slice A284_0 (rd_L13 l0 x4_1).length c284_0] rfl (by (try simp only [List.map_toArray,List.map_cons,List.map_nil]);first | done | rfl | (simp only [List.length_drop,List.length_take];rfl)) ?_;(with_reducible refine (regletref13_list.calls k1 _ _ (rd_L13 l0 x4_1) t285 _ ?side1 ?side2 A4.out).mono ?_);(case side1 => repeat (first | exact (Kd.C_below HR284_0.out HB.out) | (with_reducible refine Kd.C_alloc ?_ _) | (with_reducible refine Kd.C_drewN ?_ _) | (with_reducible refine Kd.C_drew ?_)));(case side2 => exact HC284_0.out);rintro e w6 ⟨v286,rfl,ho0,hb⟩;refine ⟨_,rfl,?_⟩;have n0_:=Aside0.mk (Kd.S_elder' (by (with_reducible repeat (first | apply Kd.S_alloc | apply Kd.S_drewN | apply Kd.S_drew));exact HO_3.out) (Kd.R_base ho0) hb);have n1_:=Aside0.mk (Kd.R_lower ho0 (below_size (by repeat (first | (with_reducible first | exact HB.out | apply below_alloc | apply pw_below_drewN | apply below_drew1) | exact HB.out))));have n2_:=Aside0.mk (below_step (by repeat (first | (with_reducible first | exact HB.out | apply below_alloc | apply pw_below_drewN | apply below_drew1) | exact HB.out)) hb);clear HO_3;clear HB;have HO_3:=n0_;have HO287:=n1_;have HB:=n2_;clear n0_ n1_ n2_;(try clear hb);(try clear hb2);(try clear hk);(try clear hi);(try clear ho0);obtain ⟨Ao8,co8,eo8⟩ := Kd.R_slice HO287.out;subst eo8) | ((with_reducible refine gate_builtin (b := .append) (xs:=#[.tmp 11,.tmp 17]) rfl ?_);at_builtin;refine Kd.S_append (Kd.slice 3 (Kd.int .i64)) (w0:=w) w.heap.size rfl (.tmp 11) (.tmp 17) 35 43 (.slice none 0 0) 24 rfl Try.underlying35 info43 rfl (by decide) (by omega) u3 x3_1 t285 [.slice Ao8 t285.length co8] (fun _ => True) (fun k_ => some k_ = (.slice Ao8 t285.length co8 : Value).ownBlock) rfl rfl ?aP (fun k_ hk_ => ((Kd.R_mono (ok' := fun k_ => ((fun _ => True)) k_ ∧ some k_ ≠ (u3 : Value).ownBlock) (Kd.R_apart' (HO287.out) (Kd.S_typed HO_3.out) (by decide)) (fun k_ hk => ⟨trivial,hk.2⟩))).1 k_ hk_.symm) ?aF ?aO ?aB ?aS ?aL ?_;(case aP => exact Kd.M_row (Kd.R_mono (Kd.R_tight rfl (Kd.R_mono (ok' := fun k_ => ((fun _ => True)) k_ ∧ some k_ ≠ (u3 : Value).ownBlock) (Kd.R_apart' (HO287.out) (Kd.S_typed HO_3.out) (by decide)) (fun k_ hk => ⟨trivial,hk.2⟩))) (fun _ h_ => h_)));(case aB => exact (by repeat (first | (with_reducible first | exact HB.out | apply below_alloc | apply pw_below_drewN | apply below_drew1) | exact HB.out)));(case aF => exact (fun _ _ => trivial));(case aO => exact (by (with_reducible repeat (first | apply Kd.S_alloc | apply Kd.S_drewN | apply Kd.S_drew));exact Kd.S_mono HO_3.out (fun k_ hk => ⟨trivial,fun e_ => hk.2 e_⟩)));(case aS => exact (below_size (by repeat (first | (with_reducible first | exact HB.out | apply below_alloc | apply pw_below_drewN | apply below_drew1) | exact HB.out))));(case aL => have:=LMc5.out;omega);intro v289 w7 ho hb hg hat;rw [← Ny288.out] at ho;have n0_:=Aside0.mk (hb);have n1_:=Aside0.mk (ho);clear HB;clear HO_3;clear HO287;have HB:=n0_;have HO290:=n1_;clear n0_ n1_;clear ho hb hg hat))
     go_roundg k1
     case measure => have:=HK1.out;omega
     case rel => exact ⟨(y288),(wrap64 (x4_1 + 1)),(by first | rfl | (simp;done) | (simp [*];done)),H',⟨by have:=HK1.out;omega⟩,⟨by (with_reducible repeat (first | apply Kd.S_alloc | apply Kd.S_drewN | apply Kd.S_drew));exact HO290.out⟩,⟨by repeat (first | (with_reducible first | exact HB.out | apply below_alloc | apply pw_below_drewN | apply below_drew1) | exact HB.out)⟩⟩
   · rw [if_neg c2] at H
     have c2b0 : decide (x4_1 < (l0.length : Int)) = false:=decide_eq_false c2
     clear c2
     obtain rfl:=Option.some.inj H
     go_wp2
     go_ret
     exact ⟨_,by first | rfl | (simp [errW_none,errW_some] <;> rfl) | (simp [*,errW_none,errW_some] <;> rfl),by (with_reducible repeat (first | apply Kd.S_alloc | apply Kd.S_drewN | apply Kd.S_drew));exact HO_3.out,by repeat (first | (with_reducible first | exact HB.out | apply below_alloc | apply pw_below_drewN | apply below_drew1) | exact HB.out)⟩
end Go.Proofs.Ytfdcfihcfegekaa.P
end

section
namespace Go.Proofs.Ytfdcfihcfegekaa.P
open Go.RowKit Go.Proofs.YtfdcfihcfegekaaW.PrintWords Go.Proofs.YtfdcfihcfegekaaW.PrintLast Go.Proofs.YtfdcfihcfegekaaW.PrintMore Go.Proofs.Ytfdcfihcfegekaa.R
set_option linter.unusedVariables false
set_option linter.unusedSimpArgs false
def regletref13_Of.f (k : Nat) (l0_0 : List ByteArray) (l0_1 : List (S61)) (a0_2 : Int) (a0_3 : Int) (l0_4 : List (S30)) (l1 : List (S53)) : Option (List Int × Bool) :=
  (regletref13_Right.f k l0_0 l0_1 a0_2 a0_3 l0_4).bind fun r => if r = true then if (l0_0.length : Int) = 0 then some ([],false) else (regletref13_Right.f k l0_0 l0_1 a0_2 a0_3 [⟨0,l1⟩]).bind fun r2 => if r2 = true then (regletref13_first.f k l0_0 l0_1 a0_2 a0_3 l0_4).bind fun f => (regletref13_Empty.f k l0_0 l0_1 a0_2 a0_3 l0_4).bind fun e => (regletref13_begins.f k l0_0 l0_1 a0_2 a0_3 l0_4 l1 f e).bind fun y => (regletref13_list.f k y.1).bind fun z => some (z,y.2) else some ([],false) else some ([],false)
set_option maxHeartbeats 4000000 in
theorem regletref13_Of.calls (k : Nat) (A0_0 : Option Addr) (c0_0 : Nat) (l0_0 : List ByteArray) (A0_1 : Option Addr) (c0_1 : Nat) (l0_1 : List (S61)) (a0_2 : Int) (a0_3 : Int) (A0_4 : Option Addr) (c0_4 : Nat) (l0_4 : List (S30)) (A1 : Option Addr) (c1 : Nat) (l1 : List (S53)) (r1 : List Int) (r2 : Bool) (w : World) (hr0_0 : Kd.C Kd.string w A0_0 l0_0.length l0_0) (hc0_0 : l0_0.length ≤ c0_0) (hr0_1 : Kd.C k61 w A0_1 l0_1.length l0_1) (hc0_1 : l0_1.length ≤ c0_1) (hr0_4 : Kd.C k30 w A0_4 l0_4.length l0_4) (hc0_4 : l0_4.length ≤ c0_4) (hr1 : Kd.C k53 w A1 l1.length l1) (hc1 : l1.length ≤ c1) (h : regletref13_Of.f k l0_0 l0_1 a0_2 a0_3 l0_4 l1 = some (r1,r2)) :
    Calls Try.prog 17 #[.agg #[.slice A0_0 l0_0.length c0_0,.slice A0_1 l0_1.length c0_1,.int .i64 a0_2,.int .i64 a0_3,.slice A0_4 l0_4.length c0_4],.slice A1 l1.length c1] w fun e w' => ∃ v0_ : Value,e = .returned (.tuple #[v0_,.bool r2]) ∧ Kd.R (Kd.int .i64) 3 w' w.heap.size (fun _ => True) v0_ r1 ∧ Below w.heap.size w w' := by
 obtain ⟨rt,hrt,h2⟩ := Option.bind_eq_some_iff.1 h
 have HRT:=Aside0.mk hrt
 clear h hrt
 have H0 : Aside0 (((((w.alloc (.cells #[.slice A0_0 l0_0.length c0_0,.slice A0_1 l0_1.length c0_1,.int .i64 a0_2,.int .i64 a0_3,.slice A0_4 l0_4.length c0_4] 26)).alloc (.cells #[.int .i64 0,.slice A1 l1.length c1] 30)).alloc (.cells #[.slice A0_0 l0_0.length c0_0,.slice A0_1 l0_1.length c0_1,.int .i64 a0_2,.int .i64 a0_3,.slice (some ⟨w.heap.size + 1 + 1 + 1,0,none⟩) 1 1] 26)).alloc (.cells #[.int .i64 0,.slice A1 l1.length c1] 30)).heap[w.heap.size]? = some (.cells #[.slice A0_0 l0_0.length c0_0,.slice A0_1 l0_1.length c0_1,.int .i64 a0_2,.int .i64 a0_3,.slice A0_4 l0_4.length c0_4] 26 (0,0))) := ⟨blk_alloc (blk_alloc (blk_alloc (heap_alloc_new w _) _) _) _⟩
 have H1 : Aside0 (((((w.alloc (.cells #[.slice A0_0 l0_0.length c0_0,.slice A0_1 l0_1.length c0_1,.int .i64 a0_2,.int .i64 a0_3,.slice A0_4 l0_4.length c0_4] 26)).alloc (.cells #[.int .i64 0,.slice A1 l1.length c1] 30)).alloc (.cells #[.slice A0_0 l0_0.length c0_0,.slice A0_1 l0_1.length c0_1,.int .i64 a0_2,.int .i64 a0_3,.slice (some ⟨w.heap.size + 1 + 1 + 1,0,none⟩) 1 1] 26)).alloc (.cells #[.int .i64 0,.slice A1 l1.length c1] 30)).heap[w.heap.size + 1 + 1]? = some (.cells #[.slice A0_0 l0_0.length c0_0,.slice A0_1 l0_1.length c0_1,.int .i64 a0_2,.int .i64 a0_3,.slice (some ⟨w.heap.size + 1 + 1 + 1,0,none⟩) 1 1] 26 (0,0))) := ⟨blk_alloc (by have h:=heap_alloc_new ((w.alloc (.cells #[.slice A0_0 l0_0.length c0_0,.slice A0_1 l0_1.length c0_1,.int .i64 a0_2,.int .i64 a0_3,.slice A0_4 l0_4.length c0_4] 26)).alloc (.cells #[.int .i64 0,.slice A1 l1.length c1] 30)) (.cells #[.slice A0_0 l0_0.length c0_0,.slice A0_1 l0_1.length c0_1,.int .i64 a0_2,.int .i64 a0_3,.slice (some ⟨w.heap.size + 1 + 1 + 1,0,none⟩) 1 1] 26);simp only [World.size_alloc] at h;exact h) _⟩
 have HC : Aside0 (∀ W,Below (w.heap.size + 4) ((((w.alloc (.cells #[.slice A0_0 l0_0.length c0_0,.slice A0_1 l0_1.length c0_1,.int .i64 a0_2,.int .i64 a0_3,.slice A0_4 l0_4.length c0_4] 26)).alloc (.cells #[.int .i64 0,.slice A1 l1.length c1] 30)).alloc (.cells #[.slice A0_0 l0_0.length c0_0,.slice A0_1 l0_1.length c0_1,.int .i64 a0_2,.int .i64 a0_3,.slice (some ⟨w.heap.size + 1 + 1 + 1,0,none⟩) 1 1] 26)).alloc (.cells #[.int .i64 0,.slice A1 l1.length c1] 30)) W → W.cell? ⟨w.heap.size,0,none⟩ = some (.slice A0_0 l0_0.length c0_0) ∧ W.cell? ⟨w.heap.size,1,none⟩ = some (.slice A0_1 l0_1.length c0_1) ∧ W.cell? ⟨w.heap.size,2,none⟩ = some (.int .i64 a0_2) ∧ W.cell? ⟨w.heap.size,3,none⟩ = some (.int .i64 a0_3) ∧ W.cell? ⟨w.heap.size,4,none⟩ = some (.slice A0_4 l0_4.length c0_4)) := ⟨fun W hW => ⟨(blk_cell ((hW.block _ (by omega)).trans H0.out) 0).trans rfl,(blk_cell ((hW.block _ (by omega)).trans H0.out) 1).trans rfl,(blk_cell ((hW.block _ (by omega)).trans H0.out) 2).trans rfl,(blk_cell ((hW.block _ (by omega)).trans H0.out) 3).trans rfl,(blk_cell ((hW.block _ (by omega)).trans H0.out) 4).trans rfl⟩⟩
 have HD : Aside0 (∀ W,Below (w.heap.size + 4) ((((w.alloc (.cells #[.slice A0_0 l0_0.length c0_0,.slice A0_1 l0_1.length c0_1,.int .i64 a0_2,.int .i64 a0_3,.slice A0_4 l0_4.length c0_4] 26)).alloc (.cells #[.int .i64 0,.slice A1 l1.length c1] 30)).alloc (.cells #[.slice A0_0 l0_0.length c0_0,.slice A0_1 l0_1.length c0_1,.int .i64 a0_2,.int .i64 a0_3,.slice (some ⟨w.heap.size + 1 + 1 + 1,0,none⟩) 1 1] 26)).alloc (.cells #[.int .i64 0,.slice A1 l1.length c1] 30)) W → W.cell? ⟨w.heap.size + 1 + 1,0,none⟩ = some (.slice A0_0 l0_0.length c0_0) ∧ W.cell? ⟨w.heap.size + 1 + 1,1,none⟩ = some (.slice A0_1 l0_1.length c0_1) ∧ W.cell? ⟨w.heap.size + 1 + 1,2,none⟩ = some (.int .i64 a0_2) ∧ W.cell? ⟨w.heap.size + 1 + 1,3,none⟩ = some (.int .i64 a0_3) ∧ W.cell? ⟨w.heap.size + 1 + 1,4,none⟩ = some (.slice (some ⟨w.heap.size + 1 + 1 + 1,0,none⟩) 1 1)) := ⟨fun W hW => ⟨(blk_cell ((hW.block _ (by omega)).trans H1.out) 0).trans rfl,(blk_cell ((hW.block _ (by omega)).trans H1.out) 1).trans rfl,(blk_cell ((hW.block _ (by omega)).trans H1.out) 2).trans rfl,(blk_cell ((hW.block _ (by omega)).trans H1.out) 3).trans rfl,(blk_cell ((hW.block _ (by omega)).trans H1.out) 4).trans rfl⟩⟩
 have HA4 : Aside0 (Below w.heap.size w ((((w.alloc (.cells #[.slice A0_0 l0_0.length c0_0,.slice A0_1 l0_1.length c0_1,.int .i64 a0_2,.int .i64 a0_3,.slice A0_4 l0_4.length c0_4] 26)).alloc (.cells #[.int .i64 0,.slice A1 l1.length c1] 30)).alloc (.cells #[.slice A0_0 l0_0.length c0_0,.slice A0_1 l0_1.length c0_1,.int .i64 a0_2,.int .i64 a0_3,.slice (some ⟨w.heap.size + 1 + 1 + 1,0,none⟩) 1 1] 26)).alloc (.cells #[.int .i64 0,.slice A1 l1.length c1] 30))) := ⟨below_alloc (below_alloc (below_alloc (below_alloc (Below.refl _ w) _) _) _) _⟩
 have HT : Aside0 (∀ W,Below (w.heap.size + 4) ((((w.alloc (.cells #[.slice A0_0 l0_0.length c0_0,.slice A0_1 l0_1.length c0_1,.int .i64 a0_2,.int .i64 a0_3,.slice A0_4 l0_4.length c0_4] 26)).alloc (.cells #[.int .i64 0,.slice A1 l1.length c1] 30)).alloc (.cells #[.slice A0_0 l0_0.length c0_0,.slice A0_1 l0_1.length c0_1,.int .i64 a0_2,.int .i64 a0_3,.slice (some ⟨w.heap.size + 1 + 1 + 1,0,none⟩) 1 1] 26)).alloc (.cells #[.int .i64 0,.slice A1 l1.length c1] 30)) W → Kd.C k30 W (some ⟨w.heap.size + 1 + 1 + 1,0,none⟩) [(⟨0,l1⟩ : S30)].length [(⟨0,l1⟩ : S30)]) := ⟨fun W hW => by
  have hb : W.heap[w.heap.size + 1 + 1 + 1]? = some (.cells #[.int .i64 0,.slice A1 l1.length c1] 30 (0,0)) := by
   have h4:=heap_alloc_new (((w.alloc (.cells #[.slice A0_0 l0_0.length c0_0,.slice A0_1 l0_1.length c0_1,.int .i64 a0_2,.int .i64 a0_3,.slice A0_4 l0_4.length c0_4] 26)).alloc (.cells #[.int .i64 0,.slice A1 l1.length c1] 30)).alloc (.cells #[.slice A0_0 l0_0.length c0_0,.slice A0_1 l0_1.length c0_1,.int .i64 a0_2,.int .i64 a0_3,.slice (some ⟨w.heap.size + 1 + 1 + 1,0,none⟩) 1 1] 26)) (.cells #[.int .i64 0,.slice A1 l1.length c1] 30)
   simp only [World.size_alloc] at h4
   exact (hW.block _ (by omega)).trans h4
  refine ⟨rfl,by simp,fun _ => ⟨_,rfl,fun j p hj => ?_⟩⟩
  have hj0 : j = 0:=by
   cases j with
   | zero => rfl
   | succ j => simp at hj
  subst hj0
  obtain rfl : (⟨0,l1⟩ : S30) = p:=by simpa using hj
  refine ⟨_,rfl,k30_mk W ⟨0,l1⟩ hc1 (Kd.C_below hr1 (HA4.out.trans (hW.mono (by omega)))),fun i u hi => ?_⟩
  rw [Nat.zero_mul,Nat.zero_add,add_plain,blk_cell hb]
  simpa using hi⟩
 cases rt with
 | false =>
  rw [if_neg (by simp)] at h2
  obtain ⟨rfl,rfl⟩ := Prod.mk.inj (Option.some.inj h2)
  clear h2
  go_enter Try.func17,Try.ntmps17
  go_wp2_with (go_at_call 25;(with_reducible refine (regletref13_Right.calls k A0_0 c0_0 l0_0 A0_1 c0_1 l0_1 a0_2 a0_3 A0_4 c0_4 l0_4 false _ (Kd.C_below hr0_0 HA4.out) hc0_0 (Kd.C_below hr0_1 HA4.out) hc0_1 (Kd.C_below hr0_4 HA4.out) hc0_4 HRT.out).mono ?_);rintro e w1 ⟨rfl,hb1⟩)
  go_ret2
  exact ⟨_,rfl,Kd.R_nil _ _ _ _ _,HA4.out.trans (hb1.mono (by simp;omega))⟩
 | true =>
  rw [if_pos rfl] at h2
  by_cases hz : (l0_0.length : Int) = 0
  · rw [if_pos hz] at h2
    obtain ⟨rfl,rfl⟩ := Prod.mk.inj (Option.some.inj h2)
    clear h2
    have hzb : ((l0_0.length : Int) == 0) = true:=beq_iff_eq.mpr hz
    have hzn : (l0_0.length = 0) = True:=eq_true (by omega)
    clear hz
    go_enter Try.func17,Try.ntmps17
    go_wp2_with (first | (go_at_call 25;(with_reducible refine (regletref13_Right.calls k A0_0 c0_0 l0_0 A0_1 c0_1 l0_1 a0_2 a0_3 A0_4 c0_4 l0_4 true _ (Kd.C_below hr0_0 HA4.out) hc0_0 (Kd.C_below hr0_1 HA4.out) hc0_1 (Kd.C_below hr0_4 HA4.out) hc0_4 HRT.out).mono ?_);rintro e w1 ⟨rfl,hb1⟩;have HB1 : Aside0 (Below (w.heap.size + 4) ((((w.alloc (.cells #[.slice A0_0 l0_0.length c0_0,.slice A0_1 l0_1.length c0_1,.int .i64 a0_2,.int .i64 a0_3,.slice A0_4 l0_4.length c0_4] 26)).alloc (.cells #[.int .i64 0,.slice A1 l1.length c1] 30)).alloc (.cells #[.slice A0_0 l0_0.length c0_0,.slice A0_1 l0_1.length c0_1,.int .i64 a0_2,.int .i64 a0_3,.slice (some ⟨w.heap.size + 1 + 1 + 1,0,none⟩) 1 1] 26)).alloc (.cells #[.int .i64 0,.slice A1 l1.length c1] 30)) w1) := ⟨hb1.mono (by simp)⟩;have HB01 : Aside0 (Below w.heap.size w w1) := ⟨HA4.out.trans (HB1.out.mono (by omega))⟩;clear hb1;obtain ⟨q0,q1,q2,q3,q4⟩ := HC.out w1 HB1.out;obtain ⟨t0,t1,t2,t3,t4⟩ := HD.out w1 HB1.out))
    go_ret2
    exact ⟨_,rfl,Kd.R_nil _ _ _ _ _,HB01.out⟩
  · rw [if_neg hz] at h2
    have hzb : ((l0_0.length : Int) == 0) = false:=beq_eq_false_iff_ne.mpr hz
    have hzn : (l0_0.length = 0) = False:=eq_false (by omega)
    clear hz
    obtain ⟨rt2,hrt2,h3⟩ := Option.bind_eq_some_iff.1 h2
    have HRT2:=Aside0.mk hrt2
    clear h2 hrt2
    cases rt2 with
    | false =>
     rw [if_neg (by simp)] at h3
     obtain ⟨rfl,rfl⟩ := Prod.mk.inj (Option.some.inj h3)
     clear h3
     go_enter Try.func17,Try.ntmps17
     go_wp2_with (first
       | (go_at_call 25;have hR2:=regletref13_Right.calls k A0_0 c0_0 l0_0 A0_1 c0_1 l0_1 a0_2 a0_3 (some ⟨w.heap.size + 1 + 1 + 1,0,none⟩) 1 [(⟨0,l1⟩ : S30)] false w1 (Kd.C_below hr0_0 HB01.out) hc0_0 (Kd.C_below hr0_1 HB01.out) hc0_1 (HT.out w1 HB1.out) (by simp) HRT2.out;simp only [List.length_cons,List.length_nil,Nat.zero_add] at hR2;(with_reducible refine hR2.mono ?_);rintro e w2 ⟨rfl,hb2⟩;have HB2 : Aside0 (Below (w.heap.size + 4) ((((w.alloc (.cells #[.slice A0_0 l0_0.length c0_0,.slice A0_1 l0_1.length c0_1,.int .i64 a0_2,.int .i64 a0_3,.slice A0_4 l0_4.length c0_4] 26)).alloc (.cells #[.int .i64 0,.slice A1 l1.length c1] 30)).alloc (.cells #[.slice A0_0 l0_0.length c0_0,.slice A0_1 l0_1.length c0_1,.int .i64 a0_2,.int .i64 a0_3,.slice (some ⟨w.heap.size + 1 + 1 + 1,0,none⟩) 1 1] 26)).alloc (.cells #[.int .i64 0,.slice A1 l1.length c1] 30)) w2) := ⟨HB1.out.trans (hb2.mono (by have:=HB1.out.size;simp at this;omega))⟩;have HB02 : Aside0 (Below w.heap.size w w2) := ⟨HA4.out.trans (HB2.out.mono (by omega))⟩;clear hR2 hb2 t0 t1 t2 t3 t4 q0 q1 q2 q3 q4;obtain ⟨q0,q1,q2,q3,q4⟩ := HC.out w2 HB2.out)
       | (go_at_call 25;(with_reducible refine (regletref13_Right.calls k A0_0 c0_0 l0_0 A0_1 c0_1 l0_1 a0_2 a0_3 A0_4 c0_4 l0_4 true _ (Kd.C_below hr0_0 HA4.out) hc0_0 (Kd.C_below hr0_1 HA4.out) hc0_1 (Kd.C_below hr0_4 HA4.out) hc0_4 HRT.out).mono ?_);rintro e w1 ⟨rfl,hb1⟩;have HB1 : Aside0 (Below (w.heap.size + 4) ((((w.alloc (.cells #[.slice A0_0 l0_0.length c0_0,.slice A0_1 l0_1.length c0_1,.int .i64 a0_2,.int .i64 a0_3,.slice A0_4 l0_4.length c0_4] 26)).alloc (.cells #[.int .i64 0,.slice A1 l1.length c1] 30)).alloc (.cells #[.slice A0_0 l0_0.length c0_0,.slice A0_1 l0_1.length c0_1,.int .i64 a0_2,.int .i64 a0_3,.slice (some ⟨w.heap.size + 1 + 1 + 1,0,none⟩) 1 1] 26)).alloc (.cells #[.int .i64 0,.slice A1 l1.length c1] 30)) w1) := ⟨hb1.mono (by simp)⟩;have HB01 : Aside0 (Below w.heap.size w w1) := ⟨HA4.out.trans (HB1.out.mono (by omega))⟩;clear hb1;obtain ⟨q0,q1,q2,q3,q4⟩ := HC.out w1 HB1.out;obtain ⟨t0,t1,t2,t3,t4⟩ := HD.out w1 HB1.out))
     go_ret2
     exact ⟨_,rfl,Kd.R_nil _ _ _ _ _,HB02.out⟩
    | true =>
     rw [if_pos rfl] at h3
     obtain ⟨f,hf,h4⟩ := Option.bind_eq_some_iff.1 h3
     obtain ⟨em,he,h5⟩ := Option.bind_eq_some_iff.1 h4
     obtain ⟨⟨bl,bb⟩,hbg,h6⟩ := Option.bind_eq_some_iff.1 h5
     obtain ⟨ri,hri,h7⟩ := Option.bind_eq_some_iff.1 h6
     obtain ⟨rfl,rfl⟩ := Prod.mk.inj (Option.some.inj h7)
     have HF:=Aside0.mk hf
     have HE:=Aside0.mk he
     have HBG:=Aside0.mk hbg
     have HRI:=Aside0.mk hri
     clear h3 h4 h5 h6 h7 hf he hbg hri
     go_enter Try.func17,Try.ntmps17
     go_upto_region 6 with (first
       | (go_at_call 25;have hR2:=regletref13_Right.calls k A0_0 c0_0 l0_0 A0_1 c0_1 l0_1 a0_2 a0_3 (some ⟨w.heap.size + 1 + 1 + 1,0,none⟩) 1 [(⟨0,l1⟩ : S30)] true w1 (Kd.C_below hr0_0 HB01.out) hc0_0 (Kd.C_below hr0_1 HB01.out) hc0_1 (HT.out w1 HB1.out) (by simp) HRT2.out;simp only [List.length_cons,List.length_nil,Nat.zero_add] at hR2;(with_reducible refine hR2.mono ?_);rintro e w2 ⟨rfl,hb2⟩;have HB2 : Aside0 (Below (w.heap.size + 4) ((((w.alloc (.cells #[.slice A0_0 l0_0.length c0_0,.slice A0_1 l0_1.length c0_1,.int .i64 a0_2,.int .i64 a0_3,.slice A0_4 l0_4.length c0_4] 26)).alloc (.cells #[.int .i64 0,.slice A1 l1.length c1] 30)).alloc (.cells #[.slice A0_0 l0_0.length c0_0,.slice A0_1 l0_1.length c0_1,.int .i64 a0_2,.int .i64 a0_3,.slice (some ⟨w.heap.size + 1 + 1 + 1,0,none⟩) 1 1] 26)).alloc (.cells #[.int .i64 0,.slice A1 l1.length c1] 30)) w2) := ⟨HB1.out.trans (hb2.mono (by have:=HB1.out.size;simp at this;omega))⟩;have HB02 : Aside0 (Below w.heap.size w w2) := ⟨HA4.out.trans (HB2.out.mono (by omega))⟩;clear hR2 hb2 t0 t1 t2 t3 t4 q0 q1 q2 q3 q4;obtain ⟨q0,q1,q2,q3,q4⟩ := HC.out w2 HB2.out)
       | (go_at_call 25;(with_reducible refine (regletref13_Right.calls k A0_0 c0_0 l0_0 A0_1 c0_1 l0_1 a0_2 a0_3 A0_4 c0_4 l0_4 true _ (Kd.C_below hr0_0 HA4.out) hc0_0 (Kd.C_below hr0_1 HA4.out) hc0_1 (Kd.C_below hr0_4 HA4.out) hc0_4 HRT.out).mono ?_);rintro e w1 ⟨rfl,hb1⟩;have HB1 : Aside0 (Below (w.heap.size + 4) ((((w.alloc (.cells #[.slice A0_0 l0_0.length c0_0,.slice A0_1 l0_1.length c0_1,.int .i64 a0_2,.int .i64 a0_3,.slice A0_4 l0_4.length c0_4] 26)).alloc (.cells #[.int .i64 0,.slice A1 l1.length c1] 30)).alloc (.cells #[.slice A0_0 l0_0.length c0_0,.slice A0_1 l0_1.length c0_1,.int .i64 a0_2,.int .i64 a0_3,.slice (some ⟨w.heap.size + 1 + 1 + 1,0,none⟩) 1 1] 26)).alloc (.cells #[.int .i64 0,.slice A1 l1.length c1] 30)) w1) := ⟨hb1.mono (by simp)⟩;have HB01 : Aside0 (Below w.heap.size w w1) := ⟨HA4.out.trans (HB1.out.mono (by omega))⟩;clear hb1;obtain ⟨q0,q1,q2,q3,q4⟩ := HC.out w1 HB1.out;obtain ⟨t0,t1,t2,t3,t4⟩ := HD.out w1 HB1.out))
     have HFC : Aside0 (∀ W : World,Below w.heap.size w W → Calls Try.prog 27 #[.agg #[.slice A0_0 l0_0.length c0_0,.slice A0_1 l0_1.length c0_1,.int .i64 a0_2,.int .i64 a0_3,.slice A0_4 l0_4.length c0_4]] W fun e w' => ∃ v0_ : Value,e = .returned (v0_) ∧ Kd.S (Kd.slice 4 Kd.bool) 65 w' W.heap.size (fun _ => True) v0_ f ∧ Below W.heap.size W w') := ⟨fun W hb => regletref13_first.calls k A0_0 c0_0 l0_0 A0_1 c0_1 l0_1 a0_2 a0_3 A0_4 c0_4 l0_4 f W (Kd.C_below hr0_0 hb) hc0_0 (Kd.C_below hr0_1 hb) hc0_1 (Kd.C_below hr0_4 hb) hc0_4 HF.out⟩
     have HEC : Aside0 (∀ W : World,Below w.heap.size w W → Calls Try.prog 28 #[.agg #[.slice A0_0 l0_0.length c0_0,.slice A0_1 l0_1.length c0_1,.int .i64 a0_2,.int .i64 a0_3,.slice A0_4 l0_4.length c0_4]] W fun e w' => ∃ v0_ : Value,e = .returned (v0_) ∧ Kd.R Kd.bool 4 w' W.heap.size (fun _ => True) v0_ em ∧ Below W.heap.size W w') := ⟨fun W hb => regletref13_Empty.calls k A0_0 c0_0 l0_0 A0_1 c0_1 l0_1 a0_2 a0_3 A0_4 c0_4 l0_4 em W (Kd.C_below hr0_0 hb) hc0_0 (Kd.C_below hr0_1 hb) hc0_1 (Kd.C_below hr0_4 hb) hc0_4 HE.out⟩
     go_cut [8,9] from 10 (fun s8 s9 wc => ∃ A7 c7,s8 = .slice A7 bl.length c7 ∧ s9 = .bool bb ∧ Aside0 (Kd.R Kd.bool 4 wc w.heap.size (fun _ => True) (.slice A7 bl.length c7) bl) ∧ Aside0 (Below w.heap.size w wc))
     case first =>
      go_region_held3 (fun W => W.cell? ⟨w.heap.size,0,none⟩ = some (.slice A0_0 l0_0.length c0_0) ∧ W.cell? ⟨w.heap.size,1,none⟩ = some (.slice A0_1 l0_1.length c0_1) ∧ W.cell? ⟨w.heap.size,2,none⟩ = some (.int .i64 a0_2) ∧ W.cell? ⟨w.heap.size,3,none⟩ = some (.int .i64 a0_3) ∧ W.cell? ⟨w.heap.size,4,none⟩ = some (.slice A0_4 l0_4.length c0_4))
        (first | exact HC.out _ KBB.out | exact HC.out _ KBL.out | exact HC.out _ KB1.out | exact HC.out _ (Below.drew HB2.out) | go_keep)
        (first
          | (go_at_call 27;(with_reducible refine (HFC.out w2.drew (below_drew1 HB02.out)).mono ?_);rintro e wf ⟨vf,rfl,hSf,hbf⟩;obtain ⟨Af,cf,rfl⟩ := Kd.S_slice hSf;have HSF:=Aside0.mk hSf;have HBF : Aside0 (Below w.heap.size w wf) := ⟨((below_drew1 HB02.out)).trans (hbf.mono ((below_drew1 HB02.out)).size)⟩;have KB1 : Aside0 (Below (w.heap.size + 4) ((((w.alloc (.cells #[.slice A0_0 l0_0.length c0_0,.slice A0_1 l0_1.length c0_1,.int .i64 a0_2,.int .i64 a0_3,.slice A0_4 l0_4.length c0_4] 26)).alloc (.cells #[.int .i64 0,.slice A1 l1.length c1] 30)).alloc (.cells #[.slice A0_0 l0_0.length c0_0,.slice A0_1 l0_1.length c0_1,.int .i64 a0_2,.int .i64 a0_3,.slice (some ⟨w.heap.size + 1 + 1 + 1,0,none⟩) 1 1] 26)).alloc (.cells #[.int .i64 0,.slice A1 l1.length c1] 30)) wf) := ⟨((Below.drew HB2.out)).trans (hbf.mono (by have:=((Below.drew HB2.out)).size;simp at this ⊢;omega))⟩;clear hSf hbf q0 q1 q2 q3 q4)
          | (go_at_call 27;(with_reducible refine (HFC.out we HBE.out).mono ?_);rintro e wf ⟨vf,rfl,hSf,hbf⟩;obtain ⟨Af,cf,rfl⟩ := Kd.S_slice hSf;have HBL : Aside0 (Below w.heap.size w wf) := ⟨(HBE.out).trans (hbf.mono (HBE.out).size)⟩;have KBL : Aside0 (Below (w.heap.size + 4) ((((w.alloc (.cells #[.slice A0_0 l0_0.length c0_0,.slice A0_1 l0_1.length c0_1,.int .i64 a0_2,.int .i64 a0_3,.slice A0_4 l0_4.length c0_4] 26)).alloc (.cells #[.int .i64 0,.slice A1 l1.length c1] 30)).alloc (.cells #[.slice A0_0 l0_0.length c0_0,.slice A0_1 l0_1.length c0_1,.int .i64 a0_2,.int .i64 a0_3,.slice (some ⟨w.heap.size + 1 + 1 + 1,0,none⟩) 1 1] 26)).alloc (.cells #[.int .i64 0,.slice A1 l1.length c1] 30)) wf) := ⟨(KB1.out).trans (hbf.mono (by have:=(KB1.out).size;simp at this ⊢;omega))⟩;have CF:=Aside0.mk (Kd.S_reads' hSf).2;have CE:=Aside0.mk (And.intro (Kd.R_reads' HRE.out).2.1 (Kd.C_below (Kd.R_reads' HRE.out).2.2 hbf));clear hSf hbf)
          | (go_at_call 28;(with_reducible refine (HEC.out w2.drew (below_drew1 HB02.out)).mono ?_);rintro e we ⟨ve,rfl,hRe,hbe⟩;obtain ⟨Ae,ce,rfl⟩ := Kd.R_slice hRe;have HRE:=Aside0.mk hRe;have HBE : Aside0 (Below w.heap.size w we) := ⟨((below_drew1 HB02.out)).trans (hbe.mono ((below_drew1 HB02.out)).size)⟩;have KB1 : Aside0 (Below (w.heap.size + 4) ((((w.alloc (.cells #[.slice A0_0 l0_0.length c0_0,.slice A0_1 l0_1.length c0_1,.int .i64 a0_2,.int .i64 a0_3,.slice A0_4 l0_4.length c0_4] 26)).alloc (.cells #[.int .i64 0,.slice A1 l1.length c1] 30)).alloc (.cells #[.slice A0_0 l0_0.length c0_0,.slice A0_1 l0_1.length c0_1,.int .i64 a0_2,.int .i64 a0_3,.slice (some ⟨w.heap.size + 1 + 1 + 1,0,none⟩) 1 1] 26)).alloc (.cells #[.int .i64 0,.slice A1 l1.length c1] 30)) we) := ⟨((Below.drew HB2.out)).trans (hbe.mono (by have:=((Below.drew HB2.out)).size;simp at this ⊢;omega))⟩;clear hRe hbe q0 q1 q2 q3 q4)
          | (go_at_call 28;(with_reducible refine (HEC.out wf HBF.out).mono ?_);rintro e we ⟨ve,rfl,hRe,hbe⟩;obtain ⟨Ae,ce,rfl⟩ := Kd.R_slice hRe;have HBL : Aside0 (Below w.heap.size w we) := ⟨(HBF.out).trans (hbe.mono (HBF.out).size)⟩;have KBL : Aside0 (Below (w.heap.size + 4) ((((w.alloc (.cells #[.slice A0_0 l0_0.length c0_0,.slice A0_1 l0_1.length c0_1,.int .i64 a0_2,.int .i64 a0_3,.slice A0_4 l0_4.length c0_4] 26)).alloc (.cells #[.int .i64 0,.slice A1 l1.length c1] 30)).alloc (.cells #[.slice A0_0 l0_0.length c0_0,.slice A0_1 l0_1.length c0_1,.int .i64 a0_2,.int .i64 a0_3,.slice (some ⟨w.heap.size + 1 + 1 + 1,0,none⟩) 1 1] 26)).alloc (.cells #[.int .i64 0,.slice A1 l1.length c1] 30)) we) := ⟨(KB1.out).trans (hbe.mono (by have:=(KB1.out).size;simp at this ⊢;omega))⟩;have CE:=Aside0.mk (Kd.R_reads' hRe).2;have CF:=Aside0.mk (And.intro (Kd.S_reads' HSF.out).2.1 (Kd.C_below (Kd.S_reads' HSF.out).2.2 hbe));clear hRe hbe)
          | (go_at_call 29;(with_reducible refine (regletref13_begins.calls k A0_0 c0_0 l0_0 A0_1 c0_1 l0_1 a0_2 a0_3 A0_4 c0_4 l0_4 A1 c1 l1 Af cf f Ae ce em bl bb _ (Kd.C_below hr0_0 HBL.out) hc0_0 (Kd.C_below hr0_1 HBL.out) hc0_1 (Kd.C_below hr0_4 HBL.out) hc0_4 (Kd.C_below hr1 HBL.out) hc1 CF.out.2 CF.out.1 CE.out.2 CE.out.1 HBG.out).mono ?_);rintro e wb ⟨vb,rfl,hRb,hbb⟩;obtain ⟨A7,c7,rfl⟩ := Kd.R_slice hRb;have HRB:=Aside0.mk (Kd.R_lower hRb HBL.out.size);have HBB : Aside0 (Below w.heap.size w wb) := ⟨HBL.out.trans (hbb.mono HBL.out.size)⟩;have KBB : Aside0 (Below (w.heap.size + 4) ((((w.alloc (.cells #[.slice A0_0 l0_0.length c0_0,.slice A0_1 l0_1.length c0_1,.int .i64 a0_2,.int .i64 a0_3,.slice A0_4 l0_4.length c0_4] 26)).alloc (.cells #[.int .i64 0,.slice A1 l1.length c1] 30)).alloc (.cells #[.slice A0_0 l0_0.length c0_0,.slice A0_1 l0_1.length c0_1,.int .i64 a0_2,.int .i64 a0_3,.slice (some ⟨w.heap.size + 1 + 1 + 1,0,none⟩) 1 1] 26)).alloc (.cells #[.int .i64 0,.slice A1 l1.length c1] 30)) wb) := ⟨KBL.out.trans (hbb.mono (by have:=KBL.out.size;simp at this ⊢;omega))⟩;clear hRb hbb))
      all_goals
        go_wp2_with fail
        go_meet
        case rel => exact ⟨A7,c7,rfl,rfl,HRB,HBB⟩
     case rest =>
      obtain ⟨A7,c7,rfl,rfl,HRB,HBB⟩ := hcut
      go_wp2_with (go_at_call 32;(with_reducible refine (regletref13_list.calls k A7 c7 bl ri _ (Kd.R_reads' HRB.out).2.2 (Kd.R_reads' HRB.out).2.1 HRI.out).mono ?_);rintro e w5 ⟨v5,rfl,hR5,hb5⟩;have HR5:=Aside0.mk hR5;have HB5:=Aside0.mk hb5;clear hR5 hb5)
      go_ret2
      exact ⟨_,rfl,Kd.R_lower HR5.out HBB.out.size,HBB.out.trans (HB5.out.mono HBB.out.size)⟩
end Go.Proofs.Ytfdcfihcfegekaa.P
end
