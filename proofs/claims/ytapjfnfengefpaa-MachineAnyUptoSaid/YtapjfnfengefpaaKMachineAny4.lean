/- Packed texts of this claim: the walks of the functions, and their plain laws; see the claim's last text. -/
import Derived.RangeFuncNested
import Derived.RangeFuncBound
import Derived.RangeFuncCalls
import Derived.RangeFuncLeaves
import Derived.Shelf.Abstract
import Derived.WalkKit
import Derived.OwnWalkIn
import Derived.TacticsInMore
import Derived.LoopNIn
import Derived.LoopIn
import Derived.Maps.OwnIn
import Derived.OrdersIn
import Derived.Test.YtapjfnfengefpaaKMachineAny3
section
namespace Go.Proofs.Ytapjfnfengefpaa.P
open Go.RowKit Go.Proofs.YtapjfnfengefpaaW.PrintWords Go.Proofs.YtapjfnfengefpaaW.PrintLast Go.Proofs.YtapjfnfengefpaaW.PrintMore
attribute [local go_sem] max2_int min2_int max_two min_two max_three min_three max_four min_four   -- for this text's walks alone
set_option linter.unusedVariables false
set_option linter.unusedSimpArgs false
mutual
def regletref16_Run.l0 : Nat → List (List Int) → List Int → List Int → Int → List ByteArray → List (S72) → Int → Int → List (S35) → List (S43) → Bool → Option (List Int × Int × Int)
  | 0,_,_,_,_,_,_,_,_,_,_,_ => none
  | k + 1,x1,x2,x10,x11,x282000,x282001,x282002,x282003,x282004,x287000,x287001 => if x11 ≤ (x2.length : Int) then (if x11 < (x2.length : Int) then (if 0 ≤ x11 then (if (rd x2 x11) < 0 then (regletref16_Run.j1 k x1 x2 x10 x11 (rd x2 x11) true x282000 x282001 x282002 x282003 x282004 x287000 x287001) else (regletref16_Run.j1 k x1 x2 x10 x11 (rd x2 x11) (decide ((rd x2 x11) ≥ (x282001.length : Int))) x282000 x282001 x282002 x282003 x282004 x287000 x287001)) else (none)) else ((regletref16_Feed.f k x282000 x282001 x282002 x282003 x282004 x1 x287000 x287001 (x282001.length : Int)).bind fun bt300 => (if bt300.2.2.2 = 0 then (if x10.length + bt300.2.2.1.length < 17592186044416 then (regletref16_Run.l0 k x1 x2 (x10 ++ bt300.2.2.1) (wrap64 (x11 + 1)) x282000 x282001 x282002 x282003 x282004 bt300.1 bt300.2.1) else (none)) else (some (([] : List Int),bt300.2.2.2,x11))))) else (some (x10,0,0))
def regletref16_Run.j1 : Nat → List (List Int) → List Int → List Int → Int → Int → Bool → List ByteArray → List (S72) → Int → Int → List (S35) → List (S43) → Bool → Option (List Int × Int × Int)
  | 0,_,_,_,_,_,_,_,_,_,_,_,_,_ => none
  | k + 1,x1,x2,x10,x11,x12,x42,x282000,x282001,x282002,x282003,x282004,x287000,x287001 => if x42 = true then (some (([] : List Int),1,x11)) else ((regletref16_Feed.f k x282000 x282001 x282002 x282003 x282004 x1 x287000 x287001 x12).bind fun bt288 => (if bt288.2.2.2 = 0 then (if x10.length + bt288.2.2.1.length < 17592186044416 then (regletref16_Run.l0 k x1 x2 (x10 ++ bt288.2.2.1) (wrap64 (x11 + 1)) x282000 x282001 x282002 x282003 x282004 bt288.1 bt288.2.1) else (none)) else (some (([] : List Int),bt288.2.2.2,x11))))
end
def regletref16_Run.f (k : Nat) (l0_0 : List ByteArray) (l0_1 : List (S72)) (a0_2 : Int) (a0_3 : Int) (l0_4 : List (S35)) (l1 : List (List Int)) (l2 : List Int) : Option (List Int × Int × Int) := (regletref16_Start.f).bind fun bt282 => (regletref16_Run.l0 k l1 l2 ([] : List Int) 0 l0_0 l0_1 a0_2 a0_3 l0_4 bt282.1 bt282.2)
set_option maxHeartbeats 8000000 in
set_option maxRecDepth 100000 in
theorem regletref16_Run.calls (k : Nat) (A0_0 : Option Addr) (c0_0 : Nat) (l0_0 : List ByteArray) (A0_1 : Option Addr) (c0_1 : Nat) (l0_1 : List (S72)) (a0_2 : Int) (a0_3 : Int) (A0_4 : Option Addr) (c0_4 : Nat) (l0_4 : List (S35)) (A1 : Option Addr) (c1 : Nat) (l1 : List (List Int)) (A2 : Option Addr) (c2 : Nat) (l2 : List Int) (r1 : List Int) (r2 : Int) (r3 : Int) (w : World) (hr0_0 : Kd.C Kd.string w A0_0 l0_0.length l0_0) (hc0_0 : l0_0.length ≤ c0_0) (hr0_1 : Kd.C k72 w A0_1 l0_1.length l0_1) (hc0_1 : l0_1.length ≤ c0_1) (hr0_4 : Kd.C k35 w A0_4 l0_4.length l0_4) (hc0_4 : l0_4.length ≤ c0_4) (hr1 : Kd.C (Kd.slice 3 (Kd.int .i64)) w A1 l1.length l1) (hc1 : l1.length ≤ c1) (hr2 : Kd.C (Kd.int .i64) w A2 l2.length l2) (hc2 : l2.length ≤ c2) (h : regletref16_Run.f k l0_0 l0_1 a0_2 a0_3 l0_4 l1 l2 = some (r1,r2,r3)) :
    Calls Try.prog 28 #[.agg #[.slice A0_0 l0_0.length c0_0,.slice A0_1 l0_1.length c0_1,.int .i64 a0_2,.int .i64 a0_3,.slice A0_4 l0_4.length c0_4],.slice A1 l1.length c1,.slice A2 l2.length c2] w fun e w' => ∃ v0_ : Value,e = .returned (.tuple #[v0_,.int .i64 r2,.int .i64 r3]) ∧ Kd.R (Kd.int .i64) 3 w' w.heap.size (fun _ => True) v0_ r1 ∧ Below w.heap.size w w' := by
 have hu26:=Try.underlying26
 have hu31:=Try.underlying31
 have HR0_0:=Aside0.mk hr0_0
 have HC0_0:=Aside0.mk hc0_0
 clear hr0_0 hc0_0
 have HR0_1:=Aside0.mk hr0_1
 have HC0_1:=Aside0.mk hc0_1
 clear hr0_1 hc0_1
 have HR0_4:=Aside0.mk hr0_4
 have HC0_4:=Aside0.mk hc0_4
 clear hr0_4 hc0_4
 have HR1:=Aside0.mk hr1
 have HC1:=Aside0.mk hc1
 clear hr1 hc1
 have HR2:=Aside0.mk hr2
 have HC2:=Aside0.mk hc2
 clear hr2 hc2
 have HB:=Aside0.mk (Below.refl w.heap.size w)
 have H : ((regletref16_Start.f).bind fun bt282 => (regletref16_Run.l0 k l1 l2 ([] : List Int) 0 l0_0 l0_1 a0_2 a0_3 l0_4 bt282.1 bt282.2)) = some (r1,r2,r3) := h
 clear h
 replace H:=Option.bind_eq_some_iff.mp H
 obtain ⟨⟨t282,t285⟩,A40,H⟩ := H
 replace H : (regletref16_Run.l0 k l1 l2 ([] : List Int) 0 l0_0 l0_1 a0_2 a0_3 l0_4 t282 t285) = some (r1,r2,r3) := H
 have A4:=Aside0.mk A40
 clear A40
 have H' := Aside0.mk H
 clear H
 go_enter Try.func28,Try.ntmps28
 go_wp2_with (first | ((with_reducible refine gate_dst (N:=3) rfl ?_);(try (refine gate_guard (by rfl) ?_;dsimp only));refine box_event ?hg (N:=3) ?hd (cs:=#[.slice A0_0 l0_0.length c0_0,.slice A0_1 l0_1.length c0_1,.int .i64 a0_2,.int .i64 a0_3,.slice A0_4 l0_4.length c0_4]) (t:=26) ?hr ?_;(case hd => rfl);(case hg => rfl);(case hr => first | (go_simp;done) | (go_simp;rfl));intro gb281 hg w5 hbox hb;have n0_:=Aside0.mk (below_step (by repeat (first | (with_reducible first | exact HB.out | apply below_alloc | apply pw_below_drewN | apply below_drew1) | exact HB.out)) hb);have n1_:=Aside0.mk (hbox);have n2_:=Aside0.mk ((by rw [hg];exact (below_size (by repeat (first | (with_reducible first | exact HB.out | apply below_alloc | apply pw_below_drewN | apply below_drew1) | exact HB.out))) : w.heap.size ≤ gb281));have n3_:=Aside0.mk ((by rw [hg];exact (below_size (by repeat (first | (with_reducible first | exact HB.out | apply below_alloc | apply pw_below_drewN | apply below_drew1) | exact HB.out))) : w.heap.size ≤ gb281));clear HB;have HB:=n0_;have BK281:=n1_;have GW281:=n2_;have GE281:=n3_;clear n0_ n1_ n2_ n3_;clear hb hbox hg) | ((with_reducible refine gate_callee (f:=18) rfl ?_);refine goesL_ (some 16) rfl rfl Try.func18 (by kernel_rfl) rfl #[] rfl (by (try simp only [List.map_toArray,List.map_cons,List.map_nil]);first | done | rfl | (simp only [List.length_drop,List.length_take];rfl)) ?_;(with_reducible refine (regletref16_Start.calls  t282 t285 _ A4.out).mono ?_);rintro e w6 ⟨v283,rfl,ho0,hb⟩;refine ⟨_,rfl,?_⟩;have n0_:=Aside0.mk (Kd.R_lower ho0 (below_size (by repeat (first | (with_reducible first | exact HB.out | apply below_alloc | apply pw_below_drewN | apply below_drew1 | refine below_set ?_ GE281.out) | exact HB.out))));have n1_:=Aside0.mk (blk_below (g:=gb281) (o := .cells #[.slice A0_0 l0_0.length c0_0,.slice A0_1 l0_1.length c0_1,.int .i64 a0_2,.int .i64 a0_3,.slice A0_4 l0_4.length c0_4] 26 (0,0)) (by (with_reducible repeat (first | refine blk_drewN ?_ _ | refine blk_drew ?_ | refine blk_alloc ?_ _));exact BK281.out) hb);have n2_:=Aside0.mk (below_step (by repeat (first | (with_reducible first | exact HB.out | apply below_alloc | apply pw_below_drewN | apply below_drew1 | refine below_set ?_ GE281.out) | exact HB.out)) hb);clear BK281;clear HB;have HO284:=n0_;have BK281:=n1_;have HB:=n2_;clear n0_ n1_ n2_;(try clear hb);(try clear hb2);(try clear hk);(try clear hi);(try clear ho0)) | ((with_reducible refine gate_dst (N:=9) rfl ?_);(try (refine gate_guard (by rfl) ?_;dsimp only));refine box_event ?hg (N:=9) ?hd (cs:=#[.slice none 0 0,.bool false]) (t:=31) ?hr ?_;(case hd => rfl);(case hg => rfl);(case hr => first | (go_simp;done) | (go_simp;rfl));intro gb286 hg w7 hbox hb;have n0_:=Aside0.mk (Kd.R_below (by (with_reducible repeat (first | apply Kd.R_alloc | apply Kd.R_drewN | apply Kd.R_drew));exact HO284.out) hb);have n1_:=Aside0.mk (blk_below (g:=gb281) (o := .cells #[.slice A0_0 l0_0.length c0_0,.slice A0_1 l0_1.length c0_1,.int .i64 a0_2,.int .i64 a0_3,.slice A0_4 l0_4.length c0_4] 26 (0,0)) (by (with_reducible repeat (first | refine blk_drewN ?_ _ | refine blk_drew ?_ | refine blk_alloc ?_ _));exact BK281.out) hb);have n2_:=Aside0.mk (below_step (by repeat (first | (with_reducible first | exact HB.out | apply below_alloc | apply pw_below_drewN | apply below_drew1 | refine below_set ?_ GE281.out) | exact HB.out)) hb);have n3_:=Aside0.mk (hbox);have n4_:=Aside0.mk ((by rw [hg];exact (below_size (by repeat (first | (with_reducible first | exact HB.out | apply below_alloc | apply pw_below_drewN | apply below_drew1 | refine below_set ?_ GE281.out) | exact HB.out))) : w.heap.size ≤ gb286));have n5_:=Aside0.mk ((by rw [hg];exact (below_size (by repeat (first | (with_reducible first | exact HB.out | apply below_alloc | apply pw_below_drewN | apply below_drew1 | refine below_set ?_ GE281.out) | exact HB.out))) : w.heap.size ≤ gb286));have n6_:=Aside0.mk ((by rw [hg];exact Nat.ne_of_lt (blk_lt (g:=gb281) (o := .cells #[.slice A0_0 l0_0.length c0_0,.slice A0_1 l0_1.length c0_1,.int .i64 a0_2,.int .i64 a0_3,.slice A0_4 l0_4.length c0_4] 26 (0,0)) (by (with_reducible repeat (first | refine blk_drewN ?_ _ | refine blk_drew ?_ | refine blk_alloc ?_ _));exact BK281.out)) : gb281 ≠ gb286));have n7_:=Aside0.mk ((by rw [hg];exact Nat.ne_of_gt (blk_lt (g:=gb281) (o := .cells #[.slice A0_0 l0_0.length c0_0,.slice A0_1 l0_1.length c0_1,.int .i64 a0_2,.int .i64 a0_3,.slice A0_4 l0_4.length c0_4] 26 (0,0)) (by (with_reducible repeat (first | refine blk_drewN ?_ _ | refine blk_drew ?_ | refine blk_alloc ?_ _));exact BK281.out)) : gb286 ≠ gb281));clear HO284;clear BK281;clear HB;have HO284:=n0_;have BK281:=n1_;have HB:=n2_;have BK286:=n3_;have GW286:=n4_;have GE286:=n5_;have NB281_286:=n6_;have NB286_281:=n7_;clear n0_ n1_ n2_ n3_ n4_ n5_ n6_ n7_;clear hb hbox hg;obtain ⟨Ao8,co8,eo8⟩ := Kd.R_slice HO284.out;subst eo8;have hnb9:=NB286_281.out;have hnc9:=NB281_286.out;have hcz10_0 : w7.cell? ⟨gb286,0,none⟩ = some (.slice none 0 0) := (blk_cell BK286.out 0).trans rfl;have hcz10_1 : w7.cell? ⟨gb286,1,none⟩ = some (.bool false) := (blk_cell BK286.out 1).trans rfl;have hfz10_0:=blk_frozen BK286.out 0;have hfz10_1:=blk_frozen BK286.out 1))
 go_loopg [10,11] k (fun kq v10 v11 w' => ∃ (x10_1 : List Int) (x11_1 : Int) (x287000_1 : List (S43)) (x287001_1 : Bool) (u287000 : Value),v11 = .int .i64 x11_1 ∧ Aside0 (regletref16_Run.l0 kq l1 l2 x10_1 x11_1 l0_0 l0_1 a0_2 a0_3 l0_4 x287000_1 x287001_1 = some (r1,r2,r3)) ∧ Aside0 (kq ≤ k) ∧ Aside0 (Kd.R (Kd.int .i64) 3 w' w.heap.size (fun _ => True) v10 x10_1) ∧ Aside0 (Kd.R k43 43 w' w.heap.size (fun _ => True) u287000 x287000_1) ∧ Aside0 (w'.heap[gb281]? = some (.cells #[(.slice A0_0 l0_0.length c0_0),(.slice A0_1 l0_1.length c0_1),.int .i64 a0_2,.int .i64 a0_3,(.slice A0_4 l0_4.length c0_4)] 26 (0,0))) ∧ Aside0 (w'.heap[gb286]? = some (.cells #[u287000,.bool x287001_1] 31 (0,0))) ∧ Aside0 (Below w.heap.size w w'))
 case atStart => exact ⟨(([] : List Int)),(0),(t282),(t285),(.slice Ao8 t282.length co8),(by first | rfl | (simp;done) | (simp [*];done)),H',⟨Nat.le_refl _⟩,⟨by first | exact Kd.R_nil _ _ _ _ _ | exact Kd.N_nil _ _ _ _ _ | exact Kd.V_nil _ _ _ _ _ | exact Kd.Q_nil _ _ _ _ _ | exact Kd.S_nil _ _ _ _ _⟩,⟨by (with_reducible repeat (first | apply Kd.R_alloc | apply Kd.R_drewN | apply Kd.R_drew));exact Kd.R_mono (Kd.R_far (p:=⟨gb286,1,none⟩) (Kd.R_far (p:=⟨gb286,0,none⟩) (Kd.R_types HO284.out BK286.out (by decide)) (fun _ hk => hk.2) (.slice Ao8 t282.length co8)) (fun _ hk => hk.2) (.bool t285)) (fun _ hk => trivial)⟩,⟨by (with_reducible repeat (first | refine blk_drewN ?_ _ | refine blk_drew ?_ | refine blk_alloc ?_ _));refine blk_far ?_ NB281_286.out _;(with_reducible repeat (first | refine blk_drewN ?_ _ | refine blk_drew ?_ | refine blk_alloc ?_ _));refine blk_far ?_ NB281_286.out _;(with_reducible repeat (first | refine blk_drewN ?_ _ | refine blk_drew ?_ | refine blk_alloc ?_ _));exact BK281.out⟩,⟨by (with_reducible repeat (first | refine blk_drewN ?_ _ | refine blk_drew ?_ | refine blk_alloc ?_ _));refine blk_put (cs:=#[.slice Ao8 t282.length co8,.bool false]) ?_ 1 _ rfl;(with_reducible repeat (first | refine blk_drewN ?_ _ | refine blk_drew ?_ | refine blk_alloc ?_ _));refine blk_put (cs:=#[.slice none 0 0,.bool false]) ?_ 0 _ rfl;(with_reducible repeat (first | refine blk_drewN ?_ _ | refine blk_drew ?_ | refine blk_alloc ?_ _));exact BK286.out⟩,⟨by repeat (first | (with_reducible first | exact HB.out | apply below_alloc | apply pw_below_drewN | apply below_drew1 | refine below_set ?_ GE281.out | refine below_set ?_ GE286.out) | exact HB.out)⟩⟩
 case round =>
  clear H'
  (try clear c1);(try clear c2);(try clear p2);(try clear c9);(try clear hcz10_0);(try clear hcz10_1);(try clear hfz10_0);(try clear hfz10_1)
  obtain ⟨x10_1,x11_1,x287000_1,x287001_1,u287000,rfl,HA,HK1,HO_10,HO_287000,BK281,BK286,HB⟩ := hrel
  cases gk with
  | zero => exact absurd HA.out (by simp [regletref16_Run.l0])
  | succ k1 =>
   have H:=HA.out
   clear HA
   simp only [regletref16_Run.l0] at H
   by_cases c11 : x11_1 ≤ (l2.length : Int)
   · rw [if_pos c11] at H
     have c11b0 : decide (x11_1 ≤ (l2.length : Int)) = true:=decide_eq_true c11
     clear c11
     by_cases c12 : x11_1 < (l2.length : Int)
     · rw [if_pos c12] at H
       have c12b0 : decide (x11_1 < (l2.length : Int)) = true:=decide_eq_true c12
       clear c12
       by_cases c13 : 0 ≤ x11_1
       rotate_left
       · rw [if_neg c13] at H
         exact absurd H (by simp)
       rw [if_pos c13] at H
       have c13b0 : decide (0 ≤ x11_1) = true:=decide_eq_true c13
       clear c13
       have HC14:=Aside0.mk H
       clear H
       have hnb15:=NB281_286.out
       have hnc15:=NB286_281.out
       have hcz16_0 : wr.cell? ⟨gb281,0,none⟩ = some (.slice A0_0 l0_0.length c0_0) := (blk_cell BK281.out 0).trans rfl
       have hcz16_1 : wr.cell? ⟨gb281,1,none⟩ = some (.slice A0_1 l0_1.length c0_1) := (blk_cell BK281.out 1).trans rfl
       have hcz16_2 : wr.cell? ⟨gb281,2,none⟩ = some (.int .i64 a0_2) := (blk_cell BK281.out 2).trans rfl
       have hcz16_3 : wr.cell? ⟨gb281,3,none⟩ = some (.int .i64 a0_3) := (blk_cell BK281.out 3).trans rfl
       have hcz16_4 : wr.cell? ⟨gb281,4,none⟩ = some (.slice A0_4 l0_4.length c0_4) := (blk_cell BK281.out 4).trans rfl
       have hfz16_0:=blk_frozen BK281.out 0
       have hfz16_1:=blk_frozen BK281.out 1
       have hfz16_2:=blk_frozen BK281.out 2
       have hfz16_3:=blk_frozen BK281.out 3
       have hfz16_4:=blk_frozen BK281.out 4
       have p287 : 0 ≤ (x11_1 : Int) := of_decide_eq_true (by first | (with_reducible assumption) | assumption)
       have q287 : x11_1 < (l2.length : Int) := of_decide_eq_true (by first | (with_reducible assumption) | assumption)
       obtain ⟨ad287,e287,hx287_0⟩ := Kd.at_int HR2.out x11_1 p287 q287
       cases e287
       replace hx287_0:=(HB.out.cell (World.block_lt_of_cell? w _ hx287_0)).trans hx287_0
       replace p287:=eq_true p287
       replace q287:=eq_true q287
       go_upto_region 9 with (fail)
       go_cut [42] (fun v42 wc => ∃ (kq : Nat) (x42_13 : Bool),v42 = .bool x42_13 ∧ Aside0 (regletref16_Run.j1 kq l1 l2 x10_1 x11_1 (rd l2 x11_1) x42_13 l0_0 l0_1 a0_2 a0_3 l0_4 x287000_1 x287001_1 = some (r1,r2,r3)) ∧ Aside0 (kq ≤ k1) ∧ Aside0 (Kd.R (Kd.int .i64) 3 wc w.heap.size (fun _ => True) u10 x10_1) ∧ Aside0 (Kd.R k43 43 wc w.heap.size (fun _ => True) u287000 x287000_1) ∧ Aside0 (wc.heap[gb281]? = some (.cells #[(.slice A0_0 l0_0.length c0_0),(.slice A0_1 l0_1.length c0_1),.int .i64 a0_2,.int .i64 a0_3,(.slice A0_4 l0_4.length c0_4)] 26 (0,0))) ∧ Aside0 (wc.heap[gb286]? = some (.cells #[u287000,.bool x287001_1] 31 (0,0))) ∧ Aside0 (Below w.heap.size w wc))
       case first =>
        have H:=HC14.out
        clear HC14
        by_cases c17 : (rd l2 x11_1) < 0
        · rw [if_pos c17] at H
          have c17b0 : decide ((rd l2 x11_1) < 0) = true:=decide_eq_true c17
          clear c17
          (first | rw [c17b0] | (simp only [i64_w,i32_w];rw [c17b0]) | skip)
          have H' := Aside0.mk H
          clear H
          go_wp2
          go_meet
          case rel => exact ⟨_,(true),(by first | rfl | (simp;done) | (simp [*];done)),H',⟨by have:=HK1.out;first | omega | exact Nat.le_refl _⟩,⟨by (with_reducible repeat (first | apply Kd.R_alloc | apply Kd.R_drewN | apply Kd.R_drew));exact HO_10.out⟩,⟨by (with_reducible repeat (first | apply Kd.R_alloc | apply Kd.R_drewN | apply Kd.R_drew));exact HO_287000.out⟩,⟨by (with_reducible repeat (first | refine blk_drewN ?_ _ | refine blk_drew ?_ | refine blk_alloc ?_ _));exact BK281.out⟩,⟨by (with_reducible repeat (first | refine blk_drewN ?_ _ | refine blk_drew ?_ | refine blk_alloc ?_ _));exact BK286.out⟩,⟨by repeat (first | (with_reducible first | exact HB.out | apply below_alloc | apply pw_below_drewN | apply below_drew1 | refine below_set ?_ GE281.out | refine below_set ?_ GE286.out) | exact HB.out)⟩⟩
        · rw [if_neg c17] at H
          have c17b0 : decide ((rd l2 x11_1) < 0) = false:=decide_eq_false c17
          clear c17
          (first | rw [c17b0] | (simp only [i64_w,i32_w];rw [c17b0]) | skip)
          have H' := Aside0.mk H
          clear H
          have hnb18:=NB281_286.out
          have hnc18:=NB286_281.out
          have hcz19_0 : wr.cell? ⟨gb281,0,none⟩ = some (.slice A0_0 l0_0.length c0_0) := (blk_cell BK281.out 0).trans rfl
          have hcz19_1 : wr.cell? ⟨gb281,1,none⟩ = some (.slice A0_1 l0_1.length c0_1) := (blk_cell BK281.out 1).trans rfl
          have hcz19_2 : wr.cell? ⟨gb281,2,none⟩ = some (.int .i64 a0_2) := (blk_cell BK281.out 2).trans rfl
          have hcz19_3 : wr.cell? ⟨gb281,3,none⟩ = some (.int .i64 a0_3) := (blk_cell BK281.out 3).trans rfl
          have hcz19_4 : wr.cell? ⟨gb281,4,none⟩ = some (.slice A0_4 l0_4.length c0_4) := (blk_cell BK281.out 4).trans rfl
          have hfz19_0:=blk_frozen BK281.out 0
          have hfz19_1:=blk_frozen BK281.out 1
          have hfz19_2:=blk_frozen BK281.out 2
          have hfz19_3:=blk_frozen BK281.out 3
          have hfz19_4:=blk_frozen BK281.out 4
          go_wp2
          go_meet
          case rel => exact ⟨_,(decide ((rd l2 x11_1) ≥ (l0_1.length : Int))),(by first | rfl | (simp;done) | (simp [*];done)),H',⟨by have:=HK1.out;first | omega | exact Nat.le_refl _⟩,⟨by (with_reducible repeat (first | apply Kd.R_alloc | apply Kd.R_drewN | apply Kd.R_drew));exact HO_10.out⟩,⟨by (with_reducible repeat (first | apply Kd.R_alloc | apply Kd.R_drewN | apply Kd.R_drew));exact HO_287000.out⟩,⟨by (with_reducible repeat (first | refine blk_drewN ?_ _ | refine blk_drew ?_ | refine blk_alloc ?_ _));exact BK281.out⟩,⟨by (with_reducible repeat (first | refine blk_drewN ?_ _ | refine blk_drew ?_ | refine blk_alloc ?_ _));exact BK286.out⟩,⟨by repeat (first | (with_reducible first | exact HB.out | apply below_alloc | apply pw_below_drewN | apply below_drew1 | refine below_set ?_ GE281.out | refine below_set ?_ GE286.out) | exact HB.out)⟩⟩
       case rest =>
        clear HC14
        (try clear c1);(try clear c2);(try clear p2);(try clear q2);(try clear hx2);(try clear c9);(try clear c11);(try clear c11b0);(try clear c12);(try clear c12b0);(try clear c13);(try clear c13b0);(try clear c15);(try clear c17);(try clear c17b0);(try clear c18);(try clear hcz10_0);(try clear hcz10_1);(try clear hcz16_0);(try clear hcz16_1);(try clear hcz16_2);(try clear hcz16_3);(try clear hcz16_4);(try clear hcz19_0)
        (try clear hcz19_1);(try clear hcz19_2);(try clear hcz19_3);(try clear hcz19_4);(try clear hfz10_0);(try clear hfz10_1);(try clear hfz16_0);(try clear hfz16_1);(try clear hfz16_2);(try clear hfz16_3);(try clear hfz16_4);(try clear hfz19_0);(try clear hfz19_1);(try clear hfz19_2);(try clear hfz19_3);(try clear hfz19_4);(try clear hx287_0);(try clear p2);(try clear p287);(try clear q287)
        obtain ⟨kq,x42_13,rfl,HA,HJ13,HO_10,HO_287000,BK281,BK286,HB⟩ := hcut
        cases kq with
        | zero => exact absurd HA.out (by simp [regletref16_Run.j1])
        | succ kj13 =>
         have H:=HA.out
         clear HA
         simp only [regletref16_Run.j1] at H
         by_cases c20 : x42_13 = true
         · subst c20
           have H1 : (some (([] : List Int),1,x11_1)) = some (r1,r2,r3) := by rw [if_pos rfl] at H;exact H
           clear H
           have H:=H1
           clear H1
           simp only [Option.some.injEq,Prod.mk.injEq] at H
           obtain ⟨rfl,rfl,rfl⟩ := H
           go_wp2
           go_ret3
           exact ⟨_,by first | rfl | (simp [errW_none,errW_some] <;> rfl) | (simp [*,errW_none,errW_some] <;> rfl),by first | exact Kd.R_nil _ _ _ _ _ | exact Kd.N_nil _ _ _ _ _ | exact Kd.V_nil _ _ _ _ _ | exact Kd.Q_nil _ _ _ _ _ | exact Kd.S_nil _ _ _ _ _,by repeat (first | (with_reducible first | exact HB.out | apply below_alloc | apply pw_below_drewN | apply below_drew1 | refine below_set ?_ GE281.out | refine below_set ?_ GE286.out) | exact HB.out)⟩
         · replace c20:=Bool.eq_false_iff.mpr c20
           subst c20
           have H1 : ((regletref16_Feed.f kj13 l0_0 l0_1 a0_2 a0_3 l0_4 l1 x287000_1 x287001_1 (rd l2 x11_1)).bind fun bt288 => (if bt288.2.2.2 = 0 then (if x10_1.length + bt288.2.2.1.length < 17592186044416 then (regletref16_Run.l0 kj13 l1 l2 (x10_1 ++ bt288.2.2.1) (wrap64 (x11_1 + 1)) l0_0 l0_1 a0_2 a0_3 l0_4 bt288.1 bt288.2.1) else (none)) else (some (([] : List Int),bt288.2.2.2,x11_1)))) = some (r1,r2,r3) := by rw [if_neg (show ¬ (false = true) by decide)] at H;exact H
           clear H
           have H:=H1
           clear H1
           replace H:=Option.bind_eq_some_iff.mp H
           obtain ⟨⟨t288,t291,t292,t295⟩,A210,H⟩ := H
           replace H : (if t295 = 0 then (if x10_1.length + t292.length < 17592186044416 then (regletref16_Run.l0 kj13 l1 l2 (x10_1 ++ t292) (wrap64 (x11_1 + 1)) l0_0 l0_1 a0_2 a0_3 l0_4 t288 t291) else (none)) else (some (([] : List Int),t295,x11_1))) = some (r1,r2,r3) := H
           have A21:=Aside0.mk A210
           clear A210
           by_cases c22 : t295 = 0
           · rw [if_pos c22] at H
             have c22b0 : (t295 == 0) = true:=beq_iff_eq.mpr c22
             have c22b1 : (t295 != 0) = false:=bne_eq_false_iff_eq.mpr c22
             clear c22
             by_cases c23 : x10_1.length + t292.length < 17592186044416
             rotate_left
             · rw [if_neg c23] at H
               exact absurd H (by simp)
             rw [if_pos c23] at H
             have LMc23:=Aside0.mk c23
             clear c23
             obtain ⟨y297,hy297⟩ : ∃ y_ : List Int,y_ = (x10_1 ++ t292) := ⟨_,rfl⟩
             replace H : (regletref16_Run.l0 kj13 l1 l2 y297 (wrap64 (x11_1 + 1)) l0_0 l0_1 a0_2 a0_3 l0_4 t288 t291) = some (r1,r2,r3) := by first | (rw [hy297];with_reducible exact H) | (have H2_:=(Option.bind_some _ _).symm.trans H;rw [hy297];with_reducible exact H2_) | (have H2_:=(Option.bind_some _ _).symm.trans H;with_reducible exact H2_) | with_reducible exact H | (rw [hy297];exact H) | exact H
             have Ny297:=Aside0.mk hy297
             clear hy297
             have H' := Aside0.mk H
             clear H
             have hnb24:=NB281_286.out
             have hnc24:=NB286_281.out
             have hcz25_0 : wc.cell? ⟨gb281,0,none⟩ = some (.slice A0_0 l0_0.length c0_0) := (blk_cell BK281.out 0).trans rfl
             have hcz25_1 : wc.cell? ⟨gb281,1,none⟩ = some (.slice A0_1 l0_1.length c0_1) := (blk_cell BK281.out 1).trans rfl
             have hcz25_2 : wc.cell? ⟨gb281,2,none⟩ = some (.int .i64 a0_2) := (blk_cell BK281.out 2).trans rfl
             have hcz25_3 : wc.cell? ⟨gb281,3,none⟩ = some (.int .i64 a0_3) := (blk_cell BK281.out 3).trans rfl
             have hcz25_4 : wc.cell? ⟨gb281,4,none⟩ = some (.slice A0_4 l0_4.length c0_4) := (blk_cell BK281.out 4).trans rfl
             have hfz25_0:=blk_frozen BK281.out 0
             have hfz25_1:=blk_frozen BK281.out 1
             have hfz25_2:=blk_frozen BK281.out 2
             have hfz25_3:=blk_frozen BK281.out 3
             have hfz25_4:=blk_frozen BK281.out 4
             have hcz26_0 : wc.cell? ⟨gb286,0,none⟩ = some (u287000) := (blk_cell BK286.out 0).trans rfl
             have hcz26_1 : wc.cell? ⟨gb286,1,none⟩ = some (.bool x287001_1) := (blk_cell BK286.out 1).trans rfl
             have hfz26_0:=blk_frozen BK286.out 0
             have hfz26_1:=blk_frozen BK286.out 1
             obtain ⟨Ao27,co27,eo27⟩ := Kd.R_slice HO_287000.out
             subst eo27
             go_wp2_with (first | ((with_reducible refine gate_callee (f:=26) rfl ?_);refine goesL_ (some 49) rfl rfl Try.func26 (by kernel_rfl) rfl #[.agg #[.slice A0_0 l0_0.length c0_0,.slice A0_1 l0_1.length c0_1,.int .i64 a0_2,.int .i64 a0_3,.slice A0_4 l0_4.length c0_4],.slice A1 l1.length c1,.agg #[.slice Ao27 x287000_1.length co27,.bool x287001_1],.int .i64 (rd l2 x11_1)] rfl (by (try simp only [List.map_toArray,List.map_cons,List.map_nil]);first | done | rfl | (simp only [List.length_drop,List.length_take];rfl)) ?_;(with_reducible refine (regletref16_Feed.calls kj13 _ _ l0_0 _ _ l0_1 a0_2 a0_3 _ _ l0_4 _ _ l1 _ _ x287000_1 x287001_1 (rd l2 x11_1) t288 t291 t292 t295 _ ?side1 ?side2 ?side3 ?side4 ?side5 ?side6 ?side7 ?side8 ?side9 ?side10 A21.out).mono ?_);(case side1 => repeat (first | exact (Kd.C_below HR0_0.out HB.out) | (with_reducible refine Kd.C_alloc ?_ _) | (with_reducible refine Kd.C_drewN ?_ _) | (with_reducible refine Kd.C_drew ?_)));(case side2 => exact HC0_0.out);(case side3 => repeat (first | exact (Kd.C_below HR0_1.out HB.out) | (with_reducible refine Kd.C_alloc ?_ _) | (with_reducible refine Kd.C_drewN ?_ _) | (with_reducible refine Kd.C_drew ?_)));(case side4 => exact HC0_1.out);(case side5 => repeat (first | exact (Kd.C_below HR0_4.out HB.out) | (with_reducible refine Kd.C_alloc ?_ _) | (with_reducible refine Kd.C_drewN ?_ _) | (with_reducible refine Kd.C_drew ?_)));(case side6 => exact HC0_4.out);(case side7 => repeat (first | exact (Kd.C_below HR1.out HB.out) | (with_reducible refine Kd.C_alloc ?_ _) | (with_reducible refine Kd.C_drewN ?_ _) | (with_reducible refine Kd.C_drew ?_)));(case side8 => exact HC1.out);(case side9 => repeat (first | exact (Kd.R_reads' HO_287000.out).2.2 | (with_reducible refine Kd.C_alloc ?_ _) | (with_reducible refine Kd.C_drewN ?_ _) | (with_reducible refine Kd.C_drew ?_)));(case side10 => exact (Kd.R_reads' HO_287000.out).2.1);rintro e w28 ⟨v289,v293,rfl,ho0,ho1,hb⟩;refine ⟨_,rfl,?_⟩;have n0_:=Aside0.mk (Kd.R_elder' (by (with_reducible repeat (first | apply Kd.R_alloc | apply Kd.R_drewN | apply Kd.R_drew));exact HO_10.out) (Kd.R_base ho1) hb);have n1_:=Aside0.mk (Kd.R_elder' (by (with_reducible repeat (first | apply Kd.R_alloc | apply Kd.R_drewN | apply Kd.R_drew));exact HO_287000.out) (Kd.R_base ho0) hb);have n2_:=Aside0.mk (Kd.R_lower (Kd.R_new' ho0 (Kd.R_lt (by (with_reducible repeat (first | apply Kd.R_alloc | apply Kd.R_drewN | apply Kd.R_drew));exact HO_287000.out))) (below_size (by repeat (first | (with_reducible first | exact HB.out | apply below_alloc | apply pw_below_drewN | apply below_drew1 | refine below_set ?_ GE281.out | refine below_set ?_ GE286.out) | exact HB.out))));have n3_:=Aside0.mk (Kd.R_lower (Kd.R_new' ho1 (Kd.R_lt (by (with_reducible repeat (first | apply Kd.R_alloc | apply Kd.R_drewN | apply Kd.R_drew));exact HO_10.out))) (below_size (by repeat (first | (with_reducible first | exact HB.out | apply below_alloc | apply pw_below_drewN | apply below_drew1 | refine below_set ?_ GE281.out | refine below_set ?_ GE286.out) | exact HB.out))));have n4_:=Aside0.mk (blk_below (g:=gb281) (o := .cells #[.slice A0_0 l0_0.length c0_0,.slice A0_1 l0_1.length c0_1,.int .i64 a0_2,.int .i64 a0_3,.slice A0_4 l0_4.length c0_4] 26 (0,0)) (by (with_reducible repeat (first | refine blk_drewN ?_ _ | refine blk_drew ?_ | refine blk_alloc ?_ _));exact BK281.out) hb);have n5_:=Aside0.mk (blk_below (g:=gb286) (o := .cells #[.slice Ao27 x287000_1.length co27,.bool x287001_1] 31 (0,0)) (by (with_reducible repeat (first | refine blk_drewN ?_ _ | refine blk_drew ?_ | refine blk_alloc ?_ _));exact BK286.out) hb);have n6_:=Aside0.mk (below_step (by repeat (first | (with_reducible first | exact HB.out | apply below_alloc | apply pw_below_drewN | apply below_drew1 | refine below_set ?_ GE281.out | refine below_set ?_ GE286.out) | exact HB.out)) hb);clear HO_10;clear HO_287000;clear BK281;clear BK286;clear HB;have HO_10:=n0_;have HO_287000:=n1_;have HO290:=n2_;have HO294:=n3_;have BK281:=n4_;have BK286:=n5_;have HB:=n6_;clear n0_ n1_ n2_ n3_ n4_ n5_ n6_;(try clear hb);(try clear hb2);(try clear hk);(try clear hi);(try clear ho0);(try clear ho1)) | ((with_reducible refine gate_dst (N:=13) rfl ?_);(try (refine gate_guard (by rfl) ?_;dsimp only));refine box_event ?hg (N:=13) ?hd (cs:=#[.slice none 0 0,.bool false]) (t:=31) ?hr ?_;(case hd => rfl);(case hg => rfl);(case hr => first | (go_simp;done) | (go_simp;rfl));intro gb296 hg w29 hbox hb;have n0_:=Aside0.mk (Kd.R_below (by (with_reducible repeat (first | apply Kd.R_alloc | apply Kd.R_drewN | apply Kd.R_drew));exact HO_10.out) hb);have n1_:=Aside0.mk (Kd.R_below (by (with_reducible repeat (first | apply Kd.R_alloc | apply Kd.R_drewN | apply Kd.R_drew));exact HO_287000.out) hb);have n2_:=Aside0.mk (Kd.R_below (by (with_reducible repeat (first | apply Kd.R_alloc | apply Kd.R_drewN | apply Kd.R_drew));exact HO290.out) hb);have n3_:=Aside0.mk (Kd.R_below (by (with_reducible repeat (first | apply Kd.R_alloc | apply Kd.R_drewN | apply Kd.R_drew));exact HO294.out) hb);have n4_:=Aside0.mk (blk_below (g:=gb281) (o := .cells #[.slice A0_0 l0_0.length c0_0,.slice A0_1 l0_1.length c0_1,.int .i64 a0_2,.int .i64 a0_3,.slice A0_4 l0_4.length c0_4] 26 (0,0)) (by (with_reducible repeat (first | refine blk_drewN ?_ _ | refine blk_drew ?_ | refine blk_alloc ?_ _));exact BK281.out) hb);have n5_:=Aside0.mk (blk_below (g:=gb286) (o := .cells #[.slice Ao27 x287000_1.length co27,.bool x287001_1] 31 (0,0)) (by (with_reducible repeat (first | refine blk_drewN ?_ _ | refine blk_drew ?_ | refine blk_alloc ?_ _));exact BK286.out) hb);have n6_:=Aside0.mk (below_step (by repeat (first | (with_reducible first | exact HB.out | apply below_alloc | apply pw_below_drewN | apply below_drew1 | refine below_set ?_ GE281.out | refine below_set ?_ GE286.out) | exact HB.out)) hb);have n7_:=Aside0.mk (hbox);have n8_:=Aside0.mk ((by rw [hg];exact (below_size (by repeat (first | (with_reducible first | exact HB.out | apply below_alloc | apply pw_below_drewN | apply below_drew1 | refine below_set ?_ GE281.out | refine below_set ?_ GE286.out) | exact HB.out))) : w.heap.size ≤ gb296));have n9_:=Aside0.mk ((by rw [hg];exact (below_size (by repeat (first | (with_reducible first | exact HB.out | apply below_alloc | apply pw_below_drewN | apply below_drew1 | refine below_set ?_ GE281.out | refine below_set ?_ GE286.out) | exact HB.out))) : w.heap.size ≤ gb296));have n10_:=Aside0.mk ((by rw [hg];exact Nat.ne_of_lt (blk_lt (g:=gb281) (o := .cells #[.slice A0_0 l0_0.length c0_0,.slice A0_1 l0_1.length c0_1,.int .i64 a0_2,.int .i64 a0_3,.slice A0_4 l0_4.length c0_4] 26 (0,0)) (by (with_reducible repeat (first | refine blk_drewN ?_ _ | refine blk_drew ?_ | refine blk_alloc ?_ _));exact BK281.out)) : gb281 ≠ gb296));have n11_:=Aside0.mk ((by rw [hg];exact Nat.ne_of_gt (blk_lt (g:=gb281) (o := .cells #[.slice A0_0 l0_0.length c0_0,.slice A0_1 l0_1.length c0_1,.int .i64 a0_2,.int .i64 a0_3,.slice A0_4 l0_4.length c0_4] 26 (0,0)) (by (with_reducible repeat (first | refine blk_drewN ?_ _ | refine blk_drew ?_ | refine blk_alloc ?_ _));exact BK281.out)) : gb296 ≠ gb281));have n12_:=Aside0.mk ((by rw [hg];exact Nat.ne_of_lt (blk_lt (g:=gb286) (o := .cells #[.slice Ao27 x287000_1.length co27,.bool x287001_1] 31 (0,0)) (by (with_reducible repeat (first | refine blk_drewN ?_ _ | refine blk_drew ?_ | refine blk_alloc ?_ _));exact BK286.out)) : gb286 ≠ gb296));have n13_:=Aside0.mk ((by rw [hg];exact Nat.ne_of_gt (blk_lt (g:=gb286) (o := .cells #[.slice Ao27 x287000_1.length co27,.bool x287001_1] 31 (0,0)) (by (with_reducible repeat (first | refine blk_drewN ?_ _ | refine blk_drew ?_ | refine blk_alloc ?_ _));exact BK286.out)) : gb296 ≠ gb286));clear HO_10;clear HO_287000;clear HO290;clear HO294;clear BK281;clear BK286;clear HB;have HO_10:=n0_;have HO_287000:=n1_;have HO290:=n2_;have HO294:=n3_;have BK281:=n4_;have BK286:=n5_;have HB:=n6_;have BK296:=n7_;have GW296:=n8_;have GE296:=n9_;have NB281_296:=n10_;have NB296_281:=n11_;have NB286_296:=n12_;have NB296_286:=n13_;clear n0_ n1_ n2_ n3_ n4_ n5_ n6_ n7_ n8_ n9_ n10_ n11_ n12_ n13_;clear hb hbox hg;obtain ⟨Ao30,co30,eo30⟩ := Kd.R_slice HO290.out;subst eo30;have hnb31:=NB296_281.out;have hnc31:=NB281_296.out;have hnb32:=NB296_286.out;have hnc32:=NB286_296.out;have hcz33_0 : w29.cell? ⟨gb296,0,none⟩ = some (.slice none 0 0) := (blk_cell BK296.out 0).trans rfl;have hcz33_1 : w29.cell? ⟨gb296,1,none⟩ = some (.bool false) := (blk_cell BK296.out 1).trans rfl;have hfz33_0:=blk_frozen BK296.out 0;have hfz33_1:=blk_frozen BK296.out 1;have hcz34_0 : w29.cell? ⟨gb286,0,none⟩ = some (.slice Ao27 x287000_1.length co27) := (blk_cell BK286.out 0).trans rfl;have hcz34_1 : w29.cell? ⟨gb286,1,none⟩ = some (.bool x287001_1) := (blk_cell BK286.out 1).trans rfl;have hfz34_0:=blk_frozen BK286.out 0;have hfz34_1:=blk_frozen BK286.out 1;obtain ⟨Ao36,co36,eo36⟩ := Kd.R_slice HO294.out;subst eo36) | ((with_reducible refine gate_builtin (b := .append) (xs:=#[.tmp 58,.tmp 59]) rfl ?_);(try (refine gate_guard (by rfl) ?_;dsimp only));at_builtin;refine Kd.R_append_rows (Kd.int .i64) (w0:=w) w.heap.size rfl (.tmp 58) (.tmp 59) 32 3 (.int .i64 0) 8 rfl Try.underlying32 info3 rfl (by decide) (by omega) u10 x10_1 t292 _ _ _ (fun k_ => some k_ ≠ (.slice Ao36 t292.length co36 : Value).ownBlock) (fun _ => False) rfl rfl ?aO ?aR (fun _ _ h => h) (fun _ h => h.elim) ?aF ?aB ?aS ?aL ?_;(case aR => refine (Kd.R_reads' (e:=3) (base:=w.heap.size) (ok:=fun k_ => (True ∧ some k_ ≠ (u10 : Value).ownBlock)) (n:=t292.length) (c:=co36) ?_).2.2;exact (by (with_reducible repeat (first | apply Kd.R_alloc | apply Kd.R_drewN | apply Kd.R_drew));exact (Kd.R_mono (Kd.R_mono (Kd.R_far (p:=⟨gb286,1,none⟩) (Kd.R_far (p:=⟨gb286,0,none⟩) (Kd.R_far (p:=⟨gb296,1,none⟩) (Kd.R_far (p:=⟨gb296,0,none⟩) (Kd.R_types (Kd.R_types HO294.out BK296.out (by decide)) BK286.out (by decide)) (fun _ hk => hk.1.2) (.slice Ao30 t288.length co30)) (fun _ hk => hk.1.2) (.bool t291)) (fun _ hk => hk.2) (.slice Ao30 t288.length co30)) (fun _ hk => hk.2) (.bool t291)) (fun _ h_ => h_.1)) (fun _ h_ => h_.1))));(case aB => exact (by repeat (first | (with_reducible first | exact HB.out | apply below_alloc | apply pw_below_drewN | apply below_drew1 | refine below_set ?_ GE281.out | refine below_set ?_ GE286.out | refine below_set ?_ GE296.out) | exact HB.out)));(case aF => exact (fun k_ hk => Kd.fresh' (Kd.R_lt (by (with_reducible repeat (first | apply Kd.R_alloc | apply Kd.R_drewN | apply Kd.R_drew));exact (Kd.R_mono (Kd.R_mono (Kd.R_far (p:=⟨gb286,1,none⟩) (Kd.R_far (p:=⟨gb286,0,none⟩) (Kd.R_far (p:=⟨gb296,1,none⟩) (Kd.R_far (p:=⟨gb296,0,none⟩) (Kd.R_types (Kd.R_types HO294.out BK296.out (by decide)) BK286.out (by decide)) (fun _ hk => hk.1.2) (.slice Ao30 t288.length co30)) (fun _ hk => hk.1.2) (.bool t291)) (fun _ hk => hk.2) (.slice Ao30 t288.length co30)) (fun _ hk => hk.2) (.bool t291)) (fun _ h_ => h_.1)) (fun _ h_ => h_.1)))) k_ hk));(case aO => exact (by (with_reducible repeat (first | apply Kd.R_alloc | apply Kd.R_drewN | apply Kd.R_drew));exact Kd.R_mono (Kd.R_far (p:=⟨gb286,1,none⟩) (Kd.R_far (p:=⟨gb286,0,none⟩) (Kd.R_far (p:=⟨gb296,1,none⟩) (Kd.R_far (p:=⟨gb296,0,none⟩) (Kd.R_types (Kd.R_types HO_10.out BK296.out (by decide)) BK286.out (by decide)) (fun _ hk => hk.1.2) (.slice Ao30 t288.length co30)) (fun _ hk => hk.1.2) (.bool t291)) (fun _ hk => hk.2) (.slice Ao30 t288.length co30)) (fun _ hk => hk.2) (.bool t291)) (fun _ hk => hk.1.1.2)));(case aS => exact (below_size (by repeat (first | (with_reducible first | exact HB.out | apply below_alloc | apply pw_below_drewN | apply below_drew1 | refine below_set ?_ GE281.out | refine below_set ?_ GE286.out | refine below_set ?_ GE296.out) | exact HB.out))));(case aL => have:=LMc23.out;omega);intro v298 w35 ho hb hg hat;rw [← Ny297.out] at ho;have n0_:=Aside0.mk (Kd.R_over' (by (with_reducible repeat (first | apply Kd.R_alloc | apply Kd.R_drewN | apply Kd.R_drew));exact (Kd.R_mono (Kd.R_mono (Kd.R_far (p:=⟨gb286,1,none⟩) (Kd.R_far (p:=⟨gb286,0,none⟩) (Kd.R_far (p:=⟨gb296,1,none⟩) (Kd.R_far (p:=⟨gb296,0,none⟩) (Kd.R_types (Kd.R_types HO_287000.out BK296.out (by decide)) BK286.out (by decide)) (fun _ hk => hk.1.2) (.slice Ao30 t288.length co30)) (fun _ hk => hk.1.2) (.bool t291)) (fun _ hk => hk.2) (.slice Ao30 t288.length co30)) (fun _ hk => hk.2) (.bool t291)) (fun _ h_ => h_.1)) (fun _ h_ => h_.1))) (Kd.R_typed (by (with_reducible repeat (first | apply Kd.R_alloc | apply Kd.R_drewN | apply Kd.R_drew));exact (Kd.R_mono (Kd.R_mono (Kd.R_far (p:=⟨gb286,1,none⟩) (Kd.R_far (p:=⟨gb286,0,none⟩) (Kd.R_far (p:=⟨gb296,1,none⟩) (Kd.R_far (p:=⟨gb296,0,none⟩) (Kd.R_types (Kd.R_types HO_10.out BK296.out (by decide)) BK286.out (by decide)) (fun _ hk => hk.1.2) (.slice Ao30 t288.length co30)) (fun _ hk => hk.1.2) (.bool t291)) (fun _ hk => hk.2) (.slice Ao30 t288.length co30)) (fun _ hk => hk.2) (.bool t291)) (fun _ h_ => h_.1)) (fun _ h_ => h_.1)))) (by decide) hg);have n1_:=Aside0.mk (blk_grown (g:=gb281) (o := .cells #[.slice A0_0 l0_0.length c0_0,.slice A0_1 l0_1.length c0_1,.int .i64 a0_2,.int .i64 a0_3,.slice A0_4 l0_4.length c0_4] 26 (0,0)) (by (with_reducible repeat (first | refine blk_drewN ?_ _ | refine blk_drew ?_ | refine blk_alloc ?_ _));refine blk_far ?_ NB281_286.out _;(with_reducible repeat (first | refine blk_drewN ?_ _ | refine blk_drew ?_ | refine blk_alloc ?_ _));refine blk_far ?_ NB281_286.out _;(with_reducible repeat (first | refine blk_drewN ?_ _ | refine blk_drew ?_ | refine blk_alloc ?_ _));refine blk_far ?_ NB281_296.out _;(with_reducible repeat (first | refine blk_drewN ?_ _ | refine blk_drew ?_ | refine blk_alloc ?_ _));refine blk_far ?_ NB281_296.out _;(with_reducible repeat (first | refine blk_drewN ?_ _ | refine blk_drew ?_ | refine blk_alloc ?_ _));exact BK281.out) hg (Kd.R_ne HO_10.out BK281.out (by decide)));have n2_:=Aside0.mk (blk_grown (g:=gb286) (o := .cells #[.slice Ao30 t288.length co30,.bool t291] 31 (0,0)) (by (with_reducible repeat (first | refine blk_drewN ?_ _ | refine blk_drew ?_ | refine blk_alloc ?_ _));refine blk_put (cs:=#[.slice Ao30 t288.length co30,.bool x287001_1]) ?_ 1 _ rfl;(with_reducible repeat (first | refine blk_drewN ?_ _ | refine blk_drew ?_ | refine blk_alloc ?_ _));refine blk_put (cs:=#[.slice Ao27 x287000_1.length co27,.bool x287001_1]) ?_ 0 _ rfl;(with_reducible repeat (first | refine blk_drewN ?_ _ | refine blk_drew ?_ | refine blk_alloc ?_ _));refine blk_far ?_ NB286_296.out _;(with_reducible repeat (first | refine blk_drewN ?_ _ | refine blk_drew ?_ | refine blk_alloc ?_ _));refine blk_far ?_ NB286_296.out _;(with_reducible repeat (first | refine blk_drewN ?_ _ | refine blk_drew ?_ | refine blk_alloc ?_ _));exact BK286.out) hg (Kd.R_ne HO_10.out BK286.out (by decide)));have n3_:=Aside0.mk (Kd.R_over' (by (with_reducible repeat (first | apply Kd.R_alloc | apply Kd.R_drewN | apply Kd.R_drew));exact (Kd.R_mono (Kd.R_mono (Kd.R_far (p:=⟨gb286,1,none⟩) (Kd.R_far (p:=⟨gb286,0,none⟩) (Kd.R_far (p:=⟨gb296,1,none⟩) (Kd.R_far (p:=⟨gb296,0,none⟩) (Kd.R_types (Kd.R_types HO290.out BK296.out (by decide)) BK286.out (by decide)) (fun _ hk => hk.1.2) (.slice Ao30 t288.length co30)) (fun _ hk => hk.1.2) (.bool t291)) (fun _ hk => hk.2) (.slice Ao30 t288.length co30)) (fun _ hk => hk.2) (.bool t291)) (fun _ h_ => h_.1)) (fun _ h_ => h_.1))) (Kd.R_typed (by (with_reducible repeat (first | apply Kd.R_alloc | apply Kd.R_drewN | apply Kd.R_drew));exact (Kd.R_mono (Kd.R_mono (Kd.R_far (p:=⟨gb286,1,none⟩) (Kd.R_far (p:=⟨gb286,0,none⟩) (Kd.R_far (p:=⟨gb296,1,none⟩) (Kd.R_far (p:=⟨gb296,0,none⟩) (Kd.R_types (Kd.R_types HO_10.out BK296.out (by decide)) BK286.out (by decide)) (fun _ hk => hk.1.2) (.slice Ao30 t288.length co30)) (fun _ hk => hk.1.2) (.bool t291)) (fun _ hk => hk.2) (.slice Ao30 t288.length co30)) (fun _ hk => hk.2) (.bool t291)) (fun _ h_ => h_.1)) (fun _ h_ => h_.1)))) (by decide) hg);have n4_:=Aside0.mk (Kd.R_after (ok:=(fun _ => True)) (by (with_reducible repeat (first | apply Kd.R_alloc | apply Kd.R_drewN | apply Kd.R_drew));exact Kd.R_mono (Kd.R_far (p:=⟨gb286,1,none⟩) (Kd.R_far (p:=⟨gb286,0,none⟩) (Kd.R_far (p:=⟨gb296,1,none⟩) (Kd.R_far (p:=⟨gb296,0,none⟩) (Kd.R_types (Kd.R_types HO294.out BK296.out (by decide)) BK286.out (by decide)) (fun _ hk => hk.1.2) (.slice Ao30 t288.length co30)) (fun _ hk => hk.1.2) (.bool t291)) (fun _ hk => hk.2) (.slice Ao30 t288.length co30)) (fun _ hk => hk.2) (.bool t291)) (fun _ hk => ⟨trivial,hk.1.1.2⟩)) hg hat);have n5_:=Aside0.mk (blk_grown (g:=gb296) (o := .cells #[.slice Ao30 t288.length co30,.bool t291] 31 (0,0)) (by (with_reducible repeat (first | refine blk_drewN ?_ _ | refine blk_drew ?_ | refine blk_alloc ?_ _));refine blk_far ?_ NB296_286.out _;(with_reducible repeat (first | refine blk_drewN ?_ _ | refine blk_drew ?_ | refine blk_alloc ?_ _));refine blk_far ?_ NB296_286.out _;(with_reducible repeat (first | refine blk_drewN ?_ _ | refine blk_drew ?_ | refine blk_alloc ?_ _));refine blk_put (cs:=#[.slice Ao30 t288.length co30,.bool false]) ?_ 1 _ rfl;(with_reducible repeat (first | refine blk_drewN ?_ _ | refine blk_drew ?_ | refine blk_alloc ?_ _));refine blk_put (cs:=#[.slice none 0 0,.bool false]) ?_ 0 _ rfl;(with_reducible repeat (first | refine blk_drewN ?_ _ | refine blk_drew ?_ | refine blk_alloc ?_ _));exact BK296.out) hg (Kd.R_ne HO_10.out BK296.out (by decide)));have n6_:=Aside0.mk (hb);have n7_:=Aside0.mk (ho);clear HO_287000;clear BK281;clear BK286;clear HO290;clear HO294;clear BK296;clear HB;clear HO_10;have HO_287000:=n0_;have BK281:=n1_;have BK286:=n2_;have HO290:=n3_;have HO294:=n4_;have BK296:=n5_;have HB:=n6_;have HO299:=n7_;clear n0_ n1_ n2_ n3_ n4_ n5_ n6_ n7_;clear ho hb hg hat))
             go_roundg kj13
             case measure => have:=HK1.out;have:=HJ13.out;omega
             case rel => exact ⟨(y297),(wrap64 (x11_1 + 1)),(t288),(t291),(.slice Ao30 t288.length co30),(by first | rfl | (simp;done) | (simp [*];done)),H',⟨by have:=HK1.out;have:=HJ13.out;omega⟩,⟨by (with_reducible repeat (first | apply Kd.R_alloc | apply Kd.R_drewN | apply Kd.R_drew));exact Kd.R_mono HO299.out (fun _ hk => trivial)⟩,⟨by (with_reducible repeat (first | apply Kd.R_alloc | apply Kd.R_drewN | apply Kd.R_drew));exact Kd.R_mono HO290.out (fun _ hk => trivial)⟩,⟨by (with_reducible repeat (first | refine blk_drewN ?_ _ | refine blk_drew ?_ | refine blk_alloc ?_ _));exact BK281.out⟩,⟨by (with_reducible repeat (first | refine blk_drewN ?_ _ | refine blk_drew ?_ | refine blk_alloc ?_ _));exact BK286.out⟩,⟨by repeat (first | (with_reducible first | exact HB.out | apply below_alloc | apply pw_below_drewN | apply below_drew1 | refine below_set ?_ GE281.out | refine below_set ?_ GE286.out | refine below_set ?_ GE296.out) | exact HB.out)⟩⟩
           · rw [if_neg c22] at H
             have c22b0 : (t295 == 0) = false:=beq_eq_false_iff_ne.mpr c22
             have c22b1 : (t295 != 0) = true:=bne_iff_ne.mpr c22
             simp only [Option.some.injEq,Prod.mk.injEq] at H
             obtain ⟨rfl,rfl,rfl⟩ := H
             have hnb37:=NB281_286.out
             have hnc37:=NB286_281.out
             have hcz38_0 : wc.cell? ⟨gb281,0,none⟩ = some (.slice A0_0 l0_0.length c0_0) := (blk_cell BK281.out 0).trans rfl
             have hcz38_1 : wc.cell? ⟨gb281,1,none⟩ = some (.slice A0_1 l0_1.length c0_1) := (blk_cell BK281.out 1).trans rfl
             have hcz38_2 : wc.cell? ⟨gb281,2,none⟩ = some (.int .i64 a0_2) := (blk_cell BK281.out 2).trans rfl
             have hcz38_3 : wc.cell? ⟨gb281,3,none⟩ = some (.int .i64 a0_3) := (blk_cell BK281.out 3).trans rfl
             have hcz38_4 : wc.cell? ⟨gb281,4,none⟩ = some (.slice A0_4 l0_4.length c0_4) := (blk_cell BK281.out 4).trans rfl
             have hfz38_0:=blk_frozen BK281.out 0
             have hfz38_1:=blk_frozen BK281.out 1
             have hfz38_2:=blk_frozen BK281.out 2
             have hfz38_3:=blk_frozen BK281.out 3
             have hfz38_4:=blk_frozen BK281.out 4
             have hcz39_0 : wc.cell? ⟨gb286,0,none⟩ = some (u287000) := (blk_cell BK286.out 0).trans rfl
             have hcz39_1 : wc.cell? ⟨gb286,1,none⟩ = some (.bool x287001_1) := (blk_cell BK286.out 1).trans rfl
             have hfz39_0:=blk_frozen BK286.out 0
             have hfz39_1:=blk_frozen BK286.out 1
             obtain ⟨Ao40,co40,eo40⟩ := Kd.R_slice HO_287000.out
             subst eo40
             go_wp2_with (first | ((with_reducible refine gate_callee (f:=26) rfl ?_);refine goesL_ (some 49) rfl rfl Try.func26 (by kernel_rfl) rfl #[.agg #[.slice A0_0 l0_0.length c0_0,.slice A0_1 l0_1.length c0_1,.int .i64 a0_2,.int .i64 a0_3,.slice A0_4 l0_4.length c0_4],.slice A1 l1.length c1,.agg #[.slice Ao40 x287000_1.length co40,.bool x287001_1],.int .i64 (rd l2 x11_1)] rfl (by (try simp only [List.map_toArray,List.map_cons,List.map_nil]);first | done | rfl | (simp only [List.length_drop,List.length_take];rfl)) ?_;(with_reducible refine (regletref16_Feed.calls kj13 _ _ l0_0 _ _ l0_1 a0_2 a0_3 _ _ l0_4 _ _ l1 _ _ x287000_1 x287001_1 (rd l2 x11_1) t288 t291 t292 t295 _ ?side1 ?side2 ?side3 ?side4 ?side5 ?side6 ?side7 ?side8 ?side9 ?side10 A21.out).mono ?_);(case side1 => repeat (first | exact (Kd.C_below HR0_0.out HB.out) | (with_reducible refine Kd.C_alloc ?_ _) | (with_reducible refine Kd.C_drewN ?_ _) | (with_reducible refine Kd.C_drew ?_)));(case side2 => exact HC0_0.out);(case side3 => repeat (first | exact (Kd.C_below HR0_1.out HB.out) | (with_reducible refine Kd.C_alloc ?_ _) | (with_reducible refine Kd.C_drewN ?_ _) | (with_reducible refine Kd.C_drew ?_)));(case side4 => exact HC0_1.out);(case side5 => repeat (first | exact (Kd.C_below HR0_4.out HB.out) | (with_reducible refine Kd.C_alloc ?_ _) | (with_reducible refine Kd.C_drewN ?_ _) | (with_reducible refine Kd.C_drew ?_)));(case side6 => exact HC0_4.out);(case side7 => repeat (first | exact (Kd.C_below HR1.out HB.out) | (with_reducible refine Kd.C_alloc ?_ _) | (with_reducible refine Kd.C_drewN ?_ _) | (with_reducible refine Kd.C_drew ?_)));(case side8 => exact HC1.out);(case side9 => repeat (first | exact (Kd.R_reads' HO_287000.out).2.2 | (with_reducible refine Kd.C_alloc ?_ _) | (with_reducible refine Kd.C_drewN ?_ _) | (with_reducible refine Kd.C_drew ?_)));(case side10 => exact (Kd.R_reads' HO_287000.out).2.1);rintro e w41 ⟨v289,v293,rfl,ho0,ho1,hb⟩;refine ⟨_,rfl,?_⟩;have n0_:=Aside0.mk (Kd.R_elder' (by (with_reducible repeat (first | apply Kd.R_alloc | apply Kd.R_drewN | apply Kd.R_drew));exact HO_10.out) (Kd.R_base ho1) hb);have n1_:=Aside0.mk (Kd.R_elder' (by (with_reducible repeat (first | apply Kd.R_alloc | apply Kd.R_drewN | apply Kd.R_drew));exact HO_287000.out) (Kd.R_base ho0) hb);have n2_:=Aside0.mk (Kd.R_lower (Kd.R_new' ho0 (Kd.R_lt (by (with_reducible repeat (first | apply Kd.R_alloc | apply Kd.R_drewN | apply Kd.R_drew));exact HO_287000.out))) (below_size (by repeat (first | (with_reducible first | exact HB.out | apply below_alloc | apply pw_below_drewN | apply below_drew1 | refine below_set ?_ GE281.out | refine below_set ?_ GE286.out) | exact HB.out))));have n3_:=Aside0.mk (Kd.R_lower (Kd.R_new' ho1 (Kd.R_lt (by (with_reducible repeat (first | apply Kd.R_alloc | apply Kd.R_drewN | apply Kd.R_drew));exact HO_10.out))) (below_size (by repeat (first | (with_reducible first | exact HB.out | apply below_alloc | apply pw_below_drewN | apply below_drew1 | refine below_set ?_ GE281.out | refine below_set ?_ GE286.out) | exact HB.out))));have n4_:=Aside0.mk (blk_below (g:=gb281) (o := .cells #[.slice A0_0 l0_0.length c0_0,.slice A0_1 l0_1.length c0_1,.int .i64 a0_2,.int .i64 a0_3,.slice A0_4 l0_4.length c0_4] 26 (0,0)) (by (with_reducible repeat (first | refine blk_drewN ?_ _ | refine blk_drew ?_ | refine blk_alloc ?_ _));exact BK281.out) hb);have n5_:=Aside0.mk (blk_below (g:=gb286) (o := .cells #[.slice Ao40 x287000_1.length co40,.bool x287001_1] 31 (0,0)) (by (with_reducible repeat (first | refine blk_drewN ?_ _ | refine blk_drew ?_ | refine blk_alloc ?_ _));exact BK286.out) hb);have n6_:=Aside0.mk (below_step (by repeat (first | (with_reducible first | exact HB.out | apply below_alloc | apply pw_below_drewN | apply below_drew1 | refine below_set ?_ GE281.out | refine below_set ?_ GE286.out) | exact HB.out)) hb);clear HO_10;clear HO_287000;clear BK281;clear BK286;clear HB;have HO_10:=n0_;have HO_287000:=n1_;have HO290:=n2_;have HO294:=n3_;have BK281:=n4_;have BK286:=n5_;have HB:=n6_;clear n0_ n1_ n2_ n3_ n4_ n5_ n6_;(try clear hb);(try clear hb2);(try clear hk);(try clear hi);(try clear ho0);(try clear ho1)) | ((with_reducible refine gate_dst (N:=13) rfl ?_);(try (refine gate_guard (by rfl) ?_;dsimp only));refine box_event ?hg (N:=13) ?hd (cs:=#[.slice none 0 0,.bool false]) (t:=31) ?hr ?_;(case hd => rfl);(case hg => rfl);(case hr => first | (go_simp;done) | (go_simp;rfl));intro gb296 hg w42 hbox hb;have n0_:=Aside0.mk (Kd.R_below (by (with_reducible repeat (first | apply Kd.R_alloc | apply Kd.R_drewN | apply Kd.R_drew));exact HO_10.out) hb);have n1_:=Aside0.mk (Kd.R_below (by (with_reducible repeat (first | apply Kd.R_alloc | apply Kd.R_drewN | apply Kd.R_drew));exact HO_287000.out) hb);have n2_:=Aside0.mk (Kd.R_below (by (with_reducible repeat (first | apply Kd.R_alloc | apply Kd.R_drewN | apply Kd.R_drew));exact HO290.out) hb);have n3_:=Aside0.mk (Kd.R_below (by (with_reducible repeat (first | apply Kd.R_alloc | apply Kd.R_drewN | apply Kd.R_drew));exact HO294.out) hb);have n4_:=Aside0.mk (blk_below (g:=gb281) (o := .cells #[.slice A0_0 l0_0.length c0_0,.slice A0_1 l0_1.length c0_1,.int .i64 a0_2,.int .i64 a0_3,.slice A0_4 l0_4.length c0_4] 26 (0,0)) (by (with_reducible repeat (first | refine blk_drewN ?_ _ | refine blk_drew ?_ | refine blk_alloc ?_ _));exact BK281.out) hb);have n5_:=Aside0.mk (blk_below (g:=gb286) (o := .cells #[.slice Ao40 x287000_1.length co40,.bool x287001_1] 31 (0,0)) (by (with_reducible repeat (first | refine blk_drewN ?_ _ | refine blk_drew ?_ | refine blk_alloc ?_ _));exact BK286.out) hb);have n6_:=Aside0.mk (below_step (by repeat (first | (with_reducible first | exact HB.out | apply below_alloc | apply pw_below_drewN | apply below_drew1 | refine below_set ?_ GE281.out | refine below_set ?_ GE286.out) | exact HB.out)) hb);have n7_:=Aside0.mk (hbox);have n8_:=Aside0.mk ((by rw [hg];exact (below_size (by repeat (first | (with_reducible first | exact HB.out | apply below_alloc | apply pw_below_drewN | apply below_drew1 | refine below_set ?_ GE281.out | refine below_set ?_ GE286.out) | exact HB.out))) : w.heap.size ≤ gb296));have n9_:=Aside0.mk ((by rw [hg];exact (below_size (by repeat (first | (with_reducible first | exact HB.out | apply below_alloc | apply pw_below_drewN | apply below_drew1 | refine below_set ?_ GE281.out | refine below_set ?_ GE286.out) | exact HB.out))) : w.heap.size ≤ gb296));have n10_:=Aside0.mk ((by rw [hg];exact Nat.ne_of_lt (blk_lt (g:=gb281) (o := .cells #[.slice A0_0 l0_0.length c0_0,.slice A0_1 l0_1.length c0_1,.int .i64 a0_2,.int .i64 a0_3,.slice A0_4 l0_4.length c0_4] 26 (0,0)) (by (with_reducible repeat (first | refine blk_drewN ?_ _ | refine blk_drew ?_ | refine blk_alloc ?_ _));exact BK281.out)) : gb281 ≠ gb296));have n11_:=Aside0.mk ((by rw [hg];exact Nat.ne_of_gt (blk_lt (g:=gb281) (o := .cells #[.slice A0_0 l0_0.length c0_0,.slice A0_1 l0_1.length c0_1,.int .i64 a0_2,.int .i64 a0_3,.slice A0_4 l0_4.length c0_4] 26 (0,0)) (by (with_reducible repeat (first | refine blk_drewN ?_ _ | refine blk_drew ?_ | refine blk_alloc ?_ _));exact BK281.out)) : gb296 ≠ gb281));have n12_:=Aside0.mk ((by rw [hg];exact Nat.ne_of_lt (blk_lt (g:=gb286) (o := .cells #[.slice Ao40 x287000_1.length co40,.bool x287001_1] 31 (0,0)) (by (with_reducible repeat (first | refine blk_drewN ?_ _ | refine blk_drew ?_ | refine blk_alloc ?_ _));exact BK286.out)) : gb286 ≠ gb296));have n13_:=Aside0.mk ((by rw [hg];exact Nat.ne_of_gt (blk_lt (g:=gb286) (o := .cells #[.slice Ao40 x287000_1.length co40,.bool x287001_1] 31 (0,0)) (by (with_reducible repeat (first | refine blk_drewN ?_ _ | refine blk_drew ?_ | refine blk_alloc ?_ _));exact BK286.out)) : gb296 ≠ gb286));clear HO_10;clear HO_287000;clear HO290;clear HO294;clear BK281;clear BK286;clear HB;have HO_10:=n0_;have HO_287000:=n1_;have HO290:=n2_;have HO294:=n3_;have BK281:=n4_;have BK286:=n5_;have HB:=n6_;have BK296:=n7_;have GW296:=n8_;have GE296:=n9_;have NB281_296:=n10_;have NB296_281:=n11_;have NB286_296:=n12_;have NB296_286:=n13_;clear n0_ n1_ n2_ n3_ n4_ n5_ n6_ n7_ n8_ n9_ n10_ n11_ n12_ n13_;clear hb hbox hg;obtain ⟨Ao43,co43,eo43⟩ := Kd.R_slice HO290.out;subst eo43;have hnb44:=NB296_281.out;have hnc44:=NB281_296.out;have hnb45:=NB296_286.out;have hnc45:=NB286_296.out;have hcz46_0 : w42.cell? ⟨gb296,0,none⟩ = some (.slice none 0 0) := (blk_cell BK296.out 0).trans rfl;have hcz46_1 : w42.cell? ⟨gb296,1,none⟩ = some (.bool false) := (blk_cell BK296.out 1).trans rfl;have hfz46_0:=blk_frozen BK296.out 0;have hfz46_1:=blk_frozen BK296.out 1))
             go_ret3
             exact ⟨_,by first | rfl | (simp [errW_none,errW_some] <;> rfl) | (simp [*,errW_none,errW_some] <;> rfl),by first | exact Kd.R_nil _ _ _ _ _ | exact Kd.N_nil _ _ _ _ _ | exact Kd.V_nil _ _ _ _ _ | exact Kd.Q_nil _ _ _ _ _ | exact Kd.S_nil _ _ _ _ _,by repeat (first | (with_reducible first | exact HB.out | apply below_alloc | apply pw_below_drewN | apply below_drew1 | refine below_set ?_ GE281.out | refine below_set ?_ GE286.out | refine below_set ?_ GE296.out) | exact HB.out)⟩
     · rw [if_neg c12] at H
       have c12b0 : decide (x11_1 < (l2.length : Int)) = false:=decide_eq_false c12
       clear c12
       replace H:=Option.bind_eq_some_iff.mp H
       obtain ⟨⟨t300,t303,t304,t307⟩,A470,H⟩ := H
       replace H : (if t307 = 0 then (if x10_1.length + t304.length < 17592186044416 then (regletref16_Run.l0 k1 l1 l2 (x10_1 ++ t304) (wrap64 (x11_1 + 1)) l0_0 l0_1 a0_2 a0_3 l0_4 t300 t303) else (none)) else (some (([] : List Int),t307,x11_1))) = some (r1,r2,r3) := H
       have A47:=Aside0.mk A470
       clear A470
       by_cases c48 : t307 = 0
       · rw [if_pos c48] at H
         have c48b0 : (t307 == 0) = true:=beq_iff_eq.mpr c48
         have c48b1 : (t307 != 0) = false:=bne_eq_false_iff_eq.mpr c48
         clear c48
         by_cases c49 : x10_1.length + t304.length < 17592186044416
         rotate_left
         · rw [if_neg c49] at H
           exact absurd H (by simp)
         rw [if_pos c49] at H
         have LMc49:=Aside0.mk c49
         clear c49
         obtain ⟨y309,hy309⟩ : ∃ y_ : List Int,y_ = (x10_1 ++ t304) := ⟨_,rfl⟩
         replace H : (regletref16_Run.l0 k1 l1 l2 y309 (wrap64 (x11_1 + 1)) l0_0 l0_1 a0_2 a0_3 l0_4 t300 t303) = some (r1,r2,r3) := by first | (rw [hy309];with_reducible exact H) | (have H2_:=(Option.bind_some _ _).symm.trans H;rw [hy309];with_reducible exact H2_) | (have H2_:=(Option.bind_some _ _).symm.trans H;with_reducible exact H2_) | with_reducible exact H | (rw [hy309];exact H) | exact H
         have Ny309:=Aside0.mk hy309
         clear hy309
         have H' := Aside0.mk H
         clear H
         have hnb50:=NB281_286.out
         have hnc50:=NB286_281.out
         have hcz51_0 : wr.cell? ⟨gb281,0,none⟩ = some (.slice A0_0 l0_0.length c0_0) := (blk_cell BK281.out 0).trans rfl
         have hcz51_1 : wr.cell? ⟨gb281,1,none⟩ = some (.slice A0_1 l0_1.length c0_1) := (blk_cell BK281.out 1).trans rfl
         have hcz51_2 : wr.cell? ⟨gb281,2,none⟩ = some (.int .i64 a0_2) := (blk_cell BK281.out 2).trans rfl
         have hcz51_3 : wr.cell? ⟨gb281,3,none⟩ = some (.int .i64 a0_3) := (blk_cell BK281.out 3).trans rfl
         have hcz51_4 : wr.cell? ⟨gb281,4,none⟩ = some (.slice A0_4 l0_4.length c0_4) := (blk_cell BK281.out 4).trans rfl
         have hfz51_0:=blk_frozen BK281.out 0
         have hfz51_1:=blk_frozen BK281.out 1
         have hfz51_2:=blk_frozen BK281.out 2
         have hfz51_3:=blk_frozen BK281.out 3
         have hfz51_4:=blk_frozen BK281.out 4
         have hcz52_0 : wr.cell? ⟨gb286,0,none⟩ = some (u287000) := (blk_cell BK286.out 0).trans rfl
         have hcz52_1 : wr.cell? ⟨gb286,1,none⟩ = some (.bool x287001_1) := (blk_cell BK286.out 1).trans rfl
         have hfz52_0:=blk_frozen BK286.out 0
         have hfz52_1:=blk_frozen BK286.out 1
         obtain ⟨Ao53,co53,eo53⟩ := Kd.R_slice HO_287000.out
         subst eo53
         go_wp2_with (first | ((with_reducible refine gate_callee (f:=26) rfl ?_);refine goesL_ (some 49) rfl rfl Try.func26 (by kernel_rfl) rfl #[.agg #[.slice A0_0 l0_0.length c0_0,.slice A0_1 l0_1.length c0_1,.int .i64 a0_2,.int .i64 a0_3,.slice A0_4 l0_4.length c0_4],.slice A1 l1.length c1,.agg #[.slice Ao53 x287000_1.length co53,.bool x287001_1],.int .i64 (l0_1.length : Int)] rfl (by (try simp only [List.map_toArray,List.map_cons,List.map_nil]);first | done | rfl | (simp only [List.length_drop,List.length_take];rfl)) ?_;(with_reducible refine (regletref16_Feed.calls k1 _ _ l0_0 _ _ l0_1 a0_2 a0_3 _ _ l0_4 _ _ l1 _ _ x287000_1 x287001_1 (l0_1.length : Int) t300 t303 t304 t307 _ ?side1 ?side2 ?side3 ?side4 ?side5 ?side6 ?side7 ?side8 ?side9 ?side10 A47.out).mono ?_);(case side1 => repeat (first | exact (Kd.C_below HR0_0.out HB.out) | (with_reducible refine Kd.C_alloc ?_ _) | (with_reducible refine Kd.C_drewN ?_ _) | (with_reducible refine Kd.C_drew ?_)));(case side2 => exact HC0_0.out);(case side3 => repeat (first | exact (Kd.C_below HR0_1.out HB.out) | (with_reducible refine Kd.C_alloc ?_ _) | (with_reducible refine Kd.C_drewN ?_ _) | (with_reducible refine Kd.C_drew ?_)));(case side4 => exact HC0_1.out);(case side5 => repeat (first | exact (Kd.C_below HR0_4.out HB.out) | (with_reducible refine Kd.C_alloc ?_ _) | (with_reducible refine Kd.C_drewN ?_ _) | (with_reducible refine Kd.C_drew ?_)));(case side6 => exact HC0_4.out);(case side7 => repeat (first | exact (Kd.C_below HR1.out HB.out) | (with_reducible refine Kd.C_alloc ?_ _) | (with_reducible refine Kd.C_drewN ?_ _) | (with_reducible refine Kd.C_drew ?_)));(case side8 => exact HC1.out);(case side9 => repeat (first | exact (Kd.R_reads' HO_287000.out).2.2 | (with_reducible refine Kd.C_alloc ?_ _) | (with_reducible refine Kd.C_drewN ?_ _) | (with_reducible refine Kd.C_drew ?_)));(case side10 => exact (Kd.R_reads' HO_287000.out).2.1);rintro e w54 ⟨v301,v305,rfl,ho0,ho1,hb⟩;refine ⟨_,rfl,?_⟩;have n0_:=Aside0.mk (Kd.R_elder' (by (with_reducible repeat (first | apply Kd.R_alloc | apply Kd.R_drewN | apply Kd.R_drew));exact HO_10.out) (Kd.R_base ho1) hb);have n1_:=Aside0.mk (Kd.R_elder' (by (with_reducible repeat (first | apply Kd.R_alloc | apply Kd.R_drewN | apply Kd.R_drew));exact HO_287000.out) (Kd.R_base ho0) hb);have n2_:=Aside0.mk (Kd.R_lower (Kd.R_new' ho0 (Kd.R_lt (by (with_reducible repeat (first | apply Kd.R_alloc | apply Kd.R_drewN | apply Kd.R_drew));exact HO_287000.out))) (below_size (by repeat (first | (with_reducible first | exact HB.out | apply below_alloc | apply pw_below_drewN | apply below_drew1 | refine below_set ?_ GE281.out | refine below_set ?_ GE286.out) | exact HB.out))));have n3_:=Aside0.mk (Kd.R_lower (Kd.R_new' ho1 (Kd.R_lt (by (with_reducible repeat (first | apply Kd.R_alloc | apply Kd.R_drewN | apply Kd.R_drew));exact HO_10.out))) (below_size (by repeat (first | (with_reducible first | exact HB.out | apply below_alloc | apply pw_below_drewN | apply below_drew1 | refine below_set ?_ GE281.out | refine below_set ?_ GE286.out) | exact HB.out))));have n4_:=Aside0.mk (blk_below (g:=gb281) (o := .cells #[.slice A0_0 l0_0.length c0_0,.slice A0_1 l0_1.length c0_1,.int .i64 a0_2,.int .i64 a0_3,.slice A0_4 l0_4.length c0_4] 26 (0,0)) (by (with_reducible repeat (first | refine blk_drewN ?_ _ | refine blk_drew ?_ | refine blk_alloc ?_ _));exact BK281.out) hb);have n5_:=Aside0.mk (blk_below (g:=gb286) (o := .cells #[.slice Ao53 x287000_1.length co53,.bool x287001_1] 31 (0,0)) (by (with_reducible repeat (first | refine blk_drewN ?_ _ | refine blk_drew ?_ | refine blk_alloc ?_ _));exact BK286.out) hb);have n6_:=Aside0.mk (below_step (by repeat (first | (with_reducible first | exact HB.out | apply below_alloc | apply pw_below_drewN | apply below_drew1 | refine below_set ?_ GE281.out | refine below_set ?_ GE286.out) | exact HB.out)) hb);clear HO_10;clear HO_287000;clear BK281;clear BK286;clear HB;have HO_10:=n0_;have HO_287000:=n1_;have HO302:=n2_;have HO306:=n3_;have BK281:=n4_;have BK286:=n5_;have HB:=n6_;clear n0_ n1_ n2_ n3_ n4_ n5_ n6_;(try clear hb);(try clear hb2);(try clear hk);(try clear hi);(try clear ho0);(try clear ho1)) | ((with_reducible refine gate_dst (N:=13) rfl ?_);(try (refine gate_guard (by rfl) ?_;dsimp only));refine box_event ?hg (N:=13) ?hd (cs:=#[.slice none 0 0,.bool false]) (t:=31) ?hr ?_;(case hd => rfl);(case hg => rfl);(case hr => first | (go_simp;done) | (go_simp;rfl));intro gb308 hg w55 hbox hb;have n0_:=Aside0.mk (Kd.R_below (by (with_reducible repeat (first | apply Kd.R_alloc | apply Kd.R_drewN | apply Kd.R_drew));exact HO_10.out) hb);have n1_:=Aside0.mk (Kd.R_below (by (with_reducible repeat (first | apply Kd.R_alloc | apply Kd.R_drewN | apply Kd.R_drew));exact HO_287000.out) hb);have n2_:=Aside0.mk (Kd.R_below (by (with_reducible repeat (first | apply Kd.R_alloc | apply Kd.R_drewN | apply Kd.R_drew));exact HO302.out) hb);have n3_:=Aside0.mk (Kd.R_below (by (with_reducible repeat (first | apply Kd.R_alloc | apply Kd.R_drewN | apply Kd.R_drew));exact HO306.out) hb);have n4_:=Aside0.mk (blk_below (g:=gb281) (o := .cells #[.slice A0_0 l0_0.length c0_0,.slice A0_1 l0_1.length c0_1,.int .i64 a0_2,.int .i64 a0_3,.slice A0_4 l0_4.length c0_4] 26 (0,0)) (by (with_reducible repeat (first | refine blk_drewN ?_ _ | refine blk_drew ?_ | refine blk_alloc ?_ _));exact BK281.out) hb);have n5_:=Aside0.mk (blk_below (g:=gb286) (o := .cells #[.slice Ao53 x287000_1.length co53,.bool x287001_1] 31 (0,0)) (by (with_reducible repeat (first | refine blk_drewN ?_ _ | refine blk_drew ?_ | refine blk_alloc ?_ _));exact BK286.out) hb);have n6_:=Aside0.mk (below_step (by repeat (first | (with_reducible first | exact HB.out | apply below_alloc | apply pw_below_drewN | apply below_drew1 | refine below_set ?_ GE281.out | refine below_set ?_ GE286.out) | exact HB.out)) hb);have n7_:=Aside0.mk (hbox);have n8_:=Aside0.mk ((by rw [hg];exact (below_size (by repeat (first | (with_reducible first | exact HB.out | apply below_alloc | apply pw_below_drewN | apply below_drew1 | refine below_set ?_ GE281.out | refine below_set ?_ GE286.out) | exact HB.out))) : w.heap.size ≤ gb308));have n9_:=Aside0.mk ((by rw [hg];exact (below_size (by repeat (first | (with_reducible first | exact HB.out | apply below_alloc | apply pw_below_drewN | apply below_drew1 | refine below_set ?_ GE281.out | refine below_set ?_ GE286.out) | exact HB.out))) : w.heap.size ≤ gb308));have n10_:=Aside0.mk ((by rw [hg];exact Nat.ne_of_lt (blk_lt (g:=gb281) (o := .cells #[.slice A0_0 l0_0.length c0_0,.slice A0_1 l0_1.length c0_1,.int .i64 a0_2,.int .i64 a0_3,.slice A0_4 l0_4.length c0_4] 26 (0,0)) (by (with_reducible repeat (first | refine blk_drewN ?_ _ | refine blk_drew ?_ | refine blk_alloc ?_ _));exact BK281.out)) : gb281 ≠ gb308));have n11_:=Aside0.mk ((by rw [hg];exact Nat.ne_of_gt (blk_lt (g:=gb281) (o := .cells #[.slice A0_0 l0_0.length c0_0,.slice A0_1 l0_1.length c0_1,.int .i64 a0_2,.int .i64 a0_3,.slice A0_4 l0_4.length c0_4] 26 (0,0)) (by (with_reducible repeat (first | refine blk_drewN ?_ _ | refine blk_drew ?_ | refine blk_alloc ?_ _));exact BK281.out)) : gb308 ≠ gb281));have n12_:=Aside0.mk ((by rw [hg];exact Nat.ne_of_lt (blk_lt (g:=gb286) (o := .cells #[.slice Ao53 x287000_1.length co53,.bool x287001_1] 31 (0,0)) (by (with_reducible repeat (first | refine blk_drewN ?_ _ | refine blk_drew ?_ | refine blk_alloc ?_ _));exact BK286.out)) : gb286 ≠ gb308));have n13_:=Aside0.mk ((by rw [hg];exact Nat.ne_of_gt (blk_lt (g:=gb286) (o := .cells #[.slice Ao53 x287000_1.length co53,.bool x287001_1] 31 (0,0)) (by (with_reducible repeat (first | refine blk_drewN ?_ _ | refine blk_drew ?_ | refine blk_alloc ?_ _));exact BK286.out)) : gb308 ≠ gb286));clear HO_10;clear HO_287000;clear HO302;clear HO306;clear BK281;clear BK286;clear HB;have HO_10:=n0_;have HO_287000:=n1_;have HO302:=n2_;have HO306:=n3_;have BK281:=n4_;have BK286:=n5_;have HB:=n6_;have BK308:=n7_;have GW308:=n8_;have GE308:=n9_;have NB281_308:=n10_;have NB308_281:=n11_;have NB286_308:=n12_;have NB308_286:=n13_;clear n0_ n1_ n2_ n3_ n4_ n5_ n6_ n7_ n8_ n9_ n10_ n11_ n12_ n13_;clear hb hbox hg;obtain ⟨Ao56,co56,eo56⟩ := Kd.R_slice HO302.out;subst eo56;have hnb57:=NB308_281.out;have hnc57:=NB281_308.out;have hnb58:=NB308_286.out;have hnc58:=NB286_308.out;have hcz59_0 : w55.cell? ⟨gb308,0,none⟩ = some (.slice none 0 0) := (blk_cell BK308.out 0).trans rfl;have hcz59_1 : w55.cell? ⟨gb308,1,none⟩ = some (.bool false) := (blk_cell BK308.out 1).trans rfl;have hfz59_0:=blk_frozen BK308.out 0;have hfz59_1:=blk_frozen BK308.out 1;have hcz60_0 : w55.cell? ⟨gb286,0,none⟩ = some (.slice Ao53 x287000_1.length co53) := (blk_cell BK286.out 0).trans rfl;have hcz60_1 : w55.cell? ⟨gb286,1,none⟩ = some (.bool x287001_1) := (blk_cell BK286.out 1).trans rfl;have hfz60_0:=blk_frozen BK286.out 0;have hfz60_1:=blk_frozen BK286.out 1;obtain ⟨Ao62,co62,eo62⟩ := Kd.R_slice HO306.out;subst eo62) | ((with_reducible refine gate_builtin (b := .append) (xs:=#[.tmp 58,.tmp 59]) rfl ?_);(try (refine gate_guard (by rfl) ?_;dsimp only));at_builtin;refine Kd.R_append_rows (Kd.int .i64) (w0:=w) w.heap.size rfl (.tmp 58) (.tmp 59) 32 3 (.int .i64 0) 8 rfl Try.underlying32 info3 rfl (by decide) (by omega) u10 x10_1 t304 _ _ _ (fun k_ => some k_ ≠ (.slice Ao62 t304.length co62 : Value).ownBlock) (fun _ => False) rfl rfl ?aO ?aR (fun _ _ h => h) (fun _ h => h.elim) ?aF ?aB ?aS ?aL ?_;(case aR => refine (Kd.R_reads' (e:=3) (base:=w.heap.size) (ok:=fun k_ => (True ∧ some k_ ≠ (u10 : Value).ownBlock)) (n:=t304.length) (c:=co62) ?_).2.2;exact (by (with_reducible repeat (first | apply Kd.R_alloc | apply Kd.R_drewN | apply Kd.R_drew));exact (Kd.R_mono (Kd.R_mono (Kd.R_far (p:=⟨gb286,1,none⟩) (Kd.R_far (p:=⟨gb286,0,none⟩) (Kd.R_far (p:=⟨gb308,1,none⟩) (Kd.R_far (p:=⟨gb308,0,none⟩) (Kd.R_types (Kd.R_types HO306.out BK308.out (by decide)) BK286.out (by decide)) (fun _ hk => hk.1.2) (.slice Ao56 t300.length co56)) (fun _ hk => hk.1.2) (.bool t303)) (fun _ hk => hk.2) (.slice Ao56 t300.length co56)) (fun _ hk => hk.2) (.bool t303)) (fun _ h_ => h_.1)) (fun _ h_ => h_.1))));(case aB => exact (by repeat (first | (with_reducible first | exact HB.out | apply below_alloc | apply pw_below_drewN | apply below_drew1 | refine below_set ?_ GE281.out | refine below_set ?_ GE286.out | refine below_set ?_ GE308.out) | exact HB.out)));(case aF => exact (fun k_ hk => Kd.fresh' (Kd.R_lt (by (with_reducible repeat (first | apply Kd.R_alloc | apply Kd.R_drewN | apply Kd.R_drew));exact (Kd.R_mono (Kd.R_mono (Kd.R_far (p:=⟨gb286,1,none⟩) (Kd.R_far (p:=⟨gb286,0,none⟩) (Kd.R_far (p:=⟨gb308,1,none⟩) (Kd.R_far (p:=⟨gb308,0,none⟩) (Kd.R_types (Kd.R_types HO306.out BK308.out (by decide)) BK286.out (by decide)) (fun _ hk => hk.1.2) (.slice Ao56 t300.length co56)) (fun _ hk => hk.1.2) (.bool t303)) (fun _ hk => hk.2) (.slice Ao56 t300.length co56)) (fun _ hk => hk.2) (.bool t303)) (fun _ h_ => h_.1)) (fun _ h_ => h_.1)))) k_ hk));(case aO => exact (by (with_reducible repeat (first | apply Kd.R_alloc | apply Kd.R_drewN | apply Kd.R_drew));exact Kd.R_mono (Kd.R_far (p:=⟨gb286,1,none⟩) (Kd.R_far (p:=⟨gb286,0,none⟩) (Kd.R_far (p:=⟨gb308,1,none⟩) (Kd.R_far (p:=⟨gb308,0,none⟩) (Kd.R_types (Kd.R_types HO_10.out BK308.out (by decide)) BK286.out (by decide)) (fun _ hk => hk.1.2) (.slice Ao56 t300.length co56)) (fun _ hk => hk.1.2) (.bool t303)) (fun _ hk => hk.2) (.slice Ao56 t300.length co56)) (fun _ hk => hk.2) (.bool t303)) (fun _ hk => hk.1.1.2)));(case aS => exact (below_size (by repeat (first | (with_reducible first | exact HB.out | apply below_alloc | apply pw_below_drewN | apply below_drew1 | refine below_set ?_ GE281.out | refine below_set ?_ GE286.out | refine below_set ?_ GE308.out) | exact HB.out))));(case aL => have:=LMc49.out;omega);intro v310 w61 ho hb hg hat;rw [← Ny309.out] at ho;have n0_:=Aside0.mk (Kd.R_over' (by (with_reducible repeat (first | apply Kd.R_alloc | apply Kd.R_drewN | apply Kd.R_drew));exact (Kd.R_mono (Kd.R_mono (Kd.R_far (p:=⟨gb286,1,none⟩) (Kd.R_far (p:=⟨gb286,0,none⟩) (Kd.R_far (p:=⟨gb308,1,none⟩) (Kd.R_far (p:=⟨gb308,0,none⟩) (Kd.R_types (Kd.R_types HO_287000.out BK308.out (by decide)) BK286.out (by decide)) (fun _ hk => hk.1.2) (.slice Ao56 t300.length co56)) (fun _ hk => hk.1.2) (.bool t303)) (fun _ hk => hk.2) (.slice Ao56 t300.length co56)) (fun _ hk => hk.2) (.bool t303)) (fun _ h_ => h_.1)) (fun _ h_ => h_.1))) (Kd.R_typed (by (with_reducible repeat (first | apply Kd.R_alloc | apply Kd.R_drewN | apply Kd.R_drew));exact (Kd.R_mono (Kd.R_mono (Kd.R_far (p:=⟨gb286,1,none⟩) (Kd.R_far (p:=⟨gb286,0,none⟩) (Kd.R_far (p:=⟨gb308,1,none⟩) (Kd.R_far (p:=⟨gb308,0,none⟩) (Kd.R_types (Kd.R_types HO_10.out BK308.out (by decide)) BK286.out (by decide)) (fun _ hk => hk.1.2) (.slice Ao56 t300.length co56)) (fun _ hk => hk.1.2) (.bool t303)) (fun _ hk => hk.2) (.slice Ao56 t300.length co56)) (fun _ hk => hk.2) (.bool t303)) (fun _ h_ => h_.1)) (fun _ h_ => h_.1)))) (by decide) hg);have n1_:=Aside0.mk (blk_grown (g:=gb281) (o := .cells #[.slice A0_0 l0_0.length c0_0,.slice A0_1 l0_1.length c0_1,.int .i64 a0_2,.int .i64 a0_3,.slice A0_4 l0_4.length c0_4] 26 (0,0)) (by (with_reducible repeat (first | refine blk_drewN ?_ _ | refine blk_drew ?_ | refine blk_alloc ?_ _));refine blk_far ?_ NB281_286.out _;(with_reducible repeat (first | refine blk_drewN ?_ _ | refine blk_drew ?_ | refine blk_alloc ?_ _));refine blk_far ?_ NB281_286.out _;(with_reducible repeat (first | refine blk_drewN ?_ _ | refine blk_drew ?_ | refine blk_alloc ?_ _));refine blk_far ?_ NB281_308.out _;(with_reducible repeat (first | refine blk_drewN ?_ _ | refine blk_drew ?_ | refine blk_alloc ?_ _));refine blk_far ?_ NB281_308.out _;(with_reducible repeat (first | refine blk_drewN ?_ _ | refine blk_drew ?_ | refine blk_alloc ?_ _));exact BK281.out) hg (Kd.R_ne HO_10.out BK281.out (by decide)));have n2_:=Aside0.mk (blk_grown (g:=gb286) (o := .cells #[.slice Ao56 t300.length co56,.bool t303] 31 (0,0)) (by (with_reducible repeat (first | refine blk_drewN ?_ _ | refine blk_drew ?_ | refine blk_alloc ?_ _));refine blk_put (cs:=#[.slice Ao56 t300.length co56,.bool x287001_1]) ?_ 1 _ rfl;(with_reducible repeat (first | refine blk_drewN ?_ _ | refine blk_drew ?_ | refine blk_alloc ?_ _));refine blk_put (cs:=#[.slice Ao53 x287000_1.length co53,.bool x287001_1]) ?_ 0 _ rfl;(with_reducible repeat (first | refine blk_drewN ?_ _ | refine blk_drew ?_ | refine blk_alloc ?_ _));refine blk_far ?_ NB286_308.out _;(with_reducible repeat (first | refine blk_drewN ?_ _ | refine blk_drew ?_ | refine blk_alloc ?_ _));refine blk_far ?_ NB286_308.out _;(with_reducible repeat (first | refine blk_drewN ?_ _ | refine blk_drew ?_ | refine blk_alloc ?_ _));exact BK286.out) hg (Kd.R_ne HO_10.out BK286.out (by decide)));have n3_:=Aside0.mk (Kd.R_over' (by (with_reducible repeat (first | apply Kd.R_alloc | apply Kd.R_drewN | apply Kd.R_drew));exact (Kd.R_mono (Kd.R_mono (Kd.R_far (p:=⟨gb286,1,none⟩) (Kd.R_far (p:=⟨gb286,0,none⟩) (Kd.R_far (p:=⟨gb308,1,none⟩) (Kd.R_far (p:=⟨gb308,0,none⟩) (Kd.R_types (Kd.R_types HO302.out BK308.out (by decide)) BK286.out (by decide)) (fun _ hk => hk.1.2) (.slice Ao56 t300.length co56)) (fun _ hk => hk.1.2) (.bool t303)) (fun _ hk => hk.2) (.slice Ao56 t300.length co56)) (fun _ hk => hk.2) (.bool t303)) (fun _ h_ => h_.1)) (fun _ h_ => h_.1))) (Kd.R_typed (by (with_reducible repeat (first | apply Kd.R_alloc | apply Kd.R_drewN | apply Kd.R_drew));exact (Kd.R_mono (Kd.R_mono (Kd.R_far (p:=⟨gb286,1,none⟩) (Kd.R_far (p:=⟨gb286,0,none⟩) (Kd.R_far (p:=⟨gb308,1,none⟩) (Kd.R_far (p:=⟨gb308,0,none⟩) (Kd.R_types (Kd.R_types HO_10.out BK308.out (by decide)) BK286.out (by decide)) (fun _ hk => hk.1.2) (.slice Ao56 t300.length co56)) (fun _ hk => hk.1.2) (.bool t303)) (fun _ hk => hk.2) (.slice Ao56 t300.length co56)) (fun _ hk => hk.2) (.bool t303)) (fun _ h_ => h_.1)) (fun _ h_ => h_.1)))) (by decide) hg);have n4_:=Aside0.mk (Kd.R_after (ok:=(fun _ => True)) (by (with_reducible repeat (first | apply Kd.R_alloc | apply Kd.R_drewN | apply Kd.R_drew));exact Kd.R_mono (Kd.R_far (p:=⟨gb286,1,none⟩) (Kd.R_far (p:=⟨gb286,0,none⟩) (Kd.R_far (p:=⟨gb308,1,none⟩) (Kd.R_far (p:=⟨gb308,0,none⟩) (Kd.R_types (Kd.R_types HO306.out BK308.out (by decide)) BK286.out (by decide)) (fun _ hk => hk.1.2) (.slice Ao56 t300.length co56)) (fun _ hk => hk.1.2) (.bool t303)) (fun _ hk => hk.2) (.slice Ao56 t300.length co56)) (fun _ hk => hk.2) (.bool t303)) (fun _ hk => ⟨trivial,hk.1.1.2⟩)) hg hat);have n5_:=Aside0.mk (blk_grown (g:=gb308) (o := .cells #[.slice Ao56 t300.length co56,.bool t303] 31 (0,0)) (by (with_reducible repeat (first | refine blk_drewN ?_ _ | refine blk_drew ?_ | refine blk_alloc ?_ _));refine blk_far ?_ NB308_286.out _;(with_reducible repeat (first | refine blk_drewN ?_ _ | refine blk_drew ?_ | refine blk_alloc ?_ _));refine blk_far ?_ NB308_286.out _;(with_reducible repeat (first | refine blk_drewN ?_ _ | refine blk_drew ?_ | refine blk_alloc ?_ _));refine blk_put (cs:=#[.slice Ao56 t300.length co56,.bool false]) ?_ 1 _ rfl;(with_reducible repeat (first | refine blk_drewN ?_ _ | refine blk_drew ?_ | refine blk_alloc ?_ _));refine blk_put (cs:=#[.slice none 0 0,.bool false]) ?_ 0 _ rfl;(with_reducible repeat (first | refine blk_drewN ?_ _ | refine blk_drew ?_ | refine blk_alloc ?_ _));exact BK308.out) hg (Kd.R_ne HO_10.out BK308.out (by decide)));have n6_:=Aside0.mk (hb);have n7_:=Aside0.mk (ho);clear HO_287000;clear BK281;clear BK286;clear HO302;clear HO306;clear BK308;clear HB;clear HO_10;have HO_287000:=n0_;have BK281:=n1_;have BK286:=n2_;have HO302:=n3_;have HO306:=n4_;have BK308:=n5_;have HB:=n6_;have HO311:=n7_;clear n0_ n1_ n2_ n3_ n4_ n5_ n6_ n7_;clear ho hb hg hat))
         go_roundg k1
         case measure => have:=HK1.out;omega
         case rel => exact ⟨(y309),(wrap64 (x11_1 + 1)),(t300),(t303),(.slice Ao56 t300.length co56),(by first | rfl | (simp;done) | (simp [*];done)),H',⟨by have:=HK1.out;omega⟩,⟨by (with_reducible repeat (first | apply Kd.R_alloc | apply Kd.R_drewN | apply Kd.R_drew));exact Kd.R_mono HO311.out (fun _ hk => trivial)⟩,⟨by (with_reducible repeat (first | apply Kd.R_alloc | apply Kd.R_drewN | apply Kd.R_drew));exact Kd.R_mono HO302.out (fun _ hk => trivial)⟩,⟨by (with_reducible repeat (first | refine blk_drewN ?_ _ | refine blk_drew ?_ | refine blk_alloc ?_ _));exact BK281.out⟩,⟨by (with_reducible repeat (first | refine blk_drewN ?_ _ | refine blk_drew ?_ | refine blk_alloc ?_ _));exact BK286.out⟩,⟨by repeat (first | (with_reducible first | exact HB.out | apply below_alloc | apply pw_below_drewN | apply below_drew1 | refine below_set ?_ GE281.out | refine below_set ?_ GE286.out | refine below_set ?_ GE308.out) | exact HB.out)⟩⟩
       · rw [if_neg c48] at H
         have c48b0 : (t307 == 0) = false:=beq_eq_false_iff_ne.mpr c48
         have c48b1 : (t307 != 0) = true:=bne_iff_ne.mpr c48
         simp only [Option.some.injEq,Prod.mk.injEq] at H
         obtain ⟨rfl,rfl,rfl⟩ := H
         have hnb63:=NB281_286.out
         have hnc63:=NB286_281.out
         have hcz64_0 : wr.cell? ⟨gb281,0,none⟩ = some (.slice A0_0 l0_0.length c0_0) := (blk_cell BK281.out 0).trans rfl
         have hcz64_1 : wr.cell? ⟨gb281,1,none⟩ = some (.slice A0_1 l0_1.length c0_1) := (blk_cell BK281.out 1).trans rfl
         have hcz64_2 : wr.cell? ⟨gb281,2,none⟩ = some (.int .i64 a0_2) := (blk_cell BK281.out 2).trans rfl
         have hcz64_3 : wr.cell? ⟨gb281,3,none⟩ = some (.int .i64 a0_3) := (blk_cell BK281.out 3).trans rfl
         have hcz64_4 : wr.cell? ⟨gb281,4,none⟩ = some (.slice A0_4 l0_4.length c0_4) := (blk_cell BK281.out 4).trans rfl
         have hfz64_0:=blk_frozen BK281.out 0
         have hfz64_1:=blk_frozen BK281.out 1
         have hfz64_2:=blk_frozen BK281.out 2
         have hfz64_3:=blk_frozen BK281.out 3
         have hfz64_4:=blk_frozen BK281.out 4
         have hcz65_0 : wr.cell? ⟨gb286,0,none⟩ = some (u287000) := (blk_cell BK286.out 0).trans rfl
         have hcz65_1 : wr.cell? ⟨gb286,1,none⟩ = some (.bool x287001_1) := (blk_cell BK286.out 1).trans rfl
         have hfz65_0:=blk_frozen BK286.out 0
         have hfz65_1:=blk_frozen BK286.out 1
         obtain ⟨Ao66,co66,eo66⟩ := Kd.R_slice HO_287000.out
         subst eo66
         go_wp2_with (first | ((with_reducible refine gate_callee (f:=26) rfl ?_);refine goesL_ (some 49) rfl rfl Try.func26 (by kernel_rfl) rfl #[.agg #[.slice A0_0 l0_0.length c0_0,.slice A0_1 l0_1.length c0_1,.int .i64 a0_2,.int .i64 a0_3,.slice A0_4 l0_4.length c0_4],.slice A1 l1.length c1,.agg #[.slice Ao66 x287000_1.length co66,.bool x287001_1],.int .i64 (l0_1.length : Int)] rfl (by (try simp only [List.map_toArray,List.map_cons,List.map_nil]);first | done | rfl | (simp only [List.length_drop,List.length_take];rfl)) ?_;(with_reducible refine (regletref16_Feed.calls k1 _ _ l0_0 _ _ l0_1 a0_2 a0_3 _ _ l0_4 _ _ l1 _ _ x287000_1 x287001_1 (l0_1.length : Int) t300 t303 t304 t307 _ ?side1 ?side2 ?side3 ?side4 ?side5 ?side6 ?side7 ?side8 ?side9 ?side10 A47.out).mono ?_);(case side1 => repeat (first | exact (Kd.C_below HR0_0.out HB.out) | (with_reducible refine Kd.C_alloc ?_ _) | (with_reducible refine Kd.C_drewN ?_ _) | (with_reducible refine Kd.C_drew ?_)));(case side2 => exact HC0_0.out);(case side3 => repeat (first | exact (Kd.C_below HR0_1.out HB.out) | (with_reducible refine Kd.C_alloc ?_ _) | (with_reducible refine Kd.C_drewN ?_ _) | (with_reducible refine Kd.C_drew ?_)));(case side4 => exact HC0_1.out);(case side5 => repeat (first | exact (Kd.C_below HR0_4.out HB.out) | (with_reducible refine Kd.C_alloc ?_ _) | (with_reducible refine Kd.C_drewN ?_ _) | (with_reducible refine Kd.C_drew ?_)));(case side6 => exact HC0_4.out);(case side7 => repeat (first | exact (Kd.C_below HR1.out HB.out) | (with_reducible refine Kd.C_alloc ?_ _) | (with_reducible refine Kd.C_drewN ?_ _) | (with_reducible refine Kd.C_drew ?_)));(case side8 => exact HC1.out);(case side9 => repeat (first | exact (Kd.R_reads' HO_287000.out).2.2 | (with_reducible refine Kd.C_alloc ?_ _) | (with_reducible refine Kd.C_drewN ?_ _) | (with_reducible refine Kd.C_drew ?_)));(case side10 => exact (Kd.R_reads' HO_287000.out).2.1);rintro e w67 ⟨v301,v305,rfl,ho0,ho1,hb⟩;refine ⟨_,rfl,?_⟩;have n0_:=Aside0.mk (Kd.R_elder' (by (with_reducible repeat (first | apply Kd.R_alloc | apply Kd.R_drewN | apply Kd.R_drew));exact HO_10.out) (Kd.R_base ho1) hb);have n1_:=Aside0.mk (Kd.R_elder' (by (with_reducible repeat (first | apply Kd.R_alloc | apply Kd.R_drewN | apply Kd.R_drew));exact HO_287000.out) (Kd.R_base ho0) hb);have n2_:=Aside0.mk (Kd.R_lower (Kd.R_new' ho0 (Kd.R_lt (by (with_reducible repeat (first | apply Kd.R_alloc | apply Kd.R_drewN | apply Kd.R_drew));exact HO_287000.out))) (below_size (by repeat (first | (with_reducible first | exact HB.out | apply below_alloc | apply pw_below_drewN | apply below_drew1 | refine below_set ?_ GE281.out | refine below_set ?_ GE286.out) | exact HB.out))));have n3_:=Aside0.mk (Kd.R_lower (Kd.R_new' ho1 (Kd.R_lt (by (with_reducible repeat (first | apply Kd.R_alloc | apply Kd.R_drewN | apply Kd.R_drew));exact HO_10.out))) (below_size (by repeat (first | (with_reducible first | exact HB.out | apply below_alloc | apply pw_below_drewN | apply below_drew1 | refine below_set ?_ GE281.out | refine below_set ?_ GE286.out) | exact HB.out))));have n4_:=Aside0.mk (blk_below (g:=gb281) (o := .cells #[.slice A0_0 l0_0.length c0_0,.slice A0_1 l0_1.length c0_1,.int .i64 a0_2,.int .i64 a0_3,.slice A0_4 l0_4.length c0_4] 26 (0,0)) (by (with_reducible repeat (first | refine blk_drewN ?_ _ | refine blk_drew ?_ | refine blk_alloc ?_ _));exact BK281.out) hb);have n5_:=Aside0.mk (blk_below (g:=gb286) (o := .cells #[.slice Ao66 x287000_1.length co66,.bool x287001_1] 31 (0,0)) (by (with_reducible repeat (first | refine blk_drewN ?_ _ | refine blk_drew ?_ | refine blk_alloc ?_ _));exact BK286.out) hb);have n6_:=Aside0.mk (below_step (by repeat (first | (with_reducible first | exact HB.out | apply below_alloc | apply pw_below_drewN | apply below_drew1 | refine below_set ?_ GE281.out | refine below_set ?_ GE286.out) | exact HB.out)) hb);clear HO_10;clear HO_287000;clear BK281;clear BK286;clear HB;have HO_10:=n0_;have HO_287000:=n1_;have HO302:=n2_;have HO306:=n3_;have BK281:=n4_;have BK286:=n5_;have HB:=n6_;clear n0_ n1_ n2_ n3_ n4_ n5_ n6_;(try clear hb);(try clear hb2);(try clear hk);(try clear hi);(try clear ho0);(try clear ho1)) | ((with_reducible refine gate_dst (N:=13) rfl ?_);(try (refine gate_guard (by rfl) ?_;dsimp only));refine box_event ?hg (N:=13) ?hd (cs:=#[.slice none 0 0,.bool false]) (t:=31) ?hr ?_;(case hd => rfl);(case hg => rfl);(case hr => first | (go_simp;done) | (go_simp;rfl));intro gb308 hg w68 hbox hb;have n0_:=Aside0.mk (Kd.R_below (by (with_reducible repeat (first | apply Kd.R_alloc | apply Kd.R_drewN | apply Kd.R_drew));exact HO_10.out) hb);have n1_:=Aside0.mk (Kd.R_below (by (with_reducible repeat (first | apply Kd.R_alloc | apply Kd.R_drewN | apply Kd.R_drew));exact HO_287000.out) hb);have n2_:=Aside0.mk (Kd.R_below (by (with_reducible repeat (first | apply Kd.R_alloc | apply Kd.R_drewN | apply Kd.R_drew));exact HO302.out) hb);have n3_:=Aside0.mk (Kd.R_below (by (with_reducible repeat (first | apply Kd.R_alloc | apply Kd.R_drewN | apply Kd.R_drew));exact HO306.out) hb);have n4_:=Aside0.mk (blk_below (g:=gb281) (o := .cells #[.slice A0_0 l0_0.length c0_0,.slice A0_1 l0_1.length c0_1,.int .i64 a0_2,.int .i64 a0_3,.slice A0_4 l0_4.length c0_4] 26 (0,0)) (by (with_reducible repeat (first | refine blk_drewN ?_ _ | refine blk_drew ?_ | refine blk_alloc ?_ _));exact BK281.out) hb);have n5_:=Aside0.mk (blk_below (g:=gb286) (o := .cells #[.slice Ao66 x287000_1.length co66,.bool x287001_1] 31 (0,0)) (by (with_reducible repeat (first | refine blk_drewN ?_ _ | refine blk_drew ?_ | refine blk_alloc ?_ _));exact BK286.out) hb);have n6_:=Aside0.mk (below_step (by repeat (first | (with_reducible first | exact HB.out | apply below_alloc | apply pw_below_drewN | apply below_drew1 | refine below_set ?_ GE281.out | refine below_set ?_ GE286.out) | exact HB.out)) hb);have n7_:=Aside0.mk (hbox);have n8_:=Aside0.mk ((by rw [hg];exact (below_size (by repeat (first | (with_reducible first | exact HB.out | apply below_alloc | apply pw_below_drewN | apply below_drew1 | refine below_set ?_ GE281.out | refine below_set ?_ GE286.out) | exact HB.out))) : w.heap.size ≤ gb308));have n9_:=Aside0.mk ((by rw [hg];exact (below_size (by repeat (first | (with_reducible first | exact HB.out | apply below_alloc | apply pw_below_drewN | apply below_drew1 | refine below_set ?_ GE281.out | refine below_set ?_ GE286.out) | exact HB.out))) : w.heap.size ≤ gb308));have n10_:=Aside0.mk ((by rw [hg];exact Nat.ne_of_lt (blk_lt (g:=gb281) (o := .cells #[.slice A0_0 l0_0.length c0_0,.slice A0_1 l0_1.length c0_1,.int .i64 a0_2,.int .i64 a0_3,.slice A0_4 l0_4.length c0_4] 26 (0,0)) (by (with_reducible repeat (first | refine blk_drewN ?_ _ | refine blk_drew ?_ | refine blk_alloc ?_ _));exact BK281.out)) : gb281 ≠ gb308));have n11_:=Aside0.mk ((by rw [hg];exact Nat.ne_of_gt (blk_lt (g:=gb281) (o := .cells #[.slice A0_0 l0_0.length c0_0,.slice A0_1 l0_1.length c0_1,.int .i64 a0_2,.int .i64 a0_3,.slice A0_4 l0_4.length c0_4] 26 (0,0)) (by (with_reducible repeat (first | refine blk_drewN ?_ _ | refine blk_drew ?_ | refine blk_alloc ?_ _));exact BK281.out)) : gb308 ≠ gb281));have n12_:=Aside0.mk ((by rw [hg];exact Nat.ne_of_lt (blk_lt (g:=gb286) (o := .cells #[.slice Ao66 x287000_1.length co66,.bool x287001_1] 31 (0,0)) (by (with_reducible repeat (first | refine blk_drewN ?_ _ | refine blk_drew ?_ | refine blk_alloc ?_ _));exact BK286.out)) : gb286 ≠ gb308));have n13_:=Aside0.mk ((by rw [hg];exact Nat.ne_of_gt (blk_lt (g:=gb286) (o := .cells #[.slice Ao66 x287000_1.length co66,.bool x287001_1] 31 (0,0)) (by (with_reducible repeat (first | refine blk_drewN ?_ _ | refine blk_drew ?_ | refine blk_alloc ?_ _));exact BK286.out)) : gb308 ≠ gb286));clear HO_10;clear HO_287000;clear HO302;clear HO306;clear BK281;clear BK286;clear HB;have HO_10:=n0_;have HO_287000:=n1_;have HO302:=n2_;have HO306:=n3_;have BK281:=n4_;have BK286:=n5_;have HB:=n6_;have BK308:=n7_;have GW308:=n8_;have GE308:=n9_;have NB281_308:=n10_;have NB308_281:=n11_;have NB286_308:=n12_;have NB308_286:=n13_;clear n0_ n1_ n2_ n3_ n4_ n5_ n6_ n7_ n8_ n9_ n10_ n11_ n12_ n13_;clear hb hbox hg;obtain ⟨Ao69,co69,eo69⟩ := Kd.R_slice HO302.out;subst eo69;have hnb70:=NB308_281.out;have hnc70:=NB281_308.out;have hnb71:=NB308_286.out;have hnc71:=NB286_308.out;have hcz72_0 : w68.cell? ⟨gb308,0,none⟩ = some (.slice none 0 0) := (blk_cell BK308.out 0).trans rfl;have hcz72_1 : w68.cell? ⟨gb308,1,none⟩ = some (.bool false) := (blk_cell BK308.out 1).trans rfl;have hfz72_0:=blk_frozen BK308.out 0;have hfz72_1:=blk_frozen BK308.out 1))
         go_ret3
         exact ⟨_,by first | rfl | (simp [errW_none,errW_some] <;> rfl) | (simp [*,errW_none,errW_some] <;> rfl),by first | exact Kd.R_nil _ _ _ _ _ | exact Kd.N_nil _ _ _ _ _ | exact Kd.V_nil _ _ _ _ _ | exact Kd.Q_nil _ _ _ _ _ | exact Kd.S_nil _ _ _ _ _,by repeat (first | (with_reducible first | exact HB.out | apply below_alloc | apply pw_below_drewN | apply below_drew1 | refine below_set ?_ GE281.out | refine below_set ?_ GE286.out | refine below_set ?_ GE308.out) | exact HB.out)⟩
   · rw [if_neg c11] at H
     have c11b0 : decide (x11_1 ≤ (l2.length : Int)) = false:=decide_eq_false c11
     clear c11
     simp only [Option.some.injEq,Prod.mk.injEq] at H
     obtain ⟨rfl,rfl,rfl⟩ := H
     go_wp2
     go_ret3
     exact ⟨_,by first | rfl | (simp [errW_none,errW_some] <;> rfl) | (simp [*,errW_none,errW_some] <;> rfl),by (with_reducible repeat (first | apply Kd.R_alloc | apply Kd.R_drewN | apply Kd.R_drew));exact HO_10.out,by repeat (first | (with_reducible first | exact HB.out | apply below_alloc | apply pw_below_drewN | apply below_drew1 | refine below_set ?_ GE281.out | refine below_set ?_ GE286.out) | exact HB.out)⟩
end Go.Proofs.Ytapjfnfengefpaa.P
end

section
namespace Go.Proofs.Ytapjfnfengefpaa.P
open Go.RowKit Go.Proofs.YtapjfnfengefpaaW.PrintWords Go.Proofs.YtapjfnfengefpaaW.PrintLast Go.Proofs.YtapjfnfengefpaaW.PrintMore
set_option linter.unusedVariables false
set_option linter.unusedSimpArgs false
def PS (bad : Nat → Prop) (W : World) (base PB : Nat) (st : List S43) (sp : List Int) : Prop :=
  ∃ vs vt,W.heap[PB]? = some (.cells #[vs,vt] 84 (0,0)) ∧ base ≤ PB ∧ Kd.R k43 43 W base (fun k => ¬ bad k) vs st.reverse ∧ Kd.R (Kd.int .i64) 3 W base (fun k => ¬ bad k) vt sp
theorem PS.alloc {bad : Nat → Prop} {W : World} {base PB : Nat} {st : List S43} {sp : List Int} (h : PS bad W base PB st sp) (o : Obj) : PS bad (W.alloc o) base PB st sp:=by
 obtain ⟨vs,vt,h0,h1,h2,h3⟩ := h
 exact ⟨vs,vt,blk_alloc h0 o,h1,Kd.R_alloc h2 o,Kd.R_alloc h3 o⟩
theorem PS.drew {bad : Nat → Prop} {W : World} {base PB : Nat} {st : List S43} {sp : List Int} (h : PS bad W base PB st sp) : PS bad W.drew base PB st sp:=by
 obtain ⟨vs,vt,h0,h1,h2,h3⟩ := h
 exact ⟨vs,vt,h0,h1,Kd.R_drew h2,Kd.R_drew h3⟩
theorem PS.stack {bad : Nat → Prop} {W : World} {base PB : Nat} {vs vt vs' : Value} {st' : List S43} {sp : List Int} (h0 : W.heap[PB]? = some (.cells #[vs,vt] 84 (0,0))) (h1 : base ≤ PB) (h2 : Kd.R k43 43 W base (fun k => ¬ bad k) vs' st'.reverse) (h3 : Kd.R (Kd.int .i64) 3 W base (fun k => ¬ bad k) vt sp) :
    PS bad (W.setCell ⟨PB,0,none⟩ vs') base PB st' sp :=
  ⟨vs',vt,blk_put h0 0 _ rfl,h1,Kd.R_set h2 h0 (by decide) 0 _,Kd.R_set h3 h0 (by decide) 0 _⟩
theorem PS.steps {bad : Nat → Prop} {W : World} {base PB : Nat} {vs vt vt' : Value} {st : List S43} {sp' : List Int} (h0 : W.heap[PB]? = some (.cells #[vs,vt] 84 (0,0))) (h1 : base ≤ PB) (h2 : Kd.R k43 43 W base (fun k => ¬ bad k) vs st.reverse) (h3 : Kd.R (Kd.int .i64) 3 W base (fun k => ¬ bad k) vt' sp') :
    PS bad (W.setCell ⟨PB,1,none⟩ vt') base PB st sp' :=
  ⟨vs,vt',blk_put h0 1 _ rfl,h1,Kd.R_set h2 h0 (by decide) 1 _,Kd.R_set h3 h0 (by decide) 1 _⟩
theorem PS.mono {bad bad' : Nat → Prop} {W : World} {base PB : Nat} {st : List S43} {sp : List Int} (h : PS bad W base PB st sp) (hb : ∀ k,bad' k → bad k) : PS bad' W base PB st sp:=by
 obtain ⟨vs,vt,h0,h1,h2,h3⟩ := h
 exact ⟨vs,vt,h0,h1,Kd.R_mono h2 (fun k hk hb' => hk (hb k hb')),Kd.R_mono h3 (fun k hk hb' => hk (hb k hb'))⟩
theorem PS.bound {bad : Nat → Prop} {W : World} {base PB : Nat} {st : List S43} {sp : List Int} (h : PS bad W base PB st sp) : PS (fun k => bad k ∨ W.heap.size ≤ k) W base PB st sp:=by
 obtain ⟨vs,vt,h0,h1,h2,h3⟩ := h
 exact ⟨vs,vt,h0,h1,Kd.R_mono (Kd.R_bound h2) (fun k hk hb => by have:=hk.2.2.1;rcases hb with h | h;exact hk.1 h;omega),Kd.R_mono (Kd.R_bound h3) (fun k hk hb => by have:=hk.2.2.1;rcases hb with h | h;exact hk.1 h;omega)⟩
theorem PS.far {bad : Nat → Prop} {W : World} {base PB : Nat} {st : List S43} {sp : List Int} (h : PS bad W base PB st sp) {p : Addr} (hp : bad p.block) (hne : PB ≠ p.block) (u : Value) : PS bad (W.setCell p u) base PB st sp:=by
 obtain ⟨vs,vt,h0,h1,h2,h3⟩ := h
 exact ⟨vs,vt,blk_far h0 hne u,h1,Kd.R_far h2 (fun k hk e => hk (e ▸ hp)) u,Kd.R_far h3 (fun k hk e => hk (e ▸ hp)) u⟩
theorem rev_last {α : Type} (x : α) (l : List α) (d : α) : ((x :: l).reverse).getD l.length d = x:=by
 rw [List.reverse_cons,List.getD_eq_getElem?_getD,List.getElem?_append_right (by simp)];simp
theorem rev_take {α : Type} (x : α) (l : List α) : ((x :: l).reverse).take l.length = l.reverse:=by
 rw [List.reverse_cons,List.take_append_of_le_length (by simp),List.take_of_length_le (by simp)]
set_option maxHeartbeats 4000000 in
set_option maxRecDepth 100000 in
theorem pop_any (bad : Nat → Prop) (x : S43) (st : List S43) (sp : List Int) (base PB : Nat) (W : World) (h : PS bad W base PB (x :: st) sp) (hl : st.length ≤ 1000000000) :
    Calls Try.prog 52 #[.pointer (some ⟨PB,0,none⟩)] W fun e w' => e = .returned (.agg #[.bool x.f0,.int .i64 x.f1]) ∧ PS bad w' base PB st sp ∧ Kept W w' (fun k => k = PB) ∧ ∀ B w0,B ≤ PB → Below B w0 W → Below B w0 w' := by
 have HW1 : Aside0 (PS (fun k => bad k ∨ k = W.heap.size) (W.alloc (.cells #[.bool false,.int .i64 0] 43)) base PB (x :: st) sp) := ⟨(PS.mono h.bound (fun k hk => hk.imp id (fun e => by omega))).alloc _⟩
 have HK1 : Aside0 (Kept W (W.alloc (.cells #[.bool false,.int .i64 0] 43)) (fun k => k = PB)) := ⟨Kept.alloc (Kept.refl W (fun k => k = PB)) _⟩
 have HQB : Aside0 ((W.alloc (.cells #[.bool false,.int .i64 0] 43)).heap[W.heap.size]? = some (.cells #[.bool false,.int .i64 0] 43 (0,0))) := ⟨heap_alloc_new W _⟩
 have hPB : PB < W.heap.size:=by obtain ⟨_,_,h0,_⟩ := h;exact blk_lt h0
 have HBB : Aside0 (∀ B w0,B ≤ PB → Below B w0 W → Below B w0 (W.alloc (.cells #[.bool false,.int .i64 0] 43))) := ⟨fun B w0 hB hb => hb.trans ((below_alloc (Below.refl _ W) _).mono (by omega))⟩
 have HPB:=Aside0.mk hPB
 have HL:=Aside0.mk hl
 clear h hl hPB
 go_enter Try.func52,Try.ntmps52
 go_upto_region 1 with fail
 generalize W.alloc (.cells #[.bool false,.int .i64 0] 43) = W1 at HW1 HK1 HQB HBB ⊢
 generalize hQB : W.heap.size = QB at HQB HPB HW1 ⊢
 have HQW : Aside0 (W.heap.size ≤ QB) := ⟨by omega⟩
 clear hQB
 obtain ⟨vs,vt,h0,h1,h2,h3⟩ := HW1.out
 obtain ⟨A,c,rfl⟩ := Kd.R_slice h2
 obtain ⟨_,hle,hC⟩ := Kd.R_reads' h2
 obtain ⟨n,hn⟩ : ∃ n,n = st.length:=⟨_,rfl⟩
 have hlen : (x :: st).reverse.length = n + 1:=by rw [hn];simp
 rw [hlen] at h0 h2 hle hC
 obtain ⟨ad,ea,e0,e1⟩ := at_T43 hC (n : Int) (by omega) (by omega)
 have hrx : rd_T43 (x :: st).reverse (n : Int) = x:=by rw [rd_T43,Int.toNat_natCast,hn];exact rev_last x st _
 rw [hrx,Int.toNat_natCast] at e0 e1
 subst ea
 obtain ⟨i0_,hi0_,_⟩ := info_parts (show (Try.prog.info? 43).map (fun i => (i.zero,i.size,i.bytes)) = some (some (.agg #[.bool false,.int .i64 0]),2,16) from by kernel_rfl)
 have hcut:=cut_to (P:=Try.prog) 29 43 .i64 Try.underlying29 hi0_ (some ad) (n + 1) c (n : Int) (by omega) (by omega) hle
 rw [Int.toNat_natCast] at hcut
 have q0 : W1.cell? ⟨PB,0,none⟩ = some (.slice (some ad) (n + 1) c) := (blk_cell h0 0).trans rfl
 have i0 : (0 ≤ (n : Int)) = True:=eq_true (by omega)
 have i1 : ((n : Int) < (n : Int) + 1) = True:=eq_true (by omega)
 have hn8 : n ≤ 1000000000:=by have:=HL.out;omega
 have H0:=Aside0.mk h0
 have H1:=Aside0.mk h1
 have H2:=Aside0.mk h2
 have H3:=Aside0.mk h3
 have HN:=Aside0.mk hn
 clear h0 h1 h2 h3 hC hrx hle hlen hn hi0_ HW1
 go_upto_region 3 with fail
 have HLT1 : Aside0 (QB < W1.heap.size) := ⟨blk_lt HQB.out⟩
 have HXB : Aside0 ((W1.alloc (.cells #[.bool x.f0,.int .i64 x.f1] 43)).heap[W1.heap.size]? = some (.cells #[.bool x.f0,.int .i64 x.f1] 43 (0,0))) := ⟨heap_alloc_new W1 _⟩
 have H0' := Aside0.mk (blk_alloc H0.out (.cells #[.bool x.f0,.int .i64 x.f1] 43))
 have HQB' := Aside0.mk (blk_alloc HQB.out (.cells #[.bool x.f0,.int .i64 x.f1] 43))
 have H2' : Aside0 (Kd.R k43 43 (W1.alloc (.cells #[.bool x.f0,.int .i64 x.f1] 43)) base (fun k => ¬ (bad k ∨ k = QB)) (.slice (some ad) n c) st.reverse) := ⟨Kd.R_alloc (by have h:=Kd.R_take (m:=n) H2.out (by rw [HN.out];simp);rw [HN.out,rev_take] at h;rw [HN.out];exact h) _⟩
 have H3' := Aside0.mk (Kd.R_alloc H3.out (.cells #[.bool x.f0,.int .i64 x.f1] 43))
 have HK2 : Aside0 (Kept W (W1.alloc (.cells #[.bool x.f0,.int .i64 x.f1] 43)) (fun k => k = PB)) := ⟨Kept.alloc HK1.out _⟩
 have HBB2 : Aside0 (∀ B w0,B ≤ PB → Below B w0 W → Below B w0 (W1.alloc (.cells #[.bool x.f0,.int .i64 x.f1] 43))) := ⟨fun B w0 hB hb => (HBB.out B w0 hB hb).trans ((below_alloc (Below.refl _ W1) _).mono (by have:=HPB.out;have:=HLT1.out;omega))⟩
 generalize W1.alloc (.cells #[.bool x.f0,.int .i64 x.f1] 43) = W2 at HXB H0' HQB' H2' H3' HK2 HBB2 ⊢
 have HXN : Aside0 (QB ≠ W1.heap.size ∧ PB ≠ W1.heap.size ∧ PB ≠ QB) := ⟨by have:=HPB.out;have:=HLT1.out;omega⟩
 generalize W1.heap.size = XB at HXB HXN ⊢
 have q0' : W2.cell? ⟨PB,0,none⟩ = some (.slice (some ad) (n + 1) c) := (blk_cell H0'.out 0).trans rfl
 have f0' := blk_frozen H0'.out 0
 have ne1:=HXN.out.1
 have ne2:=HXN.out.2.1
 have ne3:=HXN.out.2.2
 clear q0 e0 e1 H0 HQB H2 H3 HK1 HBB HLT1
 go_upto_region 4 with fail
 have HX3:=Aside0.mk (blk_far HXB.out (p:=⟨PB,0,none⟩) (Ne.symm ne2) (.slice (some ad) n c))
 have HQ3:=Aside0.mk (blk_far HQB'.out (p:=⟨PB,0,none⟩) (Ne.symm ne3) (.slice (some ad) n c))
 have HP3 : Aside0 (PS (fun k => bad k ∨ k = QB) (W2.setCell ⟨PB,0,none⟩ (.slice (some ad) n c)) base PB st sp) := ⟨PS.stack H0'.out H1.out H2'.out H3'.out⟩
 have HK3 : Aside0 (Kept W (W2.setCell ⟨PB,0,none⟩ (.slice (some ad) n c)) (fun k => k = PB)) := ⟨Kept.setCell HK2.out (.inl rfl) _⟩
 have HBB3 : Aside0 (∀ B w0,B ≤ PB → Below B w0 W → Below B w0 (W2.setCell ⟨PB,0,none⟩ (.slice (some ad) n c))) := ⟨fun B w0 hB hb => (HBB2.out B w0 hB hb).setCell hB _⟩
 generalize W2.setCell ⟨PB,0,none⟩ (.slice (some ad) n c) = W3 at HX3 HQ3 HP3 HK3 HBB3 ⊢
 have x0 : W3.cell? ⟨XB,0,none⟩ = some (.bool x.f0) := (blk_cell HX3.out 0).trans rfl
 have x1 : W3.cell? ⟨XB,1,none⟩ = some (.int .i64 x.f1) := (blk_cell HX3.out 1).trans rfl
 have z0 : W3.cell? ⟨QB,0,none⟩ = some (.bool false) := (blk_cell HQ3.out 0).trans rfl
 have z1 : W3.cell? ⟨QB,1,none⟩ = some (.int .i64 0) := (blk_cell HQ3.out 1).trans rfl
 have g0:=blk_frozen HQ3.out 0
 have g1:=blk_frozen HQ3.out 1
 clear q0' f0' HXB H0' HQB' H2' H3' HK2 HBB2
 go_wp2
 refine bodyPost_ret (results_cell_row rfl _ _ QB 43 #[.bool x.f0,.int .i64 x.f1] (0,0) _ rfl (blk_put (blk_put HQ3.out 0 _ rfl) 1 _ rfl) Try.underlying43 rfl (by kernel_rfl)) rfl ?_
 exact ⟨rfl,PS.mono (PS.far (PS.far HP3.out (p:=⟨QB,0,none⟩) (.inr rfl) ne3 _) (p:=⟨QB,1,none⟩) (.inr rfl) ne3 _) (fun k hk => .inl hk),Kept.setCell (Kept.setCell HK3.out (p:=⟨QB,0,none⟩) (.inr HQW.out) _) (p:=⟨QB,1,none⟩) (.inr HQW.out) _,fun B w0 hB hb => ((HBB3.out B w0 hB hb).setCell (p:=⟨QB,0,none⟩) (by have:=HPB.out;show B ≤ QB;omega) _).setCell (p:=⟨QB,1,none⟩) (by have:=HPB.out;show B ≤ QB;omega) _⟩
end Go.Proofs.Ytapjfnfengefpaa.P
end

section
namespace Go.Proofs.Ytapjfnfengefpaa.P
open Go.RowKit Go.Shelf Go.Proofs.YtapjfnfengefpaaW.PrintWords Go.Proofs.YtapjfnfengefpaaW.PrintLast Go.Proofs.YtapjfnfengefpaaW.PrintMore
set_option linter.unusedVariables false
set_option linter.unusedSimpArgs false
attribute [local go_sem] Oper.semAt_some
def dn (zs : List S43) (k : Nat) : List (Nat × S43) := (List.range k).map fun j => (zs.length - 1 - j,zs.getD (zs.length - 1 - j) ⟨false,0⟩)
theorem dn_succ (zs : List S43) (k : Nat) : dn zs (k + 1) = dn zs k ++ [(zs.length - 1 - k,zs.getD (zs.length - 1 - k) ⟨false,0⟩)] := by simp [dn,List.range_succ]
theorem dn_length (zs : List S43) (k : Nat) : (dn zs k).length = k:=by simp [dn]
theorem dn_all (zs : List S43) : (dn zs zs.length).map Prod.snd = zs.reverse:=by
 apply List.ext_getElem
 · simp [dn]
 · intro i h1 h2
   simp only [List.length_reverse] at h2
   have h3 : zs.length - 1 - i < zs.length:=by omega
   simp [dn,List.getElem_reverse,h3]
def backEncs (x : Nat × S43) : Array Value:=#[.int .i64 (x.1 : Int),.agg #[.bool x.2.f0,.int .i64 x.2.f1]]
def BackK (n₀ Bs : Nat) (W W' : World) : Prop:=Below n₀ W W' ∧ (∀ o,W.heap[Bs]? = some o → W'.heap[Bs]? = some o)
theorem backK_t {n₀ Bs : Nat} {A B C : World} (h : BackK n₀ Bs A B) (k : BackK n₀ Bs B C) : BackK n₀ Bs A C:=⟨h.1.trans k.1,fun o ho => k.2 o (h.2 o ho)⟩
set_option maxRecDepth 100000 in
set_option maxHeartbeats 2000000 in
theorem back1_in (n : Nat) (hn : 1 ≤ n) (l Bs n₀ : Nat) (A : Option Addr) (c : Nat) (zs : List S43) (w0 : World) (hw0 : n₀ = w0.heap.size) (hz : Kd.C k43 w0 A zs.length zs) (hbig : zs.length ≤ 1000000000) (J Jx : List (Nat × S43) → World → Prop)
    (hY : ∀ pre x W,J pre W → pre.length < zs.length → YieldAt Fence.wide (n - 1) Try.prog l (backEncs x) W fun e W' =>
      (e = .returned (.bool true) ∧ J (pre ++ [x]) W' ∧ BackK n₀ Bs W W') ∨ (e = .returned (.bool false) ∧ Jx (pre ++ [x]) W'))
    (W : World) (hw : Below n₀ w0 W) (hBs : W.heap[Bs]? = some (.cells #[.slice A zs.length c] 29 (0,0))) (h0 : J [] W) :
    CallsIn Fence.wide n Try.prog 62 #[.func (.yield l) #[] #[],.pointer (some ⟨Bs,0,none⟩)] W fun e W' => (∃ v,e = .returned v) ∧
      ((∃ ys,ys.map Prod.snd = zs.reverse ∧ J ys W') ∨ (∃ pre,True ∧ Jx pre W')) := by
 subst hw0
 refine callsIn_of_wp Try.func62 rfl trivial ?_ rfl
 simp only [Try.ntmps62,List.size_toArray,List.length_cons,List.length_nil,Nat.reduceAdd,Nat.reduceSub,Array.replicate_succ,Array.replicate_zero,List.push_toArray,List.append_toArray,List.nil_append,List.cons_append]
 have hb0 : W.cell? ⟨Bs,0,none⟩ = some (.slice A zs.length c) := (blk_cell hBs 0).trans rfl
 have hwz : IntKind.i64.wrap ((zs.length : Int) - 1) = (zs.length : Int) - 1:=by rw [IntKind.wrap_i64];omega
 gi_wp2
 gi_loopw [3] (fun i wr => ∃ (k : Nat) (z : Int),k ≤ zs.length ∧ i = .int .i64 z ∧ z = (zs.length : Int) - 1 - k ∧ J (dn zs k) wr ∧ Aside0 (Below w0.heap.size w0 wr) ∧ Aside0 (wr.heap[Bs]? = some (.cells #[.slice A zs.length c] 29 (0,0))))
   (fun i _ => (intOf i + 1).toNat)
 case atStart => exact ⟨0,_,Nat.zero_le _,rfl,by omega,h0,⟨hw⟩,⟨hBs⟩⟩
 case round =>
  clear hb0 hwz hBs hw h0
  obtain ⟨k,z,hk,rfl,hzz,hJs,BW,BB⟩ := hrel
  by_cases hlt : k < zs.length
  · obtain ⟨j,hj⟩ : ∃ j : Nat,j = zs.length - 1 - k:=⟨_,rfl⟩
    obtain rfl : z = (j : Int) := by omega
    obtain ⟨ad,ea,e0,e1⟩ := at_T43 (Kd.C_below hz BW.out) (j : Int) (by omega) (by omega)
    have hrx : rd_T43 zs (j : Int) = zs.getD j ⟨false,0⟩ := by rw [rd_T43,Int.toNat_natCast];rfl
    rw [hrx,Int.toNat_natCast] at e0 e1
    have hdn : dn zs (k + 1) = dn zs k ++ [(j,zs.getD j ⟨false,0⟩)] := by rw [dn_succ,hj]
    generalize zs.getD j ⟨false,0⟩ = y at e0 e1 hdn
    obtain ⟨fn,tmps,assign,body,hy,hR⟩ := hY _ (j,y) wr hJs (by rw [dn_length];exact hlt)
    dsimp only [backEncs] at hy
    subst ea
    have b0 : wr.cell? ⟨Bs,0,none⟩ = some (.slice (some ad) zs.length c) := (blk_cell BB.out 0).trans rfl
    have z0 : decide ((0 : Int) ≤ (j : Int)) = true:=decide_eq_true (by omega)
    have z1 : (0 ≤ (j : Int)) = True:=eq_true (by omega)
    have z2 : ((j : Int) < (zs.length : Int)) = True:=eq_true (by omega)
    have hwj : IntKind.i64.wrap ((j : Int) - 1) = (j : Int) - 1:=by rw [IntKind.wrap_i64];omega
    have HK:=Aside0.mk (And.intro hk (And.intro hzz (And.intro hj hlt)))
    clear hk hzz hj hlt hrx hY
    gi_wp2
    refine hR.mono ?_
    rintro e W3 (⟨rfl,hJ3,hk3⟩ | ⟨rfl,hJx3⟩)
    · gi_wp2
      go_roundw
      case rel => exact ⟨k + 1,_,by have:=HK.out;omega,rfl,by have:=HK.out;push_cast;omega,by rw [hdn];exact hJ3,⟨BW.out.trans hk3.1⟩,⟨hk3.2 _ BB.out⟩⟩
      case measure => simp [intOf]
    · gi_wp2
      refine bodyPost_ret (results_none rfl _ _ _) rfl ?_
      exact ⟨⟨_,rfl⟩,.inr ⟨_,trivial,hJx3⟩⟩
  · obtain rfl : k = zs.length:=by omega
    have z0 : decide ((0 : Int) ≤ z) = false:=decide_eq_false (by omega)
    clear hY
    gi_wp2
    go_end0
    exact ⟨⟨_,rfl⟩,.inl ⟨_,dn_all zs,hJs⟩⟩
theorem back_stops (n : Nat) (hn : 1 ≤ n) (Bs n₀ : Nat) (A : Option Addr) (c : Nat) (zs : List S43) (w0 w : World) (hw0 : n₀ = w0.heap.size) (hz : Kd.C k43 w0 A zs.length zs) (hbig : zs.length ≤ 1000000000) (hw : Below n₀ w0 w) (hBs : w.heap[Bs]? = some (.cells #[.slice A zs.length c] 29 (0,0))) :
    SeqStopsK Fence.wide n Try.prog 62 #[.pointer (some ⟨Bs,0,none⟩)] backEncs (BackK n₀ Bs) (fun ys => ys.map Prod.snd = zs.reverse) (fun _ => True) zs.length w:=fun l J Jx W hW _ _ hY h0 =>
  back1_in n hn l Bs n₀ A c zs w0 hw0 hz hbig J Jx hY W (hw.trans (hW.mono (by rw [hw0];exact (by have:=hw.size;omega)))) (blk_below hBs hW) h0
set_option maxHeartbeats 1000000 in
theorem back_in (n : Nat) (A : Option Addr) (len cap : Nat) (w : World) :
    CallsIn Fence.wide n Try.prog 59 #[.slice A len cap] w fun e w' => e = .returned (.func (.func 62) #[] #[.pointer (some ⟨w.heap.size,0,none⟩)]) ∧ w' = w.alloc (.cells #[.slice A len cap] 29) := by
 refine callsIn_of_wp Try.func59 rfl trivial ?_ rfl
 simp only [Try.ntmps59,List.size_toArray,List.length_cons,List.length_nil,Nat.reduceAdd,Nat.reduceSub,Array.replicate_succ,Array.replicate_zero,List.push_toArray,List.append_toArray,List.nil_append,List.cons_append]
 gi_wp2
 go_ret
 exact ⟨rfl,rfl⟩
end Go.Proofs.Ytapjfnfengefpaa.P
end

section
namespace Go.Proofs.Ytapjfnfengefpaa.P
open Go.RowKit Go.Proofs.YtapjfnfengefpaaW.PrintWords Go.Proofs.YtapjfnfengefpaaW.PrintLast Go.Proofs.YtapjfnfengefpaaW.PrintMore
set_option linter.unusedVariables false
set_option linter.unusedSimpArgs false
variable {P : Program} {ops : Array Oper} {Q : Exit → Act → World → Prop} {md : Region.Mode} {S : World → Prop} {ds : List Nat}
theorem rowsIn_round (l n : Nat) {row : String} {args : Array Value} {w : World} {R : Value → World → Prop} (h : Rows P row args w R) : RowsIn (Fence.wide.inRound l) n P row args w R :=
  fun c cs _ => let ⟨v,w',r,s⟩ := h c cs;⟨v,w',r,stepsIn_wide.2 s⟩
theorem wpIn_of_wp_round (l n : Nat) {o : Oper} (hd : ∀ c,o.op ≠ .defer c) {a : Act} {w : World} {K : Act → World → Prop} (h : o.wp P a w K Q) : o.wpIn (Fence.wide.inRound l) n P a w K Q:=by
 refine ⟨fun _ _ => trivial,?_⟩
 rw [Oper.semAt_plain (Fence.wide.inRound l) _ _ hd]
 unfold Oper.wp at h
 cases hr : (execOp a.eval o).run P w with
 | ok x w' =>
  rw [hr] at h
  cases x with
  | value v => exact h
  | skip => exact h
  | defer d => exact h
  | enter f args => exact ⟨fun hh => (by cases hh),CallsIn.inRound l (callsIn_wide.2 h)⟩
  | row r args => exact ⟨fun hh => (by cases hh),rowsIn_round l (n - 1) h⟩
  | _ => exact h.elim
 | halt x w' =>
  rw [hr] at h
  cases x <;> first | exact h | exact h.elim
theorem wpOpIn_of (l n : Nat) (hno : ¬ LetsOut Q) (hd : ∀ o,o ∈ ops.toList → ∀ c,o.op ≠ .defer c) {i : Nat} {K : Act → World → Prop} {a : Act} {w : World} (h : wpOp P ops Q i K a w) : wpOpIn (Fence.wide.inRound l) n P ops Q i K a w:=by
 unfold wpOp at h
 unfold wpOpIn
 cases ho : ops[i]? with
 | none => rw [ho] at h;exact h
 | some o =>
  rw [ho] at h
  have hm : o ∈ ops.toList:=by
   obtain ⟨hi,e⟩ := Array.getElem?_eq_some_iff.1 ho
   rw [← e]
   exact Array.getElem_mem_toList hi
  simp only at h ⊢
  split
  · rename_i hw
    rw [if_pos hw] at h
    rcases h with h | ⟨_,h⟩
    · exact wpIn_of_wp_round l n (hd o hm) h
    · exact absurd h hno
  · rename_i hw
    rw [if_neg hw] at h
    exact ⟨fun _ _ => trivial,h⟩
theorem wpAnyIn_of (l n : Nat) (hno : ¬ LetsOut Q) (hd : ∀ o,o ∈ ops.toList → ∀ c,o.op ≠ .defer c) : ∀ (fuel : Nat) (listed : Array Bool) (a : Act) (w : World),wpAny P md ops Q fuel listed a w → wpAnyIn (Fence.wide.inRound l) n P md ops Q fuel listed a w
  | 0,listed,a,w,h => h
  | fuel + 1,listed,a,w,h => by
    refine ⟨h.1,fun i hi => wpOpIn_mono (fun a w => wpAnyIn_of l n hno hd fuel _ a w) (wpOpIn_of l n hno hd (h.2 i hi))⟩
def noDeferB (ops : Array Oper) : Bool:=ops.toList.all fun o => match o.op with | .defer _ => false | _ => true
theorem noDefer_spec (h : noDeferB ops = true) : ∀ o,o ∈ ops.toList → ∀ c,o.op ≠ .defer c:=fun o ho c e => by
  have:=List.all_eq_true.1 h o ho
  rw [e] at this
  cases this
theorem startR_ {l m : Nat} {id n : Nat} {a : Act} {w : World} (l' : Array Bool) (hno : ¬ LetsOut Q) (hd : noDeferB ops = true) (hm : P.follows .mixedOrders = true) (hn : ops.size = n) (hl : Array.replicate n false = l') (hS : S w.drew)
    (h : S w.drew → wpAnyLast P .any ops Q S ds n l' a w.drew) : (Code.region id ops true).wpIn (Fence.wide.inRound l) m P Q a w:=by
 subst hn
 subst hl
 exact wpIn_region_any hm (wpAnyIn_of l m hno (noDefer_spec hd) _ _ _ _ (wpAny_of_last _ _ _ _ (h hS)))
end Go.Proofs.Ytapjfnfengefpaa.P
end

section
namespace Go.Proofs.Ytapjfnfengefpaa.P
open Go.RowKit Go.Shelf Go.Proofs.YtapjfnfengefpaaW.PrintWords Go.Proofs.YtapjfnfengefpaaW.PrintLast Go.Proofs.YtapjfnfengefpaaW.PrintMore
set_option linter.unusedVariables false
set_option linter.unusedSimpArgs false
attribute [local go_sem] Oper.semAt_some
def Keeps (bad : Nat → Prop) (W W' : World) : Prop := ∀ k o,bad k → W.heap[k]? = some o → o.isCells = true → W'.heap[k]? = some o
theorem Keeps.refl (bad : Nat → Prop) (W : World) : Keeps bad W W:=fun _ _ _ h _ => h
theorem Keeps.trans {bad : Nat → Prop} {A B C : World} (h : Keeps bad A B) (k : Keeps bad B C) : Keeps bad A C:=fun i o hb ho hc => k i o hb (h i o hb ho hc) hc
theorem Keeps.mono {bad bad' : Nat → Prop} {A B : World} (h : Keeps bad A B) (hm : ∀ k,bad' k → bad k) : Keeps bad' A B:=fun i o hb ho hc => h i o (hm i hb) ho hc
theorem Keeps.below {bad : Nat → Prop} {A B : World} (h : Below A.heap.size A B) : Keeps bad A B:=fun i o _ ho _ => blk_below ho h
theorem Keeps.grown {bad : Nat → Prop} {A B : World} {row : Option Nat} (hg : A.grownBy B row) (h : ∀ k,bad k → some k ≠ row) : Keeps bad A B:=fun i o hb ho _ => (hg.block i (blk_lt ho) (h i hb)).trans ho
theorem Keeps.set {bad : Nat → Prop} {A : World} {p : Addr} (h : ¬ bad p.block) (u : Value) : Keeps bad A (A.setCell p u) := fun i o hb ho _ => (Below.heap_setCell A p u i (fun e => h (e ▸ hb))).trans ho
theorem Keeps.kept {bad : Nat → Prop} {A B : World} {S : Nat → Prop} (h : Kept A B S) (hb : ∀ k,bad k → ¬ S k) : Keeps bad A B:=fun i o hi ho _ => (h.2 i (blk_lt ho) (hb i hi)).trans ho
theorem PS.other {bad : Nat → Prop} {W W' : World} {base PB : Nat} {st : List S43} {sp : List Int} (h : PS bad W base PB st sp) {row : Option Nat} (hg : W.grownBy W' row) (hr : ∀ r,row = some r → ∃ o : Obj,W.heap[r]? = some o ∧ o.isCells = false) : PS bad W' base PB st sp:=by
 obtain ⟨vs,vt,h0,h1,h2,h3⟩ := h
 have hne : ∀ k cells q,W.heap[k]? = some (.cells cells q (0,0)) → some k ≠ row:=fun k cells q hk e => by
  obtain ⟨o,ho,hc⟩ := hr k e.symm
  rw [hk] at ho
  cases ho
  cases hc
 refine ⟨vs,vt,blk_grown h0 hg (hne _ _ _ h0),h1,?_,?_⟩
 · exact Kd.R_mono (Kd.R_grown (Kd.R_bound h2) hg (fun k hk => by obtain ⟨_,_,_,q,_,cells,hc⟩ := hk;exact hne _ _ _ hc)) (fun k hk => hk.1)
 · exact Kd.R_mono (Kd.R_grown (Kd.R_bound h3) hg (fun k hk => by obtain ⟨_,_,_,q,_,cells,hc⟩ := hk;exact hne _ _ _ hc)) (fun k hk => hk.1)
theorem Keeps.other {bad : Nat → Prop} {A W W' : World} (h : Keeps bad A W) {row : Option Nat} (hg : W.grownBy W' row) (hr : ∀ r,row = some r → ∃ o : Obj,W.heap[r]? = some o ∧ o.isCells = false) : Keeps bad A W' := fun i o hb ho hc => by
  have hX:=h i o hb ho hc
  refine (hg.block i (blk_lt hX) (fun e => ?_)).trans hX
  obtain ⟨o',ho',hc'⟩ := hr i e.symm
  rw [hX] at ho'
  cases ho'
  rw [hc] at hc'
  cases hc'
def noPanic (Q : Exit → Act → World → Prop) : Exit → Act → World → Prop
  | .panic _,_,_ => False
  | e,a,w => Q e a w
theorem noPanic_imp {Q : Exit → Act → World → Prop} : ∀ (e : Exit) (a : Act) (w : World),noPanic Q e a w → Q e a w
  | .panic _,_,_,h => h.elim
  | .normal,_,_,h => h
  | .ret,_,_,h => h
  | .exit _,_,_,h => h
  | .goto _,_,_,h => h
  | .outgrown,_,_,h => h
set_option maxHeartbeats 4000000 in
set_option maxRecDepth 100000 in
theorem expand_any (bad : Nat → Prop) (A0_0 : Option Addr) (c0_0 : Nat) (l0_0 : List ByteArray) (A0_1 : Option Addr) (c0_1 : Nat) (l0_1 : List (S72)) (a0_2 : Int) (a0_3 : Int) (A0_4 : Option Addr) (c0_4 : Nat) (l0_4 : List (S35)) (prod : Int) (st : List S43) (sp : List Int) (PB : Nat) (w0 W : World)
    (hPS : PS bad W w0.heap.size PB st sp) (hw : Below w0.heap.size w0 W) (hbad : ∀ k,bad k → k < W.heap.size) (hPB : ¬ bad PB) (hr4 : Kd.C k35 w0 A0_4 l0_4.length l0_4) (h0 : 0 ≤ prod) (h1 : prod < (l0_4.length : Int))
    (hr : (rd_T35 l0_4 prod).f1.length ≤ 1000000) (hst : st.length ≤ 1000000) (hsp : sp.length ≤ 1000000) :
    Calls Try.prog 53 #[.pointer (some ⟨PB,0,none⟩),.agg #[.slice A0_0 l0_0.length c0_0,.slice A0_1 l0_1.length c0_1,.int .i64 a0_2,.int .i64 a0_3,.slice A0_4 l0_4.length c0_4],.int .i64 prod] W fun e w' =>
      e = .returned (.bool (decide (((rd_T35 l0_4 prod).f1 ++ st).length ≤ 10000) && decide ((sp ++ [prod]).length ≤ 10000))) ∧ PS bad w' w0.heap.size PB ((rd_T35 l0_4 prod).f1 ++ st) (sp ++ [prod]) ∧ Below w0.heap.size w0 w' ∧ Keeps bad W w' ∧ W.heap.size ≤ w'.heap.size:=by
 obtain ⟨ad,A5,c5,ea,_,e1,_,hC5⟩ := at_T35 hr4 prod h0 h1
 generalize (rd_T35 l0_4 prod).f1 = r at e1 hC5 hr ⊢
 subst ea
 have HW:=Aside0.mk hw
 have HBAD : Aside0 (∀ k,(bad k ∨ k = W.heap.size ∨ k = W.heap.size + 1) → k < W.heap.size + 2) := ⟨fun k hk => by rcases hk with h | h | h;have:=hbad k h;omega;omega;omega⟩
 have HP1 : Aside0 (PS (fun k => bad k ∨ k = W.heap.size ∨ k = W.heap.size + 1) ((W.alloc (.cells #[.pointer (some ⟨PB,0,none⟩)] 81)).alloc (.cells #[.slice A0_0 l0_0.length c0_0,.slice A0_1 l0_1.length c0_1,.int .i64 a0_2,.int .i64 a0_3,.slice (some ad) l0_4.length c0_4] 26)) w0.heap.size PB st sp) := ⟨((PS.mono hPS.bound (fun k hk => by rcases hk with h | h | h;exact .inl h;exact .inr (by omega);exact .inr (by omega))).alloc _).alloc _⟩
 have hBW : Below W.heap.size W ((W.alloc (.cells #[.pointer (some ⟨PB,0,none⟩)] 81)).alloc (.cells #[.slice A0_0 l0_0.length c0_0,.slice A0_1 l0_1.length c0_1,.int .i64 a0_2,.int .i64 a0_3,.slice (some ad) l0_4.length c0_4] 26)) := ((Below.refl _ W).alloc (Nat.le_refl _) _).alloc (by simp) _
 have HK1 : Aside0 (Keeps bad W ((W.alloc (.cells #[.pointer (some ⟨PB,0,none⟩)] 81)).alloc (.cells #[.slice A0_0 l0_0.length c0_0,.slice A0_1 l0_1.length c0_1,.int .i64 a0_2,.int .i64 a0_3,.slice (some ad) l0_4.length c0_4] 26))) := ⟨Keeps.below hBW⟩
 have HB1 : Aside0 (Below w0.heap.size w0 ((W.alloc (.cells #[.pointer (some ⟨PB,0,none⟩)] 81)).alloc (.cells #[.slice A0_0 l0_0.length c0_0,.slice A0_1 l0_1.length c0_1,.int .i64 a0_2,.int .i64 a0_3,.slice (some ad) l0_4.length c0_4] 26))) := ⟨hw.trans (hBW.mono hw.size)⟩
 have HTB : Aside0 (((W.alloc (.cells #[.pointer (some ⟨PB,0,none⟩)] 81)).alloc (.cells #[.slice A0_0 l0_0.length c0_0,.slice A0_1 l0_1.length c0_1,.int .i64 a0_2,.int .i64 a0_3,.slice (some ad) l0_4.length c0_4] 26)).heap[W.heap.size]? = some (.cells #[.pointer (some ⟨PB,0,none⟩)] 81 (0,0))) := ⟨blk_alloc (blk_new _ _) _⟩
 have HSB : Aside0 (((W.alloc (.cells #[.pointer (some ⟨PB,0,none⟩)] 81)).alloc (.cells #[.slice A0_0 l0_0.length c0_0,.slice A0_1 l0_1.length c0_1,.int .i64 a0_2,.int .i64 a0_3,.slice (some ad) l0_4.length c0_4] 26)).heap[W.heap.size + 1]? = some (.cells #[.slice A0_0 l0_0.length c0_0,.slice A0_1 l0_1.length c0_1,.int .i64 a0_2,.int .i64 a0_3,.slice (some ad) l0_4.length c0_4] 26 (0,0))) := ⟨by have h:=blk_new (W.alloc (.cells #[.pointer (some ⟨PB,0,none⟩)] 81)) (.cells #[.slice A0_0 l0_0.length c0_0,.slice A0_1 l0_1.length c0_1,.int .i64 a0_2,.int .i64 a0_3,.slice (some ad) l0_4.length c0_4] 26);rw [World.size_alloc] at h;exact h⟩
 have HSZ1 : Aside0 (W.heap.size + 2 ≤ ((W.alloc (.cells #[.pointer (some ⟨PB,0,none⟩)] 81)).alloc (.cells #[.slice A0_0 l0_0.length c0_0,.slice A0_1 l0_1.length c0_1,.int .i64 a0_2,.int .i64 a0_3,.slice (some ad) l0_4.length c0_4] 26)).heap.size) := ⟨by simp⟩
 have HPBN : Aside0 (¬ (bad PB ∨ PB = W.heap.size ∨ PB = W.heap.size + 1)) := ⟨by obtain ⟨_,_,hb,_⟩ := hPS;have:=blk_lt hb;rintro (h | h | h);exact hPB h;omega;omega⟩
 have E1:=Aside0.mk e1
 have HC5:=Aside0.mk hC5
 have HR:=Aside0.mk hr
 have HST:=Aside0.mk hst
 have HSP:=Aside0.mk hsp
 have HPR:=Aside0.mk (And.intro h0 h1)
 clear hPS hw hbad hPB hr4 h0 h1 hr hst hsp e1 hC5 hBW
 refine (callsIn_wide (n:=5)).1 (callsIn_of_wp_marks Try.func53 rfl trivial (wpIn_mono (wpIn_wide.2 ?_) noPanic_imp) rfl)
 simp only [Try.ntmps53,List.size_toArray,List.length_cons,List.length_nil,Nat.reduceAdd,Nat.reduceSub,Array.replicate_succ,Array.replicate_zero,List.push_toArray,List.append_toArray,List.nil_append,List.cons_append]
 obtain ⟨Q',hQ'⟩ : ∃ Q',Q' = bodyPostM Fence.wide 5 Try.prog Try.f53 fun e w' =>
  e = .returned (.bool (decide ((r ++ st).length ≤ 10000) && decide ((sp ++ [prod]).length ≤ 10000))) ∧ PS bad w' w0.heap.size PB (r ++ st) (sp ++ [prod]) ∧ Below w0.heap.size w0 w' ∧ Keeps bad W w' ∧ W.heap.size ≤ w'.heap.size:=⟨_,rfl⟩
 rw [← hQ']
 have HQ' := Aside0.mk hQ'
 clear hQ'
 go_upto_region 1 with fail
 have HZ1 : Aside0 (W.heap.size ≤ ((W.alloc (.cells #[.pointer (some ⟨PB,0,none⟩)] 81)).alloc (.cells #[.slice A0_0 l0_0.length c0_0,.slice A0_1 l0_1.length c0_1,.int .i64 a0_2,.int .i64 a0_3,.slice (some ad) l0_4.length c0_4] 26)).heap.size) := ⟨by have:=HSZ1.out;omega⟩
 generalize ((W.alloc (.cells #[.pointer (some ⟨PB,0,none⟩)] 81)).alloc (.cells #[.slice A0_0 l0_0.length c0_0,.slice A0_1 l0_1.length c0_1,.int .i64 a0_2,.int .i64 a0_3,.slice (some ad) l0_4.length c0_4] 26)) = w1 at HP1 HK1 HB1 HTB HSB HSZ1 HZ1 ⊢
 generalize hSBn : W.heap.size + 1 = SB at HP1 HSB HBAD HPBN ⊢
 generalize hTBn : W.heap.size = TB at HP1 HTB HBAD HSZ1 HPBN ⊢
 have HNE : Aside0 (TB ≠ SB) := ⟨by omega⟩
 clear hSBn hTBn
 have hbad1 : ∀ k,w1.heap.size ≤ k → ¬ (bad k ∨ k = TB ∨ k = SB) := fun k hk h => by have:=HBAD.out k h;have:=HSZ1.out;omega
 have HBN:=Aside0.mk hbad1
 clear hbad1
 obtain ⟨vs,vt,h0,h1,h2,h3⟩ := HP1.out
 have H0:=Aside0.mk h0
 have H1:=Aside0.mk h1
 have H2:=Aside0.mk h2
 have H3:=Aside0.mk h3
 clear h0 h1 h2 h3 HP1
 refine start_ (n:=11) (S:=fun w' => w'.cell? ⟨TB,0,none⟩ = some (.pointer (some ⟨PB,0,none⟩)) ∧ w'.cell? ⟨PB,1,none⟩ = some vt) (ds := [10]) #[false,false,false,false,false,false,false,false,false,false,false] (by kernel_rfl) rfl rfl ⟨(blk_cell HTB.out 0).trans rfl,(blk_cell H0.out 1).trans rfl⟩ (fun hHeld => ?_)
 refine pure_ (i:=5) (N:=some 14) (v:=?_) (a' := ?_) #[false,false,false,false,false,true,false,false,false,false,false] rfl rfl (by kernel_rfl) (fun _ _ _ h => h) (Or.inl ⟨by rfl,?_⟩) ?_ ?_
 rotate_left;(intro w';go_simp;with_reducible rfl);rotate_left;(simp only [pq];rfl)
 refine take_ (i:=0) (N:=some 9) (v:=?_) (a' := ?_) #[true,false,false,false,false,true,false,false,false,false,false] rfl rfl (by kernel_rfl) (fun _ _ _ h => h) (Or.inl ⟨by rfl,?_⟩) hHeld ?_ ?_
 rotate_left
 · rintro w' ⟨s0,s1⟩
   go_simp
   with_reducible rfl
 rotate_left
 · simp only [pq]
   rfl
 refine take_ (i:=1) (N:=some 10) (v:=?_) (a' := ?_) #[true,true,false,false,false,true,false,false,false,false,false] rfl rfl (by kernel_rfl) (fun _ _ _ h => h) (Or.inl ⟨by rfl,?_⟩) hHeld ?_ ?_
 rotate_left
 · rintro w' ⟨s0,s1⟩
   go_simp
   with_reducible rfl
 rotate_left
 · simp only [pq]
   rfl
 refine pure_ (i:=2) (N:=some 11) (v:=?_) (a' := ?_) #[true,true,true,false,false,true,false,false,false,false,false] rfl rfl (by kernel_rfl) (fun _ _ _ h => h) (Or.inl ⟨by rfl,?_⟩) ?_ ?_
 rotate_left;(intro w';go_simp;with_reducible rfl);rotate_left;(simp only [pq];rfl)
 refine pure_ (i:=3) (N:=some 12) (v:=?_) (a' := ?_) #[true,true,true,true,false,true,false,false,false,false,false] rfl rfl (by kernel_rfl) (fun _ _ _ h => h) (Or.inl ⟨by rfl,?_⟩) ?_ ?_
 rotate_left;(intro w';go_simp;with_reducible rfl);rotate_left;(simp only [pq];rfl)
 refine take_ (i:=4) (N:=some 13) (v:=?_) (a' := ?_) #[true,true,true,true,true,true,false,false,false,false,false] rfl rfl (by kernel_rfl) (fun _ _ _ h => h) (Or.inl ⟨by rfl,?_⟩) hHeld ?_ ?_
 rotate_left
 · rintro w' ⟨s0,s1⟩
   go_simp
   with_reducible rfl
 rotate_left
 · simp only [pq]
   rfl
 refine one_ (i:=6) (N:=some 15) #[true,true,true,true,true,true,true,false,false,false,false] rfl rfl (by kernel_rfl) (by decide) (fun K hK => ?_)
 refine value_ (w1:=?_) (v:=?_) (by rfl) rfl ?_ ?_
 rotate_left 2
 · go_simp
   constructor
   · rfl
   · rfl
 refine hK.out _ _ ⟨(blk_cell (blk_alloc HTB.out _) 0).trans rfl,(blk_cell (blk_alloc H0.out _) 1).trans rfl⟩ (fun hHeld => ?_)
 clear hK K
 refine norm_ (a' := ?_) ?_ ?_
 rotate_left
 · show Act.put _ (some 15) _ = _
   simp only [pq]
   rfl
 refine one_ (i:=7) (N:=some 16) #[true,true,true,true,true,true,true,true,false,false,false] rfl rfl (by kernel_rfl) (by decide) (fun K hK => ?_)
 rw [show (w1.alloc (.cells #[.int .i64 prod] 3)).drew = w1.drew.alloc (.cells #[.int .i64 prod] 3) from rfl]
 refine Kd.R_append_step (Kd.int .i64) (w0:=w1.drew) w0.heap.size (by rfl) (.tmp 13) (.tmp 15) 32 3 (.int .i64 0) 8 rfl Try.underlying32 miInt rfl (by decide) (by omega) vt sp prod [.int .i64 prod] (fun k => ¬ (bad k ∨ k = TB ∨ k = SB)) (fun _ => False) rfl rfl rfl (fun _ hk => hk.elim) HBN.out (Kd.R_drew H3.out) (Below.refl _ _) HB1.out.size (by have:=HSP.out;omega) ?_
 intro v1 w2 ho hb hg hat
 obtain ⟨As,ls,cs_,rfl⟩ : ∃ An ln cn,v1 = .slice An ln cn:=by obtain ⟨An,cn,e⟩ := Kd.R_slice ho;exact ⟨An,_,cn,e⟩
 have H02:=Aside0.mk (blk_grown (blk_drew H0.out) hg (Kd.R_ne H3.out H0.out (by decide)))
 have HTB2:=Aside0.mk (blk_grown (blk_drew HTB.out) hg (Kd.R_away H3.out (fun k hk e => hk (.inr (.inl e)))))
 have HSB2:=Aside0.mk (blk_grown (blk_drew HSB.out) hg (Kd.R_away H3.out (fun k hk e => hk (.inr (.inr e)))))
 have H22:=Aside0.mk (Kd.R_over (Kd.R_drew H2.out) (Kd.R_drew H3.out) (by decide) hg)
 have HO2:=Aside0.mk ho
 have HB2 : Aside0 (Below w0.heap.size w0 w2) := ⟨(below_drew1 HB1.out).trans hb⟩
 have HK2 : Aside0 (Keeps bad W w2) := ⟨(show Keeps bad W w1.drew from HK1.out).trans (Keeps.grown hg (fun k hk => Kd.R_away H3.out (fun j hj e => hj (.inl (e ▸ hk)))))⟩
 have HS2:=Aside0.mk hg.size
 have f3:=blk_frozen H02.out 1
 clear ho hb hg hat
 refine hK.out _ _ ⟨(blk_cell HTB2.out 0).trans rfl,(blk_cell H02.out 1).trans rfl⟩ (fun hHeld => ?_)
 clear hK K
 refine norm_ (a' := ?_) ?_ ?_
 rotate_left
 · show Act.put _ (some 16) _ = _
   simp only [pq]
   rfl
 refine pure_ (i:=8) (N:=some 17) (v:=?_) (a' := ?_) #[true,true,true,true,true,true,true,true,true,false,false] rfl rfl (by kernel_rfl) (fun _ _ _ h => h) (Or.inl ⟨by rfl,?_⟩) ?_ ?_
 rotate_left;(intro w';go_simp;with_reducible rfl);rotate_left;(simp only [pq];rfl)
 refine pure_ (i:=9) (N:=some 18) (v:=?_) (a' := ?_) #[true,true,true,true,true,true,true,true,true,true,false] rfl rfl (by kernel_rfl) (fun _ _ _ h => h) (Or.inl ⟨by rfl,?_⟩) ?_ ?_
 rotate_left;(intro w';go_simp;with_reducible rfl);rotate_left;(simp only [pq];rfl)
 refine last_ (i:=10) (N:=none) #[true,true,true,true,true,true,true,true,true,true,true] rfl rfl (by kernel_rfl) (by decide) (fun K hK => ?_)
 refine skip_ (w1:=?_) (by rfl) rfl ?_ ?_
 rotate_left
 · go_simp
   rfl
 refine hK.out _ _ ?_
 clear hK K
 refine done_ (by kernel_rfl) ?_
 have HP3 : Aside0 (PS (fun k => bad k ∨ k = TB ∨ k = SB) (w2.setCell ⟨PB,1,none⟩ (.slice As ls cs_)) w0.heap.size PB st (sp ++ [prod])) := ⟨PS.steps H02.out H1.out H22.out HO2.out⟩
 have HTB3:=Aside0.mk (blk_far HTB2.out (p:=⟨PB,1,none⟩) (fun e => HPBN.out (.inr (.inl e.symm))) (.slice As ls cs_))
 have HSB3:=Aside0.mk (blk_far HSB2.out (p:=⟨PB,1,none⟩) (fun e => HPBN.out (.inr (.inr e.symm))) (.slice As ls cs_))
 have HB3 : Aside0 (Below w0.heap.size w0 (w2.setCell ⟨PB,1,none⟩ (.slice As ls cs_))) := ⟨HB2.out.setCell H1.out _⟩
 have HK3 : Aside0 (Keeps bad W (w2.setCell ⟨PB,1,none⟩ (.slice As ls cs_))) := ⟨HK2.out.trans (Keeps.set (p:=⟨PB,1,none⟩) (fun h => HPBN.out (.inl h)) _)⟩
 have HBN3 : Aside0 (∀ k,(w2.setCell ⟨PB,1,none⟩ (.slice As ls cs_)).heap.size ≤ k → ¬ (bad k ∨ k = TB ∨ k = SB)) := ⟨fun k hk => HBN.out k (Nat.le_trans HS2.out (by simpa [World.setCell] using hk))⟩
 have HZ3 : Aside0 (W.heap.size ≤ (w2.setCell ⟨PB,1,none⟩ (.slice As ls cs_)).heap.size) := ⟨Nat.le_trans (Nat.le_trans HZ1.out HS2.out) (by simp [World.setCell])⟩
 generalize w2.setCell ⟨PB,1,none⟩ (.slice As ls cs_) = w3 at HZ3 HP3 HTB3 HSB3 HB3 HK3 HBN3 ⊢
 clear f3 H0 HTB HSB H2 H3 H02 HTB2 HSB2 H22 HO2 HB2 HK2 HS2 HBN HBAD HSZ1 HK1 HB1
 have q4 : w3.cell? ⟨SB,4,none⟩ = some (.slice (some ad) l0_4.length c0_4) := (blk_cell HSB3.out 4).trans rfl
 have e1:=(HB3.out.cell (World.block_lt_of_cell? _ _ E1.out)).trans E1.out
 have b0 : (0 ≤ prod) = True:=eq_true HPR.out.1
 have b1 : (prod < (l0_4.length : Int)) = True:=eq_true HPR.out.2
 have hcb:=(callsIn_wide (n:=5)).1 (back_in 5 A5 r.length c5 w3)
 have PB5:=Aside0.mk hcb
 clear hcb
 go_wp2_with (first | (go_at_call 59;(with_reducible refine PB5.out.mono ?_);rintro e w4 ⟨rfl,rfl⟩;clear q4 e1))
 have HBW4 : Aside0 (Below w3.heap.size w3 (w3.alloc (.cells #[.slice A5 r.length c5] 29))) := ⟨below_alloc (Below.refl _ w3) _⟩
 have HBS4 : Aside0 ((w3.alloc (.cells #[.slice A5 r.length c5] 29)).heap[w3.heap.size]? = some (.cells #[.slice A5 r.length c5] 29 (0,0))) := ⟨heap_alloc_new w3 _⟩
 have HP4 : Aside0 (PS (fun k => (bad k ∨ k = TB ∨ k = SB) ∨ k = w3.heap.size) (w3.alloc (.cells #[.slice A5 r.length c5] 29)) w0.heap.size PB st (sp ++ [prod])) := ⟨(PS.mono HP3.out.bound (fun k hk => hk.imp id (fun e => by omega))).alloc _⟩
 have HSZ4 : Aside0 (w3.heap.size < (w3.alloc (.cells #[.slice A5 r.length c5] 29)).heap.size) := ⟨by simp⟩
 have HPB4 : Aside0 (¬ ((bad PB ∨ PB = TB ∨ PB = SB) ∨ PB = w3.heap.size)) := ⟨by obtain ⟨_,_,hb,_⟩ := HP3.out;have:=blk_lt hb;rintro (h | h);exact HPBN.out h;omega⟩
 have HTB4:=Aside0.mk (blk_below HTB3.out HBW4.out)
 have HB4 : Aside0 (Below w0.heap.size w0 (w3.alloc (.cells #[.slice A5 r.length c5] 29))) := ⟨HB3.out.trans (HBW4.out.mono HB3.out.size)⟩
 have HK4 : Aside0 (Keeps bad W (w3.alloc (.cells #[.slice A5 r.length c5] 29))) := ⟨HK3.out.trans (Keeps.below HBW4.out)⟩
 have HBN4 : Aside0 (∀ k,(w3.alloc (.cells #[.slice A5 r.length c5] 29)).heap.size ≤ k → ¬ ((bad k ∨ k = TB ∨ k = SB) ∨ k = w3.heap.size)) := ⟨fun k hk h => by
  have h2:=HSZ4.out
  rcases h with h | h
  · exact HBN3.out k (by omega) h
  · omega⟩
 have HZ4 : Aside0 (W.heap.size ≤ (w3.alloc (.cells #[.slice A5 r.length c5] 29)).heap.size) := ⟨by rw [World.size_alloc];have:=HZ3.out;omega⟩
 generalize (w3.alloc (.cells #[.slice A5 r.length c5] 29)) = w4 at HZ4 HBW4 HBS4 HP4 HSZ4 HTB4 HB4 HK4 HBN4 ⊢
 generalize w3.heap.size = BS at HBS4 HP4 HSZ4 HPB4 HBN4 ⊢
 clear HBW4 HP3 HTB3 HSB3 HB3 HK3 HBN3 PB5 b0 b1
 have h4n : w0.heap.size ≤ w4.heap.size:=HB4.out.size
 refine (wpIn_wide (n:=5)).1 ?_
 refine wpIn_rangeFunc_ownH (F:=Fence.wide) (n:=5) rfl (by omega) (gf:=62) (lb:=#[.pointer (some ⟨BS,0,none⟩)]) rfl trivial (enters_of Try.func62 (by kernel_rfl) rfl)
   (back_stops 4 (by omega) BS w0.heap.size A5 c5 r w0 w4 rfl HC5.out (by have:=HR.out;omega) HB4.out HBS4.out) (fun h k => backK_t h k)
   (fun Wx l o o' hl ho hc hw => ⟨belowK_b h4n Wx l o o' hl ho hc hw,fun ob hob => (World.putObj_heap_other (by have:=HSZ4.out;omega)).trans hob⟩) (Below.refl _ _) (fun _ => rfl)
   (fun pre Wx => (PS (fun k => (bad k ∨ k = TB ∨ k = SB) ∨ k = BS) Wx w0.heap.size PB ((pre.map Prod.snd).reverse ++ st) (sp ++ [prod]) ∧ Keeps (fun k => (bad k ∨ k = TB ∨ k = SB) ∨ k = BS) w4 Wx) ∧ (Below w0.heap.size w0 Wx ∧ w4.heap.size ≤ Wx.heap.size))
   (fun _ _ _ => False)
   (OwnFrom.and (fun pre X Y row hs hg hrow => ⟨PS.other hs.1 hg (fun r e => (hrow r e).2),Keeps.other hs.2 hg (fun r e => (hrow r e).2)⟩) (OwnFrom.and (ownFrom_below (Nat.le_refl _) h4n) (fun _ X Y row hs hg _ => Nat.le_trans hs hg.size)))
   (fun _ _ _ _ _ hs _ _ => hs)
   ⟨⟨HP4.out,Keeps.refl _ _⟩,HB4.out,Nat.le_refl _⟩
   (fun x a' Wx => ∃ Bx st',PS (fun k => ((bad k ∨ k = TB ∨ k = SB) ∨ k = BS) ∨ k = Bx) Wx w0.heap.size PB st' (sp ++ [prod]) ∧ Wx.heap[Bx]? = some (.cells #[.bool x.2.f0,.int .i64 x.2.f1] 43 (0,0)) ∧ a' = { tmps:=#[.pointer (some ⟨PB,0,none⟩),.agg #[.slice A0_0 l0_0.length c0_0,.slice A0_1 l0_1.length c0_1,.int .i64 a0_2,.int .i64 a0_3,.slice (some ad) l0_4.length c0_4],.int .i64 prod,.pointer (some ⟨TB,0,none⟩),.pointer (some ⟨SB,0,none⟩),undef,.bool false,undef,.pointer (some ⟨Bx,0,none⟩),.pointer (some ⟨PB,0,none⟩),.pointer (some ⟨PB,0,none⟩),.pointer (some ⟨PB,0,none⟩),.pointer (some ⟨PB,1,none⟩),vt,.int .i64 prod,.slice (some ⟨w1.heap.size,0,none⟩) 1 1,.slice As ls cs_,.pointer (some ⟨PB,0,none⟩),.pointer (some ⟨PB,1,none⟩),.pointer (some ⟨SB,4,none⟩),.slice (some ad) l0_4.length c0_4,.int .i64 prod,.pointer (some (ad.add (prod.toNat * 2))),.pointer (some ⟨(ad.add (prod.toNat * 2)).block,(ad.add (prod.toNat * 2)).off + 1,none⟩),.slice A5 r.length c5,.func (.func 62) #[] #[.pointer (some ⟨BS,0,none⟩)],.int .i64 (x.1 : Int),.agg #[.bool x.2.f0,.int .i64 x.2.f1],undef,undef,undef,undef,undef,undef,undef,undef,undef,undef,undef,undef,undef,undef,undef,undef,undef,undef,undef,undef,undef,undef,undef,undef],defers := [] })
   (fun x a' _ X Y row hs hg hrow => by
    obtain ⟨Bx,st',hps,hb,e⟩ := hs
    refine ⟨Bx,st',PS.other hps hg (fun r e => (hrow r e).2),blk_grown hb hg (fun e' => ?_),e⟩
    obtain ⟨_,o,ho,hc⟩ := hrow Bx e'.symm
    rw [hb] at ho
    cases ho
    cases hc) ?assign ?body ?done ?stop
 case assign =>
  rintro l pre x Wx K ⟨⟨hP,hKp⟩,hB,hsz⟩ hK
  have HSZx:=Aside0.mk hsz
  clear hsz
  have HPx:=Aside0.mk hP
  have HKx:=Aside0.mk hKp
  have HBx:=Aside0.mk hB
  clear hP hKp hB
  dsimp only [backEncs]
  gi_wp2
  exact hK _ _ ((KeepsOthers.alloc _ _).from _) ⟨(Below.refl _ Wx).alloc HBx.out.size _,fun o ho => blk_alloc ho _⟩ ⟨⟨HPx.out.alloc _,HKx.out.trans (Keeps.below (below_alloc (Below.refl _ Wx) _))⟩,HBx.out.alloc HBx.out.size _,by rw [World.size_alloc];have:=HSZx.out;omega⟩ ⟨Wx.heap.size,_,(PS.mono HPx.out.bound (fun k hk => hk.imp id (fun e => by omega))).alloc _,heap_alloc_new Wx _,rfl⟩
 case body =>
  rintro l pre x a' Wx hl ⟨rl,hrl⟩ ⟨⟨hP,hKp⟩,hB,hsz⟩ ⟨Bx,st',hP',hBx,rfl⟩ hlen
  have hT:=hKp TB _ (.inl (.inr (.inl rfl))) HTB4.out rfl
  obtain ⟨vs,vt',h0,h1,h2,h3⟩ := hP
  have hnB : some Bx ≠ vs.ownBlock:=by
   obtain ⟨vs2,vt2,h0',_,h2',_⟩ := hP'
   rw [h0] at h0'
   injection h0' with h0'
   injection h0' with h0'
   injection h0' with h0'
   injection h0' with e1 _
   subst e1
   exact Kd.R_away h2' (fun k hk e => hk (.inr e))
  have HNB:=Aside0.mk hnB
  clear hnB hP'
  have t0 : Wx.cell? ⟨TB,0,none⟩ = some (.pointer (some ⟨PB,0,none⟩)) := (blk_cell hT 0).trans rfl
  have p0 : Wx.cell? ⟨PB,0,none⟩ = some vs:=(blk_cell h0 0).trans rfl
  have x0 : Wx.cell? ⟨Bx,0,none⟩ = some (.bool x.2.f0) := (blk_cell hBx 0).trans rfl
  have x1 : Wx.cell? ⟨Bx,1,none⟩ = some (.int .i64 x.2.f1) := (blk_cell hBx 1).trans rfl
  have HKp:=Aside0.mk hKp
  have HBx:=Aside0.mk hB
  have H0:=Aside0.mk h0
  have H1x:=Aside0.mk h1
  have H2:=Aside0.mk h2
  have H3:=Aside0.mk h3
  have HT:=Aside0.mk hT
  have HLEN:=Aside0.mk hlen
  have HSZx : Aside0 (w4.heap.size ≤ Wx.heap.size) := ⟨hsz⟩
  clear hsz hKp hB h0 h1 h2 h3 hT hlen hl hrl t0 p0 x0 x1
  have HBxx:=Aside0.mk hBx
  clear hBx
  refine wpIn_block ?_
  refine startR_ (n:=11) (S:=fun w' => w'.cell? ⟨TB,0,none⟩ = some (.pointer (some ⟨PB,0,none⟩)) ∧ w'.cell? ⟨PB,0,none⟩ = some vs ∧ w'.cell? ⟨Bx,0,none⟩ = some (.bool x.2.f0) ∧ w'.cell? ⟨Bx,1,none⟩ = some (.int .i64 x.2.f1)) (ds := [10]) #[false,false,false,false,false,false,false,false,false,false,false] (fun h => by obtain ⟨_,_,h⟩ := h;exact h) (by kernel_rfl) (by kernel_rfl) rfl rfl ⟨(blk_cell HT.out 0).trans rfl,(blk_cell H0.out 0).trans rfl,(blk_cell HBxx.out 0).trans rfl,(blk_cell HBxx.out 1).trans rfl⟩ (fun hHeld => ?_)
  refine take_ (i:=0) (N:=some 28) (v:=?_) (a' := ?_) #[true,false,false,false,false,false,false,false,false,false,false] rfl rfl (by kernel_rfl) (fun _ _ _ h => h) (Or.inl ⟨by rfl,?_⟩) hHeld ?_ ?_
  rotate_left
  · rintro w' ⟨s0,s1,s2,s3⟩
    go_simp
    with_reducible rfl
  rotate_left
  · simp only [pq]
    rfl
  refine take_ (i:=1) (N:=some 29) (v:=?_) (a' := ?_) #[true,true,false,false,false,false,false,false,false,false,false] rfl rfl (by kernel_rfl) (fun _ _ _ h => h) (Or.inl ⟨by rfl,?_⟩) hHeld ?_ ?_
  rotate_left
  · rintro w' ⟨s0,s1,s2,s3⟩
    go_simp
    with_reducible rfl
  rotate_left
  · simp only [pq]
    rfl
  refine pure_ (i:=2) (N:=some 30) (v:=?_) (a' := ?_) #[true,true,true,false,false,false,false,false,false,false,false] rfl rfl (by kernel_rfl) (fun _ _ _ h => h) (Or.inl ⟨by rfl,?_⟩) ?_ ?_
  rotate_left;(intro w';go_simp;with_reducible rfl);rotate_left;(simp only [pq];rfl)
  refine pure_ (i:=3) (N:=some 31) (v:=?_) (a' := ?_) #[true,true,true,true,false,false,false,false,false,false,false] rfl rfl (by kernel_rfl) (fun _ _ _ h => h) (Or.inl ⟨by rfl,?_⟩) ?_ ?_
  rotate_left;(intro w';go_simp;with_reducible rfl);rotate_left;(simp only [pq];rfl)
  refine take_ (i:=4) (N:=some 32) (v:=?_) (a' := ?_) #[true,true,true,true,true,false,false,false,false,false,false] rfl rfl (by kernel_rfl) (fun _ _ _ h => h) (Or.inl ⟨by rfl,?_⟩) hHeld ?_ ?_
  rotate_left
  · rintro w' ⟨s0,s1,s2,s3⟩
    go_simp
    with_reducible rfl
  rotate_left
  · simp only [pq]
    rfl
  refine take_ (i:=5) (N:=some 33) (v:=?_) (a' := ?_) #[true,true,true,true,true,true,false,false,false,false,false] rfl rfl (by kernel_rfl) (fun _ _ _ h => h) (Or.inl ⟨by rfl,?_⟩) hHeld ?_ ?_
  rotate_left
  · rintro w' ⟨s0,s1,s2,s3⟩
    go_simp
    with_reducible rfl
  rotate_left
  · simp only [pq]
    rfl
  refine one_ (i:=6) (N:=some 34) #[true,true,true,true,true,true,true,false,false,false,false] rfl rfl (by kernel_rfl) (by decide) (fun K hK => ?_)
  refine value_ (w1:=?_) (v:=?_) (by rfl) rfl ?_ ?_
  rotate_left 2
  · go_simp
    constructor
    · rfl
    · rfl
  refine hK.out _ _ ⟨(blk_cell (blk_alloc HT.out _) 0).trans rfl,(blk_cell (blk_alloc H0.out _) 0).trans rfl,(blk_cell (blk_alloc HBxx.out _) 0).trans rfl,(blk_cell (blk_alloc HBxx.out _) 1).trans rfl⟩ (fun hHeld => ?_)
  clear hK K
  refine norm_ (a' := ?_) ?_ ?_
  rotate_left
  · show Act.put _ (some 34) _ = _
    simp only [pq]
    rfl
  refine one_ (i:=7) (N:=some 35) #[true,true,true,true,true,true,true,true,false,false,false] rfl rfl (by kernel_rfl) (by decide) (fun K hK => ?_)
  rw [show (Wx.alloc (.cells #[.bool x.2.f0,.int .i64 x.2.f1] 43)).drew = Wx.drew.alloc (.cells #[.bool x.2.f0,.int .i64 x.2.f1] 43) from rfl]
  refine Kd.R_append_step k43 (w0:=Wx.drew) w0.heap.size (by rfl) (.tmp 32) (.tmp 34) 29 43 (.agg #[.bool false,.int .i64 0]) 16 rfl Try.underlying29 info43 rfl (by decide) (by omega) vs _ x.2 [.bool x.2.f0,.int .i64 x.2.f1] (fun k => ¬ ((bad k ∨ k = TB ∨ k = SB) ∨ k = BS)) (fun _ => False) rfl rfl (k43_mkM _ _ _ x.2) (fun _ hk => hk.elim) (fun k hk => HBN4.out k (Nat.le_trans HSZx.out hk)) (Kd.R_drew H2.out) (Below.refl _ _) HBx.out.size (by have:=HR.out;have:=HST.out;have:=HLEN.out;simp only [List.length_reverse,List.length_append,List.length_map];omega) ?_
  intro v1 w5 ho hb hg hat
  obtain ⟨Aq,lq,cq,rfl⟩ : ∃ An ln cn,v1 = .slice An ln cn:=by obtain ⟨An,cn,e⟩ := Kd.R_slice ho;exact ⟨An,_,cn,e⟩
  have H05:=Aside0.mk (blk_grown (blk_drew H0.out) hg (Kd.R_ne H2.out H0.out (by decide)))
  have H35:=Aside0.mk (Kd.R_over (Kd.R_drew H3.out) (Kd.R_drew H2.out) (by decide) hg)
  have HO5:=Aside0.mk ho
  have HB5 : Aside0 (Below w0.heap.size Wx w5) := ⟨(below_drew1 (Below.refl _ Wx)).trans hb⟩
  have HK5 : Aside0 (Keeps (fun k => (bad k ∨ k = TB ∨ k = SB) ∨ k = BS) Wx w5) := ⟨(show Keeps _ Wx Wx.drew from Keeps.refl _ _).trans (Keeps.grown hg (fun k hk => Kd.R_away H2.out (fun j hj e => hj (e ▸ hk))))⟩
  have HG5 : Aside0 (KeepsOthers Wx w5) := ⟨(KeepsOthers.drew Wx).trans (KeepsOthers.of_grownBy hg (fun j o hj ho' => by obtain ⟨cells,hc⟩ := Kd.R_typed H2.out j hj;rw [show Wx.drew.heap[j]? = Wx.heap[j]? from rfl,hc] at ho';cases ho';rfl))⟩
  have HT5:=Aside0.mk (blk_grown (blk_drew HT.out) hg (Kd.R_away H2.out (fun k hk e => hk (.inl (.inr (.inl e))))))
  have HBx5:=Aside0.mk (blk_grown (blk_drew HBxx.out) hg HNB.out)
  have f5:=blk_frozen H05.out 0
  clear ho hb hg hat
  refine hK.out _ _ ⟨(blk_cell HT5.out 0).trans rfl,(blk_cell H05.out 0).trans rfl,(blk_cell HBx5.out 0).trans rfl,(blk_cell HBx5.out 1).trans rfl⟩ (fun hHeld => ?_)
  clear hK K
  refine norm_ (a' := ?_) ?_ ?_
  rotate_left
  · show Act.put _ (some 35) _ = _
    simp only [pq]
    rfl
  refine pure_ (i:=8) (N:=some 36) (v:=?_) (a' := ?_) #[true,true,true,true,true,true,true,true,true,false,false] rfl rfl (by kernel_rfl) (fun _ _ _ h => h) (Or.inl ⟨by rfl,?_⟩) ?_ ?_
  rotate_left;(intro w';go_simp;with_reducible rfl);rotate_left;(simp only [pq];rfl)
  refine pure_ (i:=9) (N:=some 37) (v:=?_) (a' := ?_) #[true,true,true,true,true,true,true,true,true,true,false] rfl rfl (by kernel_rfl) (fun _ _ _ h => h) (Or.inl ⟨by rfl,?_⟩) ?_ ?_
  rotate_left;(intro w';go_simp;with_reducible rfl);rotate_left;(simp only [pq];rfl)
  refine last_ (i:=10) (N:=none) #[true,true,true,true,true,true,true,true,true,true,true] rfl rfl (by kernel_rfl) (by decide) (fun K hK => ?_)
  refine skip_ (w1:=?_) (by rfl) rfl ?_ ?_
  rotate_left
  · go_simp
    rfl
  refine hK.out _ _ ?_
  clear hK K
  refine done_ (by kernel_rfl) ?_
  have hBS:=HKp.out BS _ (.inr rfl) HBS4.out rfl
  have hst2 : Kd.R k43 43 w5 w0.heap.size (fun k => ¬ ((bad k ∨ k = TB ∨ k = SB) ∨ k = BS)) (.slice Aq lq cq) (((pre ++ [x]).map Prod.snd).reverse ++ st).reverse:=by
   have h:=HO5.out
   have e : (((pre ++ [x]).map Prod.snd).reverse ++ st).reverse = (((pre.map Prod.snd).reverse ++ st).reverse) ++ [x.2] := by simp
   rw [e]
   exact h
  exact ⟨(HG5.out.trans (KeepsOthers.setCell _ _ _)).from _,⟨HB5.out.setCell (p:=⟨PB,0,none⟩) H1x.out _,fun o ho => by
   rw [hBS] at ho
   cases ho
   exact (HK5.out.trans (Keeps.set (p:=⟨PB,0,none⟩) HPB4.out _)) BS _ (.inr rfl) hBS rfl⟩,⟨PS.stack H05.out H1x.out hst2 H35.out,HKp.out.trans (HK5.out.trans (Keeps.set (p:=⟨PB,0,none⟩) HPB4.out _))⟩,(HBx.out.trans HB5.out).setCell (p:=⟨PB,0,none⟩) H1x.out _,by have h1:=HSZx.out;have h2:=HG5.out.size;have h3 : w5.heap.size ≤ (w5.setCell ⟨PB,0,none⟩ (.slice Aq lq cq)).heap.size:=(by simp [World.setCell]);omega⟩
 case done =>
  rintro D ys Wd hD hys ⟨⟨hP,hKp⟩,hB,hsz⟩ hK
  have hT:=hKp TB _ (.inl (.inr (.inl rfl))) HTB4.out rfl
  obtain ⟨vs,vt',h0,h1,h2,h3⟩ := hP
  rw [hys,List.reverse_reverse] at h2
  obtain ⟨Av,cv,rfl⟩ := Kd.R_slice h2
  obtain ⟨Au,cu,rfl⟩ := Kd.R_slice h3
  have t0 : Wd.cell? ⟨TB,0,none⟩ = some (.pointer (some ⟨PB,0,none⟩)) := (blk_cell hT 0).trans rfl
  have p0:=(blk_cell h0 0)
  have p1:=(blk_cell h0 1)
  have hrow : ∀ q,(some D : Option Nat) = some q → ∃ o : Obj,Wd.heap[q]? = some o ∧ o.isCells = false:=fun q e => by
   injection e with e
   subst e
   exact ⟨_,hK,rfl⟩
  have HPd:=Aside0.mk (PS.mono (PS.other ⟨_,_,h0,h1,h2,h3⟩ (grownBy_putObj' Wd D (.deferred none)) hrow) (fun k (hk : bad k) => .inl (.inl hk)))
  have HBd:=Aside0.mk (hB.trans (belowK_b (w:=w4) h4n Wd D _ (.deferred none) hD hK rfl rfl))
  have HKd:=Aside0.mk (HK4.out.trans (Keeps.mono (Keeps.other hKp (grownBy_putObj' Wd D (.deferred none)) hrow) (fun k (hk : bad k) => .inl (.inl hk))))
  have HD:=Aside0.mk hK
  have HZd : Aside0 (W.heap.size ≤ (Wd.putObj D (.deferred none)).heap.size) := ⟨Nat.le_trans (Nat.le_trans HZ4.out hsz) (grownBy_putObj' Wd D (.deferred none)).size⟩
  have HL1 : Aside0 ((r ++ st).length = r.length + st.length) := ⟨List.length_append⟩
  have HL2 : Aside0 ((sp ++ [prod]).length = sp.length + 1) := ⟨by simp⟩
  clear hK hrow hB hKp h0 h1 h2 h3 hT hsz hys hD
  go_wp2
  · show Q' .ret _ _
    rw [HQ'.out]
    refine ⟨by simp,.inl ⟨_,_,rfl,run_takeDeferred HD.out,_,results_tmp rfl _ _ _,?_,HPd.out,HBd.out,HKd.out,HZd.out⟩⟩
    rename_i hl
    rw [HL1.out,decide_eq_true (by omega : r.length + st.length ≤ 10000)]
    simp
    omega
  · show Q' .ret _ _
    rw [HQ'.out]
    refine ⟨by simp,.inl ⟨_,_,rfl,run_takeDeferred HD.out,_,results_tmp rfl _ _ _,?_,HPd.out,HBd.out,HKd.out,HZd.out⟩⟩
    rename_i hl
    rw [HL1.out,decide_eq_false (by omega : ¬ r.length + st.length ≤ 10000)]
    rfl
 case stop =>
  rintro D c pre Wx _ _ h _
  exact h.elim
end Go.Proofs.Ytapjfnfengefpaa.P
end

section
namespace Go.Proofs.Ytapjfnfengefpaa.P
open Go.RowKit Go.Proofs.YtapjfnfengefpaaW.PrintWords Go.Proofs.YtapjfnfengefpaaW.PrintLast Go.Proofs.YtapjfnfengefpaaW.PrintMore
set_option linter.unusedVariables false
set_option linter.unusedSimpArgs false
def mEnt (tb : List (List Int)) (x look : Int) : Int:=(tb.getD x.toNat []).getD look.toNat 0
def mFeed (nt : Nat) (ps : List S35) (tb : List (List Int)) (look : Int) : Nat → List S43 → List Int → Option (Int × List S43 × List Int)
  | 0,_,_ => none
  | k + 1,[],sp => some (if look < (nt : Int) then 80 else 0,[],sp)
  | k + 1,x :: st,sp =>
    if x.f0 = true ∧ x.f1 = look then some (0,st,sp)
    else if x.f0 = true ∨ mEnt tb x.f1 look < 0 then some (80,st,sp)
    else if decide (((rd_T35 ps (mEnt tb x.f1 look)).f1 ++ st).length ≤ 10000) && decide ((sp ++ [mEnt tb x.f1 look]).length ≤ 10000) then mFeed nt ps tb look k ((rd_T35 ps (mEnt tb x.f1 look)).f1 ++ st) (sp ++ [mEnt tb x.f1 look])
    else some (2,(rd_T35 ps (mEnt tb x.f1 look)).f1 ++ st,[])
def TabOk (nn nt : Nat) (ps : List S35) (tb : List (List Int)) : Prop:=tb.length = nn ∧ ∀ i,i < tb.length → (tb.getD i []).length = nt + 1 ∧ ∀ q ∈ tb.getD i [],q < (ps.length : Int)
theorem rowsOk_spec {nt : Nat} {ps : List S35} : ∀ (tb : List (List Int)) (r : Nat),rowsOk nt ps r tb = true → ∀ i,i < tb.length → (tb.getD i []).length = nt + 1 ∧ ∀ q ∈ tb.getD i [],okEnt ps ((r + i : Nat) : Int) q = true
  | [],_,_,i,h => by simp at h
  | row :: tb,r,h,i,hi => by
    simp only [rowsOk,Bool.and_eq_true,decide_eq_true_eq] at h
    obtain ⟨⟨h1,h2⟩,h3⟩ := h
    cases i with
    | zero => exact ⟨by simpa using h1,fun q hq => by rw [Nat.add_zero];exact List.all_eq_true.1 h2 q (by simpa using hq)⟩
    | succ i =>
      have:=rowsOk_spec tb (r + 1) h3 i (by simp at hi;omega)
      rw [show r + 1 + i = r + (i + 1) by omega] at this
      simpa using this
theorem tbRight_tab {nn nt : Nat} {ps : List S35} {tb : List (List Int)} (h : tbRight nn nt ps tb = true) : TabOk nn nt ps tb:=by
 simp only [tbRight,Bool.and_eq_true,decide_eq_true_eq] at h
 obtain ⟨_,_,h1,h2⟩ := h
 refine ⟨h1,fun i hi => ?_⟩
 obtain ⟨h3,h4⟩ := rowsOk_spec tb 0 h2 i hi
 refine ⟨h3,fun q hq => ?_⟩
 have h5:=h4 q hq
 simp only [okEnt,Bool.and_eq_true,decide_eq_true_eq] at h5
 exact h5.1.2
theorem tbRight_prods {nn nt : Nat} {ps : List S35} {tb : List (List Int)} (h : tbRight nn nt ps tb = true) : ps.all (okProd nn nt) = true:=by
 simp only [tbRight,Bool.and_eq_true] at h
 exact h.1
set_option maxHeartbeats 4000000 in
set_option maxRecDepth 100000 in
theorem feed_any (bad : Nat → Prop) (A0_0 : Option Addr) (c0_0 : Nat) (l0_0 : List ByteArray) (A0_1 : Option Addr) (c0_1 : Nat) (l0_1 : List (S72)) (a0_2 : Int) (a0_3 : Int) (A0_4 : Option Addr) (c0_4 : Nat) (l0_4 : List (S35)) (A1 : Option Addr) (c1 : Nat) (tb : List (List Int)) (look : Int) (st : List S43) (sp : List Int) (PB : Nat) (w0 W : World) (k : Nat) (R : Int × List S43 × List Int)
    (hPS : PS bad W w0.heap.size PB st sp) (hbad : ∀ k,bad k → k < W.heap.size) (hPB : ¬ bad PB) (hw : Below w0.heap.size w0 W) (hr4 : Kd.C k35 w0 A0_4 l0_4.length l0_4) (ht : Kd.C (Kd.slice 3 (Kd.int .i64)) w0 A1 tb.length tb)
    (hps : l0_4.all (okProd l0_0.length l0_1.length) = true) (htab : TabOk l0_0.length l0_1.length l0_4 tb) (hst : st.all (okSym l0_0.length l0_1.length) = true) (h0 : 0 ≤ look) (h1 : look ≤ (l0_1.length : Int)) (hsz : ∀ p ∈ l0_4,p.f1.length ≤ 1000000) (hl : st.length ≤ 10000) (hs : sp.length ≤ 10000)
    (h : mFeed l0_1.length l0_4 tb look k st sp = some R) :
    Calls Try.prog 38 #[.pointer (some ⟨PB,0,none⟩),.agg #[.slice A0_0 l0_0.length c0_0,.slice A0_1 l0_1.length c0_1,.int .i64 a0_2,.int .i64 a0_3,.slice A0_4 l0_4.length c0_4],.slice A1 tb.length c1,.int .i64 look] W fun e w' =>
      e = .returned (.int .i64 R.1) ∧ PS bad w' w0.heap.size PB R.2.1 R.2.2 ∧ Below w0.heap.size w0 w' ∧ Keeps bad W w' := by
 have HR4:=Aside0.mk hr4
 have HT:=Aside0.mk ht
 have HPS:=Aside0.mk hps
 have HTAB:=Aside0.mk htab
 have HLK:=Aside0.mk (And.intro h0 h1)
 have HSZ:=Aside0.mk hsz
 have HP1 : Aside0 (PS (fun k => bad k ∨ k = W.heap.size) (W.alloc (.cells #[.slice A0_0 l0_0.length c0_0,.slice A0_1 l0_1.length c0_1,.int .i64 a0_2,.int .i64 a0_3,.slice A0_4 l0_4.length c0_4] 26)) w0.heap.size PB st sp) := ⟨(PS.mono hPS.bound (fun k hk => hk.imp id (fun e => by omega))).alloc _⟩
 have HB1 : Aside0 (Below w0.heap.size w0 (W.alloc (.cells #[.slice A0_0 l0_0.length c0_0,.slice A0_1 l0_1.length c0_1,.int .i64 a0_2,.int .i64 a0_3,.slice A0_4 l0_4.length c0_4] 26))) := ⟨hw.trans ((below_alloc (Below.refl _ W) _).mono hw.size)⟩
 have HSB : Aside0 ((W.alloc (.cells #[.slice A0_0 l0_0.length c0_0,.slice A0_1 l0_1.length c0_1,.int .i64 a0_2,.int .i64 a0_3,.slice A0_4 l0_4.length c0_4] 26)).heap[W.heap.size]? = some (.cells #[.slice A0_0 l0_0.length c0_0,.slice A0_1 l0_1.length c0_1,.int .i64 a0_2,.int .i64 a0_3,.slice A0_4 l0_4.length c0_4] 26 (0,0))) := ⟨heap_alloc_new W _⟩
 have HPBN : Aside0 (¬ (bad PB ∨ PB = W.heap.size)) := ⟨by obtain ⟨_,_,hb,_⟩ := hPS;have:=blk_lt hb;rintro (h | h);exact hPB h;omega⟩
 have HKW : Aside0 (Keeps bad W (W.alloc (.cells #[.slice A0_0 l0_0.length c0_0,.slice A0_1 l0_1.length c0_1,.int .i64 a0_2,.int .i64 a0_3,.slice A0_4 l0_4.length c0_4] 26))) := ⟨Keeps.below (below_alloc (Below.refl _ W) _)⟩
 have HBAD:=Aside0.mk hbad
 have HALL:=Aside0.mk hst
 have HL:=Aside0.mk (And.intro hl hs)
 have HF:=Aside0.mk h
 clear hPS hbad hPB hw hr4 ht hps htab hst h0 h1 hsz hl hs h
 go_enter Try.func38,Try.ntmps38
 go_wp2
 generalize W.alloc (.cells #[.slice A0_0 l0_0.length c0_0,.slice A0_1 l0_1.length c0_1,.int .i64 a0_2,.int .i64 a0_3,.slice A0_4 l0_4.length c0_4] 26) = w1 at HP1 HB1 HSB HKW ⊢
 have HSBW : Aside0 (∀ k,bad k ∨ k = W.heap.size → k < w1.heap.size) := ⟨fun k hk => by have:=blk_lt HSB.out;rcases hk with h | h;have:=HBAD.out k h;omega;omega⟩
 generalize W.heap.size = SB at HP1 HSB HPBN HSBW ⊢
 go_loopg [9] k (fun kq v9 wr => ∃ (st : List S43) (sp : List Int),Aside0 (mFeed l0_1.length l0_4 tb look kq st sp = some R) ∧ Aside0 (PS (fun k => bad k ∨ k = SB) wr w0.heap.size PB st sp) ∧ Aside0 (Keeps (fun k => bad k ∨ k = SB) w1 wr) ∧ Aside0 (Below w0.heap.size w0 wr ∧ w1.heap.size ≤ wr.heap.size) ∧ Aside0 (st.all (okSym l0_0.length l0_1.length) = true) ∧ Aside0 (st.length ≤ 10000 ∧ sp.length ≤ 10000))
 case atStart => exact ⟨st,sp,HF,HP1,⟨Keeps.refl _ _⟩,⟨HB1.out,Nat.le_refl _⟩,HALL,HL⟩
 case round =>
  clear HF HP1 HB1 HALL HL
  obtain ⟨st,sp,HF,HP,HK,HBZ,HALL,HL⟩ := hrel
  have HB:=Aside0.mk HBZ.out.1
  have HW1r:=Aside0.mk HBZ.out.2
  clear HBZ
  cases gk with
  | zero => exact absurd HF.out (by simp [mFeed])
  | succ gk =>
   obtain ⟨vs,vt,g0,g1,g2,g3⟩ := HP.out
   obtain ⟨Av,cv,rfl⟩ := Kd.R_slice g2
   obtain ⟨Au,cu,rfl⟩ := Kd.R_slice g3
   cases st with
   | nil =>
    have p0 : wr.cell? ⟨PB,0,none⟩ = some (.slice Av 0 cv) := (blk_cell g0 0).trans rfl
    have hS:=HK.out SB _ (.inr rfl) HSB.out rfl
    have q1 : wr.cell? ⟨SB,1,none⟩ = some (.slice A0_1 l0_1.length c0_1) := (blk_cell hS 1).trans rfl
    have hf:=HF.out
    rw [mFeed] at hf
    have HF2:=Aside0.mk (Option.some.inj hf).symm
    clear hf hS g0 g1 g2 g3 HF
    by_cases hlk : look < (l0_1.length : Int)
    · have d1 : decide (look < (l0_1.length : Int)) = true:=decide_eq_true hlk
      have HQ:=Aside0.mk (if_pos hlk : (if look < (l0_1.length : Int) then (80 : Int) else 0) = 80)
      clear d1
      go_wp2
      go_ret
      exact ⟨by rw [HF2.out,HQ.out];rfl,by rw [HF2.out];exact PS.mono HP.out (fun _ h => .inl h),HB.out,HKW.out.trans (Keeps.mono HK.out (fun _ h => .inl h))⟩
    · have HQ:=Aside0.mk (if_neg hlk : (if look < (l0_1.length : Int) then (80 : Int) else 0) = 0)
      go_wp2
      go_ret
      exact ⟨by rw [HF2.out,HQ.out];rfl,by rw [HF2.out];exact PS.mono HP.out (fun _ h => .inl h),HB.out,HKW.out.trans (Keeps.mono HK.out (fun _ h => .inl h))⟩
   | cons x st =>
    have p0 : wr.cell? ⟨PB,0,none⟩ = some (.slice Av (x :: st).reverse.length cv) := (blk_cell g0 0).trans rfl
    have hlen : (x :: st).reverse.length = st.length + 1:=by simp
    rw [hlen] at p0
    have PP:=Aside0.mk (pop_any (fun k => bad k ∨ k = SB) x st sp w0.heap.size PB wr HP.out (by have:=HL.out.1;simp only [List.length_cons] at this;omega))
    have H1:=Aside0.mk g1
    obtain ⟨n,hn⟩ : ∃ n,n = st.length:=⟨_,rfl⟩
    rw [← hn] at p0
    have hn0 : decide ((0 : Int) < (n : Int) + 1) = true:=decide_eq_true (by omega)
    clear g0 g1 g2 g3 hlen HP hn
    go_upto_region 3 with (first | (go_at_call 52;(with_reducible refine PP.out.mono ?_);rintro e w2 ⟨rfl,hp2,hk2,hb2⟩;have HP2:=Aside0.mk hp2;have HK2 : Aside0 (Keeps (fun k => bad k ∨ k = SB) w1 w2) := ⟨HK.out.trans (Keeps.kept hk2 (fun k hk e => HPBN.out (by rw [← e];exact hk)))⟩;have HB2:=Aside0.mk (hb2 _ _ H1.out HB.out);have HW12 : Aside0 (w1.heap.size ≤ w2.heap.size) := ⟨Nat.le_trans HW1r.out hk2.1⟩;clear hp2 hk2 hb2 PP))
    have HXB : Aside0 ((w2.alloc (.cells #[.bool x.f0,.int .i64 x.f1] 43)).heap[w2.heap.size]? = some (.cells #[.bool x.f0,.int .i64 x.f1] 43 (0,0))) := ⟨heap_alloc_new w2 _⟩
    have HP3:=Aside0.mk (HP2.out.alloc (.cells #[.bool x.f0,.int .i64 x.f1] 43))
    have HK3 : Aside0 (Keeps (fun k => bad k ∨ k = SB) w1 (w2.alloc (.cells #[.bool x.f0,.int .i64 x.f1] 43))) := ⟨HK2.out.trans (Keeps.below (below_alloc (Below.refl _ w2) _))⟩
    have HB3 : Aside0 (Below w0.heap.size w0 (w2.alloc (.cells #[.bool x.f0,.int .i64 x.f1] 43))) := ⟨HB2.out.trans ((below_alloc (Below.refl _ w2) _).mono HB2.out.size)⟩
    have HW13 : Aside0 (w1.heap.size ≤ (w2.alloc (.cells #[.bool x.f0,.int .i64 x.f1] 43)).heap.size) := ⟨by rw [World.size_alloc];have:=HW12.out;omega⟩
    generalize w2.alloc (.cells #[.bool x.f0,.int .i64 x.f1] 43) = w3 at HXB HP3 HK3 HB3 HW13 ⊢
    generalize w2.heap.size = XB at HXB ⊢
    have x0 : w3.cell? ⟨XB,0,none⟩ = some (.bool x.f0) := (blk_cell HXB.out 0).trans rfl
    have x1 : w3.cell? ⟨XB,1,none⟩ = some (.int .i64 x.f1) := (blk_cell HXB.out 1).trans rfl
    clear p0 hn0 HP2 HK2 HB2 HK HB
    have hf:=HF.out
    rw [mFeed] at hf
    have hxok:=List.all_eq_true.1 HALL.out x List.mem_cons_self
    have HALL2 : Aside0 (st.all (okSym l0_0.length l0_1.length) = true) := ⟨by have:=HALL.out;rw [List.all_cons,Bool.and_eq_true] at this;exact this.2⟩
    have HL2 : Aside0 (st.length + 1 ≤ 10000 ∧ sp.length ≤ 10000) := ⟨by have:=HL.out;simpa using this⟩
    obtain ⟨xf,xn⟩ := x
    simp only at x0 x1 hf hxok
    have HXOK:=Aside0.mk hxok
    cases xf with
    | true =>
     by_cases hxl : xn = look
     · rw [if_pos ⟨rfl,hxl⟩] at hf
       have HF2:=Aside0.mk (Option.some.inj hf).symm
       subst hxl
       clear hf hxok HF HALL HL
       go_wp2
       go_ret
       exact ⟨by rw [HF2.out];rfl,by rw [HF2.out];exact PS.mono HP3.out (fun _ h => .inl h),HB3.out,HKW.out.trans (Keeps.mono HK3.out (fun _ h => .inl h))⟩
     · rw [if_neg (fun h => hxl h.2),if_pos (.inl rfl)] at hf
       have HF2:=Aside0.mk (Option.some.inj hf).symm
       have y1 : (xn == look) = false:=by simp [hxl]
       have y2 : decide (xn = look) = false:=decide_eq_false hxl
       clear hf hxok HF HALL HL
       go_wp2
       go_ret
       exact ⟨by rw [HF2.out];rfl,by rw [HF2.out];exact PS.mono HP3.out (fun _ h => .inl h),HB3.out,HKW.out.trans (Keeps.mono HK3.out (fun _ h => .inl h))⟩
    | false =>
     rw [if_neg (fun h => by cases h.1)] at hf
     obtain ⟨hx0,hx1⟩ : 0 ≤ xn ∧ xn < (l0_0.length : Int) := by simpa [okSym] using hxok
     have htl:=HTAB.out.1
     obtain ⟨hrl,hrq⟩ := HTAB.out.2 xn.toNat (by omega)
     obtain ⟨adt,A9,c9,eat,ht0,_,hC9⟩ := at_rowi (Kd.C_below HT.out HB3.out) xn hx0 (by omega)
     obtain ⟨adr,ear,hr0⟩ := Kd.at_int hC9 look HLK.out.1 (by have:=HLK.out.2;omega)
     rw [show rd (tb.getD xn.toNat []) look = mEnt tb xn look from rfl] at hr0
     have hrm : mEnt tb xn look < (l0_4.length : Int) := hrq _ (by
      unfold mEnt
      generalize tb.getD xn.toNat [] = row at hrl ⊢
      rw [List.getD_eq_getElem?_getD,List.getElem?_eq_getElem (by have:=HLK.out;omega)]
      exact List.getElem_mem _)
     generalize mEnt tb xn look = q at hf hr0 hrm
     obtain ⟨n9,hn9⟩ : ∃ n9,n9 = (tb.getD xn.toNat []).length:=⟨_,rfl⟩
     rw [← hn9] at ht0 hrl
     subst eat
     subst ear
     have b4 : (0 ≤ xn) = True:=eq_true hx0
     have b5 : (xn < (tb.length : Int)) = True:=eq_true (by omega)
     have b6 : (0 ≤ look) = True:=eq_true HLK.out.1
     have b7 : (look < (n9 : Int)) = True:=eq_true (by have:=HLK.out.2;omega)
     have HT0:=Aside0.mk ht0
     have HR0:=Aside0.mk hr0
     have HRM:=Aside0.mk hrm
     by_cases hq : q < 0
     · rw [if_pos (.inr hq)] at hf
       have HF2:=Aside0.mk (Option.some.inj hf).symm
       have y1 : decide (q < 0) = true:=decide_eq_true hq
       clear hf hxok HF HALL HL hrm hn9 hrl hrq htl hx0 hx1 hC9 hq
       go_wp2
       go_ret
       exact ⟨by rw [HF2.out];rfl,by rw [HF2.out];exact PS.mono HP3.out (fun _ h => .inl h),HB3.out,HKW.out.trans (Keeps.mono HK3.out (fun _ h => .inl h))⟩
     · rw [if_neg (fun h => by rcases h with h | h;cases h;exact hq h)] at hf
       have y1 : decide (q < 0) = false:=decide_eq_false hq
       have HF2:=Aside0.mk hf
       have HQ:=Aside0.mk (by omega : 0 ≤ q)
       clear hf hxok HF HALL HL hrm hn9 hrl hrq htl hx0 hx1 hC9 hq
       go_upto_region 7 with fail
       have HSX:=Aside0.mk (HK3.out SB _ (.inr rfl) HSB.out rfl)
       have X1:=Aside0.mk x1
       have hpl : (rd_T35 l0_4 q).f1.length ≤ 1000000 ∧ okProd l0_0.length l0_1.length (rd_T35 l0_4 q) = true:=by
        have hm : rd_T35 l0_4 q ∈ l0_4:=by
         rw [rd_T35,List.getD_eq_getElem?_getD,List.getElem?_eq_getElem (by have:=HQ.out;have:=HRM.out;omega)]
         exact List.getElem_mem _
        exact ⟨HSZ.out _ hm,List.all_eq_true.1 HPS.out _ hm⟩
       have PE:=Aside0.mk (expand_any (fun k => bad k ∨ k = SB) A0_0 c0_0 l0_0 A0_1 c0_1 l0_1 a0_2 a0_3 A0_4 c0_4 l0_4 q st sp PB w0 w3.drew HP3.out.drew (below_drew1 HB3.out) (fun k hk => Nat.lt_of_lt_of_le (HSBW.out k hk) (by have:=HW13.out;exact this)) HPBN.out HR4.out HQ.out HRM.out hpl.1 (by have:=HL2.out;omega) (by have:=HL2.out;omega))
       have HPL:=Aside0.mk hpl
       generalize hbb : (decide (((rd_T35 l0_4 q).f1 ++ st).length ≤ 10000) && decide ((sp ++ [q]).length ≤ 10000)) = tt at HF2 PE
       have HBB:=Aside0.mk hbb
       clear hbb
       clear x0 x1 hpl
       refine start_ (n:=12) (S:=fun w' => w'.cell? ⟨SB,0,none⟩ = some (.slice A0_0 l0_0.length c0_0) ∧ w'.cell? ⟨SB,1,none⟩ = some (.slice A0_1 l0_1.length c0_1) ∧ w'.cell? ⟨SB,2,none⟩ = some (.int .i64 a0_2) ∧ w'.cell? ⟨SB,3,none⟩ = some (.int .i64 a0_3) ∧ w'.cell? ⟨SB,4,none⟩ = some (.slice A0_4 l0_4.length c0_4) ∧ w'.cell? ⟨XB,1,none⟩ = some (.int .i64 xn) ∧ w'.cell? (adt.add xn.toNat) = some (.slice (some adr) n9 c9) ∧ w'.cell? (adr.add look.toNat) = some (.int .i64 q)) (ds := [10]) #[F,F,F,F,F,F,F,F,F,F,F,F] (by kernel_rfl) rfl rfl ⟨(blk_cell HSX.out 0).trans rfl,(blk_cell HSX.out 1).trans rfl,(blk_cell HSX.out 2).trans rfl,(blk_cell HSX.out 3).trans rfl,(blk_cell HSX.out 4).trans rfl,X1.out,HT0.out,HR0.out⟩ (fun hHeld => ?_)
       refine pure_ (i:=0) (N:=some 35) (v:=?_) (a' := ?_) #[T,F,F,F,F,F,F,F,F,F,F,F] rfl rfl (by kernel_rfl) (fun _ _ _ h => h) (Or.inl ⟨by rfl,?_⟩) ?_ ?_
       rotate_left;(intro w';go_simp;with_reducible rfl);rotate_left;(simp only [pq];rfl)
       refine pure_ (i:=2) (N:=some 37) (v:=?_) (a' := ?_) #[T,F,T,F,F,F,F,F,F,F,F,F] rfl rfl (by kernel_rfl) (fun _ _ _ h => h) (Or.inl ⟨by rfl,?_⟩) ?_ ?_
       rotate_left;(intro w';go_simp;with_reducible rfl);rotate_left;(simp only [pq];rfl)
       refine pure_ (i:=3) (N:=some 38) (v:=?_) (a' := ?_) #[T,F,T,T,F,F,F,F,F,F,F,F] rfl rfl (by kernel_rfl) (fun _ _ _ h => h) (Or.inl ⟨by rfl,?_⟩) ?_ ?_
       rotate_left;(intro w';go_simp;with_reducible rfl);rotate_left;(simp only [pq];rfl)
       refine pure_ (i:=7) (N:=some 42) (v:=?_) (a' := ?_) #[T,F,T,T,F,F,F,T,F,F,F,F] rfl rfl (by kernel_rfl) (fun _ _ _ h => h) (Or.inl ⟨by rfl,?_⟩) ?_ ?_
       rotate_left;(intro w';go_simp;with_reducible rfl);rotate_left;(simp only [pq];rfl)
       refine take_ (i:=1) (N:=some 36) (v:=?_) (a' := ?_) #[T,T,T,T,F,F,F,T,F,F,F,F] rfl rfl (by kernel_rfl) (fun _ _ _ h => h) (Or.inl ⟨by rfl,?_⟩) hHeld ?_ ?_
       rotate_left
       · rintro w' ⟨s0,s1,s2,s3,s4,s5,s6,s7⟩
         go_simp
         with_reducible rfl
       rotate_left
       · simp only [pq]
         rfl
       refine take_ (i:=4) (N:=some 39) (v:=?_) (a' := ?_) #[T,T,T,T,T,F,F,T,F,F,F,F] rfl rfl (by kernel_rfl) (fun _ _ _ h => h) (Or.inl ⟨by rfl,?_⟩) hHeld ?_ ?_
       rotate_left
       · rintro w' ⟨s0,s1,s2,s3,s4,s5,s6,s7⟩
         go_simp
         with_reducible rfl
       rotate_left
       · simp only [pq]
         rfl
       refine pure_ (i:=5) (N:=some 40) (v:=?_) (a' := ?_) #[T,T,T,T,T,T,F,T,F,F,F,F] rfl rfl (by kernel_rfl) (fun _ _ _ h => h) (Or.inl ⟨by rfl,?_⟩) ?_ ?_
       rotate_left;(intro w';go_simp;with_reducible rfl);rotate_left;(simp only [pq];rfl)
       refine take_ (i:=6) (N:=some 41) (v:=?_) (a' := ?_) #[T,T,T,T,T,T,T,T,F,F,F,F] rfl rfl (by kernel_rfl) (fun _ _ _ h => h) (Or.inl ⟨by rfl,?_⟩) hHeld ?_ ?_
       rotate_left
       · rintro w' ⟨s0,s1,s2,s3,s4,s5,s6,s7⟩
         go_simp
         with_reducible rfl
       rotate_left
       · simp only [pq]
         rfl
       refine pure_ (i:=8) (N:=some 43) (v:=?_) (a' := ?_) #[T,T,T,T,T,T,T,T,T,F,F,F] rfl rfl (by kernel_rfl) (fun _ _ _ h => h) (Or.inl ⟨by rfl,?_⟩) ?_ ?_
       rotate_left;(intro w';go_simp;with_reducible rfl);rotate_left;(simp only [pq];rfl)
       refine take_ (i:=9) (N:=some 44) (v:=?_) (a' := ?_) #[T,T,T,T,T,T,T,T,T,T,F,F] rfl rfl (by kernel_rfl) (fun _ _ _ h => h) (Or.inl ⟨by rfl,?_⟩) hHeld ?_ ?_
       rotate_left
       · rintro w' ⟨s0,s1,s2,s3,s4,s5,s6,s7⟩
         go_simp
         with_reducible rfl
       rotate_left
       · simp only [pq]
         rfl
       refine last_ (i:=10) (N:=some 45) #[T,T,T,T,T,T,T,T,T,T,T,F] rfl rfl (by kernel_rfl) (by decide) (fun K hK => ?_)
       refine goes_ Try.func53 (by kernel_rfl) rfl #[.pointer (some ⟨PB,0,none⟩),.agg #[.slice A0_0 l0_0.length c0_0,.slice A0_1 l0_1.length c0_1,.int .i64 a0_2,.int .i64 a0_3,.slice A0_4 l0_4.length c0_4],.int .i64 q] (by rfl) rfl rfl (by simp only [List.map_toArray,List.map_cons,List.map_nil];rfl) ?_
       with_reducible refine (PE.out).mono ?_
       rintro e w4 ⟨rfl,hp4,hb4,hk4,hz4⟩
       refine ⟨_,rfl,?_⟩
       have HP4:=Aside0.mk hp4
       have HB4:=Aside0.mk hb4
       have HW14 : Aside0 (w1.heap.size ≤ w4.heap.size) := ⟨Nat.le_trans HW13.out hz4⟩
       have HK4 : Aside0 (Keeps (fun k => bad k ∨ k = SB) w1 w4) := ⟨(show Keeps _ w1 w3.drew from HK3.out).trans hk4⟩
       clear hp4 hb4 hk4 hz4
       refine hK.out _ _ ?_
       clear hK K
       refine norm_ (a' := ?_) ?_ ?_
       rotate_left
       · show Act.put _ (some 45) _ = _
         simp only [pq]
         rfl
       refine pure_ (i:=11) (N:=some 46) (v:=?_) (a' := ?_) #[T,T,T,T,T,T,T,T,T,T,T,T] rfl rfl (by kernel_rfl) (fun _ _ _ h => h) (Or.inl ⟨by rfl,?_⟩) ?_ ?_
       rotate_left;(intro w';go_simp;with_reducible rfl);rotate_left;(simp only [pq];rfl)
       refine done_ (by kernel_rfl) ?_
       have HALL3 : Aside0 (((rd_T35 l0_4 q).f1 ++ st).all (okSym l0_0.length l0_1.length) = true) := ⟨by
        rw [List.all_append,Bool.and_eq_true]
        refine ⟨?_,HALL2.out⟩
        have:=HPL.out.2
        simp only [okProd,Bool.and_eq_true] at this
        exact this.2⟩
       generalize (rd_T35 l0_4 q).f1 = pr at HF2 HP4 HALL3 HBB
       clear b4 b5 b6 b7
       cases tt with
       | true =>
        have HL3 : Aside0 ((pr ++ st).length ≤ 10000 ∧ (sp ++ [q]).length ≤ 10000) := ⟨by have:=HBB.out;simpa only [Bool.and_eq_true,decide_eq_true_eq] using this⟩
        have HF3 : Aside0 (mFeed l0_1.length l0_4 tb look gk (pr ++ st) (sp ++ [q]) = some R) := ⟨by have:=HF2.out;rwa [if_pos rfl] at this⟩
        clear HF2 HBB
        go_wp2
        go_roundg gk
        case measure => omega
        case rel => exact ⟨pr ++ st,sp ++ [q],HF3,HP4,HK4,⟨HB4.out,HW14.out⟩,HALL3,HL3⟩
       | false =>
        have HF3 : Aside0 (R = (2,pr ++ st,[])) := ⟨by have:=HF2.out;rw [if_neg (by simp)] at this;exact (Option.some.inj this).symm⟩
        obtain ⟨vs4,vt4,g0,g1,g2,g3⟩ := HP4.out
        obtain ⟨Au4,cu4,rfl⟩ := Kd.R_slice g3
        have p1:=blk_cell g0 1
        have f1:=blk_frozen g0 1
        have G0:=Aside0.mk g0
        have G1:=Aside0.mk g1
        have G2:=Aside0.mk g2
        clear HF2 HBB g0 g1 g2 g3
        go_wp2
        go_ret
        exact ⟨by rw [HF3.out];rfl,by rw [HF3.out];exact PS.mono (PS.steps G0.out G1.out G2.out (Kd.R_nil _ _ _ _ _)) (fun _ h => .inl h),HB4.out.setCell (p:=⟨PB,1,none⟩) G1.out _,HKW.out.trans ((Keeps.mono HK4.out (fun _ h => .inl h)).trans (Keeps.set (p:=⟨PB,1,none⟩) (fun h => HPBN.out (.inl h)) _))⟩
def mOut : Option (Int × List S43 × List Int) → List S43 × Bool × List Int × Int
  | none => ([],true,[],2)
  | some (e,st,sp) => if e = 0 then (st.reverse,false,sp,0) else ([],true,sp,e)
def mFeedAll (nn nt : Nat) (ps : List S35) (tb : List (List Int)) (stack : List S43) (dead : Bool) (look : Int) : List S43 × Bool × List Int × Int :=
  if tbRight nn nt ps tb = true ∧ stAwaits nn nt stack = true ∧ 0 ≤ look ∧ look ≤ (nt : Int) then
    if dead = true then ([],true,[],80) else mOut (mFeed nt ps tb look 10002 stack.reverse [])
  else ([],true,[],1)
theorem mFeed_some {nt : Nat} {ps : List S35} {tb : List (List Int)} {look : Int} : ∀ (k : Nat) (st : List S43) (sp : List Int),10001 ≤ k + sp.length → sp.length ≤ 10000 → ∃ R,mFeed nt ps tb look k st sp = some R
  | 0,_,_,h,h' => by omega
  | k + 1,[],sp,_,_ => ⟨_,rfl⟩
  | k + 1,x :: st,sp,h,_ => by
    rw [mFeed]
    split
    · exact ⟨_,rfl⟩
    · split
      · exact ⟨_,rfl⟩
      · split
        · rename_i hc
          simp only [Bool.and_eq_true,decide_eq_true_eq] at hc
          exact mFeed_some k _ _ (by simp only [List.length_append,List.length_singleton];omega) hc.2
        · exact ⟨_,rfl⟩
def machine_Feed.f (l0_0 : List ByteArray) (l0_1 : List (S72)) (a0_2 : Int) (a0_3 : Int) (l0_4 : List (S35)) (l1 : List (List Int)) (l2_0 : List (S43)) (a2_1 : Bool) (a3 : Int) : Option (List (S43) × Bool × List Int × Int) :=
  if l0_1.length ≤ 1000000000 ∧ l1.length ≤ 1000000000 ∧ l0_4.length ≤ 1000000000 ∧ l0_4.all (fun p => decide (p.f1.length ≤ 1000000)) = true ∧ l1.all (fun p => decide (p.length ≤ 9223372036854775807)) = true then some (mFeedAll l0_0.length l0_1.length l0_4 l1 l2_0 a2_1 a3) else none
set_option maxHeartbeats 4000000 in
set_option maxRecDepth 100000 in
theorem machine_Feed.calls (A0_0 : Option Addr) (c0_0 : Nat) (l0_0 : List ByteArray) (A0_1 : Option Addr) (c0_1 : Nat) (l0_1 : List (S72)) (a0_2 : Int) (a0_3 : Int) (A0_4 : Option Addr) (c0_4 : Nat) (l0_4 : List (S35)) (A1 : Option Addr) (c1 : Nat) (l1 : List (List Int)) (A2_0 : Option Addr) (c2_0 : Nat) (l2_0 : List (S43)) (a2_1 : Bool) (a3 : Int) (r1 : List (S43)) (r2 : Bool) (r3 : List Int) (r4 : Int) (w : World)
    (hr0_0 : Kd.C Kd.string w A0_0 l0_0.length l0_0) (hc0_0 : l0_0.length ≤ c0_0) (hr0_1 : Kd.C k72 w A0_1 l0_1.length l0_1) (hc0_1 : l0_1.length ≤ c0_1) (hr0_4 : Kd.C k35 w A0_4 l0_4.length l0_4) (hc0_4 : l0_4.length ≤ c0_4) (hr1 : Kd.C (Kd.slice 3 (Kd.int .i64)) w A1 l1.length l1) (hc1 : l1.length ≤ c1) (hr2_0 : Kd.C k43 w A2_0 l2_0.length l2_0) (hc2_0 : l2_0.length ≤ c2_0)
    (h : machine_Feed.f l0_0 l0_1 a0_2 a0_3 l0_4 l1 l2_0 a2_1 a3 = some (r1,r2,r3,r4)) :
    Calls Try.prog 23 #[.agg #[.slice A0_0 l0_0.length c0_0,.slice A0_1 l0_1.length c0_1,.int .i64 a0_2,.int .i64 a0_3,.slice A0_4 l0_4.length c0_4],.slice A1 l1.length c1,.agg #[.slice A2_0 l2_0.length c2_0,.bool a2_1],.int .i64 a3] w fun e w' => ∃ v0_ v1_ : Value,e = .returned (.tuple #[.agg #[v0_,.bool r2],v1_,.int .i64 r4]) ∧ Kd.R k43 43 w' w.heap.size (fun _ => True) v0_ r1 ∧ Kd.R (Kd.int .i64) 3 w' w.heap.size (fun _ => True) v1_ r3 ∧ Below w.heap.size w w' := by
 unfold machine_Feed.f at h
 split at h
 case isFalse => simp at h
 rename_i hbig
 obtain ⟨hb1,hb2,hb3,hb4,hb5⟩ := hbig
 have he:=Option.some.inj h
 clear h
 have hmr : machine_Right.f l0_0 l0_1 a0_2 a0_3 l0_4 l1 = some (tbRight l0_0.length l0_1.length l0_4 l1) := by
  unfold machine_Right.f
  rw [if_pos ⟨hb1,hb2,hb3,List.all_eq_true.2 (fun p hp => decide_eq_true (by have:=of_decide_eq_true (List.all_eq_true.1 hb4 p hp);omega)),hb5⟩]
 have hp1 : ∀ p ∈ l0_4,p.f1.length ≤ 1000000:=fun p hp => of_decide_eq_true (List.all_eq_true.1 hb4 p hp)
 have HE:=Aside0.mk he
 have HP1:=Aside0.mk hp1
 have HMR:=Aside0.mk hmr
 have HBIG:=Aside0.mk hb1
 have H00:=Aside0.mk (And.intro hr0_0 hc0_0)
 have H01:=Aside0.mk (And.intro hr0_1 hc0_1)
 have H04:=Aside0.mk (And.intro hr0_4 hc0_4)
 have H1:=Aside0.mk (And.intro hr1 hc1)
 have H2:=Aside0.mk (And.intro hr2_0 hc2_0)
 clear he hp1 hmr hb1 hb2 hb3 hb4 hb5 hr0_0 hc0_0 hr0_1 hc0_1 hr0_4 hc0_4 hr1 hc1 hr2_0 hc2_0
 go_enter Try.func23,Try.ntmps23
 go_upto_region 1 with fail
 have HW1 : Aside0 (Below w.heap.size w (((w.alloc (.cells #[.slice A0_0 l0_0.length c0_0,.slice A0_1 l0_1.length c0_1,.int .i64 a0_2,.int .i64 a0_3,.slice A0_4 l0_4.length c0_4] 26)).alloc (.cells #[.slice A2_0 l2_0.length c2_0,.bool a2_1] 31)).alloc (.cells #[.slice none 0 0,.bool false] 31))) := ⟨(((Below.refl _ w).alloc (Nat.le_refl _) _).alloc (by simp) _).alloc (by simp;omega) _⟩
 have HS1 : Aside0 ((((w.alloc (.cells #[.slice A0_0 l0_0.length c0_0,.slice A0_1 l0_1.length c0_1,.int .i64 a0_2,.int .i64 a0_3,.slice A0_4 l0_4.length c0_4] 26)).alloc (.cells #[.slice A2_0 l2_0.length c2_0,.bool a2_1] 31)).alloc (.cells #[.slice none 0 0,.bool false] 31)).heap[w.heap.size]? = some (.cells #[.slice A0_0 l0_0.length c0_0,.slice A0_1 l0_1.length c0_1,.int .i64 a0_2,.int .i64 a0_3,.slice A0_4 l0_4.length c0_4] 26 (0,0))) := ⟨blk_alloc (blk_alloc (blk_new _ _) _) _⟩
 have HM1 : Aside0 ((((w.alloc (.cells #[.slice A0_0 l0_0.length c0_0,.slice A0_1 l0_1.length c0_1,.int .i64 a0_2,.int .i64 a0_3,.slice A0_4 l0_4.length c0_4] 26)).alloc (.cells #[.slice A2_0 l2_0.length c2_0,.bool a2_1] 31)).alloc (.cells #[.slice none 0 0,.bool false] 31)).heap[w.heap.size + 1]? = some (.cells #[.slice A2_0 l2_0.length c2_0,.bool a2_1] 31 (0,0))) := ⟨by have h:=blk_alloc (blk_new (w.alloc (.cells #[.slice A0_0 l0_0.length c0_0,.slice A0_1 l0_1.length c0_1,.int .i64 a0_2,.int .i64 a0_3,.slice A0_4 l0_4.length c0_4] 26)) (.cells #[.slice A2_0 l2_0.length c2_0,.bool a2_1] 31)) (.cells #[.slice none 0 0,.bool false] 31);rw [World.size_alloc] at h;exact h⟩
 have HR1 : Aside0 ((((w.alloc (.cells #[.slice A0_0 l0_0.length c0_0,.slice A0_1 l0_1.length c0_1,.int .i64 a0_2,.int .i64 a0_3,.slice A0_4 l0_4.length c0_4] 26)).alloc (.cells #[.slice A2_0 l2_0.length c2_0,.bool a2_1] 31)).alloc (.cells #[.slice none 0 0,.bool false] 31)).heap[w.heap.size + 1 + 1]? = some (.cells #[.slice none 0 0,.bool false] 31 (0,0))) := ⟨by have h:=blk_new ((w.alloc (.cells #[.slice A0_0 l0_0.length c0_0,.slice A0_1 l0_1.length c0_1,.int .i64 a0_2,.int .i64 a0_3,.slice A0_4 l0_4.length c0_4] 26)).alloc (.cells #[.slice A2_0 l2_0.length c2_0,.bool a2_1] 31)) (.cells #[.slice none 0 0,.bool false] 31);rw [World.size_alloc,World.size_alloc] at h;exact h⟩
 generalize (((w.alloc (.cells #[.slice A0_0 l0_0.length c0_0,.slice A0_1 l0_1.length c0_1,.int .i64 a0_2,.int .i64 a0_3,.slice A0_4 l0_4.length c0_4] 26)).alloc (.cells #[.slice A2_0 l2_0.length c2_0,.bool a2_1] 31)).alloc (.cells #[.slice none 0 0,.bool false] 31)) = w1 at HW1 HS1 HM1 HR1 ⊢
 have HSZ : Aside0 (w.heap.size ≤ w.heap.size) := ⟨Nat.le_refl _⟩
 have HRW : Aside0 (w.heap.size ≤ w.heap.size + 1 + 1) := ⟨by omega⟩
 generalize w.heap.size + 1 + 1 = RB at HR1 HRW ⊢
 generalize w.heap.size + 1 = MB at HM1 ⊢
 have HBLK : Aside0 (∀ W,Below w1.heap.size w1 W → (W.cell? ⟨w.heap.size,0,none⟩ = some (.slice A0_0 l0_0.length c0_0) ∧ W.cell? ⟨w.heap.size,1,none⟩ = some (.slice A0_1 l0_1.length c0_1) ∧ W.cell? ⟨w.heap.size,2,none⟩ = some (.int .i64 a0_2) ∧ W.cell? ⟨w.heap.size,3,none⟩ = some (.int .i64 a0_3) ∧ W.cell? ⟨w.heap.size,4,none⟩ = some (.slice A0_4 l0_4.length c0_4)) ∧ W.cell? ⟨MB,0,none⟩ = some (.slice A2_0 l2_0.length c2_0) ∧ W.cell? ⟨MB,1,none⟩ = some (.bool a2_1) ∧ W.heap[RB]? = some (.cells #[.slice none 0 0,.bool false] 31 (0,0))) := ⟨fun W hW => by
  have hb:=blk_below HS1.out hW
  have hm:=blk_below HM1.out hW
  exact ⟨⟨(blk_cell hb 0).trans rfl,(blk_cell hb 1).trans rfl,(blk_cell hb 2).trans rfl,(blk_cell hb 3).trans rfl,(blk_cell hb 4).trans rfl⟩,(blk_cell hm 0).trans rfl,(blk_cell hm 1).trans rfl,blk_below HR1.out hW⟩⟩
 have PR:=Aside0.mk (machine_Right.calls A0_0 c0_0 l0_0 A0_1 c0_1 l0_1 a0_2 a0_3 A0_4 c0_4 l0_4 A1 c1 l1 _ w1 (Kd.C_below H00.out.1 HW1.out) H00.out.2 (Kd.C_below H01.out.1 HW1.out) H01.out.2 (Kd.C_below H04.out.1 HW1.out) H04.out.2 (Kd.C_below H1.out.1 HW1.out) H1.out.2 HMR.out)
 have PA : Aside0 (∀ W,Below w1.heap.size w1 W → Calls Try.prog 35 #[.agg #[.slice A0_0 l0_0.length c0_0,.slice A0_1 l0_1.length c0_1,.int .i64 a0_2,.int .i64 a0_3,.slice A0_4 l0_4.length c0_4],.slice A2_0 l2_0.length c2_0] W fun e w' => e = .returned (.bool (stAwaits l0_0.length l0_1.length l2_0)) ∧ Below W.heap.size W w') := ⟨fun W hW => awaits_any A0_0 c0_0 l0_0 A0_1 c0_1 l0_1 a0_2 a0_3 A0_4 c0_4 l0_4 A2_0 c2_0 l2_0 W (Kd.C_below H2.out.1 (HW1.out.trans (hW.mono HW1.out.size)))⟩
 obtain ⟨⟨q0,q1,q2,q3,q4⟩,_,_,_⟩ := HBLK.out w1 (Below.refl _ _)
 have hsum : mFeedAll l0_0.length l0_1.length l0_4 l1 l2_0 a2_1 a3 = if (tbRight l0_0.length l0_1.length l0_4 l1 && (stAwaits l0_0.length l0_1.length l2_0 && (decide (0 ≤ a3) && decide (a3 ≤ (l0_1.length : Int))))) = true then (if a2_1 = true then ([],true,[],80) else mOut (mFeed l0_1.length l0_4 l1 a3 10002 l2_0.reverse [])) else ([],true,[],1) := by simp [mFeedAll]
 have HSUM:=Aside0.mk hsum
 have HTAB : Aside0 (tbRight l0_0.length l0_1.length l0_4 l1 = true → TabOk l0_0.length l0_1.length l0_4 l1 ∧ l0_4.all (okProd l0_0.length l0_1.length) = true) := ⟨fun h => ⟨tbRight_tab h,tbRight_prods h⟩⟩
 have HAW : Aside0 (stAwaits l0_0.length l0_1.length l2_0 = true → l2_0.length ≤ 10000 ∧ l2_0.all (okSym l0_0.length l0_1.length) = true) := ⟨fun h => by simpa [stAwaits] using h⟩
 clear hsum
 generalize tbRight l0_0.length l0_1.length l0_4 l1 = g1 at PR HSUM HTAB
 generalize stAwaits l0_0.length l0_1.length l2_0 = g2 at PA HSUM HAW
 generalize hok : (g1 && (g2 && (decide (0 ≤ a3) && decide (a3 ≤ (l0_1.length : Int))))) = ok at HSUM
 have HOK:=Aside0.mk hok
 clear hok
 go_cut [13] (fun s13 wc => s13 = .bool (!ok) ∧ Aside0 (Below w1.heap.size w1 wc))
 case first =>
  cases g1 with
  | false =>
   have ho : ok = false:=by rw [← HOK.out];rfl
   subst ho
   go_wp2_with (first | (go_at_call 25;(with_reducible refine PR.out.mono ?_);rintro e w2 ⟨rfl,hb2⟩;have HB2:=Aside0.mk hb2;clear hb2 PR q0 q1 q2 q3 q4))
   go_meet
   case rel => exact ⟨rfl,HB2⟩
  | true =>
   cases g2 with
   | false =>
    have ho : ok = false:=by rw [← HOK.out];rfl
    subst ho
    go_wp2_with (first | (go_at_call 25;(with_reducible refine PR.out.mono ?_);rintro e w2 ⟨rfl,hb2⟩;have HB2:=Aside0.mk hb2;have P2:=Aside0.mk (PA.out w2 hb2);clear hb2 PR q0 q1 q2 q3 q4;obtain ⟨⟨q0,q1,q2,q3,q4⟩,m0,_,_⟩ := HBLK.out w2 HB2.out) | (go_at_call 35;(with_reducible refine P2.out.mono ?_);rintro e w3 ⟨rfl,hb3⟩;have HB3 : Aside0 (Below w1.heap.size w1 w3) := ⟨HB2.out.trans (hb3.mono HB2.out.size)⟩;clear hb3 P2 q0 q1 q2 q3 q4 m0))
    go_meet
    case rel => exact ⟨rfl,HB3⟩
   | true =>
    by_cases ha : a3 < 0
    · have ho : ok = false:=by rw [← HOK.out,decide_eq_false (by omega : ¬ 0 ≤ a3)];rfl
      subst ho
      have HA:=Aside0.mk (decide_eq_true ha)
      clear ha
      go_wp2_with (first | (go_at_call 25;(with_reducible refine PR.out.mono ?_);rintro e w2 ⟨rfl,hb2⟩;have HB2:=Aside0.mk hb2;have P2:=Aside0.mk (PA.out w2 hb2);clear hb2 PR q0 q1 q2 q3 q4;obtain ⟨⟨q0,q1,q2,q3,q4⟩,m0,_,_⟩ := HBLK.out w2 HB2.out) | (go_at_call 35;(with_reducible refine P2.out.mono ?_);rintro e w3 ⟨rfl,hb3⟩;have HB3 : Aside0 (Below w1.heap.size w1 w3) := ⟨HB2.out.trans (hb3.mono HB2.out.size)⟩;clear hb3 P2 q0 q1 q2 q3 q4 m0;have ha:=HA.out))
      go_meet
      case rel => exact ⟨rfl,HB3⟩
    · by_cases hl : a3 ≤ (l0_1.length : Int)
      · have ho : ok = true:=by rw [← HOK.out,decide_eq_true (by omega : 0 ≤ a3),decide_eq_true hl];rfl
        subst ho
        have HA:=Aside0.mk (And.intro (decide_eq_false ha) (decide_eq_false (by omega : ¬ (l0_1.length : Int) < a3)))
        clear ha hl
        go_wp2_with (first | (go_at_call 25;(with_reducible refine PR.out.mono ?_);rintro e w2 ⟨rfl,hb2⟩;have HB2:=Aside0.mk hb2;have P2:=Aside0.mk (PA.out w2 hb2);clear hb2 PR q0 q1 q2 q3 q4;obtain ⟨⟨q0,q1,q2,q3,q4⟩,m0,_,_⟩ := HBLK.out w2 HB2.out) | (go_at_call 35;(with_reducible refine P2.out.mono ?_);rintro e w3 ⟨rfl,hb3⟩;have HB3 : Aside0 (Below w1.heap.size w1 w3) := ⟨HB2.out.trans (hb3.mono HB2.out.size)⟩;clear hb3 P2 q0 q1 q2 q3 q4 m0;obtain ⟨⟨q0,q1,q2,q3,q4⟩,m0,_,_⟩ := HBLK.out w3 HB3.out;have ha:=HA.out.1;have hl:=HA.out.2))
        go_meet
        case rel => exact ⟨rfl,HB3⟩
      · have ho : ok = false:=by rw [← HOK.out,decide_eq_false hl];simp
        subst ho
        have HA:=Aside0.mk (And.intro (decide_eq_false ha) (decide_eq_true (by omega : (l0_1.length : Int) < a3)))
        clear ha hl
        go_wp2_with (first | (go_at_call 25;(with_reducible refine PR.out.mono ?_);rintro e w2 ⟨rfl,hb2⟩;have HB2:=Aside0.mk hb2;have P2:=Aside0.mk (PA.out w2 hb2);clear hb2 PR q0 q1 q2 q3 q4;obtain ⟨⟨q0,q1,q2,q3,q4⟩,m0,_,_⟩ := HBLK.out w2 HB2.out) | (go_at_call 35;(with_reducible refine P2.out.mono ?_);rintro e w3 ⟨rfl,hb3⟩;have HB3 : Aside0 (Below w1.heap.size w1 w3) := ⟨HB2.out.trans (hb3.mono HB2.out.size)⟩;clear hb3 P2 q0 q1 q2 q3 q4 m0;obtain ⟨⟨q0,q1,q2,q3,q4⟩,m0,_,_⟩ := HBLK.out w3 HB3.out;have ha:=HA.out.1;have hl:=HA.out.2))
        go_meet
        case rel => exact ⟨rfl,HB3⟩
 case rest =>
  clear q0 q1 q2 q3 q4 PR PA
  obtain ⟨rfl,HBC⟩ := hcut
  cases ok with
  | false =>
   have HE2 : Aside0 ((([] : List S43),true,([] : List Int),(1 : Int)) = (r1,r2,r3,r4)) := ⟨by rw [← HE.out,HSUM.out];simp⟩
   injection HE2.out with e1 e2
   injection e2 with e2 e3
   injection e3 with e3 e4
   subst e1 e2 e3 e4
   go_wp2_with (first | (go_at_call 36;(with_reducible refine (machine_dead.calls [] true wc rfl).mono ?_);rintro e w2 ⟨v0,rfl,ho,hb2⟩;obtain ⟨Av,cv,rfl⟩ := Kd.R_slice ho;have HO:=Aside0.mk ho;have HB2 : Aside0 (Below w1.heap.size w1 w2) := ⟨HBC.out.trans (hb2.mono HBC.out.size)⟩;clear ho hb2;obtain ⟨_,_,_,hrb⟩ := HBLK.out w2 HB2.out;have HRB2:=Aside0.mk hrb;have s0:=blk_cell hrb 0;have s1:=blk_cell hrb 1;have f0:=blk_frozen hrb 0;have f1:=blk_frozen hrb 1;clear hrb))
   refine bodyPost_ret (results_ctt rfl _ _ RB 31 #[.slice Av 0 cv,.bool true] (0,0) _ rfl (blk_put (blk_put HRB2.out 0 _ rfl) 1 _ rfl) Try.underlying31 rfl (by kernel_rfl)) rfl ?_
   exact ⟨_,_,rfl,Kd.R_lower (Kd.R_set (Kd.R_set HO.out HRB2.out (by decide) 0 _) (blk_put HRB2.out 0 _ rfl) (by decide) 1 _) (Nat.le_trans HW1.out.size HBC.out.size),Kd.R_nil _ _ _ _ _,((HW1.out.trans (HB2.out.mono HW1.out.size)).setCell (p:=⟨RB,0,none⟩) HRW.out _).setCell (p:=⟨RB,1,none⟩) HRW.out _⟩
  | true =>
   obtain ⟨⟨q0,q1,q2,q3,q4⟩,m0,m1,_⟩ := HBLK.out wc HBC.out
   have hg : g1 = true ∧ g2 = true ∧ 0 ≤ a3 ∧ a3 ≤ (l0_1.length : Int) := by have:=HOK.out;simpa only [Bool.and_eq_true,decide_eq_true_eq] using this
   have HG:=Aside0.mk hg
   clear hg
   cases a2_1 with
   | true =>
    have HE2 : Aside0 ((([] : List S43),true,([] : List Int),(80 : Int)) = (r1,r2,r3,r4)) := ⟨by rw [← HE.out,HSUM.out];simp⟩
    injection HE2.out with e1 e2
    injection e2 with e2 e3
    injection e3 with e3 e4
    subst e1 e2 e3 e4
    go_wp2_with (first | (go_at_call 36;(with_reducible refine (machine_dead.calls [] true wc rfl).mono ?_);rintro e w2 ⟨v0,rfl,ho,hb2⟩;obtain ⟨Av,cv,rfl⟩ := Kd.R_slice ho;have HO:=Aside0.mk ho;have HB2 : Aside0 (Below w1.heap.size w1 w2) := ⟨HBC.out.trans (hb2.mono HBC.out.size)⟩;clear ho hb2;obtain ⟨_,_,_,hrb⟩ := HBLK.out w2 HB2.out;have HRB2:=Aside0.mk hrb;have s0:=blk_cell hrb 0;have s1:=blk_cell hrb 1;have f0:=blk_frozen hrb 0;have f1:=blk_frozen hrb 1;clear hrb))
    refine bodyPost_ret (results_ctt rfl _ _ RB 31 #[.slice Av 0 cv,.bool true] (0,0) _ rfl (blk_put (blk_put HRB2.out 0 _ rfl) 1 _ rfl) Try.underlying31 rfl (by kernel_rfl)) rfl ?_
    exact ⟨_,_,rfl,Kd.R_lower (Kd.R_set (Kd.R_set HO.out HRB2.out (by decide) 0 _) (blk_put HRB2.out 0 _ rfl) (by decide) 1 _) (Nat.le_trans HW1.out.size HBC.out.size),Kd.R_nil _ _ _ _ _,((HW1.out.trans (HB2.out.mono HW1.out.size)).setCell (p:=⟨RB,0,none⟩) HRW.out _).setCell (p:=⟨RB,1,none⟩) HRW.out _⟩
   | false =>
    have PC:=Aside0.mk (cloneSym_any A2_0 c2_0 l2_0 wc (Kd.C_below H2.out.1 (HW1.out.trans (HBC.out.mono HW1.out.size))) (by have:=(HAW.out HG.out.2.1).1;omega))
    clear q0 q1 q2 q3 q4
    go_upto_region 6 with (first | (go_at_call 37;(with_reducible refine PC.out.mono ?_);rintro e w2 ⟨v0,rfl,ho,hb2⟩;obtain ⟨Av,cv,rfl⟩ := Kd.R_slice ho;have HO:=Aside0.mk ho;have HB2 : Aside0 (Below w1.heap.size w1 w2) := ⟨HBC.out.trans (hb2.mono HBC.out.size)⟩;clear ho hb2 m0 m1 PC))
    have HPB : Aside0 ((w2.alloc (.cells #[.slice Av l2_0.length cv,.slice none 0 0] 84)).heap[w2.heap.size]? = some (.cells #[.slice Av l2_0.length cv,.slice none 0 0] 84 (0,0))) := ⟨heap_alloc_new w2 _⟩
    have hle2 : w.heap.size ≤ w2.heap.size:=Nat.le_trans HW1.out.size HB2.out.size
    have HRLT : Aside0 (RB < w1.heap.size) := ⟨blk_lt HR1.out⟩
    have HPS : Aside0 (PS (fun k => k = RB) (w2.alloc (.cells #[.slice Av l2_0.length cv,.slice none 0 0] 84)) w.heap.size w2.heap.size l2_0.reverse []) := ⟨⟨_,_,HPB.out,hle2,by rw [List.reverse_reverse];exact Kd.R_alloc (Kd.R_lower (Kd.R_mono (Kd.R_bound HO.out) (fun k hk e => by have h1:=hk.2.1;have h2:=HRLT.out;have h3:=HBC.out.size;omega)) (Nat.le_trans HW1.out.size HBC.out.size)) _,Kd.R_nil _ _ _ _ _⟩⟩
    have HPRB : Aside0 (RB < w2.heap.size) := ⟨Nat.lt_of_lt_of_le HRLT.out HB2.out.size⟩
    have HB3 : Aside0 (Below w1.heap.size w1 (w2.alloc (.cells #[.slice Av l2_0.length cv,.slice none 0 0] 84))) := ⟨HB2.out.trans ((below_alloc (Below.refl _ w2) _).mono HB2.out.size)⟩
    generalize w2.alloc (.cells #[.slice Av l2_0.length cv,.slice none 0 0] 84) = w3 at HPB HPS HB3 ⊢
    have HPW : Aside0 (w.heap.size ≤ w2.heap.size) := ⟨hle2⟩
    generalize w2.heap.size = PB at HPB HPS HPW HPRB ⊢
    obtain ⟨⟨q0,q1,q2,q3,q4⟩,_,_,_⟩ := HBLK.out w3 HB3.out
    obtain ⟨R,hR⟩ := mFeed_some (nt:=l0_1.length) (ps:=l0_4) (tb:=l1) (look:=a3) 10002 l2_0.reverse [] (by omega) (by simp)
    have HS : Aside0 (mOut (some R) = (r1,r2,r3,r4)) := ⟨by have h:=HSUM.out.symm.trans HE.out;simpa [hR] using h⟩
    have PF:=Aside0.mk (feed_any (fun k => k = RB) A0_0 c0_0 l0_0 A0_1 c0_1 l0_1 a0_2 a0_3 A0_4 c0_4 l0_4 A1 c1 l1 a3 l2_0.reverse [] PB w w3 10002 R HPS.out (fun k hk => by rw [hk];exact Nat.lt_of_lt_of_le HRLT.out HB3.out.size) (fun e => by have:=HPRB.out;omega) (HW1.out.trans (HB3.out.mono HW1.out.size)) H04.out.1 H1.out.1 (HTAB.out HG.out.1).2 (HTAB.out HG.out.1).1 (by rw [List.all_reverse];exact (HAW.out HG.out.2.1).2) HG.out.2.2.1 HG.out.2.2.2 HP1.out (by rw [List.length_reverse];exact (HAW.out HG.out.2.1).1) (by simp) hR)
    clear hR hle2
    obtain ⟨e,st,sp⟩ := R
    go_upto_if 52 with (first | (go_at_call 38;(with_reducible refine PF.out.mono ?_);rintro e_ w4 ⟨rfl,hp4,hb4,hk4⟩;have HP4:=Aside0.mk hp4;have HW4:=Aside0.mk hb4;have HRB4:=Aside0.mk (hk4 RB _ rfl (HBLK.out w3 HB3.out).2.2.2 rfl);clear hp4 hb4 hk4 PF q0 q1 q2 q3 q4))
    obtain ⟨vs,vt,g0,g1,g2,g3⟩ := HP4.out
    simp only at g2 g3
    obtain ⟨As,cs_,rfl⟩ := Kd.R_slice g2
    obtain ⟨Au,cu,rfl⟩ := Kd.R_slice g3
    rw [List.length_reverse] at g0 g2
    have G0:=Aside0.mk g0
    have G2:=Aside0.mk g2
    have G3:=Aside0.mk g3
    clear g0 g1 g2 g3
    have HPNR : Aside0 (PB ≠ RB) := ⟨by have:=HPRB.out;omega⟩
    by_cases he0 : e = 0
    · subst he0
      have HS2 : Aside0 ((st.reverse,false,sp,(0 : Int)) = (r1,r2,r3,r4)) := ⟨by have:=HS.out;rwa [mOut,if_pos rfl] at this⟩
      injection HS2.out with e1 e2
      injection e2 with e2 e3
      injection e3 with e3 e4
      subst e1 e2 e3 e4
      have y1 : ((0 : Int) != 0) = false:=by simp
      go_upto_region 9 with fail
      have s0:=blk_cell HRB4.out 0
      have s1:=blk_cell HRB4.out 1
      have f0:=blk_frozen HRB4.out 0
      have f1:=blk_frozen HRB4.out 1
      refine start_ (n:=12) (S:=fun w' => w'.cell? ⟨PB,0,none⟩ = some (.slice As st.length cs_) ∧ w'.cell? ⟨PB,1,none⟩ = some (.slice Au sp.length cu)) (ds := []) #[F,F,F,F,F,F,F,F,F,F,F,F] (by kernel_rfl) rfl rfl ⟨(blk_cell G0.out 0).trans rfl,(blk_cell G0.out 1).trans rfl⟩ (fun hHeld => ?_)
      refine pure_ (i:=0) (N:=some 59) (v:=?_) (a' := ?_) #[T,F,F,F,F,F,F,F,F,F,F,F] rfl rfl (by kernel_rfl) (fun _ _ _ h => h) (Or.inl ⟨by rfl,?_⟩) ?_ ?_
      rotate_left;(intro w';go_simp;with_reducible rfl);rotate_left;(simp only [pq];rfl)
      refine pure_ (i:=1) (N:=some 60) (v:=?_) (a' := ?_) #[T,T,F,F,F,F,F,F,F,F,F,F] rfl rfl (by kernel_rfl) (fun _ _ _ h => h) (Or.inl ⟨by rfl,?_⟩) ?_ ?_
      rotate_left;(intro w';go_simp;with_reducible rfl);rotate_left;(simp only [pq];rfl)
      refine pure_ (i:=2) (N:=some 61) (v:=?_) (a' := ?_) #[T,T,T,F,F,F,F,F,F,F,F,F] rfl rfl (by kernel_rfl) (fun _ _ _ h => h) (Or.inl ⟨by rfl,?_⟩) ?_ ?_
      rotate_left;(intro w';go_simp;with_reducible rfl);rotate_left;(simp only [pq];rfl)
      refine pure_ (i:=5) (N:=some 64) (v:=?_) (a' := ?_) #[T,T,T,F,F,T,F,F,F,F,F,F] rfl rfl (by kernel_rfl) (fun _ _ _ h => h) (Or.inl ⟨by rfl,?_⟩) ?_ ?_
      rotate_left;(intro w';go_simp;with_reducible rfl);rotate_left;(simp only [pq];rfl)
      refine pure_ (i:=6) (N:=some 65) (v:=?_) (a' := ?_) #[T,T,T,F,F,T,T,F,F,F,F,F] rfl rfl (by kernel_rfl) (fun _ _ _ h => h) (Or.inl ⟨by rfl,?_⟩) ?_ ?_
      rotate_left;(intro w';go_simp;with_reducible rfl);rotate_left;(simp only [pq];rfl)
      refine pure_ (i:=7) (N:=some 66) (v:=?_) (a' := ?_) #[T,T,T,F,F,T,T,T,F,F,F,F] rfl rfl (by kernel_rfl) (fun _ _ _ h => h) (Or.inl ⟨by rfl,?_⟩) ?_ ?_
      rotate_left;(intro w';go_simp;with_reducible rfl);rotate_left;(simp only [pq];rfl)
      refine take_ (i:=3) (N:=some 62) (v:=?_) (a' := ?_) #[T,T,T,T,F,T,T,T,F,F,F,F] rfl rfl (by kernel_rfl) (fun _ _ _ h => h) (Or.inl ⟨by rfl,?_⟩) hHeld ?_ ?_
      rotate_left
      · rintro w' ⟨s0,s1⟩
        go_simp
        with_reducible rfl
      rotate_left
      · simp only [pq]
        rfl
      refine pure_ (i:=4) (N:=some 63) (v:=?_) (a' := ?_) #[T,T,T,T,T,T,T,T,F,F,F,F] rfl rfl (by kernel_rfl) (fun _ _ _ h => h) (Or.inl ⟨by rfl,?_⟩) ?_ ?_
      rotate_left;(intro w';go_simp;with_reducible rfl);rotate_left;(simp only [pq];rfl)
      refine take_ (i:=8) (N:=some 67) (v:=?_) (a' := ?_) #[T,T,T,T,T,T,T,T,T,F,F,F] rfl rfl (by kernel_rfl) (fun _ _ _ h => h) (Or.inl ⟨by rfl,?_⟩) hHeld ?_ ?_
      rotate_left
      · rintro w' ⟨s0,s1⟩
        go_simp
        with_reducible rfl
      rotate_left
      · simp only [pq]
        rfl
      refine one_ (i:=9) (N:=none) #[T,T,T,T,T,T,T,T,T,T,F,F] rfl rfl (by kernel_rfl) (by decide) (fun K hK => ?_)
      refine skip_ (w1:=?_) (by rfl) rfl ?_ ?_
      rotate_left
      · go_simp
        rfl
      refine hK.out _ _ ⟨(blk_cell (blk_far (blk_far (blk_drew G0.out) (p:=⟨RB,0,none⟩) HPNR.out _) (p:=⟨RB,1,none⟩) HPNR.out _) 0).trans rfl,(blk_cell (blk_far (blk_far (blk_drew G0.out) (p:=⟨RB,0,none⟩) HPNR.out _) (p:=⟨RB,1,none⟩) HPNR.out _) 1).trans rfl⟩ (fun hHeld => ?_)
      clear hK K
      refine pure_ (i:=10) (N:=some 9) (v:=?_) (a' := ?_) #[T,T,T,T,T,T,T,T,T,T,T,F] rfl rfl (by kernel_rfl) (fun _ _ _ h => h) (Or.inl ⟨by rfl,?_⟩) ?_ ?_
      rotate_left;(intro w';go_simp;with_reducible rfl);rotate_left;(simp only [pq];rfl)
      refine pure_ (i:=11) (N:=some 10) (v:=?_) (a' := ?_) #[T,T,T,T,T,T,T,T,T,T,T,T] rfl rfl (by kernel_rfl) (fun _ _ _ h => h) (Or.inl ⟨by rfl,?_⟩) ?_ ?_
      rotate_left;(intro w';go_simp;with_reducible rfl);rotate_left;(simp only [pq];rfl)
      refine done_ (by kernel_rfl) ?_
      go_wp2
      refine bodyPost_ret (results_ctt rfl _ _ RB 31 #[.slice As st.length cs_,.bool false] (0,0) _ rfl (blk_put (blk_put (blk_drew HRB4.out) 0 _ rfl) 1 _ rfl) Try.underlying31 rfl (by kernel_rfl)) rfl ?_
      exact ⟨_,_,rfl,Kd.R_mono (Kd.R_set (Kd.R_set (Kd.R_drew G2.out) (blk_drew HRB4.out) (by decide) 0 _) (blk_put (blk_drew HRB4.out) 0 _ rfl) (by decide) 1 _) (fun _ _ => trivial),Kd.R_mono (Kd.R_set (Kd.R_set (Kd.R_drew G3.out) (blk_drew HRB4.out) (by decide) 0 _) (blk_put (blk_drew HRB4.out) 0 _ rfl) (by decide) 1 _) (fun _ _ => trivial),((below_drew1 HW4.out).setCell (p:=⟨RB,0,none⟩) HRW.out _).setCell (p:=⟨RB,1,none⟩) HRW.out _⟩
    · have HS2 : Aside0 ((([] : List S43),true,sp,e) = (r1,r2,r3,r4)) := ⟨by have:=HS.out;rwa [mOut,if_neg he0] at this⟩
      injection HS2.out with e1 e2
      injection e2 with e2 e3
      injection e3 with e3 e4
      subst e1 e2 e3 e4
      have y1 : (e != 0) = true:=by simp [he0]
      go_upto_region 8 with fail
      refine start_ (n:=9) (S:=fun w' => w'.cell? ⟨PB,1,none⟩ = some (.slice Au sp.length cu)) (ds := []) #[F,F,F,F,F,F,F,F,F] (by kernel_rfl) rfl rfl ((blk_cell G0.out 1).trans rfl) (fun hHeld => ?_)
      refine pure_ (i:=1) (N:=some 54) (v:=?_) (a' := ?_) #[F,T,F,F,F,F,F,F,F] rfl rfl (by kernel_rfl) (fun _ _ _ h => h) (Or.inl ⟨by rfl,?_⟩) ?_ ?_
      rotate_left;(intro w';go_simp;with_reducible rfl);rotate_left;(simp only [pq];rfl)
      refine pure_ (i:=2) (N:=some 55) (v:=?_) (a' := ?_) #[F,T,T,F,F,F,F,F,F] rfl rfl (by kernel_rfl) (fun _ _ _ h => h) (Or.inl ⟨by rfl,?_⟩) ?_ ?_
      rotate_left;(intro w';go_simp;with_reducible rfl);rotate_left;(simp only [pq];rfl)
      refine pure_ (i:=3) (N:=some 56) (v:=?_) (a' := ?_) #[F,T,T,T,F,F,F,F,F] rfl rfl (by kernel_rfl) (fun _ _ _ h => h) (Or.inl ⟨by rfl,?_⟩) ?_ ?_
      rotate_left;(intro w';go_simp;with_reducible rfl);rotate_left;(simp only [pq];rfl)
      refine pure_ (i:=5) (N:=some 58) (v:=?_) (a' := ?_) #[F,T,T,T,F,T,F,F,F] rfl rfl (by kernel_rfl) (fun _ _ _ h => h) (Or.inl ⟨by rfl,?_⟩) ?_ ?_
      rotate_left;(intro w';go_simp;with_reducible rfl);rotate_left;(simp only [pq];rfl)
      refine take_ (i:=4) (N:=some 57) (v:=?_) (a' := ?_) #[F,T,T,T,T,T,F,F,F] rfl rfl (by kernel_rfl) (fun _ _ _ h => h) (Or.inl ⟨by rfl,?_⟩) hHeld ?_ ?_
      rotate_left
      · intro w' s0
        go_simp
        with_reducible rfl
      rotate_left
      · simp only [pq]
        rfl
      refine one_ (i:=0) (N:=some 53) #[T,T,T,T,T,T,F,F,F] rfl rfl (by kernel_rfl) (by decide) (fun K hK => ?_)
      refine goes_ Try.func36 (by kernel_rfl) rfl #[] (by rfl) rfl rfl (by simp only [List.map_toArray,List.map_cons,List.map_nil]) ?_
      with_reducible refine (machine_dead.calls [] true w4.drew rfl).mono ?_
      rintro e w5 ⟨v0,rfl,ho,hb5⟩
      refine ⟨_,rfl,?_⟩
      obtain ⟨Aq,cq,rfl⟩ := Kd.R_slice ho
      have HO5:=Aside0.mk ho
      have HW5 : Aside0 (Below w.heap.size w w5) := ⟨(below_drew1 HW4.out).trans (hb5.mono (below_drew1 HW4.out).size)⟩
      have HP5:=Aside0.mk (blk_below (blk_drew G0.out) hb5)
      have HRB5:=Aside0.mk (blk_below (blk_drew HRB4.out) hb5)
      have HG35:=Aside0.mk (Kd.R_below (Kd.R_drew G3.out) hb5)
      have s0:=blk_cell HRB5.out 0
      have s1:=blk_cell HRB5.out 1
      have f0:=blk_frozen HRB5.out 0
      have f1:=blk_frozen HRB5.out 1
      clear ho hb5
      refine hK.out _ _ ((blk_cell HP5.out 1).trans rfl) (fun hHeld => ?_)
      clear hK K
      refine norm_ (a' := ?_) ?_ ?_
      rotate_left
      · show Act.put _ (some 53) _ = _
        simp only [pq]
        rfl
      refine one_ (i:=6) (N:=none) #[T,T,T,T,T,T,T,F,F] rfl rfl (by kernel_rfl) (by decide) (fun K hK => ?_)
      refine skip_ (w1:=?_) (by rfl) rfl ?_ ?_
      rotate_left
      · go_simp
        rfl
      refine hK.out _ _ ((blk_cell (blk_far (blk_far HP5.out (p:=⟨RB,0,none⟩) HPNR.out _) (p:=⟨RB,1,none⟩) HPNR.out _) 1).trans rfl) (fun hHeld => ?_)
      clear hK K
      refine pure_ (i:=7) (N:=some 9) (v:=?_) (a' := ?_) #[T,T,T,T,T,T,T,T,F] rfl rfl (by kernel_rfl) (fun _ _ _ h => h) (Or.inl ⟨by rfl,?_⟩) ?_ ?_
      rotate_left;(intro w';go_simp;with_reducible rfl);rotate_left;(simp only [pq];rfl)
      refine pure_ (i:=8) (N:=some 10) (v:=?_) (a' := ?_) #[T,T,T,T,T,T,T,T,T] rfl rfl (by kernel_rfl) (fun _ _ _ h => h) (Or.inl ⟨by rfl,?_⟩) ?_ ?_
      rotate_left;(intro w';go_simp;with_reducible rfl);rotate_left;(simp only [pq];rfl)
      refine done_ (by kernel_rfl) ?_
      go_wp2
      refine bodyPost_ret (results_ctt rfl _ _ RB 31 #[.slice Aq 0 cq,.bool true] (0,0) _ rfl (blk_put (blk_put HRB5.out 0 _ rfl) 1 _ rfl) Try.underlying31 rfl (by kernel_rfl)) rfl ?_
      exact ⟨_,_,rfl,Kd.R_mono (Kd.R_lower (Kd.R_set (Kd.R_set HO5.out HRB5.out (by decide) 0 _) (blk_put HRB5.out 0 _ rfl) (by decide) 1 _) (below_drew1 HW4.out).size) (fun _ _ => trivial),Kd.R_mono (Kd.R_set (Kd.R_set HG35.out HRB5.out (by decide) 0 _) (blk_put HRB5.out 0 _ rfl) (by decide) 1 _) (fun _ _ => trivial),(HW5.out.setCell (p:=⟨RB,0,none⟩) HRW.out _).setCell (p:=⟨RB,1,none⟩) HRW.out _⟩
end Go.Proofs.Ytapjfnfengefpaa.P
end
