/- Packed texts of this claim: the walks of the functions, and their plain laws; see the claim's last text. -/
import Derived.Test.YtfdcfihcfegekaaKPredictTakes4
section
namespace Go.Proofs.Ytfdcfihcfegekaa.P
open Go.RowKit Go.Proofs.YtfdcfihcfegekaaW.PrintWords Go.Proofs.YtfdcfihcfegekaaW.PrintLast Go.Proofs.YtfdcfihcfegekaaW.PrintMore
attribute [local go_sem] max2_int min2_int max_two min_two max_three min_three max_four min_four   -- for this text's walks alone
set_option linter.unusedVariables false
set_option linter.unusedSimpArgs false
mutual
def regletlaw14_Clear.l0 : Nat → Int → List ByteArray → List (S61) → Int → Int → List (S30) → Option (List ByteArray × (List (S61)) × Int × Int × (List (S30)))
  | 0,_,_,_,_,_,_ => none
  | k + 1,x4,x374000,x374001,x374002,x374003,x374004 => if x4 < (x374004.length : Int) then (if x374001.length < 1353245080339 then (regletlaw14_Clear.l1 k x4 ([] : List (S53)) 0 x374000 (x374001 ++ [(⟨(⟨#[]⟩ : ByteArray),(⟨6,(⟨#[]⟩ : ByteArray),(([wrap64 (97 + x4)] : List Int)),0,0,([] : List (S59))⟩ : S59)⟩ : S61)]) x374002 x374003 x374004) else (none)) else (regletlaw14_Clear.l2 k 0 x374000 x374001 x374002 x374003 x374004)
def regletlaw14_Clear.l1 : Nat → Int → List (S53) → Int → List ByteArray → List (S61) → Int → Int → List (S30) → Option (List ByteArray × (List (S61)) × Int × Int × (List (S30)))
  | 0,_,_,_,_,_,_,_,_ => none
  | k + 1,x4,x5,x6,x374000,x374001,x374002,x374003,x374004 => if 0 ≤ x4 then (if x4 < (x374004.length : Int) then (if x6 < (((rd_T30 x374004 x4).f1).length : Int) then (if 0 ≤ x6 then (if (rd_T53 ((rd_T30 x374004 x4).f1) x6).f0 = true then (if (x374004.length : Int) = 0 then (none) else (if x5.length < 8796093022208 then (regletlaw14_Clear.l1 k x4 (x5 ++ [(⟨(rd_T53 ((rd_T30 x374004 x4).f1) x6).f0,Int.tmod ((rd_T53 ((rd_T30 x374004 x4).f1) x6).f1) (x374004.length : Int)⟩ : S53)]) (wrap64 (x6 + 1)) x374000 x374001 x374002 x374003 x374004) else (none))) else (if x5.length < 8796093022208 then (regletlaw14_Clear.l1 k x4 (x5 ++ [(⟨(rd_T53 ((rd_T30 x374004 x4).f1) x6).f0,(rd_T53 ((rd_T30 x374004 x4).f1) x6).f1⟩ : S53)]) (wrap64 (x6 + 1)) x374000 x374001 x374002 x374003 x374004) else (none))) else (none)) else (if (x5.length : Int) > 0 then (if 0 < (x5.length : Int) then (regletlaw14_Clear.l0 k (wrap64 (x4 + 1)) x374000 x374001 x374002 x374003 (x374004.set (x4 : Int).toNat (⟨(rd_T30 x374004 x4).f0,(x5.set (0 : Int).toNat (⟨true,x4⟩ : S53))⟩ : S30))) else (none)) else (regletlaw14_Clear.l0 k (wrap64 (x4 + 1)) x374000 x374001 x374002 x374003 (x374004.set (x4 : Int).toNat (⟨(rd_T30 x374004 x4).f0,x5⟩ : S30))))) else (none)) else (none)
def regletlaw14_Clear.l2 : Nat → Int → List ByteArray → List (S61) → Int → Int → List (S30) → Option (List ByteArray × (List (S61)) × Int × Int × (List (S30)))
  | 0,_,_,_,_,_,_ => none
  | k + 1,x8,x374000,x374001,x374002,x374003,x374004 => if x8 < (x374004.length : Int) then (regletlaw14_Clear.l3 k x8 0 x374000 x374001 x374002 x374003 x374004) else (some (x374000,x374001,x374002,x374003,x374004))
def regletlaw14_Clear.l3 : Nat → Int → Int → List ByteArray → List (S61) → Int → Int → List (S30) → Option (List ByteArray × (List (S61)) × Int × Int × (List (S30)))
  | 0,_,_,_,_,_,_,_ => none
  | k + 1,x8,x9,x374000,x374001,x374002,x374003,x374004 => if 0 ≤ x8 then (if x8 < (x374004.length : Int) then (if x9 < (((rd_T30 x374004 x8).f1).length : Int) then (if 0 ≤ x9 then (if (rd_T53 ((rd_T30 x374004 x8).f1) x9).f0 = true then (if (x374001.length : Int) = 0 then (none) else (regletlaw14_Clear.l3 k x8 (wrap64 (x9 + 1)) x374000 x374001 x374002 x374003 (x374004.set (x8 : Int).toNat (⟨(rd_T30 x374004 x8).f0,(((rd_T30 x374004 x8).f1).set (x9 : Int).toNat (⟨(rd_T53 ((rd_T30 x374004 x8).f1) x9).f0,Int.tmod ((rd_T53 ((rd_T30 x374004 x8).f1) x9).f1) (x374001.length : Int)⟩ : S53))⟩ : S30)))) else (regletlaw14_Clear.l3 k x8 (wrap64 (x9 + 1)) x374000 x374001 x374002 x374003 x374004)) else (none)) else (regletlaw14_Clear.l2 k (wrap64 (x8 + 1)) x374000 x374001 x374002 x374003 x374004)) else (none)) else (none)
end
def regletlaw14_Clear.f (k : Nat) (l0 : List Int) : Option (List ByteArray × (List (S61)) × Int × Int × (List (S30))) := (regletlaw13_Made.f k l0).bind fun bt362 => (regletlaw14_Clear.l0 k 0 bt362.1 ([] : List (S61)) bt362.2.2.1 bt362.2.2.2.1 bt362.2.2.2.2)
def regletlaw14_Clear.T25 : Bool × List (List Nat × List Nat) := (true,[([],[]),([0],[0]),([],[]),([1,2],[1,2]),([3],[3]),([4],[4]),([],[]),([],[]),([7],[7]),([],[]),([8,9],[8,9]),([10],[10]),([11],[11]),([],[]),([12,13],[12,13]),([14],[14]),([15],[15]),([],[]),([17],[17]),([18],[18]),([16,19],[16,19]),([5,6,0,1,2,3,4,5,6,7,8,9,10,11,12,13,14,15,16,17,18,19,20],[5,6]),([21,0,1,2,3,4,5,6,7,8,9,10,11,12,13,14,15,16,17,18,19,20],[21]),([22,20,0,1,2,3,4,5,6,7,8,9,10,11,12,13,14,15,16,17,18,19,20],[20,22])])
def regletlaw14_Clear.B25 : List Nat := [0,1,0,7,15,31,0,0,128,0,896,1920,3968,0,16256,32640,65408,0,131072,393216,1048448,2097151,4194303,8388607]
theorem regletlaw14_Clear.tab25 : rtab .any (opsOf Try.f12 25) = regletlaw14_Clear.T25:=by kernel_rfl
theorem regletlaw14_Clear.bits25 : waitsOk regletlaw14_Clear.T25.2 regletlaw14_Clear.B25 = true:=by kernel_rfl
set_option maxHeartbeats 8000000 in
set_option maxRecDepth 100000 in
theorem regletlaw14_Clear.calls (k : Nat) (A0 : Option Addr) (c0 : Nat) (l0 : List Int) (r1 : List ByteArray) (r2 : List (S61)) (r3 : Int) (r4 : Int) (r5 : List (S30)) (w : World) (hr0 : Kd.C (Kd.int .u8) w A0 l0.length l0) (hc0 : l0.length ≤ c0) (h : regletlaw14_Clear.f k l0 = some (r1,r2,r3,r4,r5)) :
    Calls Try.prog 12 #[.slice A0 l0.length c0] w fun e w' => ∃ v0_ v1_ v4_ : Value,e = .returned (.agg #[v0_,v1_,.int .i64 r3,.int .i64 r4,v4_]) ∧ Kd.R Kd.string 9 w' w.heap.size (fun _ => True) v0_ r1 ∧ Kd.R k61 61 w' w.heap.size (fun _ => True) v1_ r2 ∧ Kd.S k30 30 w' w.heap.size (fun _ => True) v4_ r5 ∧ Below w.heap.size w w' := by
 have hu26:=Try.underlying26
 have hu59:=Try.underlying59
 have hu61:=Try.underlying61
 have hu53:=Try.underlying53
 have HR0:=Aside0.mk hr0
 have HC0:=Aside0.mk hc0
 clear hr0 hc0
 have HB:=Aside0.mk (Below.refl w.heap.size w)
 have H : ((regletlaw13_Made.f k l0).bind fun bt362 => (regletlaw14_Clear.l0 k 0 bt362.1 ([] : List (S61)) bt362.2.2.1 bt362.2.2.2.1 bt362.2.2.2.2)) = some (r1,r2,r3,r4,r5) := h
 clear h
 replace H:=Option.bind_eq_some_iff.mp H
 obtain ⟨⟨t362,t365,t368,t369,t370⟩,A20,H⟩ := H
 replace H : (regletlaw14_Clear.l0 k 0 t362 ([] : List (S61)) t368 t369 t370) = some (r1,r2,r3,r4,r5) := H
 have A2:=Aside0.mk A20
 clear A20
 have H' := Aside0.mk H
 clear H
 go_enter Try.func12,Try.ntmps12
 go_wp2_with (first | ((with_reducible refine gate_dst (N:=2) rfl ?_);refine box_event ?hg (N:=2) ?hd (cs:=#[.slice none 0 0,.slice none 0 0,.int .i64 0,.int .i64 0,.slice none 0 0]) (t:=26) ?hr ?_;(case hd => rfl);(case hg => rfl);(case hr => first | (go_simp;done) | (go_simp;rfl));intro gb361 hg w3 hbox hb;have n0_:=Aside0.mk (below_step (by repeat (first | (with_reducible first | exact HB.out | apply below_alloc | apply pw_below_drewN | apply below_drew1) | exact HB.out)) hb);have n1_:=Aside0.mk (hbox);have n2_:=Aside0.mk ((by rw [hg];exact (below_size (by repeat (first | (with_reducible first | exact HB.out | apply below_alloc | apply pw_below_drewN | apply below_drew1) | exact HB.out))) : w.heap.size ≤ gb361));have n3_:=Aside0.mk ((by rw [hg];exact (below_size (by repeat (first | (with_reducible first | exact HB.out | apply below_alloc | apply pw_below_drewN | apply below_drew1) | exact HB.out))) : w.heap.size ≤ gb361));clear HB;have HB:=n0_;have BK361:=n1_;have GW361:=n2_;have GE361:=n3_;clear n0_ n1_ n2_ n3_;clear hb hbox hg) | ((with_reducible refine gate_callee (f:=11) rfl ?_);refine goesL_ (some 11) rfl rfl Try.func11 (by kernel_rfl) rfl #[.slice A0 l0.length c0] rfl (by (try simp only [List.map_toArray,List.map_cons,List.map_nil]);first | done | rfl | (simp only [List.length_drop,List.length_take];rfl)) ?_;(with_reducible refine (regletlaw13_Made.calls k _ _ l0 t362 t365 t368 t369 t370 _ ?side1 ?side2 A2.out).mono ?_);(case side1 => repeat (first | exact (Kd.C_below HR0.out HB.out) | (with_reducible refine Kd.C_alloc ?_ _) | (with_reducible refine Kd.C_drewN ?_ _) | (with_reducible refine Kd.C_drew ?_)));(case side2 => exact HC0.out);rintro e w4 ⟨v363,v366,v371,rfl,ho0,ho1,ho2,hb⟩;refine ⟨_,rfl,?_⟩;have n0_:=Aside0.mk (Kd.R_lower ho0 (below_size (by repeat (first | (with_reducible first | exact HB.out | apply below_alloc | apply pw_below_drewN | apply below_drew1 | refine below_set ?_ GE361.out) | exact HB.out))));have n1_:=Aside0.mk (Kd.R_lower ho1 (below_size (by repeat (first | (with_reducible first | exact HB.out | apply below_alloc | apply pw_below_drewN | apply below_drew1 | refine below_set ?_ GE361.out) | exact HB.out))));have n2_:=Aside0.mk (Kd.S_lower ho2 (below_size (by repeat (first | (with_reducible first | exact HB.out | apply below_alloc | apply pw_below_drewN | apply below_drew1 | refine below_set ?_ GE361.out) | exact HB.out))));have n3_:=Aside0.mk (blk_below (g:=gb361) (o := .cells #[.slice none 0 0,.slice none 0 0,.int .i64 0,.int .i64 0,.slice none 0 0] 26 (0,0)) (by (with_reducible repeat (first | refine blk_drewN ?_ _ | refine blk_drew ?_ | refine blk_alloc ?_ _));exact BK361.out) hb);have n4_:=Aside0.mk (below_step (by repeat (first | (with_reducible first | exact HB.out | apply below_alloc | apply pw_below_drewN | apply below_drew1 | refine below_set ?_ GE361.out) | exact HB.out)) hb);clear BK361;clear HB;have HO364:=n0_;have HO367:=n1_;have HO372:=n2_;have BK361:=n3_;have HB:=n4_;clear n0_ n1_ n2_ n3_ n4_;(try clear hb);(try clear hb2);(try clear hk);(try clear hi);(try clear ho0);(try clear ho1);(try clear ho2)) | ((with_reducible refine gate_dst (N:=3) rfl ?_);refine box_event ?hg (N:=3) ?hd (cs:=#[.slice none 0 0,.slice none 0 0,.int .i64 0,.int .i64 0,.slice none 0 0]) (t:=26) ?hr ?_;(case hd => rfl);(case hg => rfl);(case hr => first | (go_simp;done) | (go_simp;rfl));intro gb373 hg w5 hbox hb;have n0_:=Aside0.mk (Kd.R_below (by (with_reducible repeat (first | apply Kd.R_alloc | apply Kd.R_drewN | apply Kd.R_drew));exact HO364.out) hb);have n1_:=Aside0.mk (Kd.R_below (by (with_reducible repeat (first | apply Kd.R_alloc | apply Kd.R_drewN | apply Kd.R_drew));exact HO367.out) hb);have n2_:=Aside0.mk (Kd.S_below (by (with_reducible repeat (first | apply Kd.S_alloc | apply Kd.S_drewN | apply Kd.S_drew));exact HO372.out) hb);have n3_:=Aside0.mk (blk_below (g:=gb361) (o := .cells #[.slice none 0 0,.slice none 0 0,.int .i64 0,.int .i64 0,.slice none 0 0] 26 (0,0)) (by (with_reducible repeat (first | refine blk_drewN ?_ _ | refine blk_drew ?_ | refine blk_alloc ?_ _));exact BK361.out) hb);have n4_:=Aside0.mk (below_step (by repeat (first | (with_reducible first | exact HB.out | apply below_alloc | apply pw_below_drewN | apply below_drew1 | refine below_set ?_ GE361.out) | exact HB.out)) hb);have n5_:=Aside0.mk (hbox);have n6_:=Aside0.mk ((by rw [hg];exact (below_size (by repeat (first | (with_reducible first | exact HB.out | apply below_alloc | apply pw_below_drewN | apply below_drew1 | refine below_set ?_ GE361.out) | exact HB.out))) : w.heap.size ≤ gb373));have n7_:=Aside0.mk ((by rw [hg];exact (below_size (by repeat (first | (with_reducible first | exact HB.out | apply below_alloc | apply pw_below_drewN | apply below_drew1 | refine below_set ?_ GE361.out) | exact HB.out))) : w.heap.size ≤ gb373));have n8_:=Aside0.mk ((by rw [hg];exact Nat.ne_of_lt (blk_lt (g:=gb361) (o := .cells #[.slice none 0 0,.slice none 0 0,.int .i64 0,.int .i64 0,.slice none 0 0] 26 (0,0)) (by (with_reducible repeat (first | refine blk_drewN ?_ _ | refine blk_drew ?_ | refine blk_alloc ?_ _));exact BK361.out)) : gb361 ≠ gb373));have n9_:=Aside0.mk ((by rw [hg];exact Nat.ne_of_gt (blk_lt (g:=gb361) (o := .cells #[.slice none 0 0,.slice none 0 0,.int .i64 0,.int .i64 0,.slice none 0 0] 26 (0,0)) (by (with_reducible repeat (first | refine blk_drewN ?_ _ | refine blk_drew ?_ | refine blk_alloc ?_ _));exact BK361.out)) : gb373 ≠ gb361));clear HO364;clear HO367;clear HO372;clear BK361;clear HB;have HO364:=n0_;have HO367:=n1_;have HO372:=n2_;have BK361:=n3_;have HB:=n4_;have BK373:=n5_;have GW373:=n6_;have GE373:=n7_;have NB361_373:=n8_;have NB373_361:=n9_;clear n0_ n1_ n2_ n3_ n4_ n5_ n6_ n7_ n8_ n9_;clear hb hbox hg;obtain ⟨Ao6,co6,eo6⟩ := Kd.R_slice HO364.out;subst eo6;have hnb7:=NB373_361.out;have hnc7:=NB361_373.out;have hcz8_0 : w5.cell? ⟨gb373,0,none⟩ = some (.slice none 0 0) := (blk_cell BK373.out 0).trans rfl;have hcz8_1 : w5.cell? ⟨gb373,1,none⟩ = some (.slice none 0 0) := (blk_cell BK373.out 1).trans rfl;have hcz8_2 : w5.cell? ⟨gb373,2,none⟩ = some (.int .i64 0) := (blk_cell BK373.out 2).trans rfl;have hcz8_3 : w5.cell? ⟨gb373,3,none⟩ = some (.int .i64 0) := (blk_cell BK373.out 3).trans rfl;have hcz8_4 : w5.cell? ⟨gb373,4,none⟩ = some (.slice none 0 0) := (blk_cell BK373.out 4).trans rfl;have hfz8_0:=blk_frozen BK373.out 0;have hfz8_1:=blk_frozen BK373.out 1;have hfz8_2:=blk_frozen BK373.out 2;have hfz8_3:=blk_frozen BK373.out 3;have hfz8_4:=blk_frozen BK373.out 4;obtain ⟨Ao9,co9,eo9⟩ := Kd.R_slice HO367.out;subst eo9;obtain ⟨Ao10,co10,eo10⟩ := Kd.S_slice HO372.out;subst eo10))
 go_loopg [4] k (fun kq v4 w' => ∃ (x4_1 : Int) (x374001_1 : List (S61)) (x374004_1 : List (S30)) (u374001 : Value) (u374004 : Value),v4 = .int .i64 x4_1 ∧ Aside0 (regletlaw14_Clear.l0 kq x4_1 t362 x374001_1 t368 t369 x374004_1 = some (r1,r2,r3,r4,r5)) ∧ Aside0 (kq ≤ k) ∧ Aside0 (Kd.R Kd.string 9 w' w.heap.size (fun _ => True) (.slice Ao6 t362.length co6) t362) ∧ Aside0 (Kd.R k61 61 w' w.heap.size (fun _ => True) u374001 x374001_1) ∧ Aside0 (Kd.S k30 30 w' w.heap.size (fun _ => True) u374004 x374004_1) ∧ Aside0 (w'.heap[gb361]? = some (.cells #[(.slice none 0 0),(.slice none 0 0),.int .i64 0,.int .i64 0,(.slice none 0 0)] 26 (0,0))) ∧ Aside0 (w'.heap[gb373]? = some (.cells #[(.slice Ao6 t362.length co6),u374001,.int .i64 t368,.int .i64 t369,u374004] 26 (0,0))) ∧ Aside0 (Below w.heap.size w w'))
 case atStart => exact ⟨(0),(([] : List (S61))),(t370),(.slice none 0 0),(.slice Ao10 t370.length co10),(by first | rfl | (simp;done) | (simp [*];done)),H',⟨Nat.le_refl _⟩,⟨by (with_reducible repeat (first | apply Kd.R_alloc | apply Kd.R_drewN | apply Kd.R_drew));exact Kd.R_mono (Kd.R_far (p:=⟨gb373,1,none⟩) (Kd.R_far (p:=⟨gb373,4,none⟩) (Kd.R_far (p:=⟨gb373,3,none⟩) (Kd.R_far (p:=⟨gb373,2,none⟩) (Kd.R_far (p:=⟨gb373,1,none⟩) (Kd.R_far (p:=⟨gb373,0,none⟩) (Kd.R_types HO364.out BK373.out (by decide)) (fun _ hk => hk.2) (.slice Ao6 t362.length co6)) (fun _ hk => hk.2) (.slice Ao9 t365.length co9)) (fun _ hk => hk.2) (.int .i64 t368)) (fun _ hk => hk.2) (.int .i64 t369)) (fun _ hk => hk.2) (.slice Ao10 t370.length co10)) (fun _ hk => hk.2) (.slice none 0 0)) (fun _ hk => trivial)⟩,⟨by first | exact Kd.R_nil _ _ _ _ _ | exact Kd.N_nil _ _ _ _ _ | exact Kd.V_nil _ _ _ _ _ | exact Kd.Q_nil _ _ _ _ _ | exact Kd.S_nil _ _ _ _ _⟩,⟨by (with_reducible repeat (first | apply Kd.S_alloc | apply Kd.S_drewN | apply Kd.S_drew));exact Kd.S_mono (Kd.S_far (p:=⟨gb373,1,none⟩) (Kd.S_far (p:=⟨gb373,4,none⟩) (Kd.S_far (p:=⟨gb373,3,none⟩) (Kd.S_far (p:=⟨gb373,2,none⟩) (Kd.S_far (p:=⟨gb373,1,none⟩) (Kd.S_far (p:=⟨gb373,0,none⟩) (Kd.S_types HO372.out BK373.out (by decide)) (fun _ hk => hk.2) (.slice Ao6 t362.length co6)) (fun _ hk => hk.2) (.slice Ao9 t365.length co9)) (fun _ hk => hk.2) (.int .i64 t368)) (fun _ hk => hk.2) (.int .i64 t369)) (fun _ hk => hk.2) (.slice Ao10 t370.length co10)) (fun _ hk => hk.2) (.slice none 0 0)) (fun _ hk => trivial)⟩,⟨by (with_reducible repeat (first | refine blk_drewN ?_ _ | refine blk_drew ?_ | refine blk_alloc ?_ _));refine blk_far ?_ NB361_373.out _;(with_reducible repeat (first | refine blk_drewN ?_ _ | refine blk_drew ?_ | refine blk_alloc ?_ _));refine blk_far ?_ NB361_373.out _;(with_reducible repeat (first | refine blk_drewN ?_ _ | refine blk_drew ?_ | refine blk_alloc ?_ _));refine blk_far ?_ NB361_373.out _;(with_reducible repeat (first | refine blk_drewN ?_ _ | refine blk_drew ?_ | refine blk_alloc ?_ _));refine blk_far ?_ NB361_373.out _;(with_reducible repeat (first | refine blk_drewN ?_ _ | refine blk_drew ?_ | refine blk_alloc ?_ _));refine blk_far ?_ NB361_373.out _;(with_reducible repeat (first | refine blk_drewN ?_ _ | refine blk_drew ?_ | refine blk_alloc ?_ _));refine blk_far ?_ NB361_373.out _;(with_reducible repeat (first | refine blk_drewN ?_ _ | refine blk_drew ?_ | refine blk_alloc ?_ _));exact BK361.out⟩,⟨by (with_reducible repeat (first | refine blk_drewN ?_ _ | refine blk_drew ?_ | refine blk_alloc ?_ _));refine blk_put (cs:=#[.slice Ao6 t362.length co6,.slice Ao9 t365.length co9,.int .i64 t368,.int .i64 t369,.slice Ao10 t370.length co10]) ?_ 1 _ rfl;(with_reducible repeat (first | refine blk_drewN ?_ _ | refine blk_drew ?_ | refine blk_alloc ?_ _));refine blk_put (cs:=#[.slice Ao6 t362.length co6,.slice Ao9 t365.length co9,.int .i64 t368,.int .i64 t369,.slice none 0 0]) ?_ 4 _ rfl;(with_reducible repeat (first | refine blk_drewN ?_ _ | refine blk_drew ?_ | refine blk_alloc ?_ _));refine blk_put (cs:=#[.slice Ao6 t362.length co6,.slice Ao9 t365.length co9,.int .i64 t368,.int .i64 0,.slice none 0 0]) ?_ 3 _ rfl;(with_reducible repeat (first | refine blk_drewN ?_ _ | refine blk_drew ?_ | refine blk_alloc ?_ _));refine blk_put (cs:=#[.slice Ao6 t362.length co6,.slice Ao9 t365.length co9,.int .i64 0,.int .i64 0,.slice none 0 0]) ?_ 2 _ rfl;(with_reducible repeat (first | refine blk_drewN ?_ _ | refine blk_drew ?_ | refine blk_alloc ?_ _));refine blk_put (cs:=#[.slice Ao6 t362.length co6,.slice none 0 0,.int .i64 0,.int .i64 0,.slice none 0 0]) ?_ 1 _ rfl;(with_reducible repeat (first | refine blk_drewN ?_ _ | refine blk_drew ?_ | refine blk_alloc ?_ _));refine blk_put (cs:=#[.slice none 0 0,.slice none 0 0,.int .i64 0,.int .i64 0,.slice none 0 0]) ?_ 0 _ rfl;(with_reducible repeat (first | refine blk_drewN ?_ _ | refine blk_drew ?_ | refine blk_alloc ?_ _));exact BK373.out⟩,⟨by repeat (first | (with_reducible first | exact HB.out | apply below_alloc | apply pw_below_drewN | apply below_drew1 | refine below_set ?_ GE361.out | refine below_set ?_ GE373.out) | exact HB.out)⟩⟩
 case round =>
  clear H'
  (try clear c1);(try clear p2);(try clear c7);(try clear hcz8_0);(try clear hcz8_1);(try clear hcz8_2);(try clear hcz8_3);(try clear hcz8_4);(try clear hfz8_0);(try clear hfz8_1);(try clear hfz8_2);(try clear hfz8_3);(try clear hfz8_4)
  obtain ⟨x4_1,x374001_1,x374004_1,u374001,u374004,rfl,HA,HK1,HO_374000,HO_374001,HO_374004,BK361,BK373,HB⟩ := hrel
  cases gk with
  | zero => exact absurd HA.out (by simp [regletlaw14_Clear.l0])
  | succ k1 =>
   have H:=HA.out
   clear HA
   simp only [regletlaw14_Clear.l0] at H
   by_cases c11 : x4_1 < (x374004_1.length : Int)
   · rw [if_pos c11] at H
     have c11b0 : decide (x4_1 < (x374004_1.length : Int)) = true:=decide_eq_true c11
     clear c11
     obtain ⟨y374,hy374⟩ : ∃ y_ : List Int,y_ = (([wrap64 (97 + x4_1)] : List Int)) := ⟨_,rfl⟩
     replace H : (if x374001_1.length < 1353245080339 then (regletlaw14_Clear.l1 k1 x4_1 ([] : List (S53)) 0 t362 (x374001_1 ++ [(⟨(⟨#[]⟩ : ByteArray),(⟨6,(⟨#[]⟩ : ByteArray),y374,0,0,([] : List (S59))⟩ : S59)⟩ : S61)]) t368 t369 x374004_1) else (none)) = some (r1,r2,r3,r4,r5) := by first | (rw [hy374];with_reducible exact H) | (have H2_:=(Option.bind_some _ _).symm.trans H;rw [hy374];with_reducible exact H2_) | (have H2_:=(Option.bind_some _ _).symm.trans H;with_reducible exact H2_) | with_reducible exact H | (rw [hy374];exact H) | exact H
     have Ny374:=Aside0.mk hy374
     clear hy374
     by_cases c12 : x374001_1.length < 1353245080339
     rotate_left
     · rw [if_neg c12] at H
       exact absurd H (by simp)
     rw [if_pos c12] at H
     have LMc12:=Aside0.mk c12
     clear c12
     obtain ⟨y377,hy377⟩ : ∃ y_ : List (S61),y_ = (x374001_1 ++ [(⟨(⟨#[]⟩ : ByteArray),(⟨6,(⟨#[]⟩ : ByteArray),y374,0,0,([] : List (S59))⟩ : S59)⟩ : S61)]) := ⟨_,rfl⟩
     replace H : (regletlaw14_Clear.l1 k1 x4_1 ([] : List (S53)) 0 t362 y377 t368 t369 x374004_1) = some (r1,r2,r3,r4,r5) := by first | (rw [hy377];with_reducible exact H) | (have H2_:=(Option.bind_some _ _).symm.trans H;rw [hy377];with_reducible exact H2_) | (have H2_:=(Option.bind_some _ _).symm.trans H;with_reducible exact H2_) | with_reducible exact H | (rw [hy377];exact H) | exact H
     have Ny377:=Aside0.mk hy377
     clear hy377
     have H' := Aside0.mk H
     clear H
     have hnb13:=NB373_361.out
     have hnc13:=NB361_373.out
     have hcz14_0 : wr.cell? ⟨gb373,0,none⟩ = some (.slice Ao6 t362.length co6) := (blk_cell BK373.out 0).trans rfl
     have hcz14_1 : wr.cell? ⟨gb373,1,none⟩ = some (u374001) := (blk_cell BK373.out 1).trans rfl
     have hcz14_2 : wr.cell? ⟨gb373,2,none⟩ = some (.int .i64 t368) := (blk_cell BK373.out 2).trans rfl
     have hcz14_3 : wr.cell? ⟨gb373,3,none⟩ = some (.int .i64 t369) := (blk_cell BK373.out 3).trans rfl
     have hcz14_4 : wr.cell? ⟨gb373,4,none⟩ = some (u374004) := (blk_cell BK373.out 4).trans rfl
     have hfz14_0:=blk_frozen BK373.out 0
     have hfz14_1:=blk_frozen BK373.out 1
     have hfz14_2:=blk_frozen BK373.out 2
     have hfz14_3:=blk_frozen BK373.out 3
     have hfz14_4:=blk_frozen BK373.out 4
     obtain ⟨Ao15,co15,eo15⟩ := Kd.S_slice HO_374004.out
     subst eo15
     go_wp2_with (first | ((with_reducible refine gate_dst (N:=24) rfl ?_);refine Kd.R_lit (Kd.int .i64) _ 3 ?hg (N:=24) ?hd (xs:=([wrap64 (97 + x4_1)] : List Int)) (inner := [.int .i64 (wrap64 (97 + x4_1))]) (ok:=fun _ => True) (okp:=fun _ => True) ?hr ?hp (fun _ hk => hk) trivial (Below.refl _ _) (Nat.le_refl _) (by simp) ?_;(case hd => rfl);(case hg => rfl);(case hr => first | (go_simp;done) | (go_simp;rfl));(case hp => exact (Reps.one (show Kd.M (Kd.int .i64) _ _ _ (wrap64 (97 + x4_1)) [.int .i64 (wrap64 (97 + x4_1))] from rfl) (Reps.none _ _)));intro v375 w16 ho17 hb hg_ hnew_;clear hg_ hnew_;(first | rw [← Ny374.out] at ho17 | (simp only [Int.reduceToNat] at ho17;rw [← Ny374.out] at ho17));have n0_:=Aside0.mk (Kd.R_below (by (with_reducible repeat (first | apply Kd.R_alloc | apply Kd.R_drewN | apply Kd.R_drew));exact HO_374000.out) hb);have n1_:=Aside0.mk (Kd.R_elder' (by (with_reducible repeat (first | apply Kd.R_alloc | apply Kd.R_drewN | apply Kd.R_drew));exact HO_374001.out) (Kd.R_base ho17) hb);have n2_:=Aside0.mk (Kd.S_below (by (with_reducible repeat (first | apply Kd.S_alloc | apply Kd.S_drewN | apply Kd.S_drew));exact HO_374004.out) hb);have n3_:=Aside0.mk (Kd.R_lower ho17 (below_size (by repeat (first | (with_reducible first | exact HB.out | apply below_alloc | apply pw_below_drewN | apply below_drew1 | refine below_set ?_ GE361.out | refine below_set ?_ GE373.out) | exact HB.out))));have n4_:=Aside0.mk (blk_below (g:=gb361) (o := .cells #[.slice none 0 0,.slice none 0 0,.int .i64 0,.int .i64 0,.slice none 0 0] 26 (0,0)) (by (with_reducible repeat (first | refine blk_drewN ?_ _ | refine blk_drew ?_ | refine blk_alloc ?_ _));exact BK361.out) hb);have n5_:=Aside0.mk (blk_below (g:=gb373) (o := .cells #[.slice Ao6 t362.length co6,u374001,.int .i64 t368,.int .i64 t369,.slice Ao15 x374004_1.length co15] 26 (0,0)) (by (with_reducible repeat (first | refine blk_drewN ?_ _ | refine blk_drew ?_ | refine blk_alloc ?_ _));exact BK373.out) hb);have n6_:=Aside0.mk (below_step (by repeat (first | (with_reducible first | exact HB.out | apply below_alloc | apply pw_below_drewN | apply below_drew1 | refine below_set ?_ GE361.out | refine below_set ?_ GE373.out) | exact HB.out)) hb);clear HO_374000;clear HO_374001;clear HO_374004;clear BK361;clear BK373;clear HB;have HO_374000:=n0_;have HO_374001:=n1_;have HO_374004:=n2_;have HO376:=n3_;have BK361:=n4_;have BK373:=n5_;have HB:=n6_;clear n0_ n1_ n2_ n3_ n4_ n5_ n6_;clear hb ho17;obtain ⟨Ao18,co18,eo18⟩ := Kd.R_slice HO376.out;subst eo18) | ((with_reducible refine gate_builtin (b := .append) (xs:=#[.tmp 21,.tmp 27]) rfl ?_);at_builtin;refine Kd.R_append k61 (w0:=w) w.heap.size rfl (.tmp 21) (.tmp 27) 23 61 (.agg #[(.string ⟨#[]⟩),(.int .i64 0),(.string ⟨#[]⟩),(.slice none 0 0),(.int .i64 0),(.int .i64 0),(.slice none 0 0)]) 104 rfl Try.underlying23 info61 rfl (by decide) (by omega) u374001 x374001_1 (⟨(⟨#[]⟩ : ByteArray),(⟨6,(⟨#[]⟩ : ByteArray),y374,0,0,([] : List (S59))⟩ : S59)⟩ : S61) [.string (⟨#[]⟩ : ByteArray),.int .i64 6,.string (⟨#[]⟩ : ByteArray),.slice Ao18 y374.length co18,.int .i64 0,.int .i64 0,.slice none 0 0] (fun _ => True) (fun k_ => ((fun _ => True)) k_ ∧ some k_ ≠ (u374001 : Value).ownBlock) rfl rfl ?aP (fun _ hk => hk) ?aF ?aO ?aB ?aS ?aL ?_;(case aP => exact k61_mkM _ _ _ (⟨(⟨#[]⟩ : ByteArray),(⟨6,(⟨#[]⟩ : ByteArray),y374,0,0,([] : List (S59))⟩ : S59)⟩ : S61) (Kd.R_mono (Kd.R_apart' (HO376.out) (Kd.R_typed HO_374001.out) (by decide)) (fun k_ hk => ⟨trivial,hk.2⟩)) (Kd.R_nil _ _ _ _ _));(case aB => exact (by repeat (first | (with_reducible first | exact HB.out | apply below_alloc | apply pw_below_drewN | apply below_drew1 | refine below_set ?_ GE361.out | refine below_set ?_ GE373.out) | exact HB.out)));(case aF => exact (fun _ _ => trivial));(case aO => exact (by (with_reducible repeat (first | apply Kd.R_alloc | apply Kd.R_drewN | apply Kd.R_drew));exact Kd.R_mono HO_374001.out (fun _ hk => trivial)));(case aS => exact (below_size (by repeat (first | (with_reducible first | exact HB.out | apply below_alloc | apply pw_below_drewN | apply below_drew1 | refine below_set ?_ GE361.out | refine below_set ?_ GE373.out) | exact HB.out))));(case aL => have:=LMc12.out;omega);intro v378 w19 ho hb hg hat;rw [← Ny377.out] at ho;have n0_:=Aside0.mk (Kd.R_over' (by (with_reducible repeat (first | apply Kd.R_alloc | apply Kd.R_drewN | apply Kd.R_drew));exact HO_374000.out) (Kd.R_typed (by (with_reducible repeat (first | apply Kd.R_alloc | apply Kd.R_drewN | apply Kd.R_drew));exact HO_374001.out)) (by decide) hg);have n1_:=Aside0.mk (Kd.S_over' (by (with_reducible repeat (first | apply Kd.S_alloc | apply Kd.S_drewN | apply Kd.S_drew));exact HO_374004.out) (Kd.R_typed (by (with_reducible repeat (first | apply Kd.R_alloc | apply Kd.R_drewN | apply Kd.R_drew));exact HO_374001.out)) (by decide) hg);have n2_:=Aside0.mk (blk_grown (g:=gb361) (o := .cells #[.slice none 0 0,.slice none 0 0,.int .i64 0,.int .i64 0,.slice none 0 0] 26 (0,0)) (by (with_reducible repeat (first | refine blk_drewN ?_ _ | refine blk_drew ?_ | refine blk_alloc ?_ _));exact BK361.out) hg (Kd.R_ne HO_374001.out BK361.out (by decide)));have n3_:=Aside0.mk (blk_grown (g:=gb373) (o := .cells #[.slice Ao6 t362.length co6,u374001,.int .i64 t368,.int .i64 t369,.slice Ao15 x374004_1.length co15] 26 (0,0)) (by (with_reducible repeat (first | refine blk_drewN ?_ _ | refine blk_drew ?_ | refine blk_alloc ?_ _));exact BK373.out) hg (Kd.R_ne HO_374001.out BK373.out (by decide)));have n4_:=Aside0.mk (hb);have n5_:=Aside0.mk (ho);clear HO_374000;clear HO_374004;clear BK361;clear BK373;clear HB;clear HO_374001;clear HO376;have HO_374000:=n0_;have HO_374004:=n1_;have BK361:=n2_;have BK373:=n3_;have HB:=n4_;have HO379:=n5_;clear n0_ n1_ n2_ n3_ n4_ n5_;clear ho hb hg hat;obtain ⟨Ao20,co20,eo20⟩ := Kd.R_slice HO379.out;subst eo20;have hcz21_0 : w19.cell? ⟨gb373,0,none⟩ = some (.slice Ao6 t362.length co6) := (blk_cell BK373.out 0).trans rfl;have hcz21_1 : w19.cell? ⟨gb373,1,none⟩ = some (u374001) := (blk_cell BK373.out 1).trans rfl;have hcz21_2 : w19.cell? ⟨gb373,2,none⟩ = some (.int .i64 t368) := (blk_cell BK373.out 2).trans rfl;have hcz21_3 : w19.cell? ⟨gb373,3,none⟩ = some (.int .i64 t369) := (blk_cell BK373.out 3).trans rfl;have hcz21_4 : w19.cell? ⟨gb373,4,none⟩ = some (.slice Ao15 x374004_1.length co15) := (blk_cell BK373.out 4).trans rfl;have hfz21_0:=blk_frozen BK373.out 0;have hfz21_1:=blk_frozen BK373.out 1;have hfz21_2:=blk_frozen BK373.out 2;have hfz21_3:=blk_frozen BK373.out 3;have hfz21_4:=blk_frozen BK373.out 4))
     go_loopg [5,6] k1 (fun kq v5 v6 w' => ∃ (x5_2 : List (S53)) (x6_2 : Int),v6 = .int .i64 x6_2 ∧ Aside0 (regletlaw14_Clear.l1 kq x4_1 x5_2 x6_2 t362 y377 t368 t369 x374004_1 = some (r1,r2,r3,r4,r5)) ∧ Aside0 (kq ≤ k1) ∧ Aside0 (Kd.R k53 53 w' w.heap.size (fun _ => True) v5 x5_2) ∧ Aside0 (Kd.R Kd.string 9 w' w.heap.size (fun _ => True) (.slice Ao6 t362.length co6) t362) ∧ Aside0 (Kd.R k61 61 w' w.heap.size (fun _ => True) (.slice Ao20 y377.length co20) y377) ∧ Aside0 (Kd.S k30 30 w' w.heap.size (fun k_ => some k_ ≠ (v5 : Value).ownBlock) (.slice Ao15 x374004_1.length co15) x374004_1) ∧ Aside0 (w'.heap[gb361]? = some (.cells #[(.slice none 0 0),(.slice none 0 0),.int .i64 0,.int .i64 0,(.slice none 0 0)] 26 (0,0))) ∧ Aside0 (w'.heap[gb373]? = some (.cells #[(.slice Ao6 t362.length co6),(.slice Ao20 y377.length co20),.int .i64 t368,.int .i64 t369,(.slice Ao15 x374004_1.length co15)] 26 (0,0))) ∧ Aside0 (Below w.heap.size w w'))
     case atStart => exact ⟨(([] : List (S53))),(0),(by first | rfl | (simp;done) | (simp [*];done)),H',⟨Nat.le_refl _⟩,⟨by first | exact Kd.R_nil _ _ _ _ _ | exact Kd.N_nil _ _ _ _ _ | exact Kd.V_nil _ _ _ _ _ | exact Kd.Q_nil _ _ _ _ _ | exact Kd.S_nil _ _ _ _ _⟩,⟨by (with_reducible repeat (first | apply Kd.R_alloc | apply Kd.R_drewN | apply Kd.R_drew));exact Kd.R_mono (Kd.R_far (p:=⟨gb373,1,none⟩) (Kd.R_types HO_374000.out BK373.out (by decide)) (fun _ hk => hk.2) (.slice Ao20 y377.length co20)) (fun _ hk => trivial)⟩,⟨by (with_reducible repeat (first | apply Kd.R_alloc | apply Kd.R_drewN | apply Kd.R_drew));exact Kd.R_mono (Kd.R_far (p:=⟨gb373,1,none⟩) (Kd.R_types HO379.out BK373.out (by decide)) (fun _ hk => hk.2) (.slice Ao20 y377.length co20)) (fun _ hk => trivial)⟩,⟨by (with_reducible repeat (first | apply Kd.S_alloc | apply Kd.S_drewN | apply Kd.S_drew));exact Kd.S_mono (Kd.S_far (p:=⟨gb373,1,none⟩) (Kd.S_types HO_374004.out BK373.out (by decide)) (fun _ hk => hk.2) (.slice Ao20 y377.length co20)) (fun _ hk => (by simp [Value.ownBlock]))⟩,⟨by (with_reducible repeat (first | refine blk_drewN ?_ _ | refine blk_drew ?_ | refine blk_alloc ?_ _));refine blk_far ?_ NB361_373.out _;(with_reducible repeat (first | refine blk_drewN ?_ _ | refine blk_drew ?_ | refine blk_alloc ?_ _));exact BK361.out⟩,⟨by (with_reducible repeat (first | refine blk_drewN ?_ _ | refine blk_drew ?_ | refine blk_alloc ?_ _));refine blk_put (cs:=#[.slice Ao6 t362.length co6,u374001,.int .i64 t368,.int .i64 t369,.slice Ao15 x374004_1.length co15]) ?_ 1 _ rfl;(with_reducible repeat (first | refine blk_drewN ?_ _ | refine blk_drew ?_ | refine blk_alloc ?_ _));exact BK373.out⟩,⟨by repeat (first | (with_reducible first | exact HB.out | apply below_alloc | apply pw_below_drewN | apply below_drew1 | refine below_set ?_ GE361.out | refine below_set ?_ GE373.out) | exact HB.out)⟩⟩
     case round =>
      clear H'
      (try clear c1);(try clear p2);(try clear p6);(try clear c7);(try clear c11);(try clear c11b0);(try clear c12);(try clear c13);(try clear hcz14_0);(try clear hcz14_1);(try clear hcz14_2);(try clear hcz14_3);(try clear hcz14_4);(try clear hcz21_0);(try clear hcz21_1);(try clear hcz21_2);(try clear hcz21_3);(try clear hcz21_4);(try clear hcz8_0);(try clear hcz8_1);(try clear hcz8_2);(try clear hcz8_3)
      (try clear hcz8_4);(try clear hfz14_0);(try clear hfz14_1);(try clear hfz14_2);(try clear hfz14_3);(try clear hfz14_4);(try clear hfz21_0);(try clear hfz21_1);(try clear hfz21_2);(try clear hfz21_3);(try clear hfz21_4);(try clear hfz8_0);(try clear hfz8_1);(try clear hfz8_2);(try clear hfz8_3);(try clear hfz8_4);(try clear p2)
      obtain ⟨x5_2,x6_2,rfl,HA,HK2,HO_5,HO_374000,HO_374001,HO_374004,BK361,BK373,HB⟩ := hrel
      cases gk with
      | zero => exact absurd HA.out (by simp [regletlaw14_Clear.l1])
      | succ k2 =>
       have H:=HA.out
       clear HA
       simp only [regletlaw14_Clear.l1] at H
       by_cases c22 : 0 ≤ x4_1
       rotate_left
       · rw [if_neg c22] at H
         exact absurd H (by simp)
       rw [if_pos c22] at H
       have c22b0 : decide (0 ≤ x4_1) = true:=decide_eq_true c22
       clear c22
       by_cases c23 : x4_1 < (x374004_1.length : Int)
       rotate_left
       · rw [if_neg c23] at H
         exact absurd H (by simp)
       rw [if_pos c23] at H
       have c23b0 : decide (x4_1 < (x374004_1.length : Int)) = true:=decide_eq_true c23
       clear c23
       by_cases c24 : x6_2 < (((rd_T30 x374004_1 x4_1).f1).length : Int)
       · rw [if_pos c24] at H
         have c24b0 : decide (x6_2 < (((rd_T30 x374004_1 x4_1).f1).length : Int)) = true:=decide_eq_true c24
         clear c24
         by_cases c25 : 0 ≤ x6_2
         rotate_left
         · rw [if_neg c25] at H
           exact absurd H (by simp)
         rw [if_pos c25] at H
         have c25b0 : decide (0 ≤ x6_2) = true:=decide_eq_true c25
         clear c25
         obtain ⟨bq26,hbq26⟩ : ∃ b_ : Bool,b_ = ((rd_T53 ((rd_T30 x374004_1 x4_1).f1) x6_2).f0) := ⟨_,rfl⟩
         replace H : (if bq26 = true then (if (x374004_1.length : Int) = 0 then (none) else (if x5_2.length < 8796093022208 then (regletlaw14_Clear.l1 k2 x4_1 (x5_2 ++ [(⟨bq26,Int.tmod ((rd_T53 ((rd_T30 x374004_1 x4_1).f1) x6_2).f1) (x374004_1.length : Int)⟩ : S53)]) (wrap64 (x6_2 + 1)) t362 y377 t368 t369 x374004_1) else (none))) else (if x5_2.length < 8796093022208 then (regletlaw14_Clear.l1 k2 x4_1 (x5_2 ++ [(⟨bq26,(rd_T53 ((rd_T30 x374004_1 x4_1).f1) x6_2).f1⟩ : S53)]) (wrap64 (x6_2 + 1)) t362 y377 t368 t369 x374004_1) else (none))) = some (r1,r2,r3,r4,r5) := by rw [← hbq26] at H;exact H
         have Nbq26:=Aside0.mk hbq26
         clear hbq26
         by_cases c27 : bq26 = true
         · subst c27
           have H1 : (if (x374004_1.length : Int) = 0 then (none) else (if x5_2.length < 8796093022208 then (regletlaw14_Clear.l1 k2 x4_1 (x5_2 ++ [(⟨true,Int.tmod ((rd_T53 ((rd_T30 x374004_1 x4_1).f1) x6_2).f1) (x374004_1.length : Int)⟩ : S53)]) (wrap64 (x6_2 + 1)) t362 y377 t368 t369 x374004_1) else (none))) = some (r1,r2,r3,r4,r5) := by rw [if_pos rfl] at H;exact H
           clear H
           have H:=H1
           clear H1
           by_cases c28 : (x374004_1.length : Int) = 0
           · rw [if_pos c28] at H
             exact absurd H (by simp)
           rw [if_neg c28] at H
           have c28b0 : ((x374004_1.length : Int) == 0) = false:=beq_eq_false_iff_ne.mpr c28
           have c28b1 : ((x374004_1.length : Int) != 0) = true:=bne_iff_ne.mpr c28
           have c28b2 : ¬ (x374004_1 = []) := fun h_ => c28 (by rw [h_];rfl)
           by_cases c29 : x5_2.length < 8796093022208
           rotate_left
           · rw [if_neg c29] at H
             exact absurd H (by simp)
           rw [if_pos c29] at H
           have LMc29:=Aside0.mk c29
           clear c29
           obtain ⟨y384,hy384⟩ : ∃ y_ : List (S53),y_ = (x5_2 ++ [(⟨true,Int.tmod ((rd_T53 ((rd_T30 x374004_1 x4_1).f1) x6_2).f1) (x374004_1.length : Int)⟩ : S53)]) := ⟨_,rfl⟩
           replace H : (regletlaw14_Clear.l1 k2 x4_1 y384 (wrap64 (x6_2 + 1)) t362 y377 t368 t369 x374004_1) = some (r1,r2,r3,r4,r5) := by first | (rw [hy384];with_reducible exact H) | (have H2_:=(Option.bind_some _ _).symm.trans H;rw [hy384];with_reducible exact H2_) | (have H2_:=(Option.bind_some _ _).symm.trans H;with_reducible exact H2_) | with_reducible exact H | (rw [hy384];exact H) | exact H
           have Ny384:=Aside0.mk hy384
           clear hy384
           have H' := Aside0.mk H
           clear H
           have hnb30:=NB373_361.out
           have hnc30:=NB361_373.out
           have hcz31_0 : wr.cell? ⟨gb373,0,none⟩ = some (.slice Ao6 t362.length co6) := (blk_cell BK373.out 0).trans rfl
           have hcz31_1 : wr.cell? ⟨gb373,1,none⟩ = some (.slice Ao20 y377.length co20) := (blk_cell BK373.out 1).trans rfl
           have hcz31_2 : wr.cell? ⟨gb373,2,none⟩ = some (.int .i64 t368) := (blk_cell BK373.out 2).trans rfl
           have hcz31_3 : wr.cell? ⟨gb373,3,none⟩ = some (.int .i64 t369) := (blk_cell BK373.out 3).trans rfl
           have hcz31_4 : wr.cell? ⟨gb373,4,none⟩ = some (.slice Ao15 x374004_1.length co15) := (blk_cell BK373.out 4).trans rfl
           have hfz31_0:=blk_frozen BK373.out 0
           have hfz31_1:=blk_frozen BK373.out 1
           have hfz31_2:=blk_frozen BK373.out 2
           have hfz31_3:=blk_frozen BK373.out 3
           have hfz31_4:=blk_frozen BK373.out 4
           have p380 : 0 ≤ (x4_1 : Int) := of_decide_eq_true (by first | (with_reducible assumption) | assumption)
           have q380 : x4_1 < (x374004_1.length : Int) := of_decide_eq_true (by first | (with_reducible assumption) | assumption)
           obtain ⟨ad380,A380_1,c380_1,e380,hx380_0,hx380_1,hl380_1,hi380_1⟩ := at_T30 (Kd.S_reads' HO_374004.out).2.2 x4_1 p380 q380
           cases e380
           obtain ⟨ce380,hce380,hMe380,hcc380⟩ := Kd.S_get HO_374004.out z30 x4_1 p380 (by first | exact q380 | exact of_decide_eq_true (by first | (with_reducible assumption) | assumption) | (have e_:=(Kd.S_reads' HO_374004.out).1;omega))
           obtain ⟨ve380_1,rfl,ge380_1⟩ := k30_openM hMe380
           have hv380_1:=hcc380 1 _ rfl
           rw [add_field _ _ 1 (by omega)] at hv380_1
           replace hv380_1:=Option.some.inj (hv380_1.symm.trans hx380_1)
           rw [hv380_1] at ge380_1
           have HL380_1:=Aside0.mk (show Kd.R k53 53 _ _ _ _ ((rd_T30 x374004_1 x4_1).f1) from ge380_1)
           clear hv380_1 ge380_1
           have HX380_1:=Aside0.mk hx380_1
           clear hcc380 hce380
           have HR380_1:=Aside0.mk hi380_1
           have HC380_1:=Aside0.mk hl380_1
           clear hi380_1 hl380_1
           replace p380:=eq_true p380
           replace q380:=eq_true q380
           have p381 : 0 ≤ (x4_1 : Int) := of_decide_eq_true (by first | (with_reducible assumption) | assumption)
           have q381 : x4_1 < (x374004_1.length : Int) := of_decide_eq_true (by first | (with_reducible assumption) | assumption)
           obtain ⟨ad381,A381_1,c381_1,e381,hx381_0,hx381_1,hl381_1,hi381_1⟩ := at_T30 (Kd.S_reads' HO_374004.out).2.2 x4_1 p381 q381
           obtain rfl : ad380 = ad381:=(by injection e381)
           obtain ⟨ce381,hce381,hMe381,hcc381⟩ := Kd.S_get HO_374004.out z30 x4_1 p381 (by first | exact q381 | exact of_decide_eq_true (by first | (with_reducible assumption) | assumption) | (have e_:=(Kd.S_reads' HO_374004.out).1;omega))
           obtain ⟨ve381_1,rfl,ge381_1⟩ := k30_openM hMe381
           have hv381_1:=hcc381 1 _ rfl
           rw [add_field _ _ 1 (by omega)] at hv381_1
           replace hv381_1:=Option.some.inj (hv381_1.symm.trans hx381_1)
           rw [hv381_1] at ge381_1
           have HL381_1:=Aside0.mk (show Kd.R k53 53 _ _ _ _ ((rd_T30 x374004_1 x4_1).f1) from ge381_1)
           clear hv381_1 ge381_1
           have HX381_1:=Aside0.mk hx381_1
           clear hcc381 hce381
           have HR381_1:=Aside0.mk hi381_1
           have HC381_1:=Aside0.mk hl381_1
           clear hi381_1 hl381_1
           replace p381:=eq_true p381
           replace q381:=eq_true q381
           have ea_:=Option.some.inj (hx380_1.symm.trans hx381_1)
           injection ea_ with ea_ en_ ec_
           subst ea_
           subst ec_
           clear en_
           have p382 : 0 ≤ (x6_2 : Int) := of_decide_eq_true (by first | (with_reducible assumption) | assumption)
           have q382 : x6_2 < (((rd_T30 x374004_1 x4_1).f1).length : Int) := of_decide_eq_true (by first | (with_reducible assumption) | assumption)
           obtain ⟨ad382,e382,hx382_0,hx382_1⟩ := at_T53 (by repeat (first | (with_reducible exact HR381_1.out) | (with_reducible refine Kd.C_alloc ?_ _) | (with_reducible refine Kd.C_drewN ?_ _) | (with_reducible refine Kd.C_drew ?_) | exact HR381_1.out)) x6_2 p382 q382
           (try rw [← Nbq26.out] at hx382_0)
           cases e382
           replace p382:=eq_true p382
           replace q382:=eq_true q382
           go_wp2_with (first | ((with_reducible refine gate_dst (N:=7) rfl ?_);refine box_event ?hg (N:=7) ?hd (cs:=#[.bool false,.int .i64 0]) (t:=53) ?hr ?_;(case hd => rfl);(case hg => rfl);(case hr => first | (go_simp;done) | (go_simp;rfl));intro gb383 hg w32 hbox hb;have n0_:=Aside0.mk (Kd.R_below (Kd.R_elderB (by (with_reducible repeat (first | apply Kd.R_alloc | apply Kd.R_drewN | apply Kd.R_drew));exact HO_5.out) gb383 (Nat.le_of_eq hg.symm)) hb);have n1_:=Aside0.mk (Kd.R_below (by (with_reducible repeat (first | apply Kd.R_alloc | apply Kd.R_drewN | apply Kd.R_drew));exact HO_374000.out) hb);have n2_:=Aside0.mk (Kd.R_below (by (with_reducible repeat (first | apply Kd.R_alloc | apply Kd.R_drewN | apply Kd.R_drew));exact HO_374001.out) hb);have n3_:=Aside0.mk (Kd.S_below (Kd.S_elderB (by (with_reducible repeat (first | apply Kd.S_alloc | apply Kd.S_drewN | apply Kd.S_drew));exact HO_374004.out) gb383 (Nat.le_of_eq hg.symm)) hb);have n4_:=Aside0.mk (Kd.R_below (Kd.R_elderB (by (with_reducible repeat (first | apply Kd.R_alloc | apply Kd.R_drewN | apply Kd.R_drew));exact HL380_1.out) gb383 (Nat.le_of_eq hg.symm)) hb);have n5_:=Aside0.mk (Kd.R_below (Kd.R_elderB (by (with_reducible repeat (first | apply Kd.R_alloc | apply Kd.R_drewN | apply Kd.R_drew));exact HL381_1.out) gb383 (Nat.le_of_eq hg.symm)) hb);have n6_:=Aside0.mk (blk_below (g:=gb361) (o := .cells #[.slice none 0 0,.slice none 0 0,.int .i64 0,.int .i64 0,.slice none 0 0] 26 (0,0)) (by (with_reducible repeat (first | refine blk_drewN ?_ _ | refine blk_drew ?_ | refine blk_alloc ?_ _));exact BK361.out) hb);have n7_:=Aside0.mk (blk_below (g:=gb373) (o := .cells #[.slice Ao6 t362.length co6,.slice Ao20 y377.length co20,.int .i64 t368,.int .i64 t369,.slice (some ad380) x374004_1.length co15] 26 (0,0)) (by (with_reducible repeat (first | refine blk_drewN ?_ _ | refine blk_drew ?_ | refine blk_alloc ?_ _));exact BK373.out) hb);have n8_:=Aside0.mk (Kd.C_below (by repeat (first | (with_reducible exact HR380_1.out) | (with_reducible refine Kd.C_alloc ?_ _) | (with_reducible refine Kd.C_drewN ?_ _) | (with_reducible refine Kd.C_drew ?_) | exact HR380_1.out)) hb);have n9_:=Aside0.mk (pw_cell_below hb HX380_1.out);have n10_:=Aside0.mk (Kd.C_below (by repeat (first | (with_reducible exact HR381_1.out) | (with_reducible refine Kd.C_alloc ?_ _) | (with_reducible refine Kd.C_drewN ?_ _) | (with_reducible refine Kd.C_drew ?_) | exact HR381_1.out)) hb);have n11_:=Aside0.mk (pw_cell_below hb HX381_1.out);have n12_:=Aside0.mk (below_step (by repeat (first | (with_reducible first | exact HB.out | apply below_alloc | apply pw_below_drewN | apply below_drew1 | refine below_set ?_ GE361.out | refine below_set ?_ GE373.out) | exact HB.out)) hb);have n13_:=Aside0.mk (hbox);have n14_:=Aside0.mk ((by rw [hg];exact (below_size (by repeat (first | (with_reducible first | exact HB.out | apply below_alloc | apply pw_below_drewN | apply below_drew1 | refine below_set ?_ GE361.out | refine below_set ?_ GE373.out) | exact HB.out))) : w.heap.size ≤ gb383));have n15_:=Aside0.mk ((by rw [hg];exact (below_size (by repeat (first | (with_reducible first | exact HB.out | apply below_alloc | apply pw_below_drewN | apply below_drew1 | refine below_set ?_ GE361.out | refine below_set ?_ GE373.out) | exact HB.out))) : w.heap.size ≤ gb383));have n16_:=Aside0.mk ((by rw [hg];exact Nat.ne_of_lt (blk_lt (g:=gb361) (o := .cells #[.slice none 0 0,.slice none 0 0,.int .i64 0,.int .i64 0,.slice none 0 0] 26 (0,0)) (by (with_reducible repeat (first | refine blk_drewN ?_ _ | refine blk_drew ?_ | refine blk_alloc ?_ _));exact BK361.out)) : gb361 ≠ gb383));have n17_:=Aside0.mk ((by rw [hg];exact Nat.ne_of_gt (blk_lt (g:=gb361) (o := .cells #[.slice none 0 0,.slice none 0 0,.int .i64 0,.int .i64 0,.slice none 0 0] 26 (0,0)) (by (with_reducible repeat (first | refine blk_drewN ?_ _ | refine blk_drew ?_ | refine blk_alloc ?_ _));exact BK361.out)) : gb383 ≠ gb361));have n18_:=Aside0.mk ((by rw [hg];exact Nat.ne_of_lt (blk_lt (g:=gb373) (o := .cells #[.slice Ao6 t362.length co6,.slice Ao20 y377.length co20,.int .i64 t368,.int .i64 t369,.slice (some ad380) x374004_1.length co15] 26 (0,0)) (by (with_reducible repeat (first | refine blk_drewN ?_ _ | refine blk_drew ?_ | refine blk_alloc ?_ _));exact BK373.out)) : gb373 ≠ gb383));have n19_:=Aside0.mk ((by rw [hg];exact Nat.ne_of_gt (blk_lt (g:=gb373) (o := .cells #[.slice Ao6 t362.length co6,.slice Ao20 y377.length co20,.int .i64 t368,.int .i64 t369,.slice (some ad380) x374004_1.length co15] 26 (0,0)) (by (with_reducible repeat (first | refine blk_drewN ?_ _ | refine blk_drew ?_ | refine blk_alloc ?_ _));exact BK373.out)) : gb383 ≠ gb373));clear HO_5;clear HO_374000;clear HO_374001;clear HO_374004;clear HL380_1;clear HL381_1;clear BK361;clear BK373;clear HR380_1;clear HX380_1;clear HR381_1;clear HX381_1;clear HB;have HO_5:=n0_;have HO_374000:=n1_;have HO_374001:=n2_;have HO_374004:=n3_;have HL380_1:=n4_;have HL381_1:=n5_;have BK361:=n6_;have BK373:=n7_;have HR380_1:=n8_;have HX380_1:=n9_;have HR381_1:=n10_;have HX381_1:=n11_;have HB:=n12_;have BK383:=n13_;have GW383:=n14_;have GE383:=n15_;have NB361_383:=n16_;have NB383_361:=n17_;have NB373_383:=n18_;have NB383_373:=n19_;clear n0_ n1_ n2_ n3_ n4_ n5_ n6_ n7_ n8_ n9_ n10_ n11_ n12_ n13_ n14_ n15_ n16_ n17_ n18_ n19_;clear hb hbox hg;have hnb33:=NB383_361.out;have hnc33:=NB361_383.out;have hnb34:=NB383_373.out;have hnc34:=NB373_383.out;have hcz35_0 : w32.cell? ⟨gb383,0,none⟩ = some (.bool false) := (blk_cell BK383.out 0).trans rfl;have hcz35_1 : w32.cell? ⟨gb383,1,none⟩ = some (.int .i64 0) := (blk_cell BK383.out 1).trans rfl;have hdz35 : ∀ (v0 v1 y : Value),(((w32.setCell ⟨gb383,0,none⟩ v0).setCell ⟨gb383,1,none⟩ v1).setCell ⟨gb383,1,none⟩ y).cell? ⟨gb383,1,none⟩ = some y:=fun v0 v1 y => World.cell?_setCell_same _ _ _ (World.cell?_setCell_same _ _ _ ((World.cell?_setCell_other _ _ _ _ (by simp)).trans hcz35_1));have hfz35_0:=blk_frozen BK383.out 0;have hfz35_1:=blk_frozen BK383.out 1;have hcz36_0 : w32.cell? ⟨gb373,0,none⟩ = some (.slice Ao6 t362.length co6) := (blk_cell BK373.out 0).trans rfl;have hcz36_1 : w32.cell? ⟨gb373,1,none⟩ = some (.slice Ao20 y377.length co20) := (blk_cell BK373.out 1).trans rfl;have hcz36_2 : w32.cell? ⟨gb373,2,none⟩ = some (.int .i64 t368) := (blk_cell BK373.out 2).trans rfl;have hcz36_3 : w32.cell? ⟨gb373,3,none⟩ = some (.int .i64 t369) := (blk_cell BK373.out 3).trans rfl;have hcz36_4 : w32.cell? ⟨gb373,4,none⟩ = some (.slice (some ad380) x374004_1.length co15) := (blk_cell BK373.out 4).trans rfl;have hfz36_0:=blk_frozen BK373.out 0;have hfz36_1:=blk_frozen BK373.out 1;have hfz36_2:=blk_frozen BK373.out 2;have hfz36_3:=blk_frozen BK373.out 3;have hfz36_4:=blk_frozen BK373.out 4) | ((with_reducible refine gate_builtin (b := .append) (xs:=#[.tmp 59,.tmp 61]) rfl ?_);at_builtin;refine Kd.R_append k53 (w0:=w) w.heap.size rfl (.tmp 59) (.tmp 61) 28 53 (.agg #[(.bool false),(.int .i64 0)]) 16 rfl Try.underlying28 info53 rfl (by decide) (by omega) u5 x5_2 (⟨true,Int.tmod ((rd_T53 ((rd_T30 x374004_1 x4_1).f1) x6_2).f1) (x374004_1.length : Int)⟩ : S53) [.bool true,.int .i64 (Int.tmod ((rd_T53 ((rd_T30 x374004_1 x4_1).f1) x6_2).f1) (x374004_1.length : Int))] (fun k_ => k_ ≠ gb383) (fun _ => False) rfl (by first | (go_simp;done) | (go_simp;rfl)) ?aP (fun _ hk => hk.elim) ?aF ?aO ?aB ?aS ?aL ?_;(case aP => exact k53_mkM _ _ _ (⟨true,Int.tmod ((rd_T53 ((rd_T30 x374004_1 x4_1).f1) x6_2).f1) (x374004_1.length : Int)⟩ : S53));(case aB => exact (by repeat (first | (with_reducible first | exact HB.out | apply below_alloc | apply pw_below_drewN | apply below_drew1 | refine below_set ?_ GE361.out | refine below_set ?_ GE373.out | refine below_set ?_ GE383.out) | exact HB.out)));(case aF => exact (fun k_ hk => Kd.freshB (g:=gb383) (o := .cells #[.bool true,.int .i64 (Int.tmod ((rd_T53 ((rd_T30 x374004_1 x4_1).f1) x6_2).f1) (x374004_1.length : Int))] 53 (0,0)) (by (with_reducible repeat (first | refine blk_drewN ?_ _ | refine blk_drew ?_ | refine blk_alloc ?_ _));refine blk_put (cs:=#[.bool true,.int .i64 ((rd_T53 ((rd_T30 x374004_1 x4_1).f1) x6_2).f1)]) ?_ 1 _ rfl;(with_reducible repeat (first | refine blk_drewN ?_ _ | refine blk_drew ?_ | refine blk_alloc ?_ _));refine blk_put (cs:=#[.bool true,.int .i64 0]) ?_ 1 _ rfl;(with_reducible repeat (first | refine blk_drewN ?_ _ | refine blk_drew ?_ | refine blk_alloc ?_ _));refine blk_put (cs:=#[.bool false,.int .i64 0]) ?_ 0 _ rfl;(with_reducible repeat (first | refine blk_drewN ?_ _ | refine blk_drew ?_ | refine blk_alloc ?_ _));exact BK383.out) k_ hk));(case aO => exact (by (with_reducible repeat (first | apply Kd.R_alloc | apply Kd.R_drewN | apply Kd.R_drew));exact Kd.R_mono (Kd.R_far (p:=⟨gb383,1,none⟩) (Kd.R_far (p:=⟨gb383,1,none⟩) (Kd.R_far (p:=⟨gb383,0,none⟩) (Kd.R_mono HO_5.out (fun k_ hk => (⟨hk,hk.2⟩ : _ ∧ k_ ≠ gb383))) (fun _ hk => hk.2) (.bool true)) (fun _ hk => hk.2) (.int .i64 ((rd_T53 ((rd_T30 x374004_1 x4_1).f1) x6_2).f1))) (fun _ hk => hk.2) (.int .i64 (Int.tmod ((rd_T53 ((rd_T30 x374004_1 x4_1).f1) x6_2).f1) (x374004_1.length : Int)))) (fun _ hk => hk.1.2)));(case aS => exact (below_size (by repeat (first | (with_reducible first | exact HB.out | apply below_alloc | apply pw_below_drewN | apply below_drew1 | refine below_set ?_ GE361.out | refine below_set ?_ GE373.out | refine below_set ?_ GE383.out) | exact HB.out))));(case aL => have:=LMc29.out;omega);intro v385 w37 ho hb hg hat;rw [← Ny384.out] at ho;have n0_:=Aside0.mk (Kd.R_over' (by (with_reducible repeat (first | apply Kd.R_alloc | apply Kd.R_drewN | apply Kd.R_drew));exact (Kd.R_mono (Kd.R_far (p:=⟨gb383,1,none⟩) (Kd.R_far (p:=⟨gb383,1,none⟩) (Kd.R_far (p:=⟨gb383,0,none⟩) (Kd.R_types HO_374000.out BK383.out (by decide)) (fun _ hk => hk.2) (.bool true)) (fun _ hk => hk.2) (.int .i64 ((rd_T53 ((rd_T30 x374004_1 x4_1).f1) x6_2).f1))) (fun _ hk => hk.2) (.int .i64 (Int.tmod ((rd_T53 ((rd_T30 x374004_1 x4_1).f1) x6_2).f1) (x374004_1.length : Int)))) (fun _ h_ => h_.1))) (Kd.R_typed (by (with_reducible repeat (first | apply Kd.R_alloc | apply Kd.R_drewN | apply Kd.R_drew));exact (Kd.R_mono (Kd.R_far (p:=⟨gb383,1,none⟩) (Kd.R_far (p:=⟨gb383,1,none⟩) (Kd.R_far (p:=⟨gb383,0,none⟩) (Kd.R_mono HO_5.out (fun k_ hk => (⟨hk,hk.2⟩ : _ ∧ k_ ≠ gb383))) (fun _ hk => hk.2) (.bool true)) (fun _ hk => hk.2) (.int .i64 ((rd_T53 ((rd_T30 x374004_1 x4_1).f1) x6_2).f1))) (fun _ hk => hk.2) (.int .i64 (Int.tmod ((rd_T53 ((rd_T30 x374004_1 x4_1).f1) x6_2).f1) (x374004_1.length : Int)))) (fun _ h_ => h_.1)))) (by decide) hg);have n1_:=Aside0.mk (Kd.R_over' (by (with_reducible repeat (first | apply Kd.R_alloc | apply Kd.R_drewN | apply Kd.R_drew));exact (Kd.R_mono (Kd.R_far (p:=⟨gb383,1,none⟩) (Kd.R_far (p:=⟨gb383,1,none⟩) (Kd.R_far (p:=⟨gb383,0,none⟩) (Kd.R_types HO_374001.out BK383.out (by decide)) (fun _ hk => hk.2) (.bool true)) (fun _ hk => hk.2) (.int .i64 ((rd_T53 ((rd_T30 x374004_1 x4_1).f1) x6_2).f1))) (fun _ hk => hk.2) (.int .i64 (Int.tmod ((rd_T53 ((rd_T30 x374004_1 x4_1).f1) x6_2).f1) (x374004_1.length : Int)))) (fun _ h_ => h_.1))) (Kd.R_typed (by (with_reducible repeat (first | apply Kd.R_alloc | apply Kd.R_drewN | apply Kd.R_drew));exact (Kd.R_mono (Kd.R_far (p:=⟨gb383,1,none⟩) (Kd.R_far (p:=⟨gb383,1,none⟩) (Kd.R_far (p:=⟨gb383,0,none⟩) (Kd.R_mono HO_5.out (fun k_ hk => (⟨hk,hk.2⟩ : _ ∧ k_ ≠ gb383))) (fun _ hk => hk.2) (.bool true)) (fun _ hk => hk.2) (.int .i64 ((rd_T53 ((rd_T30 x374004_1 x4_1).f1) x6_2).f1))) (fun _ hk => hk.2) (.int .i64 (Int.tmod ((rd_T53 ((rd_T30 x374004_1 x4_1).f1) x6_2).f1) (x374004_1.length : Int)))) (fun _ h_ => h_.1)))) (by decide) hg);have n2_:=Aside0.mk (Kd.S_after (ok:=(fun k_ => k_ ≠ gb383)) (by (with_reducible repeat (first | apply Kd.S_alloc | apply Kd.S_drewN | apply Kd.S_drew));exact Kd.S_mono (Kd.S_far (p:=⟨gb383,1,none⟩) (Kd.S_far (p:=⟨gb383,1,none⟩) (Kd.S_far (p:=⟨gb383,0,none⟩) (Kd.S_mono HO_374004.out (fun k_ hk => (⟨hk,hk.2⟩ : _ ∧ k_ ≠ gb383))) (fun _ hk => hk.2) (.bool true)) (fun _ hk => hk.2) (.int .i64 ((rd_T53 ((rd_T30 x374004_1 x4_1).f1) x6_2).f1))) (fun _ hk => hk.2) (.int .i64 (Int.tmod ((rd_T53 ((rd_T30 x374004_1 x4_1).f1) x6_2).f1) (x374004_1.length : Int)))) (fun _ hk => ⟨hk.1.2,hk.1.1⟩)) hg hat);have n3_:=Aside0.mk (blk_grown (g:=gb361) (o := .cells #[.slice none 0 0,.slice none 0 0,.int .i64 0,.int .i64 0,.slice none 0 0] 26 (0,0)) (by (with_reducible repeat (first | refine blk_drewN ?_ _ | refine blk_drew ?_ | refine blk_alloc ?_ _));refine blk_far ?_ NB361_383.out _;(with_reducible repeat (first | refine blk_drewN ?_ _ | refine blk_drew ?_ | refine blk_alloc ?_ _));refine blk_far ?_ NB361_383.out _;(with_reducible repeat (first | refine blk_drewN ?_ _ | refine blk_drew ?_ | refine blk_alloc ?_ _));refine blk_far ?_ NB361_383.out _;(with_reducible repeat (first | refine blk_drewN ?_ _ | refine blk_drew ?_ | refine blk_alloc ?_ _));exact BK361.out) hg (Kd.R_ne HO_5.out BK361.out (by decide)));have n4_:=Aside0.mk (blk_grown (g:=gb373) (o := .cells #[.slice Ao6 t362.length co6,.slice Ao20 y377.length co20,.int .i64 t368,.int .i64 t369,.slice (some ad380) x374004_1.length co15] 26 (0,0)) (by (with_reducible repeat (first | refine blk_drewN ?_ _ | refine blk_drew ?_ | refine blk_alloc ?_ _));refine blk_far ?_ NB373_383.out _;(with_reducible repeat (first | refine blk_drewN ?_ _ | refine blk_drew ?_ | refine blk_alloc ?_ _));refine blk_far ?_ NB373_383.out _;(with_reducible repeat (first | refine blk_drewN ?_ _ | refine blk_drew ?_ | refine blk_alloc ?_ _));refine blk_far ?_ NB373_383.out _;(with_reducible repeat (first | refine blk_drewN ?_ _ | refine blk_drew ?_ | refine blk_alloc ?_ _));exact BK373.out) hg (Kd.R_ne HO_5.out BK373.out (by decide)));have n5_:=Aside0.mk (Kd.R_after (ok:=(fun k_ => some k_ ≠ (.slice (some ad380) x374004_1.length co15 : Value).ownBlock ∧ k_ ≠ gb383)) (by (with_reducible repeat (first | apply Kd.R_alloc | apply Kd.R_drewN | apply Kd.R_drew));exact Kd.R_mono (Kd.R_far (p:=⟨gb383,1,none⟩) (Kd.R_far (p:=⟨gb383,1,none⟩) (Kd.R_far (p:=⟨gb383,0,none⟩) (Kd.R_mono HL380_1.out (fun k_ hk => (⟨hk,hk.2⟩ : _ ∧ k_ ≠ gb383))) (fun _ hk => hk.2) (.bool true)) (fun _ hk => hk.2) (.int .i64 ((rd_T53 ((rd_T30 x374004_1 x4_1).f1) x6_2).f1))) (fun _ hk => hk.2) (.int .i64 (Int.tmod ((rd_T53 ((rd_T30 x374004_1 x4_1).f1) x6_2).f1) (x374004_1.length : Int)))) (fun _ hk => ⟨⟨hk.1.1.2,hk.1.2⟩,hk.1.1.1⟩)) hg hat);have n6_:=Aside0.mk (Kd.R_after (ok:=(fun k_ => some k_ ≠ (.slice (some ad380) x374004_1.length co15 : Value).ownBlock ∧ k_ ≠ gb383)) (by (with_reducible repeat (first | apply Kd.R_alloc | apply Kd.R_drewN | apply Kd.R_drew));exact Kd.R_mono (Kd.R_far (p:=⟨gb383,1,none⟩) (Kd.R_far (p:=⟨gb383,1,none⟩) (Kd.R_far (p:=⟨gb383,0,none⟩) (Kd.R_mono HL381_1.out (fun k_ hk => (⟨hk,hk.2⟩ : _ ∧ k_ ≠ gb383))) (fun _ hk => hk.2) (.bool true)) (fun _ hk => hk.2) (.int .i64 ((rd_T53 ((rd_T30 x374004_1 x4_1).f1) x6_2).f1))) (fun _ hk => hk.2) (.int .i64 (Int.tmod ((rd_T53 ((rd_T30 x374004_1 x4_1).f1) x6_2).f1) (x374004_1.length : Int)))) (fun _ hk => ⟨⟨hk.1.1.2,hk.1.2⟩,hk.1.1.1⟩)) hg hat);have n7_:=Aside0.mk (blk_grown (g:=gb383) (o := .cells #[.bool true,.int .i64 (Int.tmod ((rd_T53 ((rd_T30 x374004_1 x4_1).f1) x6_2).f1) (x374004_1.length : Int))] 53 (0,0)) (by (with_reducible repeat (first | refine blk_drewN ?_ _ | refine blk_drew ?_ | refine blk_alloc ?_ _));refine blk_put (cs:=#[.bool true,.int .i64 ((rd_T53 ((rd_T30 x374004_1 x4_1).f1) x6_2).f1)]) ?_ 1 _ rfl;(with_reducible repeat (first | refine blk_drewN ?_ _ | refine blk_drew ?_ | refine blk_alloc ?_ _));refine blk_put (cs:=#[.bool true,.int .i64 0]) ?_ 1 _ rfl;(with_reducible repeat (first | refine blk_drewN ?_ _ | refine blk_drew ?_ | refine blk_alloc ?_ _));refine blk_put (cs:=#[.bool false,.int .i64 0]) ?_ 0 _ rfl;(with_reducible repeat (first | refine blk_drewN ?_ _ | refine blk_drew ?_ | refine blk_alloc ?_ _));exact BK383.out) hg (Kd.R_away HO_5.out (fun _ hk => hk.2)));have n8_:=Aside0.mk (hb);have n9_:=Aside0.mk (ho);clear HO_374000;clear HO_374001;clear HO_374004;clear BK361;clear BK373;clear HL380_1;clear HL381_1;clear BK383;clear HB;clear HO_5;have HO_374000:=n0_;have HO_374001:=n1_;have HO_374004:=n2_;have BK361:=n3_;have BK373:=n4_;have HL380_1:=n5_;have HL381_1:=n6_;have BK383:=n7_;have HB:=n8_;have HO386:=n9_;clear n0_ n1_ n2_ n3_ n4_ n5_ n6_ n7_ n8_ n9_;clear ho hb hg hat))
           go_roundg k2
           case measure => have:=HK1.out;have:=HK2.out;omega
           case rel => exact ⟨(y384),(wrap64 (x6_2 + 1)),(by first | rfl | (simp;done) | (simp [*];done)),H',⟨by have:=HK1.out;have:=HK2.out;omega⟩,⟨by (with_reducible repeat (first | apply Kd.R_alloc | apply Kd.R_drewN | apply Kd.R_drew));exact Kd.R_mono HO386.out (fun _ hk => trivial)⟩,⟨by (with_reducible repeat (first | apply Kd.R_alloc | apply Kd.R_drewN | apply Kd.R_drew));exact HO_374000.out⟩,⟨by (with_reducible repeat (first | apply Kd.R_alloc | apply Kd.R_drewN | apply Kd.R_drew));exact HO_374001.out⟩,⟨by (with_reducible repeat (first | apply Kd.S_alloc | apply Kd.S_drewN | apply Kd.S_drew));exact Kd.S_mono HO_374004.out (fun _ hk => hk.2)⟩,⟨by (with_reducible repeat (first | refine blk_drewN ?_ _ | refine blk_drew ?_ | refine blk_alloc ?_ _));exact BK361.out⟩,⟨by (with_reducible repeat (first | refine blk_drewN ?_ _ | refine blk_drew ?_ | refine blk_alloc ?_ _));exact BK373.out⟩,⟨by repeat (first | (with_reducible first | exact HB.out | apply below_alloc | apply pw_below_drewN | apply below_drew1 | refine below_set ?_ GE361.out | refine below_set ?_ GE373.out | refine below_set ?_ GE383.out) | exact HB.out)⟩⟩
         · replace c27:=Bool.eq_false_iff.mpr c27
           subst c27
           have H1 : (if x5_2.length < 8796093022208 then (regletlaw14_Clear.l1 k2 x4_1 (x5_2 ++ [(⟨false,(rd_T53 ((rd_T30 x374004_1 x4_1).f1) x6_2).f1⟩ : S53)]) (wrap64 (x6_2 + 1)) t362 y377 t368 t369 x374004_1) else (none)) = some (r1,r2,r3,r4,r5) := by rw [if_neg (show ¬ (false = true) by decide)] at H;exact H
           clear H
           have H:=H1
           clear H1
           by_cases c38 : x5_2.length < 8796093022208
           rotate_left
           · rw [if_neg c38] at H
             exact absurd H (by simp)
           rw [if_pos c38] at H
           have LMc38:=Aside0.mk c38
           clear c38
           obtain ⟨y387,hy387⟩ : ∃ y_ : List (S53),y_ = (x5_2 ++ [(⟨false,(rd_T53 ((rd_T30 x374004_1 x4_1).f1) x6_2).f1⟩ : S53)]) := ⟨_,rfl⟩
           replace H : (regletlaw14_Clear.l1 k2 x4_1 y387 (wrap64 (x6_2 + 1)) t362 y377 t368 t369 x374004_1) = some (r1,r2,r3,r4,r5) := by first | (rw [hy387];with_reducible exact H) | (have H2_:=(Option.bind_some _ _).symm.trans H;rw [hy387];with_reducible exact H2_) | (have H2_:=(Option.bind_some _ _).symm.trans H;with_reducible exact H2_) | with_reducible exact H | (rw [hy387];exact H) | exact H
           have Ny387:=Aside0.mk hy387
           clear hy387
           have H' := Aside0.mk H
           clear H
           have hnb39:=NB373_361.out
           have hnc39:=NB361_373.out
           have hcz40_0 : wr.cell? ⟨gb373,0,none⟩ = some (.slice Ao6 t362.length co6) := (blk_cell BK373.out 0).trans rfl
           have hcz40_1 : wr.cell? ⟨gb373,1,none⟩ = some (.slice Ao20 y377.length co20) := (blk_cell BK373.out 1).trans rfl
           have hcz40_2 : wr.cell? ⟨gb373,2,none⟩ = some (.int .i64 t368) := (blk_cell BK373.out 2).trans rfl
           have hcz40_3 : wr.cell? ⟨gb373,3,none⟩ = some (.int .i64 t369) := (blk_cell BK373.out 3).trans rfl
           have hcz40_4 : wr.cell? ⟨gb373,4,none⟩ = some (.slice Ao15 x374004_1.length co15) := (blk_cell BK373.out 4).trans rfl
           have hfz40_0:=blk_frozen BK373.out 0
           have hfz40_1:=blk_frozen BK373.out 1
           have hfz40_2:=blk_frozen BK373.out 2
           have hfz40_3:=blk_frozen BK373.out 3
           have hfz40_4:=blk_frozen BK373.out 4
           have p380 : 0 ≤ (x4_1 : Int) := of_decide_eq_true (by first | (with_reducible assumption) | assumption)
           have q380 : x4_1 < (x374004_1.length : Int) := of_decide_eq_true (by first | (with_reducible assumption) | assumption)
           obtain ⟨ad380,A380_1,c380_1,e380,hx380_0,hx380_1,hl380_1,hi380_1⟩ := at_T30 (Kd.S_reads' HO_374004.out).2.2 x4_1 p380 q380
           cases e380
           obtain ⟨ce380,hce380,hMe380,hcc380⟩ := Kd.S_get HO_374004.out z30 x4_1 p380 (by first | exact q380 | exact of_decide_eq_true (by first | (with_reducible assumption) | assumption) | (have e_:=(Kd.S_reads' HO_374004.out).1;omega))
           obtain ⟨ve380_1,rfl,ge380_1⟩ := k30_openM hMe380
           have hv380_1:=hcc380 1 _ rfl
           rw [add_field _ _ 1 (by omega)] at hv380_1
           replace hv380_1:=Option.some.inj (hv380_1.symm.trans hx380_1)
           rw [hv380_1] at ge380_1
           have HL380_1:=Aside0.mk (show Kd.R k53 53 _ _ _ _ ((rd_T30 x374004_1 x4_1).f1) from ge380_1)
           clear hv380_1 ge380_1
           have HX380_1:=Aside0.mk hx380_1
           clear hcc380 hce380
           have HR380_1:=Aside0.mk hi380_1
           have HC380_1:=Aside0.mk hl380_1
           clear hi380_1 hl380_1
           replace p380:=eq_true p380
           replace q380:=eq_true q380
           have p381 : 0 ≤ (x4_1 : Int) := of_decide_eq_true (by first | (with_reducible assumption) | assumption)
           have q381 : x4_1 < (x374004_1.length : Int) := of_decide_eq_true (by first | (with_reducible assumption) | assumption)
           obtain ⟨ad381,A381_1,c381_1,e381,hx381_0,hx381_1,hl381_1,hi381_1⟩ := at_T30 (Kd.S_reads' HO_374004.out).2.2 x4_1 p381 q381
           obtain rfl : ad380 = ad381:=(by injection e381)
           obtain ⟨ce381,hce381,hMe381,hcc381⟩ := Kd.S_get HO_374004.out z30 x4_1 p381 (by first | exact q381 | exact of_decide_eq_true (by first | (with_reducible assumption) | assumption) | (have e_:=(Kd.S_reads' HO_374004.out).1;omega))
           obtain ⟨ve381_1,rfl,ge381_1⟩ := k30_openM hMe381
           have hv381_1:=hcc381 1 _ rfl
           rw [add_field _ _ 1 (by omega)] at hv381_1
           replace hv381_1:=Option.some.inj (hv381_1.symm.trans hx381_1)
           rw [hv381_1] at ge381_1
           have HL381_1:=Aside0.mk (show Kd.R k53 53 _ _ _ _ ((rd_T30 x374004_1 x4_1).f1) from ge381_1)
           clear hv381_1 ge381_1
           have HX381_1:=Aside0.mk hx381_1
           clear hcc381 hce381
           have HR381_1:=Aside0.mk hi381_1
           have HC381_1:=Aside0.mk hl381_1
           clear hi381_1 hl381_1
           replace p381:=eq_true p381
           replace q381:=eq_true q381
           have ea_:=Option.some.inj (hx380_1.symm.trans hx381_1)
           injection ea_ with ea_ en_ ec_
           subst ea_
           subst ec_
           clear en_
           have p382 : 0 ≤ (x6_2 : Int) := of_decide_eq_true (by first | (with_reducible assumption) | assumption)
           have q382 : x6_2 < (((rd_T30 x374004_1 x4_1).f1).length : Int) := of_decide_eq_true (by first | (with_reducible assumption) | assumption)
           obtain ⟨ad382,e382,hx382_0,hx382_1⟩ := at_T53 (by repeat (first | (with_reducible exact HR381_1.out) | (with_reducible refine Kd.C_alloc ?_ _) | (with_reducible refine Kd.C_drewN ?_ _) | (with_reducible refine Kd.C_drew ?_) | exact HR381_1.out)) x6_2 p382 q382
           (try rw [← Nbq26.out] at hx382_0)
           cases e382
           replace p382:=eq_true p382
           replace q382:=eq_true q382
           go_wp2_with (first | ((with_reducible refine gate_dst (N:=7) rfl ?_);refine box_event ?hg (N:=7) ?hd (cs:=#[.bool false,.int .i64 0]) (t:=53) ?hr ?_;(case hd => rfl);(case hg => rfl);(case hr => first | (go_simp;done) | (go_simp;rfl));intro gb383 hg w41 hbox hb;have n0_:=Aside0.mk (Kd.R_below (Kd.R_elderB (by (with_reducible repeat (first | apply Kd.R_alloc | apply Kd.R_drewN | apply Kd.R_drew));exact HO_5.out) gb383 (Nat.le_of_eq hg.symm)) hb);have n1_:=Aside0.mk (Kd.R_below (by (with_reducible repeat (first | apply Kd.R_alloc | apply Kd.R_drewN | apply Kd.R_drew));exact HO_374000.out) hb);have n2_:=Aside0.mk (Kd.R_below (by (with_reducible repeat (first | apply Kd.R_alloc | apply Kd.R_drewN | apply Kd.R_drew));exact HO_374001.out) hb);have n3_:=Aside0.mk (Kd.S_below (Kd.S_elderB (by (with_reducible repeat (first | apply Kd.S_alloc | apply Kd.S_drewN | apply Kd.S_drew));exact HO_374004.out) gb383 (Nat.le_of_eq hg.symm)) hb);have n4_:=Aside0.mk (Kd.R_below (Kd.R_elderB (by (with_reducible repeat (first | apply Kd.R_alloc | apply Kd.R_drewN | apply Kd.R_drew));exact HL380_1.out) gb383 (Nat.le_of_eq hg.symm)) hb);have n5_:=Aside0.mk (Kd.R_below (Kd.R_elderB (by (with_reducible repeat (first | apply Kd.R_alloc | apply Kd.R_drewN | apply Kd.R_drew));exact HL381_1.out) gb383 (Nat.le_of_eq hg.symm)) hb);have n6_:=Aside0.mk (blk_below (g:=gb361) (o := .cells #[.slice none 0 0,.slice none 0 0,.int .i64 0,.int .i64 0,.slice none 0 0] 26 (0,0)) (by (with_reducible repeat (first | refine blk_drewN ?_ _ | refine blk_drew ?_ | refine blk_alloc ?_ _));exact BK361.out) hb);have n7_:=Aside0.mk (blk_below (g:=gb373) (o := .cells #[.slice Ao6 t362.length co6,.slice Ao20 y377.length co20,.int .i64 t368,.int .i64 t369,.slice (some ad380) x374004_1.length co15] 26 (0,0)) (by (with_reducible repeat (first | refine blk_drewN ?_ _ | refine blk_drew ?_ | refine blk_alloc ?_ _));exact BK373.out) hb);have n8_:=Aside0.mk (Kd.C_below (by repeat (first | (with_reducible exact HR380_1.out) | (with_reducible refine Kd.C_alloc ?_ _) | (with_reducible refine Kd.C_drewN ?_ _) | (with_reducible refine Kd.C_drew ?_) | exact HR380_1.out)) hb);have n9_:=Aside0.mk (pw_cell_below hb HX380_1.out);have n10_:=Aside0.mk (Kd.C_below (by repeat (first | (with_reducible exact HR381_1.out) | (with_reducible refine Kd.C_alloc ?_ _) | (with_reducible refine Kd.C_drewN ?_ _) | (with_reducible refine Kd.C_drew ?_) | exact HR381_1.out)) hb);have n11_:=Aside0.mk (pw_cell_below hb HX381_1.out);have n12_:=Aside0.mk (below_step (by repeat (first | (with_reducible first | exact HB.out | apply below_alloc | apply pw_below_drewN | apply below_drew1 | refine below_set ?_ GE361.out | refine below_set ?_ GE373.out) | exact HB.out)) hb);have n13_:=Aside0.mk (hbox);have n14_:=Aside0.mk ((by rw [hg];exact (below_size (by repeat (first | (with_reducible first | exact HB.out | apply below_alloc | apply pw_below_drewN | apply below_drew1 | refine below_set ?_ GE361.out | refine below_set ?_ GE373.out) | exact HB.out))) : w.heap.size ≤ gb383));have n15_:=Aside0.mk ((by rw [hg];exact (below_size (by repeat (first | (with_reducible first | exact HB.out | apply below_alloc | apply pw_below_drewN | apply below_drew1 | refine below_set ?_ GE361.out | refine below_set ?_ GE373.out) | exact HB.out))) : w.heap.size ≤ gb383));have n16_:=Aside0.mk ((by rw [hg];exact Nat.ne_of_lt (blk_lt (g:=gb361) (o := .cells #[.slice none 0 0,.slice none 0 0,.int .i64 0,.int .i64 0,.slice none 0 0] 26 (0,0)) (by (with_reducible repeat (first | refine blk_drewN ?_ _ | refine blk_drew ?_ | refine blk_alloc ?_ _));exact BK361.out)) : gb361 ≠ gb383));have n17_:=Aside0.mk ((by rw [hg];exact Nat.ne_of_gt (blk_lt (g:=gb361) (o := .cells #[.slice none 0 0,.slice none 0 0,.int .i64 0,.int .i64 0,.slice none 0 0] 26 (0,0)) (by (with_reducible repeat (first | refine blk_drewN ?_ _ | refine blk_drew ?_ | refine blk_alloc ?_ _));exact BK361.out)) : gb383 ≠ gb361));have n18_:=Aside0.mk ((by rw [hg];exact Nat.ne_of_lt (blk_lt (g:=gb373) (o := .cells #[.slice Ao6 t362.length co6,.slice Ao20 y377.length co20,.int .i64 t368,.int .i64 t369,.slice (some ad380) x374004_1.length co15] 26 (0,0)) (by (with_reducible repeat (first | refine blk_drewN ?_ _ | refine blk_drew ?_ | refine blk_alloc ?_ _));exact BK373.out)) : gb373 ≠ gb383));have n19_:=Aside0.mk ((by rw [hg];exact Nat.ne_of_gt (blk_lt (g:=gb373) (o := .cells #[.slice Ao6 t362.length co6,.slice Ao20 y377.length co20,.int .i64 t368,.int .i64 t369,.slice (some ad380) x374004_1.length co15] 26 (0,0)) (by (with_reducible repeat (first | refine blk_drewN ?_ _ | refine blk_drew ?_ | refine blk_alloc ?_ _));exact BK373.out)) : gb383 ≠ gb373));clear HO_5;clear HO_374000;clear HO_374001;clear HO_374004;clear HL380_1;clear HL381_1;clear BK361;clear BK373;clear HR380_1;clear HX380_1;clear HR381_1;clear HX381_1;clear HB;have HO_5:=n0_;have HO_374000:=n1_;have HO_374001:=n2_;have HO_374004:=n3_;have HL380_1:=n4_;have HL381_1:=n5_;have BK361:=n6_;have BK373:=n7_;have HR380_1:=n8_;have HX380_1:=n9_;have HR381_1:=n10_;have HX381_1:=n11_;have HB:=n12_;have BK383:=n13_;have GW383:=n14_;have GE383:=n15_;have NB361_383:=n16_;have NB383_361:=n17_;have NB373_383:=n18_;have NB383_373:=n19_;clear n0_ n1_ n2_ n3_ n4_ n5_ n6_ n7_ n8_ n9_ n10_ n11_ n12_ n13_ n14_ n15_ n16_ n17_ n18_ n19_;clear hb hbox hg;have hnb42:=NB383_361.out;have hnc42:=NB361_383.out;have hnb43:=NB383_373.out;have hnc43:=NB373_383.out;have hcz44_0 : w41.cell? ⟨gb383,0,none⟩ = some (.bool false) := (blk_cell BK383.out 0).trans rfl;have hcz44_1 : w41.cell? ⟨gb383,1,none⟩ = some (.int .i64 0) := (blk_cell BK383.out 1).trans rfl;have hdz44 : ∀ (v0 v1 y : Value),(((w41.setCell ⟨gb383,0,none⟩ v0).setCell ⟨gb383,1,none⟩ v1).setCell ⟨gb383,1,none⟩ y).cell? ⟨gb383,1,none⟩ = some y:=fun v0 v1 y => World.cell?_setCell_same _ _ _ (World.cell?_setCell_same _ _ _ ((World.cell?_setCell_other _ _ _ _ (by simp)).trans hcz44_1));have hfz44_0:=blk_frozen BK383.out 0;have hfz44_1:=blk_frozen BK383.out 1) | ((with_reducible refine gate_builtin (b := .append) (xs:=#[.tmp 59,.tmp 61]) rfl ?_);at_builtin;refine Kd.R_append k53 (w0:=w) w.heap.size rfl (.tmp 59) (.tmp 61) 28 53 (.agg #[(.bool false),(.int .i64 0)]) 16 rfl Try.underlying28 info53 rfl (by decide) (by omega) u5 x5_2 (⟨false,(rd_T53 ((rd_T30 x374004_1 x4_1).f1) x6_2).f1⟩ : S53) [.bool false,.int .i64 ((rd_T53 ((rd_T30 x374004_1 x4_1).f1) x6_2).f1)] (fun k_ => k_ ≠ gb383) (fun _ => False) rfl (by first | (go_simp;done) | (go_simp;rfl)) ?aP (fun _ hk => hk.elim) ?aF ?aO ?aB ?aS ?aL ?_;(case aP => exact k53_mkM _ _ _ (⟨false,(rd_T53 ((rd_T30 x374004_1 x4_1).f1) x6_2).f1⟩ : S53));(case aB => exact (by repeat (first | (with_reducible first | exact HB.out | apply below_alloc | apply pw_below_drewN | apply below_drew1 | refine below_set ?_ GE361.out | refine below_set ?_ GE373.out | refine below_set ?_ GE383.out) | exact HB.out)));(case aF => exact (fun k_ hk => Kd.freshB (g:=gb383) (o := .cells #[.bool false,.int .i64 ((rd_T53 ((rd_T30 x374004_1 x4_1).f1) x6_2).f1)] 53 (0,0)) (by (with_reducible repeat (first | refine blk_drewN ?_ _ | refine blk_drew ?_ | refine blk_alloc ?_ _));refine blk_put (cs:=#[.bool false,.int .i64 0]) ?_ 1 _ rfl;(with_reducible repeat (first | refine blk_drewN ?_ _ | refine blk_drew ?_ | refine blk_alloc ?_ _));refine blk_put (cs:=#[.bool false,.int .i64 0]) ?_ 0 _ rfl;(with_reducible repeat (first | refine blk_drewN ?_ _ | refine blk_drew ?_ | refine blk_alloc ?_ _));exact BK383.out) k_ hk));(case aO => exact (by (with_reducible repeat (first | apply Kd.R_alloc | apply Kd.R_drewN | apply Kd.R_drew));exact Kd.R_mono (Kd.R_far (p:=⟨gb383,1,none⟩) (Kd.R_far (p:=⟨gb383,0,none⟩) (Kd.R_mono HO_5.out (fun k_ hk => (⟨hk,hk.2⟩ : _ ∧ k_ ≠ gb383))) (fun _ hk => hk.2) (.bool false)) (fun _ hk => hk.2) (.int .i64 ((rd_T53 ((rd_T30 x374004_1 x4_1).f1) x6_2).f1))) (fun _ hk => hk.1.2)));(case aS => exact (below_size (by repeat (first | (with_reducible first | exact HB.out | apply below_alloc | apply pw_below_drewN | apply below_drew1 | refine below_set ?_ GE361.out | refine below_set ?_ GE373.out | refine below_set ?_ GE383.out) | exact HB.out))));(case aL => have:=LMc38.out;omega);intro v388 w45 ho hb hg hat;rw [← Ny387.out] at ho;have n0_:=Aside0.mk (Kd.R_over' (by (with_reducible repeat (first | apply Kd.R_alloc | apply Kd.R_drewN | apply Kd.R_drew));exact (Kd.R_mono (Kd.R_far (p:=⟨gb383,1,none⟩) (Kd.R_far (p:=⟨gb383,0,none⟩) (Kd.R_types HO_374000.out BK383.out (by decide)) (fun _ hk => hk.2) (.bool false)) (fun _ hk => hk.2) (.int .i64 ((rd_T53 ((rd_T30 x374004_1 x4_1).f1) x6_2).f1))) (fun _ h_ => h_.1))) (Kd.R_typed (by (with_reducible repeat (first | apply Kd.R_alloc | apply Kd.R_drewN | apply Kd.R_drew));exact (Kd.R_mono (Kd.R_far (p:=⟨gb383,1,none⟩) (Kd.R_far (p:=⟨gb383,0,none⟩) (Kd.R_mono HO_5.out (fun k_ hk => (⟨hk,hk.2⟩ : _ ∧ k_ ≠ gb383))) (fun _ hk => hk.2) (.bool false)) (fun _ hk => hk.2) (.int .i64 ((rd_T53 ((rd_T30 x374004_1 x4_1).f1) x6_2).f1))) (fun _ h_ => h_.1)))) (by decide) hg);have n1_:=Aside0.mk (Kd.R_over' (by (with_reducible repeat (first | apply Kd.R_alloc | apply Kd.R_drewN | apply Kd.R_drew));exact (Kd.R_mono (Kd.R_far (p:=⟨gb383,1,none⟩) (Kd.R_far (p:=⟨gb383,0,none⟩) (Kd.R_types HO_374001.out BK383.out (by decide)) (fun _ hk => hk.2) (.bool false)) (fun _ hk => hk.2) (.int .i64 ((rd_T53 ((rd_T30 x374004_1 x4_1).f1) x6_2).f1))) (fun _ h_ => h_.1))) (Kd.R_typed (by (with_reducible repeat (first | apply Kd.R_alloc | apply Kd.R_drewN | apply Kd.R_drew));exact (Kd.R_mono (Kd.R_far (p:=⟨gb383,1,none⟩) (Kd.R_far (p:=⟨gb383,0,none⟩) (Kd.R_mono HO_5.out (fun k_ hk => (⟨hk,hk.2⟩ : _ ∧ k_ ≠ gb383))) (fun _ hk => hk.2) (.bool false)) (fun _ hk => hk.2) (.int .i64 ((rd_T53 ((rd_T30 x374004_1 x4_1).f1) x6_2).f1))) (fun _ h_ => h_.1)))) (by decide) hg);have n2_:=Aside0.mk (Kd.S_after (ok:=(fun k_ => k_ ≠ gb383)) (by (with_reducible repeat (first | apply Kd.S_alloc | apply Kd.S_drewN | apply Kd.S_drew));exact Kd.S_mono (Kd.S_far (p:=⟨gb383,1,none⟩) (Kd.S_far (p:=⟨gb383,0,none⟩) (Kd.S_mono HO_374004.out (fun k_ hk => (⟨hk,hk.2⟩ : _ ∧ k_ ≠ gb383))) (fun _ hk => hk.2) (.bool false)) (fun _ hk => hk.2) (.int .i64 ((rd_T53 ((rd_T30 x374004_1 x4_1).f1) x6_2).f1))) (fun _ hk => ⟨hk.1.2,hk.1.1⟩)) hg hat);have n3_:=Aside0.mk (blk_grown (g:=gb361) (o := .cells #[.slice none 0 0,.slice none 0 0,.int .i64 0,.int .i64 0,.slice none 0 0] 26 (0,0)) (by (with_reducible repeat (first | refine blk_drewN ?_ _ | refine blk_drew ?_ | refine blk_alloc ?_ _));refine blk_far ?_ NB361_383.out _;(with_reducible repeat (first | refine blk_drewN ?_ _ | refine blk_drew ?_ | refine blk_alloc ?_ _));refine blk_far ?_ NB361_383.out _;(with_reducible repeat (first | refine blk_drewN ?_ _ | refine blk_drew ?_ | refine blk_alloc ?_ _));exact BK361.out) hg (Kd.R_ne HO_5.out BK361.out (by decide)));have n4_:=Aside0.mk (blk_grown (g:=gb373) (o := .cells #[.slice Ao6 t362.length co6,.slice Ao20 y377.length co20,.int .i64 t368,.int .i64 t369,.slice (some ad380) x374004_1.length co15] 26 (0,0)) (by (with_reducible repeat (first | refine blk_drewN ?_ _ | refine blk_drew ?_ | refine blk_alloc ?_ _));refine blk_far ?_ NB373_383.out _;(with_reducible repeat (first | refine blk_drewN ?_ _ | refine blk_drew ?_ | refine blk_alloc ?_ _));refine blk_far ?_ NB373_383.out _;(with_reducible repeat (first | refine blk_drewN ?_ _ | refine blk_drew ?_ | refine blk_alloc ?_ _));exact BK373.out) hg (Kd.R_ne HO_5.out BK373.out (by decide)));have n5_:=Aside0.mk (Kd.R_after (ok:=(fun k_ => some k_ ≠ (.slice (some ad380) x374004_1.length co15 : Value).ownBlock ∧ k_ ≠ gb383)) (by (with_reducible repeat (first | apply Kd.R_alloc | apply Kd.R_drewN | apply Kd.R_drew));exact Kd.R_mono (Kd.R_far (p:=⟨gb383,1,none⟩) (Kd.R_far (p:=⟨gb383,0,none⟩) (Kd.R_mono HL380_1.out (fun k_ hk => (⟨hk,hk.2⟩ : _ ∧ k_ ≠ gb383))) (fun _ hk => hk.2) (.bool false)) (fun _ hk => hk.2) (.int .i64 ((rd_T53 ((rd_T30 x374004_1 x4_1).f1) x6_2).f1))) (fun _ hk => ⟨⟨hk.1.1.2,hk.1.2⟩,hk.1.1.1⟩)) hg hat);have n6_:=Aside0.mk (Kd.R_after (ok:=(fun k_ => some k_ ≠ (.slice (some ad380) x374004_1.length co15 : Value).ownBlock ∧ k_ ≠ gb383)) (by (with_reducible repeat (first | apply Kd.R_alloc | apply Kd.R_drewN | apply Kd.R_drew));exact Kd.R_mono (Kd.R_far (p:=⟨gb383,1,none⟩) (Kd.R_far (p:=⟨gb383,0,none⟩) (Kd.R_mono HL381_1.out (fun k_ hk => (⟨hk,hk.2⟩ : _ ∧ k_ ≠ gb383))) (fun _ hk => hk.2) (.bool false)) (fun _ hk => hk.2) (.int .i64 ((rd_T53 ((rd_T30 x374004_1 x4_1).f1) x6_2).f1))) (fun _ hk => ⟨⟨hk.1.1.2,hk.1.2⟩,hk.1.1.1⟩)) hg hat);have n7_:=Aside0.mk (blk_grown (g:=gb383) (o := .cells #[.bool false,.int .i64 ((rd_T53 ((rd_T30 x374004_1 x4_1).f1) x6_2).f1)] 53 (0,0)) (by (with_reducible repeat (first | refine blk_drewN ?_ _ | refine blk_drew ?_ | refine blk_alloc ?_ _));refine blk_put (cs:=#[.bool false,.int .i64 0]) ?_ 1 _ rfl;(with_reducible repeat (first | refine blk_drewN ?_ _ | refine blk_drew ?_ | refine blk_alloc ?_ _));refine blk_put (cs:=#[.bool false,.int .i64 0]) ?_ 0 _ rfl;(with_reducible repeat (first | refine blk_drewN ?_ _ | refine blk_drew ?_ | refine blk_alloc ?_ _));exact BK383.out) hg (Kd.R_away HO_5.out (fun _ hk => hk.2)));have n8_:=Aside0.mk (hb);have n9_:=Aside0.mk (ho);clear HO_374000;clear HO_374001;clear HO_374004;clear BK361;clear BK373;clear HL380_1;clear HL381_1;clear BK383;clear HB;clear HO_5;have HO_374000:=n0_;have HO_374001:=n1_;have HO_374004:=n2_;have BK361:=n3_;have BK373:=n4_;have HL380_1:=n5_;have HL381_1:=n6_;have BK383:=n7_;have HB:=n8_;have HO389:=n9_;clear n0_ n1_ n2_ n3_ n4_ n5_ n6_ n7_ n8_ n9_;clear ho hb hg hat))
           go_roundg k2
           case measure => have:=HK1.out;have:=HK2.out;omega
           case rel => exact ⟨(y387),(wrap64 (x6_2 + 1)),(by first | rfl | (simp;done) | (simp [*];done)),H',⟨by have:=HK1.out;have:=HK2.out;omega⟩,⟨by (with_reducible repeat (first | apply Kd.R_alloc | apply Kd.R_drewN | apply Kd.R_drew));exact Kd.R_mono HO389.out (fun _ hk => trivial)⟩,⟨by (with_reducible repeat (first | apply Kd.R_alloc | apply Kd.R_drewN | apply Kd.R_drew));exact HO_374000.out⟩,⟨by (with_reducible repeat (first | apply Kd.R_alloc | apply Kd.R_drewN | apply Kd.R_drew));exact HO_374001.out⟩,⟨by (with_reducible repeat (first | apply Kd.S_alloc | apply Kd.S_drewN | apply Kd.S_drew));exact Kd.S_mono HO_374004.out (fun _ hk => hk.2)⟩,⟨by (with_reducible repeat (first | refine blk_drewN ?_ _ | refine blk_drew ?_ | refine blk_alloc ?_ _));exact BK361.out⟩,⟨by (with_reducible repeat (first | refine blk_drewN ?_ _ | refine blk_drew ?_ | refine blk_alloc ?_ _));exact BK373.out⟩,⟨by repeat (first | (with_reducible first | exact HB.out | apply below_alloc | apply pw_below_drewN | apply below_drew1 | refine below_set ?_ GE361.out | refine below_set ?_ GE373.out | refine below_set ?_ GE383.out) | exact HB.out)⟩⟩
       · rw [if_neg c24] at H
         have c24b0 : decide (x6_2 < (((rd_T30 x374004_1 x4_1).f1).length : Int)) = false:=decide_eq_false c24
         clear c24
         by_cases c46 : (x5_2.length : Int) > 0
         · rw [if_pos c46] at H
           have c46b0 : decide (0 < (x5_2.length : Int)) = true:=decide_eq_true c46
           have c46b1 : decide (0 < x5_2.length) = true:=decide_eq_true (by omega)
           clear c46
           by_cases c47 : 0 < (x5_2.length : Int)
           rotate_left
           · rw [if_neg c47] at H
             exact absurd H (by simp)
           rw [if_pos c47] at H
           have c47b0 : decide (0 < (x5_2.length : Int)) = true:=decide_eq_true c47
           have c47b1 : decide (0 < x5_2.length) = true:=decide_eq_true (by omega)
           clear c47
           obtain ⟨y390,hy390⟩ : ∃ y_ : List (S53),y_ = (x5_2.set (0 : Int).toNat (⟨true,x4_1⟩ : S53)) := ⟨_,rfl⟩
           replace H : (regletlaw14_Clear.l0 k2 (wrap64 (x4_1 + 1)) t362 y377 t368 t369 (x374004_1.set (x4_1 : Int).toNat (⟨(rd_T30 x374004_1 x4_1).f0,y390⟩ : S30))) = some (r1,r2,r3,r4,r5) := by first | (rw [hy390];with_reducible exact H) | (have H2_:=(Option.bind_some _ _).symm.trans H;rw [hy390];with_reducible exact H2_) | (have H2_:=(Option.bind_some _ _).symm.trans H;with_reducible exact H2_) | with_reducible exact H | (rw [hy390];exact H) | exact H
           have Ny390:=Aside0.mk hy390
           clear hy390
           obtain ⟨y391,hy391⟩ : ∃ y_ : List (S30),y_ = (x374004_1.set (x4_1 : Int).toNat (⟨(rd_T30 x374004_1 x4_1).f0,y390⟩ : S30)) := ⟨_,rfl⟩
           replace H : (regletlaw14_Clear.l0 k2 (wrap64 (x4_1 + 1)) t362 y377 t368 t369 y391) = some (r1,r2,r3,r4,r5) := by first | (rw [hy391];with_reducible exact H) | (have H2_:=(Option.bind_some _ _).symm.trans H;rw [hy391];with_reducible exact H2_) | (have H2_:=(Option.bind_some _ _).symm.trans H;with_reducible exact H2_) | with_reducible exact H | (rw [hy391];exact H) | exact H
           have Ny391:=Aside0.mk hy391
           clear hy391
           have H' := Aside0.mk H
           clear H
           have hnb50:=NB373_361.out
           have hnc50:=NB361_373.out
           have hcz51_0 : wr.cell? ⟨gb373,0,none⟩ = some (.slice Ao6 t362.length co6) := (blk_cell BK373.out 0).trans rfl
           have hcz51_1 : wr.cell? ⟨gb373,1,none⟩ = some (.slice Ao20 y377.length co20) := (blk_cell BK373.out 1).trans rfl
           have hcz51_2 : wr.cell? ⟨gb373,2,none⟩ = some (.int .i64 t368) := (blk_cell BK373.out 2).trans rfl
           have hcz51_3 : wr.cell? ⟨gb373,3,none⟩ = some (.int .i64 t369) := (blk_cell BK373.out 3).trans rfl
           have hcz51_4 : wr.cell? ⟨gb373,4,none⟩ = some (.slice Ao15 x374004_1.length co15) := (blk_cell BK373.out 4).trans rfl
           have hfz51_0:=blk_frozen BK373.out 0
           have hfz51_1:=blk_frozen BK373.out 1
           have hfz51_2:=blk_frozen BK373.out 2
           have hfz51_3:=blk_frozen BK373.out 3
           have hfz51_4:=blk_frozen BK373.out 4
           have p380 : 0 ≤ (x4_1 : Int) := of_decide_eq_true (by first | (with_reducible assumption) | assumption)
           have q380 : x4_1 < (x374004_1.length : Int) := of_decide_eq_true (by first | (with_reducible assumption) | assumption)
           obtain ⟨ad380,A380_1,c380_1,e380,hx380_0,hx380_1,hl380_1,hi380_1⟩ := at_T30 (Kd.S_reads' HO_374004.out).2.2 x4_1 p380 q380
           cases e380
           obtain ⟨ce380,hce380,hMe380,hcc380⟩ := Kd.S_get HO_374004.out z30 x4_1 p380 (by first | exact q380 | exact of_decide_eq_true (by first | (with_reducible assumption) | assumption) | (have e_:=(Kd.S_reads' HO_374004.out).1;omega))
           obtain ⟨ve380_1,rfl,ge380_1⟩ := k30_openM hMe380
           have hv380_1:=hcc380 1 _ rfl
           rw [add_field _ _ 1 (by omega)] at hv380_1
           replace hv380_1:=Option.some.inj (hv380_1.symm.trans hx380_1)
           rw [hv380_1] at ge380_1
           have HL380_1:=Aside0.mk (show Kd.R k53 53 _ _ _ _ ((rd_T30 x374004_1 x4_1).f1) from ge380_1)
           clear hv380_1 ge380_1
           have HX380_1:=Aside0.mk hx380_1
           clear hcc380 hce380
           have HR380_1:=Aside0.mk hi380_1
           have HC380_1:=Aside0.mk hl380_1
           clear hi380_1 hl380_1
           replace p380:=eq_true p380
           replace q380:=eq_true q380
           obtain ⟨Ao52,co52,eo52⟩ := Kd.R_slice HO_5.out
           subst eo52
           have p48 : 0 ≤ (0 : Int) := (by omega)
           have q48 : (0 : Int) < ((x5_2.length : Int) : Int) := of_decide_eq_true (by first | (with_reducible assumption) | assumption)
           have qi48 : (0 < x5_2.length) = True:=eq_true (by omega)
           obtain ⟨go48,co48,eo48,gb48,gl48,cl48,HG48⟩ := Kd.R_form HO_5.out (by omega)
           (first | cases eo48 | (injection eo48 with ea_ en_ ec_;(first | subst ea_ | (injection ea_ with ea_;subst ea_));subst ec_;clear en_))
           have GB48:=Aside0.mk gb48
           have GG48:=Aside0.mk HG48
           clear gb48 gl48 HG48
           obtain ⟨ce48,hcl48,hM48,hcc48,hfr48⟩ := Kd.R_elem HO_5.out z53 (0 : Int) p48 q48
           obtain rfl:=k53_openM hM48
           have hx48_0 : wr.cell? ⟨go48,(0 : Int).toNat * 2,none⟩ = some (.bool ((rd_T53 x5_2 0).f0)) := hcc48 0 _ rfl
           have hx48_1 : wr.cell? ⟨go48,(0 : Int).toNat * 2 + 1,none⟩ = some (.int .i64 ((rd_T53 x5_2 0).f1)) := hcc48 1 _ rfl
           have hf48_0 : wr.frozen? ⟨go48,(0 : Int).toNat * 2,none⟩ = false:=hfr48 0
           have hf48_1 : wr.frozen? ⟨go48,(0 : Int).toNat * 2 + 1,none⟩ = false:=hfr48 1
           clear hcl48 hcc48 hfr48;(try clear hM48)
           (try rw [show ((0 : Int)).toNat = 0 from rfl] at hx48_0)
           (try simp only [Nat.reduceMul,Nat.zero_mul,Nat.zero_add,Nat.reduceAdd] at hx48_0)
           (try rw [show ((0 : Int)).toNat = 0 from rfl] at hf48_0)
           (try simp only [Nat.reduceMul,Nat.zero_mul,Nat.zero_add,Nat.reduceAdd] at hf48_0)
           (try rw [show ((0 : Int)).toNat = 0 from rfl] at hx48_1)
           (try simp only [Nat.reduceMul,Nat.zero_mul,Nat.zero_add,Nat.reduceAdd] at hx48_1)
           (try rw [show ((0 : Int)).toNat = 0 from rfl] at hf48_1)
           (try simp only [Nat.reduceMul,Nat.zero_mul,Nat.zero_add,Nat.reduceAdd] at hf48_1)
           replace p48:=eq_true p48
           replace q48:=eq_true q48
           have HX53:=Aside0.mk (show Kd.R k53 53 wr w.heap.size (fun _ => True) (.slice (some ⟨go48,0,none⟩) x5_2.length co52) x5_2 from (by (with_reducible repeat (first | apply Kd.R_alloc | apply Kd.R_drewN | apply Kd.R_drew));exact HO_5.out))
           obtain ⟨ce53,hcl53,hM53,hcc53,hfr53⟩ := Kd.R_elem HX53.out z53 (0 : Int) (by omega) (by have h_ : (0 : Int) < ((x5_2.length : Int) : Int) := of_decide_eq_true (by first | (with_reducible assumption) | assumption);first | exact h_ | (have e_:=(Kd.R_reads' HO_5.out).1;omega) | simpa using h_)
           obtain rfl:=k53_openM hM53
           have HP53:=Kd.R_seg HX53.out (0 : Int) (by omega) (by have h_ : (0 : Int) < ((x5_2.length : Int) : Int) := of_decide_eq_true (by first | (with_reducible assumption) | assumption);first | exact h_ | (have e_:=(Kd.R_reads' HO_5.out).1;omega) | simpa using h_) (seg := [.bool true,.int .i64 x4_1]) (j:=0) hcl53 hcc53 (show 2 ≤ 2 from by decide) (x' := (⟨true,x4_1⟩ : S53)) (k53_mkM _ _ _ (⟨true,x4_1⟩ : S53) ) (fun _ hk => hk)
           have hx53_0:=hcc53 0 _ rfl
           (try simp only [show (k53).sz = 2 from rfl,Nat.mul_one,Nat.add_zero] at hx53_0)
           (try rw [show ((0 : Int)).toNat = 0 from rfl] at hx53_0)
           (try simp only [Nat.reduceMul,Nat.zero_mul,Nat.zero_add,Nat.reduceAdd] at hx53_0)
           have hf53_0:=hfr53 0
           (try simp only [show (k53).sz = 2 from rfl,Nat.mul_one,Nat.add_zero] at hf53_0)
           (try rw [show ((0 : Int)).toNat = 0 from rfl] at hf53_0)
           (try simp only [Nat.reduceMul,Nat.zero_mul,Nat.zero_add,Nat.reduceAdd] at hf53_0)
           have hx53_1:=hcc53 1 _ rfl
           (try simp only [show (k53).sz = 2 from rfl,Nat.mul_one,Nat.add_zero] at hx53_1)
           (try rw [show ((0 : Int)).toNat = 0 from rfl] at hx53_1)
           (try simp only [Nat.reduceMul,Nat.zero_mul,Nat.zero_add,Nat.reduceAdd] at hx53_1)
           have hf53_1:=hfr53 1
           (try simp only [show (k53).sz = 2 from rfl,Nat.mul_one,Nat.add_zero] at hf53_1)
           (try rw [show ((0 : Int)).toNat = 0 from rfl] at hf53_1)
           (try simp only [Nat.reduceMul,Nat.zero_mul,Nat.zero_add,Nat.reduceAdd] at hf53_1)
           clear hcl53 hcc53 hfr53;(try clear hM53)
           go_wp2_with (first | ((with_reducible refine gate_store (t:=53) (p:=69) rfl ?_);refine store_event (t:=53) (p:=69) (v:=?vo_w54) (w1:=((wr.setCell ⟨go48,0,none⟩ (.bool true)).setCell ⟨go48,1,none⟩ (.int .i64 x4_1))) ?hg ?ho ?hn ?hr ?_;(case ho => rfl);(case hg => rfl);(case hn => rfl);(case hr => first | (go_simp;done) | (go_simp;rfl));intro w54 hw;have hg : wr.grownBy w54 (some go48) := (by rw [hw];exact HP53.2);have hp_ : Kd.R k53 53 w54 w.heap.size (fun _ => True) (.slice (some ⟨go48,0,none⟩) x5_2.length co52) y390:=(by rw [hw,Ny390.out];exact HP53.1);clear HP53;have n0_:=Aside0.mk (hp_);have n1_:=Aside0.mk (Kd.R_over' (v:=(.slice (some ⟨go48,0,none⟩) x5_2.length co52)) (by (with_reducible repeat (first | apply Kd.R_alloc | apply Kd.R_drewN | apply Kd.R_drew));exact HO_374000.out) (Kd.R_typed HO_5.out) (by decide) hg);have n2_:=Aside0.mk (Kd.R_over' (v:=(.slice (some ⟨go48,0,none⟩) x5_2.length co52)) (by (with_reducible repeat (first | apply Kd.R_alloc | apply Kd.R_drewN | apply Kd.R_drew));exact HO_374001.out) (Kd.R_typed HO_5.out) (by decide) hg);have n3_:=Aside0.mk (Kd.S_after (v:=(.slice (some ⟨go48,0,none⟩) x5_2.length co52)) (v1:=(.slice (some ⟨go48,0,none⟩) x5_2.length co52)) (ok:=(fun _ => True)) (by (with_reducible repeat (first | apply Kd.S_alloc | apply Kd.S_drewN | apply Kd.S_drew));exact Kd.S_mono HO_374004.out (fun _ hk => ⟨trivial,hk⟩)) hg (.inl rfl));have n4_:=Aside0.mk (blk_grown (g:=gb361) (o := .cells #[.slice none 0 0,.slice none 0 0,.int .i64 0,.int .i64 0,.slice none 0 0] 26 (0,0)) (by (with_reducible repeat (first | refine blk_drewN ?_ _ | refine blk_drew ?_ | refine blk_alloc ?_ _));exact BK361.out) hg (Kd.R_ne HO_5.out BK361.out (by decide)));have n5_:=Aside0.mk (blk_grown (g:=gb373) (o := .cells #[.slice Ao6 t362.length co6,.slice Ao20 y377.length co20,.int .i64 t368,.int .i64 t369,.slice (some ad380) x374004_1.length co15] 26 (0,0)) (by (with_reducible repeat (first | refine blk_drewN ?_ _ | refine blk_drew ?_ | refine blk_alloc ?_ _));exact BK373.out) hg (Kd.R_ne HO_5.out BK373.out (by decide)));have n6_:=Aside0.mk (Kd.R_after (v:=(.slice (some ⟨go48,0,none⟩) x5_2.length co52)) (v1:=(.slice (some ⟨go48,0,none⟩) x5_2.length co52)) (ok:=(fun k_ => some k_ ≠ (.slice (some ad380) x374004_1.length co15 : Value).ownBlock)) (by (with_reducible repeat (first | apply Kd.R_alloc | apply Kd.R_drewN | apply Kd.R_drew));exact Kd.R_mono HL380_1.out (fun _ hk => ⟨hk.2,hk.1⟩)) hg (.inl rfl));have n7_:=Aside0.mk ((by rw [hw];exact below_set (below_set (HB.out) GB48.out) GB48.out : Below w.heap.size w w54));clear HO_5;clear HO_374000;clear HO_374001;clear HO_374004;clear BK361;clear BK373;clear HL380_1;clear HB;have HO_5:=n0_;have HO_374000:=n1_;have HO_374001:=n2_;have HO_374004:=n3_;have BK361:=n4_;have BK373:=n5_;have HL380_1:=n6_;have HB:=n7_;clear n0_ n1_ n2_ n3_ n4_ n5_ n6_ n7_;clear hg hw hp_;have hcz55_0 : w54.cell? ⟨gb373,0,none⟩ = some (.slice Ao6 t362.length co6) := (blk_cell BK373.out 0).trans rfl;have hcz55_1 : w54.cell? ⟨gb373,1,none⟩ = some (.slice Ao20 y377.length co20) := (blk_cell BK373.out 1).trans rfl;have hcz55_2 : w54.cell? ⟨gb373,2,none⟩ = some (.int .i64 t368) := (blk_cell BK373.out 2).trans rfl;have hcz55_3 : w54.cell? ⟨gb373,3,none⟩ = some (.int .i64 t369) := (blk_cell BK373.out 3).trans rfl;have hcz55_4 : w54.cell? ⟨gb373,4,none⟩ = some (.slice (some ad380) x374004_1.length co15) := (blk_cell BK373.out 4).trans rfl;have hfz55_0:=blk_frozen BK373.out 0;have hfz55_1:=blk_frozen BK373.out 1;have hfz55_2:=blk_frozen BK373.out 2;have hfz55_3:=blk_frozen BK373.out 3;have hfz55_4:=blk_frozen BK373.out 4;have p49 : 0 ≤ (x4_1 : Int) := of_decide_eq_true (by first | (with_reducible assumption) | assumption);have q49 : (x4_1 : Int) < ((x374004_1.length : Int) : Int) := of_decide_eq_true (by first | (with_reducible assumption) | assumption);obtain ⟨go49,co49,eo49,gb49,gl49,cl49,HG49⟩ := Kd.S_form HO_374004.out (by omega);(first | cases eo49 | (injection eo49 with ea_ en_ ec_;(first | subst ea_ | (injection ea_ with ea_;subst ea_));subst ec_;clear en_));have GB49:=Aside0.mk gb49;have GG49:=Aside0.mk HG49;clear gb49 gl49 HG49;(first | simp only [add_plain] at hx380_0 | skip);(first | simp only [add_plain] at hx380_1 | skip);(first | simp only [add_plain] at hx381_0 | skip);(first | simp only [add_plain] at hx381_1 | skip);obtain ⟨_,ce49,hcl49,hM49,hcc49,hfr49,_,_⟩ := Kd.S_elem HO_374004.out z30 (x4_1 : Int) p49 q49;obtain ⟨ve49_1,rfl,ge49_1⟩ := k30_openM hM49;have hx49_0 : w54.cell? ⟨go49,(x4_1 : Int).toNat * 2,none⟩ = some (.int .i64 ((rd_T30 x374004_1 x4_1).f0)) := hcc49 0 _ rfl;have hx49_1 : w54.cell? ⟨go49,(x4_1 : Int).toNat * 2 + 1,none⟩ = some (ve49_1) := hcc49 1 _ rfl;have hf49_0 : w54.frozen? ⟨go49,(x4_1 : Int).toNat * 2,none⟩ = false:=hfr49 0;have hf49_1 : w54.frozen? ⟨go49,(x4_1 : Int).toNat * 2 + 1,none⟩ = false:=hfr49 1;clear hcl49 hcc49 hfr49;(try clear hM49);replace p49:=eq_true p49;replace q49:=eq_true q49;have n_:=Aside0.mk (Kd.S_mono (ok' := (fun k_ => some k_ ≠ (.slice (some ⟨go48,0,none⟩) x5_2.length co52 : Value).ownBlock)) HO_374004.out (fun k_ hk => hk.2));clear HO_374004;have HO_374004:=n_;clear n_;have HX56:=Aside0.mk (show Kd.S k30 30 w54 w.heap.size (fun k_ => ((fun _ => True)) k_ ∧ ¬ ((fun k_ => some k_ = (.slice (some ⟨go48,0,none⟩) x5_2.length co52 : Value).ownBlock)) k_) (.slice (some ⟨go49,0,none⟩) x374004_1.length co15) x374004_1 from (by (with_reducible repeat (first | apply Kd.S_alloc | apply Kd.S_drewN | apply Kd.S_drew));exact Kd.S_mono HO_374004.out (fun k_ hk => ⟨trivial,fun e_ => hk e_⟩)));obtain ⟨oki56,ce56,hcl56,hM56,hcc56,hfr56,hoki56,hH56⟩ := Kd.S_elem HX56.out z30 (x4_1 : Int) (of_decide_eq_true (by first | (with_reducible assumption) | assumption)) (by have h_ : (x4_1 : Int) < ((x374004_1.length : Int) : Int) := of_decide_eq_true (by first | (with_reducible assumption) | assumption);first | exact h_ | (have e_:=(Kd.S_reads' HO_374004.out).1;omega) | simpa using h_);obtain ⟨ve56_1,rfl,ge56_1⟩ := k30_openM hM56;have HP56:=Kd.S_seg hH56 (of_decide_eq_true (by first | (with_reducible assumption) | assumption)) (by have h_ : (x4_1 : Int) < ((x374004_1.length : Int) : Int) := of_decide_eq_true (by first | (with_reducible assumption) | assumption);first | exact h_ | (have e_:=(Kd.S_reads' HO_374004.out).1;omega) | simpa using h_) (seg := [.slice (some ⟨go48,0,none⟩) x5_2.length co52]) (j:=1) (show 2 ≤ 2 from by decide) (x' := (⟨(rd_T30 x374004_1 x4_1).f0,y390⟩ : S30)) (k30_mkM _ _ _ (⟨(rd_T30 x374004_1 x4_1).f0,y390⟩ : S30) (Kd.R_mono (Kd.R_tight rfl (Kd.R_mono (ok' := fun k_ => ((fun _ => True)) k_ ∧ k_ ≠ go49) (Kd.R_apart' (HO_5.out) (Kd.S_typed HO_374004.out) (by decide)) (fun k_ hk => ⟨trivial,fun e_ => (hk.2) (by rw [e_];rfl)⟩))) (fun _ h_ => Or.inr (h_)))) (fun _ hk => hk) (fun k_ hk_ => ((Kd.R_mono (ok' := fun k_ => ((fun _ => True)) k_ ∧ k_ ≠ go49) (Kd.R_apart' (HO_5.out) (Kd.S_typed HO_374004.out) (by decide)) (fun k_ hk => ⟨trivial,fun e_ => (hk.2) (by rw [e_];rfl)⟩))).1 k_ hk_.symm);have hx56_1:=hcc56 1 _ rfl;(try simp only [show (k30).sz = 2 from rfl,Nat.mul_one,Nat.add_zero] at hx56_1);have hf56_1:=hfr56 1;(try simp only [show (k30).sz = 2 from rfl,Nat.mul_one,Nat.add_zero] at hf56_1);clear hcl56 hcc56 hfr56;(try clear hM56);clear hoki56 hH56) | ((with_reducible refine gate_store (t:=28) (p:=75) rfl ?_);refine store_event (t:=28) (p:=75) (v:=?vo_w57) (w1:=(w54.setCell ⟨go49,(x4_1 : Int).toNat * 2 + 1,none⟩ (.slice (some ⟨go48,0,none⟩) x5_2.length co52))) ?hg ?ho ?hn ?hr ?_;(case ho => rfl);(case hg => rfl);(case hn => rfl);(case hr => first | (go_simp;done) | (go_simp;rfl) | (obtain ⟨A_,c_,e_⟩ := Kd.R_slice HO_5.out;rw [e_];first | (go_simp;done) | (go_simp;rfl)));intro w57 hw;have hg : w54.grownBy w57 (some go49) := (by rw [hw];exact HP56.2);have hp_ : Kd.S k30 30 w57 w.heap.size (fun _ => True) (.slice (some ⟨go49,0,none⟩) x374004_1.length co15) y391:=(by rw [hw,Ny391.out];exact HP56.1);clear HP56;have n0_:=Aside0.mk (Kd.R_over' (v:=(.slice (some ⟨go49,0,none⟩) x374004_1.length co15)) (by (with_reducible repeat (first | apply Kd.R_alloc | apply Kd.R_drewN | apply Kd.R_drew));exact HO_374000.out) (Kd.S_typed HO_374004.out) (by decide) hg);have n1_:=Aside0.mk (Kd.R_over' (v:=(.slice (some ⟨go49,0,none⟩) x374004_1.length co15)) (by (with_reducible repeat (first | apply Kd.R_alloc | apply Kd.R_drewN | apply Kd.R_drew));exact HO_374001.out) (Kd.S_typed HO_374004.out) (by decide) hg);have n2_:=Aside0.mk (hp_);have n3_:=Aside0.mk (blk_grown (g:=gb361) (o := .cells #[.slice none 0 0,.slice none 0 0,.int .i64 0,.int .i64 0,.slice none 0 0] 26 (0,0)) (by (with_reducible repeat (first | refine blk_drewN ?_ _ | refine blk_drew ?_ | refine blk_alloc ?_ _));exact BK361.out) hg (Kd.S_ne HO_374004.out BK361.out (by decide)));have n4_:=Aside0.mk (blk_grown (g:=gb373) (o := .cells #[.slice Ao6 t362.length co6,.slice Ao20 y377.length co20,.int .i64 t368,.int .i64 t369,.slice (some ⟨go49,0,none⟩) x374004_1.length co15] 26 (0,0)) (by (with_reducible repeat (first | refine blk_drewN ?_ _ | refine blk_drew ?_ | refine blk_alloc ?_ _));exact BK373.out) hg (Kd.S_ne HO_374004.out BK373.out (by decide)));have n5_:=Aside0.mk (Kd.R_after (v:=(.slice (some ⟨go49,0,none⟩) x374004_1.length co15)) (v1:=(.slice (some ⟨go49,0,none⟩) x374004_1.length co15)) (ok:=(fun k_ => some k_ ≠ (.slice (some ⟨go48,0,none⟩) x5_2.length co52 : Value).ownBlock)) (by (with_reducible repeat (first | apply Kd.R_alloc | apply Kd.R_drewN | apply Kd.R_drew));exact Kd.R_mono HL380_1.out (fun _ hk => ⟨hk.2,hk.1⟩)) hg (.inl rfl));have n6_:=Aside0.mk ((by rw [hw];exact below_set (HB.out) GB49.out : Below w.heap.size w w57));clear HO_374000;clear HO_374001;clear HO_374004;clear BK361;clear BK373;clear HL380_1;clear HB;clear HO_5;have HO_374000:=n0_;have HO_374001:=n1_;have HO_374004:=n2_;have BK361:=n3_;have BK373:=n4_;have HL380_1:=n5_;have HB:=n6_;clear n0_ n1_ n2_ n3_ n4_ n5_ n6_;clear hg hw hp_))
           go_roundg k2
           case measure => have:=HK1.out;have:=HK2.out;omega
           case rel => exact ⟨(wrap64 (x4_1 + 1)),(y377),(y391),(.slice Ao20 y377.length co20),(.slice (some ⟨go49,0,none⟩) x374004_1.length co15),(by first | rfl | (simp;done) | (simp [*];done)),H',⟨by have:=HK1.out;have:=HK2.out;omega⟩,⟨by (with_reducible repeat (first | apply Kd.R_alloc | apply Kd.R_drewN | apply Kd.R_drew));exact HO_374000.out⟩,⟨by (with_reducible repeat (first | apply Kd.R_alloc | apply Kd.R_drewN | apply Kd.R_drew));exact HO_374001.out⟩,⟨by (with_reducible repeat (first | apply Kd.S_alloc | apply Kd.S_drewN | apply Kd.S_drew));exact HO_374004.out⟩,⟨by (with_reducible repeat (first | refine blk_drewN ?_ _ | refine blk_drew ?_ | refine blk_alloc ?_ _));exact BK361.out⟩,⟨by (with_reducible repeat (first | refine blk_drewN ?_ _ | refine blk_drew ?_ | refine blk_alloc ?_ _));exact BK373.out⟩,⟨by repeat (first | (with_reducible first | exact HB.out | apply below_alloc | apply pw_below_drewN | apply below_drew1 | refine below_set ?_ GE361.out | refine below_set ?_ GE373.out) | exact HB.out)⟩⟩
         · rw [if_neg c46] at H
           have c46b0 : decide (0 < (x5_2.length : Int)) = false:=decide_eq_false c46
           have c46b1 : decide (0 < x5_2.length) = false:=decide_eq_false (by omega)
           clear c46
           obtain ⟨y392,hy392⟩ : ∃ y_ : List (S30),y_ = (x374004_1.set (x4_1 : Int).toNat (⟨(rd_T30 x374004_1 x4_1).f0,x5_2⟩ : S30)) := ⟨_,rfl⟩
           replace H : (regletlaw14_Clear.l0 k2 (wrap64 (x4_1 + 1)) t362 y377 t368 t369 y392) = some (r1,r2,r3,r4,r5) := by first | (rw [hy392];with_reducible exact H) | (have H2_:=(Option.bind_some _ _).symm.trans H;rw [hy392];with_reducible exact H2_) | (have H2_:=(Option.bind_some _ _).symm.trans H;with_reducible exact H2_) | with_reducible exact H | (rw [hy392];exact H) | exact H
           have Ny392:=Aside0.mk hy392
           clear hy392
           have H' := Aside0.mk H
           clear H
           have hnb59:=NB373_361.out
           have hnc59:=NB361_373.out
           have hcz60_0 : wr.cell? ⟨gb373,0,none⟩ = some (.slice Ao6 t362.length co6) := (blk_cell BK373.out 0).trans rfl
           have hcz60_1 : wr.cell? ⟨gb373,1,none⟩ = some (.slice Ao20 y377.length co20) := (blk_cell BK373.out 1).trans rfl
           have hcz60_2 : wr.cell? ⟨gb373,2,none⟩ = some (.int .i64 t368) := (blk_cell BK373.out 2).trans rfl
           have hcz60_3 : wr.cell? ⟨gb373,3,none⟩ = some (.int .i64 t369) := (blk_cell BK373.out 3).trans rfl
           have hcz60_4 : wr.cell? ⟨gb373,4,none⟩ = some (.slice Ao15 x374004_1.length co15) := (blk_cell BK373.out 4).trans rfl
           have hfz60_0:=blk_frozen BK373.out 0
           have hfz60_1:=blk_frozen BK373.out 1
           have hfz60_2:=blk_frozen BK373.out 2
           have hfz60_3:=blk_frozen BK373.out 3
           have hfz60_4:=blk_frozen BK373.out 4
           have p380 : 0 ≤ (x4_1 : Int) := of_decide_eq_true (by first | (with_reducible assumption) | assumption)
           have q380 : x4_1 < (x374004_1.length : Int) := of_decide_eq_true (by first | (with_reducible assumption) | assumption)
           obtain ⟨ad380,A380_1,c380_1,e380,hx380_0,hx380_1,hl380_1,hi380_1⟩ := at_T30 (Kd.S_reads' HO_374004.out).2.2 x4_1 p380 q380
           cases e380
           obtain ⟨ce380,hce380,hMe380,hcc380⟩ := Kd.S_get HO_374004.out z30 x4_1 p380 (by first | exact q380 | exact of_decide_eq_true (by first | (with_reducible assumption) | assumption) | (have e_:=(Kd.S_reads' HO_374004.out).1;omega))
           obtain ⟨ve380_1,rfl,ge380_1⟩ := k30_openM hMe380
           have hv380_1:=hcc380 1 _ rfl
           rw [add_field _ _ 1 (by omega)] at hv380_1
           replace hv380_1:=Option.some.inj (hv380_1.symm.trans hx380_1)
           rw [hv380_1] at ge380_1
           have HL380_1:=Aside0.mk (show Kd.R k53 53 _ _ _ _ ((rd_T30 x374004_1 x4_1).f1) from ge380_1)
           clear hv380_1 ge380_1
           have HX380_1:=Aside0.mk hx380_1
           clear hcc380 hce380
           have HR380_1:=Aside0.mk hi380_1
           have HC380_1:=Aside0.mk hl380_1
           clear hi380_1 hl380_1
           replace p380:=eq_true p380
           replace q380:=eq_true q380
           obtain ⟨Ao61,co61,eo61⟩ := Kd.R_slice HO_5.out
           subst eo61
           have p58 : 0 ≤ (x4_1 : Int) := of_decide_eq_true (by first | (with_reducible assumption) | assumption)
           have q58 : (x4_1 : Int) < ((x374004_1.length : Int) : Int) := of_decide_eq_true (by first | (with_reducible assumption) | assumption)
           obtain ⟨go58,co58,eo58,gb58,gl58,cl58,HG58⟩ := Kd.S_form HO_374004.out (by omega)
           (first | cases eo58 | (injection eo58 with ea_ en_ ec_;(first | subst ea_ | (injection ea_ with ea_;subst ea_));subst ec_;clear en_))
           have GB58:=Aside0.mk gb58
           have GG58:=Aside0.mk HG58
           clear gb58 gl58 HG58
           (first | simp only [add_plain] at hx380_0 | skip)
           (first | simp only [add_plain] at hx380_1 | skip)
           obtain ⟨_,ce58,hcl58,hM58,hcc58,hfr58,_,_⟩ := Kd.S_elem HO_374004.out z30 (x4_1 : Int) p58 q58
           obtain ⟨ve58_1,rfl,ge58_1⟩ := k30_openM hM58
           have hx58_0 : wr.cell? ⟨go58,(x4_1 : Int).toNat * 2,none⟩ = some (.int .i64 ((rd_T30 x374004_1 x4_1).f0)) := hcc58 0 _ rfl
           have hx58_1 : wr.cell? ⟨go58,(x4_1 : Int).toNat * 2 + 1,none⟩ = some (ve58_1) := hcc58 1 _ rfl
           have hf58_0 : wr.frozen? ⟨go58,(x4_1 : Int).toNat * 2,none⟩ = false:=hfr58 0
           have hf58_1 : wr.frozen? ⟨go58,(x4_1 : Int).toNat * 2 + 1,none⟩ = false:=hfr58 1
           clear hcl58 hcc58 hfr58;(try clear hM58)
           replace p58:=eq_true p58
           replace q58:=eq_true q58
           have HX62:=Aside0.mk (show Kd.S k30 30 wr w.heap.size (fun k_ => ((fun _ => True)) k_ ∧ ¬ ((fun k_ => some k_ = (.slice Ao61 x5_2.length co61 : Value).ownBlock)) k_) (.slice (some ⟨go58,0,none⟩) x374004_1.length co15) x374004_1 from (by (with_reducible repeat (first | apply Kd.S_alloc | apply Kd.S_drewN | apply Kd.S_drew));exact Kd.S_mono HO_374004.out (fun k_ hk => ⟨trivial,fun e_ => hk e_⟩)))
           obtain ⟨oki62,ce62,hcl62,hM62,hcc62,hfr62,hoki62,hH62⟩ := Kd.S_elem HX62.out z30 (x4_1 : Int) (of_decide_eq_true (by first | (with_reducible assumption) | assumption)) (by have h_ : (x4_1 : Int) < ((x374004_1.length : Int) : Int) := of_decide_eq_true (by first | (with_reducible assumption) | assumption);first | exact h_ | (have e_:=(Kd.S_reads' HO_374004.out).1;omega) | simpa using h_)
           obtain ⟨ve62_1,rfl,ge62_1⟩ := k30_openM hM62
           have HP62:=Kd.S_seg hH62 (of_decide_eq_true (by first | (with_reducible assumption) | assumption)) (by have h_ : (x4_1 : Int) < ((x374004_1.length : Int) : Int) := of_decide_eq_true (by first | (with_reducible assumption) | assumption);first | exact h_ | (have e_:=(Kd.S_reads' HO_374004.out).1;omega) | simpa using h_) (seg := [.slice Ao61 x5_2.length co61]) (j:=1) (show 2 ≤ 2 from by decide) (x' := (⟨(rd_T30 x374004_1 x4_1).f0,x5_2⟩ : S30)) (k30_mkM _ _ _ (⟨(rd_T30 x374004_1 x4_1).f0,x5_2⟩ : S30) (Kd.R_mono (Kd.R_tight rfl (Kd.R_mono (ok' := fun k_ => ((fun _ => True)) k_ ∧ k_ ≠ go58) (Kd.R_apart' (HO_5.out) (Kd.S_typed HO_374004.out) (by decide)) (fun k_ hk => ⟨trivial,fun e_ => (hk.2) (by rw [e_];rfl)⟩))) (fun _ h_ => Or.inr (h_)))) (fun _ hk => hk) (fun k_ hk_ => ((Kd.R_mono (ok' := fun k_ => ((fun _ => True)) k_ ∧ k_ ≠ go58) (Kd.R_apart' (HO_5.out) (Kd.S_typed HO_374004.out) (by decide)) (fun k_ hk => ⟨trivial,fun e_ => (hk.2) (by rw [e_];rfl)⟩))).1 k_ hk_.symm)
           have hx62_1:=hcc62 1 _ rfl
           (try simp only [show (k30).sz = 2 from rfl,Nat.mul_one,Nat.add_zero] at hx62_1)
           have hf62_1:=hfr62 1
           (try simp only [show (k30).sz = 2 from rfl,Nat.mul_one,Nat.add_zero] at hf62_1)
           clear hcl62 hcc62 hfr62;(try clear hM62);clear hoki62 hH62
           go_wp2_with (first | ((with_reducible refine gate_store (t:=28) (p:=75) rfl ?_);refine store_event (t:=28) (p:=75) (v:=?vo_w63) (w1:=(wr.setCell ⟨go58,(x4_1 : Int).toNat * 2 + 1,none⟩ (.slice Ao61 x5_2.length co61))) ?hg ?ho ?hn ?hr ?_;(case ho => rfl);(case hg => rfl);(case hn => rfl);(case hr => first | (go_simp;done) | (go_simp;rfl) | (obtain ⟨A_,c_,e_⟩ := Kd.R_slice HO_5.out;rw [e_];first | (go_simp;done) | (go_simp;rfl)));intro w63 hw;have hg : wr.grownBy w63 (some go58) := (by rw [hw];exact HP62.2);have hp_ : Kd.S k30 30 w63 w.heap.size (fun _ => True) (.slice (some ⟨go58,0,none⟩) x374004_1.length co15) y392:=(by rw [hw,Ny392.out];exact HP62.1);clear HP62;have n0_:=Aside0.mk (Kd.R_over' (v:=(.slice (some ⟨go58,0,none⟩) x374004_1.length co15)) (by (with_reducible repeat (first | apply Kd.R_alloc | apply Kd.R_drewN | apply Kd.R_drew));exact HO_374000.out) (Kd.S_typed HO_374004.out) (by decide) hg);have n1_:=Aside0.mk (Kd.R_over' (v:=(.slice (some ⟨go58,0,none⟩) x374004_1.length co15)) (by (with_reducible repeat (first | apply Kd.R_alloc | apply Kd.R_drewN | apply Kd.R_drew));exact HO_374001.out) (Kd.S_typed HO_374004.out) (by decide) hg);have n2_:=Aside0.mk (hp_);have n3_:=Aside0.mk (blk_grown (g:=gb361) (o := .cells #[.slice none 0 0,.slice none 0 0,.int .i64 0,.int .i64 0,.slice none 0 0] 26 (0,0)) (by (with_reducible repeat (first | refine blk_drewN ?_ _ | refine blk_drew ?_ | refine blk_alloc ?_ _));exact BK361.out) hg (Kd.S_ne HO_374004.out BK361.out (by decide)));have n4_:=Aside0.mk (blk_grown (g:=gb373) (o := .cells #[.slice Ao6 t362.length co6,.slice Ao20 y377.length co20,.int .i64 t368,.int .i64 t369,.slice (some ⟨go58,0,none⟩) x374004_1.length co15] 26 (0,0)) (by (with_reducible repeat (first | refine blk_drewN ?_ _ | refine blk_drew ?_ | refine blk_alloc ?_ _));exact BK373.out) hg (Kd.S_ne HO_374004.out BK373.out (by decide)));have n5_:=Aside0.mk (Kd.R_after (v:=(.slice (some ⟨go58,0,none⟩) x374004_1.length co15)) (v1:=(.slice (some ⟨go58,0,none⟩) x374004_1.length co15)) (ok:=(fun k_ => some k_ ≠ (.slice Ao61 x5_2.length co61 : Value).ownBlock)) (by (with_reducible repeat (first | apply Kd.R_alloc | apply Kd.R_drewN | apply Kd.R_drew));exact HL380_1.out) hg (.inl rfl));have n6_:=Aside0.mk ((by rw [hw];exact below_set (HB.out) GB58.out : Below w.heap.size w w63));clear HO_374000;clear HO_374001;clear HO_374004;clear BK361;clear BK373;clear HL380_1;clear HB;clear HO_5;have HO_374000:=n0_;have HO_374001:=n1_;have HO_374004:=n2_;have BK361:=n3_;have BK373:=n4_;have HL380_1:=n5_;have HB:=n6_;clear n0_ n1_ n2_ n3_ n4_ n5_ n6_;clear hg hw hp_))
           go_roundg k2
           case measure => have:=HK1.out;have:=HK2.out;omega
           case rel => exact ⟨(wrap64 (x4_1 + 1)),(y377),(y392),(.slice Ao20 y377.length co20),(.slice (some ⟨go58,0,none⟩) x374004_1.length co15),(by first | rfl | (simp;done) | (simp [*];done)),H',⟨by have:=HK1.out;have:=HK2.out;omega⟩,⟨by (with_reducible repeat (first | apply Kd.R_alloc | apply Kd.R_drewN | apply Kd.R_drew));exact HO_374000.out⟩,⟨by (with_reducible repeat (first | apply Kd.R_alloc | apply Kd.R_drewN | apply Kd.R_drew));exact HO_374001.out⟩,⟨by (with_reducible repeat (first | apply Kd.S_alloc | apply Kd.S_drewN | apply Kd.S_drew));exact HO_374004.out⟩,⟨by (with_reducible repeat (first | refine blk_drewN ?_ _ | refine blk_drew ?_ | refine blk_alloc ?_ _));exact BK361.out⟩,⟨by (with_reducible repeat (first | refine blk_drewN ?_ _ | refine blk_drew ?_ | refine blk_alloc ?_ _));exact BK373.out⟩,⟨by repeat (first | (with_reducible first | exact HB.out | apply below_alloc | apply pw_below_drewN | apply below_drew1 | refine below_set ?_ GE361.out | refine below_set ?_ GE373.out) | exact HB.out)⟩⟩
   · rw [if_neg c11] at H
     have c11b0 : decide (x4_1 < (x374004_1.length : Int)) = false:=decide_eq_false c11
     clear c11
     have H' := Aside0.mk H
     clear H
     have hnb64:=NB373_361.out
     have hnc64:=NB361_373.out
     have hcz65_0 : wr.cell? ⟨gb373,0,none⟩ = some (.slice Ao6 t362.length co6) := (blk_cell BK373.out 0).trans rfl
     have hcz65_1 : wr.cell? ⟨gb373,1,none⟩ = some (u374001) := (blk_cell BK373.out 1).trans rfl
     have hcz65_2 : wr.cell? ⟨gb373,2,none⟩ = some (.int .i64 t368) := (blk_cell BK373.out 2).trans rfl
     have hcz65_3 : wr.cell? ⟨gb373,3,none⟩ = some (.int .i64 t369) := (blk_cell BK373.out 3).trans rfl
     have hcz65_4 : wr.cell? ⟨gb373,4,none⟩ = some (u374004) := (blk_cell BK373.out 4).trans rfl
     have hfz65_0:=blk_frozen BK373.out 0
     have hfz65_1:=blk_frozen BK373.out 1
     have hfz65_2:=blk_frozen BK373.out 2
     have hfz65_3:=blk_frozen BK373.out 3
     have hfz65_4:=blk_frozen BK373.out 4
     obtain ⟨Ao66,co66,eo66⟩ := Kd.S_slice HO_374004.out
     subst eo66
     go_wp2
     go_loopg [8] k1 (fun kq v8 w' => ∃ (x8_2 : Int) (x374004_2 : List (S30)) (u374004 : Value),v8 = .int .i64 x8_2 ∧ Aside0 (regletlaw14_Clear.l2 kq x8_2 t362 x374001_1 t368 t369 x374004_2 = some (r1,r2,r3,r4,r5)) ∧ Aside0 (kq ≤ k1) ∧ Aside0 (Kd.R Kd.string 9 w' w.heap.size (fun _ => True) (.slice Ao6 t362.length co6) t362) ∧ Aside0 (Kd.R k61 61 w' w.heap.size (fun _ => True) u374001 x374001_1) ∧ Aside0 (Kd.S k30 30 w' w.heap.size (fun _ => True) u374004 x374004_2) ∧ Aside0 (w'.heap[gb361]? = some (.cells #[(.slice none 0 0),(.slice none 0 0),.int .i64 0,.int .i64 0,(.slice none 0 0)] 26 (0,0))) ∧ Aside0 (w'.heap[gb373]? = some (.cells #[(.slice Ao6 t362.length co6),u374001,.int .i64 t368,.int .i64 t369,u374004] 26 (0,0))) ∧ Aside0 (Below w.heap.size w w'))
     case atStart => exact ⟨(0),(x374004_1),(.slice Ao66 x374004_1.length co66),(by first | rfl | (simp;done) | (simp [*];done)),H',⟨Nat.le_refl _⟩,⟨by (with_reducible repeat (first | apply Kd.R_alloc | apply Kd.R_drewN | apply Kd.R_drew));exact HO_374000.out⟩,⟨by (with_reducible repeat (first | apply Kd.R_alloc | apply Kd.R_drewN | apply Kd.R_drew));exact HO_374001.out⟩,⟨by (with_reducible repeat (first | apply Kd.S_alloc | apply Kd.S_drewN | apply Kd.S_drew));exact HO_374004.out⟩,⟨by (with_reducible repeat (first | refine blk_drewN ?_ _ | refine blk_drew ?_ | refine blk_alloc ?_ _));exact BK361.out⟩,⟨by (with_reducible repeat (first | refine blk_drewN ?_ _ | refine blk_drew ?_ | refine blk_alloc ?_ _));exact BK373.out⟩,⟨by repeat (first | (with_reducible first | exact HB.out | apply below_alloc | apply pw_below_drewN | apply below_drew1 | refine below_set ?_ GE361.out | refine below_set ?_ GE373.out) | exact HB.out)⟩⟩
     case round =>
      clear H'
      (try clear c1);(try clear c2);(try clear p2);(try clear q2);(try clear c3);(try clear p3);(try clear q3);(try clear hx3);(try clear c4);(try clear p4);(try clear q4);(try clear hx4);(try clear qi4);(try clear hf4);(try clear c5);(try clear p5);(try clear q5);(try clear hx5);(try clear hf5);(try clear c6);(try clear p6);(try clear hx6);(try clear hf6);(try clear c7);(try clear c11);(try clear c11b0)
      (try clear c12);(try clear c13);(try clear c22);(try clear c22b0);(try clear c23);(try clear c23b0);(try clear c24);(try clear c24b0);(try clear c25);(try clear c25b0);(try clear q26);(try clear c27);(try clear c28);(try clear c28b0);(try clear c28b1);(try clear c28b2);(try clear c29);(try clear c30);(try clear c33);(try clear c34);(try clear c38);(try clear p38);(try clear q38);(try clear hx38);(try clear c39)
      (try clear c42);(try clear c43);(try clear c46);(try clear c46b0);(try clear c46b1);(try clear c47);(try clear c47b0);(try clear c47b1);(try clear c48);(try clear p48);(try clear q48);(try clear hx48);(try clear qi48);(try clear hf48);(try clear c49);(try clear p49);(try clear q49);(try clear hx49);(try clear hf49);(try clear c50);(try clear c53);(try clear hx53);(try clear hf53);(try clear c56);(try clear hx56)
      (try clear hf56);(try clear c58);(try clear p58);(try clear q58);(try clear hx58);(try clear hf58);(try clear c59);(try clear c62);(try clear hx62);(try clear hf62);(try clear c64);(try clear p64);(try clear hcz14_0);(try clear hcz14_1);(try clear hcz14_2);(try clear hcz14_3);(try clear hcz14_4);(try clear hcz21_0);(try clear hcz21_1);(try clear hcz21_2);(try clear hcz21_3);(try clear hcz21_4);(try clear hcz31_0)
      (try clear hcz31_1);(try clear hcz31_2);(try clear hcz31_3);(try clear hcz31_4);(try clear hcz35_0);(try clear hcz35_1);(try clear hcz36_0);(try clear hcz36_1);(try clear hcz36_2);(try clear hcz36_3);(try clear hcz36_4);(try clear hcz40_0);(try clear hcz40_1);(try clear hcz40_2);(try clear hcz40_3);(try clear hcz40_4);(try clear hcz44_0);(try clear hcz44_1);(try clear hcz51_0);(try clear hcz51_1);(try clear hcz51_2)
      (try clear hcz51_3);(try clear hcz51_4);(try clear hcz55_0);(try clear hcz55_1);(try clear hcz55_2);(try clear hcz55_3);(try clear hcz55_4);(try clear hcz60_0);(try clear hcz60_1);(try clear hcz60_2);(try clear hcz60_3);(try clear hcz60_4);(try clear hcz65_0);(try clear hcz65_1);(try clear hcz65_2);(try clear hcz65_3);(try clear hcz65_4);(try clear hcz8_0);(try clear hcz8_1);(try clear hcz8_2);(try clear hcz8_3)
      (try clear hcz8_4);(try clear hfz14_0);(try clear hfz14_1);(try clear hfz14_2);(try clear hfz14_3);(try clear hfz14_4);(try clear hfz21_0);(try clear hfz21_1);(try clear hfz21_2);(try clear hfz21_3);(try clear hfz21_4);(try clear hfz31_0);(try clear hfz31_1);(try clear hfz31_2);(try clear hfz31_3);(try clear hfz31_4);(try clear hfz35_0);(try clear hfz35_1);(try clear hfz36_0);(try clear hfz36_1);(try clear hfz36_2)
      (try clear hfz36_3);(try clear hfz36_4);(try clear hfz40_0);(try clear hfz40_1);(try clear hfz40_2);(try clear hfz40_3);(try clear hfz40_4);(try clear hfz44_0);(try clear hfz44_1);(try clear hfz51_0);(try clear hfz51_1);(try clear hfz51_2);(try clear hfz51_3);(try clear hfz51_4);(try clear hfz55_0);(try clear hfz55_1);(try clear hfz55_2);(try clear hfz55_3);(try clear hfz55_4);(try clear hfz60_0);(try clear hfz60_1)
      (try clear hfz60_2);(try clear hfz60_3);(try clear hfz60_4);(try clear hfz65_0);(try clear hfz65_1);(try clear hfz65_2);(try clear hfz65_3);(try clear hfz65_4);(try clear hfz8_0);(try clear hfz8_1);(try clear hfz8_2);(try clear hfz8_3);(try clear hfz8_4);(try clear hx380_0);(try clear hx380_1);(try clear hx381_0);(try clear hx381_1);(try clear hx382_0);(try clear hx382_1);(try clear hx48_0);(try clear hx48_1)
      (try clear hx49_0);(try clear hx49_1);(try clear hx53_0);(try clear hx53_1);(try clear hx56_1);(try clear hx58_0);(try clear hx58_1);(try clear hx62_1);(try clear p2);(try clear p380);(try clear p381);(try clear p382);(try clear p48);(try clear p49);(try clear p58);(try clear p6);(try clear q380);(try clear q381);(try clear q382);(try clear q48);(try clear q49);(try clear q58)
      obtain ⟨x8_2,x374004_2,u374004,rfl,HA,HK2,HO_374000,HO_374001,HO_374004,BK361,BK373,HB⟩ := hrel
      cases gk with
      | zero => exact absurd HA.out (by simp [regletlaw14_Clear.l2])
      | succ k2 =>
       have H:=HA.out
       clear HA
       simp only [regletlaw14_Clear.l2] at H
       by_cases c67 : x8_2 < (x374004_2.length : Int)
       · rw [if_pos c67] at H
         have c67b0 : decide (x8_2 < (x374004_2.length : Int)) = true:=decide_eq_true c67
         clear c67
         have H' := Aside0.mk H
         clear H
         have hnb68:=NB373_361.out
         have hnc68:=NB361_373.out
         have hcz69_0 : wr.cell? ⟨gb373,0,none⟩ = some (.slice Ao6 t362.length co6) := (blk_cell BK373.out 0).trans rfl
         have hcz69_1 : wr.cell? ⟨gb373,1,none⟩ = some (u374001) := (blk_cell BK373.out 1).trans rfl
         have hcz69_2 : wr.cell? ⟨gb373,2,none⟩ = some (.int .i64 t368) := (blk_cell BK373.out 2).trans rfl
         have hcz69_3 : wr.cell? ⟨gb373,3,none⟩ = some (.int .i64 t369) := (blk_cell BK373.out 3).trans rfl
         have hcz69_4 : wr.cell? ⟨gb373,4,none⟩ = some (u374004) := (blk_cell BK373.out 4).trans rfl
         have hfz69_0:=blk_frozen BK373.out 0
         have hfz69_1:=blk_frozen BK373.out 1
         have hfz69_2:=blk_frozen BK373.out 2
         have hfz69_3:=blk_frozen BK373.out 3
         have hfz69_4:=blk_frozen BK373.out 4
         obtain ⟨Ao70,co70,eo70⟩ := Kd.S_slice HO_374004.out
         subst eo70
         go_wp2
         go_loopg [9] k2 (fun kq v9 w' => ∃ (x9_3 : Int) (x374004_3 : List (S30)) (u374004 : Value),v9 = .int .i64 x9_3 ∧ Aside0 (regletlaw14_Clear.l3 kq x8_2 x9_3 t362 x374001_1 t368 t369 x374004_3 = some (r1,r2,r3,r4,r5)) ∧ Aside0 (kq ≤ k2) ∧ Aside0 (Kd.R Kd.string 9 w' w.heap.size (fun _ => True) (.slice Ao6 t362.length co6) t362) ∧ Aside0 (Kd.R k61 61 w' w.heap.size (fun _ => True) u374001 x374001_1) ∧ Aside0 (Kd.S k30 30 w' w.heap.size (fun _ => True) u374004 x374004_3) ∧ Aside0 (w'.heap[gb361]? = some (.cells #[(.slice none 0 0),(.slice none 0 0),.int .i64 0,.int .i64 0,(.slice none 0 0)] 26 (0,0))) ∧ Aside0 (w'.heap[gb373]? = some (.cells #[(.slice Ao6 t362.length co6),u374001,.int .i64 t368,.int .i64 t369,u374004] 26 (0,0))) ∧ Aside0 (Below w.heap.size w w'))
         case atStart => exact ⟨(0),(x374004_2),(.slice Ao70 x374004_2.length co70),(by first | rfl | (simp;done) | (simp [*];done)),H',⟨Nat.le_refl _⟩,⟨by (with_reducible repeat (first | apply Kd.R_alloc | apply Kd.R_drewN | apply Kd.R_drew));exact HO_374000.out⟩,⟨by (with_reducible repeat (first | apply Kd.R_alloc | apply Kd.R_drewN | apply Kd.R_drew));exact HO_374001.out⟩,⟨by (with_reducible repeat (first | apply Kd.S_alloc | apply Kd.S_drewN | apply Kd.S_drew));exact HO_374004.out⟩,⟨by (with_reducible repeat (first | refine blk_drewN ?_ _ | refine blk_drew ?_ | refine blk_alloc ?_ _));exact BK361.out⟩,⟨by (with_reducible repeat (first | refine blk_drewN ?_ _ | refine blk_drew ?_ | refine blk_alloc ?_ _));exact BK373.out⟩,⟨by repeat (first | (with_reducible first | exact HB.out | apply below_alloc | apply pw_below_drewN | apply below_drew1 | refine below_set ?_ GE361.out | refine below_set ?_ GE373.out) | exact HB.out)⟩⟩
         case round =>
          clear H'
          (try clear c1);(try clear c2);(try clear p2);(try clear q2);(try clear c3);(try clear p3);(try clear q3);(try clear hx3);(try clear c4);(try clear p4);(try clear q4);(try clear hx4);(try clear qi4);(try clear hf4);(try clear c5);(try clear p5);(try clear q5);(try clear hx5);(try clear hf5);(try clear c6);(try clear p6);(try clear hx6);(try clear hf6);(try clear c7);(try clear c11);(try clear c11b0)
          (try clear c12);(try clear c13);(try clear c22);(try clear c22b0);(try clear c23);(try clear c23b0);(try clear c24);(try clear c24b0);(try clear c25);(try clear c25b0);(try clear q26);(try clear c27);(try clear c28);(try clear c28b0);(try clear c28b1);(try clear c28b2);(try clear c29);(try clear c30);(try clear c33);(try clear c34);(try clear c38);(try clear p38);(try clear q38);(try clear hx38);(try clear c39)
          (try clear c42);(try clear c43);(try clear c46);(try clear c46b0);(try clear c46b1);(try clear c47);(try clear c47b0);(try clear c47b1);(try clear c48);(try clear p48);(try clear q48);(try clear hx48);(try clear qi48);(try clear hf48);(try clear c49);(try clear p49);(try clear q49);(try clear hx49);(try clear hf49);(try clear c50);(try clear c53);(try clear hx53);(try clear hf53);(try clear c56);(try clear hx56)
          (try clear hf56);(try clear c58);(try clear p58);(try clear q58);(try clear hx58);(try clear hf58);(try clear c59);(try clear c62);(try clear hx62);(try clear hf62);(try clear c64);(try clear p64);(try clear c67);(try clear c67b0);(try clear c68);(try clear hcz14_0);(try clear hcz14_1);(try clear hcz14_2);(try clear hcz14_3);(try clear hcz14_4);(try clear hcz21_0);(try clear hcz21_1);(try clear hcz21_2)
          (try clear hcz21_3);(try clear hcz21_4);(try clear hcz31_0);(try clear hcz31_1);(try clear hcz31_2);(try clear hcz31_3);(try clear hcz31_4);(try clear hcz35_0);(try clear hcz35_1);(try clear hcz36_0);(try clear hcz36_1);(try clear hcz36_2);(try clear hcz36_3);(try clear hcz36_4);(try clear hcz40_0);(try clear hcz40_1);(try clear hcz40_2);(try clear hcz40_3);(try clear hcz40_4);(try clear hcz44_0);(try clear hcz44_1)
          (try clear hcz51_0);(try clear hcz51_1);(try clear hcz51_2);(try clear hcz51_3);(try clear hcz51_4);(try clear hcz55_0);(try clear hcz55_1);(try clear hcz55_2);(try clear hcz55_3);(try clear hcz55_4);(try clear hcz60_0);(try clear hcz60_1);(try clear hcz60_2);(try clear hcz60_3);(try clear hcz60_4);(try clear hcz65_0);(try clear hcz65_1);(try clear hcz65_2);(try clear hcz65_3);(try clear hcz65_4);(try clear hcz69_0)
          (try clear hcz69_1);(try clear hcz69_2);(try clear hcz69_3);(try clear hcz69_4);(try clear hcz8_0);(try clear hcz8_1);(try clear hcz8_2);(try clear hcz8_3);(try clear hcz8_4);(try clear hfz14_0);(try clear hfz14_1);(try clear hfz14_2);(try clear hfz14_3);(try clear hfz14_4);(try clear hfz21_0);(try clear hfz21_1);(try clear hfz21_2);(try clear hfz21_3);(try clear hfz21_4);(try clear hfz31_0);(try clear hfz31_1)
          (try clear hfz31_2);(try clear hfz31_3);(try clear hfz31_4);(try clear hfz35_0);(try clear hfz35_1);(try clear hfz36_0);(try clear hfz36_1);(try clear hfz36_2);(try clear hfz36_3);(try clear hfz36_4);(try clear hfz40_0);(try clear hfz40_1);(try clear hfz40_2);(try clear hfz40_3);(try clear hfz40_4);(try clear hfz44_0);(try clear hfz44_1);(try clear hfz51_0);(try clear hfz51_1);(try clear hfz51_2);(try clear hfz51_3)
          (try clear hfz51_4);(try clear hfz55_0);(try clear hfz55_1);(try clear hfz55_2);(try clear hfz55_3);(try clear hfz55_4);(try clear hfz60_0);(try clear hfz60_1);(try clear hfz60_2);(try clear hfz60_3);(try clear hfz60_4);(try clear hfz65_0);(try clear hfz65_1);(try clear hfz65_2);(try clear hfz65_3);(try clear hfz65_4);(try clear hfz69_0);(try clear hfz69_1);(try clear hfz69_2);(try clear hfz69_3);(try clear hfz69_4)
          (try clear hfz8_0);(try clear hfz8_1);(try clear hfz8_2);(try clear hfz8_3);(try clear hfz8_4);(try clear hx380_0);(try clear hx380_1);(try clear hx381_0);(try clear hx381_1);(try clear hx382_0);(try clear hx382_1);(try clear hx48_0);(try clear hx48_1);(try clear hx49_0);(try clear hx49_1);(try clear hx53_0);(try clear hx53_1);(try clear hx56_1);(try clear hx58_0);(try clear hx58_1);(try clear hx62_1)
          (try clear p2);(try clear p3);(try clear p38);(try clear p380);(try clear p381);(try clear p382);(try clear p4);(try clear p48);(try clear p49);(try clear p5);(try clear p58);(try clear p6);(try clear p64);(try clear q2);(try clear q26);(try clear q3);(try clear q38);(try clear q380);(try clear q381);(try clear q382);(try clear q4);(try clear q48);(try clear q49);(try clear q5);(try clear q58)
          obtain ⟨x9_3,x374004_3,u374004,rfl,HA,HK3,HO_374000,HO_374001,HO_374004,BK361,BK373,HB⟩ := hrel
          cases gk with
          | zero => exact absurd HA.out (by simp [regletlaw14_Clear.l3])
          | succ k3 =>
           have H:=HA.out
           clear HA
           simp only [regletlaw14_Clear.l3] at H
           by_cases c71 : 0 ≤ x8_2
           rotate_left
           · rw [if_neg c71] at H
             exact absurd H (by simp)
           rw [if_pos c71] at H
           have c71b0 : decide (0 ≤ x8_2) = true:=decide_eq_true c71
           clear c71
           by_cases c72 : x8_2 < (x374004_3.length : Int)
           rotate_left
           · rw [if_neg c72] at H
             exact absurd H (by simp)
           rw [if_pos c72] at H
           have c72b0 : decide (x8_2 < (x374004_3.length : Int)) = true:=decide_eq_true c72
           clear c72
           by_cases c73 : x9_3 < (((rd_T30 x374004_3 x8_2).f1).length : Int)
           · rw [if_pos c73] at H
             have c73b0 : decide (x9_3 < (((rd_T30 x374004_3 x8_2).f1).length : Int)) = true:=decide_eq_true c73
             clear c73
             by_cases c74 : 0 ≤ x9_3
             rotate_left
             · rw [if_neg c74] at H
               exact absurd H (by simp)
             rw [if_pos c74] at H
             have c74b0 : decide (0 ≤ x9_3) = true:=decide_eq_true c74
             clear c74
             obtain ⟨bq75,hbq75⟩ : ∃ b_ : Bool,b_ = ((rd_T53 ((rd_T30 x374004_3 x8_2).f1) x9_3).f0) := ⟨_,rfl⟩
             replace H : (if bq75 = true then (if (x374001_1.length : Int) = 0 then (none) else (regletlaw14_Clear.l3 k3 x8_2 (wrap64 (x9_3 + 1)) t362 x374001_1 t368 t369 (x374004_3.set (x8_2 : Int).toNat (⟨(rd_T30 x374004_3 x8_2).f0,(((rd_T30 x374004_3 x8_2).f1).set (x9_3 : Int).toNat (⟨bq75,Int.tmod ((rd_T53 ((rd_T30 x374004_3 x8_2).f1) x9_3).f1) (x374001_1.length : Int)⟩ : S53))⟩ : S30)))) else (regletlaw14_Clear.l3 k3 x8_2 (wrap64 (x9_3 + 1)) t362 x374001_1 t368 t369 x374004_3)) = some (r1,r2,r3,r4,r5) := by rw [← hbq75] at H;exact H
             have Nbq75:=Aside0.mk hbq75
             clear hbq75
             by_cases c76 : bq75 = true
             · subst c76
               have H1 : (if (x374001_1.length : Int) = 0 then (none) else (regletlaw14_Clear.l3 k3 x8_2 (wrap64 (x9_3 + 1)) t362 x374001_1 t368 t369 (x374004_3.set (x8_2 : Int).toNat (⟨(rd_T30 x374004_3 x8_2).f0,(((rd_T30 x374004_3 x8_2).f1).set (x9_3 : Int).toNat (⟨true,Int.tmod ((rd_T53 ((rd_T30 x374004_3 x8_2).f1) x9_3).f1) (x374001_1.length : Int)⟩ : S53))⟩ : S30)))) = some (r1,r2,r3,r4,r5) := by rw [if_pos rfl] at H;exact H
               clear H
               have H:=H1
               clear H1
               by_cases c77 : (x374001_1.length : Int) = 0
               · rw [if_pos c77] at H
                 exact absurd H (by simp)
               rw [if_neg c77] at H
               have c77b0 : ((x374001_1.length : Int) == 0) = false:=beq_eq_false_iff_ne.mpr c77
               have c77b1 : ((x374001_1.length : Int) != 0) = true:=bne_iff_ne.mpr c77
               have c77b2 : ¬ (x374001_1 = []) := fun h_ => c77 (by rw [h_];rfl)
               obtain ⟨y399,hy399⟩ : ∃ y_ : List (S53),y_ = (((rd_T30 x374004_3 x8_2).f1).set (x9_3 : Int).toNat (⟨true,Int.tmod ((rd_T53 ((rd_T30 x374004_3 x8_2).f1) x9_3).f1) (x374001_1.length : Int)⟩ : S53)) := ⟨_,rfl⟩
               replace H : (regletlaw14_Clear.l3 k3 x8_2 (wrap64 (x9_3 + 1)) t362 x374001_1 t368 t369 (x374004_3.set (x8_2 : Int).toNat (⟨(rd_T30 x374004_3 x8_2).f0,y399⟩ : S30))) = some (r1,r2,r3,r4,r5) := by first | (rw [hy399];with_reducible exact H) | (have H2_:=(Option.bind_some _ _).symm.trans H;rw [hy399];with_reducible exact H2_) | (have H2_:=(Option.bind_some _ _).symm.trans H;with_reducible exact H2_) | with_reducible exact H | (rw [hy399];exact H) | exact H
               have Ny399:=Aside0.mk hy399
               clear hy399
               obtain ⟨y401,hy401⟩ : ∃ y_ : List (S30),y_ = (x374004_3.set (x8_2 : Int).toNat (⟨(rd_T30 x374004_3 x8_2).f0,y399⟩ : S30)) := ⟨_,rfl⟩
               replace H : (regletlaw14_Clear.l3 k3 x8_2 (wrap64 (x9_3 + 1)) t362 x374001_1 t368 t369 y401) = some (r1,r2,r3,r4,r5) := by first | (rw [hy401];with_reducible exact H) | (have H2_:=(Option.bind_some _ _).symm.trans H;rw [hy401];with_reducible exact H2_) | (have H2_:=(Option.bind_some _ _).symm.trans H;with_reducible exact H2_) | with_reducible exact H | (rw [hy401];exact H) | exact H
               have Ny401:=Aside0.mk hy401
               clear hy401
               have H' := Aside0.mk H
               clear H
               have hnb79:=NB373_361.out
               have hnc79:=NB361_373.out
               have hcz80_0 : wr.cell? ⟨gb373,0,none⟩ = some (.slice Ao6 t362.length co6) := (blk_cell BK373.out 0).trans rfl
               have hcz80_1 : wr.cell? ⟨gb373,1,none⟩ = some (u374001) := (blk_cell BK373.out 1).trans rfl
               have hcz80_2 : wr.cell? ⟨gb373,2,none⟩ = some (.int .i64 t368) := (blk_cell BK373.out 2).trans rfl
               have hcz80_3 : wr.cell? ⟨gb373,3,none⟩ = some (.int .i64 t369) := (blk_cell BK373.out 3).trans rfl
               have hcz80_4 : wr.cell? ⟨gb373,4,none⟩ = some (u374004) := (blk_cell BK373.out 4).trans rfl
               have hfz80_0:=blk_frozen BK373.out 0
               have hfz80_1:=blk_frozen BK373.out 1
               have hfz80_2:=blk_frozen BK373.out 2
               have hfz80_3:=blk_frozen BK373.out 3
               have hfz80_4:=blk_frozen BK373.out 4
               obtain ⟨Ao81,co81,eo81⟩ := Kd.S_slice HO_374004.out
               subst eo81
               have p393 : 0 ≤ (x8_2 : Int) := of_decide_eq_true (by first | (with_reducible assumption) | assumption)
               have q393 : x8_2 < (x374004_3.length : Int) := of_decide_eq_true (by first | (with_reducible assumption) | assumption)
               obtain ⟨ad393,A393_1,c393_1,e393,hx393_0,hx393_1,hl393_1,hi393_1⟩ := at_T30 (Kd.S_reads' HO_374004.out).2.2 x8_2 p393 q393
               cases e393
               obtain ⟨ce393,hce393,hMe393,hcc393⟩ := Kd.S_get HO_374004.out z30 x8_2 p393 (by first | exact q393 | exact of_decide_eq_true (by first | (with_reducible assumption) | assumption) | (have e_:=(Kd.S_reads' HO_374004.out).1;omega))
               obtain ⟨ve393_1,rfl,ge393_1⟩ := k30_openM hMe393
               have hv393_1:=hcc393 1 _ rfl
               rw [add_field _ _ 1 (by omega)] at hv393_1
               replace hv393_1:=Option.some.inj (hv393_1.symm.trans hx393_1)
               rw [hv393_1] at ge393_1
               have HL393_1:=Aside0.mk (show Kd.R k53 53 _ _ _ _ ((rd_T30 x374004_3 x8_2).f1) from ge393_1)
               clear hv393_1 ge393_1
               have HX393_1:=Aside0.mk hx393_1
               clear hcc393 hce393
               have HR393_1:=Aside0.mk hi393_1
               have HC393_1:=Aside0.mk hl393_1
               clear hi393_1 hl393_1
               replace p393:=eq_true p393
               replace q393:=eq_true q393
               have p394 : 0 ≤ (x8_2 : Int) := of_decide_eq_true (by first | (with_reducible assumption) | assumption)
               have q394 : x8_2 < (x374004_3.length : Int) := of_decide_eq_true (by first | (with_reducible assumption) | assumption)
               obtain ⟨ad394,A394_1,c394_1,e394,hx394_0,hx394_1,hl394_1,hi394_1⟩ := at_T30 (Kd.S_reads' HO_374004.out).2.2 x8_2 p394 q394
               obtain rfl : ad393 = ad394:=(by injection e394)
               obtain ⟨ce394,hce394,hMe394,hcc394⟩ := Kd.S_get HO_374004.out z30 x8_2 p394 (by first | exact q394 | exact of_decide_eq_true (by first | (with_reducible assumption) | assumption) | (have e_:=(Kd.S_reads' HO_374004.out).1;omega))
               obtain ⟨ve394_1,rfl,ge394_1⟩ := k30_openM hMe394
               have hv394_1:=hcc394 1 _ rfl
               rw [add_field _ _ 1 (by omega)] at hv394_1
               replace hv394_1:=Option.some.inj (hv394_1.symm.trans hx394_1)
               rw [hv394_1] at ge394_1
               have HL394_1:=Aside0.mk (show Kd.R k53 53 _ _ _ _ ((rd_T30 x374004_3 x8_2).f1) from ge394_1)
               clear hv394_1 ge394_1
               have HX394_1:=Aside0.mk hx394_1
               clear hcc394 hce394
               have HR394_1:=Aside0.mk hi394_1
               have HC394_1:=Aside0.mk hl394_1
               clear hi394_1 hl394_1
               replace p394:=eq_true p394
               replace q394:=eq_true q394
               have ea_:=Option.some.inj (hx393_1.symm.trans hx394_1)
               injection ea_ with ea_ en_ ec_
               subst ea_
               subst ec_
               clear en_
               have p395 : 0 ≤ (x9_3 : Int) := of_decide_eq_true (by first | (with_reducible assumption) | assumption)
               have q395 : x9_3 < (((rd_T30 x374004_3 x8_2).f1).length : Int) := of_decide_eq_true (by first | (with_reducible assumption) | assumption)
               obtain ⟨ad395,e395,hx395_0,hx395_1⟩ := at_T53 (by repeat (first | (with_reducible exact HR394_1.out) | (with_reducible refine Kd.C_alloc ?_ _) | (with_reducible refine Kd.C_drewN ?_ _) | (with_reducible refine Kd.C_drew ?_) | exact HR394_1.out)) x9_3 p395 q395
               (try rw [← Nbq75.out] at hx395_0)
               cases e395
               replace p395:=eq_true p395
               replace q395:=eq_true q395
               try go_wp2
               have n0_:=Aside0.mk (Kd.R_drew HO_374000.out)
               have n1_:=Aside0.mk (Kd.R_drew HO_374001.out)
               have n2_:=Aside0.mk (Kd.S_drew HO_374004.out)
               have n3_:=Aside0.mk (Kd.R_drew HL393_1.out)
               have n4_:=Aside0.mk (Kd.R_drew HL394_1.out)
               have n5_:=Aside0.mk (blk_drew BK361.out)
               have n6_:=Aside0.mk (blk_drew BK373.out)
               have n7_:=Aside0.mk (Kd.C_drew HR393_1.out)
               have n8_:=Aside0.mk (Kd.C_drew HR394_1.out)
               have n9_:=Aside0.mk (below_drew1 HB.out)
               clear HO_374000
               clear HO_374001
               clear HO_374004
               clear HL393_1
               clear HL394_1
               clear BK361
               clear BK373
               clear HR393_1
               clear HR394_1
               clear HB
               have HO_374000:=n0_
               have HO_374001:=n1_
               have HO_374004:=n2_
               have HL393_1:=n3_
               have HL394_1:=n4_
               have BK361:=n5_
               have BK373:=n6_
               have HR393_1:=n7_
               have HR394_1:=n8_
               have HB:=n9_
               clear n0_ n1_ n2_ n3_ n4_ n5_ n6_ n7_ n8_ n9_
               have p396 : 0 ≤ (x8_2 : Int) := of_decide_eq_true (by first | (with_reducible assumption) | assumption)
               have q396 : x8_2 < (x374004_3.length : Int) := of_decide_eq_true (by first | (with_reducible assumption) | assumption)
               obtain ⟨ad396,A396_1,c396_1,e396,hx396_0,hx396_1,hl396_1,hi396_1⟩ := at_T30 (Kd.S_reads' HO_374004.out).2.2 x8_2 p396 q396
               obtain rfl : ad393 = ad396:=(by injection e396)
               obtain ⟨ce396,hce396,hMe396,hcc396⟩ := Kd.S_get HO_374004.out z30 x8_2 p396 (by first | exact q396 | exact of_decide_eq_true (by first | (with_reducible assumption) | assumption) | (have e_:=(Kd.S_reads' HO_374004.out).1;omega))
               obtain ⟨ve396_1,rfl,ge396_1⟩ := k30_openM hMe396
               have hv396_1:=hcc396 1 _ rfl
               rw [add_field _ _ 1 (by omega)] at hv396_1
               replace hv396_1:=Option.some.inj (hv396_1.symm.trans hx396_1)
               rw [hv396_1] at ge396_1
               have HL396_1:=Aside0.mk (show Kd.R k53 53 _ _ _ _ ((rd_T30 x374004_3 x8_2).f1) from ge396_1)
               clear hv396_1 ge396_1
               have HX396_1:=Aside0.mk hx396_1
               clear hcc396 hce396
               have HR396_1:=Aside0.mk hi396_1
               have HC396_1:=Aside0.mk hl396_1
               clear hi396_1 hl396_1
               replace p396:=eq_true p396
               replace q396:=eq_true q396
               have p397 : 0 ≤ (x8_2 : Int) := of_decide_eq_true (by first | (with_reducible assumption) | assumption)
               have q397 : x8_2 < (x374004_3.length : Int) := of_decide_eq_true (by first | (with_reducible assumption) | assumption)
               obtain ⟨ad397,A397_1,c397_1,e397,hx397_0,hx397_1,hl397_1,hi397_1⟩ := at_T30 (Kd.S_reads' HO_374004.out).2.2 x8_2 p397 q397
               obtain rfl : ad393 = ad397:=(by injection e397)
               obtain ⟨ce397,hce397,hMe397,hcc397⟩ := Kd.S_get HO_374004.out z30 x8_2 p397 (by first | exact q397 | exact of_decide_eq_true (by first | (with_reducible assumption) | assumption) | (have e_:=(Kd.S_reads' HO_374004.out).1;omega))
               obtain ⟨ve397_1,rfl,ge397_1⟩ := k30_openM hMe397
               have hv397_1:=hcc397 1 _ rfl
               rw [add_field _ _ 1 (by omega)] at hv397_1
               replace hv397_1:=Option.some.inj (hv397_1.symm.trans hx397_1)
               rw [hv397_1] at ge397_1
               have HL397_1:=Aside0.mk (show Kd.R k53 53 _ _ _ _ ((rd_T30 x374004_3 x8_2).f1) from ge397_1)
               clear hv397_1 ge397_1
               have HX397_1:=Aside0.mk hx397_1
               clear hcc397 hce397
               have HR397_1:=Aside0.mk hi397_1
               have HC397_1:=Aside0.mk hl397_1
               clear hi397_1 hl397_1
               replace p397:=eq_true p397
               replace q397:=eq_true q397
               have ea_:=Option.some.inj (hx396_1.symm.trans hx397_1)
               injection ea_ with ea_ en_ ec_
               subst ea_
               subst ec_
               clear en_
               have p398 : 0 ≤ (x9_3 : Int) := of_decide_eq_true (by first | (with_reducible assumption) | assumption)
               have q398 : x9_3 < (((rd_T30 x374004_3 x8_2).f1).length : Int) := of_decide_eq_true (by first | (with_reducible assumption) | assumption)
               obtain ⟨ad398,e398,hx398_0,hx398_1⟩ := at_T53 (by repeat (first | (with_reducible exact HR397_1.out) | (with_reducible refine Kd.C_alloc ?_ _) | (with_reducible refine Kd.C_drewN ?_ _) | (with_reducible refine Kd.C_drew ?_) | exact HR397_1.out)) x9_3 p398 q398
               (try rw [← Nbq75.out] at hx398_0)
               cases e398
               replace p398:=eq_true p398
               replace q398:=eq_true q398
               obtain ⟨Ao83,co83,eo83⟩ := Kd.R_slice HO_374001.out
               (first | subst eo83 | (injection eo83 with f1_ f2_ f3_;have f4_:=f1_.symm;have f5_:=f3_.symm;clear f1_ f2_ f3_;subst f4_;subst f5_))
               have p78 : 0 ≤ (x9_3 : Int) := of_decide_eq_true (by first | (with_reducible assumption) | assumption)
               have q78 : (x9_3 : Int) < ((((rd_T30 x374004_3 x8_2).f1).length : Int) : Int) := of_decide_eq_true (by first | (with_reducible assumption) | assumption)
               obtain ⟨go78,co78,eo78,gb78,gl78,cl78,HG78⟩ := Kd.R_form HL396_1.out (by omega)
               (first | cases eo78 | (injection eo78 with ea_ en_ ec_;(first | subst ea_ | (injection ea_ with ea_;subst ea_));subst ec_;clear en_))
               have GB78:=Aside0.mk gb78
               have GG78:=Aside0.mk HG78
               clear gb78 gl78 HG78
               (first | simp only [add_plain] at hx398_0 | skip)
               (first | simp only [add_plain] at hx398_1 | skip)
               obtain ⟨ce78,hcl78,hM78,hcc78,hfr78⟩ := Kd.R_elem HL396_1.out z53 (x9_3 : Int) p78 q78
               obtain rfl:=k53_openM hM78
               have hx78_0 : World.cell? _ ⟨go78,(x9_3 : Int).toNat * 2,none⟩ = some (.bool ((rd_T53 ((rd_T30 x374004_3 x8_2).f1) x9_3).f0)) := hcc78 0 _ rfl
               have hx78_1 : World.cell? _ ⟨go78,(x9_3 : Int).toNat * 2 + 1,none⟩ = some (.int .i64 ((rd_T53 ((rd_T30 x374004_3 x8_2).f1) x9_3).f1)) := hcc78 1 _ rfl
               have hf78_0 : World.frozen? _ ⟨go78,(x9_3 : Int).toNat * 2,none⟩ = false:=hfr78 0
               have hf78_1 : World.frozen? _ ⟨go78,(x9_3 : Int).toNat * 2 + 1,none⟩ = false:=hfr78 1
               clear hcl78 hcc78 hfr78;(try clear hM78)
               replace p78:=eq_true p78
               replace q78:=eq_true q78
               have hq84 : (x8_2 : Int) < (x374004_3.length : Int) := (by have h_ : (x8_2 : Int) < ((x374004_3.length : Int) : Int) := of_decide_eq_true (by first | (with_reducible assumption) | assumption);first | exact h_ | (have e_:=(Kd.S_reads' HO_374004.out).1;omega) | simpa only [List.length_set,List.length_set] using h_)
               obtain ⟨oki84,ce84,hcl84,hM84,hcc84,hok84,hbk84⟩ := Kd.S_borrow HO_374004.out z30 (x8_2 : Int) (of_decide_eq_true (by first | (with_reducible assumption) | assumption)) hq84
               obtain ⟨ve84_1,rfl,ge84_1⟩ := k30_openM hM84
               have hv84:=hcc84 1 _ rfl
               rw [add_field _ _ 1 (by omega)] at hv84
               replace hv84:=Option.some.inj (hv84.symm.trans HX396_1.out)
               subst hv84
               clear hcc84 hcl84
               replace ge84_1:=(show Kd.R k53 53 _ _ _ _ ((rd_T30 x374004_3 x8_2).f1) from ge84_1)
               obtain ⟨cf84,hcl84,hN84,hcc84,hfr84⟩ := Kd.R_elem ge84_1 z53 (x9_3 : Int) (of_decide_eq_true (by first | (with_reducible assumption) | assumption)) (by have h_ : (x9_3 : Int) < ((((rd_T30 x374004_3 x8_2).f1).length : Int) : Int) := of_decide_eq_true (by first | (with_reducible assumption) | assumption);first | exact h_ | (have e_:=(Kd.R_reads' HR396_1.out).1;omega) | simpa using h_)
               obtain rfl:=k53_openM hN84
               have HP84:=Kd.R_seg ge84_1 (x9_3 : Int) (of_decide_eq_true (by first | (with_reducible assumption) | assumption)) (by have h_ : (x9_3 : Int) < ((((rd_T30 x374004_3 x8_2).f1).length : Int) : Int) := of_decide_eq_true (by first | (with_reducible assumption) | assumption);first | exact h_ | (have e_:=(Kd.R_reads' HR396_1.out).1;omega) | simpa using h_) (seg := [.int .i64 (Int.tmod ((rd_T53 ((rd_T30 x374004_3 x8_2).f1) x9_3).f1) (x374001_1.length : Int))]) (j:=1) hcl84 hcc84 (show 2 ≤ 2 from by decide) (x' := (⟨true,Int.tmod ((rd_T53 ((rd_T30 x374004_3 x8_2).f1) x9_3).f1) (x374001_1.length : Int)⟩ : S53)) (by have e_ : (((rd_T30 x374004_3 x8_2).f1).getD (x9_3 : Int).toNat z53).f0 = true:=Nbq75.out.symm;rw [e_];exact (k53_mkM _ _ _ (⟨true,Int.tmod ((rd_T53 ((rd_T30 x374004_3 x8_2).f1) x9_3).f1) (x374001_1.length : Int)⟩ : S53))) (fun _ hk => hk)
               clear hcl84 hcc84 hfr84 hN84
               rw [← Ny399.out] at HP84
               have HS84:=hbk84 HP84.2 (fun k_ e_ => by injection e_ with e_;subst e_;exact ge84_1.1 _ rfl) (x' := (⟨(rd_T30 x374004_3 x8_2).f0,y399⟩ : S30)) (k30_mkM _ _ _ (⟨(rd_T30 x374004_3 x8_2).f0,y399⟩ : S30) HP84.1)
               rw [← Ny401.out] at HS84
               have HQ84:=Aside0.mk HS84
               clear HP84 HS84 hbk84 hok84
               refine start_ (n:=24) (S:=fun w' => w'.cell? ⟨gb373,0,none⟩ = some (.slice Ao6 t362.length co6) ∧ w'.cell? ⟨gb373,1,none⟩ = some (.slice Ao83 x374001_1.length co83) ∧ w'.cell? ⟨gb373,2,none⟩ = some (.int .i64 t368) ∧ w'.cell? ⟨gb373,3,none⟩ = some (.int .i64 t369) ∧ w'.cell? ⟨gb373,4,none⟩ = some (.slice (some ad393) x374004_3.length co81) ∧ w'.cell? (ad393.add ((x8_2).toNat * 2)) = some (.int .i64 ((rd_T30 x374004_3 x8_2).f0)) ∧ w'.cell? ⟨(ad393.add ((x8_2).toNat * 2)).block,(ad393.add ((x8_2).toNat * 2)).off + 1,none⟩ = some (.slice (some (⟨go78,0,none⟩ : Addr)) ((rd_T30 x374004_3 x8_2).f1).length c396_1) ∧ w'.cell? (ad393.add ((x8_2).toNat * 2)) = some (.int .i64 ((rd_T30 x374004_3 x8_2).f0)) ∧ w'.cell? ⟨(ad393.add ((x8_2).toNat * 2)).block,(ad393.add ((x8_2).toNat * 2)).off + 1,none⟩ = some (.slice (some (⟨go78,0,none⟩ : Addr)) ((rd_T30 x374004_3 x8_2).f1).length c396_1) ∧ w'.cell? ⟨go78,((x9_3).toNat * 2),none⟩ = some (.bool (true)) ∧ w'.cell? ⟨go78,((x9_3).toNat * 2) + 1,none⟩ = some (.int .i64 ((rd_T53 ((rd_T30 x374004_3 x8_2).f1) x9_3).f1))) (ds := [23]) #[F,F,F,F,F,F,F,F,F,F,F,F,F,F,F,F,F,F,F,F,F,F,F,F] (by kernel_rfl) rfl rfl ⟨(blk_cell BK373.out 0).trans rfl,(blk_cell BK373.out 1).trans rfl,(blk_cell BK373.out 2).trans rfl,(blk_cell BK373.out 3).trans rfl,(blk_cell BK373.out 4).trans rfl,hx396_0,hx396_1,hx397_0,hx397_1,hx398_0,hx398_1⟩ (fun hHeld => ?_);refine with_tabW regletlaw14_Clear.tab25 regletlaw14_Clear.bits25 (fun HT_ HW_ => ?_)
               generalize wr.drew = w82 at HO_374000 HO_374001 HO_374004 HL393_1 HL394_1 BK361 BK373 HR393_1 HR394_1 HB GG78 HL396_1 HL397_1 HQ84 HR396_1 HR397_1 HX396_1 HX397_1 hf78_0 hf78_1 hx396_0 hx396_1 hx397_0 hx397_1 hx398_0 hx398_1 hx78_0 hx78_1 hHeld ⊢
               refine pure_ (i:=0) (N:=some 104) (v:=?_) (a' := ?_) #[T,F,F,F,F,F,F,F,F,F,F,F,F,F,F,F,F,F,F,F,F,F,F,F] rfl rfl (any_of HT_.out (by kernel_rfl)) (fun _ _ _ h => h) (Or.inl ⟨by rfl,?_⟩) ?_ ?_
               rotate_left;(intro w';go_simp;with_reducible rfl);rotate_left;(simp only [pq];rfl)
               refine pure_ (i:=2) (N:=some 106) (v:=?_) (a' := ?_) #[T,F,T,F,F,F,F,F,F,F,F,F,F,F,F,F,F,F,F,F,F,F,F,F] rfl rfl (any_of HT_.out (by kernel_rfl)) (fun _ _ _ h => h) (Or.inl ⟨by rfl,?_⟩) ?_ ?_
               rotate_left;(intro w';go_simp;with_reducible rfl);rotate_left;(simp only [pq];rfl)
               refine pure_ (i:=6) (N:=some 110) (v:=?_) (a' := ?_) #[T,F,T,F,F,F,T,F,F,F,F,F,F,F,F,F,F,F,F,F,F,F,F,F] rfl rfl (any_of HT_.out (by kernel_rfl)) (fun _ _ _ h => h) (Or.inl ⟨by rfl,?_⟩) ?_ ?_
               rotate_left;(intro w';go_simp;with_reducible rfl);rotate_left;(simp only [pq];rfl)
               refine pure_ (i:=7) (N:=some 111) (v:=?_) (a' := ?_) #[T,F,T,F,F,F,T,T,F,F,F,F,F,F,F,F,F,F,F,F,F,F,F,F] rfl rfl (any_of HT_.out (by kernel_rfl)) (fun _ _ _ h => h) (Or.inl ⟨by rfl,?_⟩) ?_ ?_
               rotate_left;(intro w';go_simp;with_reducible rfl);rotate_left;(simp only [pq];rfl)
               refine pure_ (i:=9) (N:=some 113) (v:=?_) (a' := ?_) #[T,F,T,F,F,F,T,T,F,T,F,F,F,F,F,F,F,F,F,F,F,F,F,F] rfl rfl (any_of HT_.out (by kernel_rfl)) (fun _ _ _ h => h) (Or.inl ⟨by rfl,?_⟩) ?_ ?_
               rotate_left;(intro w';go_simp;with_reducible rfl);rotate_left;(simp only [pq];rfl)
               refine pure_ (i:=13) (N:=some 117) (v:=?_) (a' := ?_) #[T,F,T,F,F,F,T,T,F,T,F,F,F,T,F,F,F,F,F,F,F,F,F,F] rfl rfl (any_of HT_.out (by kernel_rfl)) (fun _ _ _ h => h) (Or.inl ⟨by rfl,?_⟩) ?_ ?_
               rotate_left;(intro w';go_simp;with_reducible rfl);rotate_left;(simp only [pq];rfl)
               refine pure_ (i:=17) (N:=some 121) (v:=?_) (a' := ?_) #[T,F,T,F,F,F,T,T,F,T,F,F,F,T,F,F,F,T,F,F,F,F,F,F] rfl rfl (any_of HT_.out (by kernel_rfl)) (fun _ _ _ h => h) (Or.inl ⟨by rfl,?_⟩) ?_ ?_
               rotate_left;(intro w';go_simp;with_reducible rfl);rotate_left;(simp only [pq];rfl)
               refine take_ (i:=1) (N:=some 105) (v:=?_) (a' := ?_) #[T,T,T,F,F,F,T,T,F,T,F,F,F,T,F,F,F,T,F,F,F,F,F,F] rfl rfl (take_ofW HT_.out HW_.out (by kernel_rfl)) (fun _ _ _ h => h) (Or.inl ⟨by rfl,?_⟩) hHeld ?_ ?_
               rotate_left
               · rintro w' ⟨s0,s1,s2,s3,s4,s5,s6,s7,s8,s9,s10⟩
                 go_simp
                 with_reducible rfl
               rotate_left
               · simp only [pq]
                 rfl
               refine pure_ (i:=3) (N:=some 107) (v:=?_) (a' := ?_) #[T,T,T,T,F,F,T,T,F,T,F,F,F,T,F,F,F,T,F,F,F,F,F,F] rfl rfl (any_of HT_.out (by kernel_rfl)) (fun _ _ _ h => h) (Or.inl ⟨by rfl,?_⟩) ?_ ?_
               rotate_left;(intro w';go_simp;with_reducible rfl);rotate_left;(simp only [pq];rfl)
               refine pure_ (i:=4) (N:=some 108) (v:=?_) (a' := ?_) #[T,T,T,T,T,F,T,T,F,T,F,F,F,T,F,F,F,T,F,F,F,F,F,F] rfl rfl (any_of HT_.out (by kernel_rfl)) (fun _ _ _ h => h) (Or.inl ⟨by rfl,?_⟩) ?_ ?_
               rotate_left;(intro w';go_simp;with_reducible rfl);rotate_left;(simp only [pq];rfl)
               refine take_ (i:=5) (N:=some 109) (v:=?_) (a' := ?_) #[T,T,T,T,T,T,T,T,F,T,F,F,F,T,F,F,F,T,F,F,F,F,F,F] rfl rfl (take_ofW HT_.out HW_.out (by kernel_rfl)) (fun _ _ _ h => h) (Or.inl ⟨by rfl,?_⟩) hHeld ?_ ?_
               rotate_left
               · rintro w' ⟨s0,s1,s2,s3,s4,s5,s6,s7,s8,s9,s10⟩
                 go_simp
                 with_reducible rfl
               rotate_left
               · simp only [pq]
                 rfl
               refine take_ (i:=8) (N:=some 112) (v:=?_) (a' := ?_) #[T,T,T,T,T,T,T,T,T,T,F,F,F,T,F,F,F,T,F,F,F,F,F,F] rfl rfl (take_ofW HT_.out HW_.out (by kernel_rfl)) (fun _ _ _ h => h) (Or.inl ⟨by rfl,?_⟩) hHeld ?_ ?_
               rotate_left
               · rintro w' ⟨s0,s1,s2,s3,s4,s5,s6,s7,s8,s9,s10⟩
                 go_simp
                 with_reducible rfl
               rotate_left
               · simp only [pq]
                 rfl
               refine pure_ (i:=10) (N:=some 114) (v:=?_) (a' := ?_) #[T,T,T,T,T,T,T,T,T,T,T,F,F,T,F,F,F,T,F,F,F,F,F,F] rfl rfl (any_of HT_.out (by kernel_rfl)) (fun _ _ _ h => h) (Or.inl ⟨by rfl,?_⟩) ?_ ?_
               rotate_left;(intro w';go_simp;with_reducible rfl);rotate_left;(simp only [pq];rfl)
               refine pure_ (i:=11) (N:=some 115) (v:=?_) (a' := ?_) #[T,T,T,T,T,T,T,T,T,T,T,T,F,T,F,F,F,T,F,F,F,F,F,F] rfl rfl (any_of HT_.out (by kernel_rfl)) (fun _ _ _ h => h) (Or.inl ⟨by rfl,?_⟩) ?_ ?_
               rotate_left;(intro w';go_simp;with_reducible rfl);rotate_left;(simp only [pq];rfl)
               refine take_ (i:=12) (N:=some 116) (v:=?_) (a' := ?_) #[T,T,T,T,T,T,T,T,T,T,T,T,T,T,F,F,F,T,F,F,F,F,F,F] rfl rfl (take_ofW HT_.out HW_.out (by kernel_rfl)) (fun _ _ _ h => h) (Or.inl ⟨by rfl,?_⟩) hHeld ?_ ?_
               rotate_left
               · rintro w' ⟨s0,s1,s2,s3,s4,s5,s6,s7,s8,s9,s10⟩
                 go_simp
                 with_reducible rfl
               rotate_left
               · simp only [pq]
                 rfl
               refine pure_ (i:=14) (N:=some 118) (v:=?_) (a' := ?_) #[T,T,T,T,T,T,T,T,T,T,T,T,T,T,T,F,F,T,F,F,F,F,F,F] rfl rfl (any_of HT_.out (by kernel_rfl)) (fun _ _ _ h => h) (Or.inl ⟨by rfl,?_⟩) ?_ ?_
               rotate_left;(intro w';go_simp;with_reducible rfl);rotate_left;(simp only [pq];rfl)
               refine pure_ (i:=15) (N:=some 119) (v:=?_) (a' := ?_) #[T,T,T,T,T,T,T,T,T,T,T,T,T,T,T,T,F,T,F,F,F,F,F,F] rfl rfl (any_of HT_.out (by kernel_rfl)) (fun _ _ _ h => h) (Or.inl ⟨by rfl,?_⟩) ?_ ?_
               rotate_left;(intro w';go_simp;with_reducible rfl);rotate_left;(simp only [pq];rfl)
               refine take_ (i:=16) (N:=some 120) (v:=?_) (a' := ?_) #[T,T,T,T,T,T,T,T,T,T,T,T,T,T,T,T,T,T,F,F,F,F,F,F] rfl rfl (take_ofW HT_.out HW_.out (by kernel_rfl)) (fun _ _ _ h => h) (Or.inl ⟨by rfl,?_⟩) hHeld ?_ ?_
               rotate_left
               · rintro w' ⟨s0,s1,s2,s3,s4,s5,s6,s7,s8,s9,s10⟩
                 go_simp
                 with_reducible rfl
               rotate_left
               · simp only [pq]
                 rfl
               refine take_ (i:=18) (N:=some 122) (v:=?_) (a' := ?_) #[T,T,T,T,T,T,T,T,T,T,T,T,T,T,T,T,T,T,T,F,F,F,F,F] rfl rfl (take_ofW HT_.out HW_.out (by kernel_rfl)) (fun _ _ _ h => h) (Or.inl ⟨by rfl,?_⟩) hHeld ?_ ?_
               rotate_left
               · rintro w' ⟨s0,s1,s2,s3,s4,s5,s6,s7,s8,s9,s10⟩
                 go_simp
                 with_reducible rfl
               rotate_left
               · simp only [pq]
                 rfl
               refine pure_ (i:=19) (N:=some 123) (v:=?_) (a' := ?_) #[T,T,T,T,T,T,T,T,T,T,T,T,T,T,T,T,T,T,T,T,F,F,F,F] rfl rfl (any_of HT_.out (by kernel_rfl)) (fun _ _ _ h => h) (Or.inl ⟨by rfl,?_⟩) ?_ ?_
               rotate_left;(intro w';go_simp;with_reducible rfl);rotate_left;(simp only [pq];rfl)
               refine pure_ (i:=20) (N:=some 124) (v:=?_) (a' := ?_) #[T,T,T,T,T,T,T,T,T,T,T,T,T,T,T,T,T,T,T,T,T,F,F,F] rfl rfl (any_of HT_.out (by kernel_rfl)) (fun _ _ _ h => h) (Or.inl ⟨by rfl,?_⟩) ?_ ?_
               rotate_left;(intro w';go_simp;with_reducible rfl);rotate_left;(simp only [pq];rfl)
               refine pure_ (i:=21) (N:=some 125) (v:=?_) (a' := ?_) #[T,T,T,T,T,T,T,T,T,T,T,T,T,T,T,T,T,T,T,T,T,T,F,F] rfl rfl (any_of HT_.out (by kernel_rfl)) (fun _ _ _ h => h) (Or.inl ⟨by rfl,?_⟩) ?_ ?_
               rotate_left;(intro w';go_simp;with_reducible rfl);rotate_left;(simp only [pq];rfl)
               refine pure_ (i:=22) (N:=some 126) (v:=?_) (a' := ?_) #[T,T,T,T,T,T,T,T,T,T,T,T,T,T,T,T,T,T,T,T,T,T,T,F] rfl rfl (any_of HT_.out (by kernel_rfl)) (fun _ _ _ h => h) (Or.inl ⟨by rfl,?_⟩) ?_ ?_
               rotate_left;(intro w';go_simp;with_reducible rfl);rotate_left;(simp only [pq];rfl)
               refine last_ (i:=23) (N:=none) #[T,T,T,T,T,T,T,T,T,T,T,T,T,T,T,T,T,T,T,T,T,T,T,T] rfl rfl (one_of HT_.out (by kernel_rfl)) (by decide) (fun K hK => ?_)
               refine skip_ (w1:=?_) (by rfl) rfl ?_ ?_
               rotate_left
               · go_simp
                 rfl
               refine hK.out _ _ ?_
               clear hK K
               refine done_ (done_of HT_.out (by kernel_rfl)) ?_
               try go_wp2
               go_roundg k3
               case measure => have:=HK1.out;have:=HK2.out;have:=HK3.out;omega
               case rel => exact ⟨(wrap64 (x9_3 + 1)),(y401),(.slice (some ad393) x374004_3.length co81),(by first | rfl | (simp;done) | (simp [*];done)),H',⟨by have:=HK1.out;have:=HK2.out;have:=HK3.out;omega⟩,⟨by (with_reducible repeat (first | apply Kd.R_alloc | apply Kd.R_drewN | apply Kd.R_drew));exact Kd.R_mono (Kd.R_far (p:=⟨go78,(x9_3 : Int).toNat * 2 + 1,none⟩) (Kd.R_types HO_374000.out GG78.out (by decide)) (fun _ hk => hk.2) (.int .i64 (Int.tmod ((rd_T53 ((rd_T30 x374004_3 x8_2).f1) x9_3).f1) (x374001_1.length : Int)))) (fun _ hk => trivial)⟩,⟨by (with_reducible repeat (first | apply Kd.R_alloc | apply Kd.R_drewN | apply Kd.R_drew));exact Kd.R_mono (Kd.R_far (p:=⟨go78,(x9_3 : Int).toNat * 2 + 1,none⟩) (Kd.R_types HO_374001.out GG78.out (by decide)) (fun _ hk => hk.2) (.int .i64 (Int.tmod ((rd_T53 ((rd_T30 x374004_3 x8_2).f1) x9_3).f1) (x374001_1.length : Int)))) (fun _ hk => trivial)⟩,⟨by (with_reducible repeat (first | apply Kd.S_alloc | apply Kd.S_drewN | apply Kd.S_drew));exact HQ84.out⟩,⟨by (with_reducible repeat (first | refine blk_drewN ?_ _ | refine blk_drew ?_ | refine blk_alloc ?_ _));refine blk_far ?_ (by have h_:=Kd.R_ne HL396_1.out BK361.out (by decide);intro e_;exact h_ (by rw [e_];rfl)) _;(with_reducible repeat (first | refine blk_drewN ?_ _ | refine blk_drew ?_ | refine blk_alloc ?_ _));exact BK361.out⟩,⟨by (with_reducible repeat (first | refine blk_drewN ?_ _ | refine blk_drew ?_ | refine blk_alloc ?_ _));refine blk_far ?_ (by have h_:=Kd.R_ne HL396_1.out BK373.out (by decide);intro e_;exact h_ (by rw [e_];rfl)) _;(with_reducible repeat (first | refine blk_drewN ?_ _ | refine blk_drew ?_ | refine blk_alloc ?_ _));exact BK373.out⟩,⟨by repeat (first | (with_reducible first | exact HB.out | apply below_alloc | apply pw_below_drewN | apply below_drew1 | refine below_set ?_ GB78.out | refine below_set ?_ GE361.out | refine below_set ?_ GE373.out) | exact HB.out)⟩⟩
             · replace c76:=Bool.eq_false_iff.mpr c76
               subst c76
               have H1 : (regletlaw14_Clear.l3 k3 x8_2 (wrap64 (x9_3 + 1)) t362 x374001_1 t368 t369 x374004_3) = some (r1,r2,r3,r4,r5) := by rw [if_neg (show ¬ (false = true) by decide)] at H;exact H
               clear H
               have H:=H1
               clear H1
               have H' := Aside0.mk H
               clear H
               have hnb86:=NB373_361.out
               have hnc86:=NB361_373.out
               have hcz87_0 : wr.cell? ⟨gb373,0,none⟩ = some (.slice Ao6 t362.length co6) := (blk_cell BK373.out 0).trans rfl
               have hcz87_1 : wr.cell? ⟨gb373,1,none⟩ = some (u374001) := (blk_cell BK373.out 1).trans rfl
               have hcz87_2 : wr.cell? ⟨gb373,2,none⟩ = some (.int .i64 t368) := (blk_cell BK373.out 2).trans rfl
               have hcz87_3 : wr.cell? ⟨gb373,3,none⟩ = some (.int .i64 t369) := (blk_cell BK373.out 3).trans rfl
               have hcz87_4 : wr.cell? ⟨gb373,4,none⟩ = some (u374004) := (blk_cell BK373.out 4).trans rfl
               have hfz87_0:=blk_frozen BK373.out 0
               have hfz87_1:=blk_frozen BK373.out 1
               have hfz87_2:=blk_frozen BK373.out 2
               have hfz87_3:=blk_frozen BK373.out 3
               have hfz87_4:=blk_frozen BK373.out 4
               obtain ⟨Ao88,co88,eo88⟩ := Kd.S_slice HO_374004.out
               subst eo88
               have p393 : 0 ≤ (x8_2 : Int) := of_decide_eq_true (by first | (with_reducible assumption) | assumption)
               have q393 : x8_2 < (x374004_3.length : Int) := of_decide_eq_true (by first | (with_reducible assumption) | assumption)
               obtain ⟨ad393,A393_1,c393_1,e393,hx393_0,hx393_1,hl393_1,hi393_1⟩ := at_T30 (Kd.S_reads' HO_374004.out).2.2 x8_2 p393 q393
               cases e393
               obtain ⟨ce393,hce393,hMe393,hcc393⟩ := Kd.S_get HO_374004.out z30 x8_2 p393 (by first | exact q393 | exact of_decide_eq_true (by first | (with_reducible assumption) | assumption) | (have e_:=(Kd.S_reads' HO_374004.out).1;omega))
               obtain ⟨ve393_1,rfl,ge393_1⟩ := k30_openM hMe393
               have hv393_1:=hcc393 1 _ rfl
               rw [add_field _ _ 1 (by omega)] at hv393_1
               replace hv393_1:=Option.some.inj (hv393_1.symm.trans hx393_1)
               rw [hv393_1] at ge393_1
               have HL393_1:=Aside0.mk (show Kd.R k53 53 _ _ _ _ ((rd_T30 x374004_3 x8_2).f1) from ge393_1)
               clear hv393_1 ge393_1
               have HX393_1:=Aside0.mk hx393_1
               clear hcc393 hce393
               have HR393_1:=Aside0.mk hi393_1
               have HC393_1:=Aside0.mk hl393_1
               clear hi393_1 hl393_1
               replace p393:=eq_true p393
               replace q393:=eq_true q393
               have p394 : 0 ≤ (x8_2 : Int) := of_decide_eq_true (by first | (with_reducible assumption) | assumption)
               have q394 : x8_2 < (x374004_3.length : Int) := of_decide_eq_true (by first | (with_reducible assumption) | assumption)
               obtain ⟨ad394,A394_1,c394_1,e394,hx394_0,hx394_1,hl394_1,hi394_1⟩ := at_T30 (Kd.S_reads' HO_374004.out).2.2 x8_2 p394 q394
               obtain rfl : ad393 = ad394:=(by injection e394)
               obtain ⟨ce394,hce394,hMe394,hcc394⟩ := Kd.S_get HO_374004.out z30 x8_2 p394 (by first | exact q394 | exact of_decide_eq_true (by first | (with_reducible assumption) | assumption) | (have e_:=(Kd.S_reads' HO_374004.out).1;omega))
               obtain ⟨ve394_1,rfl,ge394_1⟩ := k30_openM hMe394
               have hv394_1:=hcc394 1 _ rfl
               rw [add_field _ _ 1 (by omega)] at hv394_1
               replace hv394_1:=Option.some.inj (hv394_1.symm.trans hx394_1)
               rw [hv394_1] at ge394_1
               have HL394_1:=Aside0.mk (show Kd.R k53 53 _ _ _ _ ((rd_T30 x374004_3 x8_2).f1) from ge394_1)
               clear hv394_1 ge394_1
               have HX394_1:=Aside0.mk hx394_1
               clear hcc394 hce394
               have HR394_1:=Aside0.mk hi394_1
               have HC394_1:=Aside0.mk hl394_1
               clear hi394_1 hl394_1
               replace p394:=eq_true p394
               replace q394:=eq_true q394
               have ea_:=Option.some.inj (hx393_1.symm.trans hx394_1)
               injection ea_ with ea_ en_ ec_
               subst ea_
               subst ec_
               clear en_
               have p395 : 0 ≤ (x9_3 : Int) := of_decide_eq_true (by first | (with_reducible assumption) | assumption)
               have q395 : x9_3 < (((rd_T30 x374004_3 x8_2).f1).length : Int) := of_decide_eq_true (by first | (with_reducible assumption) | assumption)
               obtain ⟨ad395,e395,hx395_0,hx395_1⟩ := at_T53 (by repeat (first | (with_reducible exact HR394_1.out) | (with_reducible refine Kd.C_alloc ?_ _) | (with_reducible refine Kd.C_drewN ?_ _) | (with_reducible refine Kd.C_drew ?_) | exact HR394_1.out)) x9_3 p395 q395
               (try rw [← Nbq75.out] at hx395_0)
               cases e395
               replace p395:=eq_true p395
               replace q395:=eq_true q395
               go_wp2
               go_roundg k3
               case measure => have:=HK1.out;have:=HK2.out;have:=HK3.out;omega
               case rel => exact ⟨(wrap64 (x9_3 + 1)),(x374004_3),(.slice (some ad393) x374004_3.length co88),(by first | rfl | (simp;done) | (simp [*];done)),H',⟨by have:=HK1.out;have:=HK2.out;have:=HK3.out;omega⟩,⟨by (with_reducible repeat (first | apply Kd.R_alloc | apply Kd.R_drewN | apply Kd.R_drew));exact HO_374000.out⟩,⟨by (with_reducible repeat (first | apply Kd.R_alloc | apply Kd.R_drewN | apply Kd.R_drew));exact HO_374001.out⟩,⟨by (with_reducible repeat (first | apply Kd.S_alloc | apply Kd.S_drewN | apply Kd.S_drew));exact HO_374004.out⟩,⟨by (with_reducible repeat (first | refine blk_drewN ?_ _ | refine blk_drew ?_ | refine blk_alloc ?_ _));exact BK361.out⟩,⟨by (with_reducible repeat (first | refine blk_drewN ?_ _ | refine blk_drew ?_ | refine blk_alloc ?_ _));exact BK373.out⟩,⟨by repeat (first | (with_reducible first | exact HB.out | apply below_alloc | apply pw_below_drewN | apply below_drew1 | refine below_set ?_ GE361.out | refine below_set ?_ GE373.out) | exact HB.out)⟩⟩
           · rw [if_neg c73] at H
             have c73b0 : decide (x9_3 < (((rd_T30 x374004_3 x8_2).f1).length : Int)) = false:=decide_eq_false c73
             clear c73
             have H' := Aside0.mk H
             clear H
             have hnb89:=NB373_361.out
             have hnc89:=NB361_373.out
             have hcz90_0 : wr.cell? ⟨gb373,0,none⟩ = some (.slice Ao6 t362.length co6) := (blk_cell BK373.out 0).trans rfl
             have hcz90_1 : wr.cell? ⟨gb373,1,none⟩ = some (u374001) := (blk_cell BK373.out 1).trans rfl
             have hcz90_2 : wr.cell? ⟨gb373,2,none⟩ = some (.int .i64 t368) := (blk_cell BK373.out 2).trans rfl
             have hcz90_3 : wr.cell? ⟨gb373,3,none⟩ = some (.int .i64 t369) := (blk_cell BK373.out 3).trans rfl
             have hcz90_4 : wr.cell? ⟨gb373,4,none⟩ = some (u374004) := (blk_cell BK373.out 4).trans rfl
             have hfz90_0:=blk_frozen BK373.out 0
             have hfz90_1:=blk_frozen BK373.out 1
             have hfz90_2:=blk_frozen BK373.out 2
             have hfz90_3:=blk_frozen BK373.out 3
             have hfz90_4:=blk_frozen BK373.out 4
             obtain ⟨Ao91,co91,eo91⟩ := Kd.S_slice HO_374004.out
             subst eo91
             have p393 : 0 ≤ (x8_2 : Int) := of_decide_eq_true (by first | (with_reducible assumption) | assumption)
             have q393 : x8_2 < (x374004_3.length : Int) := of_decide_eq_true (by first | (with_reducible assumption) | assumption)
             obtain ⟨ad393,A393_1,c393_1,e393,hx393_0,hx393_1,hl393_1,hi393_1⟩ := at_T30 (Kd.S_reads' HO_374004.out).2.2 x8_2 p393 q393
             cases e393
             obtain ⟨ce393,hce393,hMe393,hcc393⟩ := Kd.S_get HO_374004.out z30 x8_2 p393 (by first | exact q393 | exact of_decide_eq_true (by first | (with_reducible assumption) | assumption) | (have e_:=(Kd.S_reads' HO_374004.out).1;omega))
             obtain ⟨ve393_1,rfl,ge393_1⟩ := k30_openM hMe393
             have hv393_1:=hcc393 1 _ rfl
             rw [add_field _ _ 1 (by omega)] at hv393_1
             replace hv393_1:=Option.some.inj (hv393_1.symm.trans hx393_1)
             rw [hv393_1] at ge393_1
             have HL393_1:=Aside0.mk (show Kd.R k53 53 _ _ _ _ ((rd_T30 x374004_3 x8_2).f1) from ge393_1)
             clear hv393_1 ge393_1
             have HX393_1:=Aside0.mk hx393_1
             clear hcc393 hce393
             have HR393_1:=Aside0.mk hi393_1
             have HC393_1:=Aside0.mk hl393_1
             clear hi393_1 hl393_1
             replace p393:=eq_true p393
             replace q393:=eq_true q393
             go_wp2
             go_roundg k3
             case measure => have:=HK1.out;have:=HK2.out;have:=HK3.out;omega
             case rel => exact ⟨(wrap64 (x8_2 + 1)),(x374004_3),(.slice (some ad393) x374004_3.length co91),(by first | rfl | (simp;done) | (simp [*];done)),H',⟨by have:=HK1.out;have:=HK2.out;have:=HK3.out;omega⟩,⟨by (with_reducible repeat (first | apply Kd.R_alloc | apply Kd.R_drewN | apply Kd.R_drew));exact HO_374000.out⟩,⟨by (with_reducible repeat (first | apply Kd.R_alloc | apply Kd.R_drewN | apply Kd.R_drew));exact HO_374001.out⟩,⟨by (with_reducible repeat (first | apply Kd.S_alloc | apply Kd.S_drewN | apply Kd.S_drew));exact HO_374004.out⟩,⟨by (with_reducible repeat (first | refine blk_drewN ?_ _ | refine blk_drew ?_ | refine blk_alloc ?_ _));exact BK361.out⟩,⟨by (with_reducible repeat (first | refine blk_drewN ?_ _ | refine blk_drew ?_ | refine blk_alloc ?_ _));exact BK373.out⟩,⟨by repeat (first | (with_reducible first | exact HB.out | apply below_alloc | apply pw_below_drewN | apply below_drew1 | refine below_set ?_ GE361.out | refine below_set ?_ GE373.out) | exact HB.out)⟩⟩
       · rw [if_neg c67] at H
         have c67b0 : decide (x8_2 < (x374004_2.length : Int)) = false:=decide_eq_false c67
         clear c67
         simp only [Option.some.injEq,Prod.mk.injEq] at H
         obtain ⟨rfl,rfl,rfl,rfl,rfl⟩ := H
         have hnb92:=NB373_361.out
         have hnc92:=NB361_373.out
         have hcz93_0 : wr.cell? ⟨gb373,0,none⟩ = some (.slice Ao6 t362.length co6) := (blk_cell BK373.out 0).trans rfl
         have hcz93_1 : wr.cell? ⟨gb373,1,none⟩ = some (u374001) := (blk_cell BK373.out 1).trans rfl
         have hcz93_2 : wr.cell? ⟨gb373,2,none⟩ = some (.int .i64 t368) := (blk_cell BK373.out 2).trans rfl
         have hcz93_3 : wr.cell? ⟨gb373,3,none⟩ = some (.int .i64 t369) := (blk_cell BK373.out 3).trans rfl
         have hcz93_4 : wr.cell? ⟨gb373,4,none⟩ = some (u374004) := (blk_cell BK373.out 4).trans rfl
         have hfz93_0:=blk_frozen BK373.out 0
         have hfz93_1:=blk_frozen BK373.out 1
         have hfz93_2:=blk_frozen BK373.out 2
         have hfz93_3:=blk_frozen BK373.out 3
         have hfz93_4:=blk_frozen BK373.out 4
         obtain ⟨Ao94,co94,eo94⟩ := Kd.S_slice HO_374004.out
         subst eo94
         have hcz95_0 : wr.cell? ⟨gb361,0,none⟩ = some (.slice none 0 0) := (blk_cell BK361.out 0).trans rfl
         have hcz95_1 : wr.cell? ⟨gb361,1,none⟩ = some (.slice none 0 0) := (blk_cell BK361.out 1).trans rfl
         have hcz95_2 : wr.cell? ⟨gb361,2,none⟩ = some (.int .i64 0) := (blk_cell BK361.out 2).trans rfl
         have hcz95_3 : wr.cell? ⟨gb361,3,none⟩ = some (.int .i64 0) := (blk_cell BK361.out 3).trans rfl
         have hcz95_4 : wr.cell? ⟨gb361,4,none⟩ = some (.slice none 0 0) := (blk_cell BK361.out 4).trans rfl
         have hfz95_0:=blk_frozen BK361.out 0
         have hfz95_1:=blk_frozen BK361.out 1
         have hfz95_2:=blk_frozen BK361.out 2
         have hfz95_3:=blk_frozen BK361.out 3
         have hfz95_4:=blk_frozen BK361.out 4
         obtain ⟨Ao96,co96,eo96⟩ := Kd.R_slice HO_374001.out
         subst eo96
         go_wp2
         refine bodyPost_ret (results_cell_row rfl _ _ gb361 26 #[.slice Ao6 t362.length co6,.slice Ao96 x374001_1.length co96,.int .i64 t368,.int .i64 t369,.slice Ao94 x374004_2.length co94] (0,0) _ rfl (by (with_reducible repeat (first | refine blk_drewN ?_ _ | refine blk_drew ?_ | refine blk_alloc ?_ _));refine blk_put (cs:=#[.slice Ao6 t362.length co6,.slice Ao96 x374001_1.length co96,.int .i64 t368,.int .i64 t369,.slice none 0 0]) ?_ 4 _ rfl;(with_reducible repeat (first | refine blk_drewN ?_ _ | refine blk_drew ?_ | refine blk_alloc ?_ _));refine blk_put (cs:=#[.slice Ao6 t362.length co6,.slice Ao96 x374001_1.length co96,.int .i64 t368,.int .i64 0,.slice none 0 0]) ?_ 3 _ rfl;(with_reducible repeat (first | refine blk_drewN ?_ _ | refine blk_drew ?_ | refine blk_alloc ?_ _));refine blk_put (cs:=#[.slice Ao6 t362.length co6,.slice Ao96 x374001_1.length co96,.int .i64 0,.int .i64 0,.slice none 0 0]) ?_ 2 _ rfl;(with_reducible repeat (first | refine blk_drewN ?_ _ | refine blk_drew ?_ | refine blk_alloc ?_ _));refine blk_put (cs:=#[.slice Ao6 t362.length co6,.slice none 0 0,.int .i64 0,.int .i64 0,.slice none 0 0]) ?_ 1 _ rfl;(with_reducible repeat (first | refine blk_drewN ?_ _ | refine blk_drew ?_ | refine blk_alloc ?_ _));refine blk_put (cs:=#[.slice none 0 0,.slice none 0 0,.int .i64 0,.int .i64 0,.slice none 0 0]) ?_ 0 _ rfl;(with_reducible repeat (first | refine blk_drewN ?_ _ | refine blk_drew ?_ | refine blk_alloc ?_ _));exact BK361.out) Try.underlying26 rfl (by kernel_rfl)) rfl ?_
         exact ⟨_,_,_,by first | rfl | (simp [errW_none,errW_some] <;> rfl) | (simp [*,errW_none,errW_some] <;> rfl),by (with_reducible repeat (first | apply Kd.R_alloc | apply Kd.R_drewN | apply Kd.R_drew));exact Kd.R_mono (Kd.R_far (p:=⟨gb361,4,none⟩) (Kd.R_far (p:=⟨gb361,3,none⟩) (Kd.R_far (p:=⟨gb361,2,none⟩) (Kd.R_far (p:=⟨gb361,1,none⟩) (Kd.R_far (p:=⟨gb361,0,none⟩) (Kd.R_types HO_374000.out BK361.out (by decide)) (fun _ hk => hk.2) (.slice Ao6 t362.length co6)) (fun _ hk => hk.2) (.slice Ao96 x374001_1.length co96)) (fun _ hk => hk.2) (.int .i64 t368)) (fun _ hk => hk.2) (.int .i64 t369)) (fun _ hk => hk.2) (.slice Ao94 x374004_2.length co94)) (fun _ hk => trivial),by (with_reducible repeat (first | apply Kd.R_alloc | apply Kd.R_drewN | apply Kd.R_drew));exact Kd.R_mono (Kd.R_far (p:=⟨gb361,4,none⟩) (Kd.R_far (p:=⟨gb361,3,none⟩) (Kd.R_far (p:=⟨gb361,2,none⟩) (Kd.R_far (p:=⟨gb361,1,none⟩) (Kd.R_far (p:=⟨gb361,0,none⟩) (Kd.R_types HO_374001.out BK361.out (by decide)) (fun _ hk => hk.2) (.slice Ao6 t362.length co6)) (fun _ hk => hk.2) (.slice Ao96 x374001_1.length co96)) (fun _ hk => hk.2) (.int .i64 t368)) (fun _ hk => hk.2) (.int .i64 t369)) (fun _ hk => hk.2) (.slice Ao94 x374004_2.length co94)) (fun _ hk => trivial),by (with_reducible repeat (first | apply Kd.S_alloc | apply Kd.S_drewN | apply Kd.S_drew));exact Kd.S_mono (Kd.S_far (p:=⟨gb361,4,none⟩) (Kd.S_far (p:=⟨gb361,3,none⟩) (Kd.S_far (p:=⟨gb361,2,none⟩) (Kd.S_far (p:=⟨gb361,1,none⟩) (Kd.S_far (p:=⟨gb361,0,none⟩) (Kd.S_types HO_374004.out BK361.out (by decide)) (fun _ hk => hk.2) (.slice Ao6 t362.length co6)) (fun _ hk => hk.2) (.slice Ao96 x374001_1.length co96)) (fun _ hk => hk.2) (.int .i64 t368)) (fun _ hk => hk.2) (.int .i64 t369)) (fun _ hk => hk.2) (.slice Ao94 x374004_2.length co94)) (fun _ hk => trivial),by repeat (first | (with_reducible first | exact HB.out | apply below_alloc | apply pw_below_drewN | apply below_drew1 | refine below_set ?_ GE361.out | refine below_set ?_ GE373.out) | exact HB.out)⟩
attribute [local go_sem] max2_int min2_int max_two min_two max_three min_three max_four min_four   -- for this text's walks alone
set_option linter.unusedVariables false
set_option linter.unusedSimpArgs false
attribute [local go_sem high] eqA50
def regletlaw14_awake.f (k : Nat)  : Option (Bool) := (some (([(⟨#[97]⟩ : ByteArray)] : List ByteArray) : List ByteArray)).bind fun y188 => (if 1 ≤ 2706490160679 then ((some (List.replicate 1 z61 : List (S61))).bind fun y191 => ((some (([(⟨0,(([(⟨true,0⟩ : S53),(⟨false,0⟩ : S53)] : List (S53)))⟩ : S30),(⟨0,([] : List (S53))⟩ : S30)] : List (S30)) : List (S30))).bind fun y197 => ((predict_Predict.f k y188 y191 0 0 y197).bind fun bt201 => (if y197.length < 4398046511104 then ((predict_Predict.f k y188 y191 0 0 (y197 ++ [(⟨0,([] : List (S53))⟩ : S30)])).bind fun bt210 => (if (bt201.2.length : Int) = 0 then ((regletref13_SameLists.f k bt201.1 (([(([0,1] : List Int))] : List (List Int)))).bind fun t222 => (if t222 = true then (if (bt210.2.length : Int) = 1 then (if 0 < (bt210.2.length : Int) then (some (((rd_T50 bt210.2 0).f0) == 0 && (((rd_T50 bt210.2 0).f1) == 1 && (((rd_T50 bt210.2 0).f2) == 1 && (((rd_T50 bt210.2 0).f3) == 2))))) else (none)) else (none)) else (none))) else (none))) else (none))))) else (none))
set_option maxHeartbeats 8000000 in
set_option maxRecDepth 100000 in
theorem regletlaw14_awake.calls (k : Nat)  (r : Bool) (w : World) (h : regletlaw14_awake.f k  = some r) :
    Calls Try.prog 9 #[] w fun e w' => e = .returned (.bool r) ∧ Below w.heap.size w w' := by
 have hu53:=Try.underlying53
 have hu30:=Try.underlying30
 have hu26:=Try.underlying26
 have hu50:=Try.underlying50
 have HB:=Aside0.mk (Below.refl w.heap.size w)
 have H : ((some (([(⟨#[97]⟩ : ByteArray)] : List ByteArray) : List ByteArray)).bind fun y188 => (if 1 ≤ 2706490160679 then ((some (List.replicate 1 z61 : List (S61))).bind fun y191 => ((some (([(⟨0,(([(⟨true,0⟩ : S53),(⟨false,0⟩ : S53)] : List (S53)))⟩ : S30),(⟨0,([] : List (S53))⟩ : S30)] : List (S30)) : List (S30))).bind fun y197 => ((predict_Predict.f k y188 y191 0 0 y197).bind fun bt201 => (if y197.length < 4398046511104 then ((predict_Predict.f k y188 y191 0 0 (y197 ++ [(⟨0,([] : List (S53))⟩ : S30)])).bind fun bt210 => (if (bt201.2.length : Int) = 0 then ((regletref13_SameLists.f k bt201.1 (([(([0,1] : List Int))] : List (List Int)))).bind fun t222 => (if t222 = true then (if (bt210.2.length : Int) = 1 then (if 0 < (bt210.2.length : Int) then (some (((rd_T50 bt210.2 0).f0) == 0 && (((rd_T50 bt210.2 0).f1) == 1 && (((rd_T50 bt210.2 0).f2) == 1 && (((rd_T50 bt210.2 0).f3) == 2))))) else (none)) else (none)) else (none))) else (none))) else (none))))) else (none))) = some r:=h
 clear h
 obtain ⟨y188,hy188⟩ : ∃ y_ : List ByteArray,y_ = (([(⟨#[97]⟩ : ByteArray)] : List ByteArray)) := ⟨_,rfl⟩
 replace H : (if 1 ≤ 2706490160679 then ((some (List.replicate 1 z61 : List (S61))).bind fun y191 => ((some (([(⟨0,(([(⟨true,0⟩ : S53),(⟨false,0⟩ : S53)] : List (S53)))⟩ : S30),(⟨0,([] : List (S53))⟩ : S30)] : List (S30)) : List (S30))).bind fun y197 => ((predict_Predict.f k y188 y191 0 0 y197).bind fun bt201 => (if y197.length < 4398046511104 then ((predict_Predict.f k y188 y191 0 0 (y197 ++ [(⟨0,([] : List (S53))⟩ : S30)])).bind fun bt210 => (if (bt201.2.length : Int) = 0 then ((regletref13_SameLists.f k bt201.1 (([(([0,1] : List Int))] : List (List Int)))).bind fun t222 => (if t222 = true then (if (bt210.2.length : Int) = 1 then (if 0 < (bt210.2.length : Int) then (some (((rd_T50 bt210.2 0).f0) == 0 && (((rd_T50 bt210.2 0).f1) == 1 && (((rd_T50 bt210.2 0).f2) == 1 && (((rd_T50 bt210.2 0).f3) == 2))))) else (none)) else (none)) else (none))) else (none))) else (none))))) else (none)) = some r:=by first | (rw [hy188];with_reducible exact H) | (have H2_:=(Option.bind_some _ _).symm.trans H;rw [hy188];with_reducible exact H2_) | (have H2_:=(Option.bind_some _ _).symm.trans H;with_reducible exact H2_) | with_reducible exact H | (rw [hy188];exact H) | exact H
 have Ny188:=Aside0.mk hy188
 clear hy188
 by_cases c1 : 1 ≤ 2706490160679
 rotate_left
 · rw [if_neg c1] at H
   exact absurd H (by simp)
 rw [if_pos c1] at H
 have c1b0:=eq_true c1
 have c1b1 : decide (1 ≤ 2706490160679) = true:=decide_eq_true c1
 clear c1
 obtain ⟨y191,hy191⟩ : ∃ y_ : List (S61),y_ = (List.replicate 1 z61) := ⟨_,rfl⟩
 replace H : ((some (([(⟨0,(([(⟨true,0⟩ : S53),(⟨false,0⟩ : S53)] : List (S53)))⟩ : S30),(⟨0,([] : List (S53))⟩ : S30)] : List (S30)) : List (S30))).bind fun y197 => ((predict_Predict.f k y188 y191 0 0 y197).bind fun bt201 => (if y197.length < 4398046511104 then ((predict_Predict.f k y188 y191 0 0 (y197 ++ [(⟨0,([] : List (S53))⟩ : S30)])).bind fun bt210 => (if (bt201.2.length : Int) = 0 then ((regletref13_SameLists.f k bt201.1 (([(([0,1] : List Int))] : List (List Int)))).bind fun t222 => (if t222 = true then (if (bt210.2.length : Int) = 1 then (if 0 < (bt210.2.length : Int) then (some (((rd_T50 bt210.2 0).f0) == 0 && (((rd_T50 bt210.2 0).f1) == 1 && (((rd_T50 bt210.2 0).f2) == 1 && (((rd_T50 bt210.2 0).f3) == 2))))) else (none)) else (none)) else (none))) else (none))) else (none)))) = some r:=by first | (rw [hy191];with_reducible exact H) | (have H2_:=(Option.bind_some _ _).symm.trans H;rw [hy191];with_reducible exact H2_) | (have H2_:=(Option.bind_some _ _).symm.trans H;with_reducible exact H2_) | with_reducible exact H | (rw [hy191];exact H) | exact H
 have Ny191:=Aside0.mk hy191
 clear hy191
 obtain ⟨y194,hy194⟩ : ∃ y_ : List (S53),y_ = (([(⟨true,0⟩ : S53),(⟨false,0⟩ : S53)] : List (S53))) := ⟨_,rfl⟩
 replace H : ((some (([(⟨0,y194⟩ : S30),(⟨0,([] : List (S53))⟩ : S30)] : List (S30)) : List (S30))).bind fun y197 => ((predict_Predict.f k y188 y191 0 0 y197).bind fun bt201 => (if y197.length < 4398046511104 then ((predict_Predict.f k y188 y191 0 0 (y197 ++ [(⟨0,([] : List (S53))⟩ : S30)])).bind fun bt210 => (if (bt201.2.length : Int) = 0 then ((regletref13_SameLists.f k bt201.1 (([(([0,1] : List Int))] : List (List Int)))).bind fun t222 => (if t222 = true then (if (bt210.2.length : Int) = 1 then (if 0 < (bt210.2.length : Int) then (some (((rd_T50 bt210.2 0).f0) == 0 && (((rd_T50 bt210.2 0).f1) == 1 && (((rd_T50 bt210.2 0).f2) == 1 && (((rd_T50 bt210.2 0).f3) == 2))))) else (none)) else (none)) else (none))) else (none))) else (none)))) = some r:=by first | (rw [hy194];with_reducible exact H) | (have H2_:=(Option.bind_some _ _).symm.trans H;rw [hy194];with_reducible exact H2_) | (have H2_:=(Option.bind_some _ _).symm.trans H;with_reducible exact H2_) | with_reducible exact H | (rw [hy194];exact H) | exact H
 have Ny194:=Aside0.mk hy194
 clear hy194
 obtain ⟨y197,hy197⟩ : ∃ y_ : List (S30),y_ = (([(⟨0,y194⟩ : S30),(⟨0,([] : List (S53))⟩ : S30)] : List (S30))) := ⟨_,rfl⟩
 replace H : ((predict_Predict.f k y188 y191 0 0 y197).bind fun bt201 => (if y197.length < 4398046511104 then ((predict_Predict.f k y188 y191 0 0 (y197 ++ [(⟨0,([] : List (S53))⟩ : S30)])).bind fun bt210 => (if (bt201.2.length : Int) = 0 then ((regletref13_SameLists.f k bt201.1 (([(([0,1] : List Int))] : List (List Int)))).bind fun t222 => (if t222 = true then (if (bt210.2.length : Int) = 1 then (if 0 < (bt210.2.length : Int) then (some (((rd_T50 bt210.2 0).f0) == 0 && (((rd_T50 bt210.2 0).f1) == 1 && (((rd_T50 bt210.2 0).f2) == 1 && (((rd_T50 bt210.2 0).f3) == 2))))) else (none)) else (none)) else (none))) else (none))) else (none))) = some r:=by first | (rw [hy197];with_reducible exact H) | (have H2_:=(Option.bind_some _ _).symm.trans H;rw [hy197];with_reducible exact H2_) | (have H2_:=(Option.bind_some _ _).symm.trans H;with_reducible exact H2_) | with_reducible exact H | (rw [hy197];exact H) | exact H
 have Ny197:=Aside0.mk hy197
 clear hy197
 replace H:=Option.bind_eq_some_iff.mp H
 obtain ⟨⟨t201,t204⟩,A20,H⟩ := H
 replace H : (if y197.length < 4398046511104 then ((predict_Predict.f k y188 y191 0 0 (y197 ++ [(⟨0,([] : List (S53))⟩ : S30)])).bind fun bt210 => (if (t204.length : Int) = 0 then ((regletref13_SameLists.f k t201 (([(([0,1] : List Int))] : List (List Int)))).bind fun t222 => (if t222 = true then (if (bt210.2.length : Int) = 1 then (if 0 < (bt210.2.length : Int) then (some (((rd_T50 bt210.2 0).f0) == 0 && (((rd_T50 bt210.2 0).f1) == 1 && (((rd_T50 bt210.2 0).f2) == 1 && (((rd_T50 bt210.2 0).f3) == 2))))) else (none)) else (none)) else (none))) else (none))) else (none)) = some r:=H
 have A2:=Aside0.mk A20
 clear A20
 by_cases c3 : y197.length < 4398046511104
 rotate_left
 · rw [if_neg c3] at H
   exact absurd H (by simp)
 rw [if_pos c3] at H
 have LMc3:=Aside0.mk c3
 clear c3
 obtain ⟨y207,hy207⟩ : ∃ y_ : List (S30),y_ = (y197 ++ [(⟨0,([] : List (S53))⟩ : S30)]) := ⟨_,rfl⟩
 replace H : ((predict_Predict.f k y188 y191 0 0 y207).bind fun bt210 => (if (t204.length : Int) = 0 then ((regletref13_SameLists.f k t201 (([(([0,1] : List Int))] : List (List Int)))).bind fun t222 => (if t222 = true then (if (bt210.2.length : Int) = 1 then (if 0 < (bt210.2.length : Int) then (some (((rd_T50 bt210.2 0).f0) == 0 && (((rd_T50 bt210.2 0).f1) == 1 && (((rd_T50 bt210.2 0).f2) == 1 && (((rd_T50 bt210.2 0).f3) == 2))))) else (none)) else (none)) else (none))) else (none))) = some r:=by first | (rw [hy207];with_reducible exact H) | (have H2_:=(Option.bind_some _ _).symm.trans H;rw [hy207];with_reducible exact H2_) | (have H2_:=(Option.bind_some _ _).symm.trans H;with_reducible exact H2_) | with_reducible exact H | (rw [hy207];exact H) | exact H
 have Ny207:=Aside0.mk hy207
 clear hy207
 replace H:=Option.bind_eq_some_iff.mp H
 obtain ⟨⟨t210,t213⟩,A40,H⟩ := H
 replace H : (if (t204.length : Int) = 0 then ((regletref13_SameLists.f k t201 (([(([0,1] : List Int))] : List (List Int)))).bind fun t222 => (if t222 = true then (if (t213.length : Int) = 1 then (if 0 < (t213.length : Int) then (some (((rd_T50 t213 0).f0) == 0 && (((rd_T50 t213 0).f1) == 1 && (((rd_T50 t213 0).f2) == 1 && (((rd_T50 t213 0).f3) == 2))))) else (none)) else (none)) else (none))) else (none)) = some r:=H
 have A4:=Aside0.mk A40
 clear A40
 by_cases c5 : (t204.length : Int) = 0
 rotate_left
 · rw [if_neg c5] at H
   exact absurd H (by simp)
 rw [if_pos c5] at H
 have c5b0 : ((t204.length : Int) == 0) = true:=beq_iff_eq.mpr c5
 have c5b1 : ((t204.length : Int) != 0) = false:=bne_eq_false_iff_eq.mpr c5
 clear c5
 obtain ⟨y216,hy216⟩ : ∃ y_ : List Int,y_ = (([0,1] : List Int)) := ⟨_,rfl⟩
 replace H : ((regletref13_SameLists.f k t201 (([y216] : List (List Int)))).bind fun t222 => (if t222 = true then (if (t213.length : Int) = 1 then (if 0 < (t213.length : Int) then (some (((rd_T50 t213 0).f0) == 0 && (((rd_T50 t213 0).f1) == 1 && (((rd_T50 t213 0).f2) == 1 && (((rd_T50 t213 0).f3) == 2))))) else (none)) else (none)) else (none))) = some r:=by first | (rw [hy216];with_reducible exact H) | (have H2_:=(Option.bind_some _ _).symm.trans H;rw [hy216];with_reducible exact H2_) | (have H2_:=(Option.bind_some _ _).symm.trans H;with_reducible exact H2_) | with_reducible exact H | (rw [hy216];exact H) | exact H
 have Ny216:=Aside0.mk hy216
 clear hy216
 obtain ⟨y219,hy219⟩ : ∃ y_ : List (List Int),y_ = (([y216] : List (List Int))) := ⟨_,rfl⟩
 replace H : ((regletref13_SameLists.f k t201 y219).bind fun t222 => (if t222 = true then (if (t213.length : Int) = 1 then (if 0 < (t213.length : Int) then (some (((rd_T50 t213 0).f0) == 0 && (((rd_T50 t213 0).f1) == 1 && (((rd_T50 t213 0).f2) == 1 && (((rd_T50 t213 0).f3) == 2))))) else (none)) else (none)) else (none))) = some r:=by first | (rw [hy219];with_reducible exact H) | (have H2_:=(Option.bind_some _ _).symm.trans H;rw [hy219];with_reducible exact H2_) | (have H2_:=(Option.bind_some _ _).symm.trans H;with_reducible exact H2_) | with_reducible exact H | (rw [hy219];exact H) | exact H
 have Ny219:=Aside0.mk hy219
 clear hy219
 replace H:=Option.bind_eq_some_iff.mp H
 obtain ⟨t222,A60,H⟩ := H
 replace H : (if t222 = true then (if (t213.length : Int) = 1 then (if 0 < (t213.length : Int) then (some (((rd_T50 t213 0).f0) == 0 && (((rd_T50 t213 0).f1) == 1 && (((rd_T50 t213 0).f2) == 1 && (((rd_T50 t213 0).f3) == 2))))) else (none)) else (none)) else (none)) = some r:=H
 have A6:=Aside0.mk A60
 clear A60
 by_cases c7 : t222 = true
 · subst c7
   have H1 : (if (t213.length : Int) = 1 then (if 0 < (t213.length : Int) then (some (((rd_T50 t213 0).f0) == 0 && (((rd_T50 t213 0).f1) == 1 && (((rd_T50 t213 0).f2) == 1 && (((rd_T50 t213 0).f3) == 2))))) else (none)) else (none)) = some r:=by rw [if_pos rfl] at H;exact H
   clear H
   have H:=H1
   clear H1
   by_cases c8 : (t213.length : Int) = 1
   rotate_left
   · rw [if_neg c8] at H
     exact absurd H (by simp)
   rw [if_pos c8] at H
   have c8b0 : ((t213.length : Int) == 1) = true:=beq_iff_eq.mpr c8
   have c8b1 : ((t213.length : Int) != 1) = false:=bne_eq_false_iff_eq.mpr c8
   clear c8
   by_cases c9 : 0 < (t213.length : Int)
   rotate_left
   · rw [if_neg c9] at H
     exact absurd H (by simp)
   rw [if_pos c9] at H
   have c9b0 : decide (0 < (t213.length : Int)) = true:=decide_eq_true c9
   have c9b1 : decide (0 < t213.length) = true:=decide_eq_true (by omega)
   clear c9
   obtain rfl:=Option.some.inj H
   go_enter Try.func9,Try.ntmps9
   go_wp2_with (first | ((with_reducible refine gate_dst (N:=6) rfl ?_);(try (refine gate_guard (by rfl) ?_;dsimp only));refine Kd.R_lit Kd.string _ 9 ?hg (N:=6) ?hd (xs:=([(⟨#[97]⟩ : ByteArray)] : List ByteArray)) (inner := [.string (⟨#[97]⟩ : ByteArray)]) (ok:=fun _ => True) (okp:=fun _ => True) ?hr ?hp (fun _ hk => hk) trivial (Below.refl _ _) (Nat.le_refl _) (by simp) ?_;(case hd => rfl);(case hg => rfl);(case hr => first | (go_simp;done) | (go_simp;rfl));(case hp => exact (Reps.one (show Kd.M Kd.string _ _ _ (⟨#[97]⟩ : ByteArray) [.string (⟨#[97]⟩ : ByteArray)] from rfl) (Reps.none _ _)));intro v189 w10 ho11 hb hg_ hnew_;clear hg_ hnew_;(first | rw [← Ny188.out] at ho11 | (simp only [Int.reduceToNat] at ho11;rw [← Ny188.out] at ho11));have n0_:=Aside0.mk (Kd.R_lower ho11 (below_size (by repeat (first | (with_reducible first | exact HB.out | apply below_alloc | apply pw_below_drewN | apply below_drew1) | exact HB.out))));have n1_:=Aside0.mk (below_step (by repeat (first | (with_reducible first | exact HB.out | apply below_alloc | apply pw_below_drewN | apply below_drew1) | exact HB.out)) hb);clear HB;have HO190:=n0_;have HB:=n1_;clear n0_ n1_;clear hb ho11) | ((with_reducible refine gate_dst (N:=7) rfl ?_);(try (refine gate_guard (by rfl) ?_;dsimp only));refine Kd.N_make k61 _ 61 rfl (N' := 7) rfl 23 _ _ rfl 1 rfl rfl Try.underlying23 (.agg #[(.string ⟨#[]⟩),(.int .i64 0),(.string ⟨#[]⟩),(.slice none 0 0),(.int .i64 0),(.int .i64 0),(.slice none 0 0)]) 104 info61 rfl (by decide) (by omega) z61 (ok:=fun k_ => w10.heap.size ≤ k_) (okp:=fun _ => False) (k61_mkF _ _ z61 (Nat.le_refl _) (Kd.F_nil _ _ _) (Nat.le_refl _) (Kd.F_nil _ _ _)) (fun _ hk => hk.elim) (Nat.le_refl _) (by omega) (by omega) (Below.refl _ _) (Nat.le_refl _) ?_;intro v192 w12 ho13 hb hg_ hnew_;clear hg_ hnew_;(first | rw [← Ny191.out] at ho13 | (simp only [Int.reduceToNat] at ho13;rw [← Ny191.out] at ho13));have n0_:=Aside0.mk (Kd.R_below (by (with_reducible repeat (first | apply Kd.R_alloc | apply Kd.R_drewN | apply Kd.R_drew));exact HO190.out) hb);have n1_:=Aside0.mk (Kd.N_lower (Kd.N_mono (ok' := fun k_ => some k_ ≠ (v189 : Value).ownBlock) ho13 (fun k_ hk_ => (Kd.fresh' (Kd.R_lt (by (with_reducible repeat (first | apply Kd.R_alloc | apply Kd.R_drewN | apply Kd.R_drew));exact HO190.out)) k_ hk_))) (below_size (by repeat (first | (with_reducible first | exact HB.out | apply below_alloc | apply pw_below_drewN | apply below_drew1) | exact HB.out))));have n2_:=Aside0.mk (below_step (by repeat (first | (with_reducible first | exact HB.out | apply below_alloc | apply pw_below_drewN | apply below_drew1) | exact HB.out)) hb);clear HO190;clear HB;have HO190:=n0_;have HO193:=n1_;have HB:=n2_;clear n0_ n1_ n2_;clear hb ho13) | ((with_reducible refine gate_dst (N:=10) rfl ?_);(try (refine gate_guard (by rfl) ?_;dsimp only));refine Kd.R_lit k53 _ 53 ?hg (N:=10) ?hd (xs:=([(⟨true,0⟩ : S53),(⟨false,0⟩ : S53)] : List (S53))) (inner := [.bool true,.int .i64 0,.bool false,.int .i64 0]) (ok:=fun _ => True) (okp:=fun _ => True) ?hr ?hp (fun _ hk => hk) trivial (Below.refl _ _) (Nat.le_refl _) (by simp) ?_;(case hd => rfl);(case hg => rfl);(case hr => first | (go_simp;done) | (go_simp;rfl));(case hp => exact (Reps.c2 (show Kd.M k53 _ _ _ (⟨true,0⟩ : S53) [.bool true,.int .i64 0] from (k53_mkM _ _ _ (⟨true,0⟩ : S53) )) (Reps.c2 (show Kd.M k53 _ _ _ (⟨false,0⟩ : S53) [.bool false,.int .i64 0] from (k53_mkM _ _ _ (⟨false,0⟩ : S53) )) (Reps.none _ _))));intro v195 w14 ho15 hb hg_ hnew_;clear hg_ hnew_;(first | rw [← Ny194.out] at ho15 | (simp only [Int.reduceToNat] at ho15;rw [← Ny194.out] at ho15));have n0_:=Aside0.mk (Kd.R_below (by (with_reducible repeat (first | apply Kd.R_alloc | apply Kd.R_drewN | apply Kd.R_drew));exact HO190.out) hb);have n1_:=Aside0.mk (Kd.N_elder' (by (with_reducible repeat (first | apply Kd.N_alloc | apply Kd.N_drewN | apply Kd.N_drew));exact HO193.out) (Kd.R_base ho15) hb);have n2_:=Aside0.mk (Kd.R_lower ho15 (below_size (by repeat (first | (with_reducible first | exact HB.out | apply below_alloc | apply pw_below_drewN | apply below_drew1) | exact HB.out))));have n3_:=Aside0.mk (below_step (by repeat (first | (with_reducible first | exact HB.out | apply below_alloc | apply pw_below_drewN | apply below_drew1) | exact HB.out)) hb);clear HO190;clear HO193;clear HB;have HO190:=n0_;have HO193:=n1_;have HO196:=n2_;have HB:=n3_;clear n0_ n1_ n2_ n3_;clear hb ho15;obtain ⟨Ao16,co16,eo16⟩ := Kd.R_slice HO196.out;subst eo16) | ((with_reducible refine gate_dst (N:=13) rfl ?_);(try (refine gate_guard (by rfl) ?_;dsimp only));refine Kd.N_lit k30 _ 30 ?hg (N' := 13) ?hd (xs:=([(⟨0,y194⟩ : S30),(⟨0,([] : List (S53))⟩ : S30)] : List (S30))) (inner := [.int .i64 0,.slice Ao16 y194.length co16,.int .i64 0,.slice none 0 0]) (ok:=(fun k_ => some k_ ≠ (v189 : Value).ownBlock ∧ some k_ ≠ (v192 : Value).ownBlock)) (okp:=(fun k_ => some k_ ≠ (v189 : Value).ownBlock ∧ some k_ ≠ (v192 : Value).ownBlock)) ?hr ?hp (fun _ hk => hk) ((show ∀ k_,w14.heap.size ≤ k_ → (fun k_ => some k_ ≠ (v189 : Value).ownBlock ∧ some k_ ≠ (v192 : Value).ownBlock) k_ from fun k_ hk => ⟨Kd.fresh' (Kd.R_lt (by (with_reducible repeat (first | apply Kd.R_alloc | apply Kd.R_drewN | apply Kd.R_drew));exact HO190.out)) k_ hk,Kd.fresh' (Kd.N_lt (by (with_reducible repeat (first | apply Kd.N_alloc | apply Kd.N_drewN | apply Kd.N_drew));exact HO193.out)) k_ hk⟩) _ (Nat.le_refl _)) (Below.refl _ _) (Nat.le_refl _) (by simp) ?_;(case hd => rfl);(case hg => rfl);(case hr => first | (go_simp;done) | (go_simp;rfl));(case hp => exact (Reps.c2 (show Kd.FK k30 _ _ (⟨0,y194⟩ : S30) [.int .i64 0,.slice Ao16 y194.length co16] from (k30_mkF _ _ (⟨0,y194⟩ : S30) (Kd.R_reads' (Kd.R_mono (ok' := (fun k_ => some k_ ≠ (v189 : Value).ownBlock ∧ some k_ ≠ (v192 : Value).ownBlock)) (Kd.R_apart' (Kd.R_apart' (HO196.out) (Kd.R_typed HO190.out) (by decide)) (Kd.N_typed HO193.out) (by decide)) (fun k_ hk => ⟨hk.1.2,hk.2⟩))).2.1 (Kd.R_F (Kd.R_mono (ok' := (fun k_ => some k_ ≠ (v189 : Value).ownBlock ∧ some k_ ≠ (v192 : Value).ownBlock)) (Kd.R_apart' (Kd.R_apart' (HO196.out) (Kd.R_typed HO190.out) (by decide)) (Kd.N_typed HO193.out) (by decide)) (fun k_ hk => ⟨hk.1.2,hk.2⟩))))) (Reps.c2 (show Kd.FK k30 _ _ (⟨0,([] : List (S53))⟩ : S30) [.int .i64 0,.slice none 0 0] from (k30_mkF _ _ (⟨0,([] : List (S53))⟩ : S30) (Nat.le_refl _) (Kd.F_nil _ _ _))) (Reps.none _ _))));intro v198 w17 ho18 hb hg_ hnew_;clear hg_ hnew_;(first | rw [← Ny197.out] at ho18 | (simp only [Int.reduceToNat] at ho18;rw [← Ny197.out] at ho18));have n0_:=Aside0.mk (Kd.R_below (by (with_reducible repeat (first | apply Kd.R_alloc | apply Kd.R_drewN | apply Kd.R_drew));exact HO190.out) hb);have n1_:=Aside0.mk (Kd.N_elder' (by (with_reducible repeat (first | apply Kd.N_alloc | apply Kd.N_drewN | apply Kd.N_drew));exact HO193.out) (Kd.N_base ho18) hb);have n2_:=Aside0.mk (Kd.N_lower ho18 (below_size (by repeat (first | (with_reducible first | exact HB.out | apply below_alloc | apply pw_below_drewN | apply below_drew1) | exact HB.out))));have n3_:=Aside0.mk (below_step (by repeat (first | (with_reducible first | exact HB.out | apply below_alloc | apply pw_below_drewN | apply below_drew1) | exact HB.out)) hb);clear HO190;clear HO193;clear HB;clear HO196;have HO190:=n0_;have HO193:=n1_;have HO199:=n2_;have HB:=n3_;clear n0_ n1_ n2_ n3_;clear hb ho18;obtain ⟨Ao19,co19,eo19⟩ := Kd.N_slice HO199.out;subst eo19;obtain ⟨Ao20,co20,eo20⟩ := Kd.N_slice HO193.out;subst eo20;obtain ⟨Ao21,co21,eo21⟩ := Kd.R_slice HO190.out;subst eo21) | ((with_reducible refine gate_dst (N:=1) rfl ?_);(try (refine gate_guard (by rfl) ?_;dsimp only));refine box_event ?hg (N:=1) ?hd (cs:=#[.slice none 0 0,.slice none 0 0,.int .i64 0,.int .i64 0,.slice none 0 0]) (t:=26) ?hr ?_;(case hd => rfl);(case hg => rfl);(case hr => first | (go_simp;done) | (go_simp;rfl));intro gb200 hg w22 hbox hb;have n0_:=Aside0.mk (Kd.R_below (by (with_reducible repeat (first | apply Kd.R_alloc | apply Kd.R_drewN | apply Kd.R_drew));exact HO190.out) hb);have n1_:=Aside0.mk (Kd.N_below (Kd.N_elderB (by (with_reducible repeat (first | apply Kd.N_alloc | apply Kd.N_drewN | apply Kd.N_drew));exact HO193.out) gb200 (Nat.le_of_eq hg.symm)) hb);have n2_:=Aside0.mk (Kd.N_below (Kd.N_elderB (by (with_reducible repeat (first | apply Kd.N_alloc | apply Kd.N_drewN | apply Kd.N_drew));exact HO199.out) gb200 (Nat.le_of_eq hg.symm)) hb);have n3_:=Aside0.mk (below_step (by repeat (first | (with_reducible first | exact HB.out | apply below_alloc | apply pw_below_drewN | apply below_drew1) | exact HB.out)) hb);have n4_:=Aside0.mk (hbox);have n5_:=Aside0.mk ((by rw [hg];exact (below_size (by repeat (first | (with_reducible first | exact HB.out | apply below_alloc | apply pw_below_drewN | apply below_drew1) | exact HB.out))) : w.heap.size ≤ gb200));have n6_:=Aside0.mk ((by rw [hg];exact (below_size (by repeat (first | (with_reducible first | exact HB.out | apply below_alloc | apply pw_below_drewN | apply below_drew1) | exact HB.out))) : w.heap.size ≤ gb200));clear HO190;clear HO193;clear HO199;clear HB;have HO190:=n0_;have HO193:=n1_;have HO199:=n2_;have HB:=n3_;have BK200:=n4_;have GW200:=n5_;have GE200:=n6_;clear n0_ n1_ n2_ n3_ n4_ n5_ n6_;clear hb hbox hg;have hcz23_0 : w22.cell? ⟨gb200,0,none⟩ = some (.slice none 0 0) := (blk_cell BK200.out 0).trans rfl;have hcz23_1 : w22.cell? ⟨gb200,1,none⟩ = some (.slice none 0 0) := (blk_cell BK200.out 1).trans rfl;have hcz23_2 : w22.cell? ⟨gb200,2,none⟩ = some (.int .i64 0) := (blk_cell BK200.out 2).trans rfl;have hcz23_3 : w22.cell? ⟨gb200,3,none⟩ = some (.int .i64 0) := (blk_cell BK200.out 3).trans rfl;have hcz23_4 : w22.cell? ⟨gb200,4,none⟩ = some (.slice none 0 0) := (blk_cell BK200.out 4).trans rfl;have hfz23_0:=blk_frozen BK200.out 0;have hfz23_1:=blk_frozen BK200.out 1;have hfz23_2:=blk_frozen BK200.out 2;have hfz23_3:=blk_frozen BK200.out 3;have hfz23_4:=blk_frozen BK200.out 4) | ((with_reducible refine gate_callee (f:=13) rfl ?_);refine goesL_ (some 17) rfl rfl Try.func13 (by kernel_rfl) rfl #[.agg #[.slice Ao21 y188.length co21,.slice Ao20 y191.length co20,.int .i64 0,.int .i64 0,.slice Ao19 y197.length co19]] rfl (by (try simp only [List.map_toArray,List.map_cons,List.map_nil]);first | done | rfl | (simp only [List.length_drop,List.length_take];rfl)) ?_;(with_reducible refine (predict_Predict.calls k _ _ y188 _ _ y191 0 0 _ _ y197 t201 t204 _ ?side1 ?side2 ?side3 ?side4 ?side5 ?side6 A2.out).mono ?_);(case side1 => refine (Kd.R_reads' (e:=9) (base:=w.heap.size) (ok:=fun k_ => True) (n:=y188.length) (c:=co21) ?_).2.2;exact (by (with_reducible repeat (first | apply Kd.R_alloc | apply Kd.R_drewN | apply Kd.R_drew));exact (Kd.R_mono (Kd.R_far (p:=⟨gb200,4,none⟩) (Kd.R_far (p:=⟨gb200,3,none⟩) (Kd.R_far (p:=⟨gb200,2,none⟩) (Kd.R_far (p:=⟨gb200,1,none⟩) (Kd.R_far (p:=⟨gb200,0,none⟩) (Kd.R_types HO190.out BK200.out (by decide)) (fun _ hk => hk.2) (.slice Ao21 y188.length co21)) (fun _ hk => hk.2) (.slice Ao20 y191.length co20)) (fun _ hk => hk.2) (.int .i64 0)) (fun _ hk => hk.2) (.int .i64 0)) (fun _ hk => hk.2) (.slice Ao19 y197.length co19)) (fun _ h_ => h_.1))));(case side2 => exact (Kd.R_reads' HO190.out).2.1);(case side3 => exact (Kd.N_reads' (Kd.N_mono (Kd.N_far (p:=⟨gb200,4,none⟩) (Kd.N_far (p:=⟨gb200,3,none⟩) (Kd.N_far (p:=⟨gb200,2,none⟩) (Kd.N_far (p:=⟨gb200,1,none⟩) (Kd.N_far (p:=⟨gb200,0,none⟩) (Kd.N_mono HO193.out (fun k_ hk => (⟨hk,hk.2⟩ : _ ∧ k_ ≠ gb200))) (fun _ hk => hk.2) (.slice Ao21 y188.length co21)) (fun _ hk => hk.2) (.slice Ao20 y191.length co20)) (fun _ hk => hk.2) (.int .i64 0)) (fun _ hk => hk.2) (.int .i64 0)) (fun _ hk => hk.2) (.slice Ao19 y197.length co19)) (fun _ h_ => h_.1))).2.2);(case side4 => exact (Kd.N_reads' HO193.out).2.1);(case side5 => refine (Kd.N_reads' (e:=30) (base:=w.heap.size) (ok:=fun k_ => ((some k_ ≠ (.slice Ao21 y188.length co21 : Value).ownBlock ∧ some k_ ≠ (.slice Ao20 y191.length co20 : Value).ownBlock) ∧ k_ ≠ gb200)) (n:=y197.length) (c:=co19) ?_).2.2;exact (by (with_reducible repeat (first | apply Kd.N_alloc | apply Kd.N_drewN | apply Kd.N_drew));exact (Kd.N_mono (Kd.N_far (p:=⟨gb200,4,none⟩) (Kd.N_far (p:=⟨gb200,3,none⟩) (Kd.N_far (p:=⟨gb200,2,none⟩) (Kd.N_far (p:=⟨gb200,1,none⟩) (Kd.N_far (p:=⟨gb200,0,none⟩) (Kd.N_mono HO199.out (fun k_ hk => (⟨hk,hk.2⟩ : _ ∧ k_ ≠ gb200))) (fun _ hk => hk.2) (.slice Ao21 y188.length co21)) (fun _ hk => hk.2) (.slice Ao20 y191.length co20)) (fun _ hk => hk.2) (.int .i64 0)) (fun _ hk => hk.2) (.int .i64 0)) (fun _ hk => hk.2) (.slice Ao19 y197.length co19)) (fun _ h_ => h_.1))));(case side6 => exact (Kd.N_reads' HO199.out).2.1);rintro e w24 ⟨v202,v205,rfl,ho0,ho1,hb⟩;refine ⟨_,rfl,?_⟩;have n0_:=Aside0.mk (Kd.R_below (by (with_reducible repeat (first | apply Kd.R_alloc | apply Kd.R_drewN | apply Kd.R_drew));exact (Kd.R_mono (Kd.R_far (p:=⟨gb200,4,none⟩) (Kd.R_far (p:=⟨gb200,3,none⟩) (Kd.R_far (p:=⟨gb200,2,none⟩) (Kd.R_far (p:=⟨gb200,1,none⟩) (Kd.R_far (p:=⟨gb200,0,none⟩) (Kd.R_types HO190.out BK200.out (by decide)) (fun _ hk => hk.2) (.slice Ao21 y188.length co21)) (fun _ hk => hk.2) (.slice Ao20 y191.length co20)) (fun _ hk => hk.2) (.int .i64 0)) (fun _ hk => hk.2) (.int .i64 0)) (fun _ hk => hk.2) (.slice Ao19 y197.length co19)) (fun _ h_ => h_.1))) hb);have n1_:=Aside0.mk (Kd.N_mono (Kd.N_told (Kd.N_told (Kd.N_old (by (with_reducible repeat (first | apply Kd.N_alloc | apply Kd.N_drewN | apply Kd.N_drew));exact (Kd.N_mono (Kd.N_far (p:=⟨gb200,4,none⟩) (Kd.N_far (p:=⟨gb200,3,none⟩) (Kd.N_far (p:=⟨gb200,2,none⟩) (Kd.N_far (p:=⟨gb200,1,none⟩) (Kd.N_far (p:=⟨gb200,0,none⟩) (Kd.N_mono HO193.out (fun k_ hk => (⟨hk,hk.2⟩ : _ ∧ k_ ≠ gb200))) (fun _ hk => hk.2) (.slice Ao21 y188.length co21)) (fun _ hk => hk.2) (.slice Ao20 y191.length co20)) (fun _ hk => hk.2) (.int .i64 0)) (fun _ hk => hk.2) (.int .i64 0)) (fun _ hk => hk.2) (.slice Ao19 y197.length co19)) (fun _ h_ => h_.1))) hb) (Kd.N_base (Kd.S_N ho0))) (Kd.R_base ho1)) (fun _ h_ => h_.1));have n2_:=Aside0.mk (Kd.N_mono (Kd.N_told (Kd.N_told (Kd.N_old (by (with_reducible repeat (first | apply Kd.N_alloc | apply Kd.N_drewN | apply Kd.N_drew));exact (Kd.N_mono (Kd.N_far (p:=⟨gb200,4,none⟩) (Kd.N_far (p:=⟨gb200,3,none⟩) (Kd.N_far (p:=⟨gb200,2,none⟩) (Kd.N_far (p:=⟨gb200,1,none⟩) (Kd.N_far (p:=⟨gb200,0,none⟩) (Kd.N_mono HO199.out (fun k_ hk => (⟨hk,hk.2⟩ : _ ∧ k_ ≠ gb200))) (fun _ hk => hk.2) (.slice Ao21 y188.length co21)) (fun _ hk => hk.2) (.slice Ao20 y191.length co20)) (fun _ hk => hk.2) (.int .i64 0)) (fun _ hk => hk.2) (.int .i64 0)) (fun _ hk => hk.2) (.slice Ao19 y197.length co19)) (fun _ h_ => h_.1))) hb) (Kd.N_base (Kd.S_N ho0))) (Kd.R_base ho1)) (fun _ h_ => h_.1));have n3_:=Aside0.mk (Kd.N_lower (Kd.N_mono (ok' := fun k_ => some k_ ≠ (v205 : Value).ownBlock ∧ some k_ ≠ (.slice Ao21 y188.length co21 : Value).ownBlock ∧ some k_ ≠ (.slice Ao20 y191.length co20 : Value).ownBlock ∧ some k_ ≠ (.slice Ao19 y197.length co19 : Value).ownBlock ∧ k_ ≠ gb200) (Kd.S_N (Kd.S_bound (Kd.S_apart' ho0 (Kd.R_typed ho1) (by decide)))) (fun k_ hk_ => ⟨hk_.1.2,(Kd.fresh' (Kd.R_lt (by (with_reducible repeat (first | apply Kd.R_alloc | apply Kd.R_drewN | apply Kd.R_drew));exact (Kd.R_mono (Kd.R_far (p:=⟨gb200,4,none⟩) (Kd.R_far (p:=⟨gb200,3,none⟩) (Kd.R_far (p:=⟨gb200,2,none⟩) (Kd.R_far (p:=⟨gb200,1,none⟩) (Kd.R_far (p:=⟨gb200,0,none⟩) (Kd.R_types HO190.out BK200.out (by decide)) (fun _ hk => hk.2) (.slice Ao21 y188.length co21)) (fun _ hk => hk.2) (.slice Ao20 y191.length co20)) (fun _ hk => hk.2) (.int .i64 0)) (fun _ hk => hk.2) (.int .i64 0)) (fun _ hk => hk.2) (.slice Ao19 y197.length co19)) (fun _ h_ => h_.1)))) k_ hk_.2.1),(Kd.fresh' (Kd.N_lt (by (with_reducible repeat (first | apply Kd.N_alloc | apply Kd.N_drewN | apply Kd.N_drew));exact (Kd.N_mono (Kd.N_far (p:=⟨gb200,4,none⟩) (Kd.N_far (p:=⟨gb200,3,none⟩) (Kd.N_far (p:=⟨gb200,2,none⟩) (Kd.N_far (p:=⟨gb200,1,none⟩) (Kd.N_far (p:=⟨gb200,0,none⟩) (Kd.N_mono HO193.out (fun k_ hk => (⟨hk,hk.2⟩ : _ ∧ k_ ≠ gb200))) (fun _ hk => hk.2) (.slice Ao21 y188.length co21)) (fun _ hk => hk.2) (.slice Ao20 y191.length co20)) (fun _ hk => hk.2) (.int .i64 0)) (fun _ hk => hk.2) (.int .i64 0)) (fun _ hk => hk.2) (.slice Ao19 y197.length co19)) (fun _ h_ => h_.1)))) k_ hk_.2.1),(Kd.fresh' (Kd.N_lt (by (with_reducible repeat (first | apply Kd.N_alloc | apply Kd.N_drewN | apply Kd.N_drew));exact (Kd.N_mono (Kd.N_far (p:=⟨gb200,4,none⟩) (Kd.N_far (p:=⟨gb200,3,none⟩) (Kd.N_far (p:=⟨gb200,2,none⟩) (Kd.N_far (p:=⟨gb200,1,none⟩) (Kd.N_far (p:=⟨gb200,0,none⟩) (Kd.N_mono HO199.out (fun k_ hk => (⟨hk,hk.2⟩ : _ ∧ k_ ≠ gb200))) (fun _ hk => hk.2) (.slice Ao21 y188.length co21)) (fun _ hk => hk.2) (.slice Ao20 y191.length co20)) (fun _ hk => hk.2) (.int .i64 0)) (fun _ hk => hk.2) (.int .i64 0)) (fun _ hk => hk.2) (.slice Ao19 y197.length co19)) (fun _ h_ => h_.1)))) k_ hk_.2.1),(Kd.freshB (g:=gb200) (o := .cells #[.slice Ao21 y188.length co21,.slice Ao20 y191.length co20,.int .i64 0,.int .i64 0,.slice Ao19 y197.length co19] 26 (0,0)) (by (with_reducible repeat (first | refine blk_drewN ?_ _ | refine blk_drew ?_ | refine blk_alloc ?_ _));refine blk_put (cs:=#[.slice Ao21 y188.length co21,.slice Ao20 y191.length co20,.int .i64 0,.int .i64 0,.slice none 0 0]) ?_ 4 _ rfl;(with_reducible repeat (first | refine blk_drewN ?_ _ | refine blk_drew ?_ | refine blk_alloc ?_ _));refine blk_put (cs:=#[.slice Ao21 y188.length co21,.slice Ao20 y191.length co20,.int .i64 0,.int .i64 0,.slice none 0 0]) ?_ 3 _ rfl;(with_reducible repeat (first | refine blk_drewN ?_ _ | refine blk_drew ?_ | refine blk_alloc ?_ _));refine blk_put (cs:=#[.slice Ao21 y188.length co21,.slice Ao20 y191.length co20,.int .i64 0,.int .i64 0,.slice none 0 0]) ?_ 2 _ rfl;(with_reducible repeat (first | refine blk_drewN ?_ _ | refine blk_drew ?_ | refine blk_alloc ?_ _));refine blk_put (cs:=#[.slice Ao21 y188.length co21,.slice none 0 0,.int .i64 0,.int .i64 0,.slice none 0 0]) ?_ 1 _ rfl;(with_reducible repeat (first | refine blk_drewN ?_ _ | refine blk_drew ?_ | refine blk_alloc ?_ _));refine blk_put (cs:=#[.slice none 0 0,.slice none 0 0,.int .i64 0,.int .i64 0,.slice none 0 0]) ?_ 0 _ rfl;(with_reducible repeat (first | refine blk_drewN ?_ _ | refine blk_drew ?_ | refine blk_alloc ?_ _));exact BK200.out) k_ hk_.2.1)⟩)) (below_size (by repeat (first | (with_reducible first | exact HB.out | apply below_alloc | apply pw_below_drewN | apply below_drew1 | refine below_set ?_ GE200.out) | exact HB.out))));have n4_:=Aside0.mk (Kd.R_lower ho1 (below_size (by repeat (first | (with_reducible first | exact HB.out | apply below_alloc | apply pw_below_drewN | apply below_drew1 | refine below_set ?_ GE200.out) | exact HB.out))));have n5_:=Aside0.mk (blk_below (g:=gb200) (o := .cells #[.slice Ao21 y188.length co21,.slice Ao20 y191.length co20,.int .i64 0,.int .i64 0,.slice Ao19 y197.length co19] 26 (0,0)) (by (with_reducible repeat (first | refine blk_drewN ?_ _ | refine blk_drew ?_ | refine blk_alloc ?_ _));refine blk_put (cs:=#[.slice Ao21 y188.length co21,.slice Ao20 y191.length co20,.int .i64 0,.int .i64 0,.slice none 0 0]) ?_ 4 _ rfl;(with_reducible repeat (first | refine blk_drewN ?_ _ | refine blk_drew ?_ | refine blk_alloc ?_ _));refine blk_put (cs:=#[.slice Ao21 y188.length co21,.slice Ao20 y191.length co20,.int .i64 0,.int .i64 0,.slice none 0 0]) ?_ 3 _ rfl;(with_reducible repeat (first | refine blk_drewN ?_ _ | refine blk_drew ?_ | refine blk_alloc ?_ _));refine blk_put (cs:=#[.slice Ao21 y188.length co21,.slice Ao20 y191.length co20,.int .i64 0,.int .i64 0,.slice none 0 0]) ?_ 2 _ rfl;(with_reducible repeat (first | refine blk_drewN ?_ _ | refine blk_drew ?_ | refine blk_alloc ?_ _));refine blk_put (cs:=#[.slice Ao21 y188.length co21,.slice none 0 0,.int .i64 0,.int .i64 0,.slice none 0 0]) ?_ 1 _ rfl;(with_reducible repeat (first | refine blk_drewN ?_ _ | refine blk_drew ?_ | refine blk_alloc ?_ _));refine blk_put (cs:=#[.slice none 0 0,.slice none 0 0,.int .i64 0,.int .i64 0,.slice none 0 0]) ?_ 0 _ rfl;(with_reducible repeat (first | refine blk_drewN ?_ _ | refine blk_drew ?_ | refine blk_alloc ?_ _));exact BK200.out) hb);have n6_:=Aside0.mk (below_step (by repeat (first | (with_reducible first | exact HB.out | apply below_alloc | apply pw_below_drewN | apply below_drew1 | refine below_set ?_ GE200.out) | exact HB.out)) hb);clear HO190;clear HO193;clear HO199;clear BK200;clear HB;have HO190:=n0_;have HO193:=n1_;have HO199:=n2_;have HO203:=n3_;have HO206:=n4_;have BK200:=n5_;have HB:=n6_;clear n0_ n1_ n2_ n3_ n4_ n5_ n6_;(try clear hb);(try clear hb2);(try clear hk);(try clear hi);(try clear ho0);(try clear ho1);have hcz25_0 : w24.cell? ⟨gb200,0,none⟩ = some (.slice Ao21 y188.length co21) := (blk_cell BK200.out 0).trans rfl;have hcz25_1 : w24.cell? ⟨gb200,1,none⟩ = some (.slice Ao20 y191.length co20) := (blk_cell BK200.out 1).trans rfl;have hcz25_2 : w24.cell? ⟨gb200,2,none⟩ = some (.int .i64 0) := (blk_cell BK200.out 2).trans rfl;have hcz25_3 : w24.cell? ⟨gb200,3,none⟩ = some (.int .i64 0) := (blk_cell BK200.out 3).trans rfl;have hcz25_4 : w24.cell? ⟨gb200,4,none⟩ = some (.slice Ao19 y197.length co19) := (blk_cell BK200.out 4).trans rfl;have hfz25_0:=blk_frozen BK200.out 0;have hfz25_1:=blk_frozen BK200.out 1;have hfz25_2:=blk_frozen BK200.out 2;have hfz25_3:=blk_frozen BK200.out 3;have hfz25_4:=blk_frozen BK200.out 4) | ((with_reducible refine gate_builtin (b := .append) (xs:=#[.tmp 21,.tmp 23]) rfl ?_);(try (refine gate_guard (by rfl) ?_;dsimp only));at_builtin;refine Kd.N_append k30 (w0:=w) w.heap.size rfl (.tmp 21) (.tmp 23) 24 30 (.agg #[(.int .i64 0),(.slice none 0 0)]) 32 rfl Try.underlying24 info30 rfl (by decide) (by omega) (.slice Ao19 y197.length co19) y197 (⟨0,([] : List (S53))⟩ : S30) [.int .i64 0,.slice none 0 0] (fun k_ => some k_ ≠ (.slice Ao21 y188.length co21 : Value).ownBlock ∧ some k_ ≠ (.slice Ao20 y191.length co20 : Value).ownBlock ∧ some k_ ≠ (v202 : Value).ownBlock ∧ some k_ ≠ (v205 : Value).ownBlock ∧ k_ ≠ gb200) (fun k_ => ((fun k_ => some k_ ≠ (.slice Ao21 y188.length co21 : Value).ownBlock ∧ some k_ ≠ (.slice Ao20 y191.length co20 : Value).ownBlock ∧ some k_ ≠ (v202 : Value).ownBlock ∧ some k_ ≠ (v205 : Value).ownBlock ∧ k_ ≠ gb200)) k_ ∧ some k_ ≠ (.slice Ao19 y197.length co19 : Value).ownBlock) rfl rfl ?aP (fun _ hk => hk) ?aF ?aO ?aB ?aS ?aL ?_;(case aP => exact (k30_mkF _ _ (⟨0,([] : List (S53))⟩ : S30) (Nat.le_refl _) (Kd.F_nil _ _ _)));(case aB => exact (by repeat (first | (with_reducible first | exact HB.out | apply below_alloc | apply pw_below_drewN | apply below_drew1 | refine below_set ?_ GE200.out) | exact HB.out)));(case aF => exact (fun k_ hk => ⟨Kd.fresh' (Kd.R_lt (by (with_reducible repeat (first | apply Kd.R_alloc | apply Kd.R_drewN | apply Kd.R_drew));exact HO190.out)) k_ hk,Kd.fresh' (Kd.N_lt (by (with_reducible repeat (first | apply Kd.N_alloc | apply Kd.N_drewN | apply Kd.N_drew));exact HO193.out)) k_ hk,Kd.fresh' (Kd.N_lt (by (with_reducible repeat (first | apply Kd.N_alloc | apply Kd.N_drewN | apply Kd.N_drew));exact HO203.out)) k_ hk,Kd.fresh' (Kd.R_lt (by (with_reducible repeat (first | apply Kd.R_alloc | apply Kd.R_drewN | apply Kd.R_drew));exact HO206.out)) k_ hk,Kd.freshB (g:=gb200) (o := .cells #[.slice Ao21 y188.length co21,.slice Ao20 y191.length co20,.int .i64 0,.int .i64 0,.slice Ao19 y197.length co19] 26 (0,0)) (by (with_reducible repeat (first | refine blk_drewN ?_ _ | refine blk_drew ?_ | refine blk_alloc ?_ _));exact BK200.out) k_ hk⟩));(case aO => exact (by (with_reducible repeat (first | apply Kd.N_alloc | apply Kd.N_drewN | apply Kd.N_drew));exact Kd.N_mono HO199.out (fun _ hk => ⟨hk.1.1.1.1,⟨hk.1.1.1.2,⟨hk.1.2,⟨hk.2,hk.1.1.2⟩⟩⟩⟩)));(case aS => exact (below_size (by repeat (first | (with_reducible first | exact HB.out | apply below_alloc | apply pw_below_drewN | apply below_drew1 | refine below_set ?_ GE200.out) | exact HB.out))));(case aL => have:=LMc3.out;omega);intro v208 w26 ho hb hg hat;rw [← Ny207.out] at ho;have n0_:=Aside0.mk (Kd.R_over' (by (with_reducible repeat (first | apply Kd.R_alloc | apply Kd.R_drewN | apply Kd.R_drew));exact HO190.out) (Kd.N_typed (by (with_reducible repeat (first | apply Kd.N_alloc | apply Kd.N_drewN | apply Kd.N_drew));exact HO199.out)) (by decide) hg);have n1_:=Aside0.mk (Kd.N_afterv (ok:=(fun k_ => some k_ ≠ (.slice Ao21 y188.length co21 : Value).ownBlock ∧ some k_ ≠ (v202 : Value).ownBlock ∧ some k_ ≠ (v205 : Value).ownBlock ∧ k_ ≠ gb200)) (by (with_reducible repeat (first | apply Kd.N_alloc | apply Kd.N_drewN | apply Kd.N_drew));exact Kd.N_mono HO193.out (fun _ hk => ⟨⟨hk.1.1.1.1.1,⟨hk.1.2,⟨hk.2,hk.1.1.2⟩⟩⟩,hk.1.1.1.2⟩)) hg hat);have n2_:=Aside0.mk (blk_grown (g:=gb200) (o := .cells #[.slice Ao21 y188.length co21,.slice Ao20 y191.length co20,.int .i64 0,.int .i64 0,.slice Ao19 y197.length co19] 26 (0,0)) (by (with_reducible repeat (first | refine blk_drewN ?_ _ | refine blk_drew ?_ | refine blk_alloc ?_ _));exact BK200.out) hg (Kd.N_ne HO199.out BK200.out (by decide)));have n3_:=Aside0.mk (Kd.N_afterv (ok:=(fun k_ => some k_ ≠ (.slice Ao21 y188.length co21 : Value).ownBlock ∧ some k_ ≠ (.slice Ao20 y191.length co20 : Value).ownBlock ∧ some k_ ≠ (v205 : Value).ownBlock ∧ k_ ≠ gb200)) (by (with_reducible repeat (first | apply Kd.N_alloc | apply Kd.N_drewN | apply Kd.N_drew));exact Kd.N_mono HO203.out (fun _ hk => ⟨⟨hk.2.1,⟨hk.2.2.1,⟨hk.1,hk.2.2.2.2⟩⟩⟩,hk.2.2.2.1⟩)) hg hat);have n4_:=Aside0.mk (Kd.R_over' (by (with_reducible repeat (first | apply Kd.R_alloc | apply Kd.R_drewN | apply Kd.R_drew));exact HO206.out) (Kd.N_typed (by (with_reducible repeat (first | apply Kd.N_alloc | apply Kd.N_drewN | apply Kd.N_drew));exact HO199.out)) (by decide) hg);have n5_:=Aside0.mk (hb);have n6_:=Aside0.mk (ho);clear HO190;clear HO193;clear BK200;clear HO203;clear HO206;clear HB;clear HO199;have HO190:=n0_;have HO193:=n1_;have BK200:=n2_;have HO203:=n3_;have HO206:=n4_;have HB:=n5_;have HO209:=n6_;clear n0_ n1_ n2_ n3_ n4_ n5_ n6_;clear ho hb hg hat;obtain ⟨Ao27,co27,eo27⟩ := Kd.N_slice HO209.out;subst eo27;have hcz28_0 : w26.cell? ⟨gb200,0,none⟩ = some (.slice Ao21 y188.length co21) := (blk_cell BK200.out 0).trans rfl;have hcz28_1 : w26.cell? ⟨gb200,1,none⟩ = some (.slice Ao20 y191.length co20) := (blk_cell BK200.out 1).trans rfl;have hcz28_2 : w26.cell? ⟨gb200,2,none⟩ = some (.int .i64 0) := (blk_cell BK200.out 2).trans rfl;have hcz28_3 : w26.cell? ⟨gb200,3,none⟩ = some (.int .i64 0) := (blk_cell BK200.out 3).trans rfl;have hcz28_4 : w26.cell? ⟨gb200,4,none⟩ = some (.slice Ao19 y197.length co19) := (blk_cell BK200.out 4).trans rfl;have hfz28_0:=blk_frozen BK200.out 0;have hfz28_1:=blk_frozen BK200.out 1;have hfz28_2:=blk_frozen BK200.out 2;have hfz28_3:=blk_frozen BK200.out 3;have hfz28_4:=blk_frozen BK200.out 4) | ((with_reducible refine gate_callee (f:=13) rfl ?_);refine goesL_ (some 28) rfl rfl Try.func13 (by kernel_rfl) rfl #[.agg #[.slice Ao21 y188.length co21,.slice Ao20 y191.length co20,.int .i64 0,.int .i64 0,.slice Ao27 y207.length co27]] rfl (by (try simp only [List.map_toArray,List.map_cons,List.map_nil]);first | done | rfl | (simp only [List.length_drop,List.length_take];rfl)) ?_;(with_reducible refine (predict_Predict.calls k _ _ y188 _ _ y191 0 0 _ _ y207 t210 t213 _ ?side1 ?side2 ?side3 ?side4 ?side5 ?side6 A4.out).mono ?_);(case side1 => refine (Kd.R_reads' (e:=9) (base:=w.heap.size) (ok:=fun k_ => True) (n:=y188.length) (c:=co21) ?_).2.2;exact (by (with_reducible repeat (first | apply Kd.R_alloc | apply Kd.R_drewN | apply Kd.R_drew));exact (Kd.R_mono (Kd.R_far (p:=⟨gb200,4,none⟩) (Kd.R_types HO190.out BK200.out (by decide)) (fun _ hk => hk.2) (.slice Ao27 y207.length co27)) (fun _ h_ => h_.1))));(case side2 => exact (Kd.R_reads' HO190.out).2.1);(case side3 => refine (Kd.N_reads' (e:=61) (base:=w.heap.size) (ok:=fun k_ => ((some k_ ≠ (.slice Ao21 y188.length co21 : Value).ownBlock ∧ (some k_ ≠ (v202 : Value).ownBlock ∧ (some k_ ≠ (v205 : Value).ownBlock ∧ k_ ≠ gb200))) ∧ some k_ ≠ (.slice Ao27 y207.length co27 : Value).ownBlock)) (n:=y191.length) (c:=co20) ?_).2.2;exact (by (with_reducible repeat (first | apply Kd.N_alloc | apply Kd.N_drewN | apply Kd.N_drew));exact (Kd.N_mono (Kd.N_far (p:=⟨gb200,4,none⟩) (Kd.N_mono HO193.out (fun k_ hk => (⟨hk,hk.1.2.2.2⟩ : _ ∧ k_ ≠ gb200))) (fun _ hk => hk.2) (.slice Ao27 y207.length co27)) (fun _ h_ => h_.1))));(case side4 => exact (Kd.N_reads' HO193.out).2.1);(case side5 => refine (Kd.N_reads' (e:=30) (base:=w.heap.size) (ok:=fun k_ => (some k_ ≠ (.slice Ao21 y188.length co21 : Value).ownBlock ∧ (some k_ ≠ (.slice Ao20 y191.length co20 : Value).ownBlock ∧ (some k_ ≠ (v202 : Value).ownBlock ∧ (some k_ ≠ (v205 : Value).ownBlock ∧ k_ ≠ gb200))))) (n:=y207.length) (c:=co27) ?_).2.2;exact (by (with_reducible repeat (first | apply Kd.N_alloc | apply Kd.N_drewN | apply Kd.N_drew));exact (Kd.N_mono (Kd.N_far (p:=⟨gb200,4,none⟩) (Kd.N_mono HO209.out (fun k_ hk => (⟨hk,hk.2.2.2.2⟩ : _ ∧ k_ ≠ gb200))) (fun _ hk => hk.2) (.slice Ao27 y207.length co27)) (fun _ h_ => h_.1))));(case side6 => exact (Kd.N_reads' HO209.out).2.1);rintro e w29 ⟨v211,v214,rfl,ho0,ho1,hb⟩;refine ⟨_,rfl,?_⟩;have n0_:=Aside0.mk (Kd.R_below (by (with_reducible repeat (first | apply Kd.R_alloc | apply Kd.R_drewN | apply Kd.R_drew));exact (Kd.R_mono (Kd.R_far (p:=⟨gb200,4,none⟩) (Kd.R_types HO190.out BK200.out (by decide)) (fun _ hk => hk.2) (.slice Ao27 y207.length co27)) (fun _ h_ => h_.1))) hb);have n1_:=Aside0.mk (Kd.N_mono (Kd.N_told (Kd.N_told (Kd.N_old (by (with_reducible repeat (first | apply Kd.N_alloc | apply Kd.N_drewN | apply Kd.N_drew));exact (Kd.N_mono (Kd.N_far (p:=⟨gb200,4,none⟩) (Kd.N_mono HO193.out (fun k_ hk => (⟨hk,hk.1.2.2.2⟩ : _ ∧ k_ ≠ gb200))) (fun _ hk => hk.2) (.slice Ao27 y207.length co27)) (fun _ h_ => h_.1))) hb) (Kd.N_base (Kd.S_N ho0))) (Kd.R_base ho1)) (fun _ h_ => h_.1));have n2_:=Aside0.mk (Kd.N_mono (Kd.N_told (Kd.N_told (Kd.N_old (by (with_reducible repeat (first | apply Kd.N_alloc | apply Kd.N_drewN | apply Kd.N_drew));exact (Kd.N_mono (Kd.N_far (p:=⟨gb200,4,none⟩) (Kd.N_mono HO203.out (fun k_ hk => (⟨hk,hk.1.2.2.2⟩ : _ ∧ k_ ≠ gb200))) (fun _ hk => hk.2) (.slice Ao27 y207.length co27)) (fun _ h_ => h_.1))) hb) (Kd.N_base (Kd.S_N ho0))) (Kd.R_base ho1)) (fun _ h_ => h_.1));have n3_:=Aside0.mk (Kd.R_elder' (by (with_reducible repeat (first | apply Kd.R_alloc | apply Kd.R_drewN | apply Kd.R_drew));exact (Kd.R_mono (Kd.R_far (p:=⟨gb200,4,none⟩) (Kd.R_types HO206.out BK200.out (by decide)) (fun _ hk => hk.2) (.slice Ao27 y207.length co27)) (fun _ h_ => h_.1))) (Kd.R_base ho1) hb);have n4_:=Aside0.mk (Kd.N_mono (Kd.N_told (Kd.N_told (Kd.N_old (by (with_reducible repeat (first | apply Kd.N_alloc | apply Kd.N_drewN | apply Kd.N_drew));exact (Kd.N_mono (Kd.N_far (p:=⟨gb200,4,none⟩) (Kd.N_mono HO209.out (fun k_ hk => (⟨hk,hk.2.2.2.2⟩ : _ ∧ k_ ≠ gb200))) (fun _ hk => hk.2) (.slice Ao27 y207.length co27)) (fun _ h_ => h_.1))) hb) (Kd.N_base (Kd.S_N ho0))) (Kd.R_base ho1)) (fun _ h_ => h_.1));have n5_:=Aside0.mk (Kd.N_lower (Kd.N_mono (ok' := fun k_ => some k_ ≠ (v214 : Value).ownBlock ∧ some k_ ≠ (.slice Ao21 y188.length co21 : Value).ownBlock ∧ some k_ ≠ (.slice Ao20 y191.length co20 : Value).ownBlock ∧ some k_ ≠ (v202 : Value).ownBlock ∧ some k_ ≠ (v205 : Value).ownBlock ∧ some k_ ≠ (.slice Ao27 y207.length co27 : Value).ownBlock ∧ k_ ≠ gb200) (Kd.S_N (Kd.S_bound (Kd.S_apart' ho0 (Kd.R_typed ho1) (by decide)))) (fun k_ hk_ => ⟨hk_.1.2,(Kd.fresh' (Kd.R_lt (by (with_reducible repeat (first | apply Kd.R_alloc | apply Kd.R_drewN | apply Kd.R_drew));exact (Kd.R_mono (Kd.R_far (p:=⟨gb200,4,none⟩) (Kd.R_types HO190.out BK200.out (by decide)) (fun _ hk => hk.2) (.slice Ao27 y207.length co27)) (fun _ h_ => h_.1)))) k_ hk_.2.1),(Kd.fresh' (Kd.N_lt (by (with_reducible repeat (first | apply Kd.N_alloc | apply Kd.N_drewN | apply Kd.N_drew));exact (Kd.N_mono (Kd.N_far (p:=⟨gb200,4,none⟩) (Kd.N_mono HO193.out (fun k_ hk => (⟨hk,hk.1.2.2.2⟩ : _ ∧ k_ ≠ gb200))) (fun _ hk => hk.2) (.slice Ao27 y207.length co27)) (fun _ h_ => h_.1)))) k_ hk_.2.1),(Kd.fresh' (Kd.N_lt (by (with_reducible repeat (first | apply Kd.N_alloc | apply Kd.N_drewN | apply Kd.N_drew));exact (Kd.N_mono (Kd.N_far (p:=⟨gb200,4,none⟩) (Kd.N_mono HO203.out (fun k_ hk => (⟨hk,hk.1.2.2.2⟩ : _ ∧ k_ ≠ gb200))) (fun _ hk => hk.2) (.slice Ao27 y207.length co27)) (fun _ h_ => h_.1)))) k_ hk_.2.1),(Kd.fresh' (Kd.R_lt (by (with_reducible repeat (first | apply Kd.R_alloc | apply Kd.R_drewN | apply Kd.R_drew));exact (Kd.R_mono (Kd.R_far (p:=⟨gb200,4,none⟩) (Kd.R_types HO206.out BK200.out (by decide)) (fun _ hk => hk.2) (.slice Ao27 y207.length co27)) (fun _ h_ => h_.1)))) k_ hk_.2.1),(Kd.fresh' (Kd.N_lt (by (with_reducible repeat (first | apply Kd.N_alloc | apply Kd.N_drewN | apply Kd.N_drew));exact (Kd.N_mono (Kd.N_far (p:=⟨gb200,4,none⟩) (Kd.N_mono HO209.out (fun k_ hk => (⟨hk,hk.2.2.2.2⟩ : _ ∧ k_ ≠ gb200))) (fun _ hk => hk.2) (.slice Ao27 y207.length co27)) (fun _ h_ => h_.1)))) k_ hk_.2.1),(Kd.freshB (g:=gb200) (o := .cells #[.slice Ao21 y188.length co21,.slice Ao20 y191.length co20,.int .i64 0,.int .i64 0,.slice Ao27 y207.length co27] 26 (0,0)) (by (with_reducible repeat (first | refine blk_drewN ?_ _ | refine blk_drew ?_ | refine blk_alloc ?_ _));refine blk_put (cs:=#[.slice Ao21 y188.length co21,.slice Ao20 y191.length co20,.int .i64 0,.int .i64 0,.slice Ao19 y197.length co19]) ?_ 4 _ rfl;(with_reducible repeat (first | refine blk_drewN ?_ _ | refine blk_drew ?_ | refine blk_alloc ?_ _));exact BK200.out) k_ hk_.2.1)⟩)) (below_size (by repeat (first | (with_reducible first | exact HB.out | apply below_alloc | apply pw_below_drewN | apply below_drew1 | refine below_set ?_ GE200.out) | exact HB.out))));have n6_:=Aside0.mk (Kd.R_lower (Kd.R_new' ho1 (Kd.R_lt (by (with_reducible repeat (first | apply Kd.R_alloc | apply Kd.R_drewN | apply Kd.R_drew));exact (Kd.R_mono (Kd.R_far (p:=⟨gb200,4,none⟩) (Kd.R_types HO206.out BK200.out (by decide)) (fun _ hk => hk.2) (.slice Ao27 y207.length co27)) (fun _ h_ => h_.1))))) (below_size (by repeat (first | (with_reducible first | exact HB.out | apply below_alloc | apply pw_below_drewN | apply below_drew1 | refine below_set ?_ GE200.out) | exact HB.out))));have n7_:=Aside0.mk (blk_below (g:=gb200) (o := .cells #[.slice Ao21 y188.length co21,.slice Ao20 y191.length co20,.int .i64 0,.int .i64 0,.slice Ao27 y207.length co27] 26 (0,0)) (by (with_reducible repeat (first | refine blk_drewN ?_ _ | refine blk_drew ?_ | refine blk_alloc ?_ _));refine blk_put (cs:=#[.slice Ao21 y188.length co21,.slice Ao20 y191.length co20,.int .i64 0,.int .i64 0,.slice Ao19 y197.length co19]) ?_ 4 _ rfl;(with_reducible repeat (first | refine blk_drewN ?_ _ | refine blk_drew ?_ | refine blk_alloc ?_ _));exact BK200.out) hb);have n8_:=Aside0.mk (below_step (by repeat (first | (with_reducible first | exact HB.out | apply below_alloc | apply pw_below_drewN | apply below_drew1 | refine below_set ?_ GE200.out) | exact HB.out)) hb);clear HO190;clear HO193;clear HO203;clear HO206;clear HO209;clear BK200;clear HB;have HO190:=n0_;have HO193:=n1_;have HO203:=n2_;have HO206:=n3_;have HO209:=n4_;have HO212:=n5_;have HO215:=n6_;have BK200:=n7_;have HB:=n8_;clear n0_ n1_ n2_ n3_ n4_ n5_ n6_ n7_ n8_;(try clear hb);(try clear hb2);(try clear hk);(try clear hi);(try clear ho0);(try clear ho1);obtain ⟨Ao30,co30,eo30⟩ := Kd.R_slice HO206.out;subst eo30) | ((with_reducible refine gate_dst (N:=36) rfl ?_);(try (refine gate_guard (by rfl) ?_;dsimp only));refine Kd.R_lit (Kd.int .i64) _ 3 ?hg (N:=36) ?hd (xs:=([0,1] : List Int)) (inner := [.int .i64 0,.int .i64 1]) (ok:=fun _ => True) (okp:=fun _ => True) ?hr ?hp (fun _ hk => hk) trivial (Below.refl _ _) (Nat.le_refl _) (by simp) ?_;(case hd => rfl);(case hg => rfl);(case hr => first | (go_simp;done) | (go_simp;rfl));(case hp => exact (Reps.one (show Kd.M (Kd.int .i64) _ _ _ 0 [.int .i64 0] from rfl) (Reps.one (show Kd.M (Kd.int .i64) _ _ _ 1 [.int .i64 1] from rfl) (Reps.none _ _))));intro v217 w31 ho32 hb hg_ hnew_;clear hg_ hnew_;(first | rw [← Ny216.out] at ho32 | (simp only [Int.reduceToNat] at ho32;rw [← Ny216.out] at ho32));have n0_:=Aside0.mk (Kd.R_below (by (with_reducible repeat (first | apply Kd.R_alloc | apply Kd.R_drewN | apply Kd.R_drew));exact HO190.out) hb);have n1_:=Aside0.mk (Kd.N_elder' (by (with_reducible repeat (first | apply Kd.N_alloc | apply Kd.N_drewN | apply Kd.N_drew));exact HO193.out) (Kd.R_base ho32) hb);have n2_:=Aside0.mk (Kd.N_elder' (by (with_reducible repeat (first | apply Kd.N_alloc | apply Kd.N_drewN | apply Kd.N_drew));exact HO203.out) (Kd.R_base ho32) hb);have n3_:=Aside0.mk (Kd.R_below (by (with_reducible repeat (first | apply Kd.R_alloc | apply Kd.R_drewN | apply Kd.R_drew));exact HO206.out) hb);have n4_:=Aside0.mk (Kd.N_elder' (by (with_reducible repeat (first | apply Kd.N_alloc | apply Kd.N_drewN | apply Kd.N_drew));exact HO209.out) (Kd.R_base ho32) hb);have n5_:=Aside0.mk (Kd.N_elder' (by (with_reducible repeat (first | apply Kd.N_alloc | apply Kd.N_drewN | apply Kd.N_drew));exact HO212.out) (Kd.R_base ho32) hb);have n6_:=Aside0.mk (Kd.R_below (by (with_reducible repeat (first | apply Kd.R_alloc | apply Kd.R_drewN | apply Kd.R_drew));exact HO215.out) hb);have n7_:=Aside0.mk (Kd.R_lower ho32 (below_size (by repeat (first | (with_reducible first | exact HB.out | apply below_alloc | apply pw_below_drewN | apply below_drew1 | refine below_set ?_ GE200.out) | exact HB.out))));have n8_:=Aside0.mk (blk_below (g:=gb200) (o := .cells #[.slice Ao21 y188.length co21,.slice Ao20 y191.length co20,.int .i64 0,.int .i64 0,.slice Ao27 y207.length co27] 26 (0,0)) (by (with_reducible repeat (first | refine blk_drewN ?_ _ | refine blk_drew ?_ | refine blk_alloc ?_ _));exact BK200.out) hb);have n9_:=Aside0.mk (below_step (by repeat (first | (with_reducible first | exact HB.out | apply below_alloc | apply pw_below_drewN | apply below_drew1 | refine below_set ?_ GE200.out) | exact HB.out)) hb);clear HO190;clear HO193;clear HO203;clear HO206;clear HO209;clear HO212;clear HO215;clear BK200;clear HB;have HO190:=n0_;have HO193:=n1_;have HO203:=n2_;have HO206:=n3_;have HO209:=n4_;have HO212:=n5_;have HO215:=n6_;have HO218:=n7_;have BK200:=n8_;have HB:=n9_;clear n0_ n1_ n2_ n3_ n4_ n5_ n6_ n7_ n8_ n9_;clear hb ho32;obtain ⟨Ao33,co33,eo33⟩ := Kd.R_slice HO218.out;subst eo33) | ((with_reducible refine gate_dst (N:=37) rfl ?_);(try (refine gate_guard (by rfl) ?_;dsimp only));refine Kd.N_lit (Kd.slice 3 (Kd.int .i64)) _ 43 ?hg (N' := 37) ?hd (xs:=([y216] : List (List Int))) (inner := [.slice Ao33 y216.length co33]) (ok:=(fun k_ => some k_ ≠ (.slice Ao21 y188.length co21 : Value).ownBlock ∧ some k_ ≠ (.slice Ao20 y191.length co20 : Value).ownBlock ∧ some k_ ≠ (v202 : Value).ownBlock ∧ some k_ ≠ (.slice Ao30 t204.length co30 : Value).ownBlock ∧ some k_ ≠ (.slice Ao27 y207.length co27 : Value).ownBlock ∧ some k_ ≠ (v211 : Value).ownBlock ∧ some k_ ≠ (v214 : Value).ownBlock ∧ k_ ≠ gb200)) (okp:=(fun k_ => some k_ ≠ (.slice Ao21 y188.length co21 : Value).ownBlock ∧ some k_ ≠ (.slice Ao20 y191.length co20 : Value).ownBlock ∧ some k_ ≠ (v202 : Value).ownBlock ∧ some k_ ≠ (.slice Ao30 t204.length co30 : Value).ownBlock ∧ some k_ ≠ (.slice Ao27 y207.length co27 : Value).ownBlock ∧ some k_ ≠ (v211 : Value).ownBlock ∧ some k_ ≠ (v214 : Value).ownBlock ∧ k_ ≠ gb200)) ?hr ?hp (fun _ hk => hk) ((show ∀ k_,w31.heap.size ≤ k_ → (fun k_ => some k_ ≠ (.slice Ao21 y188.length co21 : Value).ownBlock ∧ some k_ ≠ (.slice Ao20 y191.length co20 : Value).ownBlock ∧ some k_ ≠ (v202 : Value).ownBlock ∧ some k_ ≠ (.slice Ao30 t204.length co30 : Value).ownBlock ∧ some k_ ≠ (.slice Ao27 y207.length co27 : Value).ownBlock ∧ some k_ ≠ (v211 : Value).ownBlock ∧ some k_ ≠ (v214 : Value).ownBlock ∧ k_ ≠ gb200) k_ from fun k_ hk => ⟨Kd.fresh' (Kd.R_lt (by (with_reducible repeat (first | apply Kd.R_alloc | apply Kd.R_drewN | apply Kd.R_drew));exact HO190.out)) k_ hk,Kd.fresh' (Kd.N_lt (by (with_reducible repeat (first | apply Kd.N_alloc | apply Kd.N_drewN | apply Kd.N_drew));exact HO193.out)) k_ hk,Kd.fresh' (Kd.N_lt (by (with_reducible repeat (first | apply Kd.N_alloc | apply Kd.N_drewN | apply Kd.N_drew));exact HO203.out)) k_ hk,Kd.fresh' (Kd.R_lt (by (with_reducible repeat (first | apply Kd.R_alloc | apply Kd.R_drewN | apply Kd.R_drew));exact HO206.out)) k_ hk,Kd.fresh' (Kd.N_lt (by (with_reducible repeat (first | apply Kd.N_alloc | apply Kd.N_drewN | apply Kd.N_drew));exact HO209.out)) k_ hk,Kd.fresh' (Kd.N_lt (by (with_reducible repeat (first | apply Kd.N_alloc | apply Kd.N_drewN | apply Kd.N_drew));exact HO212.out)) k_ hk,Kd.fresh' (Kd.R_lt (by (with_reducible repeat (first | apply Kd.R_alloc | apply Kd.R_drewN | apply Kd.R_drew));exact HO215.out)) k_ hk,Kd.freshB (g:=gb200) (o := .cells #[.slice Ao21 y188.length co21,.slice Ao20 y191.length co20,.int .i64 0,.int .i64 0,.slice Ao27 y207.length co27] 26 (0,0)) (by (with_reducible repeat (first | refine blk_drewN ?_ _ | refine blk_drew ?_ | refine blk_alloc ?_ _));exact BK200.out) k_ hk⟩) _ (Nat.le_refl _)) (Below.refl _ _) (Nat.le_refl _) (by simp) ?_;(case hd => rfl);(case hg => rfl);(case hr => first | (go_simp;done) | (go_simp;rfl));(case hp => exact (Reps.one (show Kd.FK (Kd.slice 3 (Kd.int .i64)) _ _ y216 [.slice Ao33 y216.length co33] from (Kd.FK_slice_mk (Kd.R_reads' (Kd.R_mono (ok' := (fun k_ => some k_ ≠ (.slice Ao21 y188.length co21 : Value).ownBlock ∧ some k_ ≠ (.slice Ao20 y191.length co20 : Value).ownBlock ∧ some k_ ≠ (v202 : Value).ownBlock ∧ some k_ ≠ (.slice Ao30 t204.length co30 : Value).ownBlock ∧ some k_ ≠ (.slice Ao27 y207.length co27 : Value).ownBlock ∧ some k_ ≠ (v211 : Value).ownBlock ∧ some k_ ≠ (v214 : Value).ownBlock ∧ k_ ≠ gb200)) (Kd.R_types (Kd.R_apart' (Kd.R_apart' (Kd.R_apart' (Kd.R_apart' (Kd.R_apart' (Kd.R_apart' (Kd.R_apart' (HO218.out) (Kd.R_typed HO190.out) (by decide)) (Kd.N_typed HO193.out) (by decide)) (Kd.N_typed HO203.out) (by decide)) (Kd.R_typed HO206.out) (by decide)) (Kd.N_typed HO209.out) (by decide)) (Kd.N_typed HO212.out) (by decide)) (Kd.R_typed HO215.out) (by decide)) BK200.out (by decide)) (fun k_ hk => ⟨hk.1.1.1.1.1.1.1.2,⟨hk.1.1.1.1.1.1.2,⟨hk.1.1.1.1.1.2,⟨hk.1.1.1.1.2,⟨hk.1.1.1.2,⟨hk.1.1.2,⟨hk.1.2,hk.2⟩⟩⟩⟩⟩⟩⟩))).2.1 (Kd.R_F (Kd.R_mono (ok' := (fun k_ => some k_ ≠ (.slice Ao21 y188.length co21 : Value).ownBlock ∧ some k_ ≠ (.slice Ao20 y191.length co20 : Value).ownBlock ∧ some k_ ≠ (v202 : Value).ownBlock ∧ some k_ ≠ (.slice Ao30 t204.length co30 : Value).ownBlock ∧ some k_ ≠ (.slice Ao27 y207.length co27 : Value).ownBlock ∧ some k_ ≠ (v211 : Value).ownBlock ∧ some k_ ≠ (v214 : Value).ownBlock ∧ k_ ≠ gb200)) (Kd.R_types (Kd.R_apart' (Kd.R_apart' (Kd.R_apart' (Kd.R_apart' (Kd.R_apart' (Kd.R_apart' (Kd.R_apart' (HO218.out) (Kd.R_typed HO190.out) (by decide)) (Kd.N_typed HO193.out) (by decide)) (Kd.N_typed HO203.out) (by decide)) (Kd.R_typed HO206.out) (by decide)) (Kd.N_typed HO209.out) (by decide)) (Kd.N_typed HO212.out) (by decide)) (Kd.R_typed HO215.out) (by decide)) BK200.out (by decide)) (fun k_ hk => ⟨hk.1.1.1.1.1.1.1.2,⟨hk.1.1.1.1.1.1.2,⟨hk.1.1.1.1.1.2,⟨hk.1.1.1.1.2,⟨hk.1.1.1.2,⟨hk.1.1.2,⟨hk.1.2,hk.2⟩⟩⟩⟩⟩⟩⟩))))) (Reps.none _ _)));intro v220 w34 ho35 hb hg_ hnew_;clear hg_ hnew_;(first | rw [← Ny219.out] at ho35 | (simp only [Int.reduceToNat] at ho35;rw [← Ny219.out] at ho35));have n0_:=Aside0.mk (Kd.R_below (by (with_reducible repeat (first | apply Kd.R_alloc | apply Kd.R_drewN | apply Kd.R_drew));exact HO190.out) hb);have n1_:=Aside0.mk (Kd.N_elder' (by (with_reducible repeat (first | apply Kd.N_alloc | apply Kd.N_drewN | apply Kd.N_drew));exact HO193.out) (Kd.N_base ho35) hb);have n2_:=Aside0.mk (Kd.N_elder' (by (with_reducible repeat (first | apply Kd.N_alloc | apply Kd.N_drewN | apply Kd.N_drew));exact HO203.out) (Kd.N_base ho35) hb);have n3_:=Aside0.mk (Kd.R_below (by (with_reducible repeat (first | apply Kd.R_alloc | apply Kd.R_drewN | apply Kd.R_drew));exact HO206.out) hb);have n4_:=Aside0.mk (Kd.N_elder' (by (with_reducible repeat (first | apply Kd.N_alloc | apply Kd.N_drewN | apply Kd.N_drew));exact HO209.out) (Kd.N_base ho35) hb);have n5_:=Aside0.mk (Kd.N_elder' (by (with_reducible repeat (first | apply Kd.N_alloc | apply Kd.N_drewN | apply Kd.N_drew));exact HO212.out) (Kd.N_base ho35) hb);have n6_:=Aside0.mk (Kd.R_below (by (with_reducible repeat (first | apply Kd.R_alloc | apply Kd.R_drewN | apply Kd.R_drew));exact HO215.out) hb);have n7_:=Aside0.mk (Kd.N_lower ho35 (below_size (by repeat (first | (with_reducible first | exact HB.out | apply below_alloc | apply pw_below_drewN | apply below_drew1 | refine below_set ?_ GE200.out) | exact HB.out))));have n8_:=Aside0.mk (blk_below (g:=gb200) (o := .cells #[.slice Ao21 y188.length co21,.slice Ao20 y191.length co20,.int .i64 0,.int .i64 0,.slice Ao27 y207.length co27] 26 (0,0)) (by (with_reducible repeat (first | refine blk_drewN ?_ _ | refine blk_drew ?_ | refine blk_alloc ?_ _));exact BK200.out) hb);have n9_:=Aside0.mk (below_step (by repeat (first | (with_reducible first | exact HB.out | apply below_alloc | apply pw_below_drewN | apply below_drew1 | refine below_set ?_ GE200.out) | exact HB.out)) hb);clear HO190;clear HO193;clear HO203;clear HO206;clear HO209;clear HO212;clear HO215;clear BK200;clear HB;clear HO218;have HO190:=n0_;have HO193:=n1_;have HO203:=n2_;have HO206:=n3_;have HO209:=n4_;have HO212:=n5_;have HO215:=n6_;have HO221:=n7_;have BK200:=n8_;have HB:=n9_;clear n0_ n1_ n2_ n3_ n4_ n5_ n6_ n7_ n8_ n9_;clear hb ho35;obtain ⟨Ao36,co36,eo36⟩ := Kd.N_slice HO203.out;subst eo36;obtain ⟨Ao37,co37,eo37⟩ := Kd.N_slice HO221.out;subst eo37) | (go_at_call 18;(with_reducible refine (regletref13_SameLists.calls k _ _ t201 _ _ y219 true _ ?side1 ?side2 ?side3 ?side4 A6.out).mono ?_);(case side1 => repeat (first | exact (Kd.N_reads' HO203.out).2.2 | (with_reducible refine Kd.C_alloc ?_ _) | (with_reducible refine Kd.C_drewN ?_ _) | (with_reducible refine Kd.C_drew ?_)));(case side2 => exact (Kd.N_reads' HO203.out).2.1);(case side3 => repeat (first | exact (Kd.N_reads' HO221.out).2.2 | (with_reducible refine Kd.C_alloc ?_ _) | (with_reducible refine Kd.C_drewN ?_ _) | (with_reducible refine Kd.C_drew ?_)));(case side4 => exact (Kd.N_reads' HO221.out).2.1);rintro e w' ⟨rfl,⟨nd,rfl⟩⟩;obtain ⟨Ao38,co38,eo38⟩ := Kd.R_slice HO215.out;subst eo38;have p223 : 0 ≤ (0 : Int) := (by omega);have q223 : 0 < (t213.length : Int) := of_decide_eq_true (by first | (with_reducible assumption) | assumption);obtain ⟨ad223,e223,hx223_0,hx223_1,hx223_2,hx223_3⟩ := at_T50 (Kd.R_reads' HO215.out).2.2 0 p223 q223;cases e223;have qi223 : (0 < t213.length) = True:=eq_true (by omega);(try rw [show ((0 : Int)).toNat = 0 from rfl] at hx223_0);(try rw [show 0 * 4 = 0 from rfl] at hx223_0);(try rw [Addr.add_zero'] at hx223_0);(try rw [show ((0 : Int)).toNat = 0 from rfl] at hx223_1);(try rw [show 0 * 4 = 0 from rfl] at hx223_1);(try rw [Addr.add_zero'] at hx223_1);(try rw [show ((0 : Int)).toNat = 0 from rfl] at hx223_2);(try rw [show 0 * 4 = 0 from rfl] at hx223_2);(try rw [Addr.add_zero'] at hx223_2);(try rw [show ((0 : Int)).toNat = 0 from rfl] at hx223_3);(try rw [show 0 * 4 = 0 from rfl] at hx223_3);(try rw [Addr.add_zero'] at hx223_3);replace p223:=eq_true p223;replace q223:=eq_true q223))
   go_ret
   exact ⟨by first | rfl | (simp [errW_none,errW_some] <;> rfl) | (simp [*,errW_none,errW_some] <;> rfl),by repeat (first | (with_reducible first | exact HB.out | apply below_alloc | apply pw_below_drewN | apply below_drew1 | refine below_set ?_ GE200.out) | exact HB.out)⟩
 · replace c7:=Bool.eq_false_iff.mpr c7
   subst c7
   have H1 : (none) = some r:=by rw [if_neg (show ¬ (false = true) by decide)] at H;exact H
   clear H
   have H:=H1
   clear H1
   exact absurd H (by simp)
end Go.Proofs.Ytfdcfihcfegekaa.P
end

section
namespace Go.Proofs.Ytfdcfihcfegekaa.M
open Go.RowKit Go.Proofs.YtfdcfihcfegekaaW.PrintWords Go.Proofs.YtfdcfihcfegekaaW.PrintLast Go.Proofs.YtfdcfihcfegekaaW.PrintMore Go.Proofs.Ytfdcfihcfegekaa.P Go.Proofs.Ytfdcfihcfegekaa.H
set_option linter.unusedVariables false
set_option linter.unusedSimpArgs false
def clSym (np : Nat) (x : Sym) : Sym:=if x.f0 = true then ⟨true,x.f1 % (np : Int)⟩ else x
def clProd (np i : Nat) (p : Prod) : Prod:=⟨p.f0,(p.f1.map (clSym np)).set 0 ⟨true,(i : Int)⟩⟩
def clTok (i : Nat) : Tok:=⟨⟨#[]⟩,⟨6,⟨#[]⟩,[wrap64 (97 + (i : Int))],0,0,[]⟩⟩
def clPs (np : Nat) : Nat → List Prod → List Prod
  | _,[] => []
  | i,p :: ps => clProd np i p :: clPs np (i + 1) ps
def clTs : Nat → Nat → List Tok
  | _,0 => []
  | i,n + 1 => clTok i :: clTs (i + 1) n
theorem clPs_length (np : Nat) : ∀ (ps : List Prod) (i : Nat),(clPs np i ps).length = ps.length
  | [],_ => rfl
  | p :: ps,i => by rw [clPs,List.length_cons,clPs_length np ps,List.length_cons]
theorem clTs_length : ∀ (n i : Nat),(clTs i n).length = n
  | 0,_ => rfl
  | n + 1,i => by rw [clTs,List.length_cons,clTs_length n]
section
variable {ns : List ByteArray} {R : List ByteArray × List Tok × Int × Int × List Prod}
theorem clear_l1_ev {np : Nat} {ts : List Tok} {done rest : List Prod} {p : Prod} (hn : np = done.length + (rest.length + 1)) (hnp : np ≤ 1000000) (hp : p.f1.length ≤ 1000000) (hx : ∀ x ∈ p.f1,0 ≤ x.f1) : ∀ (a pre acc : List Sym),p.f1 = pre ++ a → acc.length = pre.length →
    Ev (fun k => regletlaw14_Clear.l0 k (wrap64 ((done.length : Int) + 1)) ns ts 0 0 (done ++ ⟨p.f0,(acc ++ a.map (clSym np)).set 0 ⟨true,(done.length : Int)⟩⟩ :: rest)) R → Ev (fun k => regletlaw14_Clear.l1 k (done.length : Int) acc (pre.length : Int) ns ts 0 0 (done ++ p :: rest)) R
  | [],pre,acc,e,ha,hk => by
    have hrd : rd_T30 (done ++ p :: rest) (done.length : Int) = p:=getD_mid _ done p rest _ rfl
    refine Ev.step (fun k => by rw [regletlaw14_Clear.l1]) (Ev.pos (by omega) (Ev.pos (by simp;omega) ?_))
    rw [hrd]
    refine Ev.neg (by rw [e];simp) ?_
    have hs : ∀ v : Prod,(done ++ p :: rest).set (done.length : Int).toNat v = done ++ v :: rest:=fun v => set_mid done p v rest _ rfl
    rw [List.map_nil,List.append_nil] at hk
    by_cases hz : (acc.length : Int) > 0
    · refine Ev.pos hz (Ev.pos hz ?_)
      rw [hs]
      exact hk
    · refine Ev.neg hz ?_
      rw [hs]
      obtain rfl : acc = [] := List.eq_nil_of_length_eq_zero (by omega)
      exact hk
  | x :: a,pre,acc,e,ha,hk => by
    have hrd : rd_T30 (done ++ p :: rest) (done.length : Int) = p:=getD_mid _ done p rest _ rfl
    have hrx : rd_T53 p.f1 (pre.length : Int) = x:=by rw [e];exact getD_mid _ pre x a _ rfl
    have hle : pre.length + (a.length + 1) ≤ 1000000:=by rw [e] at hp;simpa using hp
    have ih:=clear_l1_ev (ts:=ts) (done:=done) (rest:=rest) (p:=p) hn hnp hp hx a (pre ++ [x]) (acc ++ [clSym np x]) (by rw [e];simp) (by simp [ha]) (by simpa using hk)
    rw [← wrap_next pre _ (by omega)] at ih
    have hx0:=hx x (by rw [e];simp)
    refine Ev.step (fun k => by rw [regletlaw14_Clear.l1]) (Ev.pos (by omega) (Ev.pos (by simp;omega) ?_))
    rw [hrd]
    refine Ev.pos (by rw [e];simp;omega) (Ev.pos (by omega) ?_)
    rw [hrx]
    by_cases ht : x.f0 = true
    · refine Ev.pos ht (Ev.neg (by simp;omega) (Ev.pos (by omega) ?_))
      rw [clSym,if_pos ht] at ih
      rw [ht,show ((done ++ p :: rest).length : Int) = (np : Int) by rw [hn];simp,Int.tmod_eq_emod_of_nonneg hx0]
      exact ih
    · refine Ev.neg ht (Ev.pos (by omega) ?_)
      rw [clSym,if_neg ht] at ih
      exact ih
theorem clear_l0_ev {np : Nat} (hnp : np ≤ 1000000) : ∀ (ps done : List Prod) (ts : List Tok),np = done.length + ps.length → ts.length = done.length → (∀ p ∈ ps,p.f1.length ≤ 1000000 ∧ ∀ x ∈ p.f1,0 ≤ x.f1) →
    Ev (fun k => regletlaw14_Clear.l2 k 0 ns (ts ++ clTs done.length ps.length) 0 0 (done ++ clPs np done.length ps)) R → Ev (fun k => regletlaw14_Clear.l0 k (done.length : Int) ns ts 0 0 (done ++ ps)) R
  | [],done,ts,hn,ht,_,hk => Ev.step (fun k => by rw [regletlaw14_Clear.l0]) (Ev.neg (by simp) (by simpa [clTs,clPs] using hk))
  | p :: ps,done,ts,hn,ht,hs,hk => by
    simp only [List.length_cons] at hn
    obtain ⟨hp,hx⟩ := hs p List.mem_cons_self
    have ih:=clear_l0_ev hnp ps (done ++ [clProd np done.length p]) (ts ++ [clTok done.length]) (by simp;omega) (by simp [ht]) (fun q hq => hs q (List.mem_cons_of_mem _ hq)) (by
      simp only [clTs,clPs,List.length_cons,List.length_append,List.length_nil,List.append_assoc,List.singleton_append] at hk ⊢
      exact hk)
    rw [← wrap_next done _ (by omega)] at ih
    refine Ev.step (fun k => by rw [regletlaw14_Clear.l0]) (Ev.pos (by simp;omega) (Ev.pos (by omega) ?_))
    refine clear_l1_ev (ns:=ns) (R:=R) hn hnp hp hx p.f1 [] [] rfl rfl ?_
    rw [List.append_assoc] at ih
    exact ih
theorem clear_l3_ev {ts : List Tok} {done rest : List Prod} {p : Prod} (hd : done.length ≤ 1000000) (ht : 0 < ts.length) (hp : p.f1.length ≤ 1000000) (hx : ∀ x ∈ p.f1,x.f0 = true → 0 ≤ x.f1 ∧ x.f1 < (ts.length : Int)) : ∀ (a pre : List Sym),p.f1 = pre ++ a →
    Ev (fun k => regletlaw14_Clear.l2 k (wrap64 ((done.length : Int) + 1)) ns ts 0 0 (done ++ p :: rest)) R → Ev (fun k => regletlaw14_Clear.l3 k (done.length : Int) (pre.length : Int) ns ts 0 0 (done ++ p :: rest)) R
  | [],pre,e,hk => by
    have hrd : rd_T30 (done ++ p :: rest) (done.length : Int) = p:=getD_mid _ done p rest _ rfl
    refine Ev.step (fun k => by rw [regletlaw14_Clear.l3]) (Ev.pos (by omega) (Ev.pos (by simp;omega) ?_))
    rw [hrd]
    exact Ev.neg (by rw [e];simp) hk
  | x :: a,pre,e,hk => by
    have hrd : rd_T30 (done ++ p :: rest) (done.length : Int) = p:=getD_mid _ done p rest _ rfl
    have hrx : rd_T53 p.f1 (pre.length : Int) = x:=by rw [e];exact getD_mid _ pre x a _ rfl
    have hle : pre.length + (a.length + 1) ≤ 1000000:=by rw [e] at hp;simpa using hp
    have ih:=clear_l3_ev (ts:=ts) (done:=done) (rest:=rest) (p:=p) hd ht hp hx a (pre ++ [x]) (by rw [e];simp) hk
    rw [← wrap_next pre _ (by omega)] at ih
    refine Ev.step (fun k => by rw [regletlaw14_Clear.l3]) (Ev.pos (by omega) (Ev.pos (by simp;omega) ?_))
    rw [hrd]
    refine Ev.pos (by rw [e];simp;omega) (Ev.pos (by omega) ?_)
    rw [hrx]
    by_cases hx0 : x.f0 = true
    · obtain ⟨h0,h1⟩ := hx x (by rw [e];simp) hx0
      refine Ev.pos hx0 (Ev.neg (by omega) ?_)
      have hsame : (⟨x.f0,Int.tmod x.f1 (ts.length : Int)⟩ : Sym) = x:=by
        rw [Int.tmod_eq_emod_of_nonneg h0,Int.emod_eq_of_lt h0 h1]
      have hset : p.f1.set (pre.length : Int).toNat x = p.f1:=by rw [e];exact set_mid pre x x a _ rfl
      have hpp : (⟨p.f0,p.f1⟩ : Prod) = p:=rfl
      rw [hsame,hset,hpp,set_mid done p p rest _ rfl]
      exact ih
    · exact Ev.neg hx0 ih
theorem clear_l2_ev {ts : List Tok} (ht : 0 < ts.length) : ∀ (rest done : List Prod),done.length + rest.length ≤ 1000000 → (∀ p ∈ rest,p.f1.length ≤ 1000000 ∧ ∀ x ∈ p.f1,x.f0 = true → 0 ≤ x.f1 ∧ x.f1 < (ts.length : Int)) →
    Ev (fun k => regletlaw14_Clear.l2 k (done.length : Int) ns ts 0 0 (done ++ rest)) (ns,ts,0,0,done ++ rest)
  | [],done,_,_ => Ev.step (fun k => by rw [regletlaw14_Clear.l2]) (Ev.neg (by simp) (Ev.some rfl))
  | p :: rest,done,hl,hs => by
    simp only [List.length_cons] at hl
    obtain ⟨hp,hx⟩ := hs p List.mem_cons_self
    have ih:=clear_l2_ev ht rest (done ++ [p]) (by simp;omega) (fun q hq => hs q (List.mem_cons_of_mem _ hq))
    rw [← wrap_next done _ (by omega),List.append_assoc,List.singleton_append] at ih
    refine Ev.step (fun k => by rw [regletlaw14_Clear.l2]) (Ev.pos (by simp;omega) ?_)
    exact clear_l3_ev (ns:=ns) (by omega) ht hp hx p.f1 [] rfl ih
end
theorem clPs_spec {nn nt np : Nat} (hp : 0 < np) : ∀ (ps : List Prod) (i : Nat),i + ps.length ≤ np → ps.all (okProd nn nt) = true → (clPs np i ps).all (okProd nn np) = true
  | [],_,_,_ => rfl
  | p :: ps,i,hl,h => by
    simp only [List.length_cons] at hl
    rw [List.all_cons,Bool.and_eq_true] at h
    rw [clPs,List.all_cons,Bool.and_eq_true]
    refine ⟨?_,clPs_spec hp ps (i + 1) (by omega) h.2⟩
    obtain ⟨h0,h1⟩ := okProd_left h.1
    have hr:=List.all_eq_true.1 (okProd_right h.1)
    have hall : ((p.f1.map (clSym np)).set 0 ⟨true,(i : Int)⟩).all (okSym nn np) = true:=by
      rw [List.all_eq_true]
      intro x hx
      rcases List.mem_or_eq_of_mem_set hx with hx | rfl
      · obtain ⟨y,hy,rfl⟩ := List.mem_map.1 hx
        have hy' := hr y hy
        unfold clSym
        by_cases ht : y.f0 = true
        · rw [if_pos ht]
          have:=Int.emod_nonneg y.f1 (show (np : Int) ≠ 0 by omega)
          have:=Int.emod_lt_of_pos y.f1 (show (0 : Int) < (np : Int) by omega)
          simp [okSym];omega
        · rw [if_neg ht]
          have:=okSym_rule hy' (by simpa using ht)
          simp [okSym,ht];omega
      · simp [okSym];omega
    simp only [okProd,Bool.and_eq_true,decide_eq_true_eq]
    exact ⟨⟨h0,h1⟩,hall⟩
theorem clPs_len (np : Nat) : ∀ (ps : List Prod) (i : Nat),(∀ p ∈ ps,p.f1.length ≤ 3) → ∀ p ∈ clPs np i ps,p.f1.length ≤ 3
  | [],_,_,p,hp => by simp [clPs] at hp
  | q :: ps,i,h,p,hp => by
    rw [clPs] at hp
    rcases List.mem_cons.1 hp with rfl | h1
    · have:=h q List.mem_cons_self
      simpa [clProd] using this
    · exact clPs_len np ps (i + 1) (fun p hp => h p (List.mem_cons_of_mem _ hp)) p h1
theorem clear_ev {l : List Int} {ns : List ByteArray} {ts : List Tok} {ps : List Prod} (hm : MadeOk ns ts ps) (hM : ∀ k,regletlaw13_Made.f k l = some (ns,ts,0,0,ps)) : Ev (fun k => regletlaw14_Clear.f k l) (ns,clTs 0 ps.length,0,0,clPs ps.length 0 ps) := by
 have hok:=hm.ok
 have hp1:=hm.p1
 have hp10:=hm.p10
 refine Ev.congr (fun k => by rw [regletlaw14_Clear.f]) (Ev.bind (⟨0,fun k _ => hM k⟩ : Ev (fun k => regletlaw13_Made.f k l) _) ?_)
 refine clear_l0_ev (np:=ps.length) (by omega) ps [] [] (by simp) rfl (fun p hp => ⟨by have:=hm.r3 p hp;omega,fun x hx => ?_⟩) ?_
 · have h:=List.all_eq_true.1 (okProd_right (List.all_eq_true.1 hok p hp)) x hx
   cases ht : x.f0 with
   | true => exact (okSym_tok h ht).1
   | false => exact (okSym_rule h ht).1
 · have hsp:=clPs_spec (np:=ps.length) (by omega) ps 0 (by omega) hok
   have hx:=clear_l2_ev (ns:=ns) (ts:=clTs 0 ps.length) (by rw [clTs_length];omega) (clPs ps.length 0 ps) [] (by rw [clPs_length];simp;omega) (fun p hp => ⟨by have:=clPs_len ps.length ps 0 hm.r3 p hp;omega,fun x hx hx0 => by
    rw [clTs_length]
    exact okSym_tok (List.all_eq_true.1 (okProd_right (List.all_eq_true.1 hsp p hp)) x hx) hx0⟩)
   exact hx
theorem awake14_ev : Ev (fun k => regletlaw14_awake.f k) true:=by
 have e1 : dPredict 1 1 [⟨0,[⟨true,0⟩,⟨false,0⟩]⟩,⟨0,[]⟩] = ([[0,1]],[]) := by kernel_rfl
 have e2 : dPredict 1 1 [⟨0,[⟨true,0⟩,⟨false,0⟩]⟩,⟨0,[]⟩,⟨0,[]⟩] = ([[0,1]],[⟨0,1,1,2⟩]) := by kernel_rfl
 unfold regletlaw14_awake.f
 simp only [Option.bind_some]
 refine Ev.pos (by decide) ?_
 refine Ev.bind (Ev.val (predict_ev [⟨#[97]⟩] (List.replicate 1 z61) 0 0 [⟨0,[⟨true,0⟩,⟨false,0⟩]⟩,⟨0,[]⟩] ⟨by simp,by simp⟩ (by simp) (by simp) (by simp)) e1) (Ev.pos (by simp) ?_)
 refine Ev.bind (Ev.val (predict_ev [⟨#[97]⟩] (List.replicate 1 z61) 0 0 [⟨0,[⟨true,0⟩,⟨false,0⟩]⟩,⟨0,[]⟩,⟨0,[]⟩] ⟨by simp,by simp⟩ (by simp) (by simp) (by simp)) e2) (Ev.pos rfl ?_)
 exact Ev.bind (sameLists_ev [[0,1]] (by simp) (by simp)) (Ev.pos rfl (Ev.pos rfl (Ev.pos (by decide) (Ev.some rfl))))
end Go.Proofs.Ytfdcfihcfegekaa.M
end

section
namespace Go.Proofs.Ytfdcfihcfegekaa.P
open Go.RowKit Go.Proofs.YtfdcfihcfegekaaW.PrintWords Go.Proofs.YtfdcfihcfegekaaW.PrintLast Go.Proofs.YtfdcfihcfegekaaW.PrintMore Go.Proofs.Ytfdcfihcfegekaa.H Go.Proofs.Ytfdcfihcfegekaa.M
set_option linter.unusedVariables false
set_option linter.unusedSimpArgs false
structure TkOk (ns : List ByteArray) (ts : List M.Tok) (ps : List M.Prod) : Prop where
  n1 : 0 < ns.length
  n5 : ns.length ≤ 5
  t10 : ts.length ≤ 10
  p10 : ps.length ≤ 10
  ok : ps.all (okProd ns.length ts.length) = true
  r3 : ∀ p ∈ ps,p.f1.length ≤ 3
theorem TkOk.small {ns : List ByteArray} {ts : List M.Tok} {ps : List M.Prod} (h : TkOk ns ts ps) : Small ps:=⟨by have:=h.p10;omega,fun p hp => by have:=h.r3 p hp;omega⟩
theorem tkOk_made {ns : List ByteArray} {ts : List M.Tok} {ps : List M.Prod} (h : MadeOk ns ts ps) : TkOk ns ts ps:=⟨h.n1,h.n5,by have:=h.t4;omega,h.p10,h.ok,h.r3⟩
theorem tkOk_clear {ns : List ByteArray} {ts : List M.Tok} {ps : List M.Prod} (h : MadeOk ns ts ps) : TkOk ns (clTs 0 ps.length) (clPs ps.length 0 ps) :=
  ⟨h.n1,h.n5,by rw [clTs_length];exact h.p10,by rw [clPs_length];exact h.p10,by rw [clTs_length];exact clPs_spec h.p1 ps 0 (by omega) h.ok,clPs_len _ ps 0 h.r3⟩
set_option maxHeartbeats 4000000 in
set_option maxRecDepth 100000 in
theorem takes_walk (l m : List Int) (A0 : Option Addr) (c0 : Nat) (A1 : Option Addr) (c1 : Nat) (cl : Bool) (w : World) (hl : Kd.C (Kd.int .u8) w A0 l.length l) (hlc : l.length ≤ c0) (hmm : Kd.C (Kd.int .u8) w A1 m.length m) (hmc : m.length ≤ c1) (hwl : ∀ x ∈ l,(Lit.int .u8 x).wf = true) (hwm : ∀ x ∈ m,(Lit.int .u8 x).wf = true) :
    Calls Try.prog 6 #[.slice A0 l.length c0,.slice A1 m.length c1,.bool cl] w fun e w' => e = .returned (.bool true) ∧ Below w.heap.size w w' := by
 obtain ⟨ns,ts,ps,hm,hM⟩ := made_ev0 hwl
 obtain ⟨kC,hC⟩ := (clear_ev hm hM).rounds
 obtain ⟨kA,hA⟩ := awake14_ev.rounds
 have hu : ∀ x ∈ m,0 ≤ x ∧ x ≤ 255:=fun x hx => wf_u8 (hwm x hx)
 have HM:=Aside0.mk hM
 have HCL:=Aside0.mk hC
 have HAW:=Aside0.mk hA
 have HMO:=Aside0.mk hm
 have HUM:=Aside0.mk hu
 have HL:=Aside0.mk hl
 have HMM:=Aside0.mk hmm
 have HLC:=Aside0.mk hlc
 have HMC:=Aside0.mk hmc
 clear hM hC hA hm hu hl hmm hlc hmc hwl hwm
 go_enter Try.func6,Try.ntmps6
 go_upto_region 5 with (first
   | (go_at_call 9;(with_reducible refine (regletlaw14_awake.calls kA true _ HAW.out).mono ?_);rintro e w1 ⟨rfl,hb1⟩;have HB1:=Aside0.mk hb1;have P2:=Aside0.mk (regletlaw13_Made.calls 0 A0 c0 l ns ts 0 0 ps w1 (Kd.C_below HL.out hb1) HLC.out (HM.out 0));clear hb1)
   | (go_at_call 11;(with_reducible refine P2.out.mono ?_);rintro e w2 ⟨v0,v1,v2,rfl,ho0,ho1,ho2,hb2⟩;obtain ⟨An,kn,rfl⟩ := Kd.R_slice ho0;obtain ⟨At,kt,rfl⟩ := Kd.R_slice ho1;obtain ⟨Ap,kp,rfl⟩ := Kd.S_slice ho2;have HB2 : Aside0 (Below w.heap.size w w2) := ⟨HB1.out.trans (hb2.mono HB1.out.size)⟩;have HON:=Aside0.mk ((Kd.R_reads' ho0).2);have HOT:=Aside0.mk ((Kd.R_reads' ho1).2);have HOP:=Aside0.mk ((Kd.S_reads' ho2).2);clear ho0 ho1 ho2 hb2 P2))
 have HBS : Aside0 ((w2.alloc (.cells #[.slice An ns.length kn,.slice At ts.length kt,.int .i64 0,.int .i64 0,.slice Ap ps.length kp] 26)).heap[w2.heap.size]? = some (.cells #[.slice An ns.length kn,.slice At ts.length kt,.int .i64 0,.int .i64 0,.slice Ap ps.length kp] 26 (0,0))) := ⟨heap_alloc_new w2 _⟩
 have hb3 : Below w2.heap.size w2 (w2.alloc (.cells #[.slice An ns.length kn,.slice At ts.length kt,.int .i64 0,.int .i64 0,.slice Ap ps.length kp] 26)) := below_alloc (Below.refl _ _) _
 have HB3 : Aside0 (Below w.heap.size w (w2.alloc (.cells #[.slice An ns.length kn,.slice At ts.length kt,.int .i64 0,.int .i64 0,.slice Ap ps.length kp] 26))) := ⟨HB2.out.trans (hb3.mono HB2.out.size)⟩
 have HON3 : Aside0 (ns.length ≤ kn ∧ Kd.string.C (w2.alloc (.cells #[.slice An ns.length kn,.slice At ts.length kt,.int .i64 0,.int .i64 0,.slice Ap ps.length kp] 26)) An ns.length ns) := ⟨HON.out.1,Kd.C_below HON.out.2 hb3⟩
 have HOT3 : Aside0 (ts.length ≤ kt ∧ k61.C (w2.alloc (.cells #[.slice An ns.length kn,.slice At ts.length kt,.int .i64 0,.int .i64 0,.slice Ap ps.length kp] 26)) At ts.length ts) := ⟨HOT.out.1,Kd.C_below HOT.out.2 hb3⟩
 have HOP3 : Aside0 (ps.length ≤ kp ∧ k30.C (w2.alloc (.cells #[.slice An ns.length kn,.slice At ts.length kt,.int .i64 0,.int .i64 0,.slice Ap ps.length kp] 26)) Ap ps.length ps) := ⟨HOP.out.1,Kd.C_below HOP.out.2 hb3⟩
 have HSB : Aside0 (w.heap.size ≤ w2.heap.size) := ⟨HB2.out.size⟩
 generalize w2.alloc (.cells #[.slice An ns.length kn,.slice At ts.length kt,.int .i64 0,.int .i64 0,.slice Ap ps.length kp] 26) = w3 at HBS HB3 HON3 HOT3 HOP3 ⊢
 generalize w2.heap.size = SB at HBS HSB ⊢
 clear hb3 HON HOT HOP HB2 HB1
 go_upto_if 19 with fail
 go_cut [] (fun wc => ∃ (ns : List ByteArray) (ts : List M.Tok) (ps : List M.Prod) (An At Ap : Option Addr) (kn kt kp : Nat),Aside0 (TkOk ns ts ps) ∧ Aside0 (wc.heap[SB]? = some (.cells #[.slice An ns.length kn,.slice At ts.length kt,.int .i64 0,.int .i64 0,.slice Ap ps.length kp] 26 (0,0))) ∧ Aside0 (Below w.heap.size w wc) ∧ Aside0 (ns.length ≤ kn ∧ Kd.string.C wc An ns.length ns) ∧ Aside0 (ts.length ≤ kt ∧ k61.C wc At ts.length ts) ∧ Aside0 (ps.length ≤ kp ∧ k30.C wc Ap ps.length ps))
 case first =>
  cases cl with
  | false =>
   go_wp2
   go_meet
   case rel => exact ⟨ns,ts,ps,An,At,Ap,kn,kt,kp,⟨tkOk_made HMO.out⟩,HBS,HB3,HON3,HOT3,HOP3⟩
  | true =>
   have P3:=Aside0.mk (regletlaw14_Clear.calls kC A0 c0 l ns (clTs 0 ps.length) 0 0 (clPs ps.length 0 ps) w3 (Kd.C_below HL.out HB3.out) HLC.out HCL.out)
   have HO3:=Aside0.mk (tkOk_clear HMO.out)
   generalize clTs 0 ps.length = ts2 at P3 HO3
   generalize clPs ps.length 0 ps = ps2 at P3 HO3
   go_wp2_with (first | (go_at_call 12;(with_reducible refine P3.out.mono ?_);rintro e w4 ⟨v0,v1,v2,rfl,ho0,ho1,ho2,hb2⟩;obtain ⟨An2,kn2,rfl⟩ := Kd.R_slice ho0;obtain ⟨At2,kt2,rfl⟩ := Kd.R_slice ho1;obtain ⟨Ap2,kp2,rfl⟩ := Kd.S_slice ho2;have HBK4:=Aside0.mk (blk_below HBS.out hb2);have HB4 : Aside0 (Below w.heap.size w w4) := ⟨HB3.out.trans (hb2.mono HB3.out.size)⟩;have HON:=Aside0.mk (Kd.R_mono (ok' := fun k => w3.heap.size ≤ k) (Kd.R_bound ho0) (fun k hk => hk.2.1));have HOT:=Aside0.mk (Kd.R_mono (ok' := fun k => w3.heap.size ≤ k) (Kd.R_bound ho1) (fun k hk => hk.2.1));have HOP:=Aside0.mk (Kd.S_mono (ok' := fun k => w3.heap.size ≤ k) (Kd.S_bound ho2) (fun k hk => hk.2.1));clear ho0 ho1 ho2 hb2 P3;have hs0:=(blk_cell HBK4.out 0);have hs1:=(blk_cell HBK4.out 1);have hs2:=(blk_cell HBK4.out 2);have hs3:=(blk_cell HBK4.out 3);have hs4:=(blk_cell HBK4.out 4);have hf0:=blk_frozen HBK4.out 0;have hf1:=blk_frozen HBK4.out 1;have hf2:=blk_frozen HBK4.out 2;have hf3:=blk_frozen HBK4.out 3;have hf4:=blk_frozen HBK4.out 4))
   have HLT3 : Aside0 (SB < w3.heap.size) := ⟨blk_lt HBS.out⟩
   have HBK5 : Aside0 ((((((w4.setCell ⟨SB,0,none⟩ (.slice An2 ns.length kn2)).setCell ⟨SB,1,none⟩ (.slice At2 ts2.length kt2)).setCell ⟨SB,2,none⟩ (.int .i64 0)).setCell ⟨SB,3,none⟩ (.int .i64 0)).setCell ⟨SB,4,none⟩ (.slice Ap2 ps2.length kp2)).heap[SB]? = some (.cells #[.slice An2 ns.length kn2,.slice At2 ts2.length kt2,.int .i64 0,.int .i64 0,.slice Ap2 ps2.length kp2] 26 (0,0))) := ⟨blk_put (blk_put (blk_put (blk_put (blk_put HBK4.out 0 _ rfl) 1 _ rfl) 2 _ rfl) 3 _ rfl) 4 _ rfl⟩
   have HB5 : Aside0 (Below w.heap.size w (((((w4.setCell ⟨SB,0,none⟩ (.slice An2 ns.length kn2)).setCell ⟨SB,1,none⟩ (.slice At2 ts2.length kt2)).setCell ⟨SB,2,none⟩ (.int .i64 0)).setCell ⟨SB,3,none⟩ (.int .i64 0)).setCell ⟨SB,4,none⟩ (.slice Ap2 ps2.length kp2))) := ⟨((((HB4.out.setCell HSB.out _).setCell HSB.out _).setCell HSB.out _).setCell HSB.out _).setCell HSB.out _⟩
   have HK5 : Aside0 (Kept w4 (((((w4.setCell ⟨SB,0,none⟩ (.slice An2 ns.length kn2)).setCell ⟨SB,1,none⟩ (.slice At2 ts2.length kt2)).setCell ⟨SB,2,none⟩ (.int .i64 0)).setCell ⟨SB,3,none⟩ (.int .i64 0)).setCell ⟨SB,4,none⟩ (.slice Ap2 ps2.length kp2)) (fun k => k = SB)) := ⟨Kept.setCell (Kept.setCell (Kept.setCell (Kept.setCell (Kept.setCell (Kept.refl w4 (fun k => k = SB)) (.inl rfl) _) (.inl rfl) _) (.inl rfl) _) (.inl rfl) _) (.inl rfl) _⟩
   generalize (((((w4.setCell ⟨SB,0,none⟩ (.slice An2 ns.length kn2)).setCell ⟨SB,1,none⟩ (.slice At2 ts2.length kt2)).setCell ⟨SB,2,none⟩ (.int .i64 0)).setCell ⟨SB,3,none⟩ (.int .i64 0)).setCell ⟨SB,4,none⟩ (.slice Ap2 ps2.length kp2)) = w5 at HBK5 HB5 HK5 ⊢
   have hne : ∀ k,w3.heap.size ≤ k → ¬ k = SB:=fun k hk h => by have:=HLT3.out;omega
   have C0:=Aside0.mk (Kd.R_reads' (Kd.R_kept HON.out HK5.out hne)).2
   have C1:=Aside0.mk (Kd.R_reads' (Kd.R_kept HOT.out HK5.out hne)).2
   have C2:=Aside0.mk (Kd.S_reads' (Kd.S_kept HOP.out HK5.out hne)).2
   clear hs0 hs1 hs2 hs3 hs4 hf0 hf1 hf2 hf3 hf4 hne
   go_meet
   case rel => exact ⟨ns,ts2,ps2,An2,At2,Ap2,kn2,kt2,kp2,HO3,HBK5,HB5,C0,C1,C2⟩
 case rest =>
  clear HBS HB3 HON3 HOT3 HOP3 HM HCL HMO
  obtain ⟨ns,ts,ps,An,At,Ap,kn,kt,kp,HOK,HBS,HB3,HON3,HOT3,HOP3⟩ := hcut
  obtain ⟨kP,hP⟩ := (predict_ev ns ts 0 0 ps HOK.out.small (by have:=HOK.out.n5;omega) (by have:=HOK.out.t10;omega) (by have:=HOK.out.p10;omega)).rounds
  have htk:=fun L hu f t a' hno h => tk_takes (nn:=ns.length) (nt:=ts.length) (ps:=ps) HOK.out.ok HOK.out.n1 HOK.out.r3 hno (L:=L) hu (f:=f) (t:=t) (a' := a') h
  generalize dPredict ns.length ts.length ps = pr at hP htk
  obtain ⟨tb,cs⟩ := pr
  have HTK:=Aside0.mk htk
  have HP:=Aside0.mk hP
  clear htk hP
  have HC : Aside0 (∀ W,Below wc.heap.size wc W → W.cell? ⟨SB,0,none⟩ = some (.slice An ns.length kn) ∧ W.cell? ⟨SB,1,none⟩ = some (.slice At ts.length kt) ∧ W.cell? ⟨SB,2,none⟩ = some (.int .i64 0) ∧ W.cell? ⟨SB,3,none⟩ = some (.int .i64 0) ∧ W.cell? ⟨SB,4,none⟩ = some (.slice Ap ps.length kp)) := ⟨fun W hW => by
   have hb:=(hW.block _ (blk_lt HBS.out)).trans HBS.out
   exact ⟨(blk_cell hb 0).trans rfl,(blk_cell hb 1).trans rfl,(blk_cell hb 2).trans rfl,(blk_cell hb 3).trans rfl,(blk_cell hb 4).trans rfl⟩⟩
  obtain ⟨q0,q1,q2,q3,q4⟩ := HC.out wc (Below.refl _ _)
  go_upto_region 8 with (first | (go_at_call 13;(with_reducible refine (predict_Predict.calls kP An kn ns At kt ts 0 0 Ap kp ps tb cs wc HON3.out.2 HON3.out.1 HOT3.out.2 HOT3.out.1 HOP3.out.2 HOP3.out.1 HP.out).mono ?_);rintro e w5 ⟨v0,v1,rfl,hs,hr,hb⟩;have HS5:=Aside0.mk hs;have HR5:=Aside0.mk hr;have HB5:=Aside0.mk hb;clear hs hr hb))
  obtain ⟨A7,c7,rfl⟩ : ∃ A c,v0 = .slice A tb.length c:=Kd.S_slice HS5.out
  obtain ⟨A8,c8,rfl⟩ : ∃ A c,v1 = .slice A cs.length c:=Kd.R_slice HR5.out
  have HT5:=Aside0.mk (Kd.S_reads' HS5.out).2.2
  have HW5 : Aside0 (Below w.heap.size w w5) := ⟨HB3.out.trans (HB5.out.mono HB3.out.size)⟩
  have HOP5:=Aside0.mk (Kd.C_below HOP3.out.2 HB5.out)
  have HMM5:=Aside0.mk (Kd.C_below HMM.out HW5.out)
  clear HS5 HR5 q0 q1 q2 q3 q4
  obtain ⟨q0,q1,q2,q3,q4⟩ := HC.out w5 HB5.out
  have hd4:=derive_any ps m w5 w5.heap.size An ns.length kn At ts.length kt 0 0 Ap kp A1 c1 (Nat.le_refl _) HOP5.out HMM5.out HUM.out (fun p hp => by have:=HOK.out.r3 p hp;omega) (by have:=HOK.out.p10;omega) 12 0 0 0 (w5.alloc (.cells #[.slice An ns.length kn,.slice At ts.length kt,.int .i64 0,.int .i64 0,.slice Ap ps.length kp,.slice A1 m.length c1,.int .i64 0] 42)) (by omega) (by omega) (by decide) (below_alloc (Below.refl _ _) _) (heap_alloc_new w5 _)
  rw [Int.natCast_zero] at hd4
  have htk2:=fun t a' hno h => HTK.out m HUM.out 12 t a' hno h
  generalize drv ps m 12 0 0 0 = res at hd4 htk2
  obtain ⟨⟨t,ok⟩,a'⟩ := res
  have P4:=Aside0.mk hd4
  have HTK2:=Aside0.mk htk2
  clear hd4 htk2 HTK
  go_upto_region 10 with (first | (go_at_call 14;(with_reducible refine P4.out.mono ?_);rintro e w6 ⟨v6,rfl,HR6,HBK6,HK6,HB6⟩;clear P4 q0 q1 q2 q3 q4))
  have HW6 : Aside0 (Below w.heap.size w w6) := ⟨HW5.out.trans (HB6.out.mono HW5.out.size)⟩
  obtain ⟨A9,c9,rfl⟩ : ∃ A c,v6 = .slice A t.length c:=Kd.R_slice HR6.out
  by_cases hcs : cs = []
  · subst hcs
    cases ok with
    | false =>
     go_wp2
     go_ret
     exact ⟨rfl,HW6.out⟩
    | true =>
     have ht:=HTK2.out t a' rfl rfl
     have PT:=Aside0.mk (fun W (hW : Below w6.heap.size w6 W) => taken_walk An kn ns At kt ts 0 0 Ap kp ps A7 c7 tb A9 c9 t W (Kd.C_below HOP5.out (HB6.out.trans (hW.mono HB6.out.size))) (Kd.C_below HT5.out (HB6.out.trans (hW.mono HB6.out.size))) (Kd.C_below (Kd.R_reads' HR6.out).2.2 hW) (Kd.R_reads' HR6.out).2.1 (fun p hp => by have:=HOK.out.r3 p hp;omega) (by have:=HOK.out.t10;omega) ht.1)
     obtain ⟨q0,q1,q2,q3,q4⟩ := HC.out w6 (HB5.out.trans (HB6.out.mono HB5.out.size))
     clear ht
     go_wp2_with (first | (go_at_call 15;(with_reducible refine (PT.out w6 (Below.refl _ _)).mono ?_);rintro e w7 ⟨rfl,hb7⟩;have HW7 : Aside0 (Below w.heap.size w w7) := ⟨HW6.out.trans (hb7.mono HW6.out.size)⟩;clear hb7))
     go_ret
     exact ⟨rfl,HW7.out⟩
  · have hcl : 0 < cs.length:=List.length_pos_iff.2 hcs
    have c1_ : decide ((0 : Int) < (cs.length : Int)) = true:=decide_eq_true (by omega)
    have c2_ : decide (0 < cs.length) = true:=decide_eq_true hcl
    clear hcs
    go_wp2
    go_ret
    exact ⟨rfl,HW6.out⟩
end Go.Proofs.Ytfdcfihcfegekaa.P
end
