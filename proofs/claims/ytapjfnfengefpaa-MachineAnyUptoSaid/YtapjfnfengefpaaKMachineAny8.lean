/- Packed texts of this claim: the walks of the functions, and their plain laws; see the claim's last text. -/
import Derived.Test.YtapjfnfengefpaaKMachineAny7
section
namespace Go.Proofs.Ytapjfnfengefpaa.P
open Go.RowKit Go.Proofs.YtapjfnfengefpaaW.PrintWords Go.Proofs.YtapjfnfengefpaaW.PrintLast Go.Proofs.YtapjfnfengefpaaW.PrintMore
attribute [local go_sem] max2_int min2_int max_two min_two max_three min_three max_four min_four   -- for this text's walks alone
set_option linter.unusedVariables false
set_option linter.unusedSimpArgs false
def regletlaw16_ran.f (k : Nat) (l0_0 : List ByteArray) (l0_1 : List (S72)) (a0_2 : Int) (a0_3 : Int) (l0_4 : List (S35)) (l1 : List (List Int)) (l2 : List Int) : Option (Bool) := (machine_Run.f k l0_0 l0_1 a0_2 a0_3 l0_4 l1 l2).bind fun bt313 => ((regletref16_Run.f k l0_0 l0_1 a0_2 a0_3 l0_4 l1 l2).bind fun bt318 => ((regletref13_SameInts.f k bt313.1 bt318.1).bind fun t323 => (if t323 = true then (if bt313.2.1 = bt318.2.1 then (some (bt313.2.2 == bt318.2.2)) else (some false)) else (some false))))
set_option maxHeartbeats 8000000 in
set_option maxRecDepth 100000 in
theorem regletlaw16_ran.calls (k : Nat) (A0_0 : Option Addr) (c0_0 : Nat) (l0_0 : List ByteArray) (A0_1 : Option Addr) (c0_1 : Nat) (l0_1 : List (S72)) (a0_2 : Int) (a0_3 : Int) (A0_4 : Option Addr) (c0_4 : Nat) (l0_4 : List (S35)) (A1 : Option Addr) (c1 : Nat) (l1 : List (List Int)) (A2 : Option Addr) (c2 : Nat) (l2 : List Int) (r : Bool) (w : World) (hr0_0 : Kd.C Kd.string w A0_0 l0_0.length l0_0) (hc0_0 : l0_0.length ≤ c0_0) (hr0_1 : Kd.C k72 w A0_1 l0_1.length l0_1) (hc0_1 : l0_1.length ≤ c0_1) (hr0_4 : Kd.C k35 w A0_4 l0_4.length l0_4) (hc0_4 : l0_4.length ≤ c0_4) (hr1 : Kd.C (Kd.slice 3 (Kd.int .i64)) w A1 l1.length l1) (hc1 : l1.length ≤ c1) (hr2 : Kd.C (Kd.int .i64) w A2 l2.length l2) (hc2 : l2.length ≤ c2) (h : regletlaw16_ran.f k l0_0 l0_1 a0_2 a0_3 l0_4 l1 l2 = some r) :
    Calls Try.prog 12 #[.agg #[.slice A0_0 l0_0.length c0_0,.slice A0_1 l0_1.length c0_1,.int .i64 a0_2,.int .i64 a0_3,.slice A0_4 l0_4.length c0_4],.slice A1 l1.length c1,.slice A2 l2.length c2] w fun e w' => e = .returned (.bool r) ∧ Below w.heap.size w w' := by
 have hu26:=Try.underlying26
 have HR0_0:=Aside0.mk hr0_0
 have HC0_0:=Aside0.mk hc0_0
 clear hr0_0 hc0_0
 have HR0_1:=Aside0.mk hr0_1
 have HC0_1:=Aside0.mk hc0_1
 clear hr0_1 hc0_1
 have HR0_4:=Aside0.mk hr0_4
 have HC0_4:=Aside0.mk hc0_4
 clear hr0_4 hc0_4
 have HR1:=Aside0.mk hr1
 have HC1:=Aside0.mk hc1
 clear hr1 hc1
 have HR2:=Aside0.mk hr2
 have HC2:=Aside0.mk hc2
 clear hr2 hc2
 have HB:=Aside0.mk (Below.refl w.heap.size w)
 have H : ((machine_Run.f k l0_0 l0_1 a0_2 a0_3 l0_4 l1 l2).bind fun bt313 => ((regletref16_Run.f k l0_0 l0_1 a0_2 a0_3 l0_4 l1 l2).bind fun bt318 => ((regletref13_SameInts.f k bt313.1 bt318.1).bind fun t323 => (if t323 = true then (if bt313.2.1 = bt318.2.1 then (some (bt313.2.2 == bt318.2.2)) else (some false)) else (some false))))) = some r:=h
 clear h
 replace H:=Option.bind_eq_some_iff.mp H
 obtain ⟨⟨t313,t316,t317⟩,A40,H⟩ := H
 replace H : ((regletref16_Run.f k l0_0 l0_1 a0_2 a0_3 l0_4 l1 l2).bind fun bt318 => ((regletref13_SameInts.f k t313 bt318.1).bind fun t323 => (if t323 = true then (if t316 = bt318.2.1 then (some (t317 == bt318.2.2)) else (some false)) else (some false)))) = some r:=H
 have A4:=Aside0.mk A40
 clear A40
 replace H:=Option.bind_eq_some_iff.mp H
 obtain ⟨⟨t318,t321,t322⟩,A50,H⟩ := H
 replace H : ((regletref13_SameInts.f k t313 t318).bind fun t323 => (if t323 = true then (if t316 = t321 then (some (t317 == t322)) else (some false)) else (some false))) = some r:=H
 have A5:=Aside0.mk A50
 clear A50
 replace H:=Option.bind_eq_some_iff.mp H
 obtain ⟨t323,A60,H⟩ := H
 replace H : (if t323 = true then (if t316 = t321 then (some (t317 == t322)) else (some false)) else (some false)) = some r:=H
 have A6:=Aside0.mk A60
 clear A60
 by_cases c7 : t323 = true
 · subst c7
   have H1 : (if t316 = t321 then (some (t317 == t322)) else (some false)) = some r:=by rw [if_pos rfl] at H;exact H
   clear H
   have H:=H1
   clear H1
   by_cases c8 : t316 = t321
   · rw [if_pos c8] at H
     have c8b0 : (t316 == t321) = true:=beq_iff_eq.mpr c8
     have c8b1 : (t316 != t321) = false:=bne_eq_false_iff_eq.mpr c8
     clear c8
     obtain rfl:=Option.some.inj H
     go_enter Try.func12,Try.ntmps12
     go_wp2_with (first | ((with_reducible refine gate_dst (N:=3) rfl ?_);refine box_event ?hg (N:=3) ?hd (cs:=#[.slice A0_0 l0_0.length c0_0,.slice A0_1 l0_1.length c0_1,.int .i64 a0_2,.int .i64 a0_3,.slice A0_4 l0_4.length c0_4]) (t:=26) ?hr ?_;(case hd => rfl);(case hg => rfl);(case hr => first | (go_simp;done) | (go_simp;rfl));intro gb312 hg w9 hbox hb;have n0_:=Aside0.mk (below_step (by repeat (first | (with_reducible first | exact HB.out | apply below_alloc | apply pw_below_drewN | apply below_drew1) | exact HB.out)) hb);have n1_:=Aside0.mk (hbox);have n2_:=Aside0.mk ((by rw [hg];exact (below_size (by repeat (first | (with_reducible first | exact HB.out | apply below_alloc | apply pw_below_drewN | apply below_drew1) | exact HB.out))) : w.heap.size ≤ gb312));have n3_:=Aside0.mk ((by rw [hg];exact (below_size (by repeat (first | (with_reducible first | exact HB.out | apply below_alloc | apply pw_below_drewN | apply below_drew1) | exact HB.out))) : w.heap.size ≤ gb312));clear HB;have HB:=n0_;have BK312:=n1_;have GW312:=n2_;have GE312:=n3_;clear n0_ n1_ n2_ n3_;clear hb hbox hg;have hcz10_0 : w9.cell? ⟨gb312,0,none⟩ = some (.slice A0_0 l0_0.length c0_0) := (blk_cell BK312.out 0).trans rfl;have hcz10_1 : w9.cell? ⟨gb312,1,none⟩ = some (.slice A0_1 l0_1.length c0_1) := (blk_cell BK312.out 1).trans rfl;have hcz10_2 : w9.cell? ⟨gb312,2,none⟩ = some (.int .i64 a0_2) := (blk_cell BK312.out 2).trans rfl;have hcz10_3 : w9.cell? ⟨gb312,3,none⟩ = some (.int .i64 a0_3) := (blk_cell BK312.out 3).trans rfl;have hcz10_4 : w9.cell? ⟨gb312,4,none⟩ = some (.slice A0_4 l0_4.length c0_4) := (blk_cell BK312.out 4).trans rfl;have hfz10_0:=blk_frozen BK312.out 0;have hfz10_1:=blk_frozen BK312.out 1;have hfz10_2:=blk_frozen BK312.out 2;have hfz10_3:=blk_frozen BK312.out 3;have hfz10_4:=blk_frozen BK312.out 4) | ((with_reducible refine gate_callee (f:=22) rfl ?_);refine goesL_ (some 17) rfl rfl Try.func22 (by kernel_rfl) rfl #[.agg #[.slice A0_0 l0_0.length c0_0,.slice A0_1 l0_1.length c0_1,.int .i64 a0_2,.int .i64 a0_3,.slice A0_4 l0_4.length c0_4],.slice A1 l1.length c1,.slice A2 l2.length c2] rfl (by (try simp only [List.map_toArray,List.map_cons,List.map_nil]);first | done | rfl | (simp only [List.length_drop,List.length_take];rfl)) ?_;(with_reducible refine (machine_Run.calls k _ _ l0_0 _ _ l0_1 a0_2 a0_3 _ _ l0_4 _ _ l1 _ _ l2 t313 t316 t317 _ ?side1 ?side2 ?side3 ?side4 ?side5 ?side6 ?side7 ?side8 ?side9 ?side10 A4.out).mono ?_);(case side1 => repeat (first | exact (Kd.C_below HR0_0.out HB.out) | (with_reducible refine Kd.C_alloc ?_ _) | (with_reducible refine Kd.C_drewN ?_ _) | (with_reducible refine Kd.C_drew ?_)));(case side2 => exact HC0_0.out);(case side3 => repeat (first | exact (Kd.C_below HR0_1.out HB.out) | (with_reducible refine Kd.C_alloc ?_ _) | (with_reducible refine Kd.C_drewN ?_ _) | (with_reducible refine Kd.C_drew ?_)));(case side4 => exact HC0_1.out);(case side5 => repeat (first | exact (Kd.C_below HR0_4.out HB.out) | (with_reducible refine Kd.C_alloc ?_ _) | (with_reducible refine Kd.C_drewN ?_ _) | (with_reducible refine Kd.C_drew ?_)));(case side6 => exact HC0_4.out);(case side7 => repeat (first | exact (Kd.C_below HR1.out HB.out) | (with_reducible refine Kd.C_alloc ?_ _) | (with_reducible refine Kd.C_drewN ?_ _) | (with_reducible refine Kd.C_drew ?_)));(case side8 => exact HC1.out);(case side9 => repeat (first | exact (Kd.C_below HR2.out HB.out) | (with_reducible refine Kd.C_alloc ?_ _) | (with_reducible refine Kd.C_drewN ?_ _) | (with_reducible refine Kd.C_drew ?_)));(case side10 => exact HC2.out);rintro e w11 ⟨v314,rfl,ho0,hb⟩;refine ⟨_,rfl,?_⟩;have n0_:=Aside0.mk (Kd.R_lower ho0 (below_size (by repeat (first | (with_reducible first | exact HB.out | apply below_alloc | apply pw_below_drewN | apply below_drew1 | refine below_set ?_ GE312.out) | exact HB.out))));have n1_:=Aside0.mk (blk_below (g:=gb312) (o := .cells #[.slice A0_0 l0_0.length c0_0,.slice A0_1 l0_1.length c0_1,.int .i64 a0_2,.int .i64 a0_3,.slice A0_4 l0_4.length c0_4] 26 (0,0)) (by (with_reducible repeat (first | refine blk_drewN ?_ _ | refine blk_drew ?_ | refine blk_alloc ?_ _));exact BK312.out) hb);have n2_:=Aside0.mk (below_step (by repeat (first | (with_reducible first | exact HB.out | apply below_alloc | apply pw_below_drewN | apply below_drew1 | refine below_set ?_ GE312.out) | exact HB.out)) hb);clear BK312;clear HB;have HO315:=n0_;have BK312:=n1_;have HB:=n2_;clear n0_ n1_ n2_;(try clear hb);(try clear hb2);(try clear hk);(try clear hi);(try clear ho0);have hcz12_0 : w11.cell? ⟨gb312,0,none⟩ = some (.slice A0_0 l0_0.length c0_0) := (blk_cell BK312.out 0).trans rfl;have hcz12_1 : w11.cell? ⟨gb312,1,none⟩ = some (.slice A0_1 l0_1.length c0_1) := (blk_cell BK312.out 1).trans rfl;have hcz12_2 : w11.cell? ⟨gb312,2,none⟩ = some (.int .i64 a0_2) := (blk_cell BK312.out 2).trans rfl;have hcz12_3 : w11.cell? ⟨gb312,3,none⟩ = some (.int .i64 a0_3) := (blk_cell BK312.out 3).trans rfl;have hcz12_4 : w11.cell? ⟨gb312,4,none⟩ = some (.slice A0_4 l0_4.length c0_4) := (blk_cell BK312.out 4).trans rfl;have hfz12_0:=blk_frozen BK312.out 0;have hfz12_1:=blk_frozen BK312.out 1;have hfz12_2:=blk_frozen BK312.out 2;have hfz12_3:=blk_frozen BK312.out 3;have hfz12_4:=blk_frozen BK312.out 4) | ((with_reducible refine gate_callee (f:=28) rfl ?_);refine goesL_ (some 25) rfl rfl Try.func28 (by kernel_rfl) rfl #[.agg #[.slice A0_0 l0_0.length c0_0,.slice A0_1 l0_1.length c0_1,.int .i64 a0_2,.int .i64 a0_3,.slice A0_4 l0_4.length c0_4],.slice A1 l1.length c1,.slice A2 l2.length c2] rfl (by (try simp only [List.map_toArray,List.map_cons,List.map_nil]);first | done | rfl | (simp only [List.length_drop,List.length_take];rfl)) ?_;(with_reducible refine (regletref16_Run.calls k _ _ l0_0 _ _ l0_1 a0_2 a0_3 _ _ l0_4 _ _ l1 _ _ l2 t318 t321 t322 _ ?side1 ?side2 ?side3 ?side4 ?side5 ?side6 ?side7 ?side8 ?side9 ?side10 A5.out).mono ?_);(case side1 => repeat (first | exact (Kd.C_below HR0_0.out HB.out) | (with_reducible refine Kd.C_alloc ?_ _) | (with_reducible refine Kd.C_drewN ?_ _) | (with_reducible refine Kd.C_drew ?_)));(case side2 => exact HC0_0.out);(case side3 => repeat (first | exact (Kd.C_below HR0_1.out HB.out) | (with_reducible refine Kd.C_alloc ?_ _) | (with_reducible refine Kd.C_drewN ?_ _) | (with_reducible refine Kd.C_drew ?_)));(case side4 => exact HC0_1.out);(case side5 => repeat (first | exact (Kd.C_below HR0_4.out HB.out) | (with_reducible refine Kd.C_alloc ?_ _) | (with_reducible refine Kd.C_drewN ?_ _) | (with_reducible refine Kd.C_drew ?_)));(case side6 => exact HC0_4.out);(case side7 => repeat (first | exact (Kd.C_below HR1.out HB.out) | (with_reducible refine Kd.C_alloc ?_ _) | (with_reducible refine Kd.C_drewN ?_ _) | (with_reducible refine Kd.C_drew ?_)));(case side8 => exact HC1.out);(case side9 => repeat (first | exact (Kd.C_below HR2.out HB.out) | (with_reducible refine Kd.C_alloc ?_ _) | (with_reducible refine Kd.C_drewN ?_ _) | (with_reducible refine Kd.C_drew ?_)));(case side10 => exact HC2.out);rintro e w13 ⟨v319,rfl,ho0,hb⟩;refine ⟨_,rfl,?_⟩;have n0_:=Aside0.mk (Kd.R_elder' (by (with_reducible repeat (first | apply Kd.R_alloc | apply Kd.R_drewN | apply Kd.R_drew));exact HO315.out) (Kd.R_base ho0) hb);have n1_:=Aside0.mk (Kd.R_lower (Kd.R_new' ho0 (Kd.R_lt (by (with_reducible repeat (first | apply Kd.R_alloc | apply Kd.R_drewN | apply Kd.R_drew));exact HO315.out))) (below_size (by repeat (first | (with_reducible first | exact HB.out | apply below_alloc | apply pw_below_drewN | apply below_drew1 | refine below_set ?_ GE312.out) | exact HB.out))));have n2_:=Aside0.mk (blk_below (g:=gb312) (o := .cells #[.slice A0_0 l0_0.length c0_0,.slice A0_1 l0_1.length c0_1,.int .i64 a0_2,.int .i64 a0_3,.slice A0_4 l0_4.length c0_4] 26 (0,0)) (by (with_reducible repeat (first | refine blk_drewN ?_ _ | refine blk_drew ?_ | refine blk_alloc ?_ _));exact BK312.out) hb);have n3_:=Aside0.mk (below_step (by repeat (first | (with_reducible first | exact HB.out | apply below_alloc | apply pw_below_drewN | apply below_drew1 | refine below_set ?_ GE312.out) | exact HB.out)) hb);clear HO315;clear BK312;clear HB;have HO315:=n0_;have HO320:=n1_;have BK312:=n2_;have HB:=n3_;clear n0_ n1_ n2_ n3_;(try clear hb);(try clear hb2);(try clear hk);(try clear hi);(try clear ho0);obtain ⟨Ao14,co14,eo14⟩ := Kd.R_slice HO315.out;subst eo14;obtain ⟨Ao15,co15,eo15⟩ := Kd.R_slice HO320.out;subst eo15) | ((with_reducible refine gate_callee (f:=24) rfl ?_);refine goesL_ (some 31) rfl rfl Try.func24 (by kernel_rfl) rfl #[.slice Ao14 t313.length co14,.slice Ao15 t318.length co15] rfl (by (try simp only [List.map_toArray,List.map_cons,List.map_nil]);first | done | rfl | (simp only [List.length_drop,List.length_take];rfl)) ?_;(with_reducible refine (regletref13_SameInts.calls k _ _ t313 _ _ t318 true _ ?side1 ?side2 ?side3 ?side4 A6.out).mono ?_);(case side1 => repeat (first | exact (Kd.R_reads' HO315.out).2.2 | (with_reducible refine Kd.C_alloc ?_ _) | (with_reducible refine Kd.C_drewN ?_ _) | (with_reducible refine Kd.C_drew ?_)));(case side2 => exact (Kd.R_reads' HO315.out).2.1);(case side3 => repeat (first | exact (Kd.R_reads' HO320.out).2.2 | (with_reducible refine Kd.C_alloc ?_ _) | (with_reducible refine Kd.C_drewN ?_ _) | (with_reducible refine Kd.C_drew ?_)));(case side4 => exact (Kd.R_reads' HO320.out).2.1);rintro e w' ⟨rfl,⟨nd,rfl⟩⟩;refine ⟨_,rfl,?_⟩))
     go_ret
     exact ⟨by first | rfl | (simp [errW_none,errW_some] <;> rfl) | (simp [*,errW_none,errW_some] <;> rfl),by repeat (first | (with_reducible first | exact HB.out | apply below_alloc | apply pw_below_drewN | apply below_drew1 | refine below_set ?_ GE312.out) | exact HB.out)⟩
   · rw [if_neg c8] at H
     have c8b0 : (t316 == t321) = false:=beq_eq_false_iff_ne.mpr c8
     have c8b1 : (t316 != t321) = true:=bne_iff_ne.mpr c8
     obtain rfl:=Option.some.inj H
     go_enter Try.func12,Try.ntmps12
     go_wp2_with (first | ((with_reducible refine gate_dst (N:=3) rfl ?_);refine box_event ?hg (N:=3) ?hd (cs:=#[.slice A0_0 l0_0.length c0_0,.slice A0_1 l0_1.length c0_1,.int .i64 a0_2,.int .i64 a0_3,.slice A0_4 l0_4.length c0_4]) (t:=26) ?hr ?_;(case hd => rfl);(case hg => rfl);(case hr => first | (go_simp;done) | (go_simp;rfl));intro gb312 hg w16 hbox hb;have n0_:=Aside0.mk (below_step (by repeat (first | (with_reducible first | exact HB.out | apply below_alloc | apply pw_below_drewN | apply below_drew1) | exact HB.out)) hb);have n1_:=Aside0.mk (hbox);have n2_:=Aside0.mk ((by rw [hg];exact (below_size (by repeat (first | (with_reducible first | exact HB.out | apply below_alloc | apply pw_below_drewN | apply below_drew1) | exact HB.out))) : w.heap.size ≤ gb312));have n3_:=Aside0.mk ((by rw [hg];exact (below_size (by repeat (first | (with_reducible first | exact HB.out | apply below_alloc | apply pw_below_drewN | apply below_drew1) | exact HB.out))) : w.heap.size ≤ gb312));clear HB;have HB:=n0_;have BK312:=n1_;have GW312:=n2_;have GE312:=n3_;clear n0_ n1_ n2_ n3_;clear hb hbox hg;have hcz17_0 : w16.cell? ⟨gb312,0,none⟩ = some (.slice A0_0 l0_0.length c0_0) := (blk_cell BK312.out 0).trans rfl;have hcz17_1 : w16.cell? ⟨gb312,1,none⟩ = some (.slice A0_1 l0_1.length c0_1) := (blk_cell BK312.out 1).trans rfl;have hcz17_2 : w16.cell? ⟨gb312,2,none⟩ = some (.int .i64 a0_2) := (blk_cell BK312.out 2).trans rfl;have hcz17_3 : w16.cell? ⟨gb312,3,none⟩ = some (.int .i64 a0_3) := (blk_cell BK312.out 3).trans rfl;have hcz17_4 : w16.cell? ⟨gb312,4,none⟩ = some (.slice A0_4 l0_4.length c0_4) := (blk_cell BK312.out 4).trans rfl;have hfz17_0:=blk_frozen BK312.out 0;have hfz17_1:=blk_frozen BK312.out 1;have hfz17_2:=blk_frozen BK312.out 2;have hfz17_3:=blk_frozen BK312.out 3;have hfz17_4:=blk_frozen BK312.out 4) | ((with_reducible refine gate_callee (f:=22) rfl ?_);refine goesL_ (some 17) rfl rfl Try.func22 (by kernel_rfl) rfl #[.agg #[.slice A0_0 l0_0.length c0_0,.slice A0_1 l0_1.length c0_1,.int .i64 a0_2,.int .i64 a0_3,.slice A0_4 l0_4.length c0_4],.slice A1 l1.length c1,.slice A2 l2.length c2] rfl (by (try simp only [List.map_toArray,List.map_cons,List.map_nil]);first | done | rfl | (simp only [List.length_drop,List.length_take];rfl)) ?_;(with_reducible refine (machine_Run.calls k _ _ l0_0 _ _ l0_1 a0_2 a0_3 _ _ l0_4 _ _ l1 _ _ l2 t313 t316 t317 _ ?side1 ?side2 ?side3 ?side4 ?side5 ?side6 ?side7 ?side8 ?side9 ?side10 A4.out).mono ?_);(case side1 => repeat (first | exact (Kd.C_below HR0_0.out HB.out) | (with_reducible refine Kd.C_alloc ?_ _) | (with_reducible refine Kd.C_drewN ?_ _) | (with_reducible refine Kd.C_drew ?_)));(case side2 => exact HC0_0.out);(case side3 => repeat (first | exact (Kd.C_below HR0_1.out HB.out) | (with_reducible refine Kd.C_alloc ?_ _) | (with_reducible refine Kd.C_drewN ?_ _) | (with_reducible refine Kd.C_drew ?_)));(case side4 => exact HC0_1.out);(case side5 => repeat (first | exact (Kd.C_below HR0_4.out HB.out) | (with_reducible refine Kd.C_alloc ?_ _) | (with_reducible refine Kd.C_drewN ?_ _) | (with_reducible refine Kd.C_drew ?_)));(case side6 => exact HC0_4.out);(case side7 => repeat (first | exact (Kd.C_below HR1.out HB.out) | (with_reducible refine Kd.C_alloc ?_ _) | (with_reducible refine Kd.C_drewN ?_ _) | (with_reducible refine Kd.C_drew ?_)));(case side8 => exact HC1.out);(case side9 => repeat (first | exact (Kd.C_below HR2.out HB.out) | (with_reducible refine Kd.C_alloc ?_ _) | (with_reducible refine Kd.C_drewN ?_ _) | (with_reducible refine Kd.C_drew ?_)));(case side10 => exact HC2.out);rintro e w18 ⟨v314,rfl,ho0,hb⟩;refine ⟨_,rfl,?_⟩;have n0_:=Aside0.mk (Kd.R_lower ho0 (below_size (by repeat (first | (with_reducible first | exact HB.out | apply below_alloc | apply pw_below_drewN | apply below_drew1 | refine below_set ?_ GE312.out) | exact HB.out))));have n1_:=Aside0.mk (blk_below (g:=gb312) (o := .cells #[.slice A0_0 l0_0.length c0_0,.slice A0_1 l0_1.length c0_1,.int .i64 a0_2,.int .i64 a0_3,.slice A0_4 l0_4.length c0_4] 26 (0,0)) (by (with_reducible repeat (first | refine blk_drewN ?_ _ | refine blk_drew ?_ | refine blk_alloc ?_ _));exact BK312.out) hb);have n2_:=Aside0.mk (below_step (by repeat (first | (with_reducible first | exact HB.out | apply below_alloc | apply pw_below_drewN | apply below_drew1 | refine below_set ?_ GE312.out) | exact HB.out)) hb);clear BK312;clear HB;have HO315:=n0_;have BK312:=n1_;have HB:=n2_;clear n0_ n1_ n2_;(try clear hb);(try clear hb2);(try clear hk);(try clear hi);(try clear ho0);have hcz19_0 : w18.cell? ⟨gb312,0,none⟩ = some (.slice A0_0 l0_0.length c0_0) := (blk_cell BK312.out 0).trans rfl;have hcz19_1 : w18.cell? ⟨gb312,1,none⟩ = some (.slice A0_1 l0_1.length c0_1) := (blk_cell BK312.out 1).trans rfl;have hcz19_2 : w18.cell? ⟨gb312,2,none⟩ = some (.int .i64 a0_2) := (blk_cell BK312.out 2).trans rfl;have hcz19_3 : w18.cell? ⟨gb312,3,none⟩ = some (.int .i64 a0_3) := (blk_cell BK312.out 3).trans rfl;have hcz19_4 : w18.cell? ⟨gb312,4,none⟩ = some (.slice A0_4 l0_4.length c0_4) := (blk_cell BK312.out 4).trans rfl;have hfz19_0:=blk_frozen BK312.out 0;have hfz19_1:=blk_frozen BK312.out 1;have hfz19_2:=blk_frozen BK312.out 2;have hfz19_3:=blk_frozen BK312.out 3;have hfz19_4:=blk_frozen BK312.out 4) | ((with_reducible refine gate_callee (f:=28) rfl ?_);refine goesL_ (some 25) rfl rfl Try.func28 (by kernel_rfl) rfl #[.agg #[.slice A0_0 l0_0.length c0_0,.slice A0_1 l0_1.length c0_1,.int .i64 a0_2,.int .i64 a0_3,.slice A0_4 l0_4.length c0_4],.slice A1 l1.length c1,.slice A2 l2.length c2] rfl (by (try simp only [List.map_toArray,List.map_cons,List.map_nil]);first | done | rfl | (simp only [List.length_drop,List.length_take];rfl)) ?_;(with_reducible refine (regletref16_Run.calls k _ _ l0_0 _ _ l0_1 a0_2 a0_3 _ _ l0_4 _ _ l1 _ _ l2 t318 t321 t322 _ ?side1 ?side2 ?side3 ?side4 ?side5 ?side6 ?side7 ?side8 ?side9 ?side10 A5.out).mono ?_);(case side1 => repeat (first | exact (Kd.C_below HR0_0.out HB.out) | (with_reducible refine Kd.C_alloc ?_ _) | (with_reducible refine Kd.C_drewN ?_ _) | (with_reducible refine Kd.C_drew ?_)));(case side2 => exact HC0_0.out);(case side3 => repeat (first | exact (Kd.C_below HR0_1.out HB.out) | (with_reducible refine Kd.C_alloc ?_ _) | (with_reducible refine Kd.C_drewN ?_ _) | (with_reducible refine Kd.C_drew ?_)));(case side4 => exact HC0_1.out);(case side5 => repeat (first | exact (Kd.C_below HR0_4.out HB.out) | (with_reducible refine Kd.C_alloc ?_ _) | (with_reducible refine Kd.C_drewN ?_ _) | (with_reducible refine Kd.C_drew ?_)));(case side6 => exact HC0_4.out);(case side7 => repeat (first | exact (Kd.C_below HR1.out HB.out) | (with_reducible refine Kd.C_alloc ?_ _) | (with_reducible refine Kd.C_drewN ?_ _) | (with_reducible refine Kd.C_drew ?_)));(case side8 => exact HC1.out);(case side9 => repeat (first | exact (Kd.C_below HR2.out HB.out) | (with_reducible refine Kd.C_alloc ?_ _) | (with_reducible refine Kd.C_drewN ?_ _) | (with_reducible refine Kd.C_drew ?_)));(case side10 => exact HC2.out);rintro e w20 ⟨v319,rfl,ho0,hb⟩;refine ⟨_,rfl,?_⟩;have n0_:=Aside0.mk (Kd.R_elder' (by (with_reducible repeat (first | apply Kd.R_alloc | apply Kd.R_drewN | apply Kd.R_drew));exact HO315.out) (Kd.R_base ho0) hb);have n1_:=Aside0.mk (Kd.R_lower (Kd.R_new' ho0 (Kd.R_lt (by (with_reducible repeat (first | apply Kd.R_alloc | apply Kd.R_drewN | apply Kd.R_drew));exact HO315.out))) (below_size (by repeat (first | (with_reducible first | exact HB.out | apply below_alloc | apply pw_below_drewN | apply below_drew1 | refine below_set ?_ GE312.out) | exact HB.out))));have n2_:=Aside0.mk (blk_below (g:=gb312) (o := .cells #[.slice A0_0 l0_0.length c0_0,.slice A0_1 l0_1.length c0_1,.int .i64 a0_2,.int .i64 a0_3,.slice A0_4 l0_4.length c0_4] 26 (0,0)) (by (with_reducible repeat (first | refine blk_drewN ?_ _ | refine blk_drew ?_ | refine blk_alloc ?_ _));exact BK312.out) hb);have n3_:=Aside0.mk (below_step (by repeat (first | (with_reducible first | exact HB.out | apply below_alloc | apply pw_below_drewN | apply below_drew1 | refine below_set ?_ GE312.out) | exact HB.out)) hb);clear HO315;clear BK312;clear HB;have HO315:=n0_;have HO320:=n1_;have BK312:=n2_;have HB:=n3_;clear n0_ n1_ n2_ n3_;(try clear hb);(try clear hb2);(try clear hk);(try clear hi);(try clear ho0);obtain ⟨Ao21,co21,eo21⟩ := Kd.R_slice HO315.out;subst eo21;obtain ⟨Ao22,co22,eo22⟩ := Kd.R_slice HO320.out;subst eo22) | ((with_reducible refine gate_callee (f:=24) rfl ?_);refine goesL_ (some 31) rfl rfl Try.func24 (by kernel_rfl) rfl #[.slice Ao21 t313.length co21,.slice Ao22 t318.length co22] rfl (by (try simp only [List.map_toArray,List.map_cons,List.map_nil]);first | done | rfl | (simp only [List.length_drop,List.length_take];rfl)) ?_;(with_reducible refine (regletref13_SameInts.calls k _ _ t313 _ _ t318 true _ ?side1 ?side2 ?side3 ?side4 A6.out).mono ?_);(case side1 => repeat (first | exact (Kd.R_reads' HO315.out).2.2 | (with_reducible refine Kd.C_alloc ?_ _) | (with_reducible refine Kd.C_drewN ?_ _) | (with_reducible refine Kd.C_drew ?_)));(case side2 => exact (Kd.R_reads' HO315.out).2.1);(case side3 => repeat (first | exact (Kd.R_reads' HO320.out).2.2 | (with_reducible refine Kd.C_alloc ?_ _) | (with_reducible refine Kd.C_drewN ?_ _) | (with_reducible refine Kd.C_drew ?_)));(case side4 => exact (Kd.R_reads' HO320.out).2.1);rintro e w' ⟨rfl,⟨nd,rfl⟩⟩;refine ⟨_,rfl,?_⟩))
     go_ret
     exact ⟨by first | rfl | (simp [errW_none,errW_some] <;> rfl) | (simp [*,errW_none,errW_some] <;> rfl),by repeat (first | (with_reducible first | exact HB.out | apply below_alloc | apply pw_below_drewN | apply below_drew1 | refine below_set ?_ GE312.out) | exact HB.out)⟩
 · replace c7:=Bool.eq_false_iff.mpr c7
   subst c7
   have H1 : (some false) = some r:=by rw [if_neg (show ¬ (false = true) by decide)] at H;exact H
   clear H
   have H:=H1
   clear H1
   obtain rfl:=Option.some.inj H
   go_enter Try.func12,Try.ntmps12
   go_wp2_with (first | ((with_reducible refine gate_dst (N:=3) rfl ?_);refine box_event ?hg (N:=3) ?hd (cs:=#[.slice A0_0 l0_0.length c0_0,.slice A0_1 l0_1.length c0_1,.int .i64 a0_2,.int .i64 a0_3,.slice A0_4 l0_4.length c0_4]) (t:=26) ?hr ?_;(case hd => rfl);(case hg => rfl);(case hr => first | (go_simp;done) | (go_simp;rfl));intro gb312 hg w23 hbox hb;have n0_:=Aside0.mk (below_step (by repeat (first | (with_reducible first | exact HB.out | apply below_alloc | apply pw_below_drewN | apply below_drew1) | exact HB.out)) hb);have n1_:=Aside0.mk (hbox);have n2_:=Aside0.mk ((by rw [hg];exact (below_size (by repeat (first | (with_reducible first | exact HB.out | apply below_alloc | apply pw_below_drewN | apply below_drew1) | exact HB.out))) : w.heap.size ≤ gb312));have n3_:=Aside0.mk ((by rw [hg];exact (below_size (by repeat (first | (with_reducible first | exact HB.out | apply below_alloc | apply pw_below_drewN | apply below_drew1) | exact HB.out))) : w.heap.size ≤ gb312));clear HB;have HB:=n0_;have BK312:=n1_;have GW312:=n2_;have GE312:=n3_;clear n0_ n1_ n2_ n3_;clear hb hbox hg;have hcz24_0 : w23.cell? ⟨gb312,0,none⟩ = some (.slice A0_0 l0_0.length c0_0) := (blk_cell BK312.out 0).trans rfl;have hcz24_1 : w23.cell? ⟨gb312,1,none⟩ = some (.slice A0_1 l0_1.length c0_1) := (blk_cell BK312.out 1).trans rfl;have hcz24_2 : w23.cell? ⟨gb312,2,none⟩ = some (.int .i64 a0_2) := (blk_cell BK312.out 2).trans rfl;have hcz24_3 : w23.cell? ⟨gb312,3,none⟩ = some (.int .i64 a0_3) := (blk_cell BK312.out 3).trans rfl;have hcz24_4 : w23.cell? ⟨gb312,4,none⟩ = some (.slice A0_4 l0_4.length c0_4) := (blk_cell BK312.out 4).trans rfl;have hfz24_0:=blk_frozen BK312.out 0;have hfz24_1:=blk_frozen BK312.out 1;have hfz24_2:=blk_frozen BK312.out 2;have hfz24_3:=blk_frozen BK312.out 3;have hfz24_4:=blk_frozen BK312.out 4) | ((with_reducible refine gate_callee (f:=22) rfl ?_);refine goesL_ (some 17) rfl rfl Try.func22 (by kernel_rfl) rfl #[.agg #[.slice A0_0 l0_0.length c0_0,.slice A0_1 l0_1.length c0_1,.int .i64 a0_2,.int .i64 a0_3,.slice A0_4 l0_4.length c0_4],.slice A1 l1.length c1,.slice A2 l2.length c2] rfl (by (try simp only [List.map_toArray,List.map_cons,List.map_nil]);first | done | rfl | (simp only [List.length_drop,List.length_take];rfl)) ?_;(with_reducible refine (machine_Run.calls k _ _ l0_0 _ _ l0_1 a0_2 a0_3 _ _ l0_4 _ _ l1 _ _ l2 t313 t316 t317 _ ?side1 ?side2 ?side3 ?side4 ?side5 ?side6 ?side7 ?side8 ?side9 ?side10 A4.out).mono ?_);(case side1 => repeat (first | exact (Kd.C_below HR0_0.out HB.out) | (with_reducible refine Kd.C_alloc ?_ _) | (with_reducible refine Kd.C_drewN ?_ _) | (with_reducible refine Kd.C_drew ?_)));(case side2 => exact HC0_0.out);(case side3 => repeat (first | exact (Kd.C_below HR0_1.out HB.out) | (with_reducible refine Kd.C_alloc ?_ _) | (with_reducible refine Kd.C_drewN ?_ _) | (with_reducible refine Kd.C_drew ?_)));(case side4 => exact HC0_1.out);(case side5 => repeat (first | exact (Kd.C_below HR0_4.out HB.out) | (with_reducible refine Kd.C_alloc ?_ _) | (with_reducible refine Kd.C_drewN ?_ _) | (with_reducible refine Kd.C_drew ?_)));(case side6 => exact HC0_4.out);(case side7 => repeat (first | exact (Kd.C_below HR1.out HB.out) | (with_reducible refine Kd.C_alloc ?_ _) | (with_reducible refine Kd.C_drewN ?_ _) | (with_reducible refine Kd.C_drew ?_)));(case side8 => exact HC1.out);(case side9 => repeat (first | exact (Kd.C_below HR2.out HB.out) | (with_reducible refine Kd.C_alloc ?_ _) | (with_reducible refine Kd.C_drewN ?_ _) | (with_reducible refine Kd.C_drew ?_)));(case side10 => exact HC2.out);rintro e w25 ⟨v314,rfl,ho0,hb⟩;refine ⟨_,rfl,?_⟩;have n0_:=Aside0.mk (Kd.R_lower ho0 (below_size (by repeat (first | (with_reducible first | exact HB.out | apply below_alloc | apply pw_below_drewN | apply below_drew1 | refine below_set ?_ GE312.out) | exact HB.out))));have n1_:=Aside0.mk (blk_below (g:=gb312) (o := .cells #[.slice A0_0 l0_0.length c0_0,.slice A0_1 l0_1.length c0_1,.int .i64 a0_2,.int .i64 a0_3,.slice A0_4 l0_4.length c0_4] 26 (0,0)) (by (with_reducible repeat (first | refine blk_drewN ?_ _ | refine blk_drew ?_ | refine blk_alloc ?_ _));exact BK312.out) hb);have n2_:=Aside0.mk (below_step (by repeat (first | (with_reducible first | exact HB.out | apply below_alloc | apply pw_below_drewN | apply below_drew1 | refine below_set ?_ GE312.out) | exact HB.out)) hb);clear BK312;clear HB;have HO315:=n0_;have BK312:=n1_;have HB:=n2_;clear n0_ n1_ n2_;(try clear hb);(try clear hb2);(try clear hk);(try clear hi);(try clear ho0);have hcz26_0 : w25.cell? ⟨gb312,0,none⟩ = some (.slice A0_0 l0_0.length c0_0) := (blk_cell BK312.out 0).trans rfl;have hcz26_1 : w25.cell? ⟨gb312,1,none⟩ = some (.slice A0_1 l0_1.length c0_1) := (blk_cell BK312.out 1).trans rfl;have hcz26_2 : w25.cell? ⟨gb312,2,none⟩ = some (.int .i64 a0_2) := (blk_cell BK312.out 2).trans rfl;have hcz26_3 : w25.cell? ⟨gb312,3,none⟩ = some (.int .i64 a0_3) := (blk_cell BK312.out 3).trans rfl;have hcz26_4 : w25.cell? ⟨gb312,4,none⟩ = some (.slice A0_4 l0_4.length c0_4) := (blk_cell BK312.out 4).trans rfl;have hfz26_0:=blk_frozen BK312.out 0;have hfz26_1:=blk_frozen BK312.out 1;have hfz26_2:=blk_frozen BK312.out 2;have hfz26_3:=blk_frozen BK312.out 3;have hfz26_4:=blk_frozen BK312.out 4) | ((with_reducible refine gate_callee (f:=28) rfl ?_);refine goesL_ (some 25) rfl rfl Try.func28 (by kernel_rfl) rfl #[.agg #[.slice A0_0 l0_0.length c0_0,.slice A0_1 l0_1.length c0_1,.int .i64 a0_2,.int .i64 a0_3,.slice A0_4 l0_4.length c0_4],.slice A1 l1.length c1,.slice A2 l2.length c2] rfl (by (try simp only [List.map_toArray,List.map_cons,List.map_nil]);first | done | rfl | (simp only [List.length_drop,List.length_take];rfl)) ?_;(with_reducible refine (regletref16_Run.calls k _ _ l0_0 _ _ l0_1 a0_2 a0_3 _ _ l0_4 _ _ l1 _ _ l2 t318 t321 t322 _ ?side1 ?side2 ?side3 ?side4 ?side5 ?side6 ?side7 ?side8 ?side9 ?side10 A5.out).mono ?_);(case side1 => repeat (first | exact (Kd.C_below HR0_0.out HB.out) | (with_reducible refine Kd.C_alloc ?_ _) | (with_reducible refine Kd.C_drewN ?_ _) | (with_reducible refine Kd.C_drew ?_)));(case side2 => exact HC0_0.out);(case side3 => repeat (first | exact (Kd.C_below HR0_1.out HB.out) | (with_reducible refine Kd.C_alloc ?_ _) | (with_reducible refine Kd.C_drewN ?_ _) | (with_reducible refine Kd.C_drew ?_)));(case side4 => exact HC0_1.out);(case side5 => repeat (first | exact (Kd.C_below HR0_4.out HB.out) | (with_reducible refine Kd.C_alloc ?_ _) | (with_reducible refine Kd.C_drewN ?_ _) | (with_reducible refine Kd.C_drew ?_)));(case side6 => exact HC0_4.out);(case side7 => repeat (first | exact (Kd.C_below HR1.out HB.out) | (with_reducible refine Kd.C_alloc ?_ _) | (with_reducible refine Kd.C_drewN ?_ _) | (with_reducible refine Kd.C_drew ?_)));(case side8 => exact HC1.out);(case side9 => repeat (first | exact (Kd.C_below HR2.out HB.out) | (with_reducible refine Kd.C_alloc ?_ _) | (with_reducible refine Kd.C_drewN ?_ _) | (with_reducible refine Kd.C_drew ?_)));(case side10 => exact HC2.out);rintro e w27 ⟨v319,rfl,ho0,hb⟩;refine ⟨_,rfl,?_⟩;have n0_:=Aside0.mk (Kd.R_elder' (by (with_reducible repeat (first | apply Kd.R_alloc | apply Kd.R_drewN | apply Kd.R_drew));exact HO315.out) (Kd.R_base ho0) hb);have n1_:=Aside0.mk (Kd.R_lower (Kd.R_new' ho0 (Kd.R_lt (by (with_reducible repeat (first | apply Kd.R_alloc | apply Kd.R_drewN | apply Kd.R_drew));exact HO315.out))) (below_size (by repeat (first | (with_reducible first | exact HB.out | apply below_alloc | apply pw_below_drewN | apply below_drew1 | refine below_set ?_ GE312.out) | exact HB.out))));have n2_:=Aside0.mk (blk_below (g:=gb312) (o := .cells #[.slice A0_0 l0_0.length c0_0,.slice A0_1 l0_1.length c0_1,.int .i64 a0_2,.int .i64 a0_3,.slice A0_4 l0_4.length c0_4] 26 (0,0)) (by (with_reducible repeat (first | refine blk_drewN ?_ _ | refine blk_drew ?_ | refine blk_alloc ?_ _));exact BK312.out) hb);have n3_:=Aside0.mk (below_step (by repeat (first | (with_reducible first | exact HB.out | apply below_alloc | apply pw_below_drewN | apply below_drew1 | refine below_set ?_ GE312.out) | exact HB.out)) hb);clear HO315;clear BK312;clear HB;have HO315:=n0_;have HO320:=n1_;have BK312:=n2_;have HB:=n3_;clear n0_ n1_ n2_ n3_;(try clear hb);(try clear hb2);(try clear hk);(try clear hi);(try clear ho0);obtain ⟨Ao28,co28,eo28⟩ := Kd.R_slice HO315.out;subst eo28;obtain ⟨Ao29,co29,eo29⟩ := Kd.R_slice HO320.out;subst eo29) | ((with_reducible refine gate_callee (f:=24) rfl ?_);refine goesL_ (some 31) rfl rfl Try.func24 (by kernel_rfl) rfl #[.slice Ao28 t313.length co28,.slice Ao29 t318.length co29] rfl (by (try simp only [List.map_toArray,List.map_cons,List.map_nil]);first | done | rfl | (simp only [List.length_drop,List.length_take];rfl)) ?_;(with_reducible refine (regletref13_SameInts.calls k _ _ t313 _ _ t318 false _ ?side1 ?side2 ?side3 ?side4 A6.out).mono ?_);(case side1 => repeat (first | exact (Kd.R_reads' HO315.out).2.2 | (with_reducible refine Kd.C_alloc ?_ _) | (with_reducible refine Kd.C_drewN ?_ _) | (with_reducible refine Kd.C_drew ?_)));(case side2 => exact (Kd.R_reads' HO315.out).2.1);(case side3 => repeat (first | exact (Kd.R_reads' HO320.out).2.2 | (with_reducible refine Kd.C_alloc ?_ _) | (with_reducible refine Kd.C_drewN ?_ _) | (with_reducible refine Kd.C_drew ?_)));(case side4 => exact (Kd.R_reads' HO320.out).2.1);rintro e w' ⟨rfl,⟨nd,rfl⟩⟩;refine ⟨_,rfl,?_⟩))
   go_ret
   exact ⟨by first | rfl | (simp [errW_none,errW_some] <;> rfl) | (simp [*,errW_none,errW_some] <;> rfl),by repeat (first | (with_reducible first | exact HB.out | apply below_alloc | apply pw_below_drewN | apply below_drew1 | refine below_set ?_ GE312.out) | exact HB.out)⟩
mutual
def regletlaw16_MachineAny.j0 : Nat → List (List Int) → List Int → Bool → List ByteArray → List (S72) → Int → Int → List (S35) → List (S43) → Bool → Option (Bool)
  | 0,_,_,_,_,_,_,_,_,_,_ => none
  | k + 1,x1,x3,x33,x325000,x325001,x325002,x325003,x325004,x326000,x326001 => if x33 = true then ((regletlaw16_awake.f k).bind fun t326 => (some t326)) else (regletlaw16_MachineAny.l0 k x1 x3 0 x325000 x325001 x325002 x325003 x325004 x326000 x326001)
def regletlaw16_MachineAny.l0 : Nat → List (List Int) → List Int → Int → List ByteArray → List (S72) → Int → Int → List (S35) → List (S43) → Bool → Option (Bool)
  | 0,_,_,_,_,_,_,_,_,_,_ => none
  | k + 1,x1,x3,x9,x325000,x325001,x325002,x325003,x325004,x326000,x326001 => if x9 < (x325004.length : Int) then (if 0 ≤ x9 then (if (((rd_T35 x325004 x9).f1).length : Int) > 10 then ((regletlaw16_awake.f k).bind fun t328 => (some t328)) else (regletlaw16_MachineAny.l0 k x1 x3 (wrap64 (x9 + 1)) x325000 x325001 x325002 x325003 x325004 x326000 x326001)) else (none)) else (if (x3.length : Int) > 0 then (if 0 < (x3.length : Int) then ((regletlaw16_awake.f k).bind fun t330 => (if t330 = true then ((regletlaw16_fed.f k x325000 x325001 x325002 x325003 x325004 x1 x326000 x326001 (rd x3 0)).bind fun t331 => (if t331 = true then ((regletlaw16_ran.f k x325000 x325001 x325002 x325003 x325004 x1 x3).bind fun t332 => (some t332)) else (some false))) else (some false))) else (none)) else ((regletlaw16_awake.f k).bind fun t333 => (if t333 = true then ((regletlaw16_fed.f k x325000 x325001 x325002 x325003 x325004 x1 x326000 x326001 0).bind fun t334 => (if t334 = true then ((regletlaw16_ran.f k x325000 x325001 x325002 x325003 x325004 x1 x3).bind fun t335 => (some t335)) else (some false))) else (some false))))
end
def regletlaw16_MachineAny.f (k : Nat) (l0_0 : List ByteArray) (l0_1 : List (S72)) (a0_2 : Int) (a0_3 : Int) (l0_4 : List (S35)) (l1 : List (List Int)) (l2_0 : List (S43)) (a2_1 : Bool) (l3 : List Int) : Option (Bool) := if (wrap64 ((wrap64 ((l0_0.length : Int) + (l0_1.length : Int))) + (l0_4.length : Int))) > 30 then (regletlaw16_MachineAny.j0 k l1 l3 true l0_0 l0_1 a0_2 a0_3 l0_4 l2_0 a2_1) else (if (l2_0.length : Int) > 30 then (regletlaw16_MachineAny.j0 k l1 l3 true l0_0 l0_1 a0_2 a0_3 l0_4 l2_0 a2_1) else (regletlaw16_MachineAny.j0 k l1 l3 (decide ((l3.length : Int) > 10)) l0_0 l0_1 a0_2 a0_3 l0_4 l2_0 a2_1))
set_option maxHeartbeats 8000000 in
set_option maxRecDepth 100000 in
theorem regletlaw16_MachineAny.calls (k : Nat) (A0_0 : Option Addr) (c0_0 : Nat) (l0_0 : List ByteArray) (A0_1 : Option Addr) (c0_1 : Nat) (l0_1 : List (S72)) (a0_2 : Int) (a0_3 : Int) (A0_4 : Option Addr) (c0_4 : Nat) (l0_4 : List (S35)) (A1 : Option Addr) (c1 : Nat) (l1 : List (List Int)) (A2_0 : Option Addr) (c2_0 : Nat) (l2_0 : List (S43)) (a2_1 : Bool) (A3 : Option Addr) (c3 : Nat) (l3 : List Int) (r : Bool) (w : World) (hr0_0 : Kd.C Kd.string w A0_0 l0_0.length l0_0) (hc0_0 : l0_0.length ≤ c0_0) (hr0_1 : Kd.C k72 w A0_1 l0_1.length l0_1) (hc0_1 : l0_1.length ≤ c0_1) (hr0_4 : Kd.C k35 w A0_4 l0_4.length l0_4) (hc0_4 : l0_4.length ≤ c0_4) (hr1 : Kd.C (Kd.slice 3 (Kd.int .i64)) w A1 l1.length l1) (hc1 : l1.length ≤ c1) (hr2_0 : Kd.C k43 w A2_0 l2_0.length l2_0) (hc2_0 : l2_0.length ≤ c2_0) (hr3 : Kd.C (Kd.int .i64) w A3 l3.length l3) (hc3 : l3.length ≤ c3) (h : regletlaw16_MachineAny.f k l0_0 l0_1 a0_2 a0_3 l0_4 l1 l2_0 a2_1 l3 = some r) :
    Calls Try.prog 3 #[.agg #[.slice A0_0 l0_0.length c0_0,.slice A0_1 l0_1.length c0_1,.int .i64 a0_2,.int .i64 a0_3,.slice A0_4 l0_4.length c0_4],.slice A1 l1.length c1,.agg #[.slice A2_0 l2_0.length c2_0,.bool a2_1],.slice A3 l3.length c3] w fun e w' => e = .returned (.bool r) ∧ Below w.heap.size w w' := by
 have hu26:=Try.underlying26
 have hu31:=Try.underlying31
 have HR0_0:=Aside0.mk hr0_0
 have HC0_0:=Aside0.mk hc0_0
 clear hr0_0 hc0_0
 have HR0_1:=Aside0.mk hr0_1
 have HC0_1:=Aside0.mk hc0_1
 clear hr0_1 hc0_1
 have HR0_4:=Aside0.mk hr0_4
 have HC0_4:=Aside0.mk hc0_4
 clear hr0_4 hc0_4
 have HR1:=Aside0.mk hr1
 have HC1:=Aside0.mk hc1
 clear hr1 hc1
 have HR2_0:=Aside0.mk hr2_0
 have HC2_0:=Aside0.mk hc2_0
 clear hr2_0 hc2_0
 have HR3:=Aside0.mk hr3
 have HC3:=Aside0.mk hc3
 clear hr3 hc3
 have HB:=Aside0.mk (Below.refl w.heap.size w)
 have H : (if (wrap64 ((wrap64 ((l0_0.length : Int) + (l0_1.length : Int))) + (l0_4.length : Int))) > 30 then (regletlaw16_MachineAny.j0 k l1 l3 true l0_0 l0_1 a0_2 a0_3 l0_4 l2_0 a2_1) else (if (l2_0.length : Int) > 30 then (regletlaw16_MachineAny.j0 k l1 l3 true l0_0 l0_1 a0_2 a0_3 l0_4 l2_0 a2_1) else (regletlaw16_MachineAny.j0 k l1 l3 (decide ((l3.length : Int) > 10)) l0_0 l0_1 a0_2 a0_3 l0_4 l2_0 a2_1))) = some r:=h
 clear h
 have HC5:=Aside0.mk H
 clear H
 go_enter Try.func3,Try.ntmps3
 go_upto_region 1 with (first | ((with_reducible refine gate_dst (N:=4) rfl ?_);(try (refine gate_guard (by rfl) ?_;dsimp only));refine box_event ?hg (N:=4) ?hd (cs:=#[.slice A0_0 l0_0.length c0_0,.slice A0_1 l0_1.length c0_1,.int .i64 a0_2,.int .i64 a0_3,.slice A0_4 l0_4.length c0_4]) (t:=26) ?hr ?_;(case hd => rfl);(case hg => rfl);(case hr => first | (go_simp;done) | (go_simp;rfl));intro gb324 hg w6 hbox hb;have n0_:=Aside0.mk (below_step (by repeat (first | (with_reducible first | exact HB.out | apply below_alloc | apply pw_below_drewN | apply below_drew1) | exact HB.out)) hb);have n1_:=Aside0.mk (hbox);have n2_:=Aside0.mk ((by rw [hg];exact (below_size (by repeat (first | (with_reducible first | exact HB.out | apply below_alloc | apply pw_below_drewN | apply below_drew1) | exact HB.out))) : w.heap.size ≤ gb324));have n3_:=Aside0.mk ((by rw [hg];exact (below_size (by repeat (first | (with_reducible first | exact HB.out | apply below_alloc | apply pw_below_drewN | apply below_drew1) | exact HB.out))) : w.heap.size ≤ gb324));clear HB;have HB:=n0_;have BK324:=n1_;have GW324:=n2_;have GE324:=n3_;clear n0_ n1_ n2_ n3_;clear hb hbox hg) | ((with_reducible refine gate_dst (N:=6) rfl ?_);(try (refine gate_guard (by rfl) ?_;dsimp only));refine box_event ?hg (N:=6) ?hd (cs:=#[.slice A2_0 l2_0.length c2_0,.bool a2_1]) (t:=31) ?hr ?_;(case hd => rfl);(case hg => rfl);(case hr => first | (go_simp;done) | (go_simp;rfl));intro gb325 hg w7 hbox hb;have n0_:=Aside0.mk (blk_below (g:=gb324) (o := .cells #[.slice A0_0 l0_0.length c0_0,.slice A0_1 l0_1.length c0_1,.int .i64 a0_2,.int .i64 a0_3,.slice A0_4 l0_4.length c0_4] 26 (0,0)) (by (with_reducible repeat (first | refine blk_drewN ?_ _ | refine blk_drew ?_ | refine blk_alloc ?_ _));exact BK324.out) hb);have n1_:=Aside0.mk (below_step (by repeat (first | (with_reducible first | exact HB.out | apply below_alloc | apply pw_below_drewN | apply below_drew1 | refine below_set ?_ GE324.out) | exact HB.out)) hb);have n2_:=Aside0.mk (hbox);have n3_:=Aside0.mk ((by rw [hg];exact (below_size (by repeat (first | (with_reducible first | exact HB.out | apply below_alloc | apply pw_below_drewN | apply below_drew1 | refine below_set ?_ GE324.out) | exact HB.out))) : w.heap.size ≤ gb325));have n4_:=Aside0.mk ((by rw [hg];exact (below_size (by repeat (first | (with_reducible first | exact HB.out | apply below_alloc | apply pw_below_drewN | apply below_drew1 | refine below_set ?_ GE324.out) | exact HB.out))) : w.heap.size ≤ gb325));have n5_:=Aside0.mk ((by rw [hg];exact Nat.ne_of_lt (blk_lt (g:=gb324) (o := .cells #[.slice A0_0 l0_0.length c0_0,.slice A0_1 l0_1.length c0_1,.int .i64 a0_2,.int .i64 a0_3,.slice A0_4 l0_4.length c0_4] 26 (0,0)) (by (with_reducible repeat (first | refine blk_drewN ?_ _ | refine blk_drew ?_ | refine blk_alloc ?_ _));exact BK324.out)) : gb324 ≠ gb325));have n6_:=Aside0.mk ((by rw [hg];exact Nat.ne_of_gt (blk_lt (g:=gb324) (o := .cells #[.slice A0_0 l0_0.length c0_0,.slice A0_1 l0_1.length c0_1,.int .i64 a0_2,.int .i64 a0_3,.slice A0_4 l0_4.length c0_4] 26 (0,0)) (by (with_reducible repeat (first | refine blk_drewN ?_ _ | refine blk_drew ?_ | refine blk_alloc ?_ _));exact BK324.out)) : gb325 ≠ gb324));clear BK324;clear HB;have BK324:=n0_;have HB:=n1_;have BK325:=n2_;have GW325:=n3_;have GE325:=n4_;have NB324_325:=n5_;have NB325_324:=n6_;clear n0_ n1_ n2_ n3_ n4_ n5_ n6_;clear hb hbox hg))
 (try simp only [Act.put,List.setIfInBounds_toArray,List.set_cons_zero,List.set_cons_succ])
 go_cut [33] (fun v33 wc => ∃ (kq : Nat) (x33_4 : Bool),v33 = .bool x33_4 ∧ Aside0 (regletlaw16_MachineAny.j0 kq l1 l3 x33_4 l0_0 l0_1 a0_2 a0_3 l0_4 l2_0 a2_1 = some r) ∧ Aside0 (kq ≤ k) ∧ Aside0 (wc.heap[gb324]? = some (.cells #[(.slice A0_0 l0_0.length c0_0),(.slice A0_1 l0_1.length c0_1),.int .i64 a0_2,.int .i64 a0_3,(.slice A0_4 l0_4.length c0_4)] 26 (0,0))) ∧ Aside0 (wc.heap[gb325]? = some (.cells #[(.slice A2_0 l2_0.length c2_0),.bool a2_1] 31 (0,0))) ∧ Aside0 (Below w.heap.size w wc))
 case first =>
  have H:=HC5.out
  clear HC5
  by_cases c8 : (wrap64 ((wrap64 ((l0_0.length : Int) + (l0_1.length : Int))) + (l0_4.length : Int))) > 30
  · rw [if_pos c8] at H
    have c8b0 : decide (30 < (wrap64 ((wrap64 ((l0_0.length : Int) + (l0_1.length : Int))) + (l0_4.length : Int)))) = true:=decide_eq_true c8
    clear c8
    (first | rw [c8b0] | (simp only [i64_w,i32_w];rw [c8b0]) | skip)
    have H' := Aside0.mk H
    clear H
    have hnb9:=NB324_325.out
    have hnc9:=NB325_324.out
    have hcz10_0 : w7.cell? ⟨gb324,0,none⟩ = some (.slice A0_0 l0_0.length c0_0) := (blk_cell BK324.out 0).trans rfl
    have hcz10_1 : w7.cell? ⟨gb324,1,none⟩ = some (.slice A0_1 l0_1.length c0_1) := (blk_cell BK324.out 1).trans rfl
    have hcz10_2 : w7.cell? ⟨gb324,2,none⟩ = some (.int .i64 a0_2) := (blk_cell BK324.out 2).trans rfl
    have hcz10_3 : w7.cell? ⟨gb324,3,none⟩ = some (.int .i64 a0_3) := (blk_cell BK324.out 3).trans rfl
    have hcz10_4 : w7.cell? ⟨gb324,4,none⟩ = some (.slice A0_4 l0_4.length c0_4) := (blk_cell BK324.out 4).trans rfl
    have hfz10_0:=blk_frozen BK324.out 0
    have hfz10_1:=blk_frozen BK324.out 1
    have hfz10_2:=blk_frozen BK324.out 2
    have hfz10_3:=blk_frozen BK324.out 3
    have hfz10_4:=blk_frozen BK324.out 4
    go_wp2
    go_meet
    case rel => exact ⟨_,(true),(by first | rfl | (simp;done) | (simp [*];done)),H',⟨by first | omega | exact Nat.le_refl _⟩,⟨by (with_reducible repeat (first | refine blk_drewN ?_ _ | refine blk_drew ?_ | refine blk_alloc ?_ _));exact BK324.out⟩,⟨by (with_reducible repeat (first | refine blk_drewN ?_ _ | refine blk_drew ?_ | refine blk_alloc ?_ _));exact BK325.out⟩,⟨by repeat (first | (with_reducible first | exact HB.out | apply below_alloc | apply pw_below_drewN | apply below_drew1 | refine below_set ?_ GE324.out | refine below_set ?_ GE325.out) | exact HB.out)⟩⟩
  · rw [if_neg c8] at H
    have c8b0 : decide (30 < (wrap64 ((wrap64 ((l0_0.length : Int) + (l0_1.length : Int))) + (l0_4.length : Int)))) = false:=decide_eq_false c8
    clear c8
    (first | rw [c8b0] | (simp only [i64_w,i32_w];rw [c8b0]) | skip)
    by_cases c11 : (l2_0.length : Int) > 30
    · rw [if_pos c11] at H
      have c11b0 : decide (30 < (l2_0.length : Int)) = true:=decide_eq_true c11
      have c11b1 : decide (30 < l2_0.length) = true:=decide_eq_true (by omega)
      clear c11
      have H' := Aside0.mk H
      clear H
      have hnb12:=NB324_325.out
      have hnc12:=NB325_324.out
      have hcz13_0 : w7.cell? ⟨gb324,0,none⟩ = some (.slice A0_0 l0_0.length c0_0) := (blk_cell BK324.out 0).trans rfl
      have hcz13_1 : w7.cell? ⟨gb324,1,none⟩ = some (.slice A0_1 l0_1.length c0_1) := (blk_cell BK324.out 1).trans rfl
      have hcz13_2 : w7.cell? ⟨gb324,2,none⟩ = some (.int .i64 a0_2) := (blk_cell BK324.out 2).trans rfl
      have hcz13_3 : w7.cell? ⟨gb324,3,none⟩ = some (.int .i64 a0_3) := (blk_cell BK324.out 3).trans rfl
      have hcz13_4 : w7.cell? ⟨gb324,4,none⟩ = some (.slice A0_4 l0_4.length c0_4) := (blk_cell BK324.out 4).trans rfl
      have hfz13_0:=blk_frozen BK324.out 0
      have hfz13_1:=blk_frozen BK324.out 1
      have hfz13_2:=blk_frozen BK324.out 2
      have hfz13_3:=blk_frozen BK324.out 3
      have hfz13_4:=blk_frozen BK324.out 4
      have hcz14_0 : w7.cell? ⟨gb325,0,none⟩ = some (.slice A2_0 l2_0.length c2_0) := (blk_cell BK325.out 0).trans rfl
      have hcz14_1 : w7.cell? ⟨gb325,1,none⟩ = some (.bool a2_1) := (blk_cell BK325.out 1).trans rfl
      have hfz14_0:=blk_frozen BK325.out 0
      have hfz14_1:=blk_frozen BK325.out 1
      go_wp2
      go_meet
      case rel => exact ⟨_,(true),(by first | rfl | (simp;done) | (simp [*];done)),H',⟨by first | omega | exact Nat.le_refl _⟩,⟨by (with_reducible repeat (first | refine blk_drewN ?_ _ | refine blk_drew ?_ | refine blk_alloc ?_ _));exact BK324.out⟩,⟨by (with_reducible repeat (first | refine blk_drewN ?_ _ | refine blk_drew ?_ | refine blk_alloc ?_ _));exact BK325.out⟩,⟨by repeat (first | (with_reducible first | exact HB.out | apply below_alloc | apply pw_below_drewN | apply below_drew1 | refine below_set ?_ GE324.out | refine below_set ?_ GE325.out) | exact HB.out)⟩⟩
    · rw [if_neg c11] at H
      have c11b0 : decide (30 < (l2_0.length : Int)) = false:=decide_eq_false c11
      have c11b1 : decide (30 < l2_0.length) = false:=decide_eq_false (by omega)
      clear c11
      have H' := Aside0.mk H
      clear H
      have hnb15:=NB324_325.out
      have hnc15:=NB325_324.out
      have hcz16_0 : w7.cell? ⟨gb324,0,none⟩ = some (.slice A0_0 l0_0.length c0_0) := (blk_cell BK324.out 0).trans rfl
      have hcz16_1 : w7.cell? ⟨gb324,1,none⟩ = some (.slice A0_1 l0_1.length c0_1) := (blk_cell BK324.out 1).trans rfl
      have hcz16_2 : w7.cell? ⟨gb324,2,none⟩ = some (.int .i64 a0_2) := (blk_cell BK324.out 2).trans rfl
      have hcz16_3 : w7.cell? ⟨gb324,3,none⟩ = some (.int .i64 a0_3) := (blk_cell BK324.out 3).trans rfl
      have hcz16_4 : w7.cell? ⟨gb324,4,none⟩ = some (.slice A0_4 l0_4.length c0_4) := (blk_cell BK324.out 4).trans rfl
      have hfz16_0:=blk_frozen BK324.out 0
      have hfz16_1:=blk_frozen BK324.out 1
      have hfz16_2:=blk_frozen BK324.out 2
      have hfz16_3:=blk_frozen BK324.out 3
      have hfz16_4:=blk_frozen BK324.out 4
      have hcz17_0 : w7.cell? ⟨gb325,0,none⟩ = some (.slice A2_0 l2_0.length c2_0) := (blk_cell BK325.out 0).trans rfl
      have hcz17_1 : w7.cell? ⟨gb325,1,none⟩ = some (.bool a2_1) := (blk_cell BK325.out 1).trans rfl
      have hfz17_0:=blk_frozen BK325.out 0
      have hfz17_1:=blk_frozen BK325.out 1
      go_wp2
      go_meet
      case rel => exact ⟨_,(decide ((l3.length : Int) > 10)),(by first | rfl | (simp;done) | (simp [*];done)),H',⟨by first | omega | exact Nat.le_refl _⟩,⟨by (with_reducible repeat (first | refine blk_drewN ?_ _ | refine blk_drew ?_ | refine blk_alloc ?_ _));exact BK324.out⟩,⟨by (with_reducible repeat (first | refine blk_drewN ?_ _ | refine blk_drew ?_ | refine blk_alloc ?_ _));exact BK325.out⟩,⟨by repeat (first | (with_reducible first | exact HB.out | apply below_alloc | apply pw_below_drewN | apply below_drew1 | refine below_set ?_ GE324.out | refine below_set ?_ GE325.out) | exact HB.out)⟩⟩
 case rest =>
  clear HC5
  (try clear c1);(try clear c2);(try clear p2);(try clear c3);(try clear p6);(try clear c8);(try clear c8b0);(try clear c9);(try clear c11);(try clear c11b0);(try clear c11b1);(try clear c12);(try clear c15);(try clear hcz10_0);(try clear hcz10_1);(try clear hcz10_2);(try clear hcz10_3);(try clear hcz10_4);(try clear hcz13_0);(try clear hcz13_1);(try clear hcz13_2);(try clear hcz13_3);(try clear hcz13_4)
  (try clear hcz14_0);(try clear hcz14_1);(try clear hcz16_0);(try clear hcz16_1);(try clear hcz16_2);(try clear hcz16_3);(try clear hcz16_4);(try clear hcz17_0);(try clear hcz17_1);(try clear hfz10_0);(try clear hfz10_1);(try clear hfz10_2);(try clear hfz10_3);(try clear hfz10_4);(try clear hfz13_0);(try clear hfz13_1);(try clear hfz13_2);(try clear hfz13_3);(try clear hfz13_4);(try clear hfz14_0);(try clear hfz14_1)
  (try clear hfz16_0);(try clear hfz16_1);(try clear hfz16_2);(try clear hfz16_3);(try clear hfz16_4);(try clear hfz17_0);(try clear hfz17_1)
  obtain ⟨kq,x33_4,rfl,HA,HJ4,BK324,BK325,HB⟩ := hcut
  cases kq with
  | zero => exact absurd HA.out (by simp [regletlaw16_MachineAny.j0])
  | succ kj4 =>
   have H:=HA.out
   clear HA
   simp only [regletlaw16_MachineAny.j0] at H
   by_cases c18 : x33_4 = true
   · subst c18
     have H1 : ((regletlaw16_awake.f kj4).bind fun t326 => (some t326)) = some r:=by rw [if_pos rfl] at H;exact H
     clear H
     have H:=H1
     clear H1
     replace H:=Option.bind_eq_some_iff.mp H
     obtain ⟨t326,A190,H⟩ := H
     replace H : (some t326) = some r:=H
     have A19:=Aside0.mk A190
     clear A190
     obtain rfl:=Option.some.inj H
     go_wp2_with (first | ((with_reducible refine gate_callee (f:=10) rfl ?_);refine goesL_ (some 34) rfl rfl Try.func10 (by kernel_rfl) rfl #[] rfl (by (try simp only [List.map_toArray,List.map_cons,List.map_nil]);first | done | rfl | (simp only [List.length_drop,List.length_take];rfl)) ?_;(with_reducible refine (regletlaw16_awake.calls kj4  t326 _ A19.out).mono ?_);rintro e w20 ⟨rfl,hb⟩;refine ⟨_,rfl,?_⟩;have n0_:=Aside0.mk (blk_below (g:=gb324) (o := .cells #[.slice A0_0 l0_0.length c0_0,.slice A0_1 l0_1.length c0_1,.int .i64 a0_2,.int .i64 a0_3,.slice A0_4 l0_4.length c0_4] 26 (0,0)) (by (with_reducible repeat (first | refine blk_drewN ?_ _ | refine blk_drew ?_ | refine blk_alloc ?_ _));exact BK324.out) hb);have n1_:=Aside0.mk (blk_below (g:=gb325) (o := .cells #[.slice A2_0 l2_0.length c2_0,.bool a2_1] 31 (0,0)) (by (with_reducible repeat (first | refine blk_drewN ?_ _ | refine blk_drew ?_ | refine blk_alloc ?_ _));exact BK325.out) hb);have n2_:=Aside0.mk (below_step (by repeat (first | (with_reducible first | exact HB.out | apply below_alloc | apply pw_below_drewN | apply below_drew1 | refine below_set ?_ GE324.out | refine below_set ?_ GE325.out) | exact HB.out)) hb);clear BK324;clear BK325;clear HB;have BK324:=n0_;have BK325:=n1_;have HB:=n2_;clear n0_ n1_ n2_;(try clear hb);(try clear hb2);(try clear hk);(try clear hi)))
     go_ret
     exact ⟨by first | rfl | (simp [errW_none,errW_some] <;> rfl) | (simp [*,errW_none,errW_some] <;> rfl),by repeat (first | (with_reducible first | exact HB.out | apply below_alloc | apply pw_below_drewN | apply below_drew1 | refine below_set ?_ GE324.out | refine below_set ?_ GE325.out) | exact HB.out)⟩
   · replace c18:=Bool.eq_false_iff.mpr c18
     subst c18
     have H1 : (regletlaw16_MachineAny.l0 kj4 l1 l3 0 l0_0 l0_1 a0_2 a0_3 l0_4 l2_0 a2_1) = some r:=by rw [if_neg (show ¬ (false = true) by decide)] at H;exact H
     clear H
     have H:=H1
     clear H1
     have H' := Aside0.mk H
     clear H
     go_wp2
     go_loopg [9] kj4 (fun kq v9 w' => ∃ (x9_2 : Int),v9 = .int .i64 x9_2 ∧ Aside0 (regletlaw16_MachineAny.l0 kq l1 l3 x9_2 l0_0 l0_1 a0_2 a0_3 l0_4 l2_0 a2_1 = some r) ∧ Aside0 (kq ≤ kj4) ∧ Aside0 (w'.heap[gb324]? = some (.cells #[(.slice A0_0 l0_0.length c0_0),(.slice A0_1 l0_1.length c0_1),.int .i64 a0_2,.int .i64 a0_3,(.slice A0_4 l0_4.length c0_4)] 26 (0,0))) ∧ Aside0 (w'.heap[gb325]? = some (.cells #[(.slice A2_0 l2_0.length c2_0),.bool a2_1] 31 (0,0))) ∧ Aside0 (Below w.heap.size w w'))
     case atStart => exact ⟨(0),(by first | rfl | (simp;done) | (simp [*];done)),H',⟨Nat.le_refl _⟩,⟨by (with_reducible repeat (first | refine blk_drewN ?_ _ | refine blk_drew ?_ | refine blk_alloc ?_ _));exact BK324.out⟩,⟨by (with_reducible repeat (first | refine blk_drewN ?_ _ | refine blk_drew ?_ | refine blk_alloc ?_ _));exact BK325.out⟩,⟨by repeat (first | (with_reducible first | exact HB.out | apply below_alloc | apply pw_below_drewN | apply below_drew1 | refine below_set ?_ GE324.out | refine below_set ?_ GE325.out) | exact HB.out)⟩⟩
     case round =>
      clear H'
      (try clear c1);(try clear c2);(try clear p2);(try clear c3);(try clear p6);(try clear c8);(try clear c8b0);(try clear c9);(try clear c10);(try clear c11);(try clear c11b0);(try clear c11b1);(try clear c12);(try clear c15);(try clear c18);(try clear hcz10_0);(try clear hcz10_1);(try clear hcz10_2);(try clear hcz10_3);(try clear hcz10_4);(try clear hcz13_0);(try clear hcz13_1);(try clear hcz13_2);(try clear hcz13_3)
      (try clear hcz13_4);(try clear hcz14_0);(try clear hcz14_1);(try clear hcz16_0);(try clear hcz16_1);(try clear hcz16_2);(try clear hcz16_3);(try clear hcz16_4);(try clear hcz17_0);(try clear hcz17_1);(try clear hfz10_0);(try clear hfz10_1);(try clear hfz10_2);(try clear hfz10_3);(try clear hfz10_4);(try clear hfz13_0);(try clear hfz13_1);(try clear hfz13_2);(try clear hfz13_3);(try clear hfz13_4);(try clear hfz14_0)
      (try clear hfz14_1);(try clear hfz16_0);(try clear hfz16_1);(try clear hfz16_2);(try clear hfz16_3);(try clear hfz16_4);(try clear hfz17_0);(try clear hfz17_1);(try clear p2);(try clear p6)
      obtain ⟨x9_2,rfl,HA,HK2,BK324,BK325,HB⟩ := hrel
      cases gk with
      | zero => exact absurd HA.out (by simp [regletlaw16_MachineAny.l0])
      | succ k2 =>
       have H:=HA.out
       clear HA
       simp only [regletlaw16_MachineAny.l0] at H
       by_cases c21 : x9_2 < (l0_4.length : Int)
       · rw [if_pos c21] at H
         have c21b0 : decide (x9_2 < (l0_4.length : Int)) = true:=decide_eq_true c21
         clear c21
         by_cases c22 : 0 ≤ x9_2
         rotate_left
         · rw [if_neg c22] at H
           exact absurd H (by simp)
         rw [if_pos c22] at H
         have c22b0 : decide (0 ≤ x9_2) = true:=decide_eq_true c22
         clear c22
         by_cases c23 : (((rd_T35 l0_4 x9_2).f1).length : Int) > 10
         · rw [if_pos c23] at H
           have c23b0 : decide (10 < (((rd_T35 l0_4 x9_2).f1).length : Int)) = true:=decide_eq_true c23
           have c23b1 : decide (10 < ((rd_T35 l0_4 x9_2).f1).length) = true:=decide_eq_true (by omega)
           clear c23
           replace H:=Option.bind_eq_some_iff.mp H
           obtain ⟨t328,A240,H⟩ := H
           replace H : (some t328) = some r:=H
           have A24:=Aside0.mk A240
           clear A240
           obtain rfl:=Option.some.inj H
           have hnb25:=NB324_325.out
           have hnc25:=NB325_324.out
           have hcz26_0 : wr.cell? ⟨gb324,0,none⟩ = some (.slice A0_0 l0_0.length c0_0) := (blk_cell BK324.out 0).trans rfl
           have hcz26_1 : wr.cell? ⟨gb324,1,none⟩ = some (.slice A0_1 l0_1.length c0_1) := (blk_cell BK324.out 1).trans rfl
           have hcz26_2 : wr.cell? ⟨gb324,2,none⟩ = some (.int .i64 a0_2) := (blk_cell BK324.out 2).trans rfl
           have hcz26_3 : wr.cell? ⟨gb324,3,none⟩ = some (.int .i64 a0_3) := (blk_cell BK324.out 3).trans rfl
           have hcz26_4 : wr.cell? ⟨gb324,4,none⟩ = some (.slice A0_4 l0_4.length c0_4) := (blk_cell BK324.out 4).trans rfl
           have hfz26_0:=blk_frozen BK324.out 0
           have hfz26_1:=blk_frozen BK324.out 1
           have hfz26_2:=blk_frozen BK324.out 2
           have hfz26_3:=blk_frozen BK324.out 3
           have hfz26_4:=blk_frozen BK324.out 4
           have p327 : 0 ≤ (x9_2 : Int) := of_decide_eq_true (by first | (with_reducible assumption) | assumption)
           have q327 : x9_2 < (l0_4.length : Int) := of_decide_eq_true (by first | (with_reducible assumption) | assumption)
           obtain ⟨ad327,A327_1,c327_1,e327,hx327_0,hx327_1,hl327_1,hi327_1⟩ := at_T35 HR0_4.out x9_2 p327 q327
           cases e327
           replace hx327_0:=(HB.out.cell (World.block_lt_of_cell? w _ hx327_0)).trans hx327_0
           replace hx327_1:=(HB.out.cell (World.block_lt_of_cell? w _ hx327_1)).trans hx327_1
           have HR327_1:=Aside0.mk hi327_1
           have HC327_1:=Aside0.mk hl327_1
           clear hi327_1 hl327_1
           replace p327:=eq_true p327
           replace q327:=eq_true q327
           go_wp2_with (first | ((with_reducible refine gate_callee (f:=10) rfl ?_);refine goesL_ (some 50) rfl rfl Try.func10 (by kernel_rfl) rfl #[] rfl (by (try simp only [List.map_toArray,List.map_cons,List.map_nil]);first | done | rfl | (simp only [List.length_drop,List.length_take];rfl)) ?_;(with_reducible refine (regletlaw16_awake.calls k2  t328 _ A24.out).mono ?_);rintro e w27 ⟨rfl,hb⟩;refine ⟨_,rfl,?_⟩;have n0_:=Aside0.mk (blk_below (g:=gb324) (o := .cells #[.slice A0_0 l0_0.length c0_0,.slice A0_1 l0_1.length c0_1,.int .i64 a0_2,.int .i64 a0_3,.slice (some ad327) l0_4.length c0_4] 26 (0,0)) (by (with_reducible repeat (first | refine blk_drewN ?_ _ | refine blk_drew ?_ | refine blk_alloc ?_ _));exact BK324.out) hb);have n1_:=Aside0.mk (blk_below (g:=gb325) (o := .cells #[.slice A2_0 l2_0.length c2_0,.bool a2_1] 31 (0,0)) (by (with_reducible repeat (first | refine blk_drewN ?_ _ | refine blk_drew ?_ | refine blk_alloc ?_ _));exact BK325.out) hb);have n2_:=Aside0.mk (below_step (by repeat (first | (with_reducible first | exact HB.out | apply below_alloc | apply pw_below_drewN | apply below_drew1 | refine below_set ?_ GE324.out | refine below_set ?_ GE325.out) | exact HB.out)) hb);clear BK324;clear BK325;clear HB;have BK324:=n0_;have BK325:=n1_;have HB:=n2_;clear n0_ n1_ n2_;(try clear hb);(try clear hb2);(try clear hk);(try clear hi)))
           go_ret
           exact ⟨by first | rfl | (simp [errW_none,errW_some] <;> rfl) | (simp [*,errW_none,errW_some] <;> rfl),by repeat (first | (with_reducible first | exact HB.out | apply below_alloc | apply pw_below_drewN | apply below_drew1 | refine below_set ?_ GE324.out | refine below_set ?_ GE325.out) | exact HB.out)⟩
         · rw [if_neg c23] at H
           have c23b0 : decide (10 < (((rd_T35 l0_4 x9_2).f1).length : Int)) = false:=decide_eq_false c23
           have c23b1 : decide (10 < ((rd_T35 l0_4 x9_2).f1).length) = false:=decide_eq_false (by omega)
           clear c23
           have H' := Aside0.mk H
           clear H
           have hnb28:=NB324_325.out
           have hnc28:=NB325_324.out
           have hcz29_0 : wr.cell? ⟨gb324,0,none⟩ = some (.slice A0_0 l0_0.length c0_0) := (blk_cell BK324.out 0).trans rfl
           have hcz29_1 : wr.cell? ⟨gb324,1,none⟩ = some (.slice A0_1 l0_1.length c0_1) := (blk_cell BK324.out 1).trans rfl
           have hcz29_2 : wr.cell? ⟨gb324,2,none⟩ = some (.int .i64 a0_2) := (blk_cell BK324.out 2).trans rfl
           have hcz29_3 : wr.cell? ⟨gb324,3,none⟩ = some (.int .i64 a0_3) := (blk_cell BK324.out 3).trans rfl
           have hcz29_4 : wr.cell? ⟨gb324,4,none⟩ = some (.slice A0_4 l0_4.length c0_4) := (blk_cell BK324.out 4).trans rfl
           have hfz29_0:=blk_frozen BK324.out 0
           have hfz29_1:=blk_frozen BK324.out 1
           have hfz29_2:=blk_frozen BK324.out 2
           have hfz29_3:=blk_frozen BK324.out 3
           have hfz29_4:=blk_frozen BK324.out 4
           have p327 : 0 ≤ (x9_2 : Int) := of_decide_eq_true (by first | (with_reducible assumption) | assumption)
           have q327 : x9_2 < (l0_4.length : Int) := of_decide_eq_true (by first | (with_reducible assumption) | assumption)
           obtain ⟨ad327,A327_1,c327_1,e327,hx327_0,hx327_1,hl327_1,hi327_1⟩ := at_T35 HR0_4.out x9_2 p327 q327
           cases e327
           replace hx327_0:=(HB.out.cell (World.block_lt_of_cell? w _ hx327_0)).trans hx327_0
           replace hx327_1:=(HB.out.cell (World.block_lt_of_cell? w _ hx327_1)).trans hx327_1
           have HR327_1:=Aside0.mk hi327_1
           have HC327_1:=Aside0.mk hl327_1
           clear hi327_1 hl327_1
           replace p327:=eq_true p327
           replace q327:=eq_true q327
           go_wp2
           go_roundg k2
           case measure => have:=HJ4.out;have:=HK2.out;omega
           case rel => exact ⟨(wrap64 (x9_2 + 1)),(by first | rfl | (simp;done) | (simp [*];done)),H',⟨by have:=HJ4.out;have:=HK2.out;omega⟩,⟨by (with_reducible repeat (first | refine blk_drewN ?_ _ | refine blk_drew ?_ | refine blk_alloc ?_ _));exact BK324.out⟩,⟨by (with_reducible repeat (first | refine blk_drewN ?_ _ | refine blk_drew ?_ | refine blk_alloc ?_ _));exact BK325.out⟩,⟨by repeat (first | (with_reducible first | exact HB.out | apply below_alloc | apply pw_below_drewN | apply below_drew1 | refine below_set ?_ GE324.out | refine below_set ?_ GE325.out) | exact HB.out)⟩⟩
       · rw [if_neg c21] at H
         have c21b0 : decide (x9_2 < (l0_4.length : Int)) = false:=decide_eq_false c21
         clear c21
         by_cases c30 : (l3.length : Int) > 0
         · rw [if_pos c30] at H
           have c30b0 : decide (0 < (l3.length : Int)) = true:=decide_eq_true c30
           have c30b1 : decide (0 < l3.length) = true:=decide_eq_true (by omega)
           clear c30
           by_cases c31 : 0 < (l3.length : Int)
           rotate_left
           · rw [if_neg c31] at H
             exact absurd H (by simp)
           rw [if_pos c31] at H
           have c31b0 : decide (0 < (l3.length : Int)) = true:=decide_eq_true c31
           have c31b1 : decide (0 < l3.length) = true:=decide_eq_true (by omega)
           clear c31
           replace H:=Option.bind_eq_some_iff.mp H
           obtain ⟨t330,A320,H⟩ := H
           replace H : (if t330 = true then ((regletlaw16_fed.f k2 l0_0 l0_1 a0_2 a0_3 l0_4 l1 l2_0 a2_1 (rd l3 0)).bind fun t331 => (if t331 = true then ((regletlaw16_ran.f k2 l0_0 l0_1 a0_2 a0_3 l0_4 l1 l3).bind fun t332 => (some t332)) else (some false))) else (some false)) = some r:=H
           have A32:=Aside0.mk A320
           clear A320
           by_cases c33 : t330 = true
           · subst c33
             have H1 : ((regletlaw16_fed.f k2 l0_0 l0_1 a0_2 a0_3 l0_4 l1 l2_0 a2_1 (rd l3 0)).bind fun t331 => (if t331 = true then ((regletlaw16_ran.f k2 l0_0 l0_1 a0_2 a0_3 l0_4 l1 l3).bind fun t332 => (some t332)) else (some false))) = some r:=by rw [if_pos rfl] at H;exact H
             clear H
             have H:=H1
             clear H1
             replace H:=Option.bind_eq_some_iff.mp H
             obtain ⟨t331,A340,H⟩ := H
             replace H : (if t331 = true then ((regletlaw16_ran.f k2 l0_0 l0_1 a0_2 a0_3 l0_4 l1 l3).bind fun t332 => (some t332)) else (some false)) = some r:=H
             have A34:=Aside0.mk A340
             clear A340
             by_cases c35 : t331 = true
             · subst c35
               have H1 : ((regletlaw16_ran.f k2 l0_0 l0_1 a0_2 a0_3 l0_4 l1 l3).bind fun t332 => (some t332)) = some r:=by rw [if_pos rfl] at H;exact H
               clear H
               have H:=H1
               clear H1
               replace H:=Option.bind_eq_some_iff.mp H
               obtain ⟨t332,A360,H⟩ := H
               replace H : (some t332) = some r:=H
               have A36:=Aside0.mk A360
               clear A360
               obtain rfl:=Option.some.inj H
               have hnb37:=NB324_325.out
               have hnc37:=NB325_324.out
               have hcz38_0 : wr.cell? ⟨gb324,0,none⟩ = some (.slice A0_0 l0_0.length c0_0) := (blk_cell BK324.out 0).trans rfl
               have hcz38_1 : wr.cell? ⟨gb324,1,none⟩ = some (.slice A0_1 l0_1.length c0_1) := (blk_cell BK324.out 1).trans rfl
               have hcz38_2 : wr.cell? ⟨gb324,2,none⟩ = some (.int .i64 a0_2) := (blk_cell BK324.out 2).trans rfl
               have hcz38_3 : wr.cell? ⟨gb324,3,none⟩ = some (.int .i64 a0_3) := (blk_cell BK324.out 3).trans rfl
               have hcz38_4 : wr.cell? ⟨gb324,4,none⟩ = some (.slice A0_4 l0_4.length c0_4) := (blk_cell BK324.out 4).trans rfl
               have hfz38_0:=blk_frozen BK324.out 0
               have hfz38_1:=blk_frozen BK324.out 1
               have hfz38_2:=blk_frozen BK324.out 2
               have hfz38_3:=blk_frozen BK324.out 3
               have hfz38_4:=blk_frozen BK324.out 4
               have p329 : 0 ≤ (0 : Int) := (by omega)
               have q329 : 0 < (l3.length : Int) := of_decide_eq_true (by first | (with_reducible assumption) | assumption)
               obtain ⟨ad329,e329,hx329_0⟩ := Kd.at_int HR3.out 0 p329 q329
               cases e329
               have qi329 : (0 < l3.length) = True:=eq_true (by omega)
               (try rw [show ((0 : Int)).toNat = 0 from rfl] at hx329_0)
               (try rw [Addr.add_zero'] at hx329_0)
               replace hx329_0:=(HB.out.cell (World.block_lt_of_cell? w _ hx329_0)).trans hx329_0
               replace p329:=eq_true p329
               replace q329:=eq_true q329
               go_wp2_with (first | ((with_reducible refine gate_callee (f:=10) rfl ?_);refine goesL_ (some 57) rfl rfl Try.func10 (by kernel_rfl) rfl #[] rfl (by (try simp only [List.map_toArray,List.map_cons,List.map_nil]);first | done | rfl | (simp only [List.length_drop,List.length_take];rfl)) ?_;(with_reducible refine (regletlaw16_awake.calls k2  true _ A32.out).mono ?_);rintro e w39 ⟨rfl,hb⟩;refine ⟨_,rfl,?_⟩;have n0_:=Aside0.mk (blk_below (g:=gb324) (o := .cells #[.slice A0_0 l0_0.length c0_0,.slice A0_1 l0_1.length c0_1,.int .i64 a0_2,.int .i64 a0_3,.slice A0_4 l0_4.length c0_4] 26 (0,0)) (by (with_reducible repeat (first | refine blk_drewN ?_ _ | refine blk_drew ?_ | refine blk_alloc ?_ _));exact BK324.out) hb);have n1_:=Aside0.mk (blk_below (g:=gb325) (o := .cells #[.slice A2_0 l2_0.length c2_0,.bool a2_1] 31 (0,0)) (by (with_reducible repeat (first | refine blk_drewN ?_ _ | refine blk_drew ?_ | refine blk_alloc ?_ _));exact BK325.out) hb);have n2_:=Aside0.mk (below_step (by repeat (first | (with_reducible first | exact HB.out | apply below_alloc | apply pw_below_drewN | apply below_drew1 | refine below_set ?_ GE324.out | refine below_set ?_ GE325.out) | exact HB.out)) hb);clear BK324;clear BK325;clear HB;have BK324:=n0_;have BK325:=n1_;have HB:=n2_;clear n0_ n1_ n2_;(try clear hb);(try clear hb2);(try clear hk);(try clear hi);have hcz40_0 : w39.cell? ⟨gb324,0,none⟩ = some (.slice A0_0 l0_0.length c0_0) := (blk_cell BK324.out 0).trans rfl;have hcz40_1 : w39.cell? ⟨gb324,1,none⟩ = some (.slice A0_1 l0_1.length c0_1) := (blk_cell BK324.out 1).trans rfl;have hcz40_2 : w39.cell? ⟨gb324,2,none⟩ = some (.int .i64 a0_2) := (blk_cell BK324.out 2).trans rfl;have hcz40_3 : w39.cell? ⟨gb324,3,none⟩ = some (.int .i64 a0_3) := (blk_cell BK324.out 3).trans rfl;have hcz40_4 : w39.cell? ⟨gb324,4,none⟩ = some (.slice A0_4 l0_4.length c0_4) := (blk_cell BK324.out 4).trans rfl;have hfz40_0:=blk_frozen BK324.out 0;have hfz40_1:=blk_frozen BK324.out 1;have hfz40_2:=blk_frozen BK324.out 2;have hfz40_3:=blk_frozen BK324.out 3;have hfz40_4:=blk_frozen BK324.out 4;have hcz41_0 : w39.cell? ⟨gb325,0,none⟩ = some (.slice A2_0 l2_0.length c2_0) := (blk_cell BK325.out 0).trans rfl;have hcz41_1 : w39.cell? ⟨gb325,1,none⟩ = some (.bool a2_1) := (blk_cell BK325.out 1).trans rfl;have hfz41_0:=blk_frozen BK325.out 0;have hfz41_1:=blk_frozen BK325.out 1) | (go_at_call 11;(with_reducible refine (regletlaw16_fed.calls k2 _ _ l0_0 _ _ l0_1 a0_2 a0_3 _ _ l0_4 _ _ l1 _ _ l2_0 a2_1 (rd l3 0) true _ ?side1 ?side2 ?side3 ?side4 ?side5 ?side6 ?side7 ?side8 ?side9 ?side10 A34.out).mono ?_);(case side1 => repeat (first | exact (Kd.C_below HR0_0.out HB.out) | (with_reducible refine Kd.C_alloc ?_ _) | (with_reducible refine Kd.C_drewN ?_ _) | (with_reducible refine Kd.C_drew ?_)));(case side2 => exact HC0_0.out);(case side3 => repeat (first | exact (Kd.C_below HR0_1.out HB.out) | (with_reducible refine Kd.C_alloc ?_ _) | (with_reducible refine Kd.C_drewN ?_ _) | (with_reducible refine Kd.C_drew ?_)));(case side4 => exact HC0_1.out);(case side5 => repeat (first | exact (Kd.C_below HR0_4.out HB.out) | (with_reducible refine Kd.C_alloc ?_ _) | (with_reducible refine Kd.C_drewN ?_ _) | (with_reducible refine Kd.C_drew ?_)));(case side6 => exact HC0_4.out);(case side7 => repeat (first | exact (Kd.C_below HR1.out HB.out) | (with_reducible refine Kd.C_alloc ?_ _) | (with_reducible refine Kd.C_drewN ?_ _) | (with_reducible refine Kd.C_drew ?_)));(case side8 => exact HC1.out);(case side9 => repeat (first | exact (Kd.C_below HR2_0.out HB.out) | (with_reducible refine Kd.C_alloc ?_ _) | (with_reducible refine Kd.C_drewN ?_ _) | (with_reducible refine Kd.C_drew ?_)));(case side10 => exact HC2_0.out);rintro e w42 ⟨rfl,hb⟩;have n0_:=Aside0.mk (blk_below (g:=gb324) (o := .cells #[.slice A0_0 l0_0.length c0_0,.slice A0_1 l0_1.length c0_1,.int .i64 a0_2,.int .i64 a0_3,.slice A0_4 l0_4.length c0_4] 26 (0,0)) (by (with_reducible repeat (first | refine blk_drewN ?_ _ | refine blk_drew ?_ | refine blk_alloc ?_ _));exact BK324.out) hb);have n1_:=Aside0.mk (blk_below (g:=gb325) (o := .cells #[.slice A2_0 l2_0.length c2_0,.bool a2_1] 31 (0,0)) (by (with_reducible repeat (first | refine blk_drewN ?_ _ | refine blk_drew ?_ | refine blk_alloc ?_ _));exact BK325.out) hb);have n2_:=Aside0.mk (below_step (by repeat (first | (with_reducible first | exact HB.out | apply below_alloc | apply pw_below_drewN | apply below_drew1 | refine below_set ?_ GE324.out | refine below_set ?_ GE325.out) | exact HB.out)) hb);clear BK324;clear BK325;clear HB;have BK324:=n0_;have BK325:=n1_;have HB:=n2_;clear n0_ n1_ n2_;(try clear hb);(try clear hb2);(try clear hk);(try clear hi);have hcz43_0 : w42.cell? ⟨gb324,0,none⟩ = some (.slice A0_0 l0_0.length c0_0) := (blk_cell BK324.out 0).trans rfl;have hcz43_1 : w42.cell? ⟨gb324,1,none⟩ = some (.slice A0_1 l0_1.length c0_1) := (blk_cell BK324.out 1).trans rfl;have hcz43_2 : w42.cell? ⟨gb324,2,none⟩ = some (.int .i64 a0_2) := (blk_cell BK324.out 2).trans rfl;have hcz43_3 : w42.cell? ⟨gb324,3,none⟩ = some (.int .i64 a0_3) := (blk_cell BK324.out 3).trans rfl;have hcz43_4 : w42.cell? ⟨gb324,4,none⟩ = some (.slice A0_4 l0_4.length c0_4) := (blk_cell BK324.out 4).trans rfl;have hfz43_0:=blk_frozen BK324.out 0;have hfz43_1:=blk_frozen BK324.out 1;have hfz43_2:=blk_frozen BK324.out 2;have hfz43_3:=blk_frozen BK324.out 3;have hfz43_4:=blk_frozen BK324.out 4) | (go_at_call 12;(with_reducible refine (regletlaw16_ran.calls k2 _ _ l0_0 _ _ l0_1 a0_2 a0_3 _ _ l0_4 _ _ l1 _ _ l3 t332 _ ?side1 ?side2 ?side3 ?side4 ?side5 ?side6 ?side7 ?side8 ?side9 ?side10 A36.out).mono ?_);(case side1 => repeat (first | exact (Kd.C_below HR0_0.out HB.out) | (with_reducible refine Kd.C_alloc ?_ _) | (with_reducible refine Kd.C_drewN ?_ _) | (with_reducible refine Kd.C_drew ?_)));(case side2 => exact HC0_0.out);(case side3 => repeat (first | exact (Kd.C_below HR0_1.out HB.out) | (with_reducible refine Kd.C_alloc ?_ _) | (with_reducible refine Kd.C_drewN ?_ _) | (with_reducible refine Kd.C_drew ?_)));(case side4 => exact HC0_1.out);(case side5 => repeat (first | exact (Kd.C_below HR0_4.out HB.out) | (with_reducible refine Kd.C_alloc ?_ _) | (with_reducible refine Kd.C_drewN ?_ _) | (with_reducible refine Kd.C_drew ?_)));(case side6 => exact HC0_4.out);(case side7 => repeat (first | exact (Kd.C_below HR1.out HB.out) | (with_reducible refine Kd.C_alloc ?_ _) | (with_reducible refine Kd.C_drewN ?_ _) | (with_reducible refine Kd.C_drew ?_)));(case side8 => exact HC1.out);(case side9 => repeat (first | exact (Kd.C_below HR3.out HB.out) | (with_reducible refine Kd.C_alloc ?_ _) | (with_reducible refine Kd.C_drewN ?_ _) | (with_reducible refine Kd.C_drew ?_)));(case side10 => exact HC3.out);rintro e w44 ⟨rfl,hb⟩;have n0_:=Aside0.mk (blk_below (g:=gb324) (o := .cells #[.slice A0_0 l0_0.length c0_0,.slice A0_1 l0_1.length c0_1,.int .i64 a0_2,.int .i64 a0_3,.slice A0_4 l0_4.length c0_4] 26 (0,0)) (by (with_reducible repeat (first | refine blk_drewN ?_ _ | refine blk_drew ?_ | refine blk_alloc ?_ _));exact BK324.out) hb);have n1_:=Aside0.mk (blk_below (g:=gb325) (o := .cells #[.slice A2_0 l2_0.length c2_0,.bool a2_1] 31 (0,0)) (by (with_reducible repeat (first | refine blk_drewN ?_ _ | refine blk_drew ?_ | refine blk_alloc ?_ _));exact BK325.out) hb);have n2_:=Aside0.mk (below_step (by repeat (first | (with_reducible first | exact HB.out | apply below_alloc | apply pw_below_drewN | apply below_drew1 | refine below_set ?_ GE324.out | refine below_set ?_ GE325.out) | exact HB.out)) hb);clear BK324;clear BK325;clear HB;have BK324:=n0_;have BK325:=n1_;have HB:=n2_;clear n0_ n1_ n2_;(try clear hb);(try clear hb2);(try clear hk);(try clear hi)))
               go_ret
               exact ⟨by first | rfl | (simp [errW_none,errW_some] <;> rfl) | (simp [*,errW_none,errW_some] <;> rfl),by repeat (first | (with_reducible first | exact HB.out | apply below_alloc | apply pw_below_drewN | apply below_drew1 | refine below_set ?_ GE324.out | refine below_set ?_ GE325.out) | exact HB.out)⟩
             · replace c35:=Bool.eq_false_iff.mpr c35
               subst c35
               have H1 : (some false) = some r:=by rw [if_neg (show ¬ (false = true) by decide)] at H;exact H
               clear H
               have H:=H1
               clear H1
               obtain rfl:=Option.some.inj H
               have hnb45:=NB324_325.out
               have hnc45:=NB325_324.out
               have hcz46_0 : wr.cell? ⟨gb324,0,none⟩ = some (.slice A0_0 l0_0.length c0_0) := (blk_cell BK324.out 0).trans rfl
               have hcz46_1 : wr.cell? ⟨gb324,1,none⟩ = some (.slice A0_1 l0_1.length c0_1) := (blk_cell BK324.out 1).trans rfl
               have hcz46_2 : wr.cell? ⟨gb324,2,none⟩ = some (.int .i64 a0_2) := (blk_cell BK324.out 2).trans rfl
               have hcz46_3 : wr.cell? ⟨gb324,3,none⟩ = some (.int .i64 a0_3) := (blk_cell BK324.out 3).trans rfl
               have hcz46_4 : wr.cell? ⟨gb324,4,none⟩ = some (.slice A0_4 l0_4.length c0_4) := (blk_cell BK324.out 4).trans rfl
               have hfz46_0:=blk_frozen BK324.out 0
               have hfz46_1:=blk_frozen BK324.out 1
               have hfz46_2:=blk_frozen BK324.out 2
               have hfz46_3:=blk_frozen BK324.out 3
               have hfz46_4:=blk_frozen BK324.out 4
               have p329 : 0 ≤ (0 : Int) := (by omega)
               have q329 : 0 < (l3.length : Int) := of_decide_eq_true (by first | (with_reducible assumption) | assumption)
               obtain ⟨ad329,e329,hx329_0⟩ := Kd.at_int HR3.out 0 p329 q329
               cases e329
               have qi329 : (0 < l3.length) = True:=eq_true (by omega)
               (try rw [show ((0 : Int)).toNat = 0 from rfl] at hx329_0)
               (try rw [Addr.add_zero'] at hx329_0)
               replace hx329_0:=(HB.out.cell (World.block_lt_of_cell? w _ hx329_0)).trans hx329_0
               replace p329:=eq_true p329
               replace q329:=eq_true q329
               go_wp2_with (first | ((with_reducible refine gate_callee (f:=10) rfl ?_);refine goesL_ (some 57) rfl rfl Try.func10 (by kernel_rfl) rfl #[] rfl (by (try simp only [List.map_toArray,List.map_cons,List.map_nil]);first | done | rfl | (simp only [List.length_drop,List.length_take];rfl)) ?_;(with_reducible refine (regletlaw16_awake.calls k2  true _ A32.out).mono ?_);rintro e w47 ⟨rfl,hb⟩;refine ⟨_,rfl,?_⟩;have n0_:=Aside0.mk (blk_below (g:=gb324) (o := .cells #[.slice A0_0 l0_0.length c0_0,.slice A0_1 l0_1.length c0_1,.int .i64 a0_2,.int .i64 a0_3,.slice A0_4 l0_4.length c0_4] 26 (0,0)) (by (with_reducible repeat (first | refine blk_drewN ?_ _ | refine blk_drew ?_ | refine blk_alloc ?_ _));exact BK324.out) hb);have n1_:=Aside0.mk (blk_below (g:=gb325) (o := .cells #[.slice A2_0 l2_0.length c2_0,.bool a2_1] 31 (0,0)) (by (with_reducible repeat (first | refine blk_drewN ?_ _ | refine blk_drew ?_ | refine blk_alloc ?_ _));exact BK325.out) hb);have n2_:=Aside0.mk (below_step (by repeat (first | (with_reducible first | exact HB.out | apply below_alloc | apply pw_below_drewN | apply below_drew1 | refine below_set ?_ GE324.out | refine below_set ?_ GE325.out) | exact HB.out)) hb);clear BK324;clear BK325;clear HB;have BK324:=n0_;have BK325:=n1_;have HB:=n2_;clear n0_ n1_ n2_;(try clear hb);(try clear hb2);(try clear hk);(try clear hi);have hcz48_0 : w47.cell? ⟨gb324,0,none⟩ = some (.slice A0_0 l0_0.length c0_0) := (blk_cell BK324.out 0).trans rfl;have hcz48_1 : w47.cell? ⟨gb324,1,none⟩ = some (.slice A0_1 l0_1.length c0_1) := (blk_cell BK324.out 1).trans rfl;have hcz48_2 : w47.cell? ⟨gb324,2,none⟩ = some (.int .i64 a0_2) := (blk_cell BK324.out 2).trans rfl;have hcz48_3 : w47.cell? ⟨gb324,3,none⟩ = some (.int .i64 a0_3) := (blk_cell BK324.out 3).trans rfl;have hcz48_4 : w47.cell? ⟨gb324,4,none⟩ = some (.slice A0_4 l0_4.length c0_4) := (blk_cell BK324.out 4).trans rfl;have hfz48_0:=blk_frozen BK324.out 0;have hfz48_1:=blk_frozen BK324.out 1;have hfz48_2:=blk_frozen BK324.out 2;have hfz48_3:=blk_frozen BK324.out 3;have hfz48_4:=blk_frozen BK324.out 4;have hcz49_0 : w47.cell? ⟨gb325,0,none⟩ = some (.slice A2_0 l2_0.length c2_0) := (blk_cell BK325.out 0).trans rfl;have hcz49_1 : w47.cell? ⟨gb325,1,none⟩ = some (.bool a2_1) := (blk_cell BK325.out 1).trans rfl;have hfz49_0:=blk_frozen BK325.out 0;have hfz49_1:=blk_frozen BK325.out 1) | (go_at_call 11;(with_reducible refine (regletlaw16_fed.calls k2 _ _ l0_0 _ _ l0_1 a0_2 a0_3 _ _ l0_4 _ _ l1 _ _ l2_0 a2_1 (rd l3 0) false _ ?side1 ?side2 ?side3 ?side4 ?side5 ?side6 ?side7 ?side8 ?side9 ?side10 A34.out).mono ?_);(case side1 => repeat (first | exact (Kd.C_below HR0_0.out HB.out) | (with_reducible refine Kd.C_alloc ?_ _) | (with_reducible refine Kd.C_drewN ?_ _) | (with_reducible refine Kd.C_drew ?_)));(case side2 => exact HC0_0.out);(case side3 => repeat (first | exact (Kd.C_below HR0_1.out HB.out) | (with_reducible refine Kd.C_alloc ?_ _) | (with_reducible refine Kd.C_drewN ?_ _) | (with_reducible refine Kd.C_drew ?_)));(case side4 => exact HC0_1.out);(case side5 => repeat (first | exact (Kd.C_below HR0_4.out HB.out) | (with_reducible refine Kd.C_alloc ?_ _) | (with_reducible refine Kd.C_drewN ?_ _) | (with_reducible refine Kd.C_drew ?_)));(case side6 => exact HC0_4.out);(case side7 => repeat (first | exact (Kd.C_below HR1.out HB.out) | (with_reducible refine Kd.C_alloc ?_ _) | (with_reducible refine Kd.C_drewN ?_ _) | (with_reducible refine Kd.C_drew ?_)));(case side8 => exact HC1.out);(case side9 => repeat (first | exact (Kd.C_below HR2_0.out HB.out) | (with_reducible refine Kd.C_alloc ?_ _) | (with_reducible refine Kd.C_drewN ?_ _) | (with_reducible refine Kd.C_drew ?_)));(case side10 => exact HC2_0.out);rintro e w50 ⟨rfl,hb⟩;have n0_:=Aside0.mk (blk_below (g:=gb324) (o := .cells #[.slice A0_0 l0_0.length c0_0,.slice A0_1 l0_1.length c0_1,.int .i64 a0_2,.int .i64 a0_3,.slice A0_4 l0_4.length c0_4] 26 (0,0)) (by (with_reducible repeat (first | refine blk_drewN ?_ _ | refine blk_drew ?_ | refine blk_alloc ?_ _));exact BK324.out) hb);have n1_:=Aside0.mk (blk_below (g:=gb325) (o := .cells #[.slice A2_0 l2_0.length c2_0,.bool a2_1] 31 (0,0)) (by (with_reducible repeat (first | refine blk_drewN ?_ _ | refine blk_drew ?_ | refine blk_alloc ?_ _));exact BK325.out) hb);have n2_:=Aside0.mk (below_step (by repeat (first | (with_reducible first | exact HB.out | apply below_alloc | apply pw_below_drewN | apply below_drew1 | refine below_set ?_ GE324.out | refine below_set ?_ GE325.out) | exact HB.out)) hb);clear BK324;clear BK325;clear HB;have BK324:=n0_;have BK325:=n1_;have HB:=n2_;clear n0_ n1_ n2_;(try clear hb);(try clear hb2);(try clear hk);(try clear hi)))
               go_ret
               exact ⟨by first | rfl | (simp [errW_none,errW_some] <;> rfl) | (simp [*,errW_none,errW_some] <;> rfl),by repeat (first | (with_reducible first | exact HB.out | apply below_alloc | apply pw_below_drewN | apply below_drew1 | refine below_set ?_ GE324.out | refine below_set ?_ GE325.out) | exact HB.out)⟩
           · replace c33:=Bool.eq_false_iff.mpr c33
             subst c33
             have H1 : (some false) = some r:=by rw [if_neg (show ¬ (false = true) by decide)] at H;exact H
             clear H
             have H:=H1
             clear H1
             obtain rfl:=Option.some.inj H
             have hnb51:=NB324_325.out
             have hnc51:=NB325_324.out
             have hcz52_0 : wr.cell? ⟨gb324,0,none⟩ = some (.slice A0_0 l0_0.length c0_0) := (blk_cell BK324.out 0).trans rfl
             have hcz52_1 : wr.cell? ⟨gb324,1,none⟩ = some (.slice A0_1 l0_1.length c0_1) := (blk_cell BK324.out 1).trans rfl
             have hcz52_2 : wr.cell? ⟨gb324,2,none⟩ = some (.int .i64 a0_2) := (blk_cell BK324.out 2).trans rfl
             have hcz52_3 : wr.cell? ⟨gb324,3,none⟩ = some (.int .i64 a0_3) := (blk_cell BK324.out 3).trans rfl
             have hcz52_4 : wr.cell? ⟨gb324,4,none⟩ = some (.slice A0_4 l0_4.length c0_4) := (blk_cell BK324.out 4).trans rfl
             have hfz52_0:=blk_frozen BK324.out 0
             have hfz52_1:=blk_frozen BK324.out 1
             have hfz52_2:=blk_frozen BK324.out 2
             have hfz52_3:=blk_frozen BK324.out 3
             have hfz52_4:=blk_frozen BK324.out 4
             have p329 : 0 ≤ (0 : Int) := (by omega)
             have q329 : 0 < (l3.length : Int) := of_decide_eq_true (by first | (with_reducible assumption) | assumption)
             obtain ⟨ad329,e329,hx329_0⟩ := Kd.at_int HR3.out 0 p329 q329
             cases e329
             have qi329 : (0 < l3.length) = True:=eq_true (by omega)
             (try rw [show ((0 : Int)).toNat = 0 from rfl] at hx329_0)
             (try rw [Addr.add_zero'] at hx329_0)
             replace hx329_0:=(HB.out.cell (World.block_lt_of_cell? w _ hx329_0)).trans hx329_0
             replace p329:=eq_true p329
             replace q329:=eq_true q329
             go_wp2_with (first | ((with_reducible refine gate_callee (f:=10) rfl ?_);refine goesL_ (some 57) rfl rfl Try.func10 (by kernel_rfl) rfl #[] rfl (by (try simp only [List.map_toArray,List.map_cons,List.map_nil]);first | done | rfl | (simp only [List.length_drop,List.length_take];rfl)) ?_;(with_reducible refine (regletlaw16_awake.calls k2  false _ A32.out).mono ?_);rintro e w53 ⟨rfl,hb⟩;refine ⟨_,rfl,?_⟩;have n0_:=Aside0.mk (blk_below (g:=gb324) (o := .cells #[.slice A0_0 l0_0.length c0_0,.slice A0_1 l0_1.length c0_1,.int .i64 a0_2,.int .i64 a0_3,.slice A0_4 l0_4.length c0_4] 26 (0,0)) (by (with_reducible repeat (first | refine blk_drewN ?_ _ | refine blk_drew ?_ | refine blk_alloc ?_ _));exact BK324.out) hb);have n1_:=Aside0.mk (blk_below (g:=gb325) (o := .cells #[.slice A2_0 l2_0.length c2_0,.bool a2_1] 31 (0,0)) (by (with_reducible repeat (first | refine blk_drewN ?_ _ | refine blk_drew ?_ | refine blk_alloc ?_ _));exact BK325.out) hb);have n2_:=Aside0.mk (below_step (by repeat (first | (with_reducible first | exact HB.out | apply below_alloc | apply pw_below_drewN | apply below_drew1 | refine below_set ?_ GE324.out | refine below_set ?_ GE325.out) | exact HB.out)) hb);clear BK324;clear BK325;clear HB;have BK324:=n0_;have BK325:=n1_;have HB:=n2_;clear n0_ n1_ n2_;(try clear hb);(try clear hb2);(try clear hk);(try clear hi)))
             go_ret
             exact ⟨by first | rfl | (simp [errW_none,errW_some] <;> rfl) | (simp [*,errW_none,errW_some] <;> rfl),by repeat (first | (with_reducible first | exact HB.out | apply below_alloc | apply pw_below_drewN | apply below_drew1 | refine below_set ?_ GE324.out | refine below_set ?_ GE325.out) | exact HB.out)⟩
         · rw [if_neg c30] at H
           have c30b0 : decide (0 < (l3.length : Int)) = false:=decide_eq_false c30
           have c30b1 : decide (0 < l3.length) = false:=decide_eq_false (by omega)
           clear c30
           replace H:=Option.bind_eq_some_iff.mp H
           obtain ⟨t333,A540,H⟩ := H
           replace H : (if t333 = true then ((regletlaw16_fed.f k2 l0_0 l0_1 a0_2 a0_3 l0_4 l1 l2_0 a2_1 0).bind fun t334 => (if t334 = true then ((regletlaw16_ran.f k2 l0_0 l0_1 a0_2 a0_3 l0_4 l1 l3).bind fun t335 => (some t335)) else (some false))) else (some false)) = some r:=H
           have A54:=Aside0.mk A540
           clear A540
           by_cases c55 : t333 = true
           · subst c55
             have H1 : ((regletlaw16_fed.f k2 l0_0 l0_1 a0_2 a0_3 l0_4 l1 l2_0 a2_1 0).bind fun t334 => (if t334 = true then ((regletlaw16_ran.f k2 l0_0 l0_1 a0_2 a0_3 l0_4 l1 l3).bind fun t335 => (some t335)) else (some false))) = some r:=by rw [if_pos rfl] at H;exact H
             clear H
             have H:=H1
             clear H1
             replace H:=Option.bind_eq_some_iff.mp H
             obtain ⟨t334,A560,H⟩ := H
             replace H : (if t334 = true then ((regletlaw16_ran.f k2 l0_0 l0_1 a0_2 a0_3 l0_4 l1 l3).bind fun t335 => (some t335)) else (some false)) = some r:=H
             have A56:=Aside0.mk A560
             clear A560
             by_cases c57 : t334 = true
             · subst c57
               have H1 : ((regletlaw16_ran.f k2 l0_0 l0_1 a0_2 a0_3 l0_4 l1 l3).bind fun t335 => (some t335)) = some r:=by rw [if_pos rfl] at H;exact H
               clear H
               have H:=H1
               clear H1
               replace H:=Option.bind_eq_some_iff.mp H
               obtain ⟨t335,A580,H⟩ := H
               replace H : (some t335) = some r:=H
               have A58:=Aside0.mk A580
               clear A580
               obtain rfl:=Option.some.inj H
               have hnb59:=NB324_325.out
               have hnc59:=NB325_324.out
               have hcz60_0 : wr.cell? ⟨gb324,0,none⟩ = some (.slice A0_0 l0_0.length c0_0) := (blk_cell BK324.out 0).trans rfl
               have hcz60_1 : wr.cell? ⟨gb324,1,none⟩ = some (.slice A0_1 l0_1.length c0_1) := (blk_cell BK324.out 1).trans rfl
               have hcz60_2 : wr.cell? ⟨gb324,2,none⟩ = some (.int .i64 a0_2) := (blk_cell BK324.out 2).trans rfl
               have hcz60_3 : wr.cell? ⟨gb324,3,none⟩ = some (.int .i64 a0_3) := (blk_cell BK324.out 3).trans rfl
               have hcz60_4 : wr.cell? ⟨gb324,4,none⟩ = some (.slice A0_4 l0_4.length c0_4) := (blk_cell BK324.out 4).trans rfl
               have hfz60_0:=blk_frozen BK324.out 0
               have hfz60_1:=blk_frozen BK324.out 1
               have hfz60_2:=blk_frozen BK324.out 2
               have hfz60_3:=blk_frozen BK324.out 3
               have hfz60_4:=blk_frozen BK324.out 4
               go_wp2_with (first | ((with_reducible refine gate_callee (f:=10) rfl ?_);refine goesL_ (some 57) rfl rfl Try.func10 (by kernel_rfl) rfl #[] rfl (by (try simp only [List.map_toArray,List.map_cons,List.map_nil]);first | done | rfl | (simp only [List.length_drop,List.length_take];rfl)) ?_;(with_reducible refine (regletlaw16_awake.calls k2  true _ A54.out).mono ?_);rintro e w61 ⟨rfl,hb⟩;refine ⟨_,rfl,?_⟩;have n0_:=Aside0.mk (blk_below (g:=gb324) (o := .cells #[.slice A0_0 l0_0.length c0_0,.slice A0_1 l0_1.length c0_1,.int .i64 a0_2,.int .i64 a0_3,.slice A0_4 l0_4.length c0_4] 26 (0,0)) (by (with_reducible repeat (first | refine blk_drewN ?_ _ | refine blk_drew ?_ | refine blk_alloc ?_ _));exact BK324.out) hb);have n1_:=Aside0.mk (blk_below (g:=gb325) (o := .cells #[.slice A2_0 l2_0.length c2_0,.bool a2_1] 31 (0,0)) (by (with_reducible repeat (first | refine blk_drewN ?_ _ | refine blk_drew ?_ | refine blk_alloc ?_ _));exact BK325.out) hb);have n2_:=Aside0.mk (below_step (by repeat (first | (with_reducible first | exact HB.out | apply below_alloc | apply pw_below_drewN | apply below_drew1 | refine below_set ?_ GE324.out | refine below_set ?_ GE325.out) | exact HB.out)) hb);clear BK324;clear BK325;clear HB;have BK324:=n0_;have BK325:=n1_;have HB:=n2_;clear n0_ n1_ n2_;(try clear hb);(try clear hb2);(try clear hk);(try clear hi);have hcz62_0 : w61.cell? ⟨gb324,0,none⟩ = some (.slice A0_0 l0_0.length c0_0) := (blk_cell BK324.out 0).trans rfl;have hcz62_1 : w61.cell? ⟨gb324,1,none⟩ = some (.slice A0_1 l0_1.length c0_1) := (blk_cell BK324.out 1).trans rfl;have hcz62_2 : w61.cell? ⟨gb324,2,none⟩ = some (.int .i64 a0_2) := (blk_cell BK324.out 2).trans rfl;have hcz62_3 : w61.cell? ⟨gb324,3,none⟩ = some (.int .i64 a0_3) := (blk_cell BK324.out 3).trans rfl;have hcz62_4 : w61.cell? ⟨gb324,4,none⟩ = some (.slice A0_4 l0_4.length c0_4) := (blk_cell BK324.out 4).trans rfl;have hfz62_0:=blk_frozen BK324.out 0;have hfz62_1:=blk_frozen BK324.out 1;have hfz62_2:=blk_frozen BK324.out 2;have hfz62_3:=blk_frozen BK324.out 3;have hfz62_4:=blk_frozen BK324.out 4;have hcz63_0 : w61.cell? ⟨gb325,0,none⟩ = some (.slice A2_0 l2_0.length c2_0) := (blk_cell BK325.out 0).trans rfl;have hcz63_1 : w61.cell? ⟨gb325,1,none⟩ = some (.bool a2_1) := (blk_cell BK325.out 1).trans rfl;have hfz63_0:=blk_frozen BK325.out 0;have hfz63_1:=blk_frozen BK325.out 1) | (go_at_call 11;(with_reducible refine (regletlaw16_fed.calls k2 _ _ l0_0 _ _ l0_1 a0_2 a0_3 _ _ l0_4 _ _ l1 _ _ l2_0 a2_1 0 true _ ?side1 ?side2 ?side3 ?side4 ?side5 ?side6 ?side7 ?side8 ?side9 ?side10 A56.out).mono ?_);(case side1 => repeat (first | exact (Kd.C_below HR0_0.out HB.out) | (with_reducible refine Kd.C_alloc ?_ _) | (with_reducible refine Kd.C_drewN ?_ _) | (with_reducible refine Kd.C_drew ?_)));(case side2 => exact HC0_0.out);(case side3 => repeat (first | exact (Kd.C_below HR0_1.out HB.out) | (with_reducible refine Kd.C_alloc ?_ _) | (with_reducible refine Kd.C_drewN ?_ _) | (with_reducible refine Kd.C_drew ?_)));(case side4 => exact HC0_1.out);(case side5 => repeat (first | exact (Kd.C_below HR0_4.out HB.out) | (with_reducible refine Kd.C_alloc ?_ _) | (with_reducible refine Kd.C_drewN ?_ _) | (with_reducible refine Kd.C_drew ?_)));(case side6 => exact HC0_4.out);(case side7 => repeat (first | exact (Kd.C_below HR1.out HB.out) | (with_reducible refine Kd.C_alloc ?_ _) | (with_reducible refine Kd.C_drewN ?_ _) | (with_reducible refine Kd.C_drew ?_)));(case side8 => exact HC1.out);(case side9 => repeat (first | exact (Kd.C_below HR2_0.out HB.out) | (with_reducible refine Kd.C_alloc ?_ _) | (with_reducible refine Kd.C_drewN ?_ _) | (with_reducible refine Kd.C_drew ?_)));(case side10 => exact HC2_0.out);rintro e w64 ⟨rfl,hb⟩;have n0_:=Aside0.mk (blk_below (g:=gb324) (o := .cells #[.slice A0_0 l0_0.length c0_0,.slice A0_1 l0_1.length c0_1,.int .i64 a0_2,.int .i64 a0_3,.slice A0_4 l0_4.length c0_4] 26 (0,0)) (by (with_reducible repeat (first | refine blk_drewN ?_ _ | refine blk_drew ?_ | refine blk_alloc ?_ _));exact BK324.out) hb);have n1_:=Aside0.mk (blk_below (g:=gb325) (o := .cells #[.slice A2_0 l2_0.length c2_0,.bool a2_1] 31 (0,0)) (by (with_reducible repeat (first | refine blk_drewN ?_ _ | refine blk_drew ?_ | refine blk_alloc ?_ _));exact BK325.out) hb);have n2_:=Aside0.mk (below_step (by repeat (first | (with_reducible first | exact HB.out | apply below_alloc | apply pw_below_drewN | apply below_drew1 | refine below_set ?_ GE324.out | refine below_set ?_ GE325.out) | exact HB.out)) hb);clear BK324;clear BK325;clear HB;have BK324:=n0_;have BK325:=n1_;have HB:=n2_;clear n0_ n1_ n2_;(try clear hb);(try clear hb2);(try clear hk);(try clear hi);have hcz65_0 : w64.cell? ⟨gb324,0,none⟩ = some (.slice A0_0 l0_0.length c0_0) := (blk_cell BK324.out 0).trans rfl;have hcz65_1 : w64.cell? ⟨gb324,1,none⟩ = some (.slice A0_1 l0_1.length c0_1) := (blk_cell BK324.out 1).trans rfl;have hcz65_2 : w64.cell? ⟨gb324,2,none⟩ = some (.int .i64 a0_2) := (blk_cell BK324.out 2).trans rfl;have hcz65_3 : w64.cell? ⟨gb324,3,none⟩ = some (.int .i64 a0_3) := (blk_cell BK324.out 3).trans rfl;have hcz65_4 : w64.cell? ⟨gb324,4,none⟩ = some (.slice A0_4 l0_4.length c0_4) := (blk_cell BK324.out 4).trans rfl;have hfz65_0:=blk_frozen BK324.out 0;have hfz65_1:=blk_frozen BK324.out 1;have hfz65_2:=blk_frozen BK324.out 2;have hfz65_3:=blk_frozen BK324.out 3;have hfz65_4:=blk_frozen BK324.out 4) | (go_at_call 12;(with_reducible refine (regletlaw16_ran.calls k2 _ _ l0_0 _ _ l0_1 a0_2 a0_3 _ _ l0_4 _ _ l1 _ _ l3 t335 _ ?side1 ?side2 ?side3 ?side4 ?side5 ?side6 ?side7 ?side8 ?side9 ?side10 A58.out).mono ?_);(case side1 => repeat (first | exact (Kd.C_below HR0_0.out HB.out) | (with_reducible refine Kd.C_alloc ?_ _) | (with_reducible refine Kd.C_drewN ?_ _) | (with_reducible refine Kd.C_drew ?_)));(case side2 => exact HC0_0.out);(case side3 => repeat (first | exact (Kd.C_below HR0_1.out HB.out) | (with_reducible refine Kd.C_alloc ?_ _) | (with_reducible refine Kd.C_drewN ?_ _) | (with_reducible refine Kd.C_drew ?_)));(case side4 => exact HC0_1.out);(case side5 => repeat (first | exact (Kd.C_below HR0_4.out HB.out) | (with_reducible refine Kd.C_alloc ?_ _) | (with_reducible refine Kd.C_drewN ?_ _) | (with_reducible refine Kd.C_drew ?_)));(case side6 => exact HC0_4.out);(case side7 => repeat (first | exact (Kd.C_below HR1.out HB.out) | (with_reducible refine Kd.C_alloc ?_ _) | (with_reducible refine Kd.C_drewN ?_ _) | (with_reducible refine Kd.C_drew ?_)));(case side8 => exact HC1.out);(case side9 => repeat (first | exact (Kd.C_below HR3.out HB.out) | (with_reducible refine Kd.C_alloc ?_ _) | (with_reducible refine Kd.C_drewN ?_ _) | (with_reducible refine Kd.C_drew ?_)));(case side10 => exact HC3.out);rintro e w66 ⟨rfl,hb⟩;have n0_:=Aside0.mk (blk_below (g:=gb324) (o := .cells #[.slice A0_0 l0_0.length c0_0,.slice A0_1 l0_1.length c0_1,.int .i64 a0_2,.int .i64 a0_3,.slice A0_4 l0_4.length c0_4] 26 (0,0)) (by (with_reducible repeat (first | refine blk_drewN ?_ _ | refine blk_drew ?_ | refine blk_alloc ?_ _));exact BK324.out) hb);have n1_:=Aside0.mk (blk_below (g:=gb325) (o := .cells #[.slice A2_0 l2_0.length c2_0,.bool a2_1] 31 (0,0)) (by (with_reducible repeat (first | refine blk_drewN ?_ _ | refine blk_drew ?_ | refine blk_alloc ?_ _));exact BK325.out) hb);have n2_:=Aside0.mk (below_step (by repeat (first | (with_reducible first | exact HB.out | apply below_alloc | apply pw_below_drewN | apply below_drew1 | refine below_set ?_ GE324.out | refine below_set ?_ GE325.out) | exact HB.out)) hb);clear BK324;clear BK325;clear HB;have BK324:=n0_;have BK325:=n1_;have HB:=n2_;clear n0_ n1_ n2_;(try clear hb);(try clear hb2);(try clear hk);(try clear hi)))
               go_ret
               exact ⟨by first | rfl | (simp [errW_none,errW_some] <;> rfl) | (simp [*,errW_none,errW_some] <;> rfl),by repeat (first | (with_reducible first | exact HB.out | apply below_alloc | apply pw_below_drewN | apply below_drew1 | refine below_set ?_ GE324.out | refine below_set ?_ GE325.out) | exact HB.out)⟩
             · replace c57:=Bool.eq_false_iff.mpr c57
               subst c57
               have H1 : (some false) = some r:=by rw [if_neg (show ¬ (false = true) by decide)] at H;exact H
               clear H
               have H:=H1
               clear H1
               obtain rfl:=Option.some.inj H
               have hnb67:=NB324_325.out
               have hnc67:=NB325_324.out
               have hcz68_0 : wr.cell? ⟨gb324,0,none⟩ = some (.slice A0_0 l0_0.length c0_0) := (blk_cell BK324.out 0).trans rfl
               have hcz68_1 : wr.cell? ⟨gb324,1,none⟩ = some (.slice A0_1 l0_1.length c0_1) := (blk_cell BK324.out 1).trans rfl
               have hcz68_2 : wr.cell? ⟨gb324,2,none⟩ = some (.int .i64 a0_2) := (blk_cell BK324.out 2).trans rfl
               have hcz68_3 : wr.cell? ⟨gb324,3,none⟩ = some (.int .i64 a0_3) := (blk_cell BK324.out 3).trans rfl
               have hcz68_4 : wr.cell? ⟨gb324,4,none⟩ = some (.slice A0_4 l0_4.length c0_4) := (blk_cell BK324.out 4).trans rfl
               have hfz68_0:=blk_frozen BK324.out 0
               have hfz68_1:=blk_frozen BK324.out 1
               have hfz68_2:=blk_frozen BK324.out 2
               have hfz68_3:=blk_frozen BK324.out 3
               have hfz68_4:=blk_frozen BK324.out 4
               go_wp2_with (first | ((with_reducible refine gate_callee (f:=10) rfl ?_);refine goesL_ (some 57) rfl rfl Try.func10 (by kernel_rfl) rfl #[] rfl (by (try simp only [List.map_toArray,List.map_cons,List.map_nil]);first | done | rfl | (simp only [List.length_drop,List.length_take];rfl)) ?_;(with_reducible refine (regletlaw16_awake.calls k2  true _ A54.out).mono ?_);rintro e w69 ⟨rfl,hb⟩;refine ⟨_,rfl,?_⟩;have n0_:=Aside0.mk (blk_below (g:=gb324) (o := .cells #[.slice A0_0 l0_0.length c0_0,.slice A0_1 l0_1.length c0_1,.int .i64 a0_2,.int .i64 a0_3,.slice A0_4 l0_4.length c0_4] 26 (0,0)) (by (with_reducible repeat (first | refine blk_drewN ?_ _ | refine blk_drew ?_ | refine blk_alloc ?_ _));exact BK324.out) hb);have n1_:=Aside0.mk (blk_below (g:=gb325) (o := .cells #[.slice A2_0 l2_0.length c2_0,.bool a2_1] 31 (0,0)) (by (with_reducible repeat (first | refine blk_drewN ?_ _ | refine blk_drew ?_ | refine blk_alloc ?_ _));exact BK325.out) hb);have n2_:=Aside0.mk (below_step (by repeat (first | (with_reducible first | exact HB.out | apply below_alloc | apply pw_below_drewN | apply below_drew1 | refine below_set ?_ GE324.out | refine below_set ?_ GE325.out) | exact HB.out)) hb);clear BK324;clear BK325;clear HB;have BK324:=n0_;have BK325:=n1_;have HB:=n2_;clear n0_ n1_ n2_;(try clear hb);(try clear hb2);(try clear hk);(try clear hi);have hcz70_0 : w69.cell? ⟨gb324,0,none⟩ = some (.slice A0_0 l0_0.length c0_0) := (blk_cell BK324.out 0).trans rfl;have hcz70_1 : w69.cell? ⟨gb324,1,none⟩ = some (.slice A0_1 l0_1.length c0_1) := (blk_cell BK324.out 1).trans rfl;have hcz70_2 : w69.cell? ⟨gb324,2,none⟩ = some (.int .i64 a0_2) := (blk_cell BK324.out 2).trans rfl;have hcz70_3 : w69.cell? ⟨gb324,3,none⟩ = some (.int .i64 a0_3) := (blk_cell BK324.out 3).trans rfl;have hcz70_4 : w69.cell? ⟨gb324,4,none⟩ = some (.slice A0_4 l0_4.length c0_4) := (blk_cell BK324.out 4).trans rfl;have hfz70_0:=blk_frozen BK324.out 0;have hfz70_1:=blk_frozen BK324.out 1;have hfz70_2:=blk_frozen BK324.out 2;have hfz70_3:=blk_frozen BK324.out 3;have hfz70_4:=blk_frozen BK324.out 4;have hcz71_0 : w69.cell? ⟨gb325,0,none⟩ = some (.slice A2_0 l2_0.length c2_0) := (blk_cell BK325.out 0).trans rfl;have hcz71_1 : w69.cell? ⟨gb325,1,none⟩ = some (.bool a2_1) := (blk_cell BK325.out 1).trans rfl;have hfz71_0:=blk_frozen BK325.out 0;have hfz71_1:=blk_frozen BK325.out 1) | (go_at_call 11;(with_reducible refine (regletlaw16_fed.calls k2 _ _ l0_0 _ _ l0_1 a0_2 a0_3 _ _ l0_4 _ _ l1 _ _ l2_0 a2_1 0 false _ ?side1 ?side2 ?side3 ?side4 ?side5 ?side6 ?side7 ?side8 ?side9 ?side10 A56.out).mono ?_);(case side1 => repeat (first | exact (Kd.C_below HR0_0.out HB.out) | (with_reducible refine Kd.C_alloc ?_ _) | (with_reducible refine Kd.C_drewN ?_ _) | (with_reducible refine Kd.C_drew ?_)));(case side2 => exact HC0_0.out);(case side3 => repeat (first | exact (Kd.C_below HR0_1.out HB.out) | (with_reducible refine Kd.C_alloc ?_ _) | (with_reducible refine Kd.C_drewN ?_ _) | (with_reducible refine Kd.C_drew ?_)));(case side4 => exact HC0_1.out);(case side5 => repeat (first | exact (Kd.C_below HR0_4.out HB.out) | (with_reducible refine Kd.C_alloc ?_ _) | (with_reducible refine Kd.C_drewN ?_ _) | (with_reducible refine Kd.C_drew ?_)));(case side6 => exact HC0_4.out);(case side7 => repeat (first | exact (Kd.C_below HR1.out HB.out) | (with_reducible refine Kd.C_alloc ?_ _) | (with_reducible refine Kd.C_drewN ?_ _) | (with_reducible refine Kd.C_drew ?_)));(case side8 => exact HC1.out);(case side9 => repeat (first | exact (Kd.C_below HR2_0.out HB.out) | (with_reducible refine Kd.C_alloc ?_ _) | (with_reducible refine Kd.C_drewN ?_ _) | (with_reducible refine Kd.C_drew ?_)));(case side10 => exact HC2_0.out);rintro e w72 ⟨rfl,hb⟩;have n0_:=Aside0.mk (blk_below (g:=gb324) (o := .cells #[.slice A0_0 l0_0.length c0_0,.slice A0_1 l0_1.length c0_1,.int .i64 a0_2,.int .i64 a0_3,.slice A0_4 l0_4.length c0_4] 26 (0,0)) (by (with_reducible repeat (first | refine blk_drewN ?_ _ | refine blk_drew ?_ | refine blk_alloc ?_ _));exact BK324.out) hb);have n1_:=Aside0.mk (blk_below (g:=gb325) (o := .cells #[.slice A2_0 l2_0.length c2_0,.bool a2_1] 31 (0,0)) (by (with_reducible repeat (first | refine blk_drewN ?_ _ | refine blk_drew ?_ | refine blk_alloc ?_ _));exact BK325.out) hb);have n2_:=Aside0.mk (below_step (by repeat (first | (with_reducible first | exact HB.out | apply below_alloc | apply pw_below_drewN | apply below_drew1 | refine below_set ?_ GE324.out | refine below_set ?_ GE325.out) | exact HB.out)) hb);clear BK324;clear BK325;clear HB;have BK324:=n0_;have BK325:=n1_;have HB:=n2_;clear n0_ n1_ n2_;(try clear hb);(try clear hb2);(try clear hk);(try clear hi)))
               go_ret
               exact ⟨by first | rfl | (simp [errW_none,errW_some] <;> rfl) | (simp [*,errW_none,errW_some] <;> rfl),by repeat (first | (with_reducible first | exact HB.out | apply below_alloc | apply pw_below_drewN | apply below_drew1 | refine below_set ?_ GE324.out | refine below_set ?_ GE325.out) | exact HB.out)⟩
           · replace c55:=Bool.eq_false_iff.mpr c55
             subst c55
             have H1 : (some false) = some r:=by rw [if_neg (show ¬ (false = true) by decide)] at H;exact H
             clear H
             have H:=H1
             clear H1
             obtain rfl:=Option.some.inj H
             have hnb73:=NB324_325.out
             have hnc73:=NB325_324.out
             have hcz74_0 : wr.cell? ⟨gb324,0,none⟩ = some (.slice A0_0 l0_0.length c0_0) := (blk_cell BK324.out 0).trans rfl
             have hcz74_1 : wr.cell? ⟨gb324,1,none⟩ = some (.slice A0_1 l0_1.length c0_1) := (blk_cell BK324.out 1).trans rfl
             have hcz74_2 : wr.cell? ⟨gb324,2,none⟩ = some (.int .i64 a0_2) := (blk_cell BK324.out 2).trans rfl
             have hcz74_3 : wr.cell? ⟨gb324,3,none⟩ = some (.int .i64 a0_3) := (blk_cell BK324.out 3).trans rfl
             have hcz74_4 : wr.cell? ⟨gb324,4,none⟩ = some (.slice A0_4 l0_4.length c0_4) := (blk_cell BK324.out 4).trans rfl
             have hfz74_0:=blk_frozen BK324.out 0
             have hfz74_1:=blk_frozen BK324.out 1
             have hfz74_2:=blk_frozen BK324.out 2
             have hfz74_3:=blk_frozen BK324.out 3
             have hfz74_4:=blk_frozen BK324.out 4
             go_wp2_with (first | ((with_reducible refine gate_callee (f:=10) rfl ?_);refine goesL_ (some 57) rfl rfl Try.func10 (by kernel_rfl) rfl #[] rfl (by (try simp only [List.map_toArray,List.map_cons,List.map_nil]);first | done | rfl | (simp only [List.length_drop,List.length_take];rfl)) ?_;(with_reducible refine (regletlaw16_awake.calls k2  false _ A54.out).mono ?_);rintro e w75 ⟨rfl,hb⟩;refine ⟨_,rfl,?_⟩;have n0_:=Aside0.mk (blk_below (g:=gb324) (o := .cells #[.slice A0_0 l0_0.length c0_0,.slice A0_1 l0_1.length c0_1,.int .i64 a0_2,.int .i64 a0_3,.slice A0_4 l0_4.length c0_4] 26 (0,0)) (by (with_reducible repeat (first | refine blk_drewN ?_ _ | refine blk_drew ?_ | refine blk_alloc ?_ _));exact BK324.out) hb);have n1_:=Aside0.mk (blk_below (g:=gb325) (o := .cells #[.slice A2_0 l2_0.length c2_0,.bool a2_1] 31 (0,0)) (by (with_reducible repeat (first | refine blk_drewN ?_ _ | refine blk_drew ?_ | refine blk_alloc ?_ _));exact BK325.out) hb);have n2_:=Aside0.mk (below_step (by repeat (first | (with_reducible first | exact HB.out | apply below_alloc | apply pw_below_drewN | apply below_drew1 | refine below_set ?_ GE324.out | refine below_set ?_ GE325.out) | exact HB.out)) hb);clear BK324;clear BK325;clear HB;have BK324:=n0_;have BK325:=n1_;have HB:=n2_;clear n0_ n1_ n2_;(try clear hb);(try clear hb2);(try clear hk);(try clear hi)))
             go_ret
             exact ⟨by first | rfl | (simp [errW_none,errW_some] <;> rfl) | (simp [*,errW_none,errW_some] <;> rfl),by repeat (first | (with_reducible first | exact HB.out | apply below_alloc | apply pw_below_drewN | apply below_drew1 | refine below_set ?_ GE324.out | refine below_set ?_ GE325.out) | exact HB.out)⟩
end Go.Proofs.Ytapjfnfengefpaa.P
end

section
namespace Go.Proofs.Ytapjfnfengefpaa.M
open Go.RowKit Go.Proofs.YtapjfnfengefpaaW.PrintWords Go.Proofs.YtapjfnfengefpaaW.PrintLast Go.Proofs.YtapjfnfengefpaaW.PrintMore Go.Proofs.Ytapjfnfengefpaa.P Go.Proofs.Ytapjfnfengefpaa.H
set_option linter.unusedVariables false
set_option linter.unusedSimpArgs false
abbrev Sym:=S43
abbrev Prod:=S35
abbrev Tok:=S72
theorem getD_mid {α : Type} (d : α) (p : List α) (x : α) (a : List α) (n : Int) (h : n = p.length) : (p ++ x :: a).getD n.toNat d = x:=by
 subst h;simp
theorem wrap_next {α : Type} (p : List α) (v : α) (h : p.length ≤ 1000000) : wrap64 ((p.length : Int) + 1) = ((p ++ [v]).length : Int) := by
 rw [wrap64_id (by omega) (by omega)];simp
theorem sameInts_l0_ev : ∀ (a pre : List Int),pre.length + a.length ≤ 1000000 → Ev (fun k => regletref13_SameInts.l0 k (pre ++ a) (pre ++ a) (pre.length : Int)) true
  | [],pre,_ => Ev.step (fun k => by rw [regletref13_SameInts.l0]) (Ev.neg (by simp) (Ev.some rfl))
  | x :: a,pre,h3 => by
    simp only [List.length_cons] at h3
    have ih:=sameInts_l0_ev a (pre ++ [x]) (by simp;omega)
    simp only [← wrap_next pre _ (show pre.length ≤ 1000000 by omega),List.append_assoc,List.singleton_append] at ih
    exact Ev.step (fun k => by rw [regletref13_SameInts.l0]) (Ev.pos (by simp;omega) (Ev.pos (by omega) (Ev.pos (by simp;omega) (Ev.pos rfl ih))))
theorem sameInts_ev (a : List Int) (h : a.length ≤ 1000000) : Ev (fun k => regletref13_SameInts.f k a a) true :=
  Ev.congr (fun k => by rw [regletref13_SameInts.f,if_pos rfl]) (by simpa using sameInts_l0_ev a [] (by simpa using h) : Ev (fun k => regletref13_SameInts.l0 k a a 0) _)
def Small (ps : List Prod) : Prop:=ps.length ≤ 1000000 ∧ ∀ p ∈ ps,p.f1.length ≤ 1000000
theorem refRight_l1_ev (l0 : List ByteArray) (l1 : List Tok) (a2 a3 : Int) (l4 : List Prod) (x3 left : Int) (r : Bool) : ∀ (l pre : List Sym),pre.length + l.length ≤ 1000000 → (l.all (okSym l0.length l1.length) = true → Ev (fun k => regletref13_Right.l0 k (wrap64 (x3 + 1)) l0 l1 a2 a3 l4) r) → (l.all (okSym l0.length l1.length) = false → r = false) → Ev (fun k => regletref13_Right.l1 k x3 (pre.length : Int) l0 l1 a2 a3 l4 left (pre ++ l)) r
  | [],pre,_,h1,_ => Ev.step (fun k => by rw [regletref13_Right.l1]) (Ev.neg (by simp) (h1 rfl))
  | x :: l,pre,h3,h1,h2 => by
    simp only [List.length_cons] at h3
    have ih:=refRight_l1_ev l0 l1 a2 a3 l4 x3 left r l (pre ++ [x]) (by simp;omega)
    simp only [← wrap_next pre _ (show pre.length ≤ 1000000 by omega),List.append_assoc,List.singleton_append] at ih
    have e : rd_T43 (pre ++ x :: l) (pre.length : Int) = x:=getD_mid _ pre x l _ rfl
    refine Ev.step (fun k => by rw [regletref13_Right.l1]) ?_
    rw [e]
    refine Ev.pos (by simp;omega) (Ev.pos (by omega) ?_)
    cases hx : x.f0 with
    | true =>
      refine Ev.pos rfl ?_
      by_cases h0 : x.f1 < 0
      · exact Ev.pos h0 (Ev.some (h2 (by simp [okSym,hx];omega)).symm)
      · refine Ev.neg h0 ?_
        by_cases h5 : x.f1 ≥ (l1.length : Int)
        · exact Ev.pos h5 (Ev.some (h2 (by simp [okSym,hx];omega)).symm)
        · refine Ev.neg h5 (ih (fun h => h1 ?_) (fun h => h2 ?_))
          · simp [okSym,hx, -List.all_eq_true] ;exact ⟨by omega,h⟩
          · rw [List.all_cons,h,Bool.and_false]
    | false =>
      refine Ev.neg (by simp) ?_
      by_cases h0 : x.f1 < 0
      · exact Ev.pos h0 (Ev.some (h2 (by simp [okSym,hx];omega)).symm)
      · refine Ev.neg h0 ?_
        by_cases h5 : x.f1 ≥ (l0.length : Int)
        · exact Ev.pos h5 (Ev.some (h2 (by simp [okSym,hx];omega)).symm)
        · refine Ev.neg h5 (ih (fun h => h1 ?_) (fun h => h2 ?_))
          · simp [okSym,hx, -List.all_eq_true] ;exact ⟨by omega,h⟩
          · rw [List.all_cons,h,Bool.and_false]
theorem refRight_l0_ev (l0 : List ByteArray) (l1 : List Tok) (a2 a3 : Int) : ∀ (qs pre : List Prod),pre.length + qs.length ≤ 1000000 → (∀ p ∈ qs,p.f1.length ≤ 1000000) → Ev (fun k => regletref13_Right.l0 k (pre.length : Int) l0 l1 a2 a3 (pre ++ qs)) (qs.all (okProd l0.length l1.length))
  | [],pre,_,_ => Ev.step (fun k => by rw [regletref13_Right.l0]) (Ev.neg (by simp) (Ev.some (by simp)))
  | p :: qs,pre,h3,h4 => by
    simp only [List.length_cons] at h3
    have ih:=refRight_l0_ev l0 l1 a2 a3 qs (pre ++ [p]) (by simp;omega) (fun p hp => h4 p (List.mem_cons_of_mem _ hp))
    simp only [← wrap_next pre _ (show pre.length ≤ 1000000 by omega),List.append_assoc,List.singleton_append] at ih
    have e : rd_T35 (pre ++ p :: qs) (pre.length : Int) = p:=getD_mid _ pre p qs _ rfl
    refine Ev.step (fun k => by rw [regletref13_Right.l0]) ?_
    rw [e]
    refine Ev.pos (by simp;omega) (Ev.pos (by omega) ?_)
    by_cases h0 : p.f0 < 0
    · refine Ev.pos h0 (Ev.step (fun k => by rw [regletref13_Right.j1]) (Ev.pos rfl (Ev.some ?_)))
      simp [okProd];omega
    · refine Ev.neg h0 (Ev.step (fun k => by rw [regletref13_Right.j1]) ?_)
      by_cases h5 : p.f0 ≥ (l0.length : Int)
      · refine Ev.pos (decide_eq_true h5) (Ev.some ?_)
        simp [okProd];omega
      · refine Ev.neg (by simpa using h5) ?_
        have h:=refRight_l1_ev l0 l1 a2 a3 (pre ++ p :: qs) (pre.length : Int) p.f0 ((p :: qs).all (okProd l0.length l1.length)) p.f1 [] (by have:=h4 p List.mem_cons_self;simpa using this) (fun h => Ev.val ih (by
            have : okProd l0.length l1.length p = true:=by simp only [okProd,h,Bool.and_true,Bool.and_eq_true,decide_eq_true_eq];omega
            rw [List.all_cons,this,Bool.true_and])) (fun h => by
            have : okProd l0.length l1.length p = false:=by simp only [okProd,h,Bool.and_false]
            rw [List.all_cons,this,Bool.false_and])
        simpa only [List.nil_append,List.length_nil,Int.natCast_zero] using h
theorem refRight_ev (l0 : List ByteArray) (l1 : List Tok) (a2 a3 : Int) (l4 : List Prod) (h : Small l4) : Ev (fun k => regletref13_Right.f k l0 l1 a2 a3 l4) (l4.all (okProd l0.length l1.length)) :=
  Ev.congr (fun k => by rw [regletref13_Right.f]) (by simpa only [List.nil_append,List.length_nil,Int.natCast_zero] using refRight_l0_ev l0 l1 a2 a3 l4 [] (by have:=h.1;simpa using this) h.2)
theorem wrapNext {α : Type} (p : List α) (v : α) (h : p.length ≤ 1000000000000) : wrap64 ((p.length : Int) + 1) = ((p ++ [v]).length : Int) := by
 rw [wrap64_id (by omega) (by omega)];simp
section
variable {l0 : List ByteArray} {l1 : List Tok} {a2 a3 : Int} {ps : List Prod}
theorem r16_l1_ev {tb : List (List Int)} {pre : List (List Int)} {row : List Int} {rest : List (List Int)} (et : tb = pre ++ row :: rest) (hn : row.length ≤ 1000000000) {rn : Bool} (hk : Ev (fun k => regletref16_Right.l0 k tb (wrap64 ((pre.length : Int) + 1)) l0 l1 a2 a3 ps) rn) : ∀ (b a : List Int),row = a ++ b →
    Ev (fun k => regletref16_Right.l1 k tb (pre.length : Int) (a.length : Int) l0 l1 a2 a3 ps) (b.all (okEnt ps (pre.length : Int)) && rn)
  | [],a,e => by
    have er : rd_L5 tb (pre.length : Int) = row:=by rw [et];exact getD_mid _ pre row rest _ rfl
    have hl : (pre.length : Int) < (tb.length : Int) := by rw [et];simp;omega
    refine Ev.step (fun k => by rw [regletref16_Right.l1]) (Ev.pos (by omega) (Ev.pos hl ?_))
    rw [er]
    exact Ev.neg (by rw [e];simp) hk
  | q :: b,a,e => by
    have er : rd_L5 tb (pre.length : Int) = row:=by rw [et];exact getD_mid _ pre row rest _ rfl
    have hl : (pre.length : Int) < (tb.length : Int) := by rw [et];simp;omega
    have eq_ : rd row (a.length : Int) = q:=by rw [e];exact getD_mid _ a q b _ rfl
    have ha : a.length < row.length:=by rw [e];simp
    have ih:=r16_l1_ev et hn hk b (a ++ [q]) (by rw [List.append_assoc];exact e)
    rw [← wrapNext a q (by omega)] at ih
    refine Ev.step (fun k => by rw [regletref16_Right.l1]) (Ev.pos (by omega) (Ev.pos hl ?_))
    rw [er,eq_]
    refine Ev.pos (by omega) (Ev.pos (by omega) ?_)
    rw [List.all_cons]
    by_cases h1 : q < -1
    · refine Ev.pos h1 (Ev.some ?_)
      simp only [okEnt,decide_eq_false (show ¬ -1 ≤ q by omega),Bool.false_and]
    · refine Ev.neg h1 ?_
      by_cases h2 : q ≥ (ps.length : Int)
      · refine Ev.pos h2 (Ev.some ?_)
        simp only [okEnt,decide_eq_false (show ¬ q < (ps.length : Int) by omega),Bool.and_false,Bool.false_and]
      · refine Ev.neg h2 ?_
        by_cases h3 : q ≥ 0
        · refine Ev.pos h3 (Ev.pos h3 (Ev.pos (by omega) ?_))
          by_cases h4 : (rd_T35 ps q).f0 = (pre.length : Int)
          · refine Ev.pos h4 (Ev.val ih ?_)
            simp only [okEnt,decide_eq_true (show -1 ≤ q by omega),decide_eq_true (show q < (ps.length : Int) by omega),decide_eq_true h4,Bool.or_true,Bool.and_true,Bool.true_and]
          · refine Ev.neg h4 (Ev.some ?_)
            simp only [okEnt,decide_eq_false (show ¬ q < 0 by omega),decide_eq_false h4,Bool.or_false,Bool.and_false,Bool.false_and]
        · refine Ev.neg h3 (Ev.val ih ?_)
          simp only [okEnt,decide_eq_true (show -1 ≤ q by omega),decide_eq_true (show q < (ps.length : Int) by omega),decide_eq_true (show q < 0 by omega),Bool.true_or,Bool.and_true,Bool.true_and]
theorem r16_l0_ev {tb : List (List Int)} (hl1 : l1.length ≤ 1000000000) (hbig : tb.length ≤ 1000000000) (hrow : ∀ r ∈ tb,r.length ≤ 1000000000) : ∀ (rest pre : List (List Int)),tb = pre ++ rest →
    Ev (fun k => regletref16_Right.l0 k tb (pre.length : Int) l0 l1 a2 a3 ps) (rowsOk l1.length ps pre.length rest)
  | [],pre,e => by
    refine Ev.step (fun k => by rw [regletref16_Right.l0]) ?_
    exact Ev.neg (by rw [e];simp) (Ev.some rfl)
  | row :: rest,pre,e => by
    have er : rd_L5 tb (pre.length : Int) = row:=by rw [e];exact getD_mid _ pre row rest _ rfl
    have hl : pre.length < tb.length:=by rw [e];simp
    have ih:=r16_l0_ev hl1 hbig hrow rest (pre ++ [row]) (by rw [List.append_assoc];exact e)
    rw [← wrapNext pre row (by omega)] at ih
    refine Ev.step (fun k => by rw [regletref16_Right.l0]) (Ev.pos (by omega) (Ev.pos (by omega) ?_))
    rw [er,wrap64_id (by omega) (by omega)]
    by_cases h : (row.length : Int) = (l1.length : Int) + 1
    · refine Ev.pos h (Ev.val (r16_l1_ev e (hrow row (by rw [e];simp)) ih row [] rfl) ?_)
      rw [rowsOk,decide_eq_true (by omega : row.length = l1.length + 1),Bool.true_and]
      simp
    · refine Ev.neg h (Ev.some ?_)
      rw [rowsOk,decide_eq_false (by omega : ¬ row.length = l1.length + 1),Bool.false_and,Bool.false_and]
theorem refRight16_ev {tb : List (List Int)} (hs : Small ps) (hl1 : l1.length ≤ 1000000000) (hbig : tb.length ≤ 1000000000) (hrow : ∀ r ∈ tb,r.length ≤ 1000000000) : Ev (fun k => regletref16_Right.f k l0 l1 a2 a3 ps tb) (tbRight l0.length l1.length ps tb) := by
 refine Ev.congr (fun k => by rw [regletref16_Right.f]) (Ev.bind (refRight_ev l0 l1 a2 a3 ps hs) ?_)
 have hno : Ev (fun k => regletref16_Right.j0 k tb true l0 l1 a2 a3 ps) false:=Ev.step (fun k => by rw [regletref16_Right.j0]) (Ev.pos rfl (Ev.some rfl))
 unfold tbRight
 cases hr : ps.all (okProd l0.length l1.length) with
 | false => exact Ev.neg (by simp) (Ev.val hno (by simp))
 | true =>
  refine Ev.pos rfl ?_
  by_cases h0 : (l0.length : Int) = 0
  · exact Ev.pos h0 (Ev.val hno (by simp [show l0.length = 0 by omega]))
  refine Ev.neg h0 ?_
  by_cases ht : tb.length = l0.length
  rotate_left
  · have e1 : ((tb.length : Int) != (l0.length : Int)) = true:=by simp;omega
    rw [e1]
    exact Ev.val hno (by rw [decide_eq_false ht];simp)
  have e1 : ((tb.length : Int) != (l0.length : Int)) = false:=by simp [ht]
  rw [e1]
  refine Ev.step (fun k => by rw [regletref16_Right.j0]) ?_
  refine Ev.neg (by simp) (Ev.val (r16_l0_ev hl1 hbig hrow tb [] rfl) ?_)
  rw [decide_eq_false (by omega : ¬ l0.length = 0),decide_eq_true ht]
  simp
theorem stack_ev {st : List Sym} (h0 : l0.length ≠ 0) (hst : st.length ≤ 1000000) : Ev (fun k => regletref16_stack.f k l0 l1 a2 a3 ps st) (stAwaits l0.length l1.length st) := by
 refine Ev.congr (fun k => by rw [regletref16_stack.f]) (Ev.bind (refRight_ev l0 l1 a2 a3 [(⟨0,st⟩ : Prod)] ⟨by simp,fun p hp => by rw [List.mem_singleton.1 hp];exact hst⟩) ?_)
 refine Ev.some ?_
 have h1 : (0 : Int) < (l0.length : Int) := by omega
 have h2 : 0 < l0.length:=by omega
 simp [stAwaits,okProd,h1,h2,Bool.and_comm]
theorem push_ev {tb : List (List Int)} {look q : Int} {sp : List Int} {base r : List Sym} (hq0 : 0 ≤ q) (hq1 : q < (ps.length : Int)) (hr : (rd_T35 ps q).f1 = r) (hrl : r.length ≤ 1000000) (hb : base.length ≤ 1000000) {X : List Sym × Bool × List Int × Int}
    (hk : Ev (fun k => if ((base ++ r.reverse).length : Int) > 10000 then (some (([] : List Sym),true,([] : List Int),2)) else (if (sp.length : Int) > 10000 then (some (([] : List Sym),true,([] : List Int),2)) else (regletref16_Feed.l0 k tb look (base ++ r.reverse) sp l0 l1 a2 a3 ps))) X) : ∀ j : Nat,j ≤ r.length →
    Ev (fun k => regletref16_Feed.l1 k tb look (base ++ (r.drop j).reverse) sp q ((j : Int) - 1) l0 l1 a2 a3 ps) X
  | 0,_ => by
    refine Ev.step (fun k => by rw [regletref16_Feed.l1]) (Ev.neg (by omega) ?_)
    rw [List.drop_zero]
    exact hk
  | j + 1,hj => by
    have ih:=push_ev hq0 hq1 hr hrl hb hk j (by omega)
    have e0 : ((j + 1 : Nat) : Int) - 1 = (j : Int) := by push_cast;omega
    have e1 : wrap64 ((j : Int) - 1) = (j : Int) - 1:=wrap64_id (by omega) (by omega)
    have e2 : r.drop j = r[j] :: r.drop (j + 1) := List.drop_eq_getElem_cons (by omega)
    have e3 : rd_T43 r (j : Int) = r[j] := by
      rw [rd_T43,Int.toNat_natCast,List.getD_eq_getElem?_getD,List.getElem?_eq_getElem (by omega)];rfl
    rw [e0]
    refine Ev.step (fun k => by rw [regletref16_Feed.l1]) (Ev.pos (by omega) (Ev.pos hq0 (Ev.pos hq1 (Ev.pos (by omega) ?_))))
    rw [hr,e1,e3]
    refine Ev.pos (by omega) (Ev.pos (by simp only [List.length_append,List.length_reverse,List.length_drop];omega) ?_)
    rw [e2,List.reverse_cons,← List.append_assoc] at ih
    exact ih
theorem feed_l0_ev {tb : List (List Int)} {look : Int} (hps : ps.all (okProd l0.length l1.length) = true) (htab : TabOk l0.length l1.length ps tb) (hl0 : 0 ≤ look) (hl1 : look ≤ (l1.length : Int)) (hsz : ∀ p ∈ ps,p.f1.length ≤ 1000000) : ∀ (m : Nat) (st : List Sym) (sp : List Int) (R : Int × List Sym × List Int),mFeed l1.length ps tb look m st sp = some R → st.all (okSym l0.length l1.length) = true → st.length ≤ 1000000 → sp.length ≤ 10000 →
    Ev (fun k => regletref16_Feed.l0 k tb look st.reverse sp l0 l1 a2 a3 ps) (mOut (some R))
  | 0,_,_,_,h,_,_,_ => by simp [mFeed] at h
  | m + 1,[],sp,R,h,_,_,_ => by
    rw [mFeed] at h
    have h:=(Option.some.inj h).symm
    subst h
    refine Ev.step (fun k => by rw [regletref16_Feed.l0]) (Ev.neg (by simp) ?_)
    by_cases hk : look < (l1.length : Int)
    · refine Ev.pos hk (Ev.some ?_)
      rw [if_pos hk]
      rfl
    · refine Ev.neg hk (Ev.some ?_)
      rw [if_neg hk]
      rfl
  | m + 1,x :: st,sp,R,h,hok,hst,hsp => by
    rw [mFeed] at h
    simp only [List.length_cons] at hst
    rw [List.all_cons,Bool.and_eq_true] at hok
    obtain ⟨hx,hok⟩ := hok
    have hlen : ((x :: st).reverse.length : Int) = (st.length : Int) + 1:=by simp
    have e1 : wrap64 (((x :: st).reverse.length : Int) - 1) = (st.length : Int) := by rw [hlen,wrap64_id (by omega) (by omega)];omega
    have e2 : rd_T43 (x :: st).reverse (st.length : Int) = x:=by rw [rd_T43,Int.toNat_natCast];simp
    have e3 : (x :: st).reverse.take (st.length : Int).toNat = st.reverse:=by rw [Int.toNat_natCast];simp
    refine Ev.step (fun k => by rw [regletref16_Feed.l0]) (Ev.pos (by omega) ?_)
    rw [e1,e2,e3]
    refine Ev.pos (by omega) (Ev.pos (by omega) (Ev.pos (by omega) (Ev.bind0 rfl ?_)))
    cases hxf : x.f0 with
    | true =>
      refine Ev.pos rfl ?_
      by_cases hxl : x.f1 = look
      · rw [if_pos ⟨hxf,hxl⟩] at h
        have h:=(Option.some.inj h).symm
        subst h
        exact Ev.pos hxl (Ev.some (by simp [mOut]))
      · rw [if_neg (fun h => hxl h.2),if_pos (.inl hxf)] at h
        have h:=(Option.some.inj h).symm
        subst h
        exact Ev.neg hxl (Ev.some (by simp [mOut]))
    | false =>
      rw [if_neg (fun h => by rw [hxf] at h;cases h.1)] at h
      refine Ev.neg (by simp) ?_
      obtain ⟨hx0,hx1⟩ : 0 ≤ x.f1 ∧ x.f1 < (l0.length : Int) := by simpa [okSym,hxf] using hx
      have htl:=htab.1
      obtain ⟨hrl,hrq⟩ := htab.2 x.f1.toNat (by omega)
      have er : rd_L5 tb x.f1 = tb.getD x.f1.toNat [] := rfl
      have eq_ : rd (tb.getD x.f1.toNat []) look = mEnt tb x.f1 look:=rfl
      have hrm : mEnt tb x.f1 look < (ps.length : Int) := hrq _ (by
        unfold mEnt
        generalize tb.getD x.f1.toNat [] = row at hrl ⊢
        rw [List.getD_eq_getElem?_getD,List.getElem?_eq_getElem (by omega)]
        exact List.getElem_mem _)
      rw [er,eq_]
      refine Ev.pos hx0 (Ev.pos (by omega) (Ev.pos hl0 (Ev.pos (by omega) ?_)))
      generalize mEnt tb x.f1 look = q at h hrm ⊢
      by_cases hq : q < 0
      · rw [if_pos (.inr hq)] at h
        have h:=(Option.some.inj h).symm
        subst h
        exact Ev.pos hq (Ev.some (by simp [mOut]))
      · rw [if_neg (fun h => by rcases h with h | h;rw [hxf] at h;cases h;exact hq h)] at h
        have hm : rd_T35 ps q ∈ ps:=by
          rw [rd_T35,List.getD_eq_getElem?_getD,List.getElem?_eq_getElem (by omega)]
          exact List.getElem_mem _
        have hpl:=hsz _ hm
        have hpo:=List.all_eq_true.1 hps _ hm
        generalize hr : (rd_T35 ps q).f1 = r at h hpl ⊢
        have hro : r.all (okSym l0.length l1.length) = true:=by
          rw [← hr]
          simp only [okProd,Bool.and_eq_true] at hpo
          exact hpo.2
        refine Ev.neg hq (Ev.pos (by omega) (Ev.pos (by omega) (Ev.pos hrm ?_)))
        have e4 : wrap64 ((r.length : Int) - 1) = (r.length : Int) - 1:=wrap64_id (by omega) (by omega)
        rw [e4]
        have hpush:=push_ev (l0:=l0) (l1:=l1) (a2:=a2) (a3:=a3) (ps:=ps) (tb:=tb) (look:=look) (q:=q) (sp:=sp ++ [q]) (base:=st.reverse) (r:=r) (X:=mOut (some R)) (by omega) hrm hr hpl (by rw [List.length_reverse];omega) ?_ r.length (Nat.le_refl _)
        · rw [List.drop_length,List.reverse_nil,List.append_nil] at hpush
          exact hpush
        · rw [← List.reverse_append,List.length_reverse]
          by_cases hc : (decide ((r ++ st).length ≤ 10000) && decide ((sp ++ [q]).length ≤ 10000)) = true
          · rw [if_pos hc] at h
            simp only [Bool.and_eq_true,decide_eq_true_eq] at hc
            exact Ev.neg (by omega) (Ev.neg (by omega) (feed_l0_ev hps htab hl0 hl1 hsz m (r ++ st) (sp ++ [q]) R h (by rw [List.all_append,hro,hok];rfl) (by omega) hc.2))
          · rw [if_neg hc] at h
            have h:=(Option.some.inj h).symm
            subst h
            have e5 : mOut (some ((2 : Int),r ++ st,([] : List Int))) = ([],true,[],2) := by simp [mOut]
            rw [e5]
            by_cases h1 : (r ++ st).length ≤ 10000
            · have h2 : ¬ (sp ++ [q]).length ≤ 10000:=fun h2 => hc (by simp only [Bool.and_eq_true,decide_eq_true_eq];exact ⟨h1,h2⟩)
              exact Ev.neg (by omega) (Ev.pos (by omega) (Ev.some rfl))
            · exact Ev.pos (by omega) (Ev.some rfl)
variable {tb : List (List Int)}
structure Fit (l1 : List Tok) (ps : List Prod) (tb : List (List Int)) : Prop where
  small : Small ps
  toks : l1.length ≤ 1000000
  rows : tb.length ≤ 100000000
  row : ∀ r ∈ tb,r.length ≤ 100000000
theorem machFeed_val (hf : Fit l1 ps tb) (st : List Sym) (d : Bool) (look : Int) : machine_Feed.f l0 l1 a2 a3 ps tb st d look = some (mFeedAll l0.length l1.length ps tb st d look) := by
 unfold machine_Feed.f
 rw [if_pos ⟨by have:=hf.toks;omega,by have:=hf.rows;omega,by have:=hf.small.1;omega,List.all_eq_true.2 (fun p hp => decide_eq_true (hf.small.2 p hp)),List.all_eq_true.2 (fun r hr => decide_eq_true (by have:=hf.row r hr;omega))⟩]
theorem machRight_val (hf : Fit l1 ps tb) : machine_Right.f l0 l1 a2 a3 ps tb = some (tbRight l0.length l1.length ps tb) := by
 unfold machine_Right.f
 rw [if_pos ⟨by have:=hf.toks;omega,by have:=hf.rows;omega,by have:=hf.small.1;omega,List.all_eq_true.2 (fun p hp => decide_eq_true (by have:=hf.small.2 p hp;omega)),List.all_eq_true.2 (fun r hr => decide_eq_true (by have:=hf.row r hr;omega))⟩]
theorem refRight16_ev' (hf : Fit l1 ps tb) : Ev (fun k => regletref16_Right.f k l0 l1 a2 a3 ps tb) (tbRight l0.length l1.length ps tb) :=
  refRight16_ev hf.small (by have:=hf.toks;omega) (by have:=hf.rows;omega) (fun r hr => by have:=hf.row r hr;omega)
theorem tbRight_nn {nn nt : Nat} {ps : List Prod} {tb : List (List Int)} (h : tbRight nn nt ps tb = true) : nn ≠ 0:=by
 simp only [tbRight,Bool.and_eq_true,Bool.not_eq_true',decide_eq_false_iff_not] at h
 exact h.2.1
theorem refFeed_ev (hf : Fit l1 ps tb) (st : List Sym) (d : Bool) (look : Int) (hst : st.length ≤ 1000000) : Ev (fun k => regletref16_Feed.f k l0 l1 a2 a3 ps tb st d look) (mFeedAll l0.length l1.length ps tb st d look) := by
 refine Ev.congr (fun k => by rw [regletref16_Feed.f]) (Ev.bind (refRight16_ev' hf) ?_)
 have hno : Ev (fun k => regletref16_Feed.j0 k tb look true l0 l1 a2 a3 ps st d) ([],true,[],1) := Ev.step (fun k => by rw [regletref16_Feed.j0]) (Ev.pos rfl (Ev.some rfl))
 unfold mFeedAll
 cases hr : tbRight l0.length l1.length ps tb with
 | false =>
  refine Ev.neg (by simp) (Ev.val hno ?_)
  rw [if_neg (fun h => by cases h.1)]
 | true =>
  refine Ev.pos rfl (Ev.bind (stack_ev (tbRight_nn hr) hst) ?_)
  cases ha : stAwaits l0.length l1.length st with
  | false =>
   refine Ev.neg (by simp) (Ev.val hno ?_)
   rw [if_neg (fun h => by cases h.2.1)]
  | true =>
   refine Ev.pos rfl ?_
   by_cases h0 : look < 0
   · refine Ev.pos h0 (Ev.val hno ?_)
     rw [if_neg (fun h => by omega)]
   refine Ev.neg h0 ?_
   by_cases h1 : look > (l1.length : Int)
   · rw [decide_eq_true h1]
     refine Ev.val hno ?_
     rw [if_neg (fun h => by omega)]
   rw [decide_eq_false h1]
   rw [if_pos ⟨rfl,rfl,by omega,by omega⟩]
   refine Ev.step (fun k => by rw [regletref16_Feed.j0]) ?_
   refine Ev.neg (by simp) ?_
   cases d with
   | true => exact Ev.pos rfl (Ev.some (by rw [if_pos rfl]))
   | false =>
    refine Ev.neg (by simp) (Ev.pos (by simp only [List.length_nil];omega) ?_)
    rw [if_neg (by simp),List.nil_append]
    obtain ⟨R,hR⟩ := mFeed_some (nt:=l1.length) (ps:=ps) (tb:=tb) (look:=look) 10002 st.reverse [] (by omega) (by simp)
    rw [hR]
    have h:=feed_l0_ev (l0:=l0) (l1:=l1) (a2:=a2) (a3:=a3) (tbRight_prods hr) (tbRight_tab hr) (by omega) (by omega) hf.small.2 10002 st.reverse [] R hR (by rw [List.all_reverse];simp only [stAwaits,Bool.and_eq_true] at ha;exact ha.2) (by rw [List.length_reverse];exact hst) (by simp)
    rw [List.reverse_reverse] at h
    exact h
end
section
theorem same16_l0_ev (d : Bool) : ∀ (a pre : List Sym),pre.length + a.length ≤ 1000000 → Ev (fun k => regletref16_Same.l0 k (pre.length : Int) (pre ++ a) d (pre ++ a) d) true
  | [],pre,_ => by
    refine Ev.step (fun k => by rw [regletref16_Same.l0]) ?_
    exact Ev.neg (by simp) (Ev.some rfl)
  | x :: a,pre,h => by
    simp only [List.length_cons] at h
    have ih:=same16_l0_ev d a (pre ++ [x]) (by simp;omega)
    simp only [← wrap_next pre _ (show pre.length ≤ 1000000 by omega),List.append_assoc,List.singleton_append] at ih
    refine Ev.step (fun k => by rw [regletref16_Same.l0]) ?_
    exact Ev.pos (by simp;omega) (Ev.pos (by omega) (Ev.pos (by simp;omega) (Ev.neg (by simp) ih)))
theorem same16_ev (d : Bool) (a : List Sym) (h : a.length ≤ 1000000) : Ev (fun k => regletref16_Same.f k a d a d) true:=by
 have h0 : Ev (fun k => regletref16_Same.j0 k false a d a d) true:=by
  refine Ev.step (fun k => by rw [regletref16_Same.j0]) ?_
  exact Ev.neg (by simp) (by simpa using same16_l0_ev d a [] (by simpa using h) : Ev (fun k => regletref16_Same.l0 k 0 a d a d) _)
 refine Ev.congr (fun k => by rw [regletref16_Same.f]) (Ev.neg (by simp) ?_)
 have e : ((a.length : Int) != (a.length : Int)) = false:=by simp
 rw [e]
 exact h0
variable {l0 : List ByteArray} {l1 : List Tok} {a2 a3 : Int} {ps : List Prod} {tb : List (List Int)}
theorem mFeed_len {nt : Nat} {ps : List Prod} {tb : List (List Int)} {look : Int} : ∀ (k : Nat) (st : List Sym) (sp : List Int) (R : Int × List Sym × List Int),mFeed nt ps tb look k st sp = some R → st.length ≤ 10000 → sp.length ≤ 10000 → R.2.2.length ≤ 10000 ∧ (R.1 = 0 → R.2.1.length ≤ 10000)
  | 0,_,_,_,h,_,_ => by simp [mFeed] at h
  | k + 1,[],sp,R,h,_,hs => by
    rw [mFeed] at h
    have h:=(Option.some.inj h).symm
    subst h
    exact ⟨hs,fun _ => by simp⟩
  | k + 1,x :: st,sp,R,h,hl,hs => by
    rw [mFeed] at h
    simp only [List.length_cons] at hl
    split at h
    · have h:=(Option.some.inj h).symm
      subst h
      exact ⟨hs,fun _ => by simp only;omega⟩
    · split at h
      · have h:=(Option.some.inj h).symm
        subst h
        exact ⟨hs,fun h => by simp at h⟩
      · split at h
        · rename_i hc
          simp only [Bool.and_eq_true,decide_eq_true_eq] at hc
          exact mFeed_len k _ _ R h hc.1 hc.2
        · have h:=(Option.some.inj h).symm
          subst h
          exact ⟨by simp,fun h => by simp at h⟩
theorem mFeedAll_len {nn nt : Nat} {ps : List Prod} {tb : List (List Int)} (st : List Sym) (d : Bool) (look : Int) : (mFeedAll nn nt ps tb st d look).1.length ≤ 10000 ∧ (mFeedAll nn nt ps tb st d look).2.2.1.length ≤ 10000:=by
 unfold mFeedAll
 split
 · rename_i h
   split
   · simp
   · obtain ⟨R,hR⟩ := mFeed_some (nt:=nt) (ps:=ps) (tb:=tb) (look:=look) 10002 st.reverse [] (by omega) (by simp)
     rw [hR]
     have ha : st.length ≤ 10000:=by have:=h.2.1;simp only [stAwaits,Bool.and_eq_true,decide_eq_true_eq] at this;exact this.1
     have hl:=mFeed_len 10002 st.reverse [] R hR (by rw [List.length_reverse];exact ha) (by simp)
     obtain ⟨e,s,p⟩ := R
     have em : mOut (some (e,s,p)) = if e = 0 then (s.reverse,false,p,0) else ([],true,p,e) := rfl
     rw [em]
     split
     · rename_i he
       exact ⟨by rw [List.length_reverse];exact hl.2 he,hl.1⟩
     · exact ⟨by simp,hl.1⟩
 · simp
theorem mFeedAll_bad {nn nt : Nat} {ps : List Prod} {tb : List (List Int)} (st : List Sym) (d : Bool) {look : Int} (h : ¬ (0 ≤ look ∧ look ≤ (nt : Int))) : mFeedAll nn nt ps tb st d look = ([],true,[],1) := by
 unfold mFeedAll
 rw [if_neg (fun hh => h hh.2.2)]
theorem fed_ev (hf : Fit l1 ps tb) (st : List Sym) (d : Bool) (look : Int) (hst : st.length ≤ 1000000) : Ev (fun k => regletlaw16_fed.f k l0 l1 a2 a3 ps tb st d look) true:=by
 have hl:=mFeedAll_len (nn:=l0.length) (nt:=l1.length) (ps:=ps) (tb:=tb) st d look
 refine Ev.congr (fun k => by rw [regletlaw16_fed.f]) (Ev.bind0 (machFeed_val hf st d look) (Ev.bind (refFeed_ev hf st d look hst) ?_))
 generalize mFeedAll l0.length l1.length ps tb st d look = r at hl ⊢
 refine Ev.bind (same16_ev _ _ (by omega)) (Ev.pos rfl (Ev.bind (sameInts_ev _ (by omega)) (Ev.pos rfl (Ev.pos rfl (Ev.bind0 (machRight_val hf) (Ev.bind (refRight16_ev' hf) ?_))))))
 exact Ev.some (by simp)
def mRun (nn nt : Nat) (ps : List Prod) (tb : List (List Int)) : List Int → Nat → List Sym → Bool → List Int → List Int × Int × Int
  | [],i,st,d,out => if (mFeedAll nn nt ps tb st d (nt : Int)).2.2.2 = 0 then (out ++ (mFeedAll nn nt ps tb st d (nt : Int)).2.2.1,0,0) else ([],(mFeedAll nn nt ps tb st d (nt : Int)).2.2.2,(i : Int))
  | x :: rest,i,st,d,out =>
    if x < 0 ∨ (nt : Int) ≤ x then ([],1,(i : Int))
    else if (mFeedAll nn nt ps tb st d x).2.2.2 = 0 then mRun nn nt ps tb rest (i + 1) (mFeedAll nn nt ps tb st d x).1 (mFeedAll nn nt ps tb st d x).2.1 (out ++ (mFeedAll nn nt ps tb st d x).2.2.1)
    else ([],(mFeedAll nn nt ps tb st d x).2.2.2,(i : Int))
set_option maxRecDepth 100000 in
theorem len_step {a b c n : Nat} (h : n ≤ a + c + 10000 * (b + 1)) (h2 : c ≤ 10000) : n ≤ a + 10000 * (b + 1 + 1) := by omega
set_option maxRecDepth 100000 in
theorem len_end {a c : Nat} (h2 : c ≤ 10000) : a + c ≤ a + 10000 * (0 + 1) := by omega
set_option maxRecDepth 100000 in
theorem len_ok {a b : Nat} (h : a ≤ 0 + 10000 * (b + 1)) (h2 : b ≤ 20) : a ≤ 1000000:=by omega
theorem mRun_len {nn nt : Nat} {ps : List Prod} {tb : List (List Int)} : ∀ (rest : List Int) (i : Nat) (st : List Sym) (d : Bool) (out : List Int),(mRun nn nt ps tb rest i st d out).1.length ≤ out.length + 10000 * (rest.length + 1)
  | [],i,st,d,out => by
    have hl:=mFeedAll_len (nn:=nn) (nt:=nt) (ps:=ps) (tb:=tb) st d (nt : Int)
    rw [mRun]
    split
    · rw [List.length_append,List.length_nil];exact len_end hl.2
    · simp
  | x :: rest,i,st,d,out => by
    have hl:=mFeedAll_len (nn:=nn) (nt:=nt) (ps:=ps) (tb:=tb) st d x
    rw [mRun]
    split
    · simp
    · split
      · have ih:=mRun_len (nn:=nn) (nt:=nt) (ps:=ps) (tb:=tb) rest (i + 1) (mFeedAll nn nt ps tb st d x).1 (mFeedAll nn nt ps tb st d x).2.1 (out ++ (mFeedAll nn nt ps tb st d x).2.2.1)
        rw [List.length_append] at ih
        rw [List.length_cons]
        exact len_step ih hl.2
      · simp
theorem machRun_l0_ev (hf : Fit l1 ps tb) {l : List Int} (hl : l.length ≤ 1000000) : ∀ (rest pre : List Int) (st : List Sym) (d : Bool) (out : List Int),l = pre ++ rest → out.length ≤ 10000 * pre.length →
    Ev (fun k => machine_Run.l0 k tb l out (l ++ [(l1.length : Int)]) ((l ++ [(l1.length : Int)]).length : Int) (pre.length : Int) l0 l1 a2 a3 ps st d) (mRun l0.length l1.length ps tb rest pre.length st d out)
  | [],pre,st,d,out,e,ho => by
    rw [List.append_nil] at e
    subst e
    have hs:=mFeedAll_len (nn:=l0.length) (nt:=l1.length) (ps:=ps) (tb:=tb) st d (l1.length : Int)
    have er : rd (l ++ [(l1.length : Int)]) (l.length : Int) = (l1.length : Int) := getD_mid _ l _ [] _ rfl
    have el : (l ++ [(l1.length : Int)]).length = l.length + 1:=by simp
    refine Ev.step (fun k => by rw [machine_Run.l0]) (Ev.pos (by rw [el];omega) (Ev.pos (by omega) (Ev.pos (by rw [el];omega) (Ev.neg (by omega) ?_))))
    refine Ev.step (fun k => by rw [machine_Run.j1]) (Ev.neg (by simp) ?_)
    rw [er]
    refine Ev.bind0 (machFeed_val hf st d _) ?_
    rw [mRun]
    by_cases h : (mFeedAll l0.length l1.length ps tb st d (l1.length : Int)).2.2.2 = 0
    · rw [if_pos h]
      refine Ev.pos h (Ev.pos (by omega) ?_)
      refine Ev.step (fun k => by rw [machine_Run.l0]) ?_
      refine Ev.neg ?_ (Ev.some rfl)
      rw [wrap64_id (by omega) (by omega),el]
      omega
    · rw [if_neg h]
      exact Ev.neg h (Ev.some rfl)
  | x :: rest,pre,st,d,out,e,ho => by
    have hs:=mFeedAll_len (nn:=l0.length) (nt:=l1.length) (ps:=ps) (tb:=tb) st d x
    have hlt : pre.length < l.length:=by rw [e];simp
    have el : (l ++ [(l1.length : Int)]).length = l.length + 1:=by simp
    have er : rd (l ++ [(l1.length : Int)]) (pre.length : Int) = x:=by rw [e,List.append_assoc];exact getD_mid _ pre x _ _ rfl
    refine Ev.step (fun k => by rw [machine_Run.l0]) (Ev.pos (by rw [el];omega) (Ev.pos (by omega) (Ev.pos (by rw [el];omega) (Ev.pos (by omega) ?_))))
    rw [er]
    rw [mRun]
    by_cases hx : x = (l1.length : Int)
    · rw [if_pos (.inr (by omega))]
      refine Ev.step (fun k => by rw [machine_Run.j1]) (Ev.pos (by simp [hx]) (Ev.some rfl))
    · refine Ev.step (fun k => by rw [machine_Run.j1]) (Ev.neg (by simp [hx]) (Ev.bind0 (machFeed_val hf st d _) ?_))
      by_cases hb : x < 0 ∨ (l1.length : Int) ≤ x
      · rw [if_pos hb,mFeedAll_bad st d (by omega)]
        refine Ev.neg (by simp) (Ev.some rfl)
      · rw [if_neg hb]
        by_cases h : (mFeedAll l0.length l1.length ps tb st d x).2.2.2 = 0
        · rw [if_pos h]
          refine Ev.pos h (Ev.pos (by omega) ?_)
          have ih:=machRun_l0_ev hf hl rest (pre ++ [x]) (mFeedAll l0.length l1.length ps tb st d x).1 (mFeedAll l0.length l1.length ps tb st d x).2.1 (out ++ (mFeedAll l0.length l1.length ps tb st d x).2.2.1) (by rw [List.append_assoc];exact e) (by simp only [List.length_append,List.length_singleton];omega)
          rw [← wrap_next pre x (by omega),show (pre ++ [x]).length = pre.length + 1 by simp] at ih
          exact ih
        · rw [if_neg h]
          exact Ev.neg h (Ev.some rfl)
theorem machRun_ev (hf : Fit l1 ps tb) {l : List Int} (hl : l.length ≤ 1000000) : Ev (fun k => machine_Run.f k l0 l1 a2 a3 ps tb l) (mRun l0.length l1.length ps tb l 0 [⟨false,0⟩] false []) := by
 refine Ev.congr (fun k => by rw [machine_Run.f]) ?_
 refine Ev.bind0 (a:=([(⟨false,0⟩ : Sym)],false)) rfl ?_
 refine Ev.bind0 (a:=l) (by unfold slices_Clone_int_int.f;rw [if_pos (by omega)]) ?_
 refine Ev.bind0 (a := [(l1.length : Int)]) rfl ?_
 refine Ev.pos (by rw [List.length_singleton];omega) ?_
 refine Ev.bind0 (a:=l ++ [(l1.length : Int)]) rfl ?_
 exact machRun_l0_ev hf hl l [] [⟨false,0⟩] false [] rfl (by simp)
theorem refRun_l0_ev (hf : Fit l1 ps tb) {l : List Int} (hl : l.length ≤ 1000000) : ∀ (rest pre : List Int) (st : List Sym) (d : Bool) (out : List Int),l = pre ++ rest → out.length ≤ 10000 * pre.length → st.length ≤ 10000 →
    Ev (fun k => regletref16_Run.l0 k tb l out (pre.length : Int) l0 l1 a2 a3 ps st d) (mRun l0.length l1.length ps tb rest pre.length st d out)
  | [],pre,st,d,out,e,ho,hst => by
    rw [List.append_nil] at e
    subst e
    have hs:=mFeedAll_len (nn:=l0.length) (nt:=l1.length) (ps:=ps) (tb:=tb) st d (l1.length : Int)
    refine Ev.step (fun k => by rw [regletref16_Run.l0]) (Ev.pos (by omega) (Ev.neg (by omega) (Ev.bind (refFeed_ev hf st d _ (by omega)) ?_)))
    rw [mRun]
    by_cases h : (mFeedAll l0.length l1.length ps tb st d (l1.length : Int)).2.2.2 = 0
    · rw [if_pos h]
      refine Ev.pos h (Ev.pos (by omega) ?_)
      refine Ev.step (fun k => by rw [regletref16_Run.l0]) ?_
      refine Ev.neg ?_ (Ev.some rfl)
      rw [wrap64_id (by omega) (by omega)]
      omega
    · rw [if_neg h]
      exact Ev.neg h (Ev.some rfl)
  | x :: rest,pre,st,d,out,e,ho,hst => by
    have hs:=mFeedAll_len (nn:=l0.length) (nt:=l1.length) (ps:=ps) (tb:=tb) st d x
    have hlt : pre.length < l.length:=by rw [e];simp
    have er : rd l (pre.length : Int) = x:=by rw [e];exact getD_mid _ pre x _ _ rfl
    refine Ev.step (fun k => by rw [regletref16_Run.l0]) (Ev.pos (by omega) (Ev.pos (by omega) (Ev.pos (by omega) ?_)))
    rw [er]
    rw [mRun]
    have hj : ∀ b : Bool,b = decide (x < 0 ∨ (l1.length : Int) ≤ x) → Ev (fun k => regletref16_Run.j1 k tb l out (pre.length : Int) x b l0 l1 a2 a3 ps st d) (if x < 0 ∨ (l1.length : Int) ≤ x then ([],1,(pre.length : Int)) else if (mFeedAll l0.length l1.length ps tb st d x).2.2.2 = 0 then mRun l0.length l1.length ps tb rest (pre.length + 1) (mFeedAll l0.length l1.length ps tb st d x).1 (mFeedAll l0.length l1.length ps tb st d x).2.1 (out ++ (mFeedAll l0.length l1.length ps tb st d x).2.2.1) else ([],(mFeedAll l0.length l1.length ps tb st d x).2.2.2,(pre.length : Int))) := by
      intro b hb
      refine Ev.step (fun k => by rw [regletref16_Run.j1]) ?_
      by_cases hx : x < 0 ∨ (l1.length : Int) ≤ x
      · rw [if_pos hx]
        exact Ev.pos (by rw [hb];exact decide_eq_true hx) (Ev.some rfl)
      · rw [if_neg hx]
        refine Ev.neg (by rw [hb,decide_eq_false hx];simp) (Ev.bind (refFeed_ev hf st d _ (by omega)) ?_)
        by_cases h : (mFeedAll l0.length l1.length ps tb st d x).2.2.2 = 0
        · rw [if_pos h]
          refine Ev.pos h (Ev.pos (by omega) ?_)
          have ih:=refRun_l0_ev hf hl rest (pre ++ [x]) (mFeedAll l0.length l1.length ps tb st d x).1 (mFeedAll l0.length l1.length ps tb st d x).2.1 (out ++ (mFeedAll l0.length l1.length ps tb st d x).2.2.1) (by rw [List.append_assoc];exact e) (by simp only [List.length_append,List.length_singleton];omega) hs.1
          rw [← wrap_next pre x (by omega),show (pre ++ [x]).length = pre.length + 1 by simp] at ih
          exact ih
        · rw [if_neg h]
          exact Ev.neg h (Ev.some rfl)
    by_cases h0 : x < 0
    · exact Ev.pos h0 (hj true (by simp [h0]))
    · exact Ev.neg h0 (hj _ (by simp [h0]))
theorem refRun_ev (hf : Fit l1 ps tb) {l : List Int} (hl : l.length ≤ 1000000) : Ev (fun k => regletref16_Run.f k l0 l1 a2 a3 ps tb l) (mRun l0.length l1.length ps tb l 0 [⟨false,0⟩] false []) := by
 refine Ev.congr (fun k => by rw [regletref16_Run.f]) ?_
 refine Ev.bind0 (a:=([(⟨false,0⟩ : Sym)],false)) rfl ?_
 exact refRun_l0_ev hf hl l [] [⟨false,0⟩] false [] rfl (by simp) (by simp)
theorem ran_ev (hf : Fit l1 ps tb) {l : List Int} (hl : l.length ≤ 20) : Ev (fun k => regletlaw16_ran.f k l0 l1 a2 a3 ps tb l) true:=by
 have h:=mRun_len (nn:=l0.length) (nt:=l1.length) (ps:=ps) (tb:=tb) l 0 [⟨false,0⟩] false []
 refine Ev.congr (fun k => by rw [regletlaw16_ran.f]) (Ev.bind (machRun_ev hf (Nat.le_trans hl (by decide))) (Ev.bind (refRun_ev hf (Nat.le_trans hl (by decide))) ?_))
 generalize mRun l0.length l1.length ps tb l 0 [⟨false,0⟩] false [] = r at h ⊢
 have hr : r.1.length ≤ 1000000:=len_ok h hl
 refine Ev.bind (sameInts_ev _ hr) (Ev.pos rfl (Ev.pos rfl ?_))
 exact Ev.some (by simp)
end
end Go.Proofs.Ytapjfnfengefpaa.M
end

section
namespace Go.Proofs.Ytapjfnfengefpaa.M
open Go.RowKit Go.Proofs.YtapjfnfengefpaaW.PrintWords Go.Proofs.YtapjfnfengefpaaW.PrintLast Go.Proofs.YtapjfnfengefpaaW.PrintMore Go.Proofs.Ytapjfnfengefpaa.P Go.Proofs.Ytapjfnfengefpaa.H
theorem awake16_some : regletlaw16_awake.f 40 = some true:=by kernel_rfl
theorem awake16_ev : Ev (fun k => regletlaw16_awake.f k) true:=Ev.of regletlaw16_awake.mono awake16_some
end Go.Proofs.Ytapjfnfengefpaa.M
end

section
namespace Go.Proofs.Ytapjfnfengefpaa.Pure
open Go.RowKit Go.Proofs.Ytapjfnfengefpaa.P Go.Proofs.YtapjfnfengefpaaW.PrintWords Go.Proofs.YtapjfnfengefpaaW.PrintLast Go.Proofs.YtapjfnfengefpaaW.PrintMore Go.Proofs.Ytapjfnfengefpaa.H Go.Proofs.Ytapjfnfengefpaa.M Go.Proofs.Ytapjfnfengefpaa.Open
set_option linter.unusedVariables false
theorem szl_len : ∀ (ps : List S35),ps.length ≤ szL (fun p : S35 => p.f1.length + 1) ps
  | [] => Nat.zero_le _
  | p :: ps => by have:=szl_len ps;simp only [szL,List.length_cons];omega
theorem szl_tab (tb : List (List Int)) : tb.length ≤ szL (szL (fun _ : Int => 1)) tb ∧ ∀ r ∈ tb,r.length ≤ szL (szL (fun _ : Int => 1)) tb:=by
 have h1 : ∀ r : List Int,r.length + 1 ≤ szL (fun _ : Int => 1) r:=fun r => szL_length (fun _ => Nat.le_refl _) r
 refine ⟨?_,fun r hr => ?_⟩
 · have:=szL_length (sz:=szL (fun _ : Int => 1)) (fun r => by have:=h1 r;omega) tb
   omega
 · have h2:=szL_mem (sz:=szL (fun _ : Int => 1)) hr
   have:=h1 r
   omega
theorem any16_l0_ev (l0 : List ByteArray) (l1 : List S72) (a2 a3 : Int) (all : List S35) (tb : List (List Int)) (st : List S43) (d : Bool) (l : List Int) (h1 : l1.length ≤ 30) (h4 : all.length ≤ 30) (ht : tb.length ≤ 1048576) (htr : ∀ r ∈ tb,r.length ≤ 1048576) (hst : st.length ≤ 30) (hl : l.length ≤ 10) : ∀ (qs pre : List S35),pre ++ qs = all → (∀ p ∈ pre,p.f1.length ≤ 10) → Ev (fun k => regletlaw16_MachineAny.l0 k tb l (pre.length : Int) l0 l1 a2 a3 all st d) true
  | [],pre,e,hp => by
    rw [List.append_nil] at e
    subst e
    have hf : Fit l1 pre tb:=⟨⟨by omega,fun p h => by have:=hp p h;omega⟩,by omega,by omega,fun r hr => by have:=htr r hr;omega⟩
    refine Ev.step (fun k => by rw [regletlaw16_MachineAny.l0]) (Ev.neg (by simp) ?_)
    by_cases h0 : (l.length : Int) > 0
    · exact Ev.pos h0 (Ev.pos h0 (Ev.bind awake16_ev (Ev.pos rfl (Ev.bind (fed_ev hf st d _ (by omega)) (Ev.pos rfl (Ev.bind (ran_ev hf (by omega)) (Ev.some rfl)))))))
    · exact Ev.neg h0 (Ev.bind awake16_ev (Ev.pos rfl (Ev.bind (fed_ev hf st d _ (by omega)) (Ev.pos rfl (Ev.bind (ran_ev hf (by omega)) (Ev.some rfl))))))
  | p :: qs,pre,e,hp => by
    have hl' : pre.length + (qs.length + 1) = all.length:=by rw [← e];simp
    have er : rd_T35 all (pre.length : Int) = p:=by rw [← e];exact getD_mid _ pre p qs _ rfl
    refine Ev.step (fun k => by rw [regletlaw16_MachineAny.l0]) (Ev.pos (by omega) (Ev.pos (by omega) ?_))
    rw [er]
    by_cases hs : (p.f1.length : Int) > 10
    · exact Ev.pos hs (Ev.bind awake16_ev (Ev.some rfl))
    · have ih:=any16_l0_ev l0 l1 a2 a3 all tb st d l h1 h4 ht htr hst hl qs (pre ++ [p]) (by rw [List.append_assoc];exact e) (fun q hq => by
        rcases List.mem_append.1 hq with h | h
        · exact hp q h
        · rw [List.mem_singleton.1 h];omega)
      rw [← wrap_next pre p (by omega)] at ih
      exact Ev.neg hs ih
theorem MachineAny (l0 : List ByteArray) (l1 : List S72) (a2 a3 : Int) (l4 : List S35) (tb : List (List Int)) (st : List S43) (d : Bool) (l : List Int) (h : l0.length + l1.length + szL (fun p : S35 => p.f1.length + 1) l4 + szL (szL (fun _ : Int => 1)) tb + st.length + l.length ≤ 1048576) : ∃ k,regletlaw16_MachineAny.f k l0 l1 a2 a3 l4 tb st d l = some true:=by
 have hl:=szl_len l4
 have ht:=szl_tab tb
 apply Ev.rounds
 have hno : Ev (fun k => regletlaw16_MachineAny.j0 k tb l true l0 l1 a2 a3 l4 st d) true:=Ev.step (fun k => by rw [regletlaw16_MachineAny.j0]) (Ev.pos rfl (Ev.bind awake16_ev (Ev.some rfl)))
 unfold regletlaw16_MachineAny.f
 have e1 : wrap64 ((l0.length : Int) + (l1.length : Int)) = (l0.length : Int) + (l1.length : Int) := wrap64_id (by omega) (by omega)
 have e2 : wrap64 ((l0.length : Int) + (l1.length : Int) + (l4.length : Int)) = (l0.length : Int) + (l1.length : Int) + (l4.length : Int) := wrap64_id (by omega) (by omega)
 rw [e1,e2]
 by_cases hs : (l0.length : Int) + (l1.length : Int) + (l4.length : Int) > 30
 · exact Ev.pos hs hno
 refine Ev.neg hs ?_
 by_cases hst : (st.length : Int) > 30
 · exact Ev.pos hst hno
 refine Ev.neg hst ?_
 by_cases hll : (l.length : Int) > 10
 · rw [decide_eq_true hll];exact hno
 rw [decide_eq_false hll]
 refine Ev.step (fun k => by rw [regletlaw16_MachineAny.j0]) (Ev.neg (by simp) ?_)
 exact any16_l0_ev l0 l1 a2 a3 l4 tb st d l (by omega) (by omega) (by omega) (fun r hr => by have:=ht.2 r hr;omega) (by omega) (by omega) l4 [] rfl (fun _ h => by cases h)
end Go.Proofs.Ytapjfnfengefpaa.Pure
end
