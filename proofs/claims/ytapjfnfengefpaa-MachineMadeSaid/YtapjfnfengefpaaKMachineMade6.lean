/- Packed texts of this claim: the walks of the functions, and their plain laws; see the claim's last text. -/
import Derived.Test.YtapjfnfengefpaaKMachineMade5
section
namespace Go.Proofs.Ytapjfnfengefpaa.P
open Go.RowKit Go.Proofs.YtapjfnfengefpaaW.PrintWords Go.Proofs.YtapjfnfengefpaaW.PrintLast Go.Proofs.YtapjfnfengefpaaW.PrintMore
attribute [local go_sem] max2_int min2_int max_two min_two max_three min_three max_four min_four   -- for this text's walks alone
set_option linter.unusedVariables false
set_option linter.unusedSimpArgs false
def regletlaw16_awake.f (k:Nat)  :Option (Bool):=(some (([(⟨#[97]⟩:ByteArray)]:List ByteArray):List ByteArray)).bind fun y145=>(if 1≤2706490160679 then((some (List.replicate 1 z72:List (S72))).bind fun y148=>((some (([(⟨0,(([(⟨true,0⟩:S43),(⟨false,0⟩:S43)]:List (S43)))⟩:S35),(⟨0,([]:List (S43))⟩:S35)]:List (S35)):List (S35))).bind fun y154=>((some (([(([0,1]:List Int))]:List (List Int)):List (List Int))).bind fun y161=>((machine_Run.f k y145 y148 0 0 y154 y161 (([0,0]:List Int))).bind fun jD=>((machine_Start.f).bind fun iU=>((machine_Feed.f y145 y148 0 0 y154 y161 iU.1 iU.2 0).bind fun eQ=>((machine_Run.f k y145 y148 0 0 y154 y161 (([1]:List Int))).bind fun gK=>(if jD.2.1=0 then((regletref13_SameInts.f k jD.1 (([0,0,1]:List Int))).bind fun t196=>(if t196=true then(if eQ.2.2.2=0 then((regletref13_SameInts.f k eQ.2.2.1 (([0]:List Int))).bind fun t200=>(if t200=true then((machine_Start.f).bind fun eJ=>((regletref16_Same.f k eQ.1 eQ.2.1 eJ.1 eJ.2).bind fun t205=>(if t205=true then(if gK.2.1=1 then(if gK.2.2=0 then((machine_Right.f y145 y148 0 0 y154 y161).bind fun t206=>(if t206=true then((machine_Right.f y145 y148 0 0 y154 ([]:List (List Int))).bind fun t207=>(some (!t207))) else(none))) else(none)) else(none)) else(none)))) else(none))) else(none)) else(none))) else(none))))))))) else(none))
theorem regletlaw16_awake.mono:∀k,LeO (regletlaw16_awake.f k) (regletlaw16_awake.f (k+1)):=by
 intro  k
 unfold regletlaw16_awake.f
 repeat' first
  |(with_reducible exact machine_Run.mono _ _ _ _ _ _ _ _)
  |(with_reducible exact regletref13_SameInts.mono _ _ _)
  |(with_reducible exact regletref16_Same.mono _ _ _ _ _)
  |(with_reducible exact LeO.refl _)
  |(with_reducible exact LeO.none _)
  |(with_reducible refine LeO.ite ?_ ?_)
  |(with_reducible refine LeO.bind ?_ (fun _=>?_))
  |exact machine_Run.mono _ _ _ _ _ _ _ _
  |exact regletref13_SameInts.mono _ _ _
  |exact regletref16_Same.mono _ _ _ _ _
  |exact LeO.none _
  |refine LeO.ite ?_ ?_
  |refine LeO.bind ?_ (fun _=>?_)
def regletlaw16_awake.T4:Bool×List (List Nat×List Nat):=(true,[([],[]),([],[]),([],[]),([0,1,2,2],[0,1,2]),([3],[3]),([4],[4]),([4],[4]),([4],[4]),([],[]),([8,5,3,0,1,2,3,4,5,8],[5,8]),([6,9,0,1,2,3,4,5,6,8,9],[6]),([7,10,0,1,2,3,4,5,6,7,8,9,10],[7])])
def regletlaw16_awake.B4:List Nat:= [0,0,0,7,15,31,31,31,0,319,895,2047]
theorem regletlaw16_awake.tab4:rtab .any (opsOf Try.f10 4)=regletlaw16_awake.T4:=by kernel_rfl
theorem regletlaw16_awake.bits4:waitsOk regletlaw16_awake.T4.2 regletlaw16_awake.B4=true:=by kernel_rfl
def regletlaw16_awake.T6:Bool×List (List Nat×List Nat):=(true,[([],[]),([0],[0]),([1],[1]),([2],[2]),([2],[2]),([3,4,2,2],[2,3,4]),([2,5],[2,5]),([6,5],[6]),([7],[7]),([8,7],[7,8]),([7,9],[7,9]),([10,7],[10]),([11],[11]),([11],[11]),([12,13,11,11],[11,12,13]),([11,14],[11,14]),([15,14],[15]),([16],[16]),([16,16],[16]),([17,18,18,16],[16,17,18]),([16,19],[16,19]),([20,19],[20]),([21],[21]),([22,21],[21,22]),([21,23],[21,23]),([24,21],[24]),([25],[25]),([26,25],[25,26]),([25,27],[25,27]),([28,25],[28]),([29],[29]),([29],[29]),([30,31,29,29],[29,30,31]),([29,32],[29,32]),([33,32],[33]),([34],[34]),([35,34,34],[34,35]),([36,34],[34,36]),([34,37],[34,37]),([38,36,0,1,2,3,4,5,6,7,8,9,10,11,12,13,14,15,16,17,18,19,20,21,22,23,24,25,26,27,28,29,30,31,32,33,34,35,36,37,38],[38])])
def regletlaw16_awake.B6:List Nat:= [0,1,3,7,7,31,63,127,255,511,1023,2047,4095,4095,16383,32767,65535,131071,131071,524287,1048575,2097151,4194303,8388607,16777215,33554431,67108863,134217727,268435455,536870911,1073741823,1073741823,4294967295,8589934591,17179869183,34359738367,68719476735,137438953471,274877906943,549755813887]
theorem regletlaw16_awake.tab6:rtab .any (opsOf Try.f10 6)=regletlaw16_awake.T6:=by kernel_rfl
theorem regletlaw16_awake.bits6:waitsOk regletlaw16_awake.T6.2 regletlaw16_awake.B6=true:=by kernel_rfl
set_option maxHeartbeats 8000000 in
set_option maxRecDepth 100000 in
theorem regletlaw16_awake.calls (k:Nat)  (r:Bool) (w:World) (h:regletlaw16_awake.f k  =some r):
 Calls Try.prog 10 #[] w fun e w'=>e= .returned (.bool r)∧Below w.heap.size w w':=by
 have hu43:=Try.underlying43
 have hu35:=Try.underlying35
 have hu26:=Try.underlying26
 have hu31:=Try.underlying31
 have HB:=aM (Below.refl w.heap.size w)
 have H:((some (([(⟨#[97]⟩:ByteArray)]:List ByteArray):List ByteArray)).bind fun y145=>(if 1≤2706490160679 then((some (List.replicate 1 z72:List (S72))).bind fun y148=>((some (([(⟨0,(([(⟨true,0⟩:S43),(⟨false,0⟩:S43)]:List (S43)))⟩:S35),(⟨0,([]:List (S43))⟩:S35)]:List (S35)):List (S35))).bind fun y154=>((some (([(([0,1]:List Int))]:List (List Int)):List (List Int))).bind fun y161=>((machine_Run.f k y145 y148 0 0 y154 y161 (([0,0]:List Int))).bind fun jD=>((machine_Start.f).bind fun iU=>((machine_Feed.f y145 y148 0 0 y154 y161 iU.1 iU.2 0).bind fun eQ=>((machine_Run.f k y145 y148 0 0 y154 y161 (([1]:List Int))).bind fun gK=>(if jD.2.1=0 then((regletref13_SameInts.f k jD.1 (([0,0,1]:List Int))).bind fun t196=>(if t196=true then(if eQ.2.2.2=0 then((regletref13_SameInts.f k eQ.2.2.1 (([0]:List Int))).bind fun t200=>(if t200=true then((machine_Start.f).bind fun eJ=>((regletref16_Same.f k eQ.1 eQ.2.1 eJ.1 eJ.2).bind fun t205=>(if t205=true then(if gK.2.1=1 then(if gK.2.2=0 then((machine_Right.f y145 y148 0 0 y154 y161).bind fun t206=>(if t206=true then((machine_Right.f y145 y148 0 0 y154 ([]:List (List Int))).bind fun t207=>(some (!t207))) else(none))) else(none)) else(none)) else(none)))) else(none))) else(none)) else(none))) else(none))))))))) else(none)))=some r:=h
 clear h
 obtain⟨y145,Gl⟩:∃y_:List ByteArray,y_=(([(⟨#[97]⟩:ByteArray)]:List ByteArray)):=⟨_,rfl⟩
 replace H:(if 1≤2706490160679 then((some (List.replicate 1 z72:List (S72))).bind fun y148=>((some (([(⟨0,(([(⟨true,0⟩:S43),(⟨false,0⟩:S43)]:List (S43)))⟩:S35),(⟨0,([]:List (S43))⟩:S35)]:List (S35)):List (S35))).bind fun y154=>((some (([(([0,1]:List Int))]:List (List Int)):List (List Int))).bind fun y161=>((machine_Run.f k y145 y148 0 0 y154 y161 (([0,0]:List Int))).bind fun jD=>((machine_Start.f).bind fun iU=>((machine_Feed.f y145 y148 0 0 y154 y161 iU.1 iU.2 0).bind fun eQ=>((machine_Run.f k y145 y148 0 0 y154 y161 (([1]:List Int))).bind fun gK=>(if jD.2.1=0 then((regletref13_SameInts.f k jD.1 (([0,0,1]:List Int))).bind fun t196=>(if t196=true then(if eQ.2.2.2=0 then((regletref13_SameInts.f k eQ.2.2.1 (([0]:List Int))).bind fun t200=>(if t200=true then((machine_Start.f).bind fun eJ=>((regletref16_Same.f k eQ.1 eQ.2.1 eJ.1 eJ.2).bind fun t205=>(if t205=true then(if gK.2.1=1 then(if gK.2.2=0 then((machine_Right.f y145 y148 0 0 y154 y161).bind fun t206=>(if t206=true then((machine_Right.f y145 y148 0 0 y154 ([]:List (List Int))).bind fun t207=>(some (!t207))) else(none))) else(none)) else(none)) else(none)))) else(none))) else(none)) else(none))) else(none))))))))) else(none))=some r:=by first|(rw [Gl];with_reducible exact H)|(have H2_:=(Option.bind_some _ _).symm.trans H;rw [Gl];with_reducible exact H2_)|(have H2_:=(Option.bind_some _ _).symm.trans H;with_reducible exact H2_)|with_reducible exact H|(rw [Gl];exact H)|exact H
 have Vq:=aM Gl
 clear Gl
 by_cases c1:1≤2706490160679
 rotate_left
 ·rw [if_neg c1] at H
  exact absurd H (by simp)
 rw [if_pos c1] at H
 have QT:=eq_true c1
 have QU:decide (1≤2706490160679)=true:=decide_eq_true c1
 clear c1
 obtain⟨y148,Gm⟩:∃y_:List (S72),y_=(List.replicate 1 z72):=⟨_,rfl⟩
 replace H:((some (([(⟨0,(([(⟨true,0⟩:S43),(⟨false,0⟩:S43)]:List (S43)))⟩:S35),(⟨0,([]:List (S43))⟩:S35)]:List (S35)):List (S35))).bind fun y154=>((some (([(([0,1]:List Int))]:List (List Int)):List (List Int))).bind fun y161=>((machine_Run.f k y145 y148 0 0 y154 y161 (([0,0]:List Int))).bind fun jD=>((machine_Start.f).bind fun iU=>((machine_Feed.f y145 y148 0 0 y154 y161 iU.1 iU.2 0).bind fun eQ=>((machine_Run.f k y145 y148 0 0 y154 y161 (([1]:List Int))).bind fun gK=>(if jD.2.1=0 then((regletref13_SameInts.f k jD.1 (([0,0,1]:List Int))).bind fun t196=>(if t196=true then(if eQ.2.2.2=0 then((regletref13_SameInts.f k eQ.2.2.1 (([0]:List Int))).bind fun t200=>(if t200=true then((machine_Start.f).bind fun eJ=>((regletref16_Same.f k eQ.1 eQ.2.1 eJ.1 eJ.2).bind fun t205=>(if t205=true then(if gK.2.1=1 then(if gK.2.2=0 then((machine_Right.f y145 y148 0 0 y154 y161).bind fun t206=>(if t206=true then((machine_Right.f y145 y148 0 0 y154 ([]:List (List Int))).bind fun t207=>(some (!t207))) else(none))) else(none)) else(none)) else(none)))) else(none))) else(none)) else(none))) else(none))))))))=some r:=by first|(rw [Gm];with_reducible exact H)|(have H2_:=(Option.bind_some _ _).symm.trans H;rw [Gm];with_reducible exact H2_)|(have H2_:=(Option.bind_some _ _).symm.trans H;with_reducible exact H2_)|with_reducible exact H|(rw [Gm];exact H)|exact H
 have Vr:=aM Gm
 clear Gm
 obtain⟨y151,Gn⟩:∃y_:List (S43),y_=(([(⟨true,0⟩:S43),(⟨false,0⟩:S43)]:List (S43))):=⟨_,rfl⟩
 replace H:((some (([(⟨0,y151⟩:S35),(⟨0,([]:List (S43))⟩:S35)]:List (S35)):List (S35))).bind fun y154=>((some (([(([0,1]:List Int))]:List (List Int)):List (List Int))).bind fun y161=>((machine_Run.f k y145 y148 0 0 y154 y161 (([0,0]:List Int))).bind fun jD=>((machine_Start.f).bind fun iU=>((machine_Feed.f y145 y148 0 0 y154 y161 iU.1 iU.2 0).bind fun eQ=>((machine_Run.f k y145 y148 0 0 y154 y161 (([1]:List Int))).bind fun gK=>(if jD.2.1=0 then((regletref13_SameInts.f k jD.1 (([0,0,1]:List Int))).bind fun t196=>(if t196=true then(if eQ.2.2.2=0 then((regletref13_SameInts.f k eQ.2.2.1 (([0]:List Int))).bind fun t200=>(if t200=true then((machine_Start.f).bind fun eJ=>((regletref16_Same.f k eQ.1 eQ.2.1 eJ.1 eJ.2).bind fun t205=>(if t205=true then(if gK.2.1=1 then(if gK.2.2=0 then((machine_Right.f y145 y148 0 0 y154 y161).bind fun t206=>(if t206=true then((machine_Right.f y145 y148 0 0 y154 ([]:List (List Int))).bind fun t207=>(some (!t207))) else(none))) else(none)) else(none)) else(none)))) else(none))) else(none)) else(none))) else(none))))))))=some r:=by first|(rw [Gn];with_reducible exact H)|(have H2_:=(Option.bind_some _ _).symm.trans H;rw [Gn];with_reducible exact H2_)|(have H2_:=(Option.bind_some _ _).symm.trans H;with_reducible exact H2_)|with_reducible exact H|(rw [Gn];exact H)|exact H
 have Vs:=aM Gn
 clear Gn
 obtain⟨y154,Gp⟩:∃y_:List (S35),y_=(([(⟨0,y151⟩:S35),(⟨0,([]:List (S43))⟩:S35)]:List (S35))):=⟨_,rfl⟩
 replace H:((some (([(([0,1]:List Int))]:List (List Int)):List (List Int))).bind fun y161=>((machine_Run.f k y145 y148 0 0 y154 y161 (([0,0]:List Int))).bind fun jD=>((machine_Start.f).bind fun iU=>((machine_Feed.f y145 y148 0 0 y154 y161 iU.1 iU.2 0).bind fun eQ=>((machine_Run.f k y145 y148 0 0 y154 y161 (([1]:List Int))).bind fun gK=>(if jD.2.1=0 then((regletref13_SameInts.f k jD.1 (([0,0,1]:List Int))).bind fun t196=>(if t196=true then(if eQ.2.2.2=0 then((regletref13_SameInts.f k eQ.2.2.1 (([0]:List Int))).bind fun t200=>(if t200=true then((machine_Start.f).bind fun eJ=>((regletref16_Same.f k eQ.1 eQ.2.1 eJ.1 eJ.2).bind fun t205=>(if t205=true then(if gK.2.1=1 then(if gK.2.2=0 then((machine_Right.f y145 y148 0 0 y154 y161).bind fun t206=>(if t206=true then((machine_Right.f y145 y148 0 0 y154 ([]:List (List Int))).bind fun t207=>(some (!t207))) else(none))) else(none)) else(none)) else(none)))) else(none))) else(none)) else(none))) else(none)))))))=some r:=by first|(rw [Gp];with_reducible exact H)|(have H2_:=(Option.bind_some _ _).symm.trans H;rw [Gp];with_reducible exact H2_)|(have H2_:=(Option.bind_some _ _).symm.trans H;with_reducible exact H2_)|with_reducible exact H|(rw [Gp];exact H)|exact H
 have Vt:=aM Gp
 clear Gp
 obtain⟨y158,Gq⟩:∃y_:List Int,y_=(([0,1]:List Int)):=⟨_,rfl⟩
 replace H:((some (([y158]:List (List Int)):List (List Int))).bind fun y161=>((machine_Run.f k y145 y148 0 0 y154 y161 (([0,0]:List Int))).bind fun jD=>((machine_Start.f).bind fun iU=>((machine_Feed.f y145 y148 0 0 y154 y161 iU.1 iU.2 0).bind fun eQ=>((machine_Run.f k y145 y148 0 0 y154 y161 (([1]:List Int))).bind fun gK=>(if jD.2.1=0 then((regletref13_SameInts.f k jD.1 (([0,0,1]:List Int))).bind fun t196=>(if t196=true then(if eQ.2.2.2=0 then((regletref13_SameInts.f k eQ.2.2.1 (([0]:List Int))).bind fun t200=>(if t200=true then((machine_Start.f).bind fun eJ=>((regletref16_Same.f k eQ.1 eQ.2.1 eJ.1 eJ.2).bind fun t205=>(if t205=true then(if gK.2.1=1 then(if gK.2.2=0 then((machine_Right.f y145 y148 0 0 y154 y161).bind fun t206=>(if t206=true then((machine_Right.f y145 y148 0 0 y154 ([]:List (List Int))).bind fun t207=>(some (!t207))) else(none))) else(none)) else(none)) else(none)))) else(none))) else(none)) else(none))) else(none)))))))=some r:=by first|(rw [Gq];with_reducible exact H)|(have H2_:=(Option.bind_some _ _).symm.trans H;rw [Gq];with_reducible exact H2_)|(have H2_:=(Option.bind_some _ _).symm.trans H;with_reducible exact H2_)|with_reducible exact H|(rw [Gq];exact H)|exact H
 have Vu:=aM Gq
 clear Gq
 obtain⟨y161,Gr⟩:∃y_:List (List Int),y_=(([y158]:List (List Int))):=⟨_,rfl⟩
 replace H:((machine_Run.f k y145 y148 0 0 y154 y161 (([0,0]:List Int))).bind fun jD=>((machine_Start.f).bind fun iU=>((machine_Feed.f y145 y148 0 0 y154 y161 iU.1 iU.2 0).bind fun eQ=>((machine_Run.f k y145 y148 0 0 y154 y161 (([1]:List Int))).bind fun gK=>(if jD.2.1=0 then((regletref13_SameInts.f k jD.1 (([0,0,1]:List Int))).bind fun t196=>(if t196=true then(if eQ.2.2.2=0 then((regletref13_SameInts.f k eQ.2.2.1 (([0]:List Int))).bind fun t200=>(if t200=true then((machine_Start.f).bind fun eJ=>((regletref16_Same.f k eQ.1 eQ.2.1 eJ.1 eJ.2).bind fun t205=>(if t205=true then(if gK.2.1=1 then(if gK.2.2=0 then((machine_Right.f y145 y148 0 0 y154 y161).bind fun t206=>(if t206=true then((machine_Right.f y145 y148 0 0 y154 ([]:List (List Int))).bind fun t207=>(some (!t207))) else(none))) else(none)) else(none)) else(none)))) else(none))) else(none)) else(none))) else(none))))))=some r:=by first|(rw [Gr];with_reducible exact H)|(have H2_:=(Option.bind_some _ _).symm.trans H;rw [Gr];with_reducible exact H2_)|(have H2_:=(Option.bind_some _ _).symm.trans H;with_reducible exact H2_)|with_reducible exact H|(rw [Gr];exact H)|exact H
 have Vv:=aM Gr
 clear Gr
 obtain⟨y164,Gs⟩:∃y_:List Int,y_=(([0,0]:List Int)):=⟨_,rfl⟩
 replace H:((machine_Run.f k y145 y148 0 0 y154 y161 y164).bind fun jD=>((machine_Start.f).bind fun iU=>((machine_Feed.f y145 y148 0 0 y154 y161 iU.1 iU.2 0).bind fun eQ=>((machine_Run.f k y145 y148 0 0 y154 y161 (([1]:List Int))).bind fun gK=>(if jD.2.1=0 then((regletref13_SameInts.f k jD.1 (([0,0,1]:List Int))).bind fun t196=>(if t196=true then(if eQ.2.2.2=0 then((regletref13_SameInts.f k eQ.2.2.1 (([0]:List Int))).bind fun t200=>(if t200=true then((machine_Start.f).bind fun eJ=>((regletref16_Same.f k eQ.1 eQ.2.1 eJ.1 eJ.2).bind fun t205=>(if t205=true then(if gK.2.1=1 then(if gK.2.2=0 then((machine_Right.f y145 y148 0 0 y154 y161).bind fun t206=>(if t206=true then((machine_Right.f y145 y148 0 0 y154 ([]:List (List Int))).bind fun t207=>(some (!t207))) else(none))) else(none)) else(none)) else(none)))) else(none))) else(none)) else(none))) else(none))))))=some r:=by first|(rw [Gs];with_reducible exact H)|(have H2_:=(Option.bind_some _ _).symm.trans H;rw [Gs];with_reducible exact H2_)|(have H2_:=(Option.bind_some _ _).symm.trans H;with_reducible exact H2_)|with_reducible exact H|(rw [Gs];exact H)|exact H
 have Vw:=aM Gs
 clear Gs
 replace H:=Option.bind_eq_some_iff.mp H
 obtain⟨⟨t167,t170,t171⟩,A20,H⟩:=H
 replace H:((machine_Start.f).bind fun iU=>((machine_Feed.f y145 y148 0 0 y154 y161 iU.1 iU.2 0).bind fun eQ=>((machine_Run.f k y145 y148 0 0 y154 y161 (([1]:List Int))).bind fun gK=>(if t170=0 then((regletref13_SameInts.f k t167 (([0,0,1]:List Int))).bind fun t196=>(if t196=true then(if eQ.2.2.2=0 then((regletref13_SameInts.f k eQ.2.2.1 (([0]:List Int))).bind fun t200=>(if t200=true then((machine_Start.f).bind fun eJ=>((regletref16_Same.f k eQ.1 eQ.2.1 eJ.1 eJ.2).bind fun t205=>(if t205=true then(if gK.2.1=1 then(if gK.2.2=0 then((machine_Right.f y145 y148 0 0 y154 y161).bind fun t206=>(if t206=true then((machine_Right.f y145 y148 0 0 y154 ([]:List (List Int))).bind fun t207=>(some (!t207))) else(none))) else(none)) else(none)) else(none)))) else(none))) else(none)) else(none))) else(none)))))=some r:=H
 have A2:=aM A20
 clear A20
 replace H:=Option.bind_eq_some_iff.mp H
 obtain⟨⟨t172,t175⟩,A30,H⟩:=H
 replace H:((machine_Feed.f y145 y148 0 0 y154 y161 t172 t175 0).bind fun eQ=>((machine_Run.f k y145 y148 0 0 y154 y161 (([1]:List Int))).bind fun gK=>(if t170=0 then((regletref13_SameInts.f k t167 (([0,0,1]:List Int))).bind fun t196=>(if t196=true then(if eQ.2.2.2=0 then((regletref13_SameInts.f k eQ.2.2.1 (([0]:List Int))).bind fun t200=>(if t200=true then((machine_Start.f).bind fun eJ=>((regletref16_Same.f k eQ.1 eQ.2.1 eJ.1 eJ.2).bind fun t205=>(if t205=true then(if gK.2.1=1 then(if gK.2.2=0 then((machine_Right.f y145 y148 0 0 y154 y161).bind fun t206=>(if t206=true then((machine_Right.f y145 y148 0 0 y154 ([]:List (List Int))).bind fun t207=>(some (!t207))) else(none))) else(none)) else(none)) else(none)))) else(none))) else(none)) else(none))) else(none))))=some r:=H
 have A3:=aM A30
 clear A30
 replace H:=Option.bind_eq_some_iff.mp H
 obtain⟨⟨t176,t179,t180,t183⟩,A40,H⟩:=H
 replace H:((machine_Run.f k y145 y148 0 0 y154 y161 (([1]:List Int))).bind fun gK=>(if t170=0 then((regletref13_SameInts.f k t167 (([0,0,1]:List Int))).bind fun t196=>(if t196=true then(if t183=0 then((regletref13_SameInts.f k t180 (([0]:List Int))).bind fun t200=>(if t200=true then((machine_Start.f).bind fun eJ=>((regletref16_Same.f k t176 t179 eJ.1 eJ.2).bind fun t205=>(if t205=true then(if gK.2.1=1 then(if gK.2.2=0 then((machine_Right.f y145 y148 0 0 y154 y161).bind fun t206=>(if t206=true then((machine_Right.f y145 y148 0 0 y154 ([]:List (List Int))).bind fun t207=>(some (!t207))) else(none))) else(none)) else(none)) else(none)))) else(none))) else(none)) else(none))) else(none)))=some r:=H
 have A4:=aM A40
 clear A40
 obtain⟨y185,Gt⟩:∃y_:List Int,y_=(([1]:List Int)):=⟨_,rfl⟩
 replace H:((machine_Run.f k y145 y148 0 0 y154 y161 y185).bind fun gK=>(if t170=0 then((regletref13_SameInts.f k t167 (([0,0,1]:List Int))).bind fun t196=>(if t196=true then(if t183=0 then((regletref13_SameInts.f k t180 (([0]:List Int))).bind fun t200=>(if t200=true then((machine_Start.f).bind fun eJ=>((regletref16_Same.f k t176 t179 eJ.1 eJ.2).bind fun t205=>(if t205=true then(if gK.2.1=1 then(if gK.2.2=0 then((machine_Right.f y145 y148 0 0 y154 y161).bind fun t206=>(if t206=true then((machine_Right.f y145 y148 0 0 y154 ([]:List (List Int))).bind fun t207=>(some (!t207))) else(none))) else(none)) else(none)) else(none)))) else(none))) else(none)) else(none))) else(none)))=some r:=by first|(rw [Gt];with_reducible exact H)|(have H2_:=(Option.bind_some _ _).symm.trans H;rw [Gt];with_reducible exact H2_)|(have H2_:=(Option.bind_some _ _).symm.trans H;with_reducible exact H2_)|with_reducible exact H|(rw [Gt];exact H)|exact H
 have Vx:=aM Gt
 clear Gt
 replace H:=Option.bind_eq_some_iff.mp H
 obtain⟨⟨t188,t191,t192⟩,A50,H⟩:=H
 replace H:(if t170=0 then((regletref13_SameInts.f k t167 (([0,0,1]:List Int))).bind fun t196=>(if t196=true then(if t183=0 then((regletref13_SameInts.f k t180 (([0]:List Int))).bind fun t200=>(if t200=true then((machine_Start.f).bind fun eJ=>((regletref16_Same.f k t176 t179 eJ.1 eJ.2).bind fun t205=>(if t205=true then(if t191=1 then(if t192=0 then((machine_Right.f y145 y148 0 0 y154 y161).bind fun t206=>(if t206=true then((machine_Right.f y145 y148 0 0 y154 ([]:List (List Int))).bind fun t207=>(some (!t207))) else(none))) else(none)) else(none)) else(none)))) else(none))) else(none)) else(none))) else(none))=some r:=H
 have A5:=aM A50
 clear A50
 by_cases c6:t170=0
 rotate_left
 ·rw [if_neg c6] at H
  exact absurd H (by simp)
 rw [if_pos c6] at H
 have tK:(t170==0)=true:=beq_iff_eq.mpr c6
 have Bo:(t170 !=0)=false:=bne_eq_false_iff_eq.mpr c6
 clear c6
 obtain⟨y193,Gu⟩:∃y_:List Int,y_=(([0,0,1]:List Int)):=⟨_,rfl⟩
 replace H:((regletref13_SameInts.f k t167 y193).bind fun t196=>(if t196=true then(if t183=0 then((regletref13_SameInts.f k t180 (([0]:List Int))).bind fun t200=>(if t200=true then((machine_Start.f).bind fun eJ=>((regletref16_Same.f k t176 t179 eJ.1 eJ.2).bind fun t205=>(if t205=true then(if t191=1 then(if t192=0 then((machine_Right.f y145 y148 0 0 y154 y161).bind fun t206=>(if t206=true then((machine_Right.f y145 y148 0 0 y154 ([]:List (List Int))).bind fun t207=>(some (!t207))) else(none))) else(none)) else(none)) else(none)))) else(none))) else(none)) else(none)))=some r:=by first|(rw [Gu];with_reducible exact H)|(have H2_:=(Option.bind_some _ _).symm.trans H;rw [Gu];with_reducible exact H2_)|(have H2_:=(Option.bind_some _ _).symm.trans H;with_reducible exact H2_)|with_reducible exact H|(rw [Gu];exact H)|exact H
 have Vy:=aM Gu
 clear Gu
 replace H:=Option.bind_eq_some_iff.mp H
 obtain⟨t196,A70,H⟩:=H
 replace H:(if t196=true then(if t183=0 then((regletref13_SameInts.f k t180 (([0]:List Int))).bind fun t200=>(if t200=true then((machine_Start.f).bind fun eJ=>((regletref16_Same.f k t176 t179 eJ.1 eJ.2).bind fun t205=>(if t205=true then(if t191=1 then(if t192=0 then((machine_Right.f y145 y148 0 0 y154 y161).bind fun t206=>(if t206=true then((machine_Right.f y145 y148 0 0 y154 ([]:List (List Int))).bind fun t207=>(some (!t207))) else(none))) else(none)) else(none)) else(none)))) else(none))) else(none)) else(none))=some r:=H
 have A7:=aM A70
 clear A70
 by_cases c8:t196=true
 ·subst c8
  have H1:(if t183=0 then((regletref13_SameInts.f k t180 (([0]:List Int))).bind fun t200=>(if t200=true then((machine_Start.f).bind fun eJ=>((regletref16_Same.f k t176 t179 eJ.1 eJ.2).bind fun t205=>(if t205=true then(if t191=1 then(if t192=0 then((machine_Right.f y145 y148 0 0 y154 y161).bind fun t206=>(if t206=true then((machine_Right.f y145 y148 0 0 y154 ([]:List (List Int))).bind fun t207=>(some (!t207))) else(none))) else(none)) else(none)) else(none)))) else(none))) else(none))=some r:=by rw [if_pos rfl] at H;exact H
  clear H
  have H:=H1
  clear H1
  by_cases c9:t183=0
  rotate_left
  ·rw [if_neg c9] at H
   exact absurd H (by simp)
  rw [if_pos c9] at H
  have MI:(t183==0)=true:=beq_iff_eq.mpr c9
  have QV:(t183 !=0)=false:=bne_eq_false_iff_eq.mpr c9
  clear c9
  obtain⟨y197,Gv⟩:∃y_:List Int,y_=(([0]:List Int)):=⟨_,rfl⟩
  replace H:((regletref13_SameInts.f k t180 y197).bind fun t200=>(if t200=true then((machine_Start.f).bind fun eJ=>((regletref16_Same.f k t176 t179 eJ.1 eJ.2).bind fun t205=>(if t205=true then(if t191=1 then(if t192=0 then((machine_Right.f y145 y148 0 0 y154 y161).bind fun t206=>(if t206=true then((machine_Right.f y145 y148 0 0 y154 ([]:List (List Int))).bind fun t207=>(some (!t207))) else(none))) else(none)) else(none)) else(none)))) else(none)))=some r:=by first|(rw [Gv];with_reducible exact H)|(have H2_:=(Option.bind_some _ _).symm.trans H;rw [Gv];with_reducible exact H2_)|(have H2_:=(Option.bind_some _ _).symm.trans H;with_reducible exact H2_)|with_reducible exact H|(rw [Gv];exact H)|exact H
  have Vz:=aM Gv
  clear Gv
  replace H:=Option.bind_eq_some_iff.mp H
  obtain⟨t200,A100,H⟩:=H
  replace H:(if t200=true then((machine_Start.f).bind fun eJ=>((regletref16_Same.f k t176 t179 eJ.1 eJ.2).bind fun t205=>(if t205=true then(if t191=1 then(if t192=0 then((machine_Right.f y145 y148 0 0 y154 y161).bind fun t206=>(if t206=true then((machine_Right.f y145 y148 0 0 y154 ([]:List (List Int))).bind fun t207=>(some (!t207))) else(none))) else(none)) else(none)) else(none)))) else(none))=some r:=H
  have A10:=aM A100
  clear A100
  by_cases c11:t200=true
  ·subst c11
   have H1:((machine_Start.f).bind fun eJ=>((regletref16_Same.f k t176 t179 eJ.1 eJ.2).bind fun t205=>(if t205=true then(if t191=1 then(if t192=0 then((machine_Right.f y145 y148 0 0 y154 y161).bind fun t206=>(if t206=true then((machine_Right.f y145 y148 0 0 y154 ([]:List (List Int))).bind fun t207=>(some (!t207))) else(none))) else(none)) else(none)) else(none))))=some r:=by rw [if_pos rfl] at H;exact H
   clear H
   have H:=H1
   clear H1
   replace H:=Option.bind_eq_some_iff.mp H
   obtain⟨⟨t201,t204⟩,A120,H⟩:=H
   replace H:((regletref16_Same.f k t176 t179 t201 t204).bind fun t205=>(if t205=true then(if t191=1 then(if t192=0 then((machine_Right.f y145 y148 0 0 y154 y161).bind fun t206=>(if t206=true then((machine_Right.f y145 y148 0 0 y154 ([]:List (List Int))).bind fun t207=>(some (!t207))) else(none))) else(none)) else(none)) else(none)))=some r:=H
   have A12:=aM A120
   clear A120
   replace H:=Option.bind_eq_some_iff.mp H
   obtain⟨t205,A130,H⟩:=H
   replace H:(if t205=true then(if t191=1 then(if t192=0 then((machine_Right.f y145 y148 0 0 y154 y161).bind fun t206=>(if t206=true then((machine_Right.f y145 y148 0 0 y154 ([]:List (List Int))).bind fun t207=>(some (!t207))) else(none))) else(none)) else(none)) else(none))=some r:=H
   have A13:=aM A130
   clear A130
   by_cases c14:t205=true
   ·subst c14
    have H1:(if t191=1 then(if t192=0 then((machine_Right.f y145 y148 0 0 y154 y161).bind fun t206=>(if t206=true then((machine_Right.f y145 y148 0 0 y154 ([]:List (List Int))).bind fun t207=>(some (!t207))) else(none))) else(none)) else(none))=some r:=by rw [if_pos rfl] at H;exact H
    clear H
    have H:=H1
    clear H1
    by_cases c15:t191=1
    rotate_left
    ·rw [if_neg c15] at H
     exact absurd H (by simp)
    rw [if_pos c15] at H
    have yH:(t191==1)=true:=beq_iff_eq.mpr c15
    have PU:(t191 !=1)=false:=bne_eq_false_iff_eq.mpr c15
    clear c15
    by_cases c16:t192=0
    rotate_left
    ·rw [if_neg c16] at H
     exact absurd H (by simp)
    rw [if_pos c16] at H
    have Ls:(t192==0)=true:=beq_iff_eq.mpr c16
    have PV:(t192 !=0)=false:=bne_eq_false_iff_eq.mpr c16
    clear c16
    replace H:=Option.bind_eq_some_iff.mp H
    obtain⟨t206,A170,H⟩:=H
    replace H:(if t206=true then((machine_Right.f y145 y148 0 0 y154 ([]:List (List Int))).bind fun t207=>(some (!t207))) else(none))=some r:=H
    have A17:=aM A170
    clear A170
    by_cases c18:t206=true
    ·subst c18
     have H1:((machine_Right.f y145 y148 0 0 y154 ([]:List (List Int))).bind fun t207=>(some (!t207)))=some r:=by rw [if_pos rfl] at H;exact H
     clear H
     have H:=H1
     clear H1
     replace H:=Option.bind_eq_some_iff.mp H
     obtain⟨t207,A190,H⟩:=H
     replace H:(some (!t207))=some r:=H
     have A19:=aM A190
     clear A190
     obtain rfl:=Option.some.inj H
     go_enter Try.func10,Try.ntmps10
     try go_wp2_with (first|((with_reducible refine bJ (N:=12) rfl ?_);(try(refine gate_guard (by rfl) ?_;dsimp only));refine Kd.R_lit Kd.string _ 9 ?hg (N:=12) ?hd (xs:=([(⟨#[97]⟩:ByteArray)]:List ByteArray)) (inner:= [.string (⟨#[97]⟩:ByteArray)]) (ok:=fun _=>True) (okp:=fun _=>True) ?hr ?hp (fun _ hk=>hk) trivial (Below.refl _ _) (Nat.le_refl _) (by simp) ?_;(case hd=>rfl);(case hg=>rfl);(case hr=>first|(go_simp;done)|(go_simp;rfl));(case hp=>exact(Reps.one (show Kd.M Kd.string _ _ _ (⟨#[97]⟩:ByteArray) [.string (⟨#[97]⟩:ByteArray)] from rfl) (Reps.none _ _)));intro v146 w20 ho21 hb hg_ hnew_;clear hg_ hnew_;(first|rw [←Vq.out] at ho21|(simp only [Int.reduceToNat] at ho21;rw [←Vq.out] at ho21));have bY:=aM (bL ho21 (bH (gW HB.out)));have bZ:=aM (bG (gW HB.out) hb);clear HB;have cJ:=bY;have HB:=bZ;clear bY bZ;clear hb ho21)|((with_reducible refine bJ (N:=13) rfl ?_);(try(refine gate_guard (by rfl) ?_;dsimp only));refine Kd.N_make k72 _ 72 rfl (N':=13) rfl 23 _ _ rfl 1 rfl rfl Try.underlying23 (.agg #[(.string ⟨#[]⟩),(.int .i64 0),(.string ⟨#[]⟩),(.slice none 0 0),(.int .i64 0),(.int .i64 0),(.slice none 0 0)]) 104 info72 rfl (by decide) (by omega) z72 (ok:=fun k_=>w20.heap.size≤k_) (okp:=fun _=>False) (k72_mkF _ _ z72 (Nat.le_refl _) (Kd.F_nil _ _ _) (Nat.le_refl _) (Kd.F_nil _ _ _)) (fun _ hk=>hk.elim) (Nat.le_refl _) (by omega) (by omega) (Below.refl _ _) (Nat.le_refl _) ?_;intro v149 w22 ho23 hb hg_ hnew_;clear hg_ hnew_;(first|rw [←Vr.out] at ho23|(simp only [Int.reduceToNat] at ho23;rw [←Vr.out] at ho23));have bY:=aM (aD (gR cJ.out) hb);have bZ:=aM (Kd.N_lower (Kd.N_mono (ok':=fun k_=>some k_≠(v146:Value).ownBlock) ho23 (fun k_ hk_=>(Kd.fresh' (Kd.R_lt (gR cJ.out)) k_ hk_))) (bH (gW HB.out)));have cA:=aM (bG (gW HB.out) hb);clear cJ;clear HB;have cJ:=bY;have cN:=bZ;have HB:=cA;clear bY bZ cA;clear hb ho23)|((with_reducible refine bJ (N:=16) rfl ?_);(try(refine gate_guard (by rfl) ?_;dsimp only));refine Kd.R_lit k43 _ 43 ?hg (N:=16) ?hd (xs:=([(⟨true,0⟩:S43),(⟨false,0⟩:S43)]:List (S43))) (inner:= [.bool true,.int .i64 0,.bool false,.int .i64 0]) (ok:=fun _=>True) (okp:=fun _=>True) ?hr ?hp (fun _ hk=>hk) trivial (Below.refl _ _) (Nat.le_refl _) (by simp) ?_;(case hd=>rfl);(case hg=>rfl);(case hr=>first|(go_simp;done)|(go_simp;rfl));(case hp=>exact(Reps.c2 (show Kd.M k43 _ _ _ (⟨true,0⟩:S43) [.bool true,.int .i64 0] from(k43_mkM _ _ _ (⟨true,0⟩:S43))) (Reps.c2 (show Kd.M k43 _ _ _ (⟨false,0⟩:S43) [.bool false,.int .i64 0] from(k43_mkM _ _ _ (⟨false,0⟩:S43))) (Reps.none _ _))));intro v152 w24 ho25 hb hg_ hnew_;clear hg_ hnew_;(first|rw [←Vs.out] at ho25|(simp only [Int.reduceToNat] at ho25;rw [←Vs.out] at ho25));have bY:=aM (aD (gR cJ.out) hb);have bZ:=aM (Kd.N_elder' (gN cN.out) (Kd.R_base ho25) hb);have cA:=aM (bL ho25 (bH (gW HB.out)));have cC:=aM (bG (gW HB.out) hb);clear cJ;clear cN;clear HB;have cJ:=bY;have cN:=bZ;have Lb:=cA;have HB:=cC;clear bY bZ cA cC;clear hb ho25;obtain⟨FH,FI,NC⟩:=Kd.R_slice Lb.out;subst NC)|((with_reducible refine bJ (N:=19) rfl ?_);(try(refine gate_guard (by rfl) ?_;dsimp only));refine Kd.N_lit k35 _ 35 ?hg (N':=19) ?hd (xs:=([(⟨0,y151⟩:S35),(⟨0,([]:List (S43))⟩:S35)]:List (S35))) (inner:= [.int .i64 0,.slice FH y151.length FI,.int .i64 0,.slice none 0 0]) (ok:=(fun k_=>some k_≠(v146:Value).ownBlock∧some k_≠(v149:Value).ownBlock)) (okp:=(fun k_=>some k_≠(v146:Value).ownBlock∧some k_≠(v149:Value).ownBlock)) ?hr ?hp (fun _ hk=>hk) ((show ∀k_,w24.heap.size≤k_→(fun k_=>some k_≠(v146:Value).ownBlock∧some k_≠(v149:Value).ownBlock) k_ from fun k_ hk=>⟨Kd.fresh' (Kd.R_lt (gR cJ.out)) k_ hk,Kd.fresh' (Kd.N_lt (gN cN.out)) k_ hk⟩) _ (Nat.le_refl _)) (Below.refl _ _) (Nat.le_refl _) (by simp) ?_;(case hd=>rfl);(case hg=>rfl);(case hr=>first|(go_simp;done)|(go_simp;rfl));(case hp=>exact(Reps.c2 (show Kd.FK k35 _ _ (⟨0,y151⟩:S35) [.int .i64 0,.slice FH y151.length FI] from(k35_mkF _ _ (⟨0,y151⟩:S35) (aF (Kd.R_mono (ok':=(fun k_=>some k_≠(v146:Value).ownBlock∧some k_≠(v149:Value).ownBlock)) (Kd.R_apart' (Kd.R_apart' (Lb.out) (Kd.R_typed cJ.out) (by decide)) (Kd.N_typed cN.out) (by decide)) (fun k_ hk=>⟨hk.1.2,hk.2⟩))).2.1 (Kd.R_F (Kd.R_mono (ok':=(fun k_=>some k_≠(v146:Value).ownBlock∧some k_≠(v149:Value).ownBlock)) (Kd.R_apart' (Kd.R_apart' (Lb.out) (Kd.R_typed cJ.out) (by decide)) (Kd.N_typed cN.out) (by decide)) (fun k_ hk=>⟨hk.1.2,hk.2⟩))))) (Reps.c2 (show Kd.FK k35 _ _ (⟨0,([]:List (S43))⟩:S35) [.int .i64 0,.slice none 0 0] from(k35_mkF _ _ (⟨0,([]:List (S43))⟩:S35) (Nat.le_refl _) (Kd.F_nil _ _ _))) (Reps.none _ _))));intro v155 w27 ho28 hb hg_ hnew_;clear hg_ hnew_;(first|rw [←Vt.out] at ho28|(simp only [Int.reduceToNat] at ho28;rw [←Vt.out] at ho28));have bY:=aM (aD (gR cJ.out) hb);have bZ:=aM (Kd.N_elder' (gN cN.out) (Kd.N_base ho28) hb);have cA:=aM (Kd.N_lower ho28 (bH (gW HB.out)));have cC:=aM (bG (gW HB.out) hb);clear cJ;clear cN;clear HB;clear Lb;have cJ:=bY;have cN:=bZ;have cX:=cA;have HB:=cC;clear bY bZ cA cC;clear hb ho28;obtain⟨fT,fU,Mf⟩:=Kd.N_slice cX.out;subst Mf;obtain⟨fY,fZ,Yd⟩:=Kd.N_slice cN.out;subst Yd;obtain⟨iC,iD,Xc⟩:=Kd.R_slice cJ.out;subst Xc)|((with_reducible refine bJ (N:=1) rfl ?_);(try(refine gate_guard (by rfl) ?_;dsimp only));refine box_event ?hg (N:=1) ?hd (cs:=#[.slice none 0 0,.slice none 0 0,.int .i64 0,.int .i64 0,.slice none 0 0]) (t:=26) ?hr ?_;(case hd=>rfl);(case hg=>rfl);(case hr=>first|(go_simp;done)|(go_simp;rfl));intro dD hg w32 hbox hb;have bY:=aM (aD (gR cJ.out) hb);have bZ:=aM (Kd.N_below (Kd.N_elderB (gN cN.out) dD (Nat.le_of_eq hg.symm)) hb);have cA:=aM (Kd.N_below (Kd.N_elderB (gN cX.out) dD (Nat.le_of_eq hg.symm)) hb);have cC:=aM (bG (gW HB.out) hb);have cQ:=aM (hbox);have dA:=aM ((by rw [hg];exact(bH (gW HB.out)):w.heap.size≤dD));have dH:=aM ((by rw [hg];exact(bH (gW HB.out)):w.heap.size≤dD));clear cJ;clear cN;clear cX;clear HB;have cJ:=bY;have cN:=bZ;have cX:=cA;have HB:=cC;have bT:=cQ;have GW157:=dA;have Lc:=dH;clear bY bZ cA cC cQ dA dH;clear hb hbox hg;have nV:w32.cell? ⟨dD,0,none⟩=some (.slice none 0 0):=(aG bT.out 0).trans rfl;have nW:w32.cell? ⟨dD,1,none⟩=some (.slice none 0 0):=(aG bT.out 1).trans rfl;have sQ:w32.cell? ⟨dD,2,none⟩=some (.int .i64 0):=(aG bT.out 2).trans rfl;have sR:w32.cell? ⟨dD,3,none⟩=some (.int .i64 0):=(aG bT.out 3).trans rfl;have sS:w32.cell? ⟨dD,4,none⟩=some (.slice none 0 0):=(aG bT.out 4).trans rfl;have nX:=aH bT.out 0;have nY:=aH bT.out 1;have sT:=aH bT.out 2;have sU:=aH bT.out 3;have sV:=aH bT.out 4)|((with_reducible refine bJ (N:=21) rfl ?_);(try(refine gate_guard (by rfl) ?_;dsimp only));refine Kd.R_lit (Kd.int .i64) _ 3 ?hg (N:=21) ?hd (xs:=([0,1]:List Int)) (inner:= [.int .i64 0,.int .i64 1]) (ok:=fun _=>True) (okp:=fun _=>True) ?hr ?hp (fun _ hk=>hk) trivial (Below.refl _ _) (Nat.le_refl _) (by simp) ?_;(case hd=>rfl);(case hg=>rfl);(case hr=>first|(go_simp;done)|(go_simp;rfl));(case hp=>exact(Reps.one (show Kd.M (Kd.int .i64) _ _ _ 0 [.int .i64 0] from rfl) (Reps.one (show Kd.M (Kd.int .i64) _ _ _ 1 [.int .i64 1] from rfl) (Reps.none _ _))));intro v159 w34 ho35 hb hg_ hnew_;clear hg_ hnew_;(first|rw [←Vu.out] at ho35|(simp only [Int.reduceToNat] at ho35;rw [←Vu.out] at ho35));have bY:=aM (aD (by(with_reducible repeat(first|apply aA|apply aB|apply aC));exact(Kd.R_mono (aE (p:=⟨dD,4,none⟩) (aE (p:=⟨dD,3,none⟩) (aE (p:=⟨dD,2,none⟩) (aE (p:=⟨dD,1,none⟩) (aE (p:=⟨dD,0,none⟩) (Kd.R_types cJ.out bT.out (by decide)) (fun _ hk=>hk.2) (.slice iC y145.length iD)) (fun _ hk=>hk.2) (.slice fY y148.length fZ)) (fun _ hk=>hk.2) (.int .i64 0)) (fun _ hk=>hk.2) (.int .i64 0)) (fun _ hk=>hk.2) (.slice fT y154.length fU)) (fun _ h_=>h_.1))) hb);have bZ:=aM (Kd.N_elder' (by(with_reducible repeat(first|apply Kd.N_alloc|apply aY|apply aZ));exact(Kd.N_mono (Kd.N_far (p:=⟨dD,4,none⟩) (Kd.N_far (p:=⟨dD,3,none⟩) (Kd.N_far (p:=⟨dD,2,none⟩) (Kd.N_far (p:=⟨dD,1,none⟩) (Kd.N_far (p:=⟨dD,0,none⟩) (Kd.N_mono cN.out (fun k_ hk=>(⟨hk,hk.2⟩:_∧k_≠dD))) (fun _ hk=>hk.2) (.slice iC y145.length iD)) (fun _ hk=>hk.2) (.slice fY y148.length fZ)) (fun _ hk=>hk.2) (.int .i64 0)) (fun _ hk=>hk.2) (.int .i64 0)) (fun _ hk=>hk.2) (.slice fT y154.length fU)) (fun _ h_=>h_.1))) (Kd.R_base ho35) hb);have cA:=aM (Kd.N_elder' (by(with_reducible repeat(first|apply Kd.N_alloc|apply aY|apply aZ));exact(Kd.N_mono (Kd.N_far (p:=⟨dD,4,none⟩) (Kd.N_far (p:=⟨dD,3,none⟩) (Kd.N_far (p:=⟨dD,2,none⟩) (Kd.N_far (p:=⟨dD,1,none⟩) (Kd.N_far (p:=⟨dD,0,none⟩) (Kd.N_mono cX.out (fun k_ hk=>(⟨hk,hk.2⟩:_∧k_≠dD))) (fun _ hk=>hk.2) (.slice iC y145.length iD)) (fun _ hk=>hk.2) (.slice fY y148.length fZ)) (fun _ hk=>hk.2) (.int .i64 0)) (fun _ hk=>hk.2) (.int .i64 0)) (fun _ hk=>hk.2) (.slice fT y154.length fU)) (fun _ h_=>h_.1))) (Kd.R_base ho35) hb);have cC:=aM (bL ho35 (bH (by repeat(first|(with_reducible first|exact HB.out|apply aN|apply aP|apply aO|refine aL ?_ Lc.out)|exact HB.out))));have cQ:=aM (bF (g:=dD) (o:= .cells #[.slice iC y145.length iD,.slice fY y148.length fZ,.int .i64 0,.int .i64 0,.slice fT y154.length fU] 26 (0,0)) (by(with_reducible repeat(first|refine aJ ?_ _|refine aK ?_|refine aI ?_ _));refine blk_put (cs:=#[.slice iC y145.length iD,.slice fY y148.length fZ,.int .i64 0,.int .i64 0,.slice none 0 0]) ?_ 4 _ rfl;(with_reducible repeat(first|refine aJ ?_ _|refine aK ?_|refine aI ?_ _));refine blk_put (cs:=#[.slice iC y145.length iD,.slice fY y148.length fZ,.int .i64 0,.int .i64 0,.slice none 0 0]) ?_ 3 _ rfl;(with_reducible repeat(first|refine aJ ?_ _|refine aK ?_|refine aI ?_ _));refine blk_put (cs:=#[.slice iC y145.length iD,.slice fY y148.length fZ,.int .i64 0,.int .i64 0,.slice none 0 0]) ?_ 2 _ rfl;(with_reducible repeat(first|refine aJ ?_ _|refine aK ?_|refine aI ?_ _));refine blk_put (cs:=#[.slice iC y145.length iD,.slice none 0 0,.int .i64 0,.int .i64 0,.slice none 0 0]) ?_ 1 _ rfl;(with_reducible repeat(first|refine aJ ?_ _|refine aK ?_|refine aI ?_ _));refine blk_put (cs:=#[.slice none 0 0,.slice none 0 0,.int .i64 0,.int .i64 0,.slice none 0 0]) ?_ 0 _ rfl;(with_reducible repeat(first|refine aJ ?_ _|refine aK ?_|refine aI ?_ _));exact bT.out) hb);have dA:=aM (bG (by repeat(first|(with_reducible first|exact HB.out|apply aN|apply aP|apply aO|refine aL ?_ Lc.out)|exact HB.out)) hb);clear cJ;clear cN;clear cX;clear bT;clear HB;have cJ:=bY;have cN:=bZ;have cX:=cA;have Ld:=cC;have bT:=cQ;have HB:=dA;clear bY bZ cA cC cQ dA;clear hb ho35;obtain⟨yD,xT,Of⟩:=Kd.R_slice Ld.out;subst Of)|((with_reducible refine bJ (N:=22) rfl ?_);(try(refine gate_guard (by rfl) ?_;dsimp only));refine Kd.N_lit (Kd.slice 3 (Kd.int .i64)) _ 32 ?hg (N':=22) ?hd (xs:=([y158]:List (List Int))) (inner:= [.slice yD y158.length xT]) (ok:=(fun k_=>some k_≠(.slice iC y145.length iD:Value).ownBlock∧some k_≠(.slice fY y148.length fZ:Value).ownBlock∧some k_≠(.slice fT y154.length fU:Value).ownBlock∧k_≠dD)) (okp:=(fun k_=>some k_≠(.slice iC y145.length iD:Value).ownBlock∧some k_≠(.slice fY y148.length fZ:Value).ownBlock∧some k_≠(.slice fT y154.length fU:Value).ownBlock∧k_≠dD)) ?hr ?hp (fun _ hk=>hk) ((show ∀k_,w34.heap.size≤k_→(fun k_=>some k_≠(.slice iC y145.length iD:Value).ownBlock∧some k_≠(.slice fY y148.length fZ:Value).ownBlock∧some k_≠(.slice fT y154.length fU:Value).ownBlock∧k_≠dD) k_ from fun k_ hk=>⟨Kd.fresh' (Kd.R_lt (gR cJ.out)) k_ hk,Kd.fresh' (Kd.N_lt (gN cN.out)) k_ hk,Kd.fresh' (Kd.N_lt (gN cX.out)) k_ hk,Kd.freshB (gB bT.out) k_ hk⟩) _ (Nat.le_refl _)) (Below.refl _ _) (Nat.le_refl _) (by simp) ?_;(case hd=>rfl);(case hg=>rfl);(case hr=>first|(go_simp;done)|(go_simp;rfl));(case hp=>exact(Reps.one (show Kd.FK (Kd.slice 3 (Kd.int .i64)) _ _ y158 [.slice yD y158.length xT] from(Kd.FK_slice_mk (aF (Kd.R_mono (ok':=(fun k_=>some k_≠(.slice iC y145.length iD:Value).ownBlock∧some k_≠(.slice fY y148.length fZ:Value).ownBlock∧some k_≠(.slice fT y154.length fU:Value).ownBlock∧k_≠dD)) (Kd.R_types (Kd.R_apart' (Kd.R_apart' (Kd.R_apart' (Ld.out) (Kd.R_typed cJ.out) (by decide)) (Kd.N_typed cN.out) (by decide)) (Kd.N_typed cX.out) (by decide)) bT.out (by decide)) (fun k_ hk=>⟨hk.1.1.1.2,⟨hk.1.1.2,⟨hk.1.2,hk.2⟩⟩⟩))).2.1 (Kd.R_F (Kd.R_mono (ok':=(fun k_=>some k_≠(.slice iC y145.length iD:Value).ownBlock∧some k_≠(.slice fY y148.length fZ:Value).ownBlock∧some k_≠(.slice fT y154.length fU:Value).ownBlock∧k_≠dD)) (Kd.R_types (Kd.R_apart' (Kd.R_apart' (Kd.R_apart' (Ld.out) (Kd.R_typed cJ.out) (by decide)) (Kd.N_typed cN.out) (by decide)) (Kd.N_typed cX.out) (by decide)) bT.out (by decide)) (fun k_ hk=>⟨hk.1.1.1.2,⟨hk.1.1.2,⟨hk.1.2,hk.2⟩⟩⟩))))) (Reps.none _ _)));intro v162 w37 ho38 hb hg_ hnew_;clear hg_ hnew_;(first|rw [←Vv.out] at ho38|(simp only [Int.reduceToNat] at ho38;rw [←Vv.out] at ho38));have bY:=aM (aD (gR cJ.out) hb);have bZ:=aM (Kd.N_elder' (gN cN.out) (Kd.N_base ho38) hb);have cA:=aM (Kd.N_elder' (gN cX.out) (Kd.N_base ho38) hb);have cC:=aM (Kd.N_lower ho38 (bH (gW HB.out)));have cQ:=aM (bF (gB bT.out) hb);have dA:=aM (bG (gW HB.out) hb);clear cJ;clear cN;clear cX;clear bT;clear HB;clear Ld;have cJ:=bY;have cN:=bZ;have cX:=cA;have dJ:=cC;have bT:=cQ;have HB:=dA;clear bY bZ cA cC cQ dA;clear hb ho38;have zE:w37.cell? ⟨dD,0,none⟩=some (.slice iC y145.length iD):=(aG bT.out 0).trans rfl;have zF:w37.cell? ⟨dD,1,none⟩=some (.slice fY y148.length fZ):=(aG bT.out 1).trans rfl;have Ck:w37.cell? ⟨dD,2,none⟩=some (.int .i64 0):=(aG bT.out 2).trans rfl;have Cl:w37.cell? ⟨dD,3,none⟩=some (.int .i64 0):=(aG bT.out 3).trans rfl;have Cm:w37.cell? ⟨dD,4,none⟩=some (.slice fT y154.length fU):=(aG bT.out 4).trans rfl;have zG:=aH bT.out 0;have zH:=aH bT.out 1;have Cn:=aH bT.out 2;have Co:=aH bT.out 3;have Cp:=aH bT.out 4)|((with_reducible refine bJ (N:=26) rfl ?_);(try(refine gate_guard (by rfl) ?_;dsimp only));refine Kd.R_lit (Kd.int .i64) _ 3 ?hg (N:=26) ?hd (xs:=([0,0]:List Int)) (inner:= [.int .i64 0,.int .i64 0]) (ok:=fun _=>True) (okp:=fun _=>True) ?hr ?hp (fun _ hk=>hk) trivial (Below.refl _ _) (Nat.le_refl _) (by simp) ?_;(case hd=>rfl);(case hg=>rfl);(case hr=>first|(go_simp;done)|(go_simp;rfl));(case hp=>exact(Reps.one (show Kd.M (Kd.int .i64) _ _ _ 0 [.int .i64 0] from rfl) (Reps.one (show Kd.M (Kd.int .i64) _ _ _ 0 [.int .i64 0] from rfl) (Reps.none _ _))));intro v165 w40 ho41 hb hg_ hnew_;clear hg_ hnew_;(first|rw [←Vw.out] at ho41|(simp only [Int.reduceToNat] at ho41;rw [←Vw.out] at ho41));have bY:=aM (aD (gR cJ.out) hb);have bZ:=aM (Kd.N_elder' (gN cN.out) (Kd.R_base ho41) hb);have cA:=aM (Kd.N_elder' (gN cX.out) (Kd.R_base ho41) hb);have cC:=aM (Kd.N_elder' (gN dJ.out) (Kd.R_base ho41) hb);have cQ:=aM (bL ho41 (bH (gW HB.out)));have dA:=aM (bF (gB bT.out) hb);have dH:=aM (bG (gW HB.out) hb);clear cJ;clear cN;clear cX;clear dJ;clear bT;clear HB;have cJ:=bY;have cN:=bZ;have cX:=cA;have dJ:=cC;have dQ:=cQ;have bT:=dA;have HB:=dH;clear bY bZ cA cC cQ dA dH;clear hb ho41;obtain⟨xU,xV,Tz⟩:=Kd.N_slice dJ.out;subst Tz;obtain⟨tL,tM,Mj⟩:=Kd.R_slice dQ.out;subst Mj)|((with_reducible refine bI (f:=22) rfl ?_);refine goesL_ (some 27) rfl rfl Try.func22 (by kernel_rfl) rfl #[.agg #[.slice iC y145.length iD,.slice fY y148.length fZ,.int .i64 0,.int .i64 0,.slice fT y154.length fU],.slice xU y161.length xV,.slice tL y164.length tM] rfl (by(try simp only [List.map_toArray,List.map_cons,List.map_nil]);first|done|rfl|(simp only [List.length_drop,List.length_take];rfl)) ?_;(with_reducible refine(machine_Run.calls k _ _ y145 _ _ y148 0 0 _ _ y154 _ _ y161 _ _ y164 t167 t170 t171 _ ?side1 ?side2 ?side3 ?side4 ?side5 ?side6 ?side7 ?side8 ?side9 ?side10 A2.out).mono ?_);(case side1=>exact gC (aF cJ.out).2.2);(case side2=>exact(aF cJ.out).2.1);(case side3=>exact gC (aT cN.out).2.2);(case side4=>exact(aT cN.out).2.1);(case side5=>exact gC (aT cX.out).2.2);(case side6=>exact(aT cX.out).2.1);(case side7=>exact gC (aT dJ.out).2.2);(case side8=>exact(aT dJ.out).2.1);(case side9=>exact gC (aF dQ.out).2.2);(case side10=>exact(aF dQ.out).2.1);rintro e w44 ⟨v168,rfl,ho0,hb⟩;refine⟨_,rfl,?_⟩;have bY:=aM (aD (gR cJ.out) hb);have bZ:=aM (Kd.N_elder' (gN cN.out) (Kd.R_base ho0) hb);have cA:=aM (Kd.N_elder' (gN cX.out) (Kd.R_base ho0) hb);have cC:=aM (Kd.N_elder' (gN dJ.out) (Kd.R_base ho0) hb);have cQ:=aM (bE (gR dQ.out) (Kd.R_base ho0) hb);have dA:=aM (bL (Kd.R_new' ho0 (Kd.R_lt (gR dQ.out))) (bH (gW HB.out)));have dH:=aM (bF (gB bT.out) hb);have eG:=aM (bG (gW HB.out) hb);clear cJ;clear cN;clear cX;clear dJ;clear dQ;clear bT;clear HB;have cJ:=bY;have cN:=bZ;have cX:=cA;have dJ:=cC;have dQ:=cQ;have dX:=dA;have bT:=dH;have HB:=eG;clear bY bZ cA cC cQ dA dH eG;(try clear hb);(try clear hb2);(try clear hk);(try clear hi);(try clear ho0)))
     have bY:=aM (aC cJ.out)
     have bZ:=aM (aZ cN.out)
     have cA:=aM (aZ cX.out)
     have cC:=aM (aZ dJ.out)
     have cQ:=aM (aC dQ.out)
     have dA:=aM (aC dX.out)
     have dH:=aM (aK bT.out)
     have eG:=aM (aO HB.out)
     clear cJ
     clear cN
     clear cX
     clear dJ
     clear dQ
     clear dX
     clear bT
     clear HB
     have cJ:=bY
     have cN:=bZ
     have cX:=cA
     have dJ:=cC
     have dQ:=cQ
     have dX:=dA
     have bT:=dH
     have HB:=eG
     clear bY bZ cA cC cQ dA dH eG
     refine start_ (n:=12) (S:=fun w'=>w'.cell? ⟨dD,0,none⟩=some (.slice iC y145.length iD)∧w'.cell? ⟨dD,1,none⟩=some (.slice fY y148.length fZ)∧w'.cell? ⟨dD,2,none⟩=some (.int .i64 0)∧w'.cell? ⟨dD,3,none⟩=some (.int .i64 0)∧w'.cell? ⟨dD,4,none⟩=some (.slice fT y154.length fU)) (ds:= []) #[F,F,F,F,F,F,F,F,F,F,F,F] (by kernel_rfl) rfl rfl ⟨(aG bT.out 0).trans rfl,(aG bT.out 1).trans rfl,(aG bT.out 2).trans rfl,(aG bT.out 3).trans rfl,(aG bT.out 4).trans rfl⟩ (fun hHeld=>?_);refine with_tabW regletlaw16_awake.tab4 regletlaw16_awake.bits4 (fun HT_ HW_=>?_)
     generalize w44.drew=w45 at cJ cN cX dJ dQ dX bT HB hHeld ⊢
     refine pure_ (i:=1) (N:=some 33) (v:=?_) (a':=?_) #[F,T,F,F,F,F,F,F,F,F,F,F] rfl rfl (any_of HT_.out (by kernel_rfl)) (fun _ _ _ h=>h) (Or.inl ⟨by rfl,?_⟩) ?_ ?_
     rotate_left;(intro w';go_simp;with_reducible rfl);rotate_left;(simp only [pq];rfl)
     refine take_ (i:=0) (N:=some 32) (v:=?_) (a':=?_) #[T,T,F,F,F,F,F,F,F,F,F,F] rfl rfl (take_ofW HT_.out HW_.out (by kernel_rfl)) (fun _ _ _ h=>h) (Or.inl ⟨by rfl,?_⟩) hHeld ?_ ?_
     rotate_left
     ·rintro w' ⟨s0,s1,s2,s3,s4⟩
      go_simp
      with_reducible rfl
     rotate_left
     ·simp only [pq]
      rfl
     refine join_ (σ:=Value×Value×Value×Nat) 3 #[T,T,T,T,T,T,T,T,T,F,F,F] (fun s_=> [(34,.agg #[s_.1,.bool t175]),(35,.tuple #[.agg #[s_.2.1,.bool t179],s_.2.2.1,.int .i64 t183]),(6,.pointer (some ⟨s_.2.2.2,0,none⟩)),(31,.tuple #[.agg #[s_.2.1,.bool t179],s_.2.2.1,.int .i64 t183]),(36,.agg #[s_.2.1,.bool t179]),(37,s_.2.2.1),(38,.int .i64 t183)]) (fun s_ w'=>(w'.cell? ⟨dD,0,none⟩=some (.slice iC y145.length iD)∧w'.cell? ⟨dD,1,none⟩=some (.slice fY y148.length fZ)∧w'.cell? ⟨dD,2,none⟩=some (.int .i64 0)∧w'.cell? ⟨dD,3,none⟩=some (.int .i64 0)∧w'.cell? ⟨dD,4,none⟩=some (.slice fT y154.length fU))∧(Kd.R Kd.string 9 w' w.heap.size (fun _=>True) (.slice iC y145.length iD) y145)∧(Kd.N k72 72 w' w.heap.size (fun k_=>some k_≠(.slice iC y145.length iD:Value).ownBlock∧some k_≠(.slice fT y154.length fU:Value).ownBlock∧some k_≠(.slice xU y161.length xV:Value).ownBlock∧some k_≠(.slice tL y164.length tM:Value).ownBlock∧some k_≠(v168:Value).ownBlock∧some k_≠(s_.1:Value).ownBlock∧some k_≠(s_.2.1:Value).ownBlock∧some k_≠(s_.2.2.1:Value).ownBlock∧k_≠dD∧k_≠s_.2.2.2) (.slice fY y148.length fZ) y148)∧(Kd.N k35 35 w' w.heap.size (fun k_=>some k_≠(.slice iC y145.length iD:Value).ownBlock∧some k_≠(.slice fY y148.length fZ:Value).ownBlock∧some k_≠(.slice xU y161.length xV:Value).ownBlock∧some k_≠(.slice tL y164.length tM:Value).ownBlock∧some k_≠(v168:Value).ownBlock∧some k_≠(s_.1:Value).ownBlock∧some k_≠(s_.2.1:Value).ownBlock∧some k_≠(s_.2.2.1:Value).ownBlock∧k_≠dD∧k_≠s_.2.2.2) (.slice fT y154.length fU) y154)∧(Kd.N (Kd.slice 3 (Kd.int .i64)) 32 w' w.heap.size (fun k_=>some k_≠(.slice iC y145.length iD:Value).ownBlock∧some k_≠(.slice fY y148.length fZ:Value).ownBlock∧some k_≠(.slice fT y154.length fU:Value).ownBlock∧some k_≠(.slice tL y164.length tM:Value).ownBlock∧some k_≠(v168:Value).ownBlock∧some k_≠(s_.1:Value).ownBlock∧some k_≠(s_.2.1:Value).ownBlock∧some k_≠(s_.2.2.1:Value).ownBlock∧k_≠dD∧k_≠s_.2.2.2) (.slice xU y161.length xV) y161)∧(Kd.R (Kd.int .i64) 3 w' w.heap.size (fun k_=>some k_≠(v168:Value).ownBlock∧some k_≠(s_.2.2.1:Value).ownBlock) (.slice tL y164.length tM) y164)∧(Kd.R (Kd.int .i64) 3 w' w.heap.size (fun k_=>some k_≠(.slice tL y164.length tM:Value).ownBlock∧some k_≠(s_.2.2.1:Value).ownBlock) v168 t167)∧(Kd.R k43 43 w' w.heap.size (fun k_=>some k_≠(s_.2.1:Value).ownBlock) s_.1 t172)∧(Kd.R k43 43 w' w.heap.size (fun k_=>some k_≠(s_.1:Value).ownBlock) s_.2.1 t176)∧(Kd.R (Kd.int .i64) 3 w' w.heap.size (fun k_=>some k_≠(.slice tL y164.length tM:Value).ownBlock∧some k_≠(v168:Value).ownBlock) s_.2.2.1 t180)∧(w'.heap[dD]?=some (.cells #[.slice iC y145.length iD,.slice fY y148.length fZ,.int .i64 0,.int .i64 0,.slice fT y154.length fU] 26 (0,0)))∧(w'.heap[s_.2.2.2]?=some (.cells #[.slice none 0 0,.bool false] 31 (0,0)))∧(w.heap.size≤s_.2.2.2)∧(w.heap.size≤s_.2.2.2)∧(dD≠s_.2.2.2)∧(s_.2.2.2≠dD)∧(Below w.heap.size w w')) ?_ ?_
     rotate_left
     ·intro hCont
      refine two_ (i:=2) (j:=8) (Ni:=some 34) (Nj:=some 6) #[T,T,T,F,F,F,F,F,F,F,F,F] #[T,T,F,F,F,F,F,F,T,F,F,F] rfl rfl rfl rfl (two_of HT_.out (by kernel_rfl)) (by decide) (by decide) (fun K hK=>?_) (fun K hK=>?_)
      ·skip
       refine goes_ Try.func17 (by kernel_rfl) rfl #[] (by rfl) rfl rfl (by(try simp only [List.map_toArray,List.map_cons,List.map_nil]);first|done|rfl|(simp only [List.length_drop,List.length_take];rfl)) ?_
       with_reducible refine(machine_Start.calls  t172 t175 _ A3.out).mono ?_
       rintro e w46 ⟨v173,rfl,ho0,hb⟩
       refine⟨_,rfl,?_⟩
       have bY:=aM (aD (gR cJ.out) hb)
       have bZ:=aM (Kd.N_elder' (gN cN.out) (Kd.R_base ho0) hb)
       have cA:=aM (Kd.N_elder' (gN cX.out) (Kd.R_base ho0) hb)
       have cC:=aM (Kd.N_elder' (gN dJ.out) (Kd.R_base ho0) hb)
       have cQ:=aM (aD (gR dQ.out) hb)
       have dA:=aM (aD (gR dX.out) hb)
       have dH:=aM (bL ho0 (bH (gW HB.out)))
       have eG:=aM (bF (gB bT.out) hb)
       have fK:=aM (bG (gW HB.out) hb)
       clear cJ
       clear cN
       clear cX
       clear dJ
       clear dQ
       clear dX
       clear bT
       clear HB
       have cJ:=bY
       have cN:=bZ
       have cX:=cA
       have dJ:=cC
       have dQ:=cQ
       have dX:=dA
       have eI:=dH
       have bT:=eG
       have HB:=fK
       clear bY bZ cA cC cQ dA dH eG fK
       (try clear hb);(try clear hb2);(try clear hk);(try clear hi);(try clear ho0)
       obtain⟨FJ,FL,FM⟩:=Kd.R_slice eI.out
       (first|subst FM|(injection FM with f1_ f2_ f3_;have f4_:=f1_.symm;have f5_:=f3_.symm;clear f1_ f2_ f3_;subst f4_;subst f5_))
       refine hK.out _ _ ⟨(aG bT.out 0).trans rfl,(aG bT.out 1).trans rfl,(aG bT.out 2).trans rfl,(aG bT.out 3).trans rfl,(aG bT.out 4).trans rfl⟩ (fun hHeld=>?_)
       clear hK K
       refine norm_ (a':=?_) ?_ ?_
       rotate_left
       ·show Act.put _ (some 34) _=_
        simp only [pq]
        rfl
       refine two_ (i:=3) (j:=8) (Ni:=some 35) (Nj:=some 6) #[T,T,T,T,F,F,F,F,F,F,F,F] #[T,T,T,F,F,F,F,F,T,F,F,F] rfl rfl rfl rfl (two_of HT_.out (by kernel_rfl)) (by decide) (by decide) (fun K hK=>?_) (fun K hK=>?_)
       ·skip
        refine goes_ Try.func23 (by kernel_rfl) rfl #[.agg #[.slice iC y145.length iD,.slice fY y148.length fZ,.int .i64 0,.int .i64 0,.slice fT y154.length fU],.slice xU y161.length xV,.agg #[.slice FJ t172.length FL,.bool t175],.int .i64 0] (by rfl) rfl rfl (by(try simp only [List.map_toArray,List.map_cons,List.map_nil]);first|done|rfl|(simp only [List.length_drop,List.length_take];rfl)) ?_
        with_reducible refine(machine_Feed.calls _ _ y145 _ _ y148 0 0 _ _ y154 _ _ y161 _ _ t172 t175 0 t176 t179 t180 t183 _ ?side1 ?side2 ?side3 ?side4 ?side5 ?side6 ?side7 ?side8 ?side9 ?side10 A4.out).mono ?_
        (case side1=>exact gC (aF cJ.out).2.2)
        (case side2=>exact(aF cJ.out).2.1)
        (case side3=>exact gC (aT cN.out).2.2)
        (case side4=>exact(aT cN.out).2.1)
        (case side5=>exact gC (aT cX.out).2.2)
        (case side6=>exact(aT cX.out).2.1)
        (case side7=>exact gC (aT dJ.out).2.2)
        (case side8=>exact(aT dJ.out).2.1)
        (case side9=>exact gC (aF eI.out).2.2)
        (case side10=>exact(aF eI.out).2.1)
        rintro e w48 ⟨v177,v181,rfl,ho0,ho1,hb⟩
        refine⟨_,rfl,?_⟩
        have bY:=aM (aD (gR cJ.out) hb)
        have bZ:=aM (Kd.N_mono (Kd.N_told (Kd.N_told (Kd.N_old (gN cN.out) hb) (Kd.R_base ho0)) (Kd.R_base ho1)) (fun _ h_=>h_.1))
        have cA:=aM (Kd.N_mono (Kd.N_told (Kd.N_told (Kd.N_old (gN cX.out) hb) (Kd.R_base ho0)) (Kd.R_base ho1)) (fun _ h_=>h_.1))
        have cC:=aM (Kd.N_mono (Kd.N_told (Kd.N_told (Kd.N_old (gN dJ.out) hb) (Kd.R_base ho0)) (Kd.R_base ho1)) (fun _ h_=>h_.1))
        have cQ:=aM (bE (gR dQ.out) (Kd.R_base ho1) hb)
        have dA:=aM (bE (gR dX.out) (Kd.R_base ho1) hb)
        have dH:=aM (bE (gR eI.out) (Kd.R_base ho0) hb)
        have eG:=aM (bL (Kd.R_new' ho0 (Kd.R_lt (gR eI.out))) (bH (gW HB.out)))
        have fK:=aM (bL (Kd.R_new' (Kd.R_new' ho1 (Kd.R_lt (gR dQ.out))) (Kd.R_lt (gR dX.out))) (bH (gW HB.out)))
        have hF:=aM (bF (gB bT.out) hb)
        have eH:=aM (bG (gW HB.out) hb)
        clear cJ
        clear cN
        clear cX
        clear dJ
        clear dQ
        clear dX
        clear eI
        clear bT
        clear HB
        have cJ:=bY
        have cN:=bZ
        have cX:=cA
        have dJ:=cC
        have dQ:=cQ
        have dX:=dA
        have eI:=dH
        have gA:=eG
        have fL:=fK
        have bT:=hF
        have HB:=eH
        clear bY bZ cA cC cQ dA dH eG fK hF eH
        (try clear hb);(try clear hb2);(try clear hk);(try clear hi);(try clear ho0);(try clear ho1)
        refine hK.out _ _ ⟨(aG bT.out 0).trans rfl,(aG bT.out 1).trans rfl,(aG bT.out 2).trans rfl,(aG bT.out 3).trans rfl,(aG bT.out 4).trans rfl⟩ (fun hHeld=>?_)
        clear hK K
        refine norm_ (a':=?_) ?_ ?_
        rotate_left
        ·show Act.put _ (some 35) _=_
         simp only [pq]
         rfl
        refine pure_ (i:=4) (N:=some 31) (v:=?_) (a':=?_) #[T,T,T,T,T,F,F,F,F,F,F,F] rfl rfl (any_of HT_.out (by kernel_rfl)) (fun _ _ _ h=>h) (Or.inl ⟨by rfl,?_⟩) ?_ ?_
        rotate_left;(intro w';go_simp;with_reducible rfl);rotate_left;(simp only [pq];rfl)
        refine pure_ (i:=5) (N:=some 36) (v:=?_) (a':=?_) #[T,T,T,T,T,T,F,F,F,F,F,F] rfl rfl (any_of HT_.out (by kernel_rfl)) (fun _ _ _ h=>h) (Or.inl ⟨by rfl,?_⟩) ?_ ?_
        rotate_left;(intro w';go_simp;with_reducible rfl);rotate_left;(simp only [pq];rfl)
        refine pure_ (i:=6) (N:=some 37) (v:=?_) (a':=?_) #[T,T,T,T,T,T,T,F,F,F,F,F] rfl rfl (any_of HT_.out (by kernel_rfl)) (fun _ _ _ h=>h) (Or.inl ⟨by rfl,?_⟩) ?_ ?_
        rotate_left;(intro w';go_simp;with_reducible rfl);rotate_left;(simp only [pq];rfl)
        refine pure_ (i:=7) (N:=some 38) (v:=?_) (a':=?_) #[T,T,T,T,T,T,T,T,F,F,F,F] rfl rfl (any_of HT_.out (by kernel_rfl)) (fun _ _ _ h=>h) (Or.inl ⟨by rfl,?_⟩) ?_ ?_
        rotate_left;(intro w';go_simp;with_reducible rfl);rotate_left;(simp only [pq];rfl)
        refine one_ (i:=8) (N:=some 6) #[T,T,T,T,T,T,T,T,T,F,F,F] rfl rfl (one_of HT_.out (by kernel_rfl)) (by decide) (fun K hK=>?_)
        refine box_step ?hg (N:=6) ?hd (cs:=#[.slice none 0 0,.bool false]) (t:=31) ?hr ?_;(case hd=>rfl);(case hg=>rfl);(case hr=>first|(go_simp;done)|(go_simp;rfl))
        intro dL hg w49 hbox hb
        have bY:=aM (aD (gR cJ.out) hb)
        have bZ:=aM (Kd.N_below (Kd.N_elderB (gN cN.out) dL (Nat.le_of_eq hg.symm)) hb)
        have cA:=aM (Kd.N_below (Kd.N_elderB (gN cX.out) dL (Nat.le_of_eq hg.symm)) hb)
        have cC:=aM (Kd.N_below (Kd.N_elderB (gN dJ.out) dL (Nat.le_of_eq hg.symm)) hb)
        have cQ:=aM (aD (gR dQ.out) hb)
        have dA:=aM (aD (gR dX.out) hb)
        have dH:=aM (aD (gR eI.out) hb)
        have eG:=aM (aD (gR gA.out) hb)
        have fK:=aM (aD (gR fL.out) hb)
        have hF:=aM (bF (gB bT.out) hb)
        have eH:=aM (bG (gW HB.out) hb)
        have eR:=aM (hbox)
        have fJ:=aM ((by rw [hg];exact(bH (gW HB.out)):w.heap.size≤dL))
        have fQ:=aM ((by rw [hg];exact(bH (gW HB.out)):w.heap.size≤dL))
        have iQ:=aM ((by rw [hg];exact Nat.ne_of_lt (bN (g:=dD) (o:= .cells #[.slice iC y145.length iD,.slice fY y148.length fZ,.int .i64 0,.int .i64 0,.slice fT y154.length fU] 26 (0,0)) (gB bT.out)):dD≠dL))
        have nI:=aM ((by rw [hg];exact Nat.ne_of_gt (bN (g:=dD) (o:= .cells #[.slice iC y145.length iD,.slice fY y148.length fZ,.int .i64 0,.int .i64 0,.slice fT y154.length fU] 26 (0,0)) (gB bT.out)):dL≠dD))
        clear cJ
        clear cN
        clear cX
        clear dJ
        clear dQ
        clear dX
        clear eI
        clear gA
        clear fL
        clear bT
        clear HB
        have cJ:=bY
        have cN:=bZ
        have cX:=cA
        have dJ:=cC
        have dQ:=cQ
        have dX:=dA
        have eI:=dH
        have gA:=eG
        have fL:=fK
        have bT:=hF
        have HB:=eH
        have dS:=eR
        have GW184:=fJ
        have yP:=fQ
        have eT:=iQ
        have kK:=nI
        clear bY bZ cA cC cQ dA dH eG fK hF eH eR fJ fQ iQ nI
        clear hb hbox hg
        refine hK.out _ _ ⟨(aG bT.out 0).trans rfl,(aG bT.out 1).trans rfl,(aG bT.out 2).trans rfl,(aG bT.out 3).trans rfl,(aG bT.out 4).trans rfl⟩ (fun hHeld=>?_)
        clear hK K
        refine norm_ (a':=?_) ?_ ?_
        rotate_left
        ·show Act.put _ (some 6) _=_
         simp only [pq]
         rfl
        exact norm_ (by simp only [putAll,Act.put,List.setIfInBounds_toArray,List.set_cons_zero,List.set_cons_succ]) (hCont (.slice FJ t172.length FL,v177,v181,dL) _ ⟨hHeld,(gR cJ.out),(by(with_reducible repeat(first|apply Kd.N_alloc|apply aY|apply aZ));exact Kd.N_mono cN.out (fun _ hk=>⟨hk.1.1.1.1.1.1.1.1.1.1.1,⟨hk.1.1.1.1.1.1.1.1.1.2,⟨hk.1.1.1.1.1.1.2,⟨hk.1.1.1.1.1.2,⟨hk.1.1.1.1.2,⟨hk.1.1.1.2,⟨hk.1.1.2,⟨hk.1.2,⟨hk.1.1.1.1.1.1.1.1.2,hk.2⟩⟩⟩⟩⟩⟩⟩⟩⟩)),(by(with_reducible repeat(first|apply Kd.N_alloc|apply aY|apply aZ));exact Kd.N_mono cX.out (fun _ hk=>⟨hk.1.1.1.1.1.1.1.1.1.1,⟨hk.1.1.1.1.1.1.1.1.1.2,⟨hk.1.1.1.1.1.1.2,⟨hk.1.1.1.1.1.2,⟨hk.1.1.1.1.2,⟨hk.1.1.1.2,⟨hk.1.1.2,⟨hk.1.2,⟨hk.1.1.1.1.1.1.1.1.2,hk.2⟩⟩⟩⟩⟩⟩⟩⟩⟩)),(by(with_reducible repeat(first|apply Kd.N_alloc|apply aY|apply aZ));exact Kd.N_mono dJ.out (fun _ hk=>⟨hk.1.1.1.1.1.1.1,⟨hk.1.1.1.1.1.1.2.1,⟨hk.1.1.1.1.1.1.2.2.1,⟨hk.1.1.1.1.1.2,⟨hk.1.1.1.1.2,⟨hk.1.1.1.2,⟨hk.1.1.2,⟨hk.1.2,⟨hk.1.1.1.1.1.1.2.2.2,hk.2⟩⟩⟩⟩⟩⟩⟩⟩⟩)),(by(with_reducible repeat(first|apply aA|apply aB|apply aC));exact Kd.R_mono dQ.out (fun _ hk=>⟨hk.1.2,hk.2⟩)),(by(with_reducible repeat(first|apply aA|apply aB|apply aC));exact Kd.R_mono dX.out (fun _ hk=>⟨hk.1.2,hk.2⟩)),(by(with_reducible repeat(first|apply aA|apply aB|apply aC));exact Kd.R_mono eI.out (fun _ hk=>hk.2)),(by(with_reducible repeat(first|apply aA|apply aB|apply aC));exact Kd.R_mono gA.out (fun _ hk=>hk.2)),(by(with_reducible repeat(first|apply aA|apply aB|apply aC));exact Kd.R_mono fL.out (fun _ hk=>⟨hk.1.2,hk.2⟩)),(gB bT.out),(gB dS.out),GW184.out,yP.out,eT.out,kK.out,(gW HB.out)⟩)
       ·skip
        refine box_step ?hg (N:=6) ?hd (cs:=#[.slice none 0 0,.bool false]) (t:=31) ?hr ?_;(case hd=>rfl);(case hg=>rfl);(case hr=>first|(go_simp;done)|(go_simp;rfl))
        intro dL hg w47 hbox hb
        have bY:=aM (aD (gR cJ.out) hb)
        have bZ:=aM (Kd.N_below (Kd.N_elderB (gN cN.out) dL (Nat.le_of_eq hg.symm)) hb)
        have cA:=aM (Kd.N_below (Kd.N_elderB (gN cX.out) dL (Nat.le_of_eq hg.symm)) hb)
        have cC:=aM (Kd.N_below (Kd.N_elderB (gN dJ.out) dL (Nat.le_of_eq hg.symm)) hb)
        have cQ:=aM (aD (gR dQ.out) hb)
        have dA:=aM (aD (gR dX.out) hb)
        have dH:=aM (aD (gR eI.out) hb)
        have eG:=aM (bF (gB bT.out) hb)
        have fK:=aM (bG (gW HB.out) hb)
        have hF:=aM (hbox)
        have eH:=aM ((by rw [hg];exact(bH (gW HB.out)):w.heap.size≤dL))
        have eR:=aM ((by rw [hg];exact(bH (gW HB.out)):w.heap.size≤dL))
        have fJ:=aM ((by rw [hg];exact Nat.ne_of_lt (bN (g:=dD) (o:= .cells #[.slice iC y145.length iD,.slice fY y148.length fZ,.int .i64 0,.int .i64 0,.slice fT y154.length fU] 26 (0,0)) (gB bT.out)):dD≠dL))
        have fQ:=aM ((by rw [hg];exact Nat.ne_of_gt (bN (g:=dD) (o:= .cells #[.slice iC y145.length iD,.slice fY y148.length fZ,.int .i64 0,.int .i64 0,.slice fT y154.length fU] 26 (0,0)) (gB bT.out)):dL≠dD))
        clear cJ
        clear cN
        clear cX
        clear dJ
        clear dQ
        clear dX
        clear eI
        clear bT
        clear HB
        have cJ:=bY
        have cN:=bZ
        have cX:=cA
        have dJ:=cC
        have dQ:=cQ
        have dX:=dA
        have eI:=dH
        have bT:=eG
        have HB:=fK
        have dS:=hF
        have GW184:=eH
        have yP:=eR
        have eT:=fJ
        have kK:=fQ
        clear bY bZ cA cC cQ dA dH eG fK hF eH eR fJ fQ
        clear hb hbox hg
        obtain⟨Hr,Hs,Gw⟩:=Kd.R_slice eI.out
        (first|subst Gw|(injection Gw with f1_ f2_ f3_;have f4_:=f1_.symm;have f5_:=f3_.symm;clear f1_ f2_ f3_;subst f4_;subst f5_))
        refine hK.out _ _ ⟨(aG bT.out 0).trans rfl,(aG bT.out 1).trans rfl,(aG bT.out 2).trans rfl,(aG bT.out 3).trans rfl,(aG bT.out 4).trans rfl⟩ (fun hHeld=>?_)
        clear hK K
        refine norm_ (a':=?_) ?_ ?_
        rotate_left
        ·show Act.put _ (some 6) _=_
         simp only [pq]
         rfl
        refine one_ (i:=3) (N:=some 35) #[T,T,T,T,F,F,F,F,T,F,F,F] rfl rfl (one_of HT_.out (by kernel_rfl)) (by decide) (fun K hK=>?_)
        refine goes_ Try.func23 (by kernel_rfl) rfl #[.agg #[.slice iC y145.length iD,.slice fY y148.length fZ,.int .i64 0,.int .i64 0,.slice fT y154.length fU],.slice xU y161.length xV,.agg #[.slice Hr t172.length Hs,.bool t175],.int .i64 0] (by rfl) rfl rfl (by(try simp only [List.map_toArray,List.map_cons,List.map_nil]);first|done|rfl|(simp only [List.length_drop,List.length_take];rfl)) ?_
        with_reducible refine(machine_Feed.calls _ _ y145 _ _ y148 0 0 _ _ y154 _ _ y161 _ _ t172 t175 0 t176 t179 t180 t183 _ ?side1 ?side2 ?side3 ?side4 ?side5 ?side6 ?side7 ?side8 ?side9 ?side10 A4.out).mono ?_
        (case side1=>exact gC (aF cJ.out).2.2)
        (case side2=>exact(aF cJ.out).2.1)
        (case side3=>exact gC (aT cN.out).2.2)
        (case side4=>exact(aT cN.out).2.1)
        (case side5=>exact gC (aT cX.out).2.2)
        (case side6=>exact(aT cX.out).2.1)
        (case side7=>exact gC (aT dJ.out).2.2)
        (case side8=>exact(aT dJ.out).2.1)
        (case side9=>exact gC (aF eI.out).2.2)
        (case side10=>exact(aF eI.out).2.1)
        rintro e w49 ⟨v177,v181,rfl,ho0,ho1,hb⟩
        refine⟨_,rfl,?_⟩
        have bY:=aM (aD (gR cJ.out) hb)
        have bZ:=aM (Kd.N_mono (Kd.N_told (Kd.N_told (Kd.N_old (gN cN.out) hb) (Kd.R_base ho0)) (Kd.R_base ho1)) (fun _ h_=>h_.1))
        have cA:=aM (Kd.N_mono (Kd.N_told (Kd.N_told (Kd.N_old (gN cX.out) hb) (Kd.R_base ho0)) (Kd.R_base ho1)) (fun _ h_=>h_.1))
        have cC:=aM (Kd.N_mono (Kd.N_told (Kd.N_told (Kd.N_old (gN dJ.out) hb) (Kd.R_base ho0)) (Kd.R_base ho1)) (fun _ h_=>h_.1))
        have cQ:=aM (bE (gR dQ.out) (Kd.R_base ho1) hb)
        have dA:=aM (bE (gR dX.out) (Kd.R_base ho1) hb)
        have dH:=aM (bE (gR eI.out) (Kd.R_base ho0) hb)
        have eG:=aM (bL (Kd.R_new' ho0 (Kd.R_lt (gR eI.out))) (bH (gW HB.out)))
        have fK:=aM (bL (Kd.R_new' (Kd.R_new' ho1 (Kd.R_lt (gR dQ.out))) (Kd.R_lt (gR dX.out))) (bH (gW HB.out)))
        have hF:=aM (bF (gB bT.out) hb)
        have eH:=aM (bF (gB dS.out) hb)
        have eR:=aM (bG (gW HB.out) hb)
        clear cJ
        clear cN
        clear cX
        clear dJ
        clear dQ
        clear dX
        clear eI
        clear bT
        clear dS
        clear HB
        have cJ:=bY
        have cN:=bZ
        have cX:=cA
        have dJ:=cC
        have dQ:=cQ
        have dX:=dA
        have eI:=dH
        have gA:=eG
        have fL:=fK
        have bT:=hF
        have dS:=eH
        have HB:=eR
        clear bY bZ cA cC cQ dA dH eG fK hF eH eR
        (try clear hb);(try clear hb2);(try clear hk);(try clear hi);(try clear ho0);(try clear ho1)
        refine hK.out _ _ ⟨(aG bT.out 0).trans rfl,(aG bT.out 1).trans rfl,(aG bT.out 2).trans rfl,(aG bT.out 3).trans rfl,(aG bT.out 4).trans rfl⟩ (fun hHeld=>?_)
        clear hK K
        refine norm_ (a':=?_) ?_ ?_
        rotate_left
        ·show Act.put _ (some 35) _=_
         simp only [pq]
         rfl
        refine pure_ (i:=4) (N:=some 31) (v:=?_) (a':=?_) #[T,T,T,T,T,F,F,F,T,F,F,F] rfl rfl (any_of HT_.out (by kernel_rfl)) (fun _ _ _ h=>h) (Or.inl ⟨by rfl,?_⟩) ?_ ?_
        rotate_left;(intro w';go_simp;with_reducible rfl);rotate_left;(simp only [pq];rfl)
        refine pure_ (i:=5) (N:=some 36) (v:=?_) (a':=?_) #[T,T,T,T,T,T,F,F,T,F,F,F] rfl rfl (any_of HT_.out (by kernel_rfl)) (fun _ _ _ h=>h) (Or.inl ⟨by rfl,?_⟩) ?_ ?_
        rotate_left;(intro w';go_simp;with_reducible rfl);rotate_left;(simp only [pq];rfl)
        refine pure_ (i:=6) (N:=some 37) (v:=?_) (a':=?_) #[T,T,T,T,T,T,T,F,T,F,F,F] rfl rfl (any_of HT_.out (by kernel_rfl)) (fun _ _ _ h=>h) (Or.inl ⟨by rfl,?_⟩) ?_ ?_
        rotate_left;(intro w';go_simp;with_reducible rfl);rotate_left;(simp only [pq];rfl)
        refine pure_ (i:=7) (N:=some 38) (v:=?_) (a':=?_) #[T,T,T,T,T,T,T,T,T,F,F,F] rfl rfl (any_of HT_.out (by kernel_rfl)) (fun _ _ _ h=>h) (Or.inl ⟨by rfl,?_⟩) ?_ ?_
        rotate_left;(intro w';go_simp;with_reducible rfl);rotate_left;(simp only [pq];rfl)
        exact norm_ (by simp only [putAll,Act.put,List.setIfInBounds_toArray,List.set_cons_zero,List.set_cons_succ]) (hCont (.slice Hr t172.length Hs,v177,v181,dL) _ ⟨hHeld,(gR cJ.out),(by(with_reducible repeat(first|apply Kd.N_alloc|apply aY|apply aZ));exact Kd.N_mono cN.out (fun _ hk=>⟨hk.1.1.1.1.1.1.1.1.1.1.1,⟨hk.1.1.1.1.1.1.1.1.1.2,⟨hk.1.1.1.1.1.1.2,⟨hk.1.1.1.1.1.2,⟨hk.1.1.1.1.2,⟨hk.1.1.1.2,⟨hk.1.2,⟨hk.2,⟨hk.1.1.1.1.1.1.1.1.2,hk.1.1.2⟩⟩⟩⟩⟩⟩⟩⟩⟩)),(by(with_reducible repeat(first|apply Kd.N_alloc|apply aY|apply aZ));exact Kd.N_mono cX.out (fun _ hk=>⟨hk.1.1.1.1.1.1.1.1.1.1,⟨hk.1.1.1.1.1.1.1.1.1.2,⟨hk.1.1.1.1.1.1.2,⟨hk.1.1.1.1.1.2,⟨hk.1.1.1.1.2,⟨hk.1.1.1.2,⟨hk.1.2,⟨hk.2,⟨hk.1.1.1.1.1.1.1.1.2,hk.1.1.2⟩⟩⟩⟩⟩⟩⟩⟩⟩)),(by(with_reducible repeat(first|apply Kd.N_alloc|apply aY|apply aZ));exact Kd.N_mono dJ.out (fun _ hk=>⟨hk.1.1.1.1.1.1.1,⟨hk.1.1.1.1.1.1.2.1,⟨hk.1.1.1.1.1.1.2.2.1,⟨hk.1.1.1.1.1.2,⟨hk.1.1.1.1.2,⟨hk.1.1.1.2,⟨hk.1.2,⟨hk.2,⟨hk.1.1.1.1.1.1.2.2.2,hk.1.1.2⟩⟩⟩⟩⟩⟩⟩⟩⟩)),(by(with_reducible repeat(first|apply aA|apply aB|apply aC));exact Kd.R_mono dQ.out (fun _ hk=>⟨hk.1.2,hk.2⟩)),(by(with_reducible repeat(first|apply aA|apply aB|apply aC));exact Kd.R_mono dX.out (fun _ hk=>⟨hk.1.2,hk.2⟩)),(by(with_reducible repeat(first|apply aA|apply aB|apply aC));exact Kd.R_mono eI.out (fun _ hk=>hk.2)),(by(with_reducible repeat(first|apply aA|apply aB|apply aC));exact Kd.R_mono gA.out (fun _ hk=>hk.2)),(by(with_reducible repeat(first|apply aA|apply aB|apply aC));exact Kd.R_mono fL.out (fun _ hk=>⟨hk.1.2,hk.2⟩)),(gB bT.out),(gB dS.out),GW184.out,yP.out,eT.out,kK.out,(gW HB.out)⟩)
      ·skip
       refine box_step ?hg (N:=6) ?hd (cs:=#[.slice none 0 0,.bool false]) (t:=31) ?hr ?_;(case hd=>rfl);(case hg=>rfl);(case hr=>first|(go_simp;done)|(go_simp;rfl))
       intro dL hg w46 hbox hb
       have bY:=aM (aD (gR cJ.out) hb)
       have bZ:=aM (Kd.N_below (Kd.N_elderB (gN cN.out) dL (Nat.le_of_eq hg.symm)) hb)
       have cA:=aM (Kd.N_below (Kd.N_elderB (gN cX.out) dL (Nat.le_of_eq hg.symm)) hb)
       have cC:=aM (Kd.N_below (Kd.N_elderB (gN dJ.out) dL (Nat.le_of_eq hg.symm)) hb)
       have cQ:=aM (aD (gR dQ.out) hb)
       have dA:=aM (aD (gR dX.out) hb)
       have dH:=aM (bF (gB bT.out) hb)
       have eG:=aM (bG (gW HB.out) hb)
       have fK:=aM (hbox)
       have hF:=aM ((by rw [hg];exact(bH (gW HB.out)):w.heap.size≤dL))
       have eH:=aM ((by rw [hg];exact(bH (gW HB.out)):w.heap.size≤dL))
       have eR:=aM ((by rw [hg];exact Nat.ne_of_lt (bN (g:=dD) (o:= .cells #[.slice iC y145.length iD,.slice fY y148.length fZ,.int .i64 0,.int .i64 0,.slice fT y154.length fU] 26 (0,0)) (gB bT.out)):dD≠dL))
       have fJ:=aM ((by rw [hg];exact Nat.ne_of_gt (bN (g:=dD) (o:= .cells #[.slice iC y145.length iD,.slice fY y148.length fZ,.int .i64 0,.int .i64 0,.slice fT y154.length fU] 26 (0,0)) (gB bT.out)):dL≠dD))
       clear cJ
       clear cN
       clear cX
       clear dJ
       clear dQ
       clear dX
       clear bT
       clear HB
       have cJ:=bY
       have cN:=bZ
       have cX:=cA
       have dJ:=cC
       have dQ:=cQ
       have dX:=dA
       have bT:=dH
       have HB:=eG
       have dS:=fK
       have GW184:=hF
       have yP:=eH
       have eT:=eR
       have kK:=fJ
       clear bY bZ cA cC cQ dA dH eG fK hF eH eR fJ
       clear hb hbox hg
       refine hK.out _ _ ⟨(aG bT.out 0).trans rfl,(aG bT.out 1).trans rfl,(aG bT.out 2).trans rfl,(aG bT.out 3).trans rfl,(aG bT.out 4).trans rfl⟩ (fun hHeld=>?_)
       clear hK K
       refine norm_ (a':=?_) ?_ ?_
       rotate_left
       ·show Act.put _ (some 6) _=_
        simp only [pq]
        rfl
       refine one_ (i:=2) (N:=some 34) #[T,T,T,F,F,F,F,F,T,F,F,F] rfl rfl (one_of HT_.out (by kernel_rfl)) (by decide) (fun K hK=>?_)
       refine goes_ Try.func17 (by kernel_rfl) rfl #[] (by rfl) rfl rfl (by(try simp only [List.map_toArray,List.map_cons,List.map_nil]);first|done|rfl|(simp only [List.length_drop,List.length_take];rfl)) ?_
       with_reducible refine(machine_Start.calls  t172 t175 _ A3.out).mono ?_
       rintro e w47 ⟨v173,rfl,ho0,hb⟩
       refine⟨_,rfl,?_⟩
       have bY:=aM (aD (gR cJ.out) hb)
       have bZ:=aM (Kd.N_elder' (gN cN.out) (Kd.R_base ho0) hb)
       have cA:=aM (Kd.N_elder' (gN cX.out) (Kd.R_base ho0) hb)
       have cC:=aM (Kd.N_elder' (gN dJ.out) (Kd.R_base ho0) hb)
       have cQ:=aM (aD (gR dQ.out) hb)
       have dA:=aM (aD (gR dX.out) hb)
       have dH:=aM (bL ho0 (bH (gW HB.out)))
       have eG:=aM (bF (gB bT.out) hb)
       have fK:=aM (bF (gB dS.out) hb)
       have hF:=aM (bG (gW HB.out) hb)
       clear cJ
       clear cN
       clear cX
       clear dJ
       clear dQ
       clear dX
       clear bT
       clear dS
       clear HB
       have cJ:=bY
       have cN:=bZ
       have cX:=cA
       have dJ:=cC
       have dQ:=cQ
       have dX:=dA
       have eI:=dH
       have bT:=eG
       have dS:=fK
       have HB:=hF
       clear bY bZ cA cC cQ dA dH eG fK hF
       (try clear hb);(try clear hb2);(try clear hk);(try clear hi);(try clear ho0)
       obtain⟨Hr,Hs,Gw⟩:=Kd.R_slice eI.out
       (first|subst Gw|(injection Gw with f1_ f2_ f3_;have f4_:=f1_.symm;have f5_:=f3_.symm;clear f1_ f2_ f3_;subst f4_;subst f5_))
       refine hK.out _ _ ⟨(aG bT.out 0).trans rfl,(aG bT.out 1).trans rfl,(aG bT.out 2).trans rfl,(aG bT.out 3).trans rfl,(aG bT.out 4).trans rfl⟩ (fun hHeld=>?_)
       clear hK K
       refine norm_ (a':=?_) ?_ ?_
       rotate_left
       ·show Act.put _ (some 34) _=_
        simp only [pq]
        rfl
       refine one_ (i:=3) (N:=some 35) #[T,T,T,T,F,F,F,F,T,F,F,F] rfl rfl (one_of HT_.out (by kernel_rfl)) (by decide) (fun K hK=>?_)
       refine goes_ Try.func23 (by kernel_rfl) rfl #[.agg #[.slice iC y145.length iD,.slice fY y148.length fZ,.int .i64 0,.int .i64 0,.slice fT y154.length fU],.slice xU y161.length xV,.agg #[.slice Hr t172.length Hs,.bool t175],.int .i64 0] (by rfl) rfl rfl (by(try simp only [List.map_toArray,List.map_cons,List.map_nil]);first|done|rfl|(simp only [List.length_drop,List.length_take];rfl)) ?_
       with_reducible refine(machine_Feed.calls _ _ y145 _ _ y148 0 0 _ _ y154 _ _ y161 _ _ t172 t175 0 t176 t179 t180 t183 _ ?side1 ?side2 ?side3 ?side4 ?side5 ?side6 ?side7 ?side8 ?side9 ?side10 A4.out).mono ?_
       (case side1=>exact gC (aF cJ.out).2.2)
       (case side2=>exact(aF cJ.out).2.1)
       (case side3=>exact gC (aT cN.out).2.2)
       (case side4=>exact(aT cN.out).2.1)
       (case side5=>exact gC (aT cX.out).2.2)
       (case side6=>exact(aT cX.out).2.1)
       (case side7=>exact gC (aT dJ.out).2.2)
       (case side8=>exact(aT dJ.out).2.1)
       (case side9=>exact gC (aF eI.out).2.2)
       (case side10=>exact(aF eI.out).2.1)
       rintro e w49 ⟨v177,v181,rfl,ho0,ho1,hb⟩
       refine⟨_,rfl,?_⟩
       have bY:=aM (aD (gR cJ.out) hb)
       have bZ:=aM (Kd.N_mono (Kd.N_told (Kd.N_told (Kd.N_old (gN cN.out) hb) (Kd.R_base ho0)) (Kd.R_base ho1)) (fun _ h_=>h_.1))
       have cA:=aM (Kd.N_mono (Kd.N_told (Kd.N_told (Kd.N_old (gN cX.out) hb) (Kd.R_base ho0)) (Kd.R_base ho1)) (fun _ h_=>h_.1))
       have cC:=aM (Kd.N_mono (Kd.N_told (Kd.N_told (Kd.N_old (gN dJ.out) hb) (Kd.R_base ho0)) (Kd.R_base ho1)) (fun _ h_=>h_.1))
       have cQ:=aM (bE (gR dQ.out) (Kd.R_base ho1) hb)
       have dA:=aM (bE (gR dX.out) (Kd.R_base ho1) hb)
       have dH:=aM (bE (gR eI.out) (Kd.R_base ho0) hb)
       have eG:=aM (bL (Kd.R_new' ho0 (Kd.R_lt (gR eI.out))) (bH (gW HB.out)))
       have fK:=aM (bL (Kd.R_new' (Kd.R_new' ho1 (Kd.R_lt (gR dQ.out))) (Kd.R_lt (gR dX.out))) (bH (gW HB.out)))
       have hF:=aM (bF (gB bT.out) hb)
       have eH:=aM (bF (gB dS.out) hb)
       have eR:=aM (bG (gW HB.out) hb)
       clear cJ
       clear cN
       clear cX
       clear dJ
       clear dQ
       clear dX
       clear eI
       clear bT
       clear dS
       clear HB
       have cJ:=bY
       have cN:=bZ
       have cX:=cA
       have dJ:=cC
       have dQ:=cQ
       have dX:=dA
       have eI:=dH
       have gA:=eG
       have fL:=fK
       have bT:=hF
       have dS:=eH
       have HB:=eR
       clear bY bZ cA cC cQ dA dH eG fK hF eH eR
       (try clear hb);(try clear hb2);(try clear hk);(try clear hi);(try clear ho0);(try clear ho1)
       refine hK.out _ _ ⟨(aG bT.out 0).trans rfl,(aG bT.out 1).trans rfl,(aG bT.out 2).trans rfl,(aG bT.out 3).trans rfl,(aG bT.out 4).trans rfl⟩ (fun hHeld=>?_)
       clear hK K
       refine norm_ (a':=?_) ?_ ?_
       rotate_left
       ·show Act.put _ (some 35) _=_
        simp only [pq]
        rfl
       refine pure_ (i:=4) (N:=some 31) (v:=?_) (a':=?_) #[T,T,T,T,T,F,F,F,T,F,F,F] rfl rfl (any_of HT_.out (by kernel_rfl)) (fun _ _ _ h=>h) (Or.inl ⟨by rfl,?_⟩) ?_ ?_
       rotate_left;(intro w';go_simp;with_reducible rfl);rotate_left;(simp only [pq];rfl)
       refine pure_ (i:=5) (N:=some 36) (v:=?_) (a':=?_) #[T,T,T,T,T,T,F,F,T,F,F,F] rfl rfl (any_of HT_.out (by kernel_rfl)) (fun _ _ _ h=>h) (Or.inl ⟨by rfl,?_⟩) ?_ ?_
       rotate_left;(intro w';go_simp;with_reducible rfl);rotate_left;(simp only [pq];rfl)
       refine pure_ (i:=6) (N:=some 37) (v:=?_) (a':=?_) #[T,T,T,T,T,T,T,F,T,F,F,F] rfl rfl (any_of HT_.out (by kernel_rfl)) (fun _ _ _ h=>h) (Or.inl ⟨by rfl,?_⟩) ?_ ?_
       rotate_left;(intro w';go_simp;with_reducible rfl);rotate_left;(simp only [pq];rfl)
       refine pure_ (i:=7) (N:=some 38) (v:=?_) (a':=?_) #[T,T,T,T,T,T,T,T,T,F,F,F] rfl rfl (any_of HT_.out (by kernel_rfl)) (fun _ _ _ h=>h) (Or.inl ⟨by rfl,?_⟩) ?_ ?_
       rotate_left;(intro w';go_simp;with_reducible rfl);rotate_left;(simp only [pq];rfl)
       exact norm_ (by simp only [putAll,Act.put,List.setIfInBounds_toArray,List.set_cons_zero,List.set_cons_succ]) (hCont (.slice Hr t172.length Hs,v177,v181,dL) _ ⟨hHeld,(gR cJ.out),(by(with_reducible repeat(first|apply Kd.N_alloc|apply aY|apply aZ));exact Kd.N_mono cN.out (fun _ hk=>⟨hk.1.1.1.1.1.1.1.1.1.1.1,⟨hk.1.1.1.1.1.1.1.1.1.2,⟨hk.1.1.1.1.1.1.2,⟨hk.1.1.1.1.1.2,⟨hk.1.1.1.1.2,⟨hk.1.1.2,⟨hk.1.2,⟨hk.2,⟨hk.1.1.1.1.1.1.1.1.2,hk.1.1.1.2⟩⟩⟩⟩⟩⟩⟩⟩⟩)),(by(with_reducible repeat(first|apply Kd.N_alloc|apply aY|apply aZ));exact Kd.N_mono cX.out (fun _ hk=>⟨hk.1.1.1.1.1.1.1.1.1.1,⟨hk.1.1.1.1.1.1.1.1.1.2,⟨hk.1.1.1.1.1.1.2,⟨hk.1.1.1.1.1.2,⟨hk.1.1.1.1.2,⟨hk.1.1.2,⟨hk.1.2,⟨hk.2,⟨hk.1.1.1.1.1.1.1.1.2,hk.1.1.1.2⟩⟩⟩⟩⟩⟩⟩⟩⟩)),(by(with_reducible repeat(first|apply Kd.N_alloc|apply aY|apply aZ));exact Kd.N_mono dJ.out (fun _ hk=>⟨hk.1.1.1.1.1.1.1,⟨hk.1.1.1.1.1.1.2.1,⟨hk.1.1.1.1.1.1.2.2.1,⟨hk.1.1.1.1.1.2,⟨hk.1.1.1.1.2,⟨hk.1.1.2,⟨hk.1.2,⟨hk.2,⟨hk.1.1.1.1.1.1.2.2.2,hk.1.1.1.2⟩⟩⟩⟩⟩⟩⟩⟩⟩)),(by(with_reducible repeat(first|apply aA|apply aB|apply aC));exact Kd.R_mono dQ.out (fun _ hk=>⟨hk.1.2,hk.2⟩)),(by(with_reducible repeat(first|apply aA|apply aB|apply aC));exact Kd.R_mono dX.out (fun _ hk=>⟨hk.1.2,hk.2⟩)),(by(with_reducible repeat(first|apply aA|apply aB|apply aC));exact Kd.R_mono eI.out (fun _ hk=>hk.2)),(by(with_reducible repeat(first|apply aA|apply aB|apply aC));exact Kd.R_mono gA.out (fun _ hk=>hk.2)),(by(with_reducible repeat(first|apply aA|apply aB|apply aC));exact Kd.R_mono fL.out (fun _ hk=>⟨hk.1.2,hk.2⟩)),(gB bT.out),(gB dS.out),GW184.out,yP.out,eT.out,kK.out,(gW HB.out)⟩)
     rintro⟨v173,v177,v181,dL⟩ w50 ⟨hS_,h0_,h1_,h2_,h3_,h4_,h5_,h6_,h7_,h8_,h9_,h10_,h11_,h12_,h13_,h14_,h15_⟩
     have bY:Aside0 (Kd.R Kd.string 9 w50 w.heap.size (fun _=>True) (.slice iC y145.length iD) y145):=⟨h0_⟩
     have bZ:Aside0 (Kd.N k72 72 w50 w.heap.size (fun k_=>some k_≠(.slice iC y145.length iD:Value).ownBlock∧some k_≠(.slice fT y154.length fU:Value).ownBlock∧some k_≠(.slice xU y161.length xV:Value).ownBlock∧some k_≠(.slice tL y164.length tM:Value).ownBlock∧some k_≠(v168:Value).ownBlock∧some k_≠(v173:Value).ownBlock∧some k_≠(v177:Value).ownBlock∧some k_≠(v181:Value).ownBlock∧k_≠dD∧k_≠dL) (.slice fY y148.length fZ) y148):=⟨h1_⟩
     have cA:Aside0 (Kd.N k35 35 w50 w.heap.size (fun k_=>some k_≠(.slice iC y145.length iD:Value).ownBlock∧some k_≠(.slice fY y148.length fZ:Value).ownBlock∧some k_≠(.slice xU y161.length xV:Value).ownBlock∧some k_≠(.slice tL y164.length tM:Value).ownBlock∧some k_≠(v168:Value).ownBlock∧some k_≠(v173:Value).ownBlock∧some k_≠(v177:Value).ownBlock∧some k_≠(v181:Value).ownBlock∧k_≠dD∧k_≠dL) (.slice fT y154.length fU) y154):=⟨h2_⟩
     have cC:Aside0 (Kd.N (Kd.slice 3 (Kd.int .i64)) 32 w50 w.heap.size (fun k_=>some k_≠(.slice iC y145.length iD:Value).ownBlock∧some k_≠(.slice fY y148.length fZ:Value).ownBlock∧some k_≠(.slice fT y154.length fU:Value).ownBlock∧some k_≠(.slice tL y164.length tM:Value).ownBlock∧some k_≠(v168:Value).ownBlock∧some k_≠(v173:Value).ownBlock∧some k_≠(v177:Value).ownBlock∧some k_≠(v181:Value).ownBlock∧k_≠dD∧k_≠dL) (.slice xU y161.length xV) y161):=⟨h3_⟩
     have cQ:Aside0 (Kd.R (Kd.int .i64) 3 w50 w.heap.size (fun k_=>some k_≠(v168:Value).ownBlock∧some k_≠(v181:Value).ownBlock) (.slice tL y164.length tM) y164):=⟨h4_⟩
     have dA:Aside0 (Kd.R (Kd.int .i64) 3 w50 w.heap.size (fun k_=>some k_≠(.slice tL y164.length tM:Value).ownBlock∧some k_≠(v181:Value).ownBlock) v168 t167):=⟨h5_⟩
     have dH:Aside0 (Kd.R k43 43 w50 w.heap.size (fun k_=>some k_≠(v177:Value).ownBlock) v173 t172):=⟨h6_⟩
     have eG:Aside0 (Kd.R k43 43 w50 w.heap.size (fun k_=>some k_≠(v173:Value).ownBlock) v177 t176):=⟨h7_⟩
     have fK:Aside0 (Kd.R (Kd.int .i64) 3 w50 w.heap.size (fun k_=>some k_≠(.slice tL y164.length tM:Value).ownBlock∧some k_≠(v168:Value).ownBlock) v181 t180):=⟨h8_⟩
     have hF:Aside0 (w50.heap[dD]?=some (.cells #[.slice iC y145.length iD,.slice fY y148.length fZ,.int .i64 0,.int .i64 0,.slice fT y154.length fU] 26 (0,0))):=⟨h9_⟩
     have eH:Aside0 (w50.heap[dL]?=some (.cells #[.slice none 0 0,.bool false] 31 (0,0))):=⟨h10_⟩
     have eR:Aside0 (w.heap.size≤dL):=⟨h11_⟩
     have fJ:Aside0 (w.heap.size≤dL):=⟨h12_⟩
     have fQ:Aside0 (dD≠dL):=⟨h13_⟩
     have iQ:Aside0 (dL≠dD):=⟨h14_⟩
     have nI:Aside0 (Below w.heap.size w w50):=⟨h15_⟩
     clear cJ
     clear cN
     clear cX
     clear dJ
     clear dQ
     clear dX
     clear bT
     clear HB
     clear h0_ h1_ h2_ h3_ h4_ h5_ h6_ h7_ h8_ h9_ h10_ h11_ h12_ h13_ h14_ h15_
     have cJ:=bY
     have cN:=bZ
     have cX:=cA
     have dJ:=cC
     have dQ:=cQ
     have dX:=dA
     have eI:=dH
     have gA:=eG
     have fL:=fK
     have bT:=hF
     have dS:=eH
     have GW184:=eR
     have yP:=fJ
     have eT:=fQ
     have kK:=iQ
     have HB:=nI
     clear bY bZ cA cC cQ dA dH eG fK hF eH eR fJ fQ iQ nI
     have hHeld:w50.cell? ⟨dD,0,none⟩=some (.slice iC y145.length iD)∧w50.cell? ⟨dD,1,none⟩=some (.slice fY y148.length fZ)∧w50.cell? ⟨dD,2,none⟩=some (.int .i64 0)∧w50.cell? ⟨dD,3,none⟩=some (.int .i64 0)∧w50.cell? ⟨dD,4,none⟩=some (.slice fT y154.length fU):=hS_
     obtain⟨tG,tH,FN⟩:=Kd.R_slice gA.out
     (first|subst FN|(injection FN with f1_ f2_ f3_;have f4_:=f1_.symm;have f5_:=f3_.symm;clear f1_ f2_ f3_;subst f4_;subst f5_))
     refine norm_ (a':=?_) ?_ ?_
     rotate_left
     ·simp only [putAll,Act.put,List.setIfInBounds_toArray,List.set_cons_zero,List.set_cons_succ]
      rfl
     refine one_ (i:=9) (N:=none) #[T,T,T,T,T,T,T,T,T,T,F,F] rfl rfl (one_of HT_.out (by kernel_rfl)) (by decide) (fun K hK=>?_)
     have hs52:w50.cell? ⟨dL,0,none⟩=some (.slice none 0 0):=(aG dS.out 0).trans rfl
     have hfs52:=aH dS.out 0
     have hns52_0:=eT.out
     have hms52_0:=kK.out
     have hs53:w50.cell? ⟨dL,1,none⟩=some (.bool false):=(aG dS.out 1).trans rfl
     have hfs53:=aH dS.out 1
     have hns53_0:=eT.out
     have hms53_0:=kK.out
     refine skip_ (w1:=?_) (by rfl) rfl ?_ ?_
     rotate_left
     ·go_simp
      rfl
     refine hK.out _ _ ⟨((cell_far (p:=⟨dL,_,none⟩) eT.out _).trans (((cell_far (p:=⟨dL,_,none⟩) eT.out _).trans (hHeld.1)))),((cell_far (p:=⟨dL,_,none⟩) eT.out _).trans (((cell_far (p:=⟨dL,_,none⟩) eT.out _).trans (hHeld.2.1)))),((cell_far (p:=⟨dL,_,none⟩) eT.out _).trans (((cell_far (p:=⟨dL,_,none⟩) eT.out _).trans (hHeld.2.2.1)))),((cell_far (p:=⟨dL,_,none⟩) eT.out _).trans (((cell_far (p:=⟨dL,_,none⟩) eT.out _).trans (hHeld.2.2.2.1)))),((cell_far (p:=⟨dL,_,none⟩) eT.out _).trans (((cell_far (p:=⟨dL,_,none⟩) eT.out _).trans (hHeld.2.2.2.2))))⟩ (fun hHeld=>?_)
     clear hK K
     refine pure_ (i:=10) (N:=some 7) (v:=?_) (a':=?_) #[T,T,T,T,T,T,T,T,T,T,T,F] rfl rfl (any_of HT_.out (by kernel_rfl)) (fun _ _ _ h=>h) (Or.inl ⟨by rfl,?_⟩) ?_ ?_
     rotate_left;(intro w';go_simp;with_reducible rfl);rotate_left;(simp only [pq];rfl)
     refine pure_ (i:=11) (N:=some 8) (v:=?_) (a':=?_) #[T,T,T,T,T,T,T,T,T,T,T,T] rfl rfl (any_of HT_.out (by kernel_rfl)) (fun _ _ _ h=>h) (Or.inl ⟨by rfl,?_⟩) ?_ ?_
     rotate_left;(intro w';go_simp;with_reducible rfl);rotate_left;(simp only [pq];rfl)
     refine done_ (done_of HT_.out (by kernel_rfl)) ?_
     have hnb54:=eT.out
     have hnc54:=kK.out
     have Rj:w50.cell? ⟨dD,0,none⟩=some (.slice iC y145.length iD):=(aG bT.out 0).trans rfl
     have Rk:w50.cell? ⟨dD,1,none⟩=some (.slice fY y148.length fZ):=(aG bT.out 1).trans rfl
     have Rl:w50.cell? ⟨dD,2,none⟩=some (.int .i64 0):=(aG bT.out 2).trans rfl
     have Rm:w50.cell? ⟨dD,3,none⟩=some (.int .i64 0):=(aG bT.out 3).trans rfl
     have Rn:w50.cell? ⟨dD,4,none⟩=some (.slice fT y154.length fU):=(aG bT.out 4).trans rfl
     have Ro:=aH bT.out 0
     have Rp:=aH bT.out 1
     have Rq:=aH bT.out 2
     have Rs:=aH bT.out 3
     have Rt:=aH bT.out 4
     try go_wp2_with (first|((with_reducible refine bJ (N:=42) rfl ?_);(try(refine gate_guard (by rfl) ?_;dsimp only));refine Kd.R_lit (Kd.int .i64) _ 3 ?hg (N:=42) ?hd (xs:=([1]:List Int)) (inner:= [.int .i64 1]) (ok:=fun _=>True) (okp:=fun _=>True) ?hr ?hp (fun _ hk=>hk) trivial (Below.refl _ _) (Nat.le_refl _) (by simp) ?_;(case hd=>rfl);(case hg=>rfl);(case hr=>first|(go_simp;done)|(go_simp;rfl));(case hp=>exact(Reps.one (show Kd.M (Kd.int .i64) _ _ _ 1 [.int .i64 1] from rfl) (Reps.none _ _)));intro v186 w56 ho57 hb hg_ hnew_;clear hg_ hnew_;(first|rw [←Vx.out] at ho57|(simp only [Int.reduceToNat] at ho57;rw [←Vx.out] at ho57));have bY:=aM (aD (by(with_reducible repeat(first|apply aA|apply aB|apply aC));exact(Kd.R_mono (aE (p:=⟨dL,1,none⟩) (aE (p:=⟨dL,0,none⟩) (Kd.R_types cJ.out dS.out (by decide)) (fun _ hk=>hk.2) (.slice tG t176.length tH)) (fun _ hk=>hk.2) (.bool t179)) (fun _ h_=>h_.1))) hb);have bZ:=aM (Kd.N_elder' (by(with_reducible repeat(first|apply Kd.N_alloc|apply aY|apply aZ));exact(Kd.N_mono (Kd.N_far (p:=⟨dL,1,none⟩) (Kd.N_far (p:=⟨dL,0,none⟩) (Kd.N_mono cN.out (fun k_ hk=>(⟨hk,hk.2.2.2.2.2.2.2.2.2⟩:_∧k_≠dL))) (fun _ hk=>hk.2) (.slice tG t176.length tH)) (fun _ hk=>hk.2) (.bool t179)) (fun _ h_=>h_.1))) (Kd.R_base ho57) hb);have cA:=aM (Kd.N_elder' (by(with_reducible repeat(first|apply Kd.N_alloc|apply aY|apply aZ));exact(Kd.N_mono (Kd.N_far (p:=⟨dL,1,none⟩) (Kd.N_far (p:=⟨dL,0,none⟩) (Kd.N_mono cX.out (fun k_ hk=>(⟨hk,hk.2.2.2.2.2.2.2.2.2⟩:_∧k_≠dL))) (fun _ hk=>hk.2) (.slice tG t176.length tH)) (fun _ hk=>hk.2) (.bool t179)) (fun _ h_=>h_.1))) (Kd.R_base ho57) hb);have cC:=aM (Kd.N_elder' (by(with_reducible repeat(first|apply Kd.N_alloc|apply aY|apply aZ));exact(Kd.N_mono (Kd.N_far (p:=⟨dL,1,none⟩) (Kd.N_far (p:=⟨dL,0,none⟩) (Kd.N_mono dJ.out (fun k_ hk=>(⟨hk,hk.2.2.2.2.2.2.2.2.2⟩:_∧k_≠dL))) (fun _ hk=>hk.2) (.slice tG t176.length tH)) (fun _ hk=>hk.2) (.bool t179)) (fun _ h_=>h_.1))) (Kd.R_base ho57) hb);have cQ:=aM (bE (by(with_reducible repeat(first|apply aA|apply aB|apply aC));exact(Kd.R_mono (aE (p:=⟨dL,1,none⟩) (aE (p:=⟨dL,0,none⟩) (Kd.R_types dQ.out dS.out (by decide)) (fun _ hk=>hk.2) (.slice tG t176.length tH)) (fun _ hk=>hk.2) (.bool t179)) (fun _ h_=>h_.1))) (Kd.R_base ho57) hb);have dA:=aM (bE (by(with_reducible repeat(first|apply aA|apply aB|apply aC));exact(Kd.R_mono (aE (p:=⟨dL,1,none⟩) (aE (p:=⟨dL,0,none⟩) (Kd.R_types dX.out dS.out (by decide)) (fun _ hk=>hk.2) (.slice tG t176.length tH)) (fun _ hk=>hk.2) (.bool t179)) (fun _ h_=>h_.1))) (Kd.R_base ho57) hb);have dH:=aM (aD (by(with_reducible repeat(first|apply aA|apply aB|apply aC));exact(Kd.R_mono (aE (p:=⟨dL,1,none⟩) (aE (p:=⟨dL,0,none⟩) (Kd.R_types eI.out dS.out (by decide)) (fun _ hk=>hk.2) (.slice tG t176.length tH)) (fun _ hk=>hk.2) (.bool t179)) (fun _ h_=>h_.1))) hb);have eG:=aM (aD (by(with_reducible repeat(first|apply aA|apply aB|apply aC));exact(Kd.R_mono (aE (p:=⟨dL,1,none⟩) (aE (p:=⟨dL,0,none⟩) (Kd.R_types gA.out dS.out (by decide)) (fun _ hk=>hk.2) (.slice tG t176.length tH)) (fun _ hk=>hk.2) (.bool t179)) (fun _ h_=>h_.1))) hb);have fK:=aM (bE (by(with_reducible repeat(first|apply aA|apply aB|apply aC));exact(Kd.R_mono (aE (p:=⟨dL,1,none⟩) (aE (p:=⟨dL,0,none⟩) (Kd.R_types fL.out dS.out (by decide)) (fun _ hk=>hk.2) (.slice tG t176.length tH)) (fun _ hk=>hk.2) (.bool t179)) (fun _ h_=>h_.1))) (Kd.R_base ho57) hb);have hF:=aM (bL (Kd.R_new' (Kd.R_new' (Kd.R_new' ho57 (Kd.R_lt (by(with_reducible repeat(first|apply aA|apply aB|apply aC));exact(Kd.R_mono (aE (p:=⟨dL,1,none⟩) (aE (p:=⟨dL,0,none⟩) (Kd.R_types dQ.out dS.out (by decide)) (fun _ hk=>hk.2) (.slice tG t176.length tH)) (fun _ hk=>hk.2) (.bool t179)) (fun _ h_=>h_.1))))) (Kd.R_lt (by(with_reducible repeat(first|apply aA|apply aB|apply aC));exact(Kd.R_mono (aE (p:=⟨dL,1,none⟩) (aE (p:=⟨dL,0,none⟩) (Kd.R_types dX.out dS.out (by decide)) (fun _ hk=>hk.2) (.slice tG t176.length tH)) (fun _ hk=>hk.2) (.bool t179)) (fun _ h_=>h_.1))))) (Kd.R_lt (by(with_reducible repeat(first|apply aA|apply aB|apply aC));exact(Kd.R_mono (aE (p:=⟨dL,1,none⟩) (aE (p:=⟨dL,0,none⟩) (Kd.R_types fL.out dS.out (by decide)) (fun _ hk=>hk.2) (.slice tG t176.length tH)) (fun _ hk=>hk.2) (.bool t179)) (fun _ h_=>h_.1))))) (bH (by repeat(first|(with_reducible first|exact HB.out|apply aN|apply aP|apply aO|refine aL ?_ Lc.out|refine aL ?_ yP.out)|exact HB.out))));have eH:=aM (bF (g:=dD) (o:= .cells #[.slice iC y145.length iD,.slice fY y148.length fZ,.int .i64 0,.int .i64 0,.slice fT y154.length fU] 26 (0,0)) (by(with_reducible repeat(first|refine aJ ?_ _|refine aK ?_|refine aI ?_ _));refine blk_far ?_ eT.out _;(with_reducible repeat(first|refine aJ ?_ _|refine aK ?_|refine aI ?_ _));refine blk_far ?_ eT.out _;(with_reducible repeat(first|refine aJ ?_ _|refine aK ?_|refine aI ?_ _));exact bT.out) hb);have eR:=aM (bF (g:=dL) (o:= .cells #[.slice tG t176.length tH,.bool t179] 31 (0,0)) (by(with_reducible repeat(first|refine aJ ?_ _|refine aK ?_|refine aI ?_ _));refine blk_put (cs:=#[.slice tG t176.length tH,.bool false]) ?_ 1 _ rfl;(with_reducible repeat(first|refine aJ ?_ _|refine aK ?_|refine aI ?_ _));refine blk_put (cs:=#[.slice none 0 0,.bool false]) ?_ 0 _ rfl;(with_reducible repeat(first|refine aJ ?_ _|refine aK ?_|refine aI ?_ _));exact dS.out) hb);have fJ:=aM (bG (by repeat(first|(with_reducible first|exact HB.out|apply aN|apply aP|apply aO|refine aL ?_ Lc.out|refine aL ?_ yP.out)|exact HB.out)) hb);clear cJ;clear cN;clear cX;clear dJ;clear dQ;clear dX;clear eI;clear gA;clear fL;clear bT;clear dS;clear HB;have cJ:=bY;have cN:=bZ;have cX:=cA;have dJ:=cC;have dQ:=cQ;have dX:=dA;have eI:=dH;have gA:=eG;have fL:=fK;have iG:=hF;have bT:=eH;have dS:=eR;have HB:=fJ;clear bY bZ cA cC cQ dA dH eG fK hF eH eR fJ;clear hb ho57;obtain⟨ND,NE,NF⟩:=Kd.R_slice iG.out;subst NF)|((with_reducible refine bI (f:=22) rfl ?_);refine goesL_ (some 43) rfl rfl Try.func22 (by kernel_rfl) rfl #[.agg #[.slice iC y145.length iD,.slice fY y148.length fZ,.int .i64 0,.int .i64 0,.slice fT y154.length fU],.slice xU y161.length xV,.slice ND y185.length NE] rfl (by(try simp only [List.map_toArray,List.map_cons,List.map_nil]);first|done|rfl|(simp only [List.length_drop,List.length_take];rfl)) ?_;(with_reducible refine(machine_Run.calls k _ _ y145 _ _ y148 0 0 _ _ y154 _ _ y161 _ _ y185 t188 t191 t192 _ ?side1 ?side2 ?side3 ?side4 ?side5 ?side6 ?side7 ?side8 ?side9 ?side10 A5.out).mono ?_);(case side1=>exact gC (aF cJ.out).2.2);(case side2=>exact(aF cJ.out).2.1);(case side3=>exact gC (aT cN.out).2.2);(case side4=>exact(aT cN.out).2.1);(case side5=>exact gC (aT cX.out).2.2);(case side6=>exact(aT cX.out).2.1);(case side7=>exact gC (aT dJ.out).2.2);(case side8=>exact(aT dJ.out).2.1);(case side9=>exact gC (aF iG.out).2.2);(case side10=>exact(aF iG.out).2.1);rintro e w59 ⟨v189,rfl,ho0,hb⟩;refine⟨_,rfl,?_⟩;have bY:=aM (aD (gR cJ.out) hb);have bZ:=aM (Kd.N_elder' (gN cN.out) (Kd.R_base ho0) hb);have cA:=aM (Kd.N_elder' (gN cX.out) (Kd.R_base ho0) hb);have cC:=aM (Kd.N_elder' (gN dJ.out) (Kd.R_base ho0) hb);have cQ:=aM (bE (gR dQ.out) (Kd.R_base ho0) hb);have dA:=aM (bE (gR dX.out) (Kd.R_base ho0) hb);have dH:=aM (aD (gR eI.out) hb);have eG:=aM (aD (gR gA.out) hb);have fK:=aM (bE (gR fL.out) (Kd.R_base ho0) hb);have hF:=aM (bE (gR iG.out) (Kd.R_base ho0) hb);have eH:=aM (bL (Kd.R_new' (Kd.R_new' (Kd.R_new' (Kd.R_new' ho0 (Kd.R_lt (gR dQ.out))) (Kd.R_lt (gR dX.out))) (Kd.R_lt (gR fL.out))) (Kd.R_lt (gR iG.out))) (bH (gW HB.out)));have eR:=aM (bF (gB bT.out) hb);have fJ:=aM (bF (gB dS.out) hb);have fQ:=aM (bG (gW HB.out) hb);clear cJ;clear cN;clear cX;clear dJ;clear dQ;clear dX;clear eI;clear gA;clear fL;clear iG;clear bT;clear dS;clear HB;have cJ:=bY;have cN:=bZ;have cX:=cA;have dJ:=cC;have dQ:=cQ;have dX:=dA;have eI:=dH;have gA:=eG;have fL:=fK;have iG:=hF;have jY:=eH;have bT:=eR;have dS:=fJ;have HB:=fQ;clear bY bZ cA cC cQ dA dH eG fK hF eH eR fJ fQ;(try clear hb);(try clear hb2);(try clear hk);(try clear hi);(try clear ho0)))
     have bY:=aM (aC cJ.out)
     have bZ:=aM (aZ cN.out)
     have cA:=aM (aZ cX.out)
     have cC:=aM (aZ dJ.out)
     have cQ:=aM (aC dQ.out)
     have dA:=aM (aC dX.out)
     have dH:=aM (aC eI.out)
     have eG:=aM (aC gA.out)
     have fK:=aM (aC fL.out)
     have hF:=aM (aC iG.out)
     have eH:=aM (aC jY.out)
     have eR:=aM (aK bT.out)
     have fJ:=aM (aK dS.out)
     have fQ:=aM (aO HB.out)
     clear cJ
     clear cN
     clear cX
     clear dJ
     clear dQ
     clear dX
     clear eI
     clear gA
     clear fL
     clear iG
     clear jY
     clear bT
     clear dS
     clear HB
     have cJ:=bY
     have cN:=bZ
     have cX:=cA
     have dJ:=cC
     have dQ:=cQ
     have dX:=dA
     have eI:=dH
     have gA:=eG
     have fL:=fK
     have iG:=hF
     have jY:=eH
     have bT:=eR
     have dS:=fJ
     have HB:=fQ
     clear bY bZ cA cC cQ dA dH eG fK hF eH eR fJ fQ
     refine start_ (n:=40) (S:=fun w'=>w'.cell? ⟨dL,0,none⟩=some (.slice tG t176.length tH)∧w'.cell? ⟨dL,1,none⟩=some (.bool t179)∧w'.cell? ⟨dD,0,none⟩=some (.slice iC y145.length iD)∧w'.cell? ⟨dD,1,none⟩=some (.slice fY y148.length fZ)∧w'.cell? ⟨dD,2,none⟩=some (.int .i64 0)∧w'.cell? ⟨dD,3,none⟩=some (.int .i64 0)∧w'.cell? ⟨dD,4,none⟩=some (.slice fT y154.length fU)) (ds:= []) #[F,F,F,F,F,F,F,F,F,F,F,F,F,F,F,F,F,F,F,F,F,F,F,F,F,F,F,F,F,F,F,F,F,F,F,F,F,F,F,F] (by kernel_rfl) rfl rfl ⟨(aG dS.out 0).trans rfl,(aG dS.out 1).trans rfl,(aG bT.out 0).trans rfl,(aG bT.out 1).trans rfl,(aG bT.out 2).trans rfl,(aG bT.out 3).trans rfl,(aG bT.out 4).trans rfl⟩ (fun hHeld=>?_);refine with_tabW regletlaw16_awake.tab6 regletlaw16_awake.bits6 (fun HT_ HW_=>?_)
     generalize w59.drew=w60 at cJ cN cX dJ dQ dX eI gA fL iG jY bT dS HB hHeld ⊢
     refine pure_ (i:=0) (N:=some 47) (v:=?_) (a':=?_) #[T,F,F,F,F,F,F,F,F,F,F,F,F,F,F,F,F,F,F,F,F,F,F,F,F,F,F,F,F,F,F,F,F,F,F,F,F,F,F,F] rfl rfl (any_of HT_.out (by kernel_rfl)) (fun _ _ _ h=>h) (Or.inl ⟨by rfl,?_⟩) ?_ ?_
     rotate_left;(intro w';go_simp;with_reducible rfl);rotate_left;(simp only [pq];rfl)
     refine pure_ (i:=1) (N:=some 48) (v:=?_) (a':=?_) #[T,T,F,F,F,F,F,F,F,F,F,F,F,F,F,F,F,F,F,F,F,F,F,F,F,F,F,F,F,F,F,F,F,F,F,F,F,F,F,F] rfl rfl (any_of HT_.out (by kernel_rfl)) (fun _ _ _ h=>h) (Or.inl ⟨by rfl,?_⟩) ?_ ?_
     rotate_left;(intro w';go_simp;with_reducible rfl);rotate_left;(simp only [pq];rfl)
     refine pure_ (i:=2) (N:=some 49) (v:=?_) (a':=?_) #[T,T,T,F,F,F,F,F,F,F,F,F,F,F,F,F,F,F,F,F,F,F,F,F,F,F,F,F,F,F,F,F,F,F,F,F,F,F,F,F] rfl rfl (any_of HT_.out (by kernel_rfl)) (fun _ _ _ h=>h) (Or.inl ⟨by rfl,?_⟩) ?_ ?_
     rotate_left;(intro w';go_simp;with_reducible rfl);rotate_left;(simp only [pq];rfl)
     refine pure_ (i:=3) (N:=some 50) (v:=?_) (a':=?_) #[T,T,T,T,F,F,F,F,F,F,F,F,F,F,F,F,F,F,F,F,F,F,F,F,F,F,F,F,F,F,F,F,F,F,F,F,F,F,F,F] rfl rfl (any_of HT_.out (by kernel_rfl)) (fun _ _ _ h=>h) (Or.inl ⟨by rfl,?_⟩) ?_ ?_
     rotate_left;(intro w';go_simp;with_reducible rfl);rotate_left;(simp only [pq];rfl)
     refine one_ (i:=4) (N:=some 51) #[T,T,T,T,T,F,F,F,F,F,F,F,F,F,F,F,F,F,F,F,F,F,F,F,F,F,F,F,F,F,F,F,F,F,F,F,F,F,F,F] rfl rfl (one_of HT_.out (by kernel_rfl)) (by decide) (fun K hK=>?_)
     refine Kd.R_lit_step (Kd.int .i64) _ 3 ?hg (N:=51) ?hd (xs:=([0,0,1]:List Int)) (inner:= [.int .i64 0,.int .i64 0,.int .i64 1]) (ok:=fun _=>True) (okp:=fun _=>True) ?hr ?hp (fun _ hk=>hk) trivial (Below.refl _ _) (Nat.le_refl _) (by simp) ?_;(case hd=>rfl);(case hg=>rfl);(case hr=>first|(go_simp;done)|(go_simp;rfl));(case hp=>exact(Reps.one (show Kd.M (Kd.int .i64) _ _ _ 0 [.int .i64 0] from rfl) (Reps.one (show Kd.M (Kd.int .i64) _ _ _ 0 [.int .i64 0] from rfl) (Reps.one (show Kd.M (Kd.int .i64) _ _ _ 1 [.int .i64 1] from rfl) (Reps.none _ _)))))
     intro v194 w61 ho62 hb hg_ hnew_
     clear hg_ hnew_
     (first|rw [←Vy.out] at ho62|(simp only [Int.reduceToNat] at ho62;rw [←Vy.out] at ho62))
     have bY:=aM (aD (gR cJ.out) hb)
     have bZ:=aM (Kd.N_elder' (gN cN.out) (Kd.R_base ho62) hb)
     have cA:=aM (Kd.N_elder' (gN cX.out) (Kd.R_base ho62) hb)
     have cC:=aM (Kd.N_elder' (gN dJ.out) (Kd.R_base ho62) hb)
     have cQ:=aM (bE (gR dQ.out) (Kd.R_base ho62) hb)
     have dA:=aM (bE (gR dX.out) (Kd.R_base ho62) hb)
     have dH:=aM (aD (gR eI.out) hb)
     have eG:=aM (aD (gR gA.out) hb)
     have fK:=aM (bE (gR fL.out) (Kd.R_base ho62) hb)
     have hF:=aM (bE (gR iG.out) (Kd.R_base ho62) hb)
     have eH:=aM (bE (gR jY.out) (Kd.R_base ho62) hb)
     have eR:=aM (bL (Kd.R_new' (Kd.R_new' (Kd.R_new' (Kd.R_new' (Kd.R_new' ho62 (Kd.R_lt (gR dQ.out))) (Kd.R_lt (gR dX.out))) (Kd.R_lt (gR fL.out))) (Kd.R_lt (gR iG.out))) (Kd.R_lt (gR jY.out))) (bH (gW HB.out)))
     have fJ:=aM (bF (gB bT.out) hb)
     have fQ:=aM (bF (gB dS.out) hb)
     have iQ:=aM (bG (gW HB.out) hb)
     clear cJ
     clear cN
     clear cX
     clear dJ
     clear dQ
     clear dX
     clear eI
     clear gA
     clear fL
     clear iG
     clear jY
     clear bT
     clear dS
     clear HB
     have cJ:=bY
     have cN:=bZ
     have cX:=cA
     have dJ:=cC
     have dQ:=cQ
     have dX:=dA
     have eI:=dH
     have gA:=eG
     have fL:=fK
     have iG:=hF
     have jY:=eH
     have lR:=eR
     have bT:=fJ
     have dS:=fQ
     have HB:=iQ
     clear bY bZ cA cC cQ dA dH eG fK hF eH eR fJ fQ iQ
     clear hb ho62
     obtain⟨NG,NH,FO⟩:=Kd.R_slice dX.out
     (first|subst FO|(injection FO with f1_ f2_ f3_;have f4_:=f1_.symm;have f5_:=f3_.symm;clear f1_ f2_ f3_;subst f4_;subst f5_))
     obtain⟨NI,NJ,FP⟩:=Kd.R_slice lR.out
     (first|subst FP|(injection FP with f1_ f2_ f3_;have f4_:=f1_.symm;have f5_:=f3_.symm;clear f1_ f2_ f3_;subst f4_;subst f5_))
     refine hK.out _ _ ⟨(aG dS.out 0).trans rfl,(aG dS.out 1).trans rfl,(aG bT.out 0).trans rfl,(aG bT.out 1).trans rfl,(aG bT.out 2).trans rfl,(aG bT.out 3).trans rfl,(aG bT.out 4).trans rfl⟩ (fun hHeld=>?_)
     clear hK K
     refine norm_ (a':=?_) ?_ ?_
     rotate_left
     ·show Act.put _ (some 51) _=_
      simp only [pq]
      rfl
     refine one_ (i:=5) (N:=some 52) #[T,T,T,T,T,T,F,F,F,F,F,F,F,F,F,F,F,F,F,F,F,F,F,F,F,F,F,F,F,F,F,F,F,F,F,F,F,F,F,F] rfl rfl (one_of HT_.out (by kernel_rfl)) (by decide) (fun K hK=>?_)
     refine goes_ Try.func24 (by kernel_rfl) rfl #[.slice NG t167.length NH,.slice NI y193.length NJ] (by rfl) rfl rfl (by(try simp only [List.map_toArray,List.map_cons,List.map_nil]);first|done|rfl|(simp only [List.length_drop,List.length_take];rfl)) ?_
     with_reducible refine(regletref13_SameInts.calls k _ _ t167 _ _ y193 true _ ?side1 ?side2 ?side3 ?side4 A7.out).mono ?_
     (case side1=>exact gC (aF dX.out).2.2)
     (case side2=>exact(aF dX.out).2.1)
     (case side3=>exact gC (aF lR.out).2.2)
     (case side4=>exact(aF lR.out).2.1)
     rintro e w' ⟨rfl,⟨nd,rfl⟩⟩
     refine⟨_,rfl,?_⟩
     refine hK.out _ _ ⟨(aG dS.out 0).trans rfl,(aG dS.out 1).trans rfl,(aG bT.out 0).trans rfl,(aG bT.out 1).trans rfl,(aG bT.out 2).trans rfl,(aG bT.out 3).trans rfl,(aG bT.out 4).trans rfl⟩ (fun hHeld=>?_)
     clear hK K
     refine norm_ (a':=?_) ?_ ?_
     rotate_left
     ·show Act.put _ (some 52) _=_
      simp only [pq]
      rfl
     refine pure_ (i:=6) (N:=some 53) (v:=?_) (a':=?_) #[T,T,T,T,T,T,T,F,F,F,F,F,F,F,F,F,F,F,F,F,F,F,F,F,F,F,F,F,F,F,F,F,F,F,F,F,F,F,F,F] rfl rfl (any_of HT_.out (by kernel_rfl)) (fun _ _ _ h=>h) (Or.inl ⟨by rfl,?_⟩) ?_ ?_
     rotate_left;(intro w';go_simp;with_reducible rfl);rotate_left;(simp only [pq];rfl)
     refine pure_ (i:=7) (N:=some 54) (v:=?_) (a':=?_) #[T,T,T,T,T,T,T,T,F,F,F,F,F,F,F,F,F,F,F,F,F,F,F,F,F,F,F,F,F,F,F,F,F,F,F,F,F,F,F,F] rfl rfl (any_of HT_.out (by kernel_rfl)) (fun _ _ _ h=>h) (Or.inl ⟨by rfl,?_⟩) ?_ ?_
     rotate_left;(intro w';go_simp;with_reducible rfl);rotate_left;(simp only [pq];rfl)
     refine pure_ (i:=8) (N:=some 55) (v:=?_) (a':=?_) #[T,T,T,T,T,T,T,T,T,F,F,F,F,F,F,F,F,F,F,F,F,F,F,F,F,F,F,F,F,F,F,F,F,F,F,F,F,F,F,F] rfl rfl (any_of HT_.out (by kernel_rfl)) (fun _ _ _ h=>h) (Or.inl ⟨by rfl,?_⟩) ?_ ?_
     rotate_left;(intro w';go_simp;with_reducible rfl);rotate_left;(simp only [pq];rfl)
     refine pure_ (i:=9) (N:=some 56) (v:=?_) (a':=?_) #[T,T,T,T,T,T,T,T,T,T,F,F,F,F,F,F,F,F,F,F,F,F,F,F,F,F,F,F,F,F,F,F,F,F,F,F,F,F,F,F] rfl rfl (any_of HT_.out (by kernel_rfl)) (fun _ _ _ h=>h) (Or.inl ⟨by rfl,?_⟩) ?_ ?_
     rotate_left;(intro w';go_simp;with_reducible rfl);rotate_left;(simp only [pq];rfl)
     refine pure_ (i:=10) (N:=some 57) (v:=?_) (a':=?_) #[T,T,T,T,T,T,T,T,T,T,T,F,F,F,F,F,F,F,F,F,F,F,F,F,F,F,F,F,F,F,F,F,F,F,F,F,F,F,F,F] rfl rfl (any_of HT_.out (by kernel_rfl)) (fun _ _ _ h=>h) (Or.inl ⟨by rfl,?_⟩) ?_ ?_
     rotate_left;(intro w';go_simp;with_reducible rfl);rotate_left;(simp only [pq];rfl)
     refine pure_ (i:=11) (N:=some 58) (v:=?_) (a':=?_) #[T,T,T,T,T,T,T,T,T,T,T,T,F,F,F,F,F,F,F,F,F,F,F,F,F,F,F,F,F,F,F,F,F,F,F,F,F,F,F,F] rfl rfl (any_of HT_.out (by kernel_rfl)) (fun _ _ _ h=>h) (Or.inl ⟨by rfl,?_⟩) ?_ ?_
     rotate_left;(intro w';go_simp;with_reducible rfl);rotate_left;(simp only [pq];rfl)
     refine pure_ (i:=12) (N:=some 59) (v:=?_) (a':=?_) #[T,T,T,T,T,T,T,T,T,T,T,T,T,F,F,F,F,F,F,F,F,F,F,F,F,F,F,F,F,F,F,F,F,F,F,F,F,F,F,F] rfl rfl (any_of HT_.out (by kernel_rfl)) (fun _ _ _ h=>h) (Or.inl ⟨by rfl,?_⟩) ?_ ?_
     rotate_left;(intro w';go_simp;with_reducible rfl);rotate_left;(simp only [pq];rfl)
     refine one_ (i:=13) (N:=some 60) #[T,T,T,T,T,T,T,T,T,T,T,T,T,T,F,F,F,F,F,F,F,F,F,F,F,F,F,F,F,F,F,F,F,F,F,F,F,F,F,F] rfl rfl (one_of HT_.out (by kernel_rfl)) (by decide) (fun K hK=>?_)
     refine Kd.R_lit_step (Kd.int .i64) _ 3 ?hg (N:=60) ?hd (xs:=([0]:List Int)) (inner:= [.int .i64 0]) (ok:=fun _=>True) (okp:=fun _=>True) ?hr ?hp (fun _ hk=>hk) trivial (Below.refl _ _) (Nat.le_refl _) (by simp) ?_;(case hd=>rfl);(case hg=>rfl);(case hr=>first|(go_simp;done)|(go_simp;rfl));(case hp=>exact(Reps.one (show Kd.M (Kd.int .i64) _ _ _ 0 [.int .i64 0] from rfl) (Reps.none _ _)))
     intro v198 w65 ho66 hb hg_ hnew_
     clear hg_ hnew_
     (first|rw [←Vz.out] at ho66|(simp only [Int.reduceToNat] at ho66;rw [←Vz.out] at ho66))
     have bY:=aM (aD (gR cJ.out) hb)
     have bZ:=aM (Kd.N_elder' (gN cN.out) (Kd.R_base ho66) hb)
     have cA:=aM (Kd.N_elder' (gN cX.out) (Kd.R_base ho66) hb)
     have cC:=aM (Kd.N_elder' (gN dJ.out) (Kd.R_base ho66) hb)
     have cQ:=aM (bE (gR dQ.out) (Kd.R_base ho66) hb)
     have dA:=aM (bE (gR dX.out) (Kd.R_base ho66) hb)
     have dH:=aM (aD (gR eI.out) hb)
     have eG:=aM (aD (gR gA.out) hb)
     have fK:=aM (bE (gR fL.out) (Kd.R_base ho66) hb)
     have hF:=aM (bE (gR iG.out) (Kd.R_base ho66) hb)
     have eH:=aM (bE (gR jY.out) (Kd.R_base ho66) hb)
     have eR:=aM (bE (gR lR.out) (Kd.R_base ho66) hb)
     have fJ:=aM (bL (Kd.R_new' (Kd.R_new' (Kd.R_new' (Kd.R_new' (Kd.R_new' (Kd.R_new' ho66 (Kd.R_lt (gR dQ.out))) (Kd.R_lt (gR dX.out))) (Kd.R_lt (gR fL.out))) (Kd.R_lt (gR iG.out))) (Kd.R_lt (gR jY.out))) (Kd.R_lt (gR lR.out))) (bH (gW HB.out)))
     have fQ:=aM (bF (gB bT.out) hb)
     have iQ:=aM (bF (gB dS.out) hb)
     have nI:=aM (bG (gW HB.out) hb)
     clear cJ
     clear cN
     clear cX
     clear dJ
     clear dQ
     clear dX
     clear eI
     clear gA
     clear fL
     clear iG
     clear jY
     clear lR
     clear bT
     clear dS
     clear HB
     have cJ:=bY
     have cN:=bZ
     have cX:=cA
     have dJ:=cC
     have dQ:=cQ
     have dX:=dA
     have eI:=dH
     have gA:=eG
     have fL:=fK
     have iG:=hF
     have jY:=eH
     have lR:=eR
     have nJ:=fJ
     have bT:=fQ
     have dS:=iQ
     have HB:=nI
     clear bY bZ cA cC cQ dA dH eG fK hF eH eR fJ fQ iQ nI
     clear hb ho66
     obtain⟨NK,NL,FQ⟩:=Kd.R_slice fL.out
     (first|subst FQ|(injection FQ with f1_ f2_ f3_;have f4_:=f1_.symm;have f5_:=f3_.symm;clear f1_ f2_ f3_;subst f4_;subst f5_))
     obtain⟨NM,NN,FR⟩:=Kd.R_slice nJ.out
     (first|subst FR|(injection FR with f1_ f2_ f3_;have f4_:=f1_.symm;have f5_:=f3_.symm;clear f1_ f2_ f3_;subst f4_;subst f5_))
     refine hK.out _ _ ⟨(aG dS.out 0).trans rfl,(aG dS.out 1).trans rfl,(aG bT.out 0).trans rfl,(aG bT.out 1).trans rfl,(aG bT.out 2).trans rfl,(aG bT.out 3).trans rfl,(aG bT.out 4).trans rfl⟩ (fun hHeld=>?_)
     clear hK K
     refine norm_ (a':=?_) ?_ ?_
     rotate_left
     ·show Act.put _ (some 60) _=_
      simp only [pq]
      rfl
     refine one_ (i:=14) (N:=some 61) #[T,T,T,T,T,T,T,T,T,T,T,T,T,T,T,F,F,F,F,F,F,F,F,F,F,F,F,F,F,F,F,F,F,F,F,F,F,F,F,F] rfl rfl (one_of HT_.out (by kernel_rfl)) (by decide) (fun K hK=>?_)
     refine goes_ Try.func24 (by kernel_rfl) rfl #[.slice NK t180.length NL,.slice NM y197.length NN] (by rfl) rfl rfl (by(try simp only [List.map_toArray,List.map_cons,List.map_nil]);first|done|rfl|(simp only [List.length_drop,List.length_take];rfl)) ?_
     with_reducible refine(regletref13_SameInts.calls k _ _ t180 _ _ y197 true _ ?side1 ?side2 ?side3 ?side4 A10.out).mono ?_
     (case side1=>exact gC (aF fL.out).2.2)
     (case side2=>exact(aF fL.out).2.1)
     (case side3=>exact gC (aF nJ.out).2.2)
     (case side4=>exact(aF nJ.out).2.1)
     rintro e w' ⟨rfl,⟨nd,rfl⟩⟩
     refine⟨_,rfl,?_⟩
     refine hK.out _ _ ⟨(aG dS.out 0).trans rfl,(aG dS.out 1).trans rfl,(aG bT.out 0).trans rfl,(aG bT.out 1).trans rfl,(aG bT.out 2).trans rfl,(aG bT.out 3).trans rfl,(aG bT.out 4).trans rfl⟩ (fun hHeld=>?_)
     clear hK K
     refine norm_ (a':=?_) ?_ ?_
     rotate_left
     ·show Act.put _ (some 61) _=_
      simp only [pq]
      rfl
     refine pure_ (i:=15) (N:=some 62) (v:=?_) (a':=?_) #[T,T,T,T,T,T,T,T,T,T,T,T,T,T,T,T,F,F,F,F,F,F,F,F,F,F,F,F,F,F,F,F,F,F,F,F,F,F,F,F] rfl rfl (any_of HT_.out (by kernel_rfl)) (fun _ _ _ h=>h) (Or.inl ⟨by rfl,?_⟩) ?_ ?_
     rotate_left;(intro w';go_simp;with_reducible rfl);rotate_left;(simp only [pq];rfl)
     refine pure_ (i:=16) (N:=some 63) (v:=?_) (a':=?_) #[T,T,T,T,T,T,T,T,T,T,T,T,T,T,T,T,T,F,F,F,F,F,F,F,F,F,F,F,F,F,F,F,F,F,F,F,F,F,F,F] rfl rfl (any_of HT_.out (by kernel_rfl)) (fun _ _ _ h=>h) (Or.inl ⟨by rfl,?_⟩) ?_ ?_
     rotate_left;(intro w';go_simp;with_reducible rfl);rotate_left;(simp only [pq];rfl)
     refine take_ (i:=17) (N:=some 64) (v:=?_) (a':=?_) #[T,T,T,T,T,T,T,T,T,T,T,T,T,T,T,T,T,T,F,F,F,F,F,F,F,F,F,F,F,F,F,F,F,F,F,F,F,F,F,F] rfl rfl (take_ofW HT_.out HW_.out (by kernel_rfl)) (fun _ _ _ h=>h) (Or.inl ⟨by rfl,?_⟩) hHeld ?_ ?_
     rotate_left
     ·rintro w' ⟨s0,s1,s2,s3,s4,s5,s6⟩
      go_simp
      with_reducible rfl
     rotate_left
     ·simp only [pq]
      rfl
     refine one_ (i:=18) (N:=some 65) #[T,T,T,T,T,T,T,T,T,T,T,T,T,T,T,T,T,T,T,F,F,F,F,F,F,F,F,F,F,F,F,F,F,F,F,F,F,F,F,F] rfl rfl (one_of HT_.out (by kernel_rfl)) (by decide) (fun K hK=>?_)
     refine goes_ Try.func17 (by kernel_rfl) rfl #[] (by rfl) rfl rfl (by(try simp only [List.map_toArray,List.map_cons,List.map_nil]);first|done|rfl|(simp only [List.length_drop,List.length_take];rfl)) ?_
     with_reducible refine(machine_Start.calls  t201 t204 _ A12.out).mono ?_
     rintro e w69 ⟨v202,rfl,ho0,hb⟩
     refine⟨_,rfl,?_⟩
     have bY:=aM (aD (gR cJ.out) hb)
     have bZ:=aM (Kd.N_elder' (gN cN.out) (Kd.R_base ho0) hb)
     have cA:=aM (Kd.N_elder' (gN cX.out) (Kd.R_base ho0) hb)
     have cC:=aM (Kd.N_elder' (gN dJ.out) (Kd.R_base ho0) hb)
     have cQ:=aM (aD (gR dQ.out) hb)
     have dA:=aM (aD (gR dX.out) hb)
     have dH:=aM (bE (gR eI.out) (Kd.R_base ho0) hb)
     have eG:=aM (bE (gR gA.out) (Kd.R_base ho0) hb)
     have fK:=aM (aD (gR fL.out) hb)
     have hF:=aM (aD (gR iG.out) hb)
     have eH:=aM (aD (gR jY.out) hb)
     have eR:=aM (aD (gR lR.out) hb)
     have fJ:=aM (aD (gR nJ.out) hb)
     have fQ:=aM (bL (Kd.R_new' (Kd.R_new' ho0 (Kd.R_lt (gR eI.out))) (Kd.R_lt (gR gA.out))) (bH (gW HB.out)))
     have iQ:=aM (bF (gB bT.out) hb)
     have nI:=aM (bF (gB dS.out) hb)
     have xQ:=aM (bG (gW HB.out) hb)
     clear cJ
     clear cN
     clear cX
     clear dJ
     clear dQ
     clear dX
     clear eI
     clear gA
     clear fL
     clear iG
     clear jY
     clear lR
     clear nJ
     clear bT
     clear dS
     clear HB
     have cJ:=bY
     have cN:=bZ
     have cX:=cA
     have dJ:=cC
     have dQ:=cQ
     have dX:=dA
     have eI:=dH
     have gA:=eG
     have fL:=fK
     have iG:=hF
     have jY:=eH
     have lR:=eR
     have nJ:=fJ
     have qZ:=fQ
     have bT:=iQ
     have dS:=nI
     have HB:=xQ
     clear bY bZ cA cC cQ dA dH eG fK hF eH eR fJ fQ iQ nI xQ
     (try clear hb);(try clear hb2);(try clear hk);(try clear hi);(try clear ho0)
     obtain⟨NO,NP,FS⟩:=Kd.R_slice qZ.out
     (first|subst FS|(injection FS with f1_ f2_ f3_;have f4_:=f1_.symm;have f5_:=f3_.symm;clear f1_ f2_ f3_;subst f4_;subst f5_))
     refine hK.out _ _ ⟨(aG dS.out 0).trans rfl,(aG dS.out 1).trans rfl,(aG bT.out 0).trans rfl,(aG bT.out 1).trans rfl,(aG bT.out 2).trans rfl,(aG bT.out 3).trans rfl,(aG bT.out 4).trans rfl⟩ (fun hHeld=>?_)
     clear hK K
     refine norm_ (a':=?_) ?_ ?_
     rotate_left
     ·show Act.put _ (some 65) _=_
      simp only [pq]
      rfl
     refine one_ (i:=19) (N:=some 66) #[T,T,T,T,T,T,T,T,T,T,T,T,T,T,T,T,T,T,T,T,F,F,F,F,F,F,F,F,F,F,F,F,F,F,F,F,F,F,F,F] rfl rfl (one_of HT_.out (by kernel_rfl)) (by decide) (fun K hK=>?_)
     refine goes_ Try.func16 (by kernel_rfl) rfl #[.agg #[.slice tG t176.length tH,.bool t179],.agg #[.slice NO t201.length NP,.bool t204]] (by rfl) rfl rfl (by(try simp only [List.map_toArray,List.map_cons,List.map_nil]);first|done|rfl|(simp only [List.length_drop,List.length_take];rfl)) ?_
     with_reducible refine(regletref16_Same.calls k _ _ t176 t179 _ _ t201 t204 true _ ?side1 ?side2 ?side3 ?side4 A13.out).mono ?_
     (case side1=>exact gC (aF gA.out).2.2)
     (case side2=>exact(aF gA.out).2.1)
     (case side3=>exact gC (aF qZ.out).2.2)
     (case side4=>exact(aF qZ.out).2.1)
     rintro e w71 ⟨rfl,hb⟩
     refine⟨_,rfl,?_⟩
     have bY:=aM (aD (gR cJ.out) hb)
     have bZ:=aM (Kd.N_below (gN cN.out) hb)
     have cA:=aM (Kd.N_below (gN cX.out) hb)
     have cC:=aM (Kd.N_below (gN dJ.out) hb)
     have cQ:=aM (aD (gR dQ.out) hb)
     have dA:=aM (aD (gR dX.out) hb)
     have dH:=aM (aD (gR eI.out) hb)
     have eG:=aM (aD (gR gA.out) hb)
     have fK:=aM (aD (gR fL.out) hb)
     have hF:=aM (aD (gR iG.out) hb)
     have eH:=aM (aD (gR jY.out) hb)
     have eR:=aM (aD (gR lR.out) hb)
     have fJ:=aM (aD (gR nJ.out) hb)
     have fQ:=aM (aD (gR qZ.out) hb)
     have iQ:=aM (bF (gB bT.out) hb)
     have nI:=aM (bF (gB dS.out) hb)
     have xQ:=aM (bG (gW HB.out) hb)
     clear cJ
     clear cN
     clear cX
     clear dJ
     clear dQ
     clear dX
     clear eI
     clear gA
     clear fL
     clear iG
     clear jY
     clear lR
     clear nJ
     clear qZ
     clear bT
     clear dS
     clear HB
     have cJ:=bY
     have cN:=bZ
     have cX:=cA
     have dJ:=cC
     have dQ:=cQ
     have dX:=dA
     have eI:=dH
     have gA:=eG
     have fL:=fK
     have iG:=hF
     have jY:=eH
     have lR:=eR
     have nJ:=fJ
     have qZ:=fQ
     have bT:=iQ
     have dS:=nI
     have HB:=xQ
     clear bY bZ cA cC cQ dA dH eG fK hF eH eR fJ fQ iQ nI xQ
     (try clear hb);(try clear hb2);(try clear hk);(try clear hi)
     refine hK.out _ _ ⟨(aG dS.out 0).trans rfl,(aG dS.out 1).trans rfl,(aG bT.out 0).trans rfl,(aG bT.out 1).trans rfl,(aG bT.out 2).trans rfl,(aG bT.out 3).trans rfl,(aG bT.out 4).trans rfl⟩ (fun hHeld=>?_)
     clear hK K
     refine norm_ (a':=?_) ?_ ?_
     rotate_left
     ·show Act.put _ (some 66) _=_
      simp only [pq]
      rfl
     refine pure_ (i:=20) (N:=some 67) (v:=?_) (a':=?_) #[T,T,T,T,T,T,T,T,T,T,T,T,T,T,T,T,T,T,T,T,T,F,F,F,F,F,F,F,F,F,F,F,F,F,F,F,F,F,F,F] rfl rfl (any_of HT_.out (by kernel_rfl)) (fun _ _ _ h=>h) (Or.inl ⟨by rfl,?_⟩) ?_ ?_
     rotate_left;(intro w';go_simp;with_reducible rfl);rotate_left;(simp only [pq];rfl)
     refine pure_ (i:=21) (N:=some 68) (v:=?_) (a':=?_) #[T,T,T,T,T,T,T,T,T,T,T,T,T,T,T,T,T,T,T,T,T,T,F,F,F,F,F,F,F,F,F,F,F,F,F,F,F,F,F,F] rfl rfl (any_of HT_.out (by kernel_rfl)) (fun _ _ _ h=>h) (Or.inl ⟨by rfl,?_⟩) ?_ ?_
     rotate_left;(intro w';go_simp;with_reducible rfl);rotate_left;(simp only [pq];rfl)
     refine pure_ (i:=22) (N:=some 69) (v:=?_) (a':=?_) #[T,T,T,T,T,T,T,T,T,T,T,T,T,T,T,T,T,T,T,T,T,T,T,F,F,F,F,F,F,F,F,F,F,F,F,F,F,F,F,F] rfl rfl (any_of HT_.out (by kernel_rfl)) (fun _ _ _ h=>h) (Or.inl ⟨by rfl,?_⟩) ?_ ?_
     rotate_left;(intro w';go_simp;with_reducible rfl);rotate_left;(simp only [pq];rfl)
     refine pure_ (i:=23) (N:=some 70) (v:=?_) (a':=?_) #[T,T,T,T,T,T,T,T,T,T,T,T,T,T,T,T,T,T,T,T,T,T,T,T,F,F,F,F,F,F,F,F,F,F,F,F,F,F,F,F] rfl rfl (any_of HT_.out (by kernel_rfl)) (fun _ _ _ h=>h) (Or.inl ⟨by rfl,?_⟩) ?_ ?_
     rotate_left;(intro w';go_simp;with_reducible rfl);rotate_left;(simp only [pq];rfl)
     refine pure_ (i:=24) (N:=some 71) (v:=?_) (a':=?_) #[T,T,T,T,T,T,T,T,T,T,T,T,T,T,T,T,T,T,T,T,T,T,T,T,T,F,F,F,F,F,F,F,F,F,F,F,F,F,F,F] rfl rfl (any_of HT_.out (by kernel_rfl)) (fun _ _ _ h=>h) (Or.inl ⟨by rfl,?_⟩) ?_ ?_
     rotate_left;(intro w';go_simp;with_reducible rfl);rotate_left;(simp only [pq];rfl)
     refine pure_ (i:=25) (N:=some 72) (v:=?_) (a':=?_) #[T,T,T,T,T,T,T,T,T,T,T,T,T,T,T,T,T,T,T,T,T,T,T,T,T,T,F,F,F,F,F,F,F,F,F,F,F,F,F,F] rfl rfl (any_of HT_.out (by kernel_rfl)) (fun _ _ _ h=>h) (Or.inl ⟨by rfl,?_⟩) ?_ ?_
     rotate_left;(intro w';go_simp;with_reducible rfl);rotate_left;(simp only [pq];rfl)
     refine pure_ (i:=26) (N:=some 73) (v:=?_) (a':=?_) #[T,T,T,T,T,T,T,T,T,T,T,T,T,T,T,T,T,T,T,T,T,T,T,T,T,T,T,F,F,F,F,F,F,F,F,F,F,F,F,F] rfl rfl (any_of HT_.out (by kernel_rfl)) (fun _ _ _ h=>h) (Or.inl ⟨by rfl,?_⟩) ?_ ?_
     rotate_left;(intro w';go_simp;with_reducible rfl);rotate_left;(simp only [pq];rfl)
     refine pure_ (i:=27) (N:=some 74) (v:=?_) (a':=?_) #[T,T,T,T,T,T,T,T,T,T,T,T,T,T,T,T,T,T,T,T,T,T,T,T,T,T,T,T,F,F,F,F,F,F,F,F,F,F,F,F] rfl rfl (any_of HT_.out (by kernel_rfl)) (fun _ _ _ h=>h) (Or.inl ⟨by rfl,?_⟩) ?_ ?_
     rotate_left;(intro w';go_simp;with_reducible rfl);rotate_left;(simp only [pq];rfl)
     refine pure_ (i:=28) (N:=some 75) (v:=?_) (a':=?_) #[T,T,T,T,T,T,T,T,T,T,T,T,T,T,T,T,T,T,T,T,T,T,T,T,T,T,T,T,T,F,F,F,F,F,F,F,F,F,F,F] rfl rfl (any_of HT_.out (by kernel_rfl)) (fun _ _ _ h=>h) (Or.inl ⟨by rfl,?_⟩) ?_ ?_
     rotate_left;(intro w';go_simp;with_reducible rfl);rotate_left;(simp only [pq];rfl)
     refine pure_ (i:=29) (N:=some 76) (v:=?_) (a':=?_) #[T,T,T,T,T,T,T,T,T,T,T,T,T,T,T,T,T,T,T,T,T,T,T,T,T,T,T,T,T,T,F,F,F,F,F,F,F,F,F,F] rfl rfl (any_of HT_.out (by kernel_rfl)) (fun _ _ _ h=>h) (Or.inl ⟨by rfl,?_⟩) ?_ ?_
     rotate_left;(intro w';go_simp;with_reducible rfl);rotate_left;(simp only [pq];rfl)
     refine pure_ (i:=31) (N:=some 78) (v:=?_) (a':=?_) #[T,T,T,T,T,T,T,T,T,T,T,T,T,T,T,T,T,T,T,T,T,T,T,T,T,T,T,T,T,T,F,T,F,F,F,F,F,F,F,F] rfl rfl (any_of HT_.out (by kernel_rfl)) (fun _ _ _ h=>h) (Or.inl ⟨by rfl,?_⟩) ?_ ?_
     rotate_left;(intro w';go_simp;with_reducible rfl);rotate_left;(simp only [pq];rfl)
     refine take_ (i:=30) (N:=some 77) (v:=?_) (a':=?_) #[T,T,T,T,T,T,T,T,T,T,T,T,T,T,T,T,T,T,T,T,T,T,T,T,T,T,T,T,T,T,T,T,F,F,F,F,F,F,F,F] rfl rfl (take_ofW HT_.out HW_.out (by kernel_rfl)) (fun _ _ _ h=>h) (Or.inl ⟨by rfl,?_⟩) hHeld ?_ ?_
     rotate_left
     ·rintro w' ⟨s0,s1,s2,s3,s4,s5,s6⟩
      go_simp
      with_reducible rfl
     rotate_left
     ·simp only [pq]
      rfl
     refine one_ (i:=32) (N:=some 79) #[T,T,T,T,T,T,T,T,T,T,T,T,T,T,T,T,T,T,T,T,T,T,T,T,T,T,T,T,T,T,T,T,T,F,F,F,F,F,F,F] rfl rfl (one_of HT_.out (by kernel_rfl)) (by decide) (fun K hK=>?_)
     refine goes_ Try.func25 (by kernel_rfl) rfl #[.agg #[.slice iC y145.length iD,.slice fY y148.length fZ,.int .i64 0,.int .i64 0,.slice fT y154.length fU],.slice xU y161.length xV] (by rfl) rfl rfl (by(try simp only [List.map_toArray,List.map_cons,List.map_nil]);first|done|rfl|(simp only [List.length_drop,List.length_take];rfl)) ?_
     with_reducible refine(machine_Right.calls _ _ y145 _ _ y148 0 0 _ _ y154 _ _ y161 true _ ?side1 ?side2 ?side3 ?side4 ?side5 ?side6 ?side7 ?side8 A17.out).mono ?_
     (case side1=>exact gC (aF cJ.out).2.2)
     (case side2=>exact(aF cJ.out).2.1)
     (case side3=>exact gC (aT cN.out).2.2)
     (case side4=>exact(aT cN.out).2.1)
     (case side5=>exact gC (aT cX.out).2.2)
     (case side6=>exact(aT cX.out).2.1)
     (case side7=>exact gC (aT dJ.out).2.2)
     (case side8=>exact(aT dJ.out).2.1)
     rintro e w72 ⟨rfl,hb⟩
     refine⟨_,rfl,?_⟩
     have bY:=aM (aD (gR cJ.out) hb)
     have bZ:=aM (Kd.N_below (gN cN.out) hb)
     have cA:=aM (Kd.N_below (gN cX.out) hb)
     have cC:=aM (Kd.N_below (gN dJ.out) hb)
     have cQ:=aM (aD (gR dQ.out) hb)
     have dA:=aM (aD (gR dX.out) hb)
     have dH:=aM (aD (gR eI.out) hb)
     have eG:=aM (aD (gR gA.out) hb)
     have fK:=aM (aD (gR fL.out) hb)
     have hF:=aM (aD (gR iG.out) hb)
     have eH:=aM (aD (gR jY.out) hb)
     have eR:=aM (aD (gR lR.out) hb)
     have fJ:=aM (aD (gR nJ.out) hb)
     have fQ:=aM (aD (gR qZ.out) hb)
     have iQ:=aM (bF (gB bT.out) hb)
     have nI:=aM (bF (gB dS.out) hb)
     have xQ:=aM (bG (gW HB.out) hb)
     clear cJ
     clear cN
     clear cX
     clear dJ
     clear dQ
     clear dX
     clear eI
     clear gA
     clear fL
     clear iG
     clear jY
     clear lR
     clear nJ
     clear qZ
     clear bT
     clear dS
     clear HB
     have cJ:=bY
     have cN:=bZ
     have cX:=cA
     have dJ:=cC
     have dQ:=cQ
     have dX:=dA
     have eI:=dH
     have gA:=eG
     have fL:=fK
     have iG:=hF
     have jY:=eH
     have lR:=eR
     have nJ:=fJ
     have qZ:=fQ
     have bT:=iQ
     have dS:=nI
     have HB:=xQ
     clear bY bZ cA cC cQ dA dH eG fK hF eH eR fJ fQ iQ nI xQ
     (try clear hb);(try clear hb2);(try clear hk);(try clear hi)
     refine hK.out _ _ ⟨(aG dS.out 0).trans rfl,(aG dS.out 1).trans rfl,(aG bT.out 0).trans rfl,(aG bT.out 1).trans rfl,(aG bT.out 2).trans rfl,(aG bT.out 3).trans rfl,(aG bT.out 4).trans rfl⟩ (fun hHeld=>?_)
     clear hK K
     refine norm_ (a':=?_) ?_ ?_
     rotate_left
     ·show Act.put _ (some 79) _=_
      simp only [pq]
      rfl
     refine pure_ (i:=33) (N:=some 80) (v:=?_) (a':=?_) #[T,T,T,T,T,T,T,T,T,T,T,T,T,T,T,T,T,T,T,T,T,T,T,T,T,T,T,T,T,T,T,T,T,T,F,F,F,F,F,F] rfl rfl (any_of HT_.out (by kernel_rfl)) (fun _ _ _ h=>h) (Or.inl ⟨by rfl,?_⟩) ?_ ?_
     rotate_left;(intro w';go_simp;with_reducible rfl);rotate_left;(simp only [pq];rfl)
     refine pure_ (i:=34) (N:=some 81) (v:=?_) (a':=?_) #[T,T,T,T,T,T,T,T,T,T,T,T,T,T,T,T,T,T,T,T,T,T,T,T,T,T,T,T,T,T,T,T,T,T,T,F,F,F,F,F] rfl rfl (any_of HT_.out (by kernel_rfl)) (fun _ _ _ h=>h) (Or.inl ⟨by rfl,?_⟩) ?_ ?_
     rotate_left;(intro w';go_simp;with_reducible rfl);rotate_left;(simp only [pq];rfl)
     refine take_ (i:=35) (N:=some 82) (v:=?_) (a':=?_) #[T,T,T,T,T,T,T,T,T,T,T,T,T,T,T,T,T,T,T,T,T,T,T,T,T,T,T,T,T,T,T,T,T,T,T,T,F,F,F,F] rfl rfl (take_ofW HT_.out HW_.out (by kernel_rfl)) (fun _ _ _ h=>h) (Or.inl ⟨by rfl,?_⟩) hHeld ?_ ?_
     rotate_left
     ·rintro w' ⟨s0,s1,s2,s3,s4,s5,s6⟩
      go_simp
      with_reducible rfl
     rotate_left
     ·simp only [pq]
      rfl
     refine one_ (i:=36) (N:=some 83) #[T,T,T,T,T,T,T,T,T,T,T,T,T,T,T,T,T,T,T,T,T,T,T,T,T,T,T,T,T,T,T,T,T,T,T,T,T,F,F,F] rfl rfl (one_of HT_.out (by kernel_rfl)) (by decide) (fun K hK=>?_)
     refine goes_ Try.func25 (by kernel_rfl) rfl #[.agg #[.slice iC y145.length iD,.slice fY y148.length fZ,.int .i64 0,.int .i64 0,.slice fT y154.length fU],.slice none 0 0] (by rfl) rfl rfl (by(try simp only [List.map_toArray,List.map_cons,List.map_nil]);first|done|rfl|(simp only [List.length_drop,List.length_take];rfl)) ?_
     refine(machine_Right.calls _ _ y145 _ _ y148 0 0 _ _ y154 _ _ ([]:List (List Int)) t207 _ ?side1 ?side2 ?side3 ?side4 ?side5 ?side6 ?side7 ?side8 A19.out).mono ?_
     (case side1=>exact gC (aF cJ.out).2.2)
     (case side2=>exact(aF cJ.out).2.1)
     (case side3=>exact gC (aT cN.out).2.2)
     (case side4=>exact(aT cN.out).2.1)
     (case side5=>exact gC (aT cX.out).2.2)
     (case side6=>exact(aT cX.out).2.1)
     (case side7=>exact Kd.C_nil _ _)
     (case side8=>exact Nat.le_refl _)
     rintro e w73 ⟨rfl,hb⟩
     refine⟨_,rfl,?_⟩
     have bY:=aM (aD (gR cJ.out) hb)
     have bZ:=aM (Kd.N_below (gN cN.out) hb)
     have cA:=aM (Kd.N_below (gN cX.out) hb)
     have cC:=aM (Kd.N_below (gN dJ.out) hb)
     have cQ:=aM (aD (gR dQ.out) hb)
     have dA:=aM (aD (gR dX.out) hb)
     have dH:=aM (aD (gR eI.out) hb)
     have eG:=aM (aD (gR gA.out) hb)
     have fK:=aM (aD (gR fL.out) hb)
     have hF:=aM (aD (gR iG.out) hb)
     have eH:=aM (aD (gR jY.out) hb)
     have eR:=aM (aD (gR lR.out) hb)
     have fJ:=aM (aD (gR nJ.out) hb)
     have fQ:=aM (aD (gR qZ.out) hb)
     have iQ:=aM (bF (gB bT.out) hb)
     have nI:=aM (bF (gB dS.out) hb)
     have xQ:=aM (bG (gW HB.out) hb)
     clear cJ
     clear cN
     clear cX
     clear dJ
     clear dQ
     clear dX
     clear eI
     clear gA
     clear fL
     clear iG
     clear jY
     clear lR
     clear nJ
     clear qZ
     clear bT
     clear dS
     clear HB
     have cJ:=bY
     have cN:=bZ
     have cX:=cA
     have dJ:=cC
     have dQ:=cQ
     have dX:=dA
     have eI:=dH
     have gA:=eG
     have fL:=fK
     have iG:=hF
     have jY:=eH
     have lR:=eR
     have nJ:=fJ
     have qZ:=fQ
     have bT:=iQ
     have dS:=nI
     have HB:=xQ
     clear bY bZ cA cC cQ dA dH eG fK hF eH eR fJ fQ iQ nI xQ
     (try clear hb);(try clear hb2);(try clear hk);(try clear hi)
     refine hK.out _ _ ⟨(aG dS.out 0).trans rfl,(aG dS.out 1).trans rfl,(aG bT.out 0).trans rfl,(aG bT.out 1).trans rfl,(aG bT.out 2).trans rfl,(aG bT.out 3).trans rfl,(aG bT.out 4).trans rfl⟩ (fun hHeld=>?_)
     clear hK K
     refine norm_ (a':=?_) ?_ ?_
     rotate_left
     ·show Act.put _ (some 83) _=_
      simp only [pq]
      rfl
     refine pure_ (i:=37) (N:=some 84) (v:=?_) (a':=?_) #[T,T,T,T,T,T,T,T,T,T,T,T,T,T,T,T,T,T,T,T,T,T,T,T,T,T,T,T,T,T,T,T,T,T,T,T,T,T,F,F] rfl rfl (any_of HT_.out (by kernel_rfl)) (fun _ _ _ h=>h) (Or.inl ⟨by rfl,?_⟩) ?_ ?_
     rotate_left;(intro w';go_simp;with_reducible rfl);rotate_left;(simp only [pq];rfl)
     refine pure_ (i:=38) (N:=some 85) (v:=?_) (a':=?_) #[T,T,T,T,T,T,T,T,T,T,T,T,T,T,T,T,T,T,T,T,T,T,T,T,T,T,T,T,T,T,T,T,T,T,T,T,T,T,T,F] rfl rfl (any_of HT_.out (by kernel_rfl)) (fun _ _ _ h=>h) (Or.inl ⟨by rfl,?_⟩) ?_ ?_
     rotate_left;(intro w';go_simp;with_reducible rfl);rotate_left;(simp only [pq];rfl)
     refine pure_ (i:=39) (N:=some 0) (v:=?_) (a':=?_) #[T,T,T,T,T,T,T,T,T,T,T,T,T,T,T,T,T,T,T,T,T,T,T,T,T,T,T,T,T,T,T,T,T,T,T,T,T,T,T,T] rfl rfl (any_of HT_.out (by kernel_rfl)) (fun _ _ _ h=>h) (Or.inl ⟨by rfl,?_⟩) ?_ ?_
     rotate_left;(intro w';go_simp;with_reducible rfl);rotate_left;(simp only [pq];rfl)
     refine done_ (done_of HT_.out (by kernel_rfl)) ?_
     try go_wp2
     go_ret
     exact⟨by first|rfl|(simp [errW_none,errW_some]<;>rfl)|(simp [*,errW_none,errW_some]<;>rfl),gW HB.out⟩
    ·replace c18:=Bool.eq_false_iff.mpr c18
     subst c18
     have H1:(none)=some r:=by rw [if_neg (show ¬(false=true) by decide)] at H;exact H
     clear H
     have H:=H1
     clear H1
     exact absurd H (by simp)
   ·replace c14:=Bool.eq_false_iff.mpr c14
    subst c14
    have H1:(none)=some r:=by rw [if_neg (show ¬(false=true) by decide)] at H;exact H
    clear H
    have H:=H1
    clear H1
    exact absurd H (by simp)
  ·replace c11:=Bool.eq_false_iff.mpr c11
   subst c11
   have H1:(none)=some r:=by rw [if_neg (show ¬(false=true) by decide)] at H;exact H
   clear H
   have H:=H1
   clear H1
   exact absurd H (by simp)
 ·replace c8:=Bool.eq_false_iff.mpr c8
  subst c8
  have H1:(none)=some r:=by rw [if_neg (show ¬(false=true) by decide)] at H;exact H
  clear H
  have H:=H1
  clear H1
  exact absurd H (by simp)
attribute [local go_sem] max2_int min2_int max_two min_two max_three min_three max_four min_four   -- for this text's walks alone
set_option linter.unusedVariables false
set_option linter.unusedSimpArgs false
mutual
def regletref16_Run.l0:Nat→List (List Int)→List Int→List Int→Int→List ByteArray→List (S72)→Int→Int→List (S35)→List (S43)→Bool→Option (List Int×Int×Int)
 |0,_,_,_,_,_,_,_,_,_,_,_=>none
 |k+1,x1,x2,x10,x11,x282000,x282001,x282002,x282003,x282004,x287000,x287001=>if x11≤(x2.length:Int) then(if x11<(x2.length:Int) then(if 0≤x11 then(if(rd x2 x11)<0 then(regletref16_Run.j1 k x1 x2 x10 x11 (rd x2 x11) true x282000 x282001 x282002 x282003 x282004 x287000 x287001) else(regletref16_Run.j1 k x1 x2 x10 x11 (rd x2 x11) (decide ((rd x2 x11)≥(x282001.length:Int))) x282000 x282001 x282002 x282003 x282004 x287000 x287001)) else(none)) else((regletref16_Feed.f k x282000 x282001 x282002 x282003 x282004 x1 x287000 x287001 (x282001.length:Int)).bind fun By=>(if By.2.2.2=0 then(if x10.length+By.2.2.1.length<17592186044416 then(regletref16_Run.l0 k x1 x2 (x10++By.2.2.1) (wrap64 (x11+1)) x282000 x282001 x282002 x282003 x282004 By.1 By.2.1) else(none)) else(some (([]:List Int),By.2.2.2,x11))))) else(some (x10,0,0))
def regletref16_Run.j1:Nat→List (List Int)→List Int→List Int→Int→Int→Bool→List ByteArray→List (S72)→Int→Int→List (S35)→List (S43)→Bool→Option (List Int×Int×Int)
 |0,_,_,_,_,_,_,_,_,_,_,_,_,_=>none
 |k+1,x1,x2,x10,x11,x12,x42,x282000,x282001,x282002,x282003,x282004,x287000,x287001=>if x42=true then(some (([]:List Int),1,x11)) else((regletref16_Feed.f k x282000 x282001 x282002 x282003 x282004 x1 x287000 x287001 x12).bind fun pD=>(if pD.2.2.2=0 then(if x10.length+pD.2.2.1.length<17592186044416 then(regletref16_Run.l0 k x1 x2 (x10++pD.2.2.1) (wrap64 (x11+1)) x282000 x282001 x282002 x282003 x282004 pD.1 pD.2.1) else(none)) else(some (([]:List Int),pD.2.2.2,x11))))
end
def regletref16_Run.f (k:Nat) (aU:List ByteArray) (aX:List (S72)) (bA:Int) (bB:Int) (aQ:List (S35)) (l1:List (List Int)) (l2:List Int):Option (List Int×Int×Int):=(regletref16_Start.f).bind fun Gx=>(regletref16_Run.l0 k l1 l2 ([]:List Int) 0 aU aX bA bB aQ Gx.1 Gx.2)
set_option maxHeartbeats 8000000 in
set_option maxRecDepth 100000 in
theorem regletref16_Run.calls (k:Nat) (bC:Option Addr) (bK:Nat) (aU:List ByteArray) (bM:Option Addr) (bO:Nat) (aX:List (S72)) (bA:Int) (bB:Int) (bQ:Option Addr) (bP:Nat) (aQ:List (S35)) (A1:Option Addr) (c1:Nat) (l1:List (List Int)) (A2:Option Addr) (c2:Nat) (l2:List Int) (r1:List Int) (r2:Int) (r3:Int) (w:World) (dM:Kd.C Kd.string w bC aU.length aU) (dT:aU.length≤bK) (dU:Kd.C k72 w bM aX.length aX) (dY:aX.length≤bO) (dR:Kd.C k35 w bQ aQ.length aQ) (eB:aQ.length≤bP) (hr1:Kd.C (Kd.slice 3 (Kd.int .i64)) w A1 l1.length l1) (hc1:l1.length≤c1) (hr2:Kd.C (Kd.int .i64) w A2 l2.length l2) (hc2:l2.length≤c2) (h:regletref16_Run.f k aU aX bA bB aQ l1 l2=some (r1,r2,r3)):
 Calls Try.prog 28 #[.agg #[.slice bC aU.length bK,.slice bM aX.length bO,.int .i64 bA,.int .i64 bB,.slice bQ aQ.length bP],.slice A1 l1.length c1,.slice A2 l2.length c2] w fun e w'=>∃v0_:Value,e= .returned (.tuple #[v0_,.int .i64 r2,.int .i64 r3])∧Kd.R (Kd.int .i64) 3 w' w.heap.size (fun _=>True) v0_ r1∧Below w.heap.size w w':=by
 have hu26:=Try.underlying26
 have hu31:=Try.underlying31
 have eS:=aM dM
 have eU:=aM dT
 clear dM dT
 have eX:=aM dU
 have eY:=aM dY
 clear dU dY
 have dW:=aM dR
 have eZ:=aM eB
 clear dR eB
 have HR1:=aM hr1
 have HC1:=aM hc1
 clear hr1 hc1
 have HR2:=aM hr2
 have HC2:=aM hc2
 clear hr2 hc2
 have HB:=aM (Below.refl w.heap.size w)
 have H:((regletref16_Start.f).bind fun Gx=>(regletref16_Run.l0 k l1 l2 ([]:List Int) 0 aU aX bA bB aQ Gx.1 Gx.2))=some (r1,r2,r3):=h
 clear h
 replace H:=Option.bind_eq_some_iff.mp H
 obtain⟨⟨t282,t285⟩,A40,H⟩:=H
 replace H:(regletref16_Run.l0 k l1 l2 ([]:List Int) 0 aU aX bA bB aQ t282 t285)=some (r1,r2,r3):=H
 have A4:=aM A40
 clear A40
 have H':=aM H
 clear H
 go_enter Try.func28,Try.ntmps28
 go_wp2_with (first|((with_reducible refine bJ (N:=3) rfl ?_);(try(refine gate_guard (by rfl) ?_;dsimp only));refine box_event ?hg (N:=3) ?hd (cs:=#[.slice bC aU.length bK,.slice bM aX.length bO,.int .i64 bA,.int .i64 bB,.slice bQ aQ.length bP]) (t:=26) ?hr ?_;(case hd=>rfl);(case hg=>rfl);(case hr=>first|(go_simp;done)|(go_simp;rfl));intro eL hg w5 hbox hb;have bY:=aM (bG (gW HB.out) hb);have bZ:=aM (hbox);have cA:=aM ((by rw [hg];exact(bH (gW HB.out)):w.heap.size≤eL));have cC:=aM ((by rw [hg];exact(bH (gW HB.out)):w.heap.size≤eL));clear HB;have HB:=bY;have cH:=bZ;have GW281:=cA;have Bk:=cC;clear bY bZ cA cC;clear hb hbox hg)|((with_reducible refine bI (f:=18) rfl ?_);refine goesL_ (some 16) rfl rfl Try.func18 (by kernel_rfl) rfl #[] rfl (by(try simp only [List.map_toArray,List.map_cons,List.map_nil]);first|done|rfl|(simp only [List.length_drop,List.length_take];rfl)) ?_;(with_reducible refine(regletref16_Start.calls  t282 t285 _ A4.out).mono ?_);rintro e w6 ⟨v283,rfl,ho0,hb⟩;refine⟨_,rfl,?_⟩;have bY:=aM (bL ho0 (bH (gW HB.out)));have bZ:=aM (bF (gB cH.out) hb);have cA:=aM (bG (gW HB.out) hb);clear cH;clear HB;have Gy:=bY;have cH:=bZ;have HB:=cA;clear bY bZ cA;(try clear hb);(try clear hb2);(try clear hk);(try clear hi);(try clear ho0))|((with_reducible refine bJ (N:=9) rfl ?_);(try(refine gate_guard (by rfl) ?_;dsimp only));refine box_event ?hg (N:=9) ?hd (cs:=#[.slice none 0 0,.bool false]) (t:=31) ?hr ?_;(case hd=>rfl);(case hg=>rfl);(case hr=>first|(go_simp;done)|(go_simp;rfl));intro dV hg w7 hbox hb;have bY:=aM (aD (gR Gy.out) hb);have bZ:=aM (bF (gB cH.out) hb);have cA:=aM (bG (gW HB.out) hb);have cC:=aM (hbox);have cQ:=aM ((by rw [hg];exact(bH (gW HB.out)):w.heap.size≤dV));have dA:=aM ((by rw [hg];exact(bH (gW HB.out)):w.heap.size≤dV));have dH:=aM ((by rw [hg];exact Nat.ne_of_lt (bN (g:=eL) (o:= .cells #[.slice bC aU.length bK,.slice bM aX.length bO,.int .i64 bA,.int .i64 bB,.slice bQ aQ.length bP] 26 (0,0)) (gB cH.out)):eL≠dV));have eG:=aM ((by rw [hg];exact Nat.ne_of_gt (bN (g:=eL) (o:= .cells #[.slice bC aU.length bK,.slice bM aX.length bO,.int .i64 bA,.int .i64 bB,.slice bQ aQ.length bP] 26 (0,0)) (gB cH.out)):dV≠eL));clear Gy;clear cH;clear HB;have Gy:=bY;have cH:=bZ;have HB:=cA;have cZ:=cC;have GW286:=cQ;have Bl:=dA;have iB:=dH;have mC:=eG;clear bY bZ cA cC cQ dA dH eG;clear hb hbox hg;obtain⟨Yg,Ws,Yh⟩:=Kd.R_slice Gy.out;subst Yh;have hnb9:=mC.out;have hnc9:=iB.out;have mU:w7.cell? ⟨dV,0,none⟩=some (.slice none 0 0):=(aG cZ.out 0).trans rfl;have mV:w7.cell? ⟨dV,1,none⟩=some (.bool false):=(aG cZ.out 1).trans rfl;have mW:=aH cZ.out 0;have mX:=aH cZ.out 1))
 go_loopg [10,11] k (fun kq v10 v11 w'=>∃(gE:List Int) (cE:Int) (eF:List (S43)) (dN:Bool) (u287000:Value),v11= .int .i64 cE∧Aside0 (regletref16_Run.l0 kq l1 l2 gE cE aU aX bA bB aQ eF dN=some (r1,r2,r3))∧Aside0 (kq≤k)∧Aside0 (Kd.R (Kd.int .i64) 3 w' w.heap.size (fun _=>True) v10 gE)∧Aside0 (Kd.R k43 43 w' w.heap.size (fun _=>True) u287000 eF)∧Aside0 (w'.heap[eL]?=some (.cells #[(.slice bC aU.length bK),(.slice bM aX.length bO),.int .i64 bA,.int .i64 bB,(.slice bQ aQ.length bP)] 26 (0,0)))∧Aside0 (w'.heap[dV]?=some (.cells #[u287000,.bool dN] 31 (0,0)))∧Aside0 (Below w.heap.size w w'))
 case atStart=>exact⟨(([]:List Int)),(0),(t282),(t285),(.slice Yg t282.length Ws),(by first|rfl|(simp;done)|(simp [*];done)),H',⟨Nat.le_refl _⟩,⟨by first|exact Kd.R_nil _ _ _ _ _|exact Kd.N_nil _ _ _ _ _|exact Kd.V_nil _ _ _ _ _|exact Kd.Q_nil _ _ _ _ _|exact Kd.S_nil _ _ _ _ _⟩,⟨by(with_reducible repeat(first|apply aA|apply aB|apply aC));exact Kd.R_mono (aE (p:=⟨dV,1,none⟩) (aE (p:=⟨dV,0,none⟩) (Kd.R_types Gy.out cZ.out (by decide)) (fun _ hk=>hk.2) (.slice Yg t282.length Ws)) (fun _ hk=>hk.2) (.bool t285)) (fun _ hk=>trivial)⟩,⟨by(with_reducible repeat(first|refine aJ ?_ _|refine aK ?_|refine aI ?_ _));refine blk_far ?_ iB.out _;(with_reducible repeat(first|refine aJ ?_ _|refine aK ?_|refine aI ?_ _));refine blk_far ?_ iB.out _;(with_reducible repeat(first|refine aJ ?_ _|refine aK ?_|refine aI ?_ _));exact cH.out⟩,⟨by(with_reducible repeat(first|refine aJ ?_ _|refine aK ?_|refine aI ?_ _));refine blk_put (cs:=#[.slice Yg t282.length Ws,.bool false]) ?_ 1 _ rfl;(with_reducible repeat(first|refine aJ ?_ _|refine aK ?_|refine aI ?_ _));refine blk_put (cs:=#[.slice none 0 0,.bool false]) ?_ 0 _ rfl;(with_reducible repeat(first|refine aJ ?_ _|refine aK ?_|refine aI ?_ _));exact cZ.out⟩,⟨by repeat(first|(with_reducible first|exact HB.out|apply aN|apply aP|apply aO|refine aL ?_ Bk.out|refine aL ?_ Bl.out)|exact HB.out)⟩⟩
 case round=>
  clear H'
  (try clear c1);(try clear c2);(try clear p2);(try clear c9);(try clear mU);(try clear mV);(try clear mW);(try clear mX)
  obtain⟨gE,cE,eF,dN,u287000,rfl,HA,HK1,cR,cG,cH,cZ,HB⟩:=hrel
  cases gk with
  |zero=>exact absurd HA.out (by simp [regletref16_Run.l0])
  |succ k1=>
   have H:=HA.out
   clear HA
   simp only [regletref16_Run.l0] at H
   by_cases c11:cE≤(l2.length:Int)
   ·rw [if_pos c11] at H
    have tI:decide (cE≤(l2.length:Int))=true:=decide_eq_true c11
    clear c11
    by_cases c12:cE<(l2.length:Int)
    ·rw [if_pos c12] at H
     have Br:decide (cE<(l2.length:Int))=true:=decide_eq_true c12
     clear c12
     by_cases c13:0≤cE
     rotate_left
     ·rw [if_neg c13] at H
      exact absurd H (by simp)
     rw [if_pos c13] at H
     have nS:decide (0≤cE)=true:=decide_eq_true c13
     clear c13
     have HC14:=aM H
     clear H
     have hnb15:=iB.out
     have hnc15:=mC.out
     have wV:wr.cell? ⟨eL,0,none⟩=some (.slice bC aU.length bK):=(aG cH.out 0).trans rfl
     have wW:wr.cell? ⟨eL,1,none⟩=some (.slice bM aX.length bO):=(aG cH.out 1).trans rfl
     have wX:wr.cell? ⟨eL,2,none⟩=some (.int .i64 bA):=(aG cH.out 2).trans rfl
     have wY:wr.cell? ⟨eL,3,none⟩=some (.int .i64 bB):=(aG cH.out 3).trans rfl
     have wZ:wr.cell? ⟨eL,4,none⟩=some (.slice bQ aQ.length bP):=(aG cH.out 4).trans rfl
     have xA:=aH cH.out 0
     have xB:=aH cH.out 1
     have xC:=aH cH.out 2
     have xD:=aH cH.out 3
     have xE:=aH cH.out 4
     have p287:0≤(cE:Int):=of_decide_eq_true (by first|(with_reducible assumption)|assumption)
     have q287:cE<(l2.length:Int):=of_decide_eq_true (by first|(with_reducible assumption)|assumption)
     obtain⟨PW,e287,zY⟩:=Kd.at_int HR2.out cE p287 q287
     cases e287
     replace zY:=(HB.out.cell (World.block_lt_of_cell? w _ zY)).trans zY
     replace p287:=eq_true p287
     replace q287:=eq_true q287
     go_upto_region 9 with(fail)
     go_cut [42] (fun v42 wc=>∃(kq:Nat) (El:Bool),v42= .bool El∧Aside0 (regletref16_Run.j1 kq l1 l2 gE cE (rd l2 cE) El aU aX bA bB aQ eF dN=some (r1,r2,r3))∧Aside0 (kq≤k1)∧Aside0 (Kd.R (Kd.int .i64) 3 wc w.heap.size (fun _=>True) u10 gE)∧Aside0 (Kd.R k43 43 wc w.heap.size (fun _=>True) u287000 eF)∧Aside0 (wc.heap[eL]?=some (.cells #[(.slice bC aU.length bK),(.slice bM aX.length bO),.int .i64 bA,.int .i64 bB,(.slice bQ aQ.length bP)] 26 (0,0)))∧Aside0 (wc.heap[dV]?=some (.cells #[u287000,.bool dN] 31 (0,0)))∧Aside0 (Below w.heap.size w wc))
     case first=>
      have H:=HC14.out
      clear HC14
      by_cases c17:(rd l2 cE)<0
      ·rw [if_pos c17] at H
       have mD:decide ((rd l2 cE)<0)=true:=decide_eq_true c17
       clear c17
       (first|rw [mD]|(simp only [i64_w,i32_w];rw [mD])|skip)
       have H':=aM H
       clear H
       go_wp2
       go_meet
       case rel=>exact⟨_,(true),(by first|rfl|(simp;done)|(simp [*];done)),H',⟨by have:=HK1.out;first|omega|exact Nat.le_refl _⟩,⟨gR cR.out⟩,⟨gR cG.out⟩,⟨gB cH.out⟩,⟨gB cZ.out⟩,⟨gW HB.out⟩⟩
      ·rw [if_neg c17] at H
       have mD:decide ((rd l2 cE)<0)=false:=decide_eq_false c17
       clear c17
       (first|rw [mD]|(simp only [i64_w,i32_w];rw [mD])|skip)
       have H':=aM H
       clear H
       have hnb18:=iB.out
       have hnc18:=mC.out
       have Hv:wr.cell? ⟨eL,0,none⟩=some (.slice bC aU.length bK):=(aG cH.out 0).trans rfl
       have Hw:wr.cell? ⟨eL,1,none⟩=some (.slice bM aX.length bO):=(aG cH.out 1).trans rfl
       have Ua:wr.cell? ⟨eL,2,none⟩=some (.int .i64 bA):=(aG cH.out 2).trans rfl
       have Ub:wr.cell? ⟨eL,3,none⟩=some (.int .i64 bB):=(aG cH.out 3).trans rfl
       have Uc:wr.cell? ⟨eL,4,none⟩=some (.slice bQ aQ.length bP):=(aG cH.out 4).trans rfl
       have Hx:=aH cH.out 0
       have Hy:=aH cH.out 1
       have Ud:=aH cH.out 2
       have Ue:=aH cH.out 3
       have Uf:=aH cH.out 4
       go_wp2
       go_meet
       case rel=>exact⟨_,(decide ((rd l2 cE)≥(aX.length:Int))),(by first|rfl|(simp;done)|(simp [*];done)),H',⟨by have:=HK1.out;first|omega|exact Nat.le_refl _⟩,⟨gR cR.out⟩,⟨gR cG.out⟩,⟨gB cH.out⟩,⟨gB cZ.out⟩,⟨gW HB.out⟩⟩
     case rest=>
      clear HC14
      (try clear c1);(try clear c2);(try clear p2);(try clear q2);(try clear hx2);(try clear c9);(try clear c11);(try clear tI);(try clear c12);(try clear Br);(try clear c13);(try clear nS);(try clear c15);(try clear c17);(try clear mD);(try clear c18);(try clear mU);(try clear mV);(try clear wV);(try clear wW);(try clear wX);(try clear wY);(try clear wZ);(try clear Hv)
      (try clear Hw);(try clear Ua);(try clear Ub);(try clear Uc);(try clear mW);(try clear mX);(try clear xA);(try clear xB);(try clear xC);(try clear xD);(try clear xE);(try clear Hx);(try clear Hy);(try clear Ud);(try clear Ue);(try clear Uf);(try clear zY);(try clear p2);(try clear p287);(try clear q287)
      obtain⟨kq,El,rfl,HA,HJ13,cR,cG,cH,cZ,HB⟩:=hcut
      cases kq with
      |zero=>exact absurd HA.out (by simp [regletref16_Run.j1])
      |succ Ht=>
       have H:=HA.out
       clear HA
       simp only [regletref16_Run.j1] at H
       by_cases c20:El=true
       ·subst c20
        have H1:(some (([]:List Int),1,cE))=some (r1,r2,r3):=by rw [if_pos rfl] at H;exact H
        clear H
        have H:=H1
        clear H1
        simp only [Option.some.injEq,Prod.mk.injEq] at H
        obtain⟨rfl,rfl,rfl⟩:=H
        go_wp2
        go_ret3
        exact⟨_,by first|rfl|(simp [errW_none,errW_some]<;>rfl)|(simp [*,errW_none,errW_some]<;>rfl),by first|exact Kd.R_nil _ _ _ _ _|exact Kd.N_nil _ _ _ _ _|exact Kd.V_nil _ _ _ _ _|exact Kd.Q_nil _ _ _ _ _|exact Kd.S_nil _ _ _ _ _,gW HB.out⟩
       ·replace c20:=Bool.eq_false_iff.mpr c20
        subst c20
        have H1:((regletref16_Feed.f Ht aU aX bA bB aQ l1 eF dN (rd l2 cE)).bind fun pD=>(if pD.2.2.2=0 then(if gE.length+pD.2.2.1.length<17592186044416 then(regletref16_Run.l0 Ht l1 l2 (gE++pD.2.2.1) (wrap64 (cE+1)) aU aX bA bB aQ pD.1 pD.2.1) else(none)) else(some (([]:List Int),pD.2.2.2,cE))))=some (r1,r2,r3):=by rw [if_neg (show ¬(false=true) by decide)] at H;exact H
        clear H
        have H:=H1
        clear H1
        replace H:=Option.bind_eq_some_iff.mp H
        obtain⟨⟨t288,t291,t292,t295⟩,A210,H⟩:=H
        replace H:(if t295=0 then(if gE.length+t292.length<17592186044416 then(regletref16_Run.l0 Ht l1 l2 (gE++t292) (wrap64 (cE+1)) aU aX bA bB aQ t288 t291) else(none)) else(some (([]:List Int),t295,cE)))=some (r1,r2,r3):=H
        have A21:=aM A210
        clear A210
        by_cases c22:t295=0
        ·rw [if_pos c22] at H
         have Bt:(t295==0)=true:=beq_iff_eq.mpr c22
         have FT:(t295 !=0)=false:=bne_eq_false_iff_eq.mpr c22
         clear c22
         by_cases c23:gE.length+t292.length<17592186044416
         rotate_left
         ·rw [if_neg c23] at H
          exact absurd H (by simp)
         rw [if_pos c23] at H
         have FU:=aM c23
         clear c23
         obtain⟨y297,Gz⟩:∃y_:List Int,y_=(gE++t292):=⟨_,rfl⟩
         replace H:(regletref16_Run.l0 Ht l1 l2 y297 (wrap64 (cE+1)) aU aX bA bB aQ t288 t291)=some (r1,r2,r3):=by first|(rw [Gz];with_reducible exact H)|(have H2_:=(Option.bind_some _ _).symm.trans H;rw [Gz];with_reducible exact H2_)|(have H2_:=(Option.bind_some _ _).symm.trans H;with_reducible exact H2_)|with_reducible exact H|(rw [Gz];exact H)|exact H
         have FV:=aM Gz
         clear Gz
         have H':=aM H
         clear H
         have hnb24:=iB.out
         have hnc24:=mC.out
         have yQ:wc.cell? ⟨eL,0,none⟩=some (.slice bC aU.length bK):=(aG cH.out 0).trans rfl
         have yR:wc.cell? ⟨eL,1,none⟩=some (.slice bM aX.length bO):=(aG cH.out 1).trans rfl
         have Kf:wc.cell? ⟨eL,2,none⟩=some (.int .i64 bA):=(aG cH.out 2).trans rfl
         have Kg:wc.cell? ⟨eL,3,none⟩=some (.int .i64 bB):=(aG cH.out 3).trans rfl
         have Kh:wc.cell? ⟨eL,4,none⟩=some (.slice bQ aQ.length bP):=(aG cH.out 4).trans rfl
         have yS:=aH cH.out 0
         have yT:=aH cH.out 1
         have Ki:=aH cH.out 2
         have Kj:=aH cH.out 3
         have Kk:=aH cH.out 4
         have xF:wc.cell? ⟨dV,0,none⟩=some (u287000):=(aG cZ.out 0).trans rfl
         have xG:wc.cell? ⟨dV,1,none⟩=some (.bool dN):=(aG cZ.out 1).trans rfl
         have xH:=aH cZ.out 0
         have xI:=aH cZ.out 1
         obtain⟨Bp,Aj,Fk⟩:=Kd.R_slice cG.out
         subst Fk
         go_wp2_with (first|((with_reducible refine bI (f:=26) rfl ?_);refine goesL_ (some 49) rfl rfl Try.func26 (by kernel_rfl) rfl #[.agg #[.slice bC aU.length bK,.slice bM aX.length bO,.int .i64 bA,.int .i64 bB,.slice bQ aQ.length bP],.slice A1 l1.length c1,.agg #[.slice Bp eF.length Aj,.bool dN],.int .i64 (rd l2 cE)] rfl (by(try simp only [List.map_toArray,List.map_cons,List.map_nil]);first|done|rfl|(simp only [List.length_drop,List.length_take];rfl)) ?_;(with_reducible refine(regletref16_Feed.calls Ht _ _ aU _ _ aX bA bB _ _ aQ _ _ l1 _ _ eF dN (rd l2 cE) t288 t291 t292 t295 _ ?side1 ?side2 ?side3 ?side4 ?side5 ?side6 ?side7 ?side8 ?side9 ?side10 A21.out).mono ?_);(case side1=>exact gC (bD eS.out HB.out));(case side2=>exact eU.out);(case side3=>exact gC (bD eX.out HB.out));(case side4=>exact eY.out);(case side5=>exact gC (bD dW.out HB.out));(case side6=>exact eZ.out);(case side7=>exact gC (bD HR1.out HB.out));(case side8=>exact HC1.out);(case side9=>exact gC (aF cG.out).2.2);(case side10=>exact(aF cG.out).2.1);rintro e w28 ⟨v289,v293,rfl,ho0,ho1,hb⟩;refine⟨_,rfl,?_⟩;have bY:=aM (bE (gR cR.out) (Kd.R_base ho1) hb);have bZ:=aM (bE (gR cG.out) (Kd.R_base ho0) hb);have cA:=aM (bL (Kd.R_new' ho0 (Kd.R_lt (gR cG.out))) (bH (gW HB.out)));have cC:=aM (bL (Kd.R_new' ho1 (Kd.R_lt (gR cR.out))) (bH (gW HB.out)));have cQ:=aM (bF (gB cH.out) hb);have dA:=aM (bF (gB cZ.out) hb);have dH:=aM (bG (gW HB.out) hb);clear cR;clear cG;clear cH;clear cZ;clear HB;have cR:=bY;have cG:=bZ;have pE:=cA;have pF:=cC;have cH:=cQ;have cZ:=dA;have HB:=dH;clear bY bZ cA cC cQ dA dH;(try clear hb);(try clear hb2);(try clear hk);(try clear hi);(try clear ho0);(try clear ho1))|((with_reducible refine bJ (N:=13) rfl ?_);(try(refine gate_guard (by rfl) ?_;dsimp only));refine box_event ?hg (N:=13) ?hd (cs:=#[.slice none 0 0,.bool false]) (t:=31) ?hr ?_;(case hd=>rfl);(case hg=>rfl);(case hr=>first|(go_simp;done)|(go_simp;rfl));intro gX hg w29 hbox hb;have bY:=aM (aD (gR cR.out) hb);have bZ:=aM (aD (gR cG.out) hb);have cA:=aM (aD (gR pE.out) hb);have cC:=aM (aD (gR pF.out) hb);have cQ:=aM (bF (gB cH.out) hb);have dA:=aM (bF (gB cZ.out) hb);have dH:=aM (bG (gW HB.out) hb);have eG:=aM (hbox);have fK:=aM ((by rw [hg];exact(bH (gW HB.out)):w.heap.size≤gX));have hF:=aM ((by rw [hg];exact(bH (gW HB.out)):w.heap.size≤gX));have eH:=aM ((by rw [hg];exact Nat.ne_of_lt (bN (g:=eL) (o:= .cells #[.slice bC aU.length bK,.slice bM aX.length bO,.int .i64 bA,.int .i64 bB,.slice bQ aQ.length bP] 26 (0,0)) (gB cH.out)):eL≠gX));have eR:=aM ((by rw [hg];exact Nat.ne_of_gt (bN (g:=eL) (o:= .cells #[.slice bC aU.length bK,.slice bM aX.length bO,.int .i64 bA,.int .i64 bB,.slice bQ aQ.length bP] 26 (0,0)) (gB cH.out)):gX≠eL));have fJ:=aM ((by rw [hg];exact Nat.ne_of_lt (bN (g:=dV) (o:= .cells #[.slice Bp eF.length Aj,.bool dN] 31 (0,0)) (gB cZ.out)):dV≠gX));have fQ:=aM ((by rw [hg];exact Nat.ne_of_gt (bN (g:=dV) (o:= .cells #[.slice Bp eF.length Aj,.bool dN] 31 (0,0)) (gB cZ.out)):gX≠dV));clear cR;clear cG;clear pE;clear pF;clear cH;clear cZ;clear HB;have cR:=bY;have cG:=bZ;have pE:=cA;have pF:=cC;have cH:=cQ;have cZ:=dA;have HB:=dH;have kR:=eG;have GW296:=fK;have Le:=hF;have pG:=eH;have yF:=eR;have pH:=fJ;have pI:=fQ;clear bY bZ cA cC cQ dA dH eG fK hF eH eR fJ fQ;clear hb hbox hg;obtain⟨fY,fZ,Yd⟩:=Kd.R_slice pE.out;subst Yd;have hnb31:=yF.out;have hnc31:=pG.out;have hnb32:=pI.out;have hnc32:=pH.out;have nV:w29.cell? ⟨gX,0,none⟩=some (.slice none 0 0):=(aG kR.out 0).trans rfl;have nW:w29.cell? ⟨gX,1,none⟩=some (.bool false):=(aG kR.out 1).trans rfl;have nX:=aH kR.out 0;have nY:=aH kR.out 1;have qE:w29.cell? ⟨dV,0,none⟩=some (.slice Bp eF.length Aj):=(aG cZ.out 0).trans rfl;have qF:w29.cell? ⟨dV,1,none⟩=some (.bool dN):=(aG cZ.out 1).trans rfl;have qG:=aH cZ.out 0;have qH:=aH cZ.out 1;obtain⟨yD,xT,Of⟩:=Kd.R_slice pF.out;subst Of)|((with_reducible refine gate_builtin (b:= .append) (xs:=#[.tmp 58,.tmp 59]) rfl ?_);(try(refine gate_guard (by rfl) ?_;dsimp only));at_builtin;refine Kd.R_append_rows (Kd.int .i64) (w0:=w) w.heap.size rfl (.tmp 58) (.tmp 59) 32 3 (.int .i64 0) 8 rfl Try.underlying32 info3 rfl (by decide) (by omega) u10 gE t292 _ _ _ (fun k_=>some k_≠(.slice yD t292.length xT:Value).ownBlock) (fun _=>False) rfl rfl ?aO ?aR (fun _ _ h=>h) (fun _ h=>h.elim) ?aF ?aB ?aS ?aL ?_;(case aR=>refine(aF (e:=3) (base:=w.heap.size) (ok:=fun k_=>(True∧some k_≠(u10:Value).ownBlock)) (n:=t292.length) (c:=xT) ?_).2.2;exact(by(with_reducible repeat(first|apply aA|apply aB|apply aC));exact(Kd.R_mono (Kd.R_mono (aE (p:=⟨dV,1,none⟩) (aE (p:=⟨dV,0,none⟩) (aE (p:=⟨gX,1,none⟩) (aE (p:=⟨gX,0,none⟩) (Kd.R_types (Kd.R_types pF.out kR.out (by decide)) cZ.out (by decide)) (fun _ hk=>hk.1.2) (.slice fY t288.length fZ)) (fun _ hk=>hk.1.2) (.bool t291)) (fun _ hk=>hk.2) (.slice fY t288.length fZ)) (fun _ hk=>hk.2) (.bool t291)) (fun _ h_=>h_.1)) (fun _ h_=>h_.1))));(case aB=>exact(by repeat(first|(with_reducible first|exact HB.out|apply aN|apply aP|apply aO|refine aL ?_ Bk.out|refine aL ?_ Bl.out|refine aL ?_ Le.out)|exact HB.out)));(case aF=>exact(fun k_ hk=>Kd.fresh' (Kd.R_lt (by(with_reducible repeat(first|apply aA|apply aB|apply aC));exact(Kd.R_mono (Kd.R_mono (aE (p:=⟨dV,1,none⟩) (aE (p:=⟨dV,0,none⟩) (aE (p:=⟨gX,1,none⟩) (aE (p:=⟨gX,0,none⟩) (Kd.R_types (Kd.R_types pF.out kR.out (by decide)) cZ.out (by decide)) (fun _ hk=>hk.1.2) (.slice fY t288.length fZ)) (fun _ hk=>hk.1.2) (.bool t291)) (fun _ hk=>hk.2) (.slice fY t288.length fZ)) (fun _ hk=>hk.2) (.bool t291)) (fun _ h_=>h_.1)) (fun _ h_=>h_.1)))) k_ hk));(case aO=>exact(by(with_reducible repeat(first|apply aA|apply aB|apply aC));exact Kd.R_mono (aE (p:=⟨dV,1,none⟩) (aE (p:=⟨dV,0,none⟩) (aE (p:=⟨gX,1,none⟩) (aE (p:=⟨gX,0,none⟩) (Kd.R_types (Kd.R_types cR.out kR.out (by decide)) cZ.out (by decide)) (fun _ hk=>hk.1.2) (.slice fY t288.length fZ)) (fun _ hk=>hk.1.2) (.bool t291)) (fun _ hk=>hk.2) (.slice fY t288.length fZ)) (fun _ hk=>hk.2) (.bool t291)) (fun _ hk=>hk.1.1.2)));(case aS=>exact(bH (by repeat(first|(with_reducible first|exact HB.out|apply aN|apply aP|apply aO|refine aL ?_ Bk.out|refine aL ?_ Bl.out|refine aL ?_ Le.out)|exact HB.out))));(case aL=>have:=FU.out;omega);intro v298 w35 ho hb hg hat;rw [←FV.out] at ho;have bY:=aM (Kd.R_over' (by(with_reducible repeat(first|apply aA|apply aB|apply aC));exact(Kd.R_mono (Kd.R_mono (aE (p:=⟨dV,1,none⟩) (aE (p:=⟨dV,0,none⟩) (aE (p:=⟨gX,1,none⟩) (aE (p:=⟨gX,0,none⟩) (Kd.R_types (Kd.R_types cG.out kR.out (by decide)) cZ.out (by decide)) (fun _ hk=>hk.1.2) (.slice fY t288.length fZ)) (fun _ hk=>hk.1.2) (.bool t291)) (fun _ hk=>hk.2) (.slice fY t288.length fZ)) (fun _ hk=>hk.2) (.bool t291)) (fun _ h_=>h_.1)) (fun _ h_=>h_.1))) (Kd.R_typed (by(with_reducible repeat(first|apply aA|apply aB|apply aC));exact(Kd.R_mono (Kd.R_mono (aE (p:=⟨dV,1,none⟩) (aE (p:=⟨dV,0,none⟩) (aE (p:=⟨gX,1,none⟩) (aE (p:=⟨gX,0,none⟩) (Kd.R_types (Kd.R_types cR.out kR.out (by decide)) cZ.out (by decide)) (fun _ hk=>hk.1.2) (.slice fY t288.length fZ)) (fun _ hk=>hk.1.2) (.bool t291)) (fun _ hk=>hk.2) (.slice fY t288.length fZ)) (fun _ hk=>hk.2) (.bool t291)) (fun _ h_=>h_.1)) (fun _ h_=>h_.1)))) (by decide) hg);have bZ:=aM (blk_grown (g:=eL) (o:= .cells #[.slice bC aU.length bK,.slice bM aX.length bO,.int .i64 bA,.int .i64 bB,.slice bQ aQ.length bP] 26 (0,0)) (by(with_reducible repeat(first|refine aJ ?_ _|refine aK ?_|refine aI ?_ _));refine blk_far ?_ iB.out _;(with_reducible repeat(first|refine aJ ?_ _|refine aK ?_|refine aI ?_ _));refine blk_far ?_ iB.out _;(with_reducible repeat(first|refine aJ ?_ _|refine aK ?_|refine aI ?_ _));refine blk_far ?_ pG.out _;(with_reducible repeat(first|refine aJ ?_ _|refine aK ?_|refine aI ?_ _));refine blk_far ?_ pG.out _;(with_reducible repeat(first|refine aJ ?_ _|refine aK ?_|refine aI ?_ _));exact cH.out) hg (Kd.R_ne cR.out cH.out (by decide)));have cA:=aM (blk_grown (g:=dV) (o:= .cells #[.slice fY t288.length fZ,.bool t291] 31 (0,0)) (by(with_reducible repeat(first|refine aJ ?_ _|refine aK ?_|refine aI ?_ _));refine blk_put (cs:=#[.slice fY t288.length fZ,.bool dN]) ?_ 1 _ rfl;(with_reducible repeat(first|refine aJ ?_ _|refine aK ?_|refine aI ?_ _));refine blk_put (cs:=#[.slice Bp eF.length Aj,.bool dN]) ?_ 0 _ rfl;(with_reducible repeat(first|refine aJ ?_ _|refine aK ?_|refine aI ?_ _));refine blk_far ?_ pH.out _;(with_reducible repeat(first|refine aJ ?_ _|refine aK ?_|refine aI ?_ _));refine blk_far ?_ pH.out _;(with_reducible repeat(first|refine aJ ?_ _|refine aK ?_|refine aI ?_ _));exact cZ.out) hg (Kd.R_ne cR.out cZ.out (by decide)));have cC:=aM (Kd.R_over' (by(with_reducible repeat(first|apply aA|apply aB|apply aC));exact(Kd.R_mono (Kd.R_mono (aE (p:=⟨dV,1,none⟩) (aE (p:=⟨dV,0,none⟩) (aE (p:=⟨gX,1,none⟩) (aE (p:=⟨gX,0,none⟩) (Kd.R_types (Kd.R_types pE.out kR.out (by decide)) cZ.out (by decide)) (fun _ hk=>hk.1.2) (.slice fY t288.length fZ)) (fun _ hk=>hk.1.2) (.bool t291)) (fun _ hk=>hk.2) (.slice fY t288.length fZ)) (fun _ hk=>hk.2) (.bool t291)) (fun _ h_=>h_.1)) (fun _ h_=>h_.1))) (Kd.R_typed (by(with_reducible repeat(first|apply aA|apply aB|apply aC));exact(Kd.R_mono (Kd.R_mono (aE (p:=⟨dV,1,none⟩) (aE (p:=⟨dV,0,none⟩) (aE (p:=⟨gX,1,none⟩) (aE (p:=⟨gX,0,none⟩) (Kd.R_types (Kd.R_types cR.out kR.out (by decide)) cZ.out (by decide)) (fun _ hk=>hk.1.2) (.slice fY t288.length fZ)) (fun _ hk=>hk.1.2) (.bool t291)) (fun _ hk=>hk.2) (.slice fY t288.length fZ)) (fun _ hk=>hk.2) (.bool t291)) (fun _ h_=>h_.1)) (fun _ h_=>h_.1)))) (by decide) hg);have cQ:=aM (Kd.R_after (ok:=(fun _=>True)) (by(with_reducible repeat(first|apply aA|apply aB|apply aC));exact Kd.R_mono (aE (p:=⟨dV,1,none⟩) (aE (p:=⟨dV,0,none⟩) (aE (p:=⟨gX,1,none⟩) (aE (p:=⟨gX,0,none⟩) (Kd.R_types (Kd.R_types pF.out kR.out (by decide)) cZ.out (by decide)) (fun _ hk=>hk.1.2) (.slice fY t288.length fZ)) (fun _ hk=>hk.1.2) (.bool t291)) (fun _ hk=>hk.2) (.slice fY t288.length fZ)) (fun _ hk=>hk.2) (.bool t291)) (fun _ hk=>⟨trivial,hk.1.1.2⟩)) hg hat);have dA:=aM (blk_grown (g:=gX) (o:= .cells #[.slice fY t288.length fZ,.bool t291] 31 (0,0)) (by(with_reducible repeat(first|refine aJ ?_ _|refine aK ?_|refine aI ?_ _));refine blk_far ?_ pI.out _;(with_reducible repeat(first|refine aJ ?_ _|refine aK ?_|refine aI ?_ _));refine blk_far ?_ pI.out _;(with_reducible repeat(first|refine aJ ?_ _|refine aK ?_|refine aI ?_ _));refine blk_put (cs:=#[.slice fY t288.length fZ,.bool false]) ?_ 1 _ rfl;(with_reducible repeat(first|refine aJ ?_ _|refine aK ?_|refine aI ?_ _));refine blk_put (cs:=#[.slice none 0 0,.bool false]) ?_ 0 _ rfl;(with_reducible repeat(first|refine aJ ?_ _|refine aK ?_|refine aI ?_ _));exact kR.out) hg (Kd.R_ne cR.out kR.out (by decide)));have dH:=aM (hb);have eG:=aM (ho);clear cG;clear cH;clear cZ;clear pE;clear pF;clear kR;clear HB;clear cR;have cG:=bY;have cH:=bZ;have cZ:=cA;have pE:=cC;have pF:=cQ;have kR:=dA;have HB:=dH;have FW:=eG;clear bY bZ cA cC cQ dA dH eG;clear ho hb hg hat))
         go_roundg Ht
         case measure=>have:=HK1.out;have:=HJ13.out;omega
         case rel=>exact⟨(y297),(wrap64 (cE+1)),(t288),(t291),(.slice fY t288.length fZ),(by first|rfl|(simp;done)|(simp [*];done)),H',⟨by have:=HK1.out;have:=HJ13.out;omega⟩,⟨by(with_reducible repeat(first|apply aA|apply aB|apply aC));exact Kd.R_mono FW.out (fun _ hk=>trivial)⟩,⟨by(with_reducible repeat(first|apply aA|apply aB|apply aC));exact Kd.R_mono pE.out (fun _ hk=>trivial)⟩,⟨gB cH.out⟩,⟨gB cZ.out⟩,⟨gW HB.out⟩⟩
        ·rw [if_neg c22] at H
         have Bt:(t295==0)=false:=beq_eq_false_iff_ne.mpr c22
         have FT:(t295 !=0)=true:=bne_iff_ne.mpr c22
         simp only [Option.some.injEq,Prod.mk.injEq] at H
         obtain⟨rfl,rfl,rfl⟩:=H
         have hnb37:=iB.out
         have hnc37:=mC.out
         have Pf:wc.cell? ⟨eL,0,none⟩=some (.slice bC aU.length bK):=(aG cH.out 0).trans rfl
         have Pg:wc.cell? ⟨eL,1,none⟩=some (.slice bM aX.length bO):=(aG cH.out 1).trans rfl
         have JO:wc.cell? ⟨eL,2,none⟩=some (.int .i64 bA):=(aG cH.out 2).trans rfl
         have JP:wc.cell? ⟨eL,3,none⟩=some (.int .i64 bB):=(aG cH.out 3).trans rfl
         have JQ:wc.cell? ⟨eL,4,none⟩=some (.slice bQ aQ.length bP):=(aG cH.out 4).trans rfl
         have Ph:=aH cH.out 0
         have Pi:=aH cH.out 1
         have JR:=aH cH.out 2
         have JS:=aH cH.out 3
         have JT:=aH cH.out 4
         have zE:wc.cell? ⟨dV,0,none⟩=some (u287000):=(aG cZ.out 0).trans rfl
         have zF:wc.cell? ⟨dV,1,none⟩=some (.bool dN):=(aG cZ.out 1).trans rfl
         have zG:=aH cZ.out 0
         have zH:=aH cZ.out 1
         obtain⟨Ye,Yf,NQ⟩:=Kd.R_slice cG.out
         subst NQ
         go_wp2_with (first|((with_reducible refine bI (f:=26) rfl ?_);refine goesL_ (some 49) rfl rfl Try.func26 (by kernel_rfl) rfl #[.agg #[.slice bC aU.length bK,.slice bM aX.length bO,.int .i64 bA,.int .i64 bB,.slice bQ aQ.length bP],.slice A1 l1.length c1,.agg #[.slice Ye eF.length Yf,.bool dN],.int .i64 (rd l2 cE)] rfl (by(try simp only [List.map_toArray,List.map_cons,List.map_nil]);first|done|rfl|(simp only [List.length_drop,List.length_take];rfl)) ?_;(with_reducible refine(regletref16_Feed.calls Ht _ _ aU _ _ aX bA bB _ _ aQ _ _ l1 _ _ eF dN (rd l2 cE) t288 t291 t292 t295 _ ?side1 ?side2 ?side3 ?side4 ?side5 ?side6 ?side7 ?side8 ?side9 ?side10 A21.out).mono ?_);(case side1=>exact gC (bD eS.out HB.out));(case side2=>exact eU.out);(case side3=>exact gC (bD eX.out HB.out));(case side4=>exact eY.out);(case side5=>exact gC (bD dW.out HB.out));(case side6=>exact eZ.out);(case side7=>exact gC (bD HR1.out HB.out));(case side8=>exact HC1.out);(case side9=>exact gC (aF cG.out).2.2);(case side10=>exact(aF cG.out).2.1);rintro e w41 ⟨v289,v293,rfl,ho0,ho1,hb⟩;refine⟨_,rfl,?_⟩;have bY:=aM (bE (gR cR.out) (Kd.R_base ho1) hb);have bZ:=aM (bE (gR cG.out) (Kd.R_base ho0) hb);have cA:=aM (bL (Kd.R_new' ho0 (Kd.R_lt (gR cG.out))) (bH (gW HB.out)));have cC:=aM (bL (Kd.R_new' ho1 (Kd.R_lt (gR cR.out))) (bH (gW HB.out)));have cQ:=aM (bF (gB cH.out) hb);have dA:=aM (bF (gB cZ.out) hb);have dH:=aM (bG (gW HB.out) hb);clear cR;clear cG;clear cH;clear cZ;clear HB;have cR:=bY;have cG:=bZ;have pE:=cA;have pF:=cC;have cH:=cQ;have cZ:=dA;have HB:=dH;clear bY bZ cA cC cQ dA dH;(try clear hb);(try clear hb2);(try clear hk);(try clear hi);(try clear ho0);(try clear ho1))|((with_reducible refine bJ (N:=13) rfl ?_);(try(refine gate_guard (by rfl) ?_;dsimp only));refine box_event ?hg (N:=13) ?hd (cs:=#[.slice none 0 0,.bool false]) (t:=31) ?hr ?_;(case hd=>rfl);(case hg=>rfl);(case hr=>first|(go_simp;done)|(go_simp;rfl));intro gX hg w42 hbox hb;have bY:=aM (aD (gR cR.out) hb);have bZ:=aM (aD (gR cG.out) hb);have cA:=aM (aD (gR pE.out) hb);have cC:=aM (aD (gR pF.out) hb);have cQ:=aM (bF (gB cH.out) hb);have dA:=aM (bF (gB cZ.out) hb);have dH:=aM (bG (gW HB.out) hb);have eG:=aM (hbox);have fK:=aM ((by rw [hg];exact(bH (gW HB.out)):w.heap.size≤gX));have hF:=aM ((by rw [hg];exact(bH (gW HB.out)):w.heap.size≤gX));have eH:=aM ((by rw [hg];exact Nat.ne_of_lt (bN (g:=eL) (o:= .cells #[.slice bC aU.length bK,.slice bM aX.length bO,.int .i64 bA,.int .i64 bB,.slice bQ aQ.length bP] 26 (0,0)) (gB cH.out)):eL≠gX));have eR:=aM ((by rw [hg];exact Nat.ne_of_gt (bN (g:=eL) (o:= .cells #[.slice bC aU.length bK,.slice bM aX.length bO,.int .i64 bA,.int .i64 bB,.slice bQ aQ.length bP] 26 (0,0)) (gB cH.out)):gX≠eL));have fJ:=aM ((by rw [hg];exact Nat.ne_of_lt (bN (g:=dV) (o:= .cells #[.slice Ye eF.length Yf,.bool dN] 31 (0,0)) (gB cZ.out)):dV≠gX));have fQ:=aM ((by rw [hg];exact Nat.ne_of_gt (bN (g:=dV) (o:= .cells #[.slice Ye eF.length Yf,.bool dN] 31 (0,0)) (gB cZ.out)):gX≠dV));clear cR;clear cG;clear pE;clear pF;clear cH;clear cZ;clear HB;have cR:=bY;have cG:=bZ;have pE:=cA;have pF:=cC;have cH:=cQ;have cZ:=dA;have HB:=dH;have kR:=eG;have GW296:=fK;have Le:=hF;have pG:=eH;have yF:=eR;have pH:=fJ;have pI:=fQ;clear bY bZ cA cC cQ dA dH eG fK hF eH eR fJ fQ;clear hb hbox hg;obtain⟨tL,tM,Mj⟩:=Kd.R_slice pE.out;subst Mj;have hnb44:=yF.out;have hnc44:=pG.out;have hnb45:=pI.out;have hnc45:=pH.out;have wG:w42.cell? ⟨gX,0,none⟩=some (.slice none 0 0):=(aG kR.out 0).trans rfl;have wH:w42.cell? ⟨gX,1,none⟩=some (.bool false):=(aG kR.out 1).trans rfl;have wI:=aH kR.out 0;have wJ:=aH kR.out 1))
         go_ret3
         exact⟨_,by first|rfl|(simp [errW_none,errW_some]<;>rfl)|(simp [*,errW_none,errW_some]<;>rfl),by first|exact Kd.R_nil _ _ _ _ _|exact Kd.N_nil _ _ _ _ _|exact Kd.V_nil _ _ _ _ _|exact Kd.Q_nil _ _ _ _ _|exact Kd.S_nil _ _ _ _ _,by repeat(first|(with_reducible first|exact HB.out|apply aN|apply aP|apply aO|refine aL ?_ Bk.out|refine aL ?_ Bl.out|refine aL ?_ Le.out)|exact HB.out)⟩
    ·rw [if_neg c12] at H
     have Br:decide (cE<(l2.length:Int))=false:=decide_eq_false c12
     clear c12
     replace H:=Option.bind_eq_some_iff.mp H
     obtain⟨⟨t300,t303,t304,t307⟩,A470,H⟩:=H
     replace H:(if t307=0 then(if gE.length+t304.length<17592186044416 then(regletref16_Run.l0 k1 l1 l2 (gE++t304) (wrap64 (cE+1)) aU aX bA bB aQ t300 t303) else(none)) else(some (([]:List Int),t307,cE)))=some (r1,r2,r3):=H
     have A47:=aM A470
     clear A470
     by_cases c48:t307=0
     ·rw [if_pos c48] at H
      have Mn:(t307==0)=true:=beq_iff_eq.mpr c48
      have FX:(t307 !=0)=false:=bne_eq_false_iff_eq.mpr c48
      clear c48
      by_cases c49:gE.length+t304.length<17592186044416
      rotate_left
      ·rw [if_neg c49] at H
       exact absurd H (by simp)
      rw [if_pos c49] at H
      have Mo:=aM c49
      clear c49
      obtain⟨y309,Ha⟩:∃y_:List Int,y_=(gE++t304):=⟨_,rfl⟩
      replace H:(regletref16_Run.l0 k1 l1 l2 y309 (wrap64 (cE+1)) aU aX bA bB aQ t300 t303)=some (r1,r2,r3):=by first|(rw [Ha];with_reducible exact H)|(have H2_:=(Option.bind_some _ _).symm.trans H;rw [Ha];with_reducible exact H2_)|(have H2_:=(Option.bind_some _ _).symm.trans H;with_reducible exact H2_)|with_reducible exact H|(rw [Ha];exact H)|exact H
      have FY:=aM Ha
      clear Ha
      have H':=aM H
      clear H
      have hnb50:=iB.out
      have hnc50:=mC.out
      have Tv:wr.cell? ⟨eL,0,none⟩=some (.slice bC aU.length bK):=(aG cH.out 0).trans rfl
      have Tw:wr.cell? ⟨eL,1,none⟩=some (.slice bM aX.length bO):=(aG cH.out 1).trans rfl
      have JU:wr.cell? ⟨eL,2,none⟩=some (.int .i64 bA):=(aG cH.out 2).trans rfl
      have JV:wr.cell? ⟨eL,3,none⟩=some (.int .i64 bB):=(aG cH.out 3).trans rfl
      have JW:wr.cell? ⟨eL,4,none⟩=some (.slice bQ aQ.length bP):=(aG cH.out 4).trans rfl
      have Tx:=aH cH.out 0
      have Ty:=aH cH.out 1
      have JX:=aH cH.out 2
      have JY:=aH cH.out 3
      have JZ:=aH cH.out 4
      have uR:wr.cell? ⟨dV,0,none⟩=some (u287000):=(aG cZ.out 0).trans rfl
      have uS:wr.cell? ⟨dV,1,none⟩=some (.bool dN):=(aG cZ.out 1).trans rfl
      have uT:=aH cZ.out 0
      have uU:=aH cZ.out 1
      obtain⟨Og,Oh,NR⟩:=Kd.R_slice cG.out
      subst NR
      go_wp2_with (first|((with_reducible refine bI (f:=26) rfl ?_);refine goesL_ (some 49) rfl rfl Try.func26 (by kernel_rfl) rfl #[.agg #[.slice bC aU.length bK,.slice bM aX.length bO,.int .i64 bA,.int .i64 bB,.slice bQ aQ.length bP],.slice A1 l1.length c1,.agg #[.slice Og eF.length Oh,.bool dN],.int .i64 (aX.length:Int)] rfl (by(try simp only [List.map_toArray,List.map_cons,List.map_nil]);first|done|rfl|(simp only [List.length_drop,List.length_take];rfl)) ?_;(with_reducible refine(regletref16_Feed.calls k1 _ _ aU _ _ aX bA bB _ _ aQ _ _ l1 _ _ eF dN (aX.length:Int) t300 t303 t304 t307 _ ?side1 ?side2 ?side3 ?side4 ?side5 ?side6 ?side7 ?side8 ?side9 ?side10 A47.out).mono ?_);(case side1=>exact gC (bD eS.out HB.out));(case side2=>exact eU.out);(case side3=>exact gC (bD eX.out HB.out));(case side4=>exact eY.out);(case side5=>exact gC (bD dW.out HB.out));(case side6=>exact eZ.out);(case side7=>exact gC (bD HR1.out HB.out));(case side8=>exact HC1.out);(case side9=>exact gC (aF cG.out).2.2);(case side10=>exact(aF cG.out).2.1);rintro e w54 ⟨v301,v305,rfl,ho0,ho1,hb⟩;refine⟨_,rfl,?_⟩;have bY:=aM (bE (gR cR.out) (Kd.R_base ho1) hb);have bZ:=aM (bE (gR cG.out) (Kd.R_base ho0) hb);have cA:=aM (bL (Kd.R_new' ho0 (Kd.R_lt (gR cG.out))) (bH (gW HB.out)));have cC:=aM (bL (Kd.R_new' ho1 (Kd.R_lt (gR cR.out))) (bH (gW HB.out)));have cQ:=aM (bF (gB cH.out) hb);have dA:=aM (bF (gB cZ.out) hb);have dH:=aM (bG (gW HB.out) hb);clear cR;clear cG;clear cH;clear cZ;clear HB;have cR:=bY;have cG:=bZ;have pJ:=cA;have pK:=cC;have cH:=cQ;have cZ:=dA;have HB:=dH;clear bY bZ cA cC cQ dA dH;(try clear hb);(try clear hb2);(try clear hk);(try clear hi);(try clear ho0);(try clear ho1))|((with_reducible refine bJ (N:=13) rfl ?_);(try(refine gate_guard (by rfl) ?_;dsimp only));refine box_event ?hg (N:=13) ?hd (cs:=#[.slice none 0 0,.bool false]) (t:=31) ?hr ?_;(case hd=>rfl);(case hg=>rfl);(case hr=>first|(go_simp;done)|(go_simp;rfl));intro gY hg w55 hbox hb;have bY:=aM (aD (gR cR.out) hb);have bZ:=aM (aD (gR cG.out) hb);have cA:=aM (aD (gR pJ.out) hb);have cC:=aM (aD (gR pK.out) hb);have cQ:=aM (bF (gB cH.out) hb);have dA:=aM (bF (gB cZ.out) hb);have dH:=aM (bG (gW HB.out) hb);have eG:=aM (hbox);have fK:=aM ((by rw [hg];exact(bH (gW HB.out)):w.heap.size≤gY));have hF:=aM ((by rw [hg];exact(bH (gW HB.out)):w.heap.size≤gY));have eH:=aM ((by rw [hg];exact Nat.ne_of_lt (bN (g:=eL) (o:= .cells #[.slice bC aU.length bK,.slice bM aX.length bO,.int .i64 bA,.int .i64 bB,.slice bQ aQ.length bP] 26 (0,0)) (gB cH.out)):eL≠gY));have eR:=aM ((by rw [hg];exact Nat.ne_of_gt (bN (g:=eL) (o:= .cells #[.slice bC aU.length bK,.slice bM aX.length bO,.int .i64 bA,.int .i64 bB,.slice bQ aQ.length bP] 26 (0,0)) (gB cH.out)):gY≠eL));have fJ:=aM ((by rw [hg];exact Nat.ne_of_lt (bN (g:=dV) (o:= .cells #[.slice Og eF.length Oh,.bool dN] 31 (0,0)) (gB cZ.out)):dV≠gY));have fQ:=aM ((by rw [hg];exact Nat.ne_of_gt (bN (g:=dV) (o:= .cells #[.slice Og eF.length Oh,.bool dN] 31 (0,0)) (gB cZ.out)):gY≠dV));clear cR;clear cG;clear pJ;clear pK;clear cH;clear cZ;clear HB;have cR:=bY;have cG:=bZ;have pJ:=cA;have pK:=cC;have cH:=cQ;have cZ:=dA;have HB:=dH;have kS:=eG;have GW308:=fK;have Lf:=hF;have pL:=eH;have yG:=eR;have pM:=fJ;have pN:=fQ;clear bY bZ cA cC cQ dA dH eG fK hF eH eR fJ fQ;clear hb hbox hg;obtain⟨oQ,oR,NS⟩:=Kd.R_slice pJ.out;subst NS;have hnb57:=yG.out;have hnc57:=pL.out;have hnb58:=pN.out;have hnc58:=pM.out;have KA:w55.cell? ⟨gY,0,none⟩=some (.slice none 0 0):=(aG kS.out 0).trans rfl;have KC:w55.cell? ⟨gY,1,none⟩=some (.bool false):=(aG kS.out 1).trans rfl;have KD:=aH kS.out 0;have KE:=aH kS.out 1;have Ry:w55.cell? ⟨dV,0,none⟩=some (.slice Og eF.length Oh):=(aG cZ.out 0).trans rfl;have Rz:w55.cell? ⟨dV,1,none⟩=some (.bool dN):=(aG cZ.out 1).trans rfl;have Sa:=aH cZ.out 0;have Sb:=aH cZ.out 1;obtain⟨NT,FZ,NU⟩:=Kd.R_slice pK.out;subst NU)|((with_reducible refine gate_builtin (b:= .append) (xs:=#[.tmp 58,.tmp 59]) rfl ?_);(try(refine gate_guard (by rfl) ?_;dsimp only));at_builtin;refine Kd.R_append_rows (Kd.int .i64) (w0:=w) w.heap.size rfl (.tmp 58) (.tmp 59) 32 3 (.int .i64 0) 8 rfl Try.underlying32 info3 rfl (by decide) (by omega) u10 gE t304 _ _ _ (fun k_=>some k_≠(.slice NT t304.length FZ:Value).ownBlock) (fun _=>False) rfl rfl ?aO ?aR (fun _ _ h=>h) (fun _ h=>h.elim) ?aF ?aB ?aS ?aL ?_;(case aR=>refine(aF (e:=3) (base:=w.heap.size) (ok:=fun k_=>(True∧some k_≠(u10:Value).ownBlock)) (n:=t304.length) (c:=FZ) ?_).2.2;exact(by(with_reducible repeat(first|apply aA|apply aB|apply aC));exact(Kd.R_mono (Kd.R_mono (aE (p:=⟨dV,1,none⟩) (aE (p:=⟨dV,0,none⟩) (aE (p:=⟨gY,1,none⟩) (aE (p:=⟨gY,0,none⟩) (Kd.R_types (Kd.R_types pK.out kS.out (by decide)) cZ.out (by decide)) (fun _ hk=>hk.1.2) (.slice oQ t300.length oR)) (fun _ hk=>hk.1.2) (.bool t303)) (fun _ hk=>hk.2) (.slice oQ t300.length oR)) (fun _ hk=>hk.2) (.bool t303)) (fun _ h_=>h_.1)) (fun _ h_=>h_.1))));(case aB=>exact(by repeat(first|(with_reducible first|exact HB.out|apply aN|apply aP|apply aO|refine aL ?_ Bk.out|refine aL ?_ Bl.out|refine aL ?_ Lf.out)|exact HB.out)));(case aF=>exact(fun k_ hk=>Kd.fresh' (Kd.R_lt (by(with_reducible repeat(first|apply aA|apply aB|apply aC));exact(Kd.R_mono (Kd.R_mono (aE (p:=⟨dV,1,none⟩) (aE (p:=⟨dV,0,none⟩) (aE (p:=⟨gY,1,none⟩) (aE (p:=⟨gY,0,none⟩) (Kd.R_types (Kd.R_types pK.out kS.out (by decide)) cZ.out (by decide)) (fun _ hk=>hk.1.2) (.slice oQ t300.length oR)) (fun _ hk=>hk.1.2) (.bool t303)) (fun _ hk=>hk.2) (.slice oQ t300.length oR)) (fun _ hk=>hk.2) (.bool t303)) (fun _ h_=>h_.1)) (fun _ h_=>h_.1)))) k_ hk));(case aO=>exact(by(with_reducible repeat(first|apply aA|apply aB|apply aC));exact Kd.R_mono (aE (p:=⟨dV,1,none⟩) (aE (p:=⟨dV,0,none⟩) (aE (p:=⟨gY,1,none⟩) (aE (p:=⟨gY,0,none⟩) (Kd.R_types (Kd.R_types cR.out kS.out (by decide)) cZ.out (by decide)) (fun _ hk=>hk.1.2) (.slice oQ t300.length oR)) (fun _ hk=>hk.1.2) (.bool t303)) (fun _ hk=>hk.2) (.slice oQ t300.length oR)) (fun _ hk=>hk.2) (.bool t303)) (fun _ hk=>hk.1.1.2)));(case aS=>exact(bH (by repeat(first|(with_reducible first|exact HB.out|apply aN|apply aP|apply aO|refine aL ?_ Bk.out|refine aL ?_ Bl.out|refine aL ?_ Lf.out)|exact HB.out))));(case aL=>have:=Mo.out;omega);intro v310 w61 ho hb hg hat;rw [←FY.out] at ho;have bY:=aM (Kd.R_over' (by(with_reducible repeat(first|apply aA|apply aB|apply aC));exact(Kd.R_mono (Kd.R_mono (aE (p:=⟨dV,1,none⟩) (aE (p:=⟨dV,0,none⟩) (aE (p:=⟨gY,1,none⟩) (aE (p:=⟨gY,0,none⟩) (Kd.R_types (Kd.R_types cG.out kS.out (by decide)) cZ.out (by decide)) (fun _ hk=>hk.1.2) (.slice oQ t300.length oR)) (fun _ hk=>hk.1.2) (.bool t303)) (fun _ hk=>hk.2) (.slice oQ t300.length oR)) (fun _ hk=>hk.2) (.bool t303)) (fun _ h_=>h_.1)) (fun _ h_=>h_.1))) (Kd.R_typed (by(with_reducible repeat(first|apply aA|apply aB|apply aC));exact(Kd.R_mono (Kd.R_mono (aE (p:=⟨dV,1,none⟩) (aE (p:=⟨dV,0,none⟩) (aE (p:=⟨gY,1,none⟩) (aE (p:=⟨gY,0,none⟩) (Kd.R_types (Kd.R_types cR.out kS.out (by decide)) cZ.out (by decide)) (fun _ hk=>hk.1.2) (.slice oQ t300.length oR)) (fun _ hk=>hk.1.2) (.bool t303)) (fun _ hk=>hk.2) (.slice oQ t300.length oR)) (fun _ hk=>hk.2) (.bool t303)) (fun _ h_=>h_.1)) (fun _ h_=>h_.1)))) (by decide) hg);have bZ:=aM (blk_grown (g:=eL) (o:= .cells #[.slice bC aU.length bK,.slice bM aX.length bO,.int .i64 bA,.int .i64 bB,.slice bQ aQ.length bP] 26 (0,0)) (by(with_reducible repeat(first|refine aJ ?_ _|refine aK ?_|refine aI ?_ _));refine blk_far ?_ iB.out _;(with_reducible repeat(first|refine aJ ?_ _|refine aK ?_|refine aI ?_ _));refine blk_far ?_ iB.out _;(with_reducible repeat(first|refine aJ ?_ _|refine aK ?_|refine aI ?_ _));refine blk_far ?_ pL.out _;(with_reducible repeat(first|refine aJ ?_ _|refine aK ?_|refine aI ?_ _));refine blk_far ?_ pL.out _;(with_reducible repeat(first|refine aJ ?_ _|refine aK ?_|refine aI ?_ _));exact cH.out) hg (Kd.R_ne cR.out cH.out (by decide)));have cA:=aM (blk_grown (g:=dV) (o:= .cells #[.slice oQ t300.length oR,.bool t303] 31 (0,0)) (by(with_reducible repeat(first|refine aJ ?_ _|refine aK ?_|refine aI ?_ _));refine blk_put (cs:=#[.slice oQ t300.length oR,.bool dN]) ?_ 1 _ rfl;(with_reducible repeat(first|refine aJ ?_ _|refine aK ?_|refine aI ?_ _));refine blk_put (cs:=#[.slice Og eF.length Oh,.bool dN]) ?_ 0 _ rfl;(with_reducible repeat(first|refine aJ ?_ _|refine aK ?_|refine aI ?_ _));refine blk_far ?_ pM.out _;(with_reducible repeat(first|refine aJ ?_ _|refine aK ?_|refine aI ?_ _));refine blk_far ?_ pM.out _;(with_reducible repeat(first|refine aJ ?_ _|refine aK ?_|refine aI ?_ _));exact cZ.out) hg (Kd.R_ne cR.out cZ.out (by decide)));have cC:=aM (Kd.R_over' (by(with_reducible repeat(first|apply aA|apply aB|apply aC));exact(Kd.R_mono (Kd.R_mono (aE (p:=⟨dV,1,none⟩) (aE (p:=⟨dV,0,none⟩) (aE (p:=⟨gY,1,none⟩) (aE (p:=⟨gY,0,none⟩) (Kd.R_types (Kd.R_types pJ.out kS.out (by decide)) cZ.out (by decide)) (fun _ hk=>hk.1.2) (.slice oQ t300.length oR)) (fun _ hk=>hk.1.2) (.bool t303)) (fun _ hk=>hk.2) (.slice oQ t300.length oR)) (fun _ hk=>hk.2) (.bool t303)) (fun _ h_=>h_.1)) (fun _ h_=>h_.1))) (Kd.R_typed (by(with_reducible repeat(first|apply aA|apply aB|apply aC));exact(Kd.R_mono (Kd.R_mono (aE (p:=⟨dV,1,none⟩) (aE (p:=⟨dV,0,none⟩) (aE (p:=⟨gY,1,none⟩) (aE (p:=⟨gY,0,none⟩) (Kd.R_types (Kd.R_types cR.out kS.out (by decide)) cZ.out (by decide)) (fun _ hk=>hk.1.2) (.slice oQ t300.length oR)) (fun _ hk=>hk.1.2) (.bool t303)) (fun _ hk=>hk.2) (.slice oQ t300.length oR)) (fun _ hk=>hk.2) (.bool t303)) (fun _ h_=>h_.1)) (fun _ h_=>h_.1)))) (by decide) hg);have cQ:=aM (Kd.R_after (ok:=(fun _=>True)) (by(with_reducible repeat(first|apply aA|apply aB|apply aC));exact Kd.R_mono (aE (p:=⟨dV,1,none⟩) (aE (p:=⟨dV,0,none⟩) (aE (p:=⟨gY,1,none⟩) (aE (p:=⟨gY,0,none⟩) (Kd.R_types (Kd.R_types pK.out kS.out (by decide)) cZ.out (by decide)) (fun _ hk=>hk.1.2) (.slice oQ t300.length oR)) (fun _ hk=>hk.1.2) (.bool t303)) (fun _ hk=>hk.2) (.slice oQ t300.length oR)) (fun _ hk=>hk.2) (.bool t303)) (fun _ hk=>⟨trivial,hk.1.1.2⟩)) hg hat);have dA:=aM (blk_grown (g:=gY) (o:= .cells #[.slice oQ t300.length oR,.bool t303] 31 (0,0)) (by(with_reducible repeat(first|refine aJ ?_ _|refine aK ?_|refine aI ?_ _));refine blk_far ?_ pN.out _;(with_reducible repeat(first|refine aJ ?_ _|refine aK ?_|refine aI ?_ _));refine blk_far ?_ pN.out _;(with_reducible repeat(first|refine aJ ?_ _|refine aK ?_|refine aI ?_ _));refine blk_put (cs:=#[.slice oQ t300.length oR,.bool false]) ?_ 1 _ rfl;(with_reducible repeat(first|refine aJ ?_ _|refine aK ?_|refine aI ?_ _));refine blk_put (cs:=#[.slice none 0 0,.bool false]) ?_ 0 _ rfl;(with_reducible repeat(first|refine aJ ?_ _|refine aK ?_|refine aI ?_ _));exact kS.out) hg (Kd.R_ne cR.out kS.out (by decide)));have dH:=aM (hb);have eG:=aM (ho);clear cG;clear cH;clear cZ;clear pJ;clear pK;clear kS;clear HB;clear cR;have cG:=bY;have cH:=bZ;have cZ:=cA;have pJ:=cC;have pK:=cQ;have kS:=dA;have HB:=dH;have GA:=eG;clear bY bZ cA cC cQ dA dH eG;clear ho hb hg hat))
      go_roundg k1
      case measure=>have:=HK1.out;omega
      case rel=>exact⟨(y309),(wrap64 (cE+1)),(t300),(t303),(.slice oQ t300.length oR),(by first|rfl|(simp;done)|(simp [*];done)),H',⟨by have:=HK1.out;omega⟩,⟨by(with_reducible repeat(first|apply aA|apply aB|apply aC));exact Kd.R_mono GA.out (fun _ hk=>trivial)⟩,⟨by(with_reducible repeat(first|apply aA|apply aB|apply aC));exact Kd.R_mono pJ.out (fun _ hk=>trivial)⟩,⟨gB cH.out⟩,⟨gB cZ.out⟩,⟨gW HB.out⟩⟩
     ·rw [if_neg c48] at H
      have Mn:(t307==0)=false:=beq_eq_false_iff_ne.mpr c48
      have FX:(t307 !=0)=true:=bne_iff_ne.mpr c48
      simp only [Option.some.injEq,Prod.mk.injEq] at H
      obtain⟨rfl,rfl,rfl⟩:=H
      have hnb63:=iB.out
      have hnc63:=mC.out
      have KF:wr.cell? ⟨eL,0,none⟩=some (.slice bC aU.length bK):=(aG cH.out 0).trans rfl
      have KG:wr.cell? ⟨eL,1,none⟩=some (.slice bM aX.length bO):=(aG cH.out 1).trans rfl
      have KH:wr.cell? ⟨eL,2,none⟩=some (.int .i64 bA):=(aG cH.out 2).trans rfl
      have KI:wr.cell? ⟨eL,3,none⟩=some (.int .i64 bB):=(aG cH.out 3).trans rfl
      have KJ:wr.cell? ⟨eL,4,none⟩=some (.slice bQ aQ.length bP):=(aG cH.out 4).trans rfl
      have KK:=aH cH.out 0
      have KL:=aH cH.out 1
      have KM:=aH cH.out 2
      have KN:=aH cH.out 3
      have KO:=aH cH.out 4
      have KP:wr.cell? ⟨dV,0,none⟩=some (u287000):=(aG cZ.out 0).trans rfl
      have KQ:wr.cell? ⟨dV,1,none⟩=some (.bool dN):=(aG cZ.out 1).trans rfl
      have KR:=aH cZ.out 0
      have KS:=aH cZ.out 1
      obtain⟨Sr,Bq,Xo⟩:=Kd.R_slice cG.out
      subst Xo
      go_wp2_with (first|((with_reducible refine bI (f:=26) rfl ?_);refine goesL_ (some 49) rfl rfl Try.func26 (by kernel_rfl) rfl #[.agg #[.slice bC aU.length bK,.slice bM aX.length bO,.int .i64 bA,.int .i64 bB,.slice bQ aQ.length bP],.slice A1 l1.length c1,.agg #[.slice Sr eF.length Bq,.bool dN],.int .i64 (aX.length:Int)] rfl (by(try simp only [List.map_toArray,List.map_cons,List.map_nil]);first|done|rfl|(simp only [List.length_drop,List.length_take];rfl)) ?_;(with_reducible refine(regletref16_Feed.calls k1 _ _ aU _ _ aX bA bB _ _ aQ _ _ l1 _ _ eF dN (aX.length:Int) t300 t303 t304 t307 _ ?side1 ?side2 ?side3 ?side4 ?side5 ?side6 ?side7 ?side8 ?side9 ?side10 A47.out).mono ?_);(case side1=>exact gC (bD eS.out HB.out));(case side2=>exact eU.out);(case side3=>exact gC (bD eX.out HB.out));(case side4=>exact eY.out);(case side5=>exact gC (bD dW.out HB.out));(case side6=>exact eZ.out);(case side7=>exact gC (bD HR1.out HB.out));(case side8=>exact HC1.out);(case side9=>exact gC (aF cG.out).2.2);(case side10=>exact(aF cG.out).2.1);rintro e w67 ⟨v301,v305,rfl,ho0,ho1,hb⟩;refine⟨_,rfl,?_⟩;have bY:=aM (bE (gR cR.out) (Kd.R_base ho1) hb);have bZ:=aM (bE (gR cG.out) (Kd.R_base ho0) hb);have cA:=aM (bL (Kd.R_new' ho0 (Kd.R_lt (gR cG.out))) (bH (gW HB.out)));have cC:=aM (bL (Kd.R_new' ho1 (Kd.R_lt (gR cR.out))) (bH (gW HB.out)));have cQ:=aM (bF (gB cH.out) hb);have dA:=aM (bF (gB cZ.out) hb);have dH:=aM (bG (gW HB.out) hb);clear cR;clear cG;clear cH;clear cZ;clear HB;have cR:=bY;have cG:=bZ;have pJ:=cA;have pK:=cC;have cH:=cQ;have cZ:=dA;have HB:=dH;clear bY bZ cA cC cQ dA dH;(try clear hb);(try clear hb2);(try clear hk);(try clear hi);(try clear ho0);(try clear ho1))|((with_reducible refine bJ (N:=13) rfl ?_);(try(refine gate_guard (by rfl) ?_;dsimp only));refine box_event ?hg (N:=13) ?hd (cs:=#[.slice none 0 0,.bool false]) (t:=31) ?hr ?_;(case hd=>rfl);(case hg=>rfl);(case hr=>first|(go_simp;done)|(go_simp;rfl));intro gY hg w68 hbox hb;have bY:=aM (aD (gR cR.out) hb);have bZ:=aM (aD (gR cG.out) hb);have cA:=aM (aD (gR pJ.out) hb);have cC:=aM (aD (gR pK.out) hb);have cQ:=aM (bF (gB cH.out) hb);have dA:=aM (bF (gB cZ.out) hb);have dH:=aM (bG (gW HB.out) hb);have eG:=aM (hbox);have fK:=aM ((by rw [hg];exact(bH (gW HB.out)):w.heap.size≤gY));have hF:=aM ((by rw [hg];exact(bH (gW HB.out)):w.heap.size≤gY));have eH:=aM ((by rw [hg];exact Nat.ne_of_lt (bN (g:=eL) (o:= .cells #[.slice bC aU.length bK,.slice bM aX.length bO,.int .i64 bA,.int .i64 bB,.slice bQ aQ.length bP] 26 (0,0)) (gB cH.out)):eL≠gY));have eR:=aM ((by rw [hg];exact Nat.ne_of_gt (bN (g:=eL) (o:= .cells #[.slice bC aU.length bK,.slice bM aX.length bO,.int .i64 bA,.int .i64 bB,.slice bQ aQ.length bP] 26 (0,0)) (gB cH.out)):gY≠eL));have fJ:=aM ((by rw [hg];exact Nat.ne_of_lt (bN (g:=dV) (o:= .cells #[.slice Sr eF.length Bq,.bool dN] 31 (0,0)) (gB cZ.out)):dV≠gY));have fQ:=aM ((by rw [hg];exact Nat.ne_of_gt (bN (g:=dV) (o:= .cells #[.slice Sr eF.length Bq,.bool dN] 31 (0,0)) (gB cZ.out)):gY≠dV));clear cR;clear cG;clear pJ;clear pK;clear cH;clear cZ;clear HB;have cR:=bY;have cG:=bZ;have pJ:=cA;have pK:=cC;have cH:=cQ;have cZ:=dA;have HB:=dH;have kS:=eG;have GW308:=fK;have Lf:=hF;have pL:=eH;have yG:=eR;have pM:=fJ;have pN:=fQ;clear bY bZ cA cC cQ dA dH eG fK hF eH eR fJ fQ;clear hb hbox hg;obtain⟨QW,QX,NV⟩:=Kd.R_slice pJ.out;subst NV;have hnb70:=yG.out;have hnc70:=pL.out;have hnb71:=pN.out;have hnc71:=pM.out;have KT:w68.cell? ⟨gY,0,none⟩=some (.slice none 0 0):=(aG kS.out 0).trans rfl;have KU:w68.cell? ⟨gY,1,none⟩=some (.bool false):=(aG kS.out 1).trans rfl;have KV:=aH kS.out 0;have KW:=aH kS.out 1))
      go_ret3
      exact⟨_,by first|rfl|(simp [errW_none,errW_some]<;>rfl)|(simp [*,errW_none,errW_some]<;>rfl),by first|exact Kd.R_nil _ _ _ _ _|exact Kd.N_nil _ _ _ _ _|exact Kd.V_nil _ _ _ _ _|exact Kd.Q_nil _ _ _ _ _|exact Kd.S_nil _ _ _ _ _,by repeat(first|(with_reducible first|exact HB.out|apply aN|apply aP|apply aO|refine aL ?_ Bk.out|refine aL ?_ Bl.out|refine aL ?_ Lf.out)|exact HB.out)⟩
   ·rw [if_neg c11] at H
    have tI:decide (cE≤(l2.length:Int))=false:=decide_eq_false c11
    clear c11
    simp only [Option.some.injEq,Prod.mk.injEq] at H
    obtain⟨rfl,rfl,rfl⟩:=H
    go_wp2
    go_ret3
    exact⟨_,by first|rfl|(simp [errW_none,errW_some]<;>rfl)|(simp [*,errW_none,errW_some]<;>rfl),gR cR.out,gW HB.out⟩
attribute [local go_sem] max2_int min2_int max_two min_two max_three min_three max_four min_four   -- for this text's walks alone
set_option linter.unusedVariables false
set_option linter.unusedSimpArgs false
def regletlaw16_ran.f (k:Nat) (aU:List ByteArray) (aX:List (S72)) (bA:Int) (bB:Int) (aQ:List (S35)) (l1:List (List Int)) (l2:List Int):Option (Bool):=(machine_Run.f k aU aX bA bB aQ l1 l2).bind fun Bm=>((regletref16_Run.f k aU aX bA bB aQ l1 l2).bind fun rP=>((regletref13_SameInts.f k Bm.1 rP.1).bind fun t323=>(if t323=true then(if Bm.2.1=rP.2.1 then(some (Bm.2.2==rP.2.2)) else(none)) else(none))))
set_option maxHeartbeats 8000000 in
set_option maxRecDepth 100000 in
theorem regletlaw16_ran.calls (k:Nat) (bC:Option Addr) (bK:Nat) (aU:List ByteArray) (bM:Option Addr) (bO:Nat) (aX:List (S72)) (bA:Int) (bB:Int) (bQ:Option Addr) (bP:Nat) (aQ:List (S35)) (A1:Option Addr) (c1:Nat) (l1:List (List Int)) (A2:Option Addr) (c2:Nat) (l2:List Int) (r:Bool) (w:World) (dM:Kd.C Kd.string w bC aU.length aU) (dT:aU.length≤bK) (dU:Kd.C k72 w bM aX.length aX) (dY:aX.length≤bO) (dR:Kd.C k35 w bQ aQ.length aQ) (eB:aQ.length≤bP) (hr1:Kd.C (Kd.slice 3 (Kd.int .i64)) w A1 l1.length l1) (hc1:l1.length≤c1) (hr2:Kd.C (Kd.int .i64) w A2 l2.length l2) (hc2:l2.length≤c2) (h:regletlaw16_ran.f k aU aX bA bB aQ l1 l2=some r):
 Calls Try.prog 12 #[.agg #[.slice bC aU.length bK,.slice bM aX.length bO,.int .i64 bA,.int .i64 bB,.slice bQ aQ.length bP],.slice A1 l1.length c1,.slice A2 l2.length c2] w fun e w'=>e= .returned (.bool r)∧Below w.heap.size w w':=by
 have hu26:=Try.underlying26
 have eS:=aM dM
 have eU:=aM dT
 clear dM dT
 have eX:=aM dU
 have eY:=aM dY
 clear dU dY
 have dW:=aM dR
 have eZ:=aM eB
 clear dR eB
 have HR1:=aM hr1
 have HC1:=aM hc1
 clear hr1 hc1
 have HR2:=aM hr2
 have HC2:=aM hc2
 clear hr2 hc2
 have HB:=aM (Below.refl w.heap.size w)
 have H:((machine_Run.f k aU aX bA bB aQ l1 l2).bind fun Bm=>((regletref16_Run.f k aU aX bA bB aQ l1 l2).bind fun rP=>((regletref13_SameInts.f k Bm.1 rP.1).bind fun t323=>(if t323=true then(if Bm.2.1=rP.2.1 then(some (Bm.2.2==rP.2.2)) else(none)) else(none)))))=some r:=h
 clear h
 replace H:=Option.bind_eq_some_iff.mp H
 obtain⟨⟨t313,t316,t317⟩,A40,H⟩:=H
 replace H:((regletref16_Run.f k aU aX bA bB aQ l1 l2).bind fun rP=>((regletref13_SameInts.f k t313 rP.1).bind fun t323=>(if t323=true then(if t316=rP.2.1 then(some (t317==rP.2.2)) else(none)) else(none))))=some r:=H
 have A4:=aM A40
 clear A40
 replace H:=Option.bind_eq_some_iff.mp H
 obtain⟨⟨t318,t321,t322⟩,A50,H⟩:=H
 replace H:((regletref13_SameInts.f k t313 t318).bind fun t323=>(if t323=true then(if t316=t321 then(some (t317==t322)) else(none)) else(none)))=some r:=H
 have A5:=aM A50
 clear A50
 replace H:=Option.bind_eq_some_iff.mp H
 obtain⟨t323,A60,H⟩:=H
 replace H:(if t323=true then(if t316=t321 then(some (t317==t322)) else(none)) else(none))=some r:=H
 have A6:=aM A60
 clear A60
 by_cases c7:t323=true
 ·subst c7
  have H1:(if t316=t321 then(some (t317==t322)) else(none))=some r:=by rw [if_pos rfl] at H;exact H
  clear H
  have H:=H1
  clear H1
  by_cases c8:t316=t321
  rotate_left
  ·rw [if_neg c8] at H
   exact absurd H (by simp)
  rw [if_pos c8] at H
  have QY:(t316==t321)=true:=beq_iff_eq.mpr c8
  have QZ:(t316 !=t321)=false:=bne_eq_false_iff_eq.mpr c8
  clear c8
  obtain rfl:=Option.some.inj H
  go_enter Try.func12,Try.ntmps12
  go_wp2_with (first|((with_reducible refine bJ (N:=3) rfl ?_);refine box_event ?hg (N:=3) ?hd (cs:=#[.slice bC aU.length bK,.slice bM aX.length bO,.int .i64 bA,.int .i64 bB,.slice bQ aQ.length bP]) (t:=26) ?hr ?_;(case hd=>rfl);(case hg=>rfl);(case hr=>first|(go_simp;done)|(go_simp;rfl));intro rA hg w9 hbox hb;have bY:=aM (bG (gW HB.out) hb);have bZ:=aM (hbox);have cA:=aM ((by rw [hg];exact(bH (gW HB.out)):w.heap.size≤rA));have cC:=aM ((by rw [hg];exact(bH (gW HB.out)):w.heap.size≤rA));clear HB;have HB:=bY;have jE:=bZ;have GW312:=cA;have PX:=cC;clear bY bZ cA cC;clear hb hbox hg;have mU:w9.cell? ⟨rA,0,none⟩=some (.slice bC aU.length bK):=(aG jE.out 0).trans rfl;have mV:w9.cell? ⟨rA,1,none⟩=some (.slice bM aX.length bO):=(aG jE.out 1).trans rfl;have sW:w9.cell? ⟨rA,2,none⟩=some (.int .i64 bA):=(aG jE.out 2).trans rfl;have sX:w9.cell? ⟨rA,3,none⟩=some (.int .i64 bB):=(aG jE.out 3).trans rfl;have sY:w9.cell? ⟨rA,4,none⟩=some (.slice bQ aQ.length bP):=(aG jE.out 4).trans rfl;have mW:=aH jE.out 0;have mX:=aH jE.out 1;have sZ:=aH jE.out 2;have tA:=aH jE.out 3;have tB:=aH jE.out 4)|((with_reducible refine bI (f:=22) rfl ?_);refine goesL_ (some 17) rfl rfl Try.func22 (by kernel_rfl) rfl #[.agg #[.slice bC aU.length bK,.slice bM aX.length bO,.int .i64 bA,.int .i64 bB,.slice bQ aQ.length bP],.slice A1 l1.length c1,.slice A2 l2.length c2] rfl (by(try simp only [List.map_toArray,List.map_cons,List.map_nil]);first|done|rfl|(simp only [List.length_drop,List.length_take];rfl)) ?_;(with_reducible refine(machine_Run.calls k _ _ aU _ _ aX bA bB _ _ aQ _ _ l1 _ _ l2 t313 t316 t317 _ ?side1 ?side2 ?side3 ?side4 ?side5 ?side6 ?side7 ?side8 ?side9 ?side10 A4.out).mono ?_);(case side1=>exact gC (bD eS.out HB.out));(case side2=>exact eU.out);(case side3=>exact gC (bD eX.out HB.out));(case side4=>exact eY.out);(case side5=>exact gC (bD dW.out HB.out));(case side6=>exact eZ.out);(case side7=>exact gC (bD HR1.out HB.out));(case side8=>exact HC1.out);(case side9=>exact gC (bD HR2.out HB.out));(case side10=>exact HC2.out);rintro e w11 ⟨v314,rfl,ho0,hb⟩;refine⟨_,rfl,?_⟩;have bY:=aM (bL ho0 (bH (gW HB.out)));have bZ:=aM (bF (gB jE.out) hb);have cA:=aM (bG (gW HB.out) hb);clear jE;clear HB;have Bn:=bY;have jE:=bZ;have HB:=cA;clear bY bZ cA;(try clear hb);(try clear hb2);(try clear hk);(try clear hi);(try clear ho0);have kU:w11.cell? ⟨rA,0,none⟩=some (.slice bC aU.length bK):=(aG jE.out 0).trans rfl;have kV:w11.cell? ⟨rA,1,none⟩=some (.slice bM aX.length bO):=(aG jE.out 1).trans rfl;have Em:w11.cell? ⟨rA,2,none⟩=some (.int .i64 bA):=(aG jE.out 2).trans rfl;have En:w11.cell? ⟨rA,3,none⟩=some (.int .i64 bB):=(aG jE.out 3).trans rfl;have Eo:w11.cell? ⟨rA,4,none⟩=some (.slice bQ aQ.length bP):=(aG jE.out 4).trans rfl;have kW:=aH jE.out 0;have kX:=aH jE.out 1;have Ep:=aH jE.out 2;have Eq:=aH jE.out 3;have Er:=aH jE.out 4)|((with_reducible refine bI (f:=28) rfl ?_);refine goesL_ (some 25) rfl rfl Try.func28 (by kernel_rfl) rfl #[.agg #[.slice bC aU.length bK,.slice bM aX.length bO,.int .i64 bA,.int .i64 bB,.slice bQ aQ.length bP],.slice A1 l1.length c1,.slice A2 l2.length c2] rfl (by(try simp only [List.map_toArray,List.map_cons,List.map_nil]);first|done|rfl|(simp only [List.length_drop,List.length_take];rfl)) ?_;(with_reducible refine(regletref16_Run.calls k _ _ aU _ _ aX bA bB _ _ aQ _ _ l1 _ _ l2 t318 t321 t322 _ ?side1 ?side2 ?side3 ?side4 ?side5 ?side6 ?side7 ?side8 ?side9 ?side10 A5.out).mono ?_);(case side1=>exact gC (bD eS.out HB.out));(case side2=>exact eU.out);(case side3=>exact gC (bD eX.out HB.out));(case side4=>exact eY.out);(case side5=>exact gC (bD dW.out HB.out));(case side6=>exact eZ.out);(case side7=>exact gC (bD HR1.out HB.out));(case side8=>exact HC1.out);(case side9=>exact gC (bD HR2.out HB.out));(case side10=>exact HC2.out);rintro e w13 ⟨v319,rfl,ho0,hb⟩;refine⟨_,rfl,?_⟩;have bY:=aM (bE (gR Bn.out) (Kd.R_base ho0) hb);have bZ:=aM (bL (Kd.R_new' ho0 (Kd.R_lt (gR Bn.out))) (bH (gW HB.out)));have cA:=aM (bF (gB jE.out) hb);have cC:=aM (bG (gW HB.out) hb);clear Bn;clear jE;clear HB;have Bn:=bY;have Oi:=bZ;have jE:=cA;have HB:=cC;clear bY bZ cA cC;(try clear hb);(try clear hb2);(try clear hk);(try clear hi);(try clear ho0);obtain⟨oU,nK,Lx⟩:=Kd.R_slice Bn.out;subst Lx;obtain⟨NW,NX,NY⟩:=Kd.R_slice Oi.out;subst NY)|((with_reducible refine bI (f:=24) rfl ?_);refine goesL_ (some 31) rfl rfl Try.func24 (by kernel_rfl) rfl #[.slice oU t313.length nK,.slice NW t318.length NX] rfl (by(try simp only [List.map_toArray,List.map_cons,List.map_nil]);first|done|rfl|(simp only [List.length_drop,List.length_take];rfl)) ?_;(with_reducible refine(regletref13_SameInts.calls k _ _ t313 _ _ t318 true _ ?side1 ?side2 ?side3 ?side4 A6.out).mono ?_);(case side1=>exact gC (aF Bn.out).2.2);(case side2=>exact(aF Bn.out).2.1);(case side3=>exact gC (aF Oi.out).2.2);(case side4=>exact(aF Oi.out).2.1);rintro e w' ⟨rfl,⟨nd,rfl⟩⟩;refine⟨_,rfl,?_⟩))
  go_ret
  exact⟨by first|rfl|(simp [errW_none,errW_some]<;>rfl)|(simp [*,errW_none,errW_some]<;>rfl),gW HB.out⟩
 ·replace c7:=Bool.eq_false_iff.mpr c7
  subst c7
  have H1:(none)=some r:=by rw [if_neg (show ¬(false=true) by decide)] at H;exact H
  clear H
  have H:=H1
  clear H1
  exact absurd H (by simp)
end Go.Proofs.Ytapjfnfengefpaa.P
end

section
namespace Go.Proofs.Ytapjfnfengefpaa.P
open Go.RowKit Go.Proofs.YtapjfnfengefpaaW.PrintWords Go.Proofs.YtapjfnfengefpaaW.PrintLast Go.Proofs.YtapjfnfengefpaaW.PrintMore
set_option linter.unusedVariables false
set_option linter.unusedSimpArgs false
def mPick (l:List Int) (at_:Nat) (n:Int):Int:=if l.length<at_+1 then 0 else Int.tmod (l.getD at_ 0) n
theorem wrap_u8 {x:Int}(h0:0≤x) (h1:x≤255):IntKind.i64.wrap x=x:=by rw [IntKind.wrap_i64];omega
theorem wrap_tmod {x n:Int}(h0:0≤x) (h1:x≤255):IntKind.i64.wrap (x.tmod n)=x.tmod n:=by
 have h2:0≤x.tmod n:=Int.tmod_nonneg n h0
 have h3:x.tmod n≤x:=by
  obtain⟨a,rfl⟩:=Int.eq_ofNat_of_zero_le h0
  rcases Int.lt_or_le n 0 with hn|hn
  ·obtain⟨b,hb⟩:=Int.eq_ofNat_of_zero_le (show 0≤ -n by omega)
   have:(a:Int).tmod n=(a:Int).tmod b:=by rw [show n= -(b:Int) by omega,Int.tmod_neg]
   rw [this,←Int.ofNat_tmod]
   exact_mod_cast Nat.mod_le a b
  ·obtain⟨b,rfl⟩:=Int.eq_ofNat_of_zero_le hn
   rw [←Int.ofNat_tmod]
   exact_mod_cast Nat.mod_le a b
 rw [IntKind.wrap_i64];omega
set_option maxHeartbeats 1000000 in
theorem pick_any (l:List Int) (A0:Option Addr) (c0 at_:Nat) (n:Int) (LB AB:Nat) (W:World) (hne:LB≠AB) (hl:W.cell? ⟨LB,0,none⟩=some (.slice A0 l.length c0)) (hab:W.heap[AB]?=some (.cells #[.int .i64 (at_:Int)] 3 (0,0)))
 (hr:∀W',Kept W W' (fun k=>k=AB)→Kd.C (Kd.int .u8) W' A0 l.length l) (hn:n≠0) (hat:at_<1000000) (hu:∀x∈l,0≤x∧x≤255):
 Calls Try.prog 29 #[.int .i64 n,.pointer (some ⟨AB,0,none⟩),.pointer (some ⟨LB,0,none⟩)] W fun e w'=>e= .returned (.int .i64 (mPick l at_ n))∧Aside0 (Kept W w' (fun k=>k=AB))∧Aside0 (w'.heap[AB]?=some (.cells #[.int .i64 ((at_+1:Nat):Int)] 3 (0,0)))∧Aside0 (Below AB W w'):=by
 have ha:W.cell? ⟨AB,0,none⟩=some (.int .i64 (at_:Int)):=(aG hab 0).trans rfl
 have hf:=aH hab 0
 have HA3:=aM (blk_put hab 0 (.int .i64 ((at_:Int)+1)) (cs':=#[.int .i64 ((at_+1:Nat):Int)]) rfl)
 have hK:=Kept.setCell (Kept.refl W (fun k=>k=AB)) (p:=⟨AB,0,none⟩) (.inl rfl) (.int .i64 ((at_:Int)+1))
 have hw1:IntKind.i64.wrap ((at_:Int)+1)=(at_:Int)+1:=by rw [IntKind.wrap_i64];omega
 have hw2:IntKind.i64.wrap ((at_:Int)+1 - 1)=(at_:Int):=by rw [IntKind.wrap_i64];omega
 have hl2:(W.setCell ⟨AB,0,none⟩ (.int .i64 ((at_:Int)+1))).cell? ⟨LB,0,none⟩=some (.slice A0 l.length c0):=Go.Proofs.YtapjfnfengefpaaW.PrintWords.cell_kept hl hK hne
 have ha2:(W.setCell ⟨AB,0,none⟩ (.int .i64 ((at_:Int)+1))).cell? ⟨AB,0,none⟩=some (.int .i64 ((at_:Int)+1)):=World.cell?_setCell_same' _ _ _ (by rw [ha];rfl)
 have HB:Aside0 (Below AB W (W.setCell ⟨AB,0,none⟩ (.int .i64 ((at_:Int)+1)))):=⟨(Below.refl AB W).setCell (Nat.le_refl _) _⟩
 have HK:=aM hK
 have HU:=aM hu
 have HR:=aM hr
 clear hK hu hr hab
 by_cases hlt:l.length<at_+1
 ·have e:mPick l at_ n=0:=if_pos hlt
  rw [e]
  have d0:decide ((at_:Int)+1>(l.length:Int))=true:=decide_eq_true (by omega)
  clear hlt e
  go_enter Try.func29,Try.ntmps29
  go_wp2
  go_ret
  exact⟨rfl,HK,HA3,HB⟩
 ·have e:mPick l at_ n=Int.tmod (l.getD at_ 0) n:=if_neg hlt
  rw [e]
  have d0:decide ((at_:Int)+1>(l.length:Int))=false:=decide_eq_false (by omega)
  obtain⟨ad,ead,hc⟩:=Kd.at_int (HR.out _ HK.out) (at_:Int) (by omega) (by omega)
  cases ead
  have p0:(0≤(at_:Int))=True:=eq_true (by omega)
  have p1:((at_:Int)<(l.length:Int))=True:=eq_true (by omega)
  have hx:=HU.out (l.getD at_ 0) (by rw [List.getD_eq_getElem?_getD,List.getElem?_eq_getElem (by omega)];exact List.getElem_mem _)
  have hx0:rd l (at_:Int)=l.getD at_ 0:=rfl
  rw [hx0] at hc
  generalize l.getD at_ 0=x at hc hx
  have hw3:=wrap_u8 hx.1 hx.2
  have hw4:=wrap_tmod (n:=n) hx.1 hx.2
  rw [Int.toNat_natCast] at hc
  clear hx hx0 hlt e
  go_enter Try.func29,Try.ntmps29
  go_wp2
  go_ret
  exact⟨rfl,HK,HA3,HB⟩
theorem mPick_lt {l:List Int}(hu:∀x∈l,0≤x∧x≤255) (at_:Nat) {n:Int}(hn:0<n):0≤mPick l at_ n∧mPick l at_ n<n:=by
 unfold mPick
 split
 ·omega
 ·have hx:=hu (l.getD at_ 0) (by rw [List.getD_eq_getElem?_getD,List.getElem?_eq_getElem (by omega)];exact List.getElem_mem _)
  exact⟨Int.tmod_nonneg n hx.1,Int.tmod_lt_of_pos _ hn⟩
def mRight (l:List Int) (n t:Int):Nat→Nat→List S43→List S43×Nat
 |0,at_,acc=>(acc,at_)
 |c+1,at_,acc=>mRight l n t c (at_+2) (acc++ [if mPick l at_ 2=0 then⟨true,mPick l (at_+1) t⟩ else⟨false,mPick l (at_+1) n⟩])
def mProds (l:List Int) (n t:Int):Nat→Nat→List S35→List S35
 |0,_,acc=>acc
 |i+1,at_,acc=>mProds l n t i (mRight l n t (mPick l (at_+1) 4).toNat (at_+2) []).2 (acc++ [⟨mPick l at_ n,(mRight l n t (mPick l (at_+1) 4).toNat (at_+2) []).1⟩])
def mNames:List ByteArray:= [⟨#[97]⟩,⟨#[98]⟩,⟨#[99]⟩,⟨#[100]⟩,⟨#[101]⟩]
def mTexts:List ByteArray:= [⟨#[120]⟩,⟨#[121]⟩,⟨#[122]⟩,⟨#[119]⟩]
def mTok (s:ByteArray):S72:=⟨⟨#[]⟩,⟨5,s,[],0,0,[]⟩⟩
def regletlaw13_Made.f (k:Nat) (l:List Int):Option (List ByteArray×List S72×Int×Int×List S35):=
 if l.all (fun x=>decide (0≤x∧x≤255))=true then some (mNames.take (1+mPick l 0 5).toNat,(mTexts.map mTok).take (1+mPick l 1 4).toNat,0,0,mProds l (1+mPick l 0 5) (1+mPick l 1 4) (1+mPick l 2 10).toNat 3 []) else none
structure MadeI (w:World) (A0:Option Addr) (n0 c0:Nat) (at_:Nat) (vn vt vp:Value) (W:World):Prop where
 bel:Below w.heap.size w W
 l:W.heap[w.heap.size]?=some (.cells #[.slice A0 n0 c0] 39 (0,0))
 r:W.heap[w.heap.size+1]?=some (.cells #[.slice none 0 0,.slice none 0 0,.int .i64 0,.int .i64 0,.slice none 0 0] 26 (0,0))
 s:W.heap[w.heap.size+2]?=some (.cells #[vn,vt,.int .i64 0,.int .i64 0,vp] 26 (0,0))
 a:W.heap[w.heap.size+3]?=some (.cells #[.int .i64 (at_:Int)] 3 (0,0))
theorem MadeI.pick {w W W':World}{A0:Option Addr}{n0 c0 at_:Nat}{vn vt vp:Value}(h:MadeI w A0 n0 c0 at_ vn vt vp W) (hk:Kept W W' (fun k=>k=w.heap.size+3)) (ha:W'.heap[w.heap.size+3]?=some (.cells #[.int .i64 ((at_+1:Nat):Int)] 3 (0,0))) (hb:Below (w.heap.size+3) W W'):MadeI w A0 n0 c0 (at_+1) vn vt vp W':=
 ⟨h.bel.trans (hb.mono (by omega)),blk_kept h.l hk (by simp),blk_kept h.r hk (by simp),blk_kept h.s hk (by simp),ha⟩
theorem MadeI.calls {w W:World}{A0:Option Addr}{l:List Int}{c0 at_:Nat}{vn vt vp:Value}(h:MadeI w A0 l.length c0 at_ vn vt vp W) (hr:Kd.C (Kd.int .u8) w A0 l.length l) (n:Int) (hn:n≠0) (hat:at_<1000000) (hu:∀x∈l,0≤x∧x≤255):
 Calls Try.prog 29 #[.int .i64 n,.pointer (some ⟨w.heap.size+3,0,none⟩),.pointer (some ⟨w.heap.size,0,none⟩)] W fun e w'=>e= .returned (.int .i64 (mPick l at_ n))∧Aside0 (MadeI w A0 l.length c0 (at_+1) vn vt vp w')∧Aside0 (Kept W w' (fun k=>k=w.heap.size+3)):=by
 refine(pick_any l A0 c0 at_ n w.heap.size (w.heap.size+3) W (by omega) ((aG h.l 0).trans rfl) h.a (fun W' hk=>?_) hn hat hu).mono ?_
 ·refine Kd.C_kept_came (Kd.heap_int _) hr h.bel (S:=fun k=>k=w.heap.size+3) (fun k hk=>by omega) W' hk
 ·rintro e w' ⟨rfl,hk,ha,hb⟩
  exact⟨rfl,⟨h.pick hk.out ha.out hb.out⟩,hk⟩
end Go.Proofs.Ytapjfnfengefpaa.P
end
