/- Packed texts of this claim: the walks of the functions, and their plain laws; see the claim's last text. -/
import Derived.Test.YtapjfnfengefpaaKMachineEnds6
section
namespace Go.Proofs.Ytapjfnfengefpaa.P
open Go.RowKit Go.Proofs.YtapjfnfengefpaaW.PrintWords Go.Proofs.YtapjfnfengefpaaW.PrintLast Go.Proofs.YtapjfnfengefpaaW.PrintMore
attribute [local go_sem] max2_int min2_int max_two min_two max_three min_three max_four min_four   -- for this text's walks alone
set_option linter.unusedVariables false
set_option linter.unusedSimpArgs false
def regletlaw16_awake.f (k:Nat)  :Option (Bool):=(some (([(⟨#[97]⟩:ByteArray)]:List ByteArray):List ByteArray)).bind fun y145=>(if 1≤2706490160679 then((some (List.replicate 1 z72:List (S72))).bind fun y148=>((some (([(⟨0,(([(⟨true,0⟩:S43),(⟨false,0⟩:S43)]:List (S43)))⟩:S35),(⟨0,([]:List (S43))⟩:S35)]:List (S35)):List (S35))).bind fun y154=>((some (([(([0,1]:List Int))]:List (List Int)):List (List Int))).bind fun y161=>((machine_Run.f k y145 y148 0 0 y154 y161 (([0,0]:List Int))).bind fun bt167=>((machine_Start.f).bind fun bt172=>((machine_Feed.f y145 y148 0 0 y154 y161 bt172.1 bt172.2 0).bind fun bt176=>((machine_Run.f k y145 y148 0 0 y154 y161 (([1]:List Int))).bind fun bt188=>(if bt167.2.1=0 then((regletref13_SameInts.f k bt167.1 (([0,0,1]:List Int))).bind fun t196=>(if t196=true then(if bt176.2.2.2=0 then((regletref13_SameInts.f k bt176.2.2.1 (([0]:List Int))).bind fun t200=>(if t200=true then((machine_Start.f).bind fun bt201=>((regletref16_Same.f k bt176.1 bt176.2.1 bt201.1 bt201.2).bind fun t205=>(if t205=true then(if bt188.2.1=1 then(if bt188.2.2=0 then((machine_Right.f y145 y148 0 0 y154 y161).bind fun t206=>(if t206=true then((machine_Right.f y145 y148 0 0 y154 ([]:List (List Int))).bind fun t207=>(some (!t207))) else(none))) else(none)) else(none)) else(none)))) else(none))) else(none)) else(none))) else(none))))))))) else(none))
theorem regletlaw16_awake.mono:∀k,LeO (regletlaw16_awake.f k) (regletlaw16_awake.f (k+1)):=by
 intro  k
 unfold regletlaw16_awake.f
 repeat' first
  |(with_reducible exact machine_Run.mono _ _ _ _ _ _ _ _)
  |(with_reducible exact regletref13_SameInts.mono _ _ _)
  |(with_reducible exact regletref16_Same.mono _ _ _ _ _)
  |(with_reducible exact LeO.refl _)
  |(with_reducible exact LeO.none _)
  |(with_reducible refine LeO.ite ?_ ?_)
  |(with_reducible refine LeO.bind ?_ (fun _=>?_))
  |exact machine_Run.mono _ _ _ _ _ _ _ _
  |exact regletref13_SameInts.mono _ _ _
  |exact regletref16_Same.mono _ _ _ _ _
  |exact LeO.none _
  |refine LeO.ite ?_ ?_
  |refine LeO.bind ?_ (fun _=>?_)
def regletlaw16_awake.T4:Bool×List (List Nat×List Nat):=(true,[([],[]),([],[]),([],[]),([0,1,2,2],[0,1,2]),([3],[3]),([4],[4]),([4],[4]),([4],[4]),([],[]),([8,5,3,0,1,2,3,4,5,8],[5,8]),([6,9,0,1,2,3,4,5,6,8,9],[6]),([7,10,0,1,2,3,4,5,6,7,8,9,10],[7])])
def regletlaw16_awake.B4:List Nat:= [0,0,0,7,15,31,31,31,0,319,895,2047]
theorem regletlaw16_awake.tab4:rtab .any (opsOf Try.f10 4)=regletlaw16_awake.T4:=by kernel_rfl
theorem regletlaw16_awake.bits4:waitsOk regletlaw16_awake.T4.2 regletlaw16_awake.B4=true:=by kernel_rfl
def regletlaw16_awake.T6:Bool×List (List Nat×List Nat):=(true,[([],[]),([0],[0]),([1],[1]),([2],[2]),([2],[2]),([3,4,2,2],[2,3,4]),([2,5],[2,5]),([6,5],[6]),([7],[7]),([8,7],[7,8]),([7,9],[7,9]),([10,7],[10]),([11],[11]),([11],[11]),([12,13,11,11],[11,12,13]),([11,14],[11,14]),([15,14],[15]),([16],[16]),([16,16],[16]),([17,18,18,16],[16,17,18]),([16,19],[16,19]),([20,19],[20]),([21],[21]),([22,21],[21,22]),([21,23],[21,23]),([24,21],[24]),([25],[25]),([26,25],[25,26]),([25,27],[25,27]),([28,25],[28]),([29],[29]),([29],[29]),([30,31,29,29],[29,30,31]),([29,32],[29,32]),([33,32],[33]),([34],[34]),([35,34,34],[34,35]),([36,34],[34,36]),([34,37],[34,37]),([38,36,0,1,2,3,4,5,6,7,8,9,10,11,12,13,14,15,16,17,18,19,20,21,22,23,24,25,26,27,28,29,30,31,32,33,34,35,36,37,38],[38])])
def regletlaw16_awake.B6:List Nat:= [0,1,3,7,7,31,63,127,255,511,1023,2047,4095,4095,16383,32767,65535,131071,131071,524287,1048575,2097151,4194303,8388607,16777215,33554431,67108863,134217727,268435455,536870911,1073741823,1073741823,4294967295,8589934591,17179869183,34359738367,68719476735,137438953471,274877906943,549755813887]
theorem regletlaw16_awake.tab6:rtab .any (opsOf Try.f10 6)=regletlaw16_awake.T6:=by kernel_rfl
theorem regletlaw16_awake.bits6:waitsOk regletlaw16_awake.T6.2 regletlaw16_awake.B6=true:=by kernel_rfl
set_option maxHeartbeats 8000000 in
set_option maxRecDepth 100000 in
theorem regletlaw16_awake.calls (k:Nat)  (r:Bool) (w:World) (h:regletlaw16_awake.f k  =some r):
 Calls Try.prog 10 #[] w fun e w'=>e= .returned (.bool r)∧Below w.heap.size w w':=by
 have hu43:=Try.underlying43
 have hu35:=Try.underlying35
 have hu26:=Try.underlying26
 have hu31:=Try.underlying31
 have HB:=aM (Below.refl w.heap.size w)
 have H:((some (([(⟨#[97]⟩:ByteArray)]:List ByteArray):List ByteArray)).bind fun y145=>(if 1≤2706490160679 then((some (List.replicate 1 z72:List (S72))).bind fun y148=>((some (([(⟨0,(([(⟨true,0⟩:S43),(⟨false,0⟩:S43)]:List (S43)))⟩:S35),(⟨0,([]:List (S43))⟩:S35)]:List (S35)):List (S35))).bind fun y154=>((some (([(([0,1]:List Int))]:List (List Int)):List (List Int))).bind fun y161=>((machine_Run.f k y145 y148 0 0 y154 y161 (([0,0]:List Int))).bind fun bt167=>((machine_Start.f).bind fun bt172=>((machine_Feed.f y145 y148 0 0 y154 y161 bt172.1 bt172.2 0).bind fun bt176=>((machine_Run.f k y145 y148 0 0 y154 y161 (([1]:List Int))).bind fun bt188=>(if bt167.2.1=0 then((regletref13_SameInts.f k bt167.1 (([0,0,1]:List Int))).bind fun t196=>(if t196=true then(if bt176.2.2.2=0 then((regletref13_SameInts.f k bt176.2.2.1 (([0]:List Int))).bind fun t200=>(if t200=true then((machine_Start.f).bind fun bt201=>((regletref16_Same.f k bt176.1 bt176.2.1 bt201.1 bt201.2).bind fun t205=>(if t205=true then(if bt188.2.1=1 then(if bt188.2.2=0 then((machine_Right.f y145 y148 0 0 y154 y161).bind fun t206=>(if t206=true then((machine_Right.f y145 y148 0 0 y154 ([]:List (List Int))).bind fun t207=>(some (!t207))) else(none))) else(none)) else(none)) else(none)))) else(none))) else(none)) else(none))) else(none))))))))) else(none)))=some r:=h
 clear h
 obtain⟨y145,hy145⟩:∃y_:List ByteArray,y_=(([(⟨#[97]⟩:ByteArray)]:List ByteArray)):=⟨_,rfl⟩
 replace H:(if 1≤2706490160679 then((some (List.replicate 1 z72:List (S72))).bind fun y148=>((some (([(⟨0,(([(⟨true,0⟩:S43),(⟨false,0⟩:S43)]:List (S43)))⟩:S35),(⟨0,([]:List (S43))⟩:S35)]:List (S35)):List (S35))).bind fun y154=>((some (([(([0,1]:List Int))]:List (List Int)):List (List Int))).bind fun y161=>((machine_Run.f k y145 y148 0 0 y154 y161 (([0,0]:List Int))).bind fun bt167=>((machine_Start.f).bind fun bt172=>((machine_Feed.f y145 y148 0 0 y154 y161 bt172.1 bt172.2 0).bind fun bt176=>((machine_Run.f k y145 y148 0 0 y154 y161 (([1]:List Int))).bind fun bt188=>(if bt167.2.1=0 then((regletref13_SameInts.f k bt167.1 (([0,0,1]:List Int))).bind fun t196=>(if t196=true then(if bt176.2.2.2=0 then((regletref13_SameInts.f k bt176.2.2.1 (([0]:List Int))).bind fun t200=>(if t200=true then((machine_Start.f).bind fun bt201=>((regletref16_Same.f k bt176.1 bt176.2.1 bt201.1 bt201.2).bind fun t205=>(if t205=true then(if bt188.2.1=1 then(if bt188.2.2=0 then((machine_Right.f y145 y148 0 0 y154 y161).bind fun t206=>(if t206=true then((machine_Right.f y145 y148 0 0 y154 ([]:List (List Int))).bind fun t207=>(some (!t207))) else(none))) else(none)) else(none)) else(none)))) else(none))) else(none)) else(none))) else(none))))))))) else(none))=some r:=by first|(rw [hy145];with_reducible exact H)|(have H2_:=(Option.bind_some _ _).symm.trans H;rw [hy145];with_reducible exact H2_)|(have H2_:=(Option.bind_some _ _).symm.trans H;with_reducible exact H2_)|with_reducible exact H|(rw [hy145];exact H)|exact H
 have Ny145:=aM hy145
 clear hy145
 by_cases c1:1≤2706490160679
 rotate_left
 ·rw [if_neg c1] at H
  exact absurd H (by simp)
 rw [if_pos c1] at H
 have c1b0:=eq_true c1
 have c1b1:decide (1≤2706490160679)=true:=decide_eq_true c1
 clear c1
 obtain⟨y148,hy148⟩:∃y_:List (S72),y_=(List.replicate 1 z72):=⟨_,rfl⟩
 replace H:((some (([(⟨0,(([(⟨true,0⟩:S43),(⟨false,0⟩:S43)]:List (S43)))⟩:S35),(⟨0,([]:List (S43))⟩:S35)]:List (S35)):List (S35))).bind fun y154=>((some (([(([0,1]:List Int))]:List (List Int)):List (List Int))).bind fun y161=>((machine_Run.f k y145 y148 0 0 y154 y161 (([0,0]:List Int))).bind fun bt167=>((machine_Start.f).bind fun bt172=>((machine_Feed.f y145 y148 0 0 y154 y161 bt172.1 bt172.2 0).bind fun bt176=>((machine_Run.f k y145 y148 0 0 y154 y161 (([1]:List Int))).bind fun bt188=>(if bt167.2.1=0 then((regletref13_SameInts.f k bt167.1 (([0,0,1]:List Int))).bind fun t196=>(if t196=true then(if bt176.2.2.2=0 then((regletref13_SameInts.f k bt176.2.2.1 (([0]:List Int))).bind fun t200=>(if t200=true then((machine_Start.f).bind fun bt201=>((regletref16_Same.f k bt176.1 bt176.2.1 bt201.1 bt201.2).bind fun t205=>(if t205=true then(if bt188.2.1=1 then(if bt188.2.2=0 then((machine_Right.f y145 y148 0 0 y154 y161).bind fun t206=>(if t206=true then((machine_Right.f y145 y148 0 0 y154 ([]:List (List Int))).bind fun t207=>(some (!t207))) else(none))) else(none)) else(none)) else(none)))) else(none))) else(none)) else(none))) else(none))))))))=some r:=by first|(rw [hy148];with_reducible exact H)|(have H2_:=(Option.bind_some _ _).symm.trans H;rw [hy148];with_reducible exact H2_)|(have H2_:=(Option.bind_some _ _).symm.trans H;with_reducible exact H2_)|with_reducible exact H|(rw [hy148];exact H)|exact H
 have Ny148:=aM hy148
 clear hy148
 obtain⟨y151,hy151⟩:∃y_:List (S43),y_=(([(⟨true,0⟩:S43),(⟨false,0⟩:S43)]:List (S43))):=⟨_,rfl⟩
 replace H:((some (([(⟨0,y151⟩:S35),(⟨0,([]:List (S43))⟩:S35)]:List (S35)):List (S35))).bind fun y154=>((some (([(([0,1]:List Int))]:List (List Int)):List (List Int))).bind fun y161=>((machine_Run.f k y145 y148 0 0 y154 y161 (([0,0]:List Int))).bind fun bt167=>((machine_Start.f).bind fun bt172=>((machine_Feed.f y145 y148 0 0 y154 y161 bt172.1 bt172.2 0).bind fun bt176=>((machine_Run.f k y145 y148 0 0 y154 y161 (([1]:List Int))).bind fun bt188=>(if bt167.2.1=0 then((regletref13_SameInts.f k bt167.1 (([0,0,1]:List Int))).bind fun t196=>(if t196=true then(if bt176.2.2.2=0 then((regletref13_SameInts.f k bt176.2.2.1 (([0]:List Int))).bind fun t200=>(if t200=true then((machine_Start.f).bind fun bt201=>((regletref16_Same.f k bt176.1 bt176.2.1 bt201.1 bt201.2).bind fun t205=>(if t205=true then(if bt188.2.1=1 then(if bt188.2.2=0 then((machine_Right.f y145 y148 0 0 y154 y161).bind fun t206=>(if t206=true then((machine_Right.f y145 y148 0 0 y154 ([]:List (List Int))).bind fun t207=>(some (!t207))) else(none))) else(none)) else(none)) else(none)))) else(none))) else(none)) else(none))) else(none))))))))=some r:=by first|(rw [hy151];with_reducible exact H)|(have H2_:=(Option.bind_some _ _).symm.trans H;rw [hy151];with_reducible exact H2_)|(have H2_:=(Option.bind_some _ _).symm.trans H;with_reducible exact H2_)|with_reducible exact H|(rw [hy151];exact H)|exact H
 have Ny151:=aM hy151
 clear hy151
 obtain⟨y154,hy154⟩:∃y_:List (S35),y_=(([(⟨0,y151⟩:S35),(⟨0,([]:List (S43))⟩:S35)]:List (S35))):=⟨_,rfl⟩
 replace H:((some (([(([0,1]:List Int))]:List (List Int)):List (List Int))).bind fun y161=>((machine_Run.f k y145 y148 0 0 y154 y161 (([0,0]:List Int))).bind fun bt167=>((machine_Start.f).bind fun bt172=>((machine_Feed.f y145 y148 0 0 y154 y161 bt172.1 bt172.2 0).bind fun bt176=>((machine_Run.f k y145 y148 0 0 y154 y161 (([1]:List Int))).bind fun bt188=>(if bt167.2.1=0 then((regletref13_SameInts.f k bt167.1 (([0,0,1]:List Int))).bind fun t196=>(if t196=true then(if bt176.2.2.2=0 then((regletref13_SameInts.f k bt176.2.2.1 (([0]:List Int))).bind fun t200=>(if t200=true then((machine_Start.f).bind fun bt201=>((regletref16_Same.f k bt176.1 bt176.2.1 bt201.1 bt201.2).bind fun t205=>(if t205=true then(if bt188.2.1=1 then(if bt188.2.2=0 then((machine_Right.f y145 y148 0 0 y154 y161).bind fun t206=>(if t206=true then((machine_Right.f y145 y148 0 0 y154 ([]:List (List Int))).bind fun t207=>(some (!t207))) else(none))) else(none)) else(none)) else(none)))) else(none))) else(none)) else(none))) else(none)))))))=some r:=by first|(rw [hy154];with_reducible exact H)|(have H2_:=(Option.bind_some _ _).symm.trans H;rw [hy154];with_reducible exact H2_)|(have H2_:=(Option.bind_some _ _).symm.trans H;with_reducible exact H2_)|with_reducible exact H|(rw [hy154];exact H)|exact H
 have Ny154:=aM hy154
 clear hy154
 obtain⟨y158,hy158⟩:∃y_:List Int,y_=(([0,1]:List Int)):=⟨_,rfl⟩
 replace H:((some (([y158]:List (List Int)):List (List Int))).bind fun y161=>((machine_Run.f k y145 y148 0 0 y154 y161 (([0,0]:List Int))).bind fun bt167=>((machine_Start.f).bind fun bt172=>((machine_Feed.f y145 y148 0 0 y154 y161 bt172.1 bt172.2 0).bind fun bt176=>((machine_Run.f k y145 y148 0 0 y154 y161 (([1]:List Int))).bind fun bt188=>(if bt167.2.1=0 then((regletref13_SameInts.f k bt167.1 (([0,0,1]:List Int))).bind fun t196=>(if t196=true then(if bt176.2.2.2=0 then((regletref13_SameInts.f k bt176.2.2.1 (([0]:List Int))).bind fun t200=>(if t200=true then((machine_Start.f).bind fun bt201=>((regletref16_Same.f k bt176.1 bt176.2.1 bt201.1 bt201.2).bind fun t205=>(if t205=true then(if bt188.2.1=1 then(if bt188.2.2=0 then((machine_Right.f y145 y148 0 0 y154 y161).bind fun t206=>(if t206=true then((machine_Right.f y145 y148 0 0 y154 ([]:List (List Int))).bind fun t207=>(some (!t207))) else(none))) else(none)) else(none)) else(none)))) else(none))) else(none)) else(none))) else(none)))))))=some r:=by first|(rw [hy158];with_reducible exact H)|(have H2_:=(Option.bind_some _ _).symm.trans H;rw [hy158];with_reducible exact H2_)|(have H2_:=(Option.bind_some _ _).symm.trans H;with_reducible exact H2_)|with_reducible exact H|(rw [hy158];exact H)|exact H
 have Ny158:=aM hy158
 clear hy158
 obtain⟨y161,hy161⟩:∃y_:List (List Int),y_=(([y158]:List (List Int))):=⟨_,rfl⟩
 replace H:((machine_Run.f k y145 y148 0 0 y154 y161 (([0,0]:List Int))).bind fun bt167=>((machine_Start.f).bind fun bt172=>((machine_Feed.f y145 y148 0 0 y154 y161 bt172.1 bt172.2 0).bind fun bt176=>((machine_Run.f k y145 y148 0 0 y154 y161 (([1]:List Int))).bind fun bt188=>(if bt167.2.1=0 then((regletref13_SameInts.f k bt167.1 (([0,0,1]:List Int))).bind fun t196=>(if t196=true then(if bt176.2.2.2=0 then((regletref13_SameInts.f k bt176.2.2.1 (([0]:List Int))).bind fun t200=>(if t200=true then((machine_Start.f).bind fun bt201=>((regletref16_Same.f k bt176.1 bt176.2.1 bt201.1 bt201.2).bind fun t205=>(if t205=true then(if bt188.2.1=1 then(if bt188.2.2=0 then((machine_Right.f y145 y148 0 0 y154 y161).bind fun t206=>(if t206=true then((machine_Right.f y145 y148 0 0 y154 ([]:List (List Int))).bind fun t207=>(some (!t207))) else(none))) else(none)) else(none)) else(none)))) else(none))) else(none)) else(none))) else(none))))))=some r:=by first|(rw [hy161];with_reducible exact H)|(have H2_:=(Option.bind_some _ _).symm.trans H;rw [hy161];with_reducible exact H2_)|(have H2_:=(Option.bind_some _ _).symm.trans H;with_reducible exact H2_)|with_reducible exact H|(rw [hy161];exact H)|exact H
 have Ny161:=aM hy161
 clear hy161
 obtain⟨y164,hy164⟩:∃y_:List Int,y_=(([0,0]:List Int)):=⟨_,rfl⟩
 replace H:((machine_Run.f k y145 y148 0 0 y154 y161 y164).bind fun bt167=>((machine_Start.f).bind fun bt172=>((machine_Feed.f y145 y148 0 0 y154 y161 bt172.1 bt172.2 0).bind fun bt176=>((machine_Run.f k y145 y148 0 0 y154 y161 (([1]:List Int))).bind fun bt188=>(if bt167.2.1=0 then((regletref13_SameInts.f k bt167.1 (([0,0,1]:List Int))).bind fun t196=>(if t196=true then(if bt176.2.2.2=0 then((regletref13_SameInts.f k bt176.2.2.1 (([0]:List Int))).bind fun t200=>(if t200=true then((machine_Start.f).bind fun bt201=>((regletref16_Same.f k bt176.1 bt176.2.1 bt201.1 bt201.2).bind fun t205=>(if t205=true then(if bt188.2.1=1 then(if bt188.2.2=0 then((machine_Right.f y145 y148 0 0 y154 y161).bind fun t206=>(if t206=true then((machine_Right.f y145 y148 0 0 y154 ([]:List (List Int))).bind fun t207=>(some (!t207))) else(none))) else(none)) else(none)) else(none)))) else(none))) else(none)) else(none))) else(none))))))=some r:=by first|(rw [hy164];with_reducible exact H)|(have H2_:=(Option.bind_some _ _).symm.trans H;rw [hy164];with_reducible exact H2_)|(have H2_:=(Option.bind_some _ _).symm.trans H;with_reducible exact H2_)|with_reducible exact H|(rw [hy164];exact H)|exact H
 have Ny164:=aM hy164
 clear hy164
 replace H:=Option.bind_eq_some_iff.mp H
 obtain⟨⟨t167,t170,t171⟩,A20,H⟩:=H
 replace H:((machine_Start.f).bind fun bt172=>((machine_Feed.f y145 y148 0 0 y154 y161 bt172.1 bt172.2 0).bind fun bt176=>((machine_Run.f k y145 y148 0 0 y154 y161 (([1]:List Int))).bind fun bt188=>(if t170=0 then((regletref13_SameInts.f k t167 (([0,0,1]:List Int))).bind fun t196=>(if t196=true then(if bt176.2.2.2=0 then((regletref13_SameInts.f k bt176.2.2.1 (([0]:List Int))).bind fun t200=>(if t200=true then((machine_Start.f).bind fun bt201=>((regletref16_Same.f k bt176.1 bt176.2.1 bt201.1 bt201.2).bind fun t205=>(if t205=true then(if bt188.2.1=1 then(if bt188.2.2=0 then((machine_Right.f y145 y148 0 0 y154 y161).bind fun t206=>(if t206=true then((machine_Right.f y145 y148 0 0 y154 ([]:List (List Int))).bind fun t207=>(some (!t207))) else(none))) else(none)) else(none)) else(none)))) else(none))) else(none)) else(none))) else(none)))))=some r:=H
 have A2:=aM A20
 clear A20
 replace H:=Option.bind_eq_some_iff.mp H
 obtain⟨⟨t172,t175⟩,A30,H⟩:=H
 replace H:((machine_Feed.f y145 y148 0 0 y154 y161 t172 t175 0).bind fun bt176=>((machine_Run.f k y145 y148 0 0 y154 y161 (([1]:List Int))).bind fun bt188=>(if t170=0 then((regletref13_SameInts.f k t167 (([0,0,1]:List Int))).bind fun t196=>(if t196=true then(if bt176.2.2.2=0 then((regletref13_SameInts.f k bt176.2.2.1 (([0]:List Int))).bind fun t200=>(if t200=true then((machine_Start.f).bind fun bt201=>((regletref16_Same.f k bt176.1 bt176.2.1 bt201.1 bt201.2).bind fun t205=>(if t205=true then(if bt188.2.1=1 then(if bt188.2.2=0 then((machine_Right.f y145 y148 0 0 y154 y161).bind fun t206=>(if t206=true then((machine_Right.f y145 y148 0 0 y154 ([]:List (List Int))).bind fun t207=>(some (!t207))) else(none))) else(none)) else(none)) else(none)))) else(none))) else(none)) else(none))) else(none))))=some r:=H
 have A3:=aM A30
 clear A30
 replace H:=Option.bind_eq_some_iff.mp H
 obtain⟨⟨t176,t179,t180,t183⟩,A40,H⟩:=H
 replace H:((machine_Run.f k y145 y148 0 0 y154 y161 (([1]:List Int))).bind fun bt188=>(if t170=0 then((regletref13_SameInts.f k t167 (([0,0,1]:List Int))).bind fun t196=>(if t196=true then(if t183=0 then((regletref13_SameInts.f k t180 (([0]:List Int))).bind fun t200=>(if t200=true then((machine_Start.f).bind fun bt201=>((regletref16_Same.f k t176 t179 bt201.1 bt201.2).bind fun t205=>(if t205=true then(if bt188.2.1=1 then(if bt188.2.2=0 then((machine_Right.f y145 y148 0 0 y154 y161).bind fun t206=>(if t206=true then((machine_Right.f y145 y148 0 0 y154 ([]:List (List Int))).bind fun t207=>(some (!t207))) else(none))) else(none)) else(none)) else(none)))) else(none))) else(none)) else(none))) else(none)))=some r:=H
 have A4:=aM A40
 clear A40
 obtain⟨y185,hy185⟩:∃y_:List Int,y_=(([1]:List Int)):=⟨_,rfl⟩
 replace H:((machine_Run.f k y145 y148 0 0 y154 y161 y185).bind fun bt188=>(if t170=0 then((regletref13_SameInts.f k t167 (([0,0,1]:List Int))).bind fun t196=>(if t196=true then(if t183=0 then((regletref13_SameInts.f k t180 (([0]:List Int))).bind fun t200=>(if t200=true then((machine_Start.f).bind fun bt201=>((regletref16_Same.f k t176 t179 bt201.1 bt201.2).bind fun t205=>(if t205=true then(if bt188.2.1=1 then(if bt188.2.2=0 then((machine_Right.f y145 y148 0 0 y154 y161).bind fun t206=>(if t206=true then((machine_Right.f y145 y148 0 0 y154 ([]:List (List Int))).bind fun t207=>(some (!t207))) else(none))) else(none)) else(none)) else(none)))) else(none))) else(none)) else(none))) else(none)))=some r:=by first|(rw [hy185];with_reducible exact H)|(have H2_:=(Option.bind_some _ _).symm.trans H;rw [hy185];with_reducible exact H2_)|(have H2_:=(Option.bind_some _ _).symm.trans H;with_reducible exact H2_)|with_reducible exact H|(rw [hy185];exact H)|exact H
 have Ny185:=aM hy185
 clear hy185
 replace H:=Option.bind_eq_some_iff.mp H
 obtain⟨⟨t188,t191,t192⟩,A50,H⟩:=H
 replace H:(if t170=0 then((regletref13_SameInts.f k t167 (([0,0,1]:List Int))).bind fun t196=>(if t196=true then(if t183=0 then((regletref13_SameInts.f k t180 (([0]:List Int))).bind fun t200=>(if t200=true then((machine_Start.f).bind fun bt201=>((regletref16_Same.f k t176 t179 bt201.1 bt201.2).bind fun t205=>(if t205=true then(if t191=1 then(if t192=0 then((machine_Right.f y145 y148 0 0 y154 y161).bind fun t206=>(if t206=true then((machine_Right.f y145 y148 0 0 y154 ([]:List (List Int))).bind fun t207=>(some (!t207))) else(none))) else(none)) else(none)) else(none)))) else(none))) else(none)) else(none))) else(none))=some r:=H
 have A5:=aM A50
 clear A50
 by_cases c6:t170=0
 rotate_left
 ·rw [if_neg c6] at H
  exact absurd H (by simp)
 rw [if_pos c6] at H
 have c6b0:(t170==0)=true:=beq_iff_eq.mpr c6
 have c6b1:(t170 !=0)=false:=bne_eq_false_iff_eq.mpr c6
 clear c6
 obtain⟨y193,hy193⟩:∃y_:List Int,y_=(([0,0,1]:List Int)):=⟨_,rfl⟩
 replace H:((regletref13_SameInts.f k t167 y193).bind fun t196=>(if t196=true then(if t183=0 then((regletref13_SameInts.f k t180 (([0]:List Int))).bind fun t200=>(if t200=true then((machine_Start.f).bind fun bt201=>((regletref16_Same.f k t176 t179 bt201.1 bt201.2).bind fun t205=>(if t205=true then(if t191=1 then(if t192=0 then((machine_Right.f y145 y148 0 0 y154 y161).bind fun t206=>(if t206=true then((machine_Right.f y145 y148 0 0 y154 ([]:List (List Int))).bind fun t207=>(some (!t207))) else(none))) else(none)) else(none)) else(none)))) else(none))) else(none)) else(none)))=some r:=by first|(rw [hy193];with_reducible exact H)|(have H2_:=(Option.bind_some _ _).symm.trans H;rw [hy193];with_reducible exact H2_)|(have H2_:=(Option.bind_some _ _).symm.trans H;with_reducible exact H2_)|with_reducible exact H|(rw [hy193];exact H)|exact H
 have Ny193:=aM hy193
 clear hy193
 replace H:=Option.bind_eq_some_iff.mp H
 obtain⟨t196,A70,H⟩:=H
 replace H:(if t196=true then(if t183=0 then((regletref13_SameInts.f k t180 (([0]:List Int))).bind fun t200=>(if t200=true then((machine_Start.f).bind fun bt201=>((regletref16_Same.f k t176 t179 bt201.1 bt201.2).bind fun t205=>(if t205=true then(if t191=1 then(if t192=0 then((machine_Right.f y145 y148 0 0 y154 y161).bind fun t206=>(if t206=true then((machine_Right.f y145 y148 0 0 y154 ([]:List (List Int))).bind fun t207=>(some (!t207))) else(none))) else(none)) else(none)) else(none)))) else(none))) else(none)) else(none))=some r:=H
 have A7:=aM A70
 clear A70
 by_cases c8:t196=true
 ·subst c8
  have H1:(if t183=0 then((regletref13_SameInts.f k t180 (([0]:List Int))).bind fun t200=>(if t200=true then((machine_Start.f).bind fun bt201=>((regletref16_Same.f k t176 t179 bt201.1 bt201.2).bind fun t205=>(if t205=true then(if t191=1 then(if t192=0 then((machine_Right.f y145 y148 0 0 y154 y161).bind fun t206=>(if t206=true then((machine_Right.f y145 y148 0 0 y154 ([]:List (List Int))).bind fun t207=>(some (!t207))) else(none))) else(none)) else(none)) else(none)))) else(none))) else(none))=some r:=by rw [if_pos rfl] at H;exact H
  clear H
  have H:=H1
  clear H1
  by_cases c9:t183=0
  rotate_left
  ·rw [if_neg c9] at H
   exact absurd H (by simp)
  rw [if_pos c9] at H
  have c9b0:(t183==0)=true:=beq_iff_eq.mpr c9
  have c9b1:(t183 !=0)=false:=bne_eq_false_iff_eq.mpr c9
  clear c9
  obtain⟨y197,hy197⟩:∃y_:List Int,y_=(([0]:List Int)):=⟨_,rfl⟩
  replace H:((regletref13_SameInts.f k t180 y197).bind fun t200=>(if t200=true then((machine_Start.f).bind fun bt201=>((regletref16_Same.f k t176 t179 bt201.1 bt201.2).bind fun t205=>(if t205=true then(if t191=1 then(if t192=0 then((machine_Right.f y145 y148 0 0 y154 y161).bind fun t206=>(if t206=true then((machine_Right.f y145 y148 0 0 y154 ([]:List (List Int))).bind fun t207=>(some (!t207))) else(none))) else(none)) else(none)) else(none)))) else(none)))=some r:=by first|(rw [hy197];with_reducible exact H)|(have H2_:=(Option.bind_some _ _).symm.trans H;rw [hy197];with_reducible exact H2_)|(have H2_:=(Option.bind_some _ _).symm.trans H;with_reducible exact H2_)|with_reducible exact H|(rw [hy197];exact H)|exact H
  have Ny197:=aM hy197
  clear hy197
  replace H:=Option.bind_eq_some_iff.mp H
  obtain⟨t200,A100,H⟩:=H
  replace H:(if t200=true then((machine_Start.f).bind fun bt201=>((regletref16_Same.f k t176 t179 bt201.1 bt201.2).bind fun t205=>(if t205=true then(if t191=1 then(if t192=0 then((machine_Right.f y145 y148 0 0 y154 y161).bind fun t206=>(if t206=true then((machine_Right.f y145 y148 0 0 y154 ([]:List (List Int))).bind fun t207=>(some (!t207))) else(none))) else(none)) else(none)) else(none)))) else(none))=some r:=H
  have A10:=aM A100
  clear A100
  by_cases c11:t200=true
  ·subst c11
   have H1:((machine_Start.f).bind fun bt201=>((regletref16_Same.f k t176 t179 bt201.1 bt201.2).bind fun t205=>(if t205=true then(if t191=1 then(if t192=0 then((machine_Right.f y145 y148 0 0 y154 y161).bind fun t206=>(if t206=true then((machine_Right.f y145 y148 0 0 y154 ([]:List (List Int))).bind fun t207=>(some (!t207))) else(none))) else(none)) else(none)) else(none))))=some r:=by rw [if_pos rfl] at H;exact H
   clear H
   have H:=H1
   clear H1
   replace H:=Option.bind_eq_some_iff.mp H
   obtain⟨⟨t201,t204⟩,A120,H⟩:=H
   replace H:((regletref16_Same.f k t176 t179 t201 t204).bind fun t205=>(if t205=true then(if t191=1 then(if t192=0 then((machine_Right.f y145 y148 0 0 y154 y161).bind fun t206=>(if t206=true then((machine_Right.f y145 y148 0 0 y154 ([]:List (List Int))).bind fun t207=>(some (!t207))) else(none))) else(none)) else(none)) else(none)))=some r:=H
   have A12:=aM A120
   clear A120
   replace H:=Option.bind_eq_some_iff.mp H
   obtain⟨t205,A130,H⟩:=H
   replace H:(if t205=true then(if t191=1 then(if t192=0 then((machine_Right.f y145 y148 0 0 y154 y161).bind fun t206=>(if t206=true then((machine_Right.f y145 y148 0 0 y154 ([]:List (List Int))).bind fun t207=>(some (!t207))) else(none))) else(none)) else(none)) else(none))=some r:=H
   have A13:=aM A130
   clear A130
   by_cases c14:t205=true
   ·subst c14
    have H1:(if t191=1 then(if t192=0 then((machine_Right.f y145 y148 0 0 y154 y161).bind fun t206=>(if t206=true then((machine_Right.f y145 y148 0 0 y154 ([]:List (List Int))).bind fun t207=>(some (!t207))) else(none))) else(none)) else(none))=some r:=by rw [if_pos rfl] at H;exact H
    clear H
    have H:=H1
    clear H1
    by_cases c15:t191=1
    rotate_left
    ·rw [if_neg c15] at H
     exact absurd H (by simp)
    rw [if_pos c15] at H
    have c15b0:(t191==1)=true:=beq_iff_eq.mpr c15
    have c15b1:(t191 !=1)=false:=bne_eq_false_iff_eq.mpr c15
    clear c15
    by_cases c16:t192=0
    rotate_left
    ·rw [if_neg c16] at H
     exact absurd H (by simp)
    rw [if_pos c16] at H
    have c16b0:(t192==0)=true:=beq_iff_eq.mpr c16
    have c16b1:(t192 !=0)=false:=bne_eq_false_iff_eq.mpr c16
    clear c16
    replace H:=Option.bind_eq_some_iff.mp H
    obtain⟨t206,A170,H⟩:=H
    replace H:(if t206=true then((machine_Right.f y145 y148 0 0 y154 ([]:List (List Int))).bind fun t207=>(some (!t207))) else(none))=some r:=H
    have A17:=aM A170
    clear A170
    by_cases c18:t206=true
    ·subst c18
     have H1:((machine_Right.f y145 y148 0 0 y154 ([]:List (List Int))).bind fun t207=>(some (!t207)))=some r:=by rw [if_pos rfl] at H;exact H
     clear H
     have H:=H1
     clear H1
     replace H:=Option.bind_eq_some_iff.mp H
     obtain⟨t207,A190,H⟩:=H
     replace H:(some (!t207))=some r:=H
     have A19:=aM A190
     clear A190
     obtain rfl:=Option.some.inj H
     go_enter Try.func10,Try.ntmps10
     try go_wp2_with (first|((with_reducible refine bJ (N:=12) rfl ?_);(try(refine gate_guard (by rfl) ?_;dsimp only));refine Kd.R_lit Kd.string _ 9 ?hg (N:=12) ?hd (xs:=([(⟨#[97]⟩:ByteArray)]:List ByteArray)) (inner:= [.string (⟨#[97]⟩:ByteArray)]) (ok:=fun _=>True) (okp:=fun _=>True) ?hr ?hp (fun _ hk=>hk) trivial (Below.refl _ _) (Nat.le_refl _) (by simp) ?_;(case hd=>rfl);(case hg=>rfl);(case hr=>first|(go_simp;done)|(go_simp;rfl));(case hp=>exact(Reps.one (show Kd.M Kd.string _ _ _ (⟨#[97]⟩:ByteArray) [.string (⟨#[97]⟩:ByteArray)] from rfl) (Reps.none _ _)));intro v146 w20 ho21 hb hg_ hnew_;clear hg_ hnew_;(first|rw [←Ny145.out] at ho21|(simp only [Int.reduceToNat] at ho21;rw [←Ny145.out] at ho21));have n0_:=aM (bL ho21 (bH (by repeat(first|(with_reducible first|exact HB.out|apply aN|apply aP|apply aO)|exact HB.out))));have n1_:=aM (bG (by repeat(first|(with_reducible first|exact HB.out|apply aN|apply aP|apply aO)|exact HB.out)) hb);clear HB;have HO147:=n0_;have HB:=n1_;clear n0_ n1_;clear hb ho21)|((with_reducible refine bJ (N:=13) rfl ?_);(try(refine gate_guard (by rfl) ?_;dsimp only));refine Kd.N_make k72 _ 72 rfl (N':=13) rfl 23 _ _ rfl 1 rfl rfl Try.underlying23 (.agg #[(.string ⟨#[]⟩),(.int .i64 0),(.string ⟨#[]⟩),(.slice none 0 0),(.int .i64 0),(.int .i64 0),(.slice none 0 0)]) 104 info72 rfl (by decide) (by omega) z72 (ok:=fun k_=>w20.heap.size≤k_) (okp:=fun _=>False) (k72_mkF _ _ z72 (Nat.le_refl _) (Kd.F_nil _ _ _) (Nat.le_refl _) (Kd.F_nil _ _ _)) (fun _ hk=>hk.elim) (Nat.le_refl _) (by omega) (by omega) (Below.refl _ _) (Nat.le_refl _) ?_;intro v149 w22 ho23 hb hg_ hnew_;clear hg_ hnew_;(first|rw [←Ny148.out] at ho23|(simp only [Int.reduceToNat] at ho23;rw [←Ny148.out] at ho23));have n0_:=aM (aD (by(with_reducible repeat(first|apply aA|apply aB|apply aC));exact HO147.out) hb);have n1_:=aM (Kd.N_lower (Kd.N_mono (ok':=fun k_=>some k_≠(v146:Value).ownBlock) ho23 (fun k_ hk_=>(Kd.fresh' (Kd.R_lt (by(with_reducible repeat(first|apply aA|apply aB|apply aC));exact HO147.out)) k_ hk_))) (bH (by repeat(first|(with_reducible first|exact HB.out|apply aN|apply aP|apply aO)|exact HB.out))));have n2_:=aM (bG (by repeat(first|(with_reducible first|exact HB.out|apply aN|apply aP|apply aO)|exact HB.out)) hb);clear HO147;clear HB;have HO147:=n0_;have HO150:=n1_;have HB:=n2_;clear n0_ n1_ n2_;clear hb ho23)|((with_reducible refine bJ (N:=16) rfl ?_);(try(refine gate_guard (by rfl) ?_;dsimp only));refine Kd.R_lit k43 _ 43 ?hg (N:=16) ?hd (xs:=([(⟨true,0⟩:S43),(⟨false,0⟩:S43)]:List (S43))) (inner:= [.bool true,.int .i64 0,.bool false,.int .i64 0]) (ok:=fun _=>True) (okp:=fun _=>True) ?hr ?hp (fun _ hk=>hk) trivial (Below.refl _ _) (Nat.le_refl _) (by simp) ?_;(case hd=>rfl);(case hg=>rfl);(case hr=>first|(go_simp;done)|(go_simp;rfl));(case hp=>exact(Reps.c2 (show Kd.M k43 _ _ _ (⟨true,0⟩:S43) [.bool true,.int .i64 0] from(k43_mkM _ _ _ (⟨true,0⟩:S43))) (Reps.c2 (show Kd.M k43 _ _ _ (⟨false,0⟩:S43) [.bool false,.int .i64 0] from(k43_mkM _ _ _ (⟨false,0⟩:S43))) (Reps.none _ _))));intro v152 w24 ho25 hb hg_ hnew_;clear hg_ hnew_;(first|rw [←Ny151.out] at ho25|(simp only [Int.reduceToNat] at ho25;rw [←Ny151.out] at ho25));have n0_:=aM (aD (by(with_reducible repeat(first|apply aA|apply aB|apply aC));exact HO147.out) hb);have n1_:=aM (Kd.N_elder' (by(with_reducible repeat(first|apply Kd.N_alloc|apply aY|apply aZ));exact HO150.out) (Kd.R_base ho25) hb);have n2_:=aM (bL ho25 (bH (by repeat(first|(with_reducible first|exact HB.out|apply aN|apply aP|apply aO)|exact HB.out))));have n3_:=aM (bG (by repeat(first|(with_reducible first|exact HB.out|apply aN|apply aP|apply aO)|exact HB.out)) hb);clear HO147;clear HO150;clear HB;have HO147:=n0_;have HO150:=n1_;have HO153:=n2_;have HB:=n3_;clear n0_ n1_ n2_ n3_;clear hb ho25;obtain⟨Ao26,co26,eo26⟩:=Kd.R_slice HO153.out;subst eo26)|((with_reducible refine bJ (N:=19) rfl ?_);(try(refine gate_guard (by rfl) ?_;dsimp only));refine Kd.N_lit k35 _ 35 ?hg (N':=19) ?hd (xs:=([(⟨0,y151⟩:S35),(⟨0,([]:List (S43))⟩:S35)]:List (S35))) (inner:= [.int .i64 0,.slice Ao26 y151.length co26,.int .i64 0,.slice none 0 0]) (ok:=(fun k_=>some k_≠(v146:Value).ownBlock∧some k_≠(v149:Value).ownBlock)) (okp:=(fun k_=>some k_≠(v146:Value).ownBlock∧some k_≠(v149:Value).ownBlock)) ?hr ?hp (fun _ hk=>hk) ((show ∀k_,w24.heap.size≤k_→(fun k_=>some k_≠(v146:Value).ownBlock∧some k_≠(v149:Value).ownBlock) k_ from fun k_ hk=>⟨Kd.fresh' (Kd.R_lt (by(with_reducible repeat(first|apply aA|apply aB|apply aC));exact HO147.out)) k_ hk,Kd.fresh' (Kd.N_lt (by(with_reducible repeat(first|apply Kd.N_alloc|apply aY|apply aZ));exact HO150.out)) k_ hk⟩) _ (Nat.le_refl _)) (Below.refl _ _) (Nat.le_refl _) (by simp) ?_;(case hd=>rfl);(case hg=>rfl);(case hr=>first|(go_simp;done)|(go_simp;rfl));(case hp=>exact(Reps.c2 (show Kd.FK k35 _ _ (⟨0,y151⟩:S35) [.int .i64 0,.slice Ao26 y151.length co26] from(k35_mkF _ _ (⟨0,y151⟩:S35) (aF (Kd.R_mono (ok':=(fun k_=>some k_≠(v146:Value).ownBlock∧some k_≠(v149:Value).ownBlock)) (Kd.R_apart' (Kd.R_apart' (HO153.out) (Kd.R_typed HO147.out) (by decide)) (Kd.N_typed HO150.out) (by decide)) (fun k_ hk=>⟨hk.1.2,hk.2⟩))).2.1 (Kd.R_F (Kd.R_mono (ok':=(fun k_=>some k_≠(v146:Value).ownBlock∧some k_≠(v149:Value).ownBlock)) (Kd.R_apart' (Kd.R_apart' (HO153.out) (Kd.R_typed HO147.out) (by decide)) (Kd.N_typed HO150.out) (by decide)) (fun k_ hk=>⟨hk.1.2,hk.2⟩))))) (Reps.c2 (show Kd.FK k35 _ _ (⟨0,([]:List (S43))⟩:S35) [.int .i64 0,.slice none 0 0] from(k35_mkF _ _ (⟨0,([]:List (S43))⟩:S35) (Nat.le_refl _) (Kd.F_nil _ _ _))) (Reps.none _ _))));intro v155 w27 ho28 hb hg_ hnew_;clear hg_ hnew_;(first|rw [←Ny154.out] at ho28|(simp only [Int.reduceToNat] at ho28;rw [←Ny154.out] at ho28));have n0_:=aM (aD (by(with_reducible repeat(first|apply aA|apply aB|apply aC));exact HO147.out) hb);have n1_:=aM (Kd.N_elder' (by(with_reducible repeat(first|apply Kd.N_alloc|apply aY|apply aZ));exact HO150.out) (Kd.N_base ho28) hb);have n2_:=aM (Kd.N_lower ho28 (bH (by repeat(first|(with_reducible first|exact HB.out|apply aN|apply aP|apply aO)|exact HB.out))));have n3_:=aM (bG (by repeat(first|(with_reducible first|exact HB.out|apply aN|apply aP|apply aO)|exact HB.out)) hb);clear HO147;clear HO150;clear HB;clear HO153;have HO147:=n0_;have HO150:=n1_;have HO156:=n2_;have HB:=n3_;clear n0_ n1_ n2_ n3_;clear hb ho28;obtain⟨Ao29,co29,eo29⟩:=Kd.N_slice HO156.out;subst eo29;obtain⟨Ao30,co30,eo30⟩:=Kd.N_slice HO150.out;subst eo30;obtain⟨Ao31,co31,eo31⟩:=Kd.R_slice HO147.out;subst eo31)|((with_reducible refine bJ (N:=1) rfl ?_);(try(refine gate_guard (by rfl) ?_;dsimp only));refine box_event ?hg (N:=1) ?hd (cs:=#[.slice none 0 0,.slice none 0 0,.int .i64 0,.int .i64 0,.slice none 0 0]) (t:=26) ?hr ?_;(case hd=>rfl);(case hg=>rfl);(case hr=>first|(go_simp;done)|(go_simp;rfl));intro gb157 hg w32 hbox hb;have n0_:=aM (aD (by(with_reducible repeat(first|apply aA|apply aB|apply aC));exact HO147.out) hb);have n1_:=aM (Kd.N_below (Kd.N_elderB (by(with_reducible repeat(first|apply Kd.N_alloc|apply aY|apply aZ));exact HO150.out) gb157 (Nat.le_of_eq hg.symm)) hb);have n2_:=aM (Kd.N_below (Kd.N_elderB (by(with_reducible repeat(first|apply Kd.N_alloc|apply aY|apply aZ));exact HO156.out) gb157 (Nat.le_of_eq hg.symm)) hb);have n3_:=aM (bG (by repeat(first|(with_reducible first|exact HB.out|apply aN|apply aP|apply aO)|exact HB.out)) hb);have n4_:=aM (hbox);have n5_:=aM ((by rw [hg];exact(bH (by repeat(first|(with_reducible first|exact HB.out|apply aN|apply aP|apply aO)|exact HB.out))):w.heap.size≤gb157));have n6_:=aM ((by rw [hg];exact(bH (by repeat(first|(with_reducible first|exact HB.out|apply aN|apply aP|apply aO)|exact HB.out))):w.heap.size≤gb157));clear HO147;clear HO150;clear HO156;clear HB;have HO147:=n0_;have HO150:=n1_;have HO156:=n2_;have HB:=n3_;have BK157:=n4_;have GW157:=n5_;have GE157:=n6_;clear n0_ n1_ n2_ n3_ n4_ n5_ n6_;clear hb hbox hg;have hcz33_0:w32.cell? ⟨gb157,0,none⟩=some (.slice none 0 0):=(aG BK157.out 0).trans rfl;have hcz33_1:w32.cell? ⟨gb157,1,none⟩=some (.slice none 0 0):=(aG BK157.out 1).trans rfl;have hcz33_2:w32.cell? ⟨gb157,2,none⟩=some (.int .i64 0):=(aG BK157.out 2).trans rfl;have hcz33_3:w32.cell? ⟨gb157,3,none⟩=some (.int .i64 0):=(aG BK157.out 3).trans rfl;have hcz33_4:w32.cell? ⟨gb157,4,none⟩=some (.slice none 0 0):=(aG BK157.out 4).trans rfl;have hfz33_0:=aH BK157.out 0;have hfz33_1:=aH BK157.out 1;have hfz33_2:=aH BK157.out 2;have hfz33_3:=aH BK157.out 3;have hfz33_4:=aH BK157.out 4)|((with_reducible refine bJ (N:=21) rfl ?_);(try(refine gate_guard (by rfl) ?_;dsimp only));refine Kd.R_lit (Kd.int .i64) _ 3 ?hg (N:=21) ?hd (xs:=([0,1]:List Int)) (inner:= [.int .i64 0,.int .i64 1]) (ok:=fun _=>True) (okp:=fun _=>True) ?hr ?hp (fun _ hk=>hk) trivial (Below.refl _ _) (Nat.le_refl _) (by simp) ?_;(case hd=>rfl);(case hg=>rfl);(case hr=>first|(go_simp;done)|(go_simp;rfl));(case hp=>exact(Reps.one (show Kd.M (Kd.int .i64) _ _ _ 0 [.int .i64 0] from rfl) (Reps.one (show Kd.M (Kd.int .i64) _ _ _ 1 [.int .i64 1] from rfl) (Reps.none _ _))));intro v159 w34 ho35 hb hg_ hnew_;clear hg_ hnew_;(first|rw [←Ny158.out] at ho35|(simp only [Int.reduceToNat] at ho35;rw [←Ny158.out] at ho35));have n0_:=aM (aD (by(with_reducible repeat(first|apply aA|apply aB|apply aC));exact(Kd.R_mono (aE (p:=⟨gb157,4,none⟩) (aE (p:=⟨gb157,3,none⟩) (aE (p:=⟨gb157,2,none⟩) (aE (p:=⟨gb157,1,none⟩) (aE (p:=⟨gb157,0,none⟩) (Kd.R_types HO147.out BK157.out (by decide)) (fun _ hk=>hk.2) (.slice Ao31 y145.length co31)) (fun _ hk=>hk.2) (.slice Ao30 y148.length co30)) (fun _ hk=>hk.2) (.int .i64 0)) (fun _ hk=>hk.2) (.int .i64 0)) (fun _ hk=>hk.2) (.slice Ao29 y154.length co29)) (fun _ h_=>h_.1))) hb);have n1_:=aM (Kd.N_elder' (by(with_reducible repeat(first|apply Kd.N_alloc|apply aY|apply aZ));exact(Kd.N_mono (Kd.N_far (p:=⟨gb157,4,none⟩) (Kd.N_far (p:=⟨gb157,3,none⟩) (Kd.N_far (p:=⟨gb157,2,none⟩) (Kd.N_far (p:=⟨gb157,1,none⟩) (Kd.N_far (p:=⟨gb157,0,none⟩) (Kd.N_mono HO150.out (fun k_ hk=>(⟨hk,hk.2⟩:_∧k_≠gb157))) (fun _ hk=>hk.2) (.slice Ao31 y145.length co31)) (fun _ hk=>hk.2) (.slice Ao30 y148.length co30)) (fun _ hk=>hk.2) (.int .i64 0)) (fun _ hk=>hk.2) (.int .i64 0)) (fun _ hk=>hk.2) (.slice Ao29 y154.length co29)) (fun _ h_=>h_.1))) (Kd.R_base ho35) hb);have n2_:=aM (Kd.N_elder' (by(with_reducible repeat(first|apply Kd.N_alloc|apply aY|apply aZ));exact(Kd.N_mono (Kd.N_far (p:=⟨gb157,4,none⟩) (Kd.N_far (p:=⟨gb157,3,none⟩) (Kd.N_far (p:=⟨gb157,2,none⟩) (Kd.N_far (p:=⟨gb157,1,none⟩) (Kd.N_far (p:=⟨gb157,0,none⟩) (Kd.N_mono HO156.out (fun k_ hk=>(⟨hk,hk.2⟩:_∧k_≠gb157))) (fun _ hk=>hk.2) (.slice Ao31 y145.length co31)) (fun _ hk=>hk.2) (.slice Ao30 y148.length co30)) (fun _ hk=>hk.2) (.int .i64 0)) (fun _ hk=>hk.2) (.int .i64 0)) (fun _ hk=>hk.2) (.slice Ao29 y154.length co29)) (fun _ h_=>h_.1))) (Kd.R_base ho35) hb);have n3_:=aM (bL ho35 (bH (by repeat(first|(with_reducible first|exact HB.out|apply aN|apply aP|apply aO|refine aL ?_ GE157.out)|exact HB.out))));have n4_:=aM (bF (g:=gb157) (o:= .cells #[.slice Ao31 y145.length co31,.slice Ao30 y148.length co30,.int .i64 0,.int .i64 0,.slice Ao29 y154.length co29] 26 (0,0)) (by(with_reducible repeat(first|refine aJ ?_ _|refine aK ?_|refine aI ?_ _));refine blk_put (cs:=#[.slice Ao31 y145.length co31,.slice Ao30 y148.length co30,.int .i64 0,.int .i64 0,.slice none 0 0]) ?_ 4 _ rfl;(with_reducible repeat(first|refine aJ ?_ _|refine aK ?_|refine aI ?_ _));refine blk_put (cs:=#[.slice Ao31 y145.length co31,.slice Ao30 y148.length co30,.int .i64 0,.int .i64 0,.slice none 0 0]) ?_ 3 _ rfl;(with_reducible repeat(first|refine aJ ?_ _|refine aK ?_|refine aI ?_ _));refine blk_put (cs:=#[.slice Ao31 y145.length co31,.slice Ao30 y148.length co30,.int .i64 0,.int .i64 0,.slice none 0 0]) ?_ 2 _ rfl;(with_reducible repeat(first|refine aJ ?_ _|refine aK ?_|refine aI ?_ _));refine blk_put (cs:=#[.slice Ao31 y145.length co31,.slice none 0 0,.int .i64 0,.int .i64 0,.slice none 0 0]) ?_ 1 _ rfl;(with_reducible repeat(first|refine aJ ?_ _|refine aK ?_|refine aI ?_ _));refine blk_put (cs:=#[.slice none 0 0,.slice none 0 0,.int .i64 0,.int .i64 0,.slice none 0 0]) ?_ 0 _ rfl;(with_reducible repeat(first|refine aJ ?_ _|refine aK ?_|refine aI ?_ _));exact BK157.out) hb);have n5_:=aM (bG (by repeat(first|(with_reducible first|exact HB.out|apply aN|apply aP|apply aO|refine aL ?_ GE157.out)|exact HB.out)) hb);clear HO147;clear HO150;clear HO156;clear BK157;clear HB;have HO147:=n0_;have HO150:=n1_;have HO156:=n2_;have HO160:=n3_;have BK157:=n4_;have HB:=n5_;clear n0_ n1_ n2_ n3_ n4_ n5_;clear hb ho35;obtain⟨Ao36,co36,eo36⟩:=Kd.R_slice HO160.out;subst eo36)|((with_reducible refine bJ (N:=22) rfl ?_);(try(refine gate_guard (by rfl) ?_;dsimp only));refine Kd.N_lit (Kd.slice 3 (Kd.int .i64)) _ 32 ?hg (N':=22) ?hd (xs:=([y158]:List (List Int))) (inner:= [.slice Ao36 y158.length co36]) (ok:=(fun k_=>some k_≠(.slice Ao31 y145.length co31:Value).ownBlock∧some k_≠(.slice Ao30 y148.length co30:Value).ownBlock∧some k_≠(.slice Ao29 y154.length co29:Value).ownBlock∧k_≠gb157)) (okp:=(fun k_=>some k_≠(.slice Ao31 y145.length co31:Value).ownBlock∧some k_≠(.slice Ao30 y148.length co30:Value).ownBlock∧some k_≠(.slice Ao29 y154.length co29:Value).ownBlock∧k_≠gb157)) ?hr ?hp (fun _ hk=>hk) ((show ∀k_,w34.heap.size≤k_→(fun k_=>some k_≠(.slice Ao31 y145.length co31:Value).ownBlock∧some k_≠(.slice Ao30 y148.length co30:Value).ownBlock∧some k_≠(.slice Ao29 y154.length co29:Value).ownBlock∧k_≠gb157) k_ from fun k_ hk=>⟨Kd.fresh' (Kd.R_lt (by(with_reducible repeat(first|apply aA|apply aB|apply aC));exact HO147.out)) k_ hk,Kd.fresh' (Kd.N_lt (by(with_reducible repeat(first|apply Kd.N_alloc|apply aY|apply aZ));exact HO150.out)) k_ hk,Kd.fresh' (Kd.N_lt (by(with_reducible repeat(first|apply Kd.N_alloc|apply aY|apply aZ));exact HO156.out)) k_ hk,Kd.freshB (g:=gb157) (o:= .cells #[.slice Ao31 y145.length co31,.slice Ao30 y148.length co30,.int .i64 0,.int .i64 0,.slice Ao29 y154.length co29] 26 (0,0)) (by(with_reducible repeat(first|refine aJ ?_ _|refine aK ?_|refine aI ?_ _));exact BK157.out) k_ hk⟩) _ (Nat.le_refl _)) (Below.refl _ _) (Nat.le_refl _) (by simp) ?_;(case hd=>rfl);(case hg=>rfl);(case hr=>first|(go_simp;done)|(go_simp;rfl));(case hp=>exact(Reps.one (show Kd.FK (Kd.slice 3 (Kd.int .i64)) _ _ y158 [.slice Ao36 y158.length co36] from(Kd.FK_slice_mk (aF (Kd.R_mono (ok':=(fun k_=>some k_≠(.slice Ao31 y145.length co31:Value).ownBlock∧some k_≠(.slice Ao30 y148.length co30:Value).ownBlock∧some k_≠(.slice Ao29 y154.length co29:Value).ownBlock∧k_≠gb157)) (Kd.R_types (Kd.R_apart' (Kd.R_apart' (Kd.R_apart' (HO160.out) (Kd.R_typed HO147.out) (by decide)) (Kd.N_typed HO150.out) (by decide)) (Kd.N_typed HO156.out) (by decide)) BK157.out (by decide)) (fun k_ hk=>⟨hk.1.1.1.2,⟨hk.1.1.2,⟨hk.1.2,hk.2⟩⟩⟩))).2.1 (Kd.R_F (Kd.R_mono (ok':=(fun k_=>some k_≠(.slice Ao31 y145.length co31:Value).ownBlock∧some k_≠(.slice Ao30 y148.length co30:Value).ownBlock∧some k_≠(.slice Ao29 y154.length co29:Value).ownBlock∧k_≠gb157)) (Kd.R_types (Kd.R_apart' (Kd.R_apart' (Kd.R_apart' (HO160.out) (Kd.R_typed HO147.out) (by decide)) (Kd.N_typed HO150.out) (by decide)) (Kd.N_typed HO156.out) (by decide)) BK157.out (by decide)) (fun k_ hk=>⟨hk.1.1.1.2,⟨hk.1.1.2,⟨hk.1.2,hk.2⟩⟩⟩))))) (Reps.none _ _)));intro v162 w37 ho38 hb hg_ hnew_;clear hg_ hnew_;(first|rw [←Ny161.out] at ho38|(simp only [Int.reduceToNat] at ho38;rw [←Ny161.out] at ho38));have n0_:=aM (aD (by(with_reducible repeat(first|apply aA|apply aB|apply aC));exact HO147.out) hb);have n1_:=aM (Kd.N_elder' (by(with_reducible repeat(first|apply Kd.N_alloc|apply aY|apply aZ));exact HO150.out) (Kd.N_base ho38) hb);have n2_:=aM (Kd.N_elder' (by(with_reducible repeat(first|apply Kd.N_alloc|apply aY|apply aZ));exact HO156.out) (Kd.N_base ho38) hb);have n3_:=aM (Kd.N_lower ho38 (bH (by repeat(first|(with_reducible first|exact HB.out|apply aN|apply aP|apply aO|refine aL ?_ GE157.out)|exact HB.out))));have n4_:=aM (bF (g:=gb157) (o:= .cells #[.slice Ao31 y145.length co31,.slice Ao30 y148.length co30,.int .i64 0,.int .i64 0,.slice Ao29 y154.length co29] 26 (0,0)) (by(with_reducible repeat(first|refine aJ ?_ _|refine aK ?_|refine aI ?_ _));exact BK157.out) hb);have n5_:=aM (bG (by repeat(first|(with_reducible first|exact HB.out|apply aN|apply aP|apply aO|refine aL ?_ GE157.out)|exact HB.out)) hb);clear HO147;clear HO150;clear HO156;clear BK157;clear HB;clear HO160;have HO147:=n0_;have HO150:=n1_;have HO156:=n2_;have HO163:=n3_;have BK157:=n4_;have HB:=n5_;clear n0_ n1_ n2_ n3_ n4_ n5_;clear hb ho38;have hcz39_0:w37.cell? ⟨gb157,0,none⟩=some (.slice Ao31 y145.length co31):=(aG BK157.out 0).trans rfl;have hcz39_1:w37.cell? ⟨gb157,1,none⟩=some (.slice Ao30 y148.length co30):=(aG BK157.out 1).trans rfl;have hcz39_2:w37.cell? ⟨gb157,2,none⟩=some (.int .i64 0):=(aG BK157.out 2).trans rfl;have hcz39_3:w37.cell? ⟨gb157,3,none⟩=some (.int .i64 0):=(aG BK157.out 3).trans rfl;have hcz39_4:w37.cell? ⟨gb157,4,none⟩=some (.slice Ao29 y154.length co29):=(aG BK157.out 4).trans rfl;have hfz39_0:=aH BK157.out 0;have hfz39_1:=aH BK157.out 1;have hfz39_2:=aH BK157.out 2;have hfz39_3:=aH BK157.out 3;have hfz39_4:=aH BK157.out 4)|((with_reducible refine bJ (N:=26) rfl ?_);(try(refine gate_guard (by rfl) ?_;dsimp only));refine Kd.R_lit (Kd.int .i64) _ 3 ?hg (N:=26) ?hd (xs:=([0,0]:List Int)) (inner:= [.int .i64 0,.int .i64 0]) (ok:=fun _=>True) (okp:=fun _=>True) ?hr ?hp (fun _ hk=>hk) trivial (Below.refl _ _) (Nat.le_refl _) (by simp) ?_;(case hd=>rfl);(case hg=>rfl);(case hr=>first|(go_simp;done)|(go_simp;rfl));(case hp=>exact(Reps.one (show Kd.M (Kd.int .i64) _ _ _ 0 [.int .i64 0] from rfl) (Reps.one (show Kd.M (Kd.int .i64) _ _ _ 0 [.int .i64 0] from rfl) (Reps.none _ _))));intro v165 w40 ho41 hb hg_ hnew_;clear hg_ hnew_;(first|rw [←Ny164.out] at ho41|(simp only [Int.reduceToNat] at ho41;rw [←Ny164.out] at ho41));have n0_:=aM (aD (by(with_reducible repeat(first|apply aA|apply aB|apply aC));exact HO147.out) hb);have n1_:=aM (Kd.N_elder' (by(with_reducible repeat(first|apply Kd.N_alloc|apply aY|apply aZ));exact HO150.out) (Kd.R_base ho41) hb);have n2_:=aM (Kd.N_elder' (by(with_reducible repeat(first|apply Kd.N_alloc|apply aY|apply aZ));exact HO156.out) (Kd.R_base ho41) hb);have n3_:=aM (Kd.N_elder' (by(with_reducible repeat(first|apply Kd.N_alloc|apply aY|apply aZ));exact HO163.out) (Kd.R_base ho41) hb);have n4_:=aM (bL ho41 (bH (by repeat(first|(with_reducible first|exact HB.out|apply aN|apply aP|apply aO|refine aL ?_ GE157.out)|exact HB.out))));have n5_:=aM (bF (g:=gb157) (o:= .cells #[.slice Ao31 y145.length co31,.slice Ao30 y148.length co30,.int .i64 0,.int .i64 0,.slice Ao29 y154.length co29] 26 (0,0)) (by(with_reducible repeat(first|refine aJ ?_ _|refine aK ?_|refine aI ?_ _));exact BK157.out) hb);have n6_:=aM (bG (by repeat(first|(with_reducible first|exact HB.out|apply aN|apply aP|apply aO|refine aL ?_ GE157.out)|exact HB.out)) hb);clear HO147;clear HO150;clear HO156;clear HO163;clear BK157;clear HB;have HO147:=n0_;have HO150:=n1_;have HO156:=n2_;have HO163:=n3_;have HO166:=n4_;have BK157:=n5_;have HB:=n6_;clear n0_ n1_ n2_ n3_ n4_ n5_ n6_;clear hb ho41;obtain⟨Ao42,co42,eo42⟩:=Kd.N_slice HO163.out;subst eo42;obtain⟨Ao43,co43,eo43⟩:=Kd.R_slice HO166.out;subst eo43)|((with_reducible refine bI (f:=22) rfl ?_);refine goesL_ (some 27) rfl rfl Try.func22 (by kernel_rfl) rfl #[.agg #[.slice Ao31 y145.length co31,.slice Ao30 y148.length co30,.int .i64 0,.int .i64 0,.slice Ao29 y154.length co29],.slice Ao42 y161.length co42,.slice Ao43 y164.length co43] rfl (by(try simp only [List.map_toArray,List.map_cons,List.map_nil]);first|done|rfl|(simp only [List.length_drop,List.length_take];rfl)) ?_;(with_reducible refine(machine_Run.calls k _ _ y145 _ _ y148 0 0 _ _ y154 _ _ y161 _ _ y164 t167 t170 t171 _ ?side1 ?side2 ?side3 ?side4 ?side5 ?side6 ?side7 ?side8 ?side9 ?side10 A2.out).mono ?_);(case side1=>repeat(first|exact(aF HO147.out).2.2|(with_reducible refine Kd.C_alloc ?_ _)|(with_reducible refine Kd.C_drewN ?_ _)|(with_reducible refine bC ?_)));(case side2=>exact(aF HO147.out).2.1);(case side3=>repeat(first|exact(aT HO150.out).2.2|(with_reducible refine Kd.C_alloc ?_ _)|(with_reducible refine Kd.C_drewN ?_ _)|(with_reducible refine bC ?_)));(case side4=>exact(aT HO150.out).2.1);(case side5=>repeat(first|exact(aT HO156.out).2.2|(with_reducible refine Kd.C_alloc ?_ _)|(with_reducible refine Kd.C_drewN ?_ _)|(with_reducible refine bC ?_)));(case side6=>exact(aT HO156.out).2.1);(case side7=>repeat(first|exact(aT HO163.out).2.2|(with_reducible refine Kd.C_alloc ?_ _)|(with_reducible refine Kd.C_drewN ?_ _)|(with_reducible refine bC ?_)));(case side8=>exact(aT HO163.out).2.1);(case side9=>repeat(first|exact(aF HO166.out).2.2|(with_reducible refine Kd.C_alloc ?_ _)|(with_reducible refine Kd.C_drewN ?_ _)|(with_reducible refine bC ?_)));(case side10=>exact(aF HO166.out).2.1);rintro e w44 ⟨v168,rfl,ho0,hb⟩;refine⟨_,rfl,?_⟩;have n0_:=aM (aD (by(with_reducible repeat(first|apply aA|apply aB|apply aC));exact HO147.out) hb);have n1_:=aM (Kd.N_elder' (by(with_reducible repeat(first|apply Kd.N_alloc|apply aY|apply aZ));exact HO150.out) (Kd.R_base ho0) hb);have n2_:=aM (Kd.N_elder' (by(with_reducible repeat(first|apply Kd.N_alloc|apply aY|apply aZ));exact HO156.out) (Kd.R_base ho0) hb);have n3_:=aM (Kd.N_elder' (by(with_reducible repeat(first|apply Kd.N_alloc|apply aY|apply aZ));exact HO163.out) (Kd.R_base ho0) hb);have n4_:=aM (bE (by(with_reducible repeat(first|apply aA|apply aB|apply aC));exact HO166.out) (Kd.R_base ho0) hb);have n5_:=aM (bL (Kd.R_new' ho0 (Kd.R_lt (by(with_reducible repeat(first|apply aA|apply aB|apply aC));exact HO166.out))) (bH (by repeat(first|(with_reducible first|exact HB.out|apply aN|apply aP|apply aO|refine aL ?_ GE157.out)|exact HB.out))));have n6_:=aM (bF (g:=gb157) (o:= .cells #[.slice Ao31 y145.length co31,.slice Ao30 y148.length co30,.int .i64 0,.int .i64 0,.slice Ao29 y154.length co29] 26 (0,0)) (by(with_reducible repeat(first|refine aJ ?_ _|refine aK ?_|refine aI ?_ _));exact BK157.out) hb);have n7_:=aM (bG (by repeat(first|(with_reducible first|exact HB.out|apply aN|apply aP|apply aO|refine aL ?_ GE157.out)|exact HB.out)) hb);clear HO147;clear HO150;clear HO156;clear HO163;clear HO166;clear BK157;clear HB;have HO147:=n0_;have HO150:=n1_;have HO156:=n2_;have HO163:=n3_;have HO166:=n4_;have HO169:=n5_;have BK157:=n6_;have HB:=n7_;clear n0_ n1_ n2_ n3_ n4_ n5_ n6_ n7_;(try clear hb);(try clear hb2);(try clear hk);(try clear hi);(try clear ho0)))
     have n0_:=aM (aC HO147.out)
     have n1_:=aM (aZ HO150.out)
     have n2_:=aM (aZ HO156.out)
     have n3_:=aM (aZ HO163.out)
     have n4_:=aM (aC HO166.out)
     have n5_:=aM (aC HO169.out)
     have n6_:=aM (aK BK157.out)
     have n7_:=aM (aO HB.out)
     clear HO147
     clear HO150
     clear HO156
     clear HO163
     clear HO166
     clear HO169
     clear BK157
     clear HB
     have HO147:=n0_
     have HO150:=n1_
     have HO156:=n2_
     have HO163:=n3_
     have HO166:=n4_
     have HO169:=n5_
     have BK157:=n6_
     have HB:=n7_
     clear n0_ n1_ n2_ n3_ n4_ n5_ n6_ n7_
     refine start_ (n:=12) (S:=fun w'=>w'.cell? ⟨gb157,0,none⟩=some (.slice Ao31 y145.length co31)∧w'.cell? ⟨gb157,1,none⟩=some (.slice Ao30 y148.length co30)∧w'.cell? ⟨gb157,2,none⟩=some (.int .i64 0)∧w'.cell? ⟨gb157,3,none⟩=some (.int .i64 0)∧w'.cell? ⟨gb157,4,none⟩=some (.slice Ao29 y154.length co29)) (ds:= []) #[F,F,F,F,F,F,F,F,F,F,F,F] (by kernel_rfl) rfl rfl ⟨(aG BK157.out 0).trans rfl,(aG BK157.out 1).trans rfl,(aG BK157.out 2).trans rfl,(aG BK157.out 3).trans rfl,(aG BK157.out 4).trans rfl⟩ (fun hHeld=>?_);refine with_tabW regletlaw16_awake.tab4 regletlaw16_awake.bits4 (fun HT_ HW_=>?_)
     generalize w44.drew=w45 at HO147 HO150 HO156 HO163 HO166 HO169 BK157 HB hHeld ⊢
     refine pure_ (i:=1) (N:=some 33) (v:=?_) (a':=?_) #[F,T,F,F,F,F,F,F,F,F,F,F] rfl rfl (any_of HT_.out (by kernel_rfl)) (fun _ _ _ h=>h) (Or.inl ⟨by rfl,?_⟩) ?_ ?_
     rotate_left;(intro w';go_simp;with_reducible rfl);rotate_left;(simp only [pq];rfl)
     refine take_ (i:=0) (N:=some 32) (v:=?_) (a':=?_) #[T,T,F,F,F,F,F,F,F,F,F,F] rfl rfl (take_ofW HT_.out HW_.out (by kernel_rfl)) (fun _ _ _ h=>h) (Or.inl ⟨by rfl,?_⟩) hHeld ?_ ?_
     rotate_left
     ·rintro w' ⟨s0,s1,s2,s3,s4⟩
      go_simp
      with_reducible rfl
     rotate_left
     ·simp only [pq]
      rfl
     refine join_ (σ:=Value×Value×Value×Nat) 3 #[T,T,T,T,T,T,T,T,T,F,F,F] (fun s_=> [(34,.agg #[s_.1,.bool t175]),(35,.tuple #[.agg #[s_.2.1,.bool t179],s_.2.2.1,.int .i64 t183]),(6,.pointer (some ⟨s_.2.2.2,0,none⟩)),(31,.tuple #[.agg #[s_.2.1,.bool t179],s_.2.2.1,.int .i64 t183]),(36,.agg #[s_.2.1,.bool t179]),(37,s_.2.2.1),(38,.int .i64 t183)]) (fun s_ w'=>(w'.cell? ⟨gb157,0,none⟩=some (.slice Ao31 y145.length co31)∧w'.cell? ⟨gb157,1,none⟩=some (.slice Ao30 y148.length co30)∧w'.cell? ⟨gb157,2,none⟩=some (.int .i64 0)∧w'.cell? ⟨gb157,3,none⟩=some (.int .i64 0)∧w'.cell? ⟨gb157,4,none⟩=some (.slice Ao29 y154.length co29))∧(Kd.R Kd.string 9 w' w.heap.size (fun _=>True) (.slice Ao31 y145.length co31) y145)∧(Kd.N k72 72 w' w.heap.size (fun k_=>some k_≠(.slice Ao31 y145.length co31:Value).ownBlock∧some k_≠(.slice Ao29 y154.length co29:Value).ownBlock∧some k_≠(.slice Ao42 y161.length co42:Value).ownBlock∧some k_≠(.slice Ao43 y164.length co43:Value).ownBlock∧some k_≠(v168:Value).ownBlock∧some k_≠(s_.1:Value).ownBlock∧some k_≠(s_.2.1:Value).ownBlock∧some k_≠(s_.2.2.1:Value).ownBlock∧k_≠gb157∧k_≠s_.2.2.2) (.slice Ao30 y148.length co30) y148)∧(Kd.N k35 35 w' w.heap.size (fun k_=>some k_≠(.slice Ao31 y145.length co31:Value).ownBlock∧some k_≠(.slice Ao30 y148.length co30:Value).ownBlock∧some k_≠(.slice Ao42 y161.length co42:Value).ownBlock∧some k_≠(.slice Ao43 y164.length co43:Value).ownBlock∧some k_≠(v168:Value).ownBlock∧some k_≠(s_.1:Value).ownBlock∧some k_≠(s_.2.1:Value).ownBlock∧some k_≠(s_.2.2.1:Value).ownBlock∧k_≠gb157∧k_≠s_.2.2.2) (.slice Ao29 y154.length co29) y154)∧(Kd.N (Kd.slice 3 (Kd.int .i64)) 32 w' w.heap.size (fun k_=>some k_≠(.slice Ao31 y145.length co31:Value).ownBlock∧some k_≠(.slice Ao30 y148.length co30:Value).ownBlock∧some k_≠(.slice Ao29 y154.length co29:Value).ownBlock∧some k_≠(.slice Ao43 y164.length co43:Value).ownBlock∧some k_≠(v168:Value).ownBlock∧some k_≠(s_.1:Value).ownBlock∧some k_≠(s_.2.1:Value).ownBlock∧some k_≠(s_.2.2.1:Value).ownBlock∧k_≠gb157∧k_≠s_.2.2.2) (.slice Ao42 y161.length co42) y161)∧(Kd.R (Kd.int .i64) 3 w' w.heap.size (fun k_=>some k_≠(v168:Value).ownBlock∧some k_≠(s_.2.2.1:Value).ownBlock) (.slice Ao43 y164.length co43) y164)∧(Kd.R (Kd.int .i64) 3 w' w.heap.size (fun k_=>some k_≠(.slice Ao43 y164.length co43:Value).ownBlock∧some k_≠(s_.2.2.1:Value).ownBlock) v168 t167)∧(Kd.R k43 43 w' w.heap.size (fun k_=>some k_≠(s_.2.1:Value).ownBlock) s_.1 t172)∧(Kd.R k43 43 w' w.heap.size (fun k_=>some k_≠(s_.1:Value).ownBlock) s_.2.1 t176)∧(Kd.R (Kd.int .i64) 3 w' w.heap.size (fun k_=>some k_≠(.slice Ao43 y164.length co43:Value).ownBlock∧some k_≠(v168:Value).ownBlock) s_.2.2.1 t180)∧(w'.heap[gb157]?=some (.cells #[.slice Ao31 y145.length co31,.slice Ao30 y148.length co30,.int .i64 0,.int .i64 0,.slice Ao29 y154.length co29] 26 (0,0)))∧(w'.heap[s_.2.2.2]?=some (.cells #[.slice none 0 0,.bool false] 31 (0,0)))∧(w.heap.size≤s_.2.2.2)∧(w.heap.size≤s_.2.2.2)∧(gb157≠s_.2.2.2)∧(s_.2.2.2≠gb157)∧(Below w.heap.size w w')) ?_ ?_
     rotate_left
     ·intro hCont
      refine two_ (i:=2) (j:=8) (Ni:=some 34) (Nj:=some 6) #[T,T,T,F,F,F,F,F,F,F,F,F] #[T,T,F,F,F,F,F,F,T,F,F,F] rfl rfl rfl rfl (two_of HT_.out (by kernel_rfl)) (by decide) (by decide) (fun K hK=>?_) (fun K hK=>?_)
      ·skip
       refine goes_ Try.func17 (by kernel_rfl) rfl #[] (by rfl) rfl rfl (by(try simp only [List.map_toArray,List.map_cons,List.map_nil]);first|done|rfl|(simp only [List.length_drop,List.length_take];rfl)) ?_
       with_reducible refine(machine_Start.calls  t172 t175 _ A3.out).mono ?_
       rintro e w46 ⟨v173,rfl,ho0,hb⟩
       refine⟨_,rfl,?_⟩
       have n0_:=aM (aD (by(with_reducible repeat(first|apply aA|apply aB|apply aC));exact HO147.out) hb)
       have n1_:=aM (Kd.N_elder' (by(with_reducible repeat(first|apply Kd.N_alloc|apply aY|apply aZ));exact HO150.out) (Kd.R_base ho0) hb)
       have n2_:=aM (Kd.N_elder' (by(with_reducible repeat(first|apply Kd.N_alloc|apply aY|apply aZ));exact HO156.out) (Kd.R_base ho0) hb)
       have n3_:=aM (Kd.N_elder' (by(with_reducible repeat(first|apply Kd.N_alloc|apply aY|apply aZ));exact HO163.out) (Kd.R_base ho0) hb)
       have n4_:=aM (aD (by(with_reducible repeat(first|apply aA|apply aB|apply aC));exact HO166.out) hb)
       have n5_:=aM (aD (by(with_reducible repeat(first|apply aA|apply aB|apply aC));exact HO169.out) hb)
       have n6_:=aM (bL ho0 (bH (by repeat(first|(with_reducible first|exact HB.out|apply aN|apply aP|apply aO|refine aL ?_ GE157.out)|exact HB.out))))
       have n7_:=aM (bF (g:=gb157) (o:= .cells #[.slice Ao31 y145.length co31,.slice Ao30 y148.length co30,.int .i64 0,.int .i64 0,.slice Ao29 y154.length co29] 26 (0,0)) (by(with_reducible repeat(first|refine aJ ?_ _|refine aK ?_|refine aI ?_ _));exact BK157.out) hb)
       have n8_:=aM (bG (by repeat(first|(with_reducible first|exact HB.out|apply aN|apply aP|apply aO|refine aL ?_ GE157.out)|exact HB.out)) hb)
       clear HO147
       clear HO150
       clear HO156
       clear HO163
       clear HO166
       clear HO169
       clear BK157
       clear HB
       have HO147:=n0_
       have HO150:=n1_
       have HO156:=n2_
       have HO163:=n3_
       have HO166:=n4_
       have HO169:=n5_
       have HO174:=n6_
       have BK157:=n7_
       have HB:=n8_
       clear n0_ n1_ n2_ n3_ n4_ n5_ n6_ n7_ n8_
       (try clear hb);(try clear hb2);(try clear hk);(try clear hi);(try clear ho0)
       obtain⟨Ao47,co47,eo47⟩:=Kd.R_slice HO174.out
       (first|subst eo47|(injection eo47 with f1_ f2_ f3_;have f4_:=f1_.symm;have f5_:=f3_.symm;clear f1_ f2_ f3_;subst f4_;subst f5_))
       refine hK.out _ _ ⟨(aG BK157.out 0).trans rfl,(aG BK157.out 1).trans rfl,(aG BK157.out 2).trans rfl,(aG BK157.out 3).trans rfl,(aG BK157.out 4).trans rfl⟩ (fun hHeld=>?_)
       clear hK K
       refine norm_ (a':=?_) ?_ ?_
       rotate_left
       ·show Act.put _ (some 34) _=_
        simp only [pq]
        rfl
       refine two_ (i:=3) (j:=8) (Ni:=some 35) (Nj:=some 6) #[T,T,T,T,F,F,F,F,F,F,F,F] #[T,T,T,F,F,F,F,F,T,F,F,F] rfl rfl rfl rfl (two_of HT_.out (by kernel_rfl)) (by decide) (by decide) (fun K hK=>?_) (fun K hK=>?_)
       ·skip
        refine goes_ Try.func23 (by kernel_rfl) rfl #[.agg #[.slice Ao31 y145.length co31,.slice Ao30 y148.length co30,.int .i64 0,.int .i64 0,.slice Ao29 y154.length co29],.slice Ao42 y161.length co42,.agg #[.slice Ao47 t172.length co47,.bool t175],.int .i64 0] (by rfl) rfl rfl (by(try simp only [List.map_toArray,List.map_cons,List.map_nil]);first|done|rfl|(simp only [List.length_drop,List.length_take];rfl)) ?_
        with_reducible refine(machine_Feed.calls _ _ y145 _ _ y148 0 0 _ _ y154 _ _ y161 _ _ t172 t175 0 t176 t179 t180 t183 _ ?side1 ?side2 ?side3 ?side4 ?side5 ?side6 ?side7 ?side8 ?side9 ?side10 A4.out).mono ?_
        (case side1=>repeat(first|exact(aF HO147.out).2.2|(with_reducible refine Kd.C_alloc ?_ _)|(with_reducible refine Kd.C_drewN ?_ _)|(with_reducible refine bC ?_)))
        (case side2=>exact(aF HO147.out).2.1)
        (case side3=>repeat(first|exact(aT HO150.out).2.2|(with_reducible refine Kd.C_alloc ?_ _)|(with_reducible refine Kd.C_drewN ?_ _)|(with_reducible refine bC ?_)))
        (case side4=>exact(aT HO150.out).2.1)
        (case side5=>repeat(first|exact(aT HO156.out).2.2|(with_reducible refine Kd.C_alloc ?_ _)|(with_reducible refine Kd.C_drewN ?_ _)|(with_reducible refine bC ?_)))
        (case side6=>exact(aT HO156.out).2.1)
        (case side7=>repeat(first|exact(aT HO163.out).2.2|(with_reducible refine Kd.C_alloc ?_ _)|(with_reducible refine Kd.C_drewN ?_ _)|(with_reducible refine bC ?_)))
        (case side8=>exact(aT HO163.out).2.1)
        (case side9=>repeat(first|exact(aF HO174.out).2.2|(with_reducible refine Kd.C_alloc ?_ _)|(with_reducible refine Kd.C_drewN ?_ _)|(with_reducible refine bC ?_)))
        (case side10=>exact(aF HO174.out).2.1)
        rintro e w48 ⟨v177,v181,rfl,ho0,ho1,hb⟩
        refine⟨_,rfl,?_⟩
        have n0_:=aM (aD (by(with_reducible repeat(first|apply aA|apply aB|apply aC));exact HO147.out) hb)
        have n1_:=aM (Kd.N_mono (Kd.N_told (Kd.N_told (Kd.N_old (by(with_reducible repeat(first|apply Kd.N_alloc|apply aY|apply aZ));exact HO150.out) hb) (Kd.R_base ho0)) (Kd.R_base ho1)) (fun _ h_=>h_.1))
        have n2_:=aM (Kd.N_mono (Kd.N_told (Kd.N_told (Kd.N_old (by(with_reducible repeat(first|apply Kd.N_alloc|apply aY|apply aZ));exact HO156.out) hb) (Kd.R_base ho0)) (Kd.R_base ho1)) (fun _ h_=>h_.1))
        have n3_:=aM (Kd.N_mono (Kd.N_told (Kd.N_told (Kd.N_old (by(with_reducible repeat(first|apply Kd.N_alloc|apply aY|apply aZ));exact HO163.out) hb) (Kd.R_base ho0)) (Kd.R_base ho1)) (fun _ h_=>h_.1))
        have n4_:=aM (bE (by(with_reducible repeat(first|apply aA|apply aB|apply aC));exact HO166.out) (Kd.R_base ho1) hb)
        have n5_:=aM (bE (by(with_reducible repeat(first|apply aA|apply aB|apply aC));exact HO169.out) (Kd.R_base ho1) hb)
        have n6_:=aM (bE (by(with_reducible repeat(first|apply aA|apply aB|apply aC));exact HO174.out) (Kd.R_base ho0) hb)
        have n7_:=aM (bL (Kd.R_new' ho0 (Kd.R_lt (by(with_reducible repeat(first|apply aA|apply aB|apply aC));exact HO174.out))) (bH (by repeat(first|(with_reducible first|exact HB.out|apply aN|apply aP|apply aO|refine aL ?_ GE157.out)|exact HB.out))))
        have n8_:=aM (bL (Kd.R_new' (Kd.R_new' ho1 (Kd.R_lt (by(with_reducible repeat(first|apply aA|apply aB|apply aC));exact HO166.out))) (Kd.R_lt (by(with_reducible repeat(first|apply aA|apply aB|apply aC));exact HO169.out))) (bH (by repeat(first|(with_reducible first|exact HB.out|apply aN|apply aP|apply aO|refine aL ?_ GE157.out)|exact HB.out))))
        have n9_:=aM (bF (g:=gb157) (o:= .cells #[.slice Ao31 y145.length co31,.slice Ao30 y148.length co30,.int .i64 0,.int .i64 0,.slice Ao29 y154.length co29] 26 (0,0)) (by(with_reducible repeat(first|refine aJ ?_ _|refine aK ?_|refine aI ?_ _));exact BK157.out) hb)
        have n10_:=aM (bG (by repeat(first|(with_reducible first|exact HB.out|apply aN|apply aP|apply aO|refine aL ?_ GE157.out)|exact HB.out)) hb)
        clear HO147
        clear HO150
        clear HO156
        clear HO163
        clear HO166
        clear HO169
        clear HO174
        clear BK157
        clear HB
        have HO147:=n0_
        have HO150:=n1_
        have HO156:=n2_
        have HO163:=n3_
        have HO166:=n4_
        have HO169:=n5_
        have HO174:=n6_
        have HO178:=n7_
        have HO182:=n8_
        have BK157:=n9_
        have HB:=n10_
        clear n0_ n1_ n2_ n3_ n4_ n5_ n6_ n7_ n8_ n9_ n10_
        (try clear hb);(try clear hb2);(try clear hk);(try clear hi);(try clear ho0);(try clear ho1)
        refine hK.out _ _ ⟨(aG BK157.out 0).trans rfl,(aG BK157.out 1).trans rfl,(aG BK157.out 2).trans rfl,(aG BK157.out 3).trans rfl,(aG BK157.out 4).trans rfl⟩ (fun hHeld=>?_)
        clear hK K
        refine norm_ (a':=?_) ?_ ?_
        rotate_left
        ·show Act.put _ (some 35) _=_
         simp only [pq]
         rfl
        refine pure_ (i:=4) (N:=some 31) (v:=?_) (a':=?_) #[T,T,T,T,T,F,F,F,F,F,F,F] rfl rfl (any_of HT_.out (by kernel_rfl)) (fun _ _ _ h=>h) (Or.inl ⟨by rfl,?_⟩) ?_ ?_
        rotate_left;(intro w';go_simp;with_reducible rfl);rotate_left;(simp only [pq];rfl)
        refine pure_ (i:=5) (N:=some 36) (v:=?_) (a':=?_) #[T,T,T,T,T,T,F,F,F,F,F,F] rfl rfl (any_of HT_.out (by kernel_rfl)) (fun _ _ _ h=>h) (Or.inl ⟨by rfl,?_⟩) ?_ ?_
        rotate_left;(intro w';go_simp;with_reducible rfl);rotate_left;(simp only [pq];rfl)
        refine pure_ (i:=6) (N:=some 37) (v:=?_) (a':=?_) #[T,T,T,T,T,T,T,F,F,F,F,F] rfl rfl (any_of HT_.out (by kernel_rfl)) (fun _ _ _ h=>h) (Or.inl ⟨by rfl,?_⟩) ?_ ?_
        rotate_left;(intro w';go_simp;with_reducible rfl);rotate_left;(simp only [pq];rfl)
        refine pure_ (i:=7) (N:=some 38) (v:=?_) (a':=?_) #[T,T,T,T,T,T,T,T,F,F,F,F] rfl rfl (any_of HT_.out (by kernel_rfl)) (fun _ _ _ h=>h) (Or.inl ⟨by rfl,?_⟩) ?_ ?_
        rotate_left;(intro w';go_simp;with_reducible rfl);rotate_left;(simp only [pq];rfl)
        refine one_ (i:=8) (N:=some 6) #[T,T,T,T,T,T,T,T,T,F,F,F] rfl rfl (one_of HT_.out (by kernel_rfl)) (by decide) (fun K hK=>?_)
        refine box_step ?hg (N:=6) ?hd (cs:=#[.slice none 0 0,.bool false]) (t:=31) ?hr ?_;(case hd=>rfl);(case hg=>rfl);(case hr=>first|(go_simp;done)|(go_simp;rfl))
        intro gb184 hg w49 hbox hb
        have n0_:=aM (aD (by(with_reducible repeat(first|apply aA|apply aB|apply aC));exact HO147.out) hb)
        have n1_:=aM (Kd.N_below (Kd.N_elderB (by(with_reducible repeat(first|apply Kd.N_alloc|apply aY|apply aZ));exact HO150.out) gb184 (Nat.le_of_eq hg.symm)) hb)
        have n2_:=aM (Kd.N_below (Kd.N_elderB (by(with_reducible repeat(first|apply Kd.N_alloc|apply aY|apply aZ));exact HO156.out) gb184 (Nat.le_of_eq hg.symm)) hb)
        have n3_:=aM (Kd.N_below (Kd.N_elderB (by(with_reducible repeat(first|apply Kd.N_alloc|apply aY|apply aZ));exact HO163.out) gb184 (Nat.le_of_eq hg.symm)) hb)
        have n4_:=aM (aD (by(with_reducible repeat(first|apply aA|apply aB|apply aC));exact HO166.out) hb)
        have n5_:=aM (aD (by(with_reducible repeat(first|apply aA|apply aB|apply aC));exact HO169.out) hb)
        have n6_:=aM (aD (by(with_reducible repeat(first|apply aA|apply aB|apply aC));exact HO174.out) hb)
        have n7_:=aM (aD (by(with_reducible repeat(first|apply aA|apply aB|apply aC));exact HO178.out) hb)
        have n8_:=aM (aD (by(with_reducible repeat(first|apply aA|apply aB|apply aC));exact HO182.out) hb)
        have n9_:=aM (bF (g:=gb157) (o:= .cells #[.slice Ao31 y145.length co31,.slice Ao30 y148.length co30,.int .i64 0,.int .i64 0,.slice Ao29 y154.length co29] 26 (0,0)) (by(with_reducible repeat(first|refine aJ ?_ _|refine aK ?_|refine aI ?_ _));exact BK157.out) hb)
        have n10_:=aM (bG (by repeat(first|(with_reducible first|exact HB.out|apply aN|apply aP|apply aO|refine aL ?_ GE157.out)|exact HB.out)) hb)
        have n11_:=aM (hbox)
        have n12_:=aM ((by rw [hg];exact(bH (by repeat(first|(with_reducible first|exact HB.out|apply aN|apply aP|apply aO|refine aL ?_ GE157.out)|exact HB.out))):w.heap.size≤gb184))
        have n13_:=aM ((by rw [hg];exact(bH (by repeat(first|(with_reducible first|exact HB.out|apply aN|apply aP|apply aO|refine aL ?_ GE157.out)|exact HB.out))):w.heap.size≤gb184))
        have n14_:=aM ((by rw [hg];exact Nat.ne_of_lt (bN (g:=gb157) (o:= .cells #[.slice Ao31 y145.length co31,.slice Ao30 y148.length co30,.int .i64 0,.int .i64 0,.slice Ao29 y154.length co29] 26 (0,0)) (by(with_reducible repeat(first|refine aJ ?_ _|refine aK ?_|refine aI ?_ _));exact BK157.out)):gb157≠gb184))
        have n15_:=aM ((by rw [hg];exact Nat.ne_of_gt (bN (g:=gb157) (o:= .cells #[.slice Ao31 y145.length co31,.slice Ao30 y148.length co30,.int .i64 0,.int .i64 0,.slice Ao29 y154.length co29] 26 (0,0)) (by(with_reducible repeat(first|refine aJ ?_ _|refine aK ?_|refine aI ?_ _));exact BK157.out)):gb184≠gb157))
        clear HO147
        clear HO150
        clear HO156
        clear HO163
        clear HO166
        clear HO169
        clear HO174
        clear HO178
        clear HO182
        clear BK157
        clear HB
        have HO147:=n0_
        have HO150:=n1_
        have HO156:=n2_
        have HO163:=n3_
        have HO166:=n4_
        have HO169:=n5_
        have HO174:=n6_
        have HO178:=n7_
        have HO182:=n8_
        have BK157:=n9_
        have HB:=n10_
        have BK184:=n11_
        have GW184:=n12_
        have GE184:=n13_
        have NB157_184:=n14_
        have NB184_157:=n15_
        clear n0_ n1_ n2_ n3_ n4_ n5_ n6_ n7_ n8_ n9_ n10_ n11_ n12_ n13_ n14_ n15_
        clear hb hbox hg
        refine hK.out _ _ ⟨(aG BK157.out 0).trans rfl,(aG BK157.out 1).trans rfl,(aG BK157.out 2).trans rfl,(aG BK157.out 3).trans rfl,(aG BK157.out 4).trans rfl⟩ (fun hHeld=>?_)
        clear hK K
        refine norm_ (a':=?_) ?_ ?_
        rotate_left
        ·show Act.put _ (some 6) _=_
         simp only [pq]
         rfl
        exact norm_ (by simp only [putAll,Act.put,List.setIfInBounds_toArray,List.set_cons_zero,List.set_cons_succ]) (hCont (.slice Ao47 t172.length co47,v177,v181,gb184) _ ⟨hHeld,(by(with_reducible repeat(first|apply aA|apply aB|apply aC));exact HO147.out),(by(with_reducible repeat(first|apply Kd.N_alloc|apply aY|apply aZ));exact Kd.N_mono HO150.out (fun _ hk=>⟨hk.1.1.1.1.1.1.1.1.1.1.1,⟨hk.1.1.1.1.1.1.1.1.1.2,⟨hk.1.1.1.1.1.1.2,⟨hk.1.1.1.1.1.2,⟨hk.1.1.1.1.2,⟨hk.1.1.1.2,⟨hk.1.1.2,⟨hk.1.2,⟨hk.1.1.1.1.1.1.1.1.2,hk.2⟩⟩⟩⟩⟩⟩⟩⟩⟩)),(by(with_reducible repeat(first|apply Kd.N_alloc|apply aY|apply aZ));exact Kd.N_mono HO156.out (fun _ hk=>⟨hk.1.1.1.1.1.1.1.1.1.1,⟨hk.1.1.1.1.1.1.1.1.1.2,⟨hk.1.1.1.1.1.1.2,⟨hk.1.1.1.1.1.2,⟨hk.1.1.1.1.2,⟨hk.1.1.1.2,⟨hk.1.1.2,⟨hk.1.2,⟨hk.1.1.1.1.1.1.1.1.2,hk.2⟩⟩⟩⟩⟩⟩⟩⟩⟩)),(by(with_reducible repeat(first|apply Kd.N_alloc|apply aY|apply aZ));exact Kd.N_mono HO163.out (fun _ hk=>⟨hk.1.1.1.1.1.1.1,⟨hk.1.1.1.1.1.1.2.1,⟨hk.1.1.1.1.1.1.2.2.1,⟨hk.1.1.1.1.1.2,⟨hk.1.1.1.1.2,⟨hk.1.1.1.2,⟨hk.1.1.2,⟨hk.1.2,⟨hk.1.1.1.1.1.1.2.2.2,hk.2⟩⟩⟩⟩⟩⟩⟩⟩⟩)),(by(with_reducible repeat(first|apply aA|apply aB|apply aC));exact Kd.R_mono HO166.out (fun _ hk=>⟨hk.1.2,hk.2⟩)),(by(with_reducible repeat(first|apply aA|apply aB|apply aC));exact Kd.R_mono HO169.out (fun _ hk=>⟨hk.1.2,hk.2⟩)),(by(with_reducible repeat(first|apply aA|apply aB|apply aC));exact Kd.R_mono HO174.out (fun _ hk=>hk.2)),(by(with_reducible repeat(first|apply aA|apply aB|apply aC));exact Kd.R_mono HO178.out (fun _ hk=>hk.2)),(by(with_reducible repeat(first|apply aA|apply aB|apply aC));exact Kd.R_mono HO182.out (fun _ hk=>⟨hk.1.2,hk.2⟩)),(by(with_reducible repeat(first|refine aJ ?_ _|refine aK ?_|refine aI ?_ _));exact BK157.out),(by(with_reducible repeat(first|refine aJ ?_ _|refine aK ?_|refine aI ?_ _));exact BK184.out),GW184.out,GE184.out,NB157_184.out,NB184_157.out,(by repeat(first|(with_reducible first|exact HB.out|apply aN|apply aP|apply aO|refine aL ?_ GE157.out|refine aL ?_ GE184.out)|exact HB.out))⟩)
       ·skip
        refine box_step ?hg (N:=6) ?hd (cs:=#[.slice none 0 0,.bool false]) (t:=31) ?hr ?_;(case hd=>rfl);(case hg=>rfl);(case hr=>first|(go_simp;done)|(go_simp;rfl))
        intro gb184 hg w47 hbox hb
        have n0_:=aM (aD (by(with_reducible repeat(first|apply aA|apply aB|apply aC));exact HO147.out) hb)
        have n1_:=aM (Kd.N_below (Kd.N_elderB (by(with_reducible repeat(first|apply Kd.N_alloc|apply aY|apply aZ));exact HO150.out) gb184 (Nat.le_of_eq hg.symm)) hb)
        have n2_:=aM (Kd.N_below (Kd.N_elderB (by(with_reducible repeat(first|apply Kd.N_alloc|apply aY|apply aZ));exact HO156.out) gb184 (Nat.le_of_eq hg.symm)) hb)
        have n3_:=aM (Kd.N_below (Kd.N_elderB (by(with_reducible repeat(first|apply Kd.N_alloc|apply aY|apply aZ));exact HO163.out) gb184 (Nat.le_of_eq hg.symm)) hb)
        have n4_:=aM (aD (by(with_reducible repeat(first|apply aA|apply aB|apply aC));exact HO166.out) hb)
        have n5_:=aM (aD (by(with_reducible repeat(first|apply aA|apply aB|apply aC));exact HO169.out) hb)
        have n6_:=aM (aD (by(with_reducible repeat(first|apply aA|apply aB|apply aC));exact HO174.out) hb)
        have n7_:=aM (bF (g:=gb157) (o:= .cells #[.slice Ao31 y145.length co31,.slice Ao30 y148.length co30,.int .i64 0,.int .i64 0,.slice Ao29 y154.length co29] 26 (0,0)) (by(with_reducible repeat(first|refine aJ ?_ _|refine aK ?_|refine aI ?_ _));exact BK157.out) hb)
        have n8_:=aM (bG (by repeat(first|(with_reducible first|exact HB.out|apply aN|apply aP|apply aO|refine aL ?_ GE157.out)|exact HB.out)) hb)
        have n9_:=aM (hbox)
        have n10_:=aM ((by rw [hg];exact(bH (by repeat(first|(with_reducible first|exact HB.out|apply aN|apply aP|apply aO|refine aL ?_ GE157.out)|exact HB.out))):w.heap.size≤gb184))
        have n11_:=aM ((by rw [hg];exact(bH (by repeat(first|(with_reducible first|exact HB.out|apply aN|apply aP|apply aO|refine aL ?_ GE157.out)|exact HB.out))):w.heap.size≤gb184))
        have n12_:=aM ((by rw [hg];exact Nat.ne_of_lt (bN (g:=gb157) (o:= .cells #[.slice Ao31 y145.length co31,.slice Ao30 y148.length co30,.int .i64 0,.int .i64 0,.slice Ao29 y154.length co29] 26 (0,0)) (by(with_reducible repeat(first|refine aJ ?_ _|refine aK ?_|refine aI ?_ _));exact BK157.out)):gb157≠gb184))
        have n13_:=aM ((by rw [hg];exact Nat.ne_of_gt (bN (g:=gb157) (o:= .cells #[.slice Ao31 y145.length co31,.slice Ao30 y148.length co30,.int .i64 0,.int .i64 0,.slice Ao29 y154.length co29] 26 (0,0)) (by(with_reducible repeat(first|refine aJ ?_ _|refine aK ?_|refine aI ?_ _));exact BK157.out)):gb184≠gb157))
        clear HO147
        clear HO150
        clear HO156
        clear HO163
        clear HO166
        clear HO169
        clear HO174
        clear BK157
        clear HB
        have HO147:=n0_
        have HO150:=n1_
        have HO156:=n2_
        have HO163:=n3_
        have HO166:=n4_
        have HO169:=n5_
        have HO174:=n6_
        have BK157:=n7_
        have HB:=n8_
        have BK184:=n9_
        have GW184:=n10_
        have GE184:=n11_
        have NB157_184:=n12_
        have NB184_157:=n13_
        clear n0_ n1_ n2_ n3_ n4_ n5_ n6_ n7_ n8_ n9_ n10_ n11_ n12_ n13_
        clear hb hbox hg
        obtain⟨Ao48,co48,eo48⟩:=Kd.R_slice HO174.out
        (first|subst eo48|(injection eo48 with f1_ f2_ f3_;have f4_:=f1_.symm;have f5_:=f3_.symm;clear f1_ f2_ f3_;subst f4_;subst f5_))
        refine hK.out _ _ ⟨(aG BK157.out 0).trans rfl,(aG BK157.out 1).trans rfl,(aG BK157.out 2).trans rfl,(aG BK157.out 3).trans rfl,(aG BK157.out 4).trans rfl⟩ (fun hHeld=>?_)
        clear hK K
        refine norm_ (a':=?_) ?_ ?_
        rotate_left
        ·show Act.put _ (some 6) _=_
         simp only [pq]
         rfl
        refine one_ (i:=3) (N:=some 35) #[T,T,T,T,F,F,F,F,T,F,F,F] rfl rfl (one_of HT_.out (by kernel_rfl)) (by decide) (fun K hK=>?_)
        refine goes_ Try.func23 (by kernel_rfl) rfl #[.agg #[.slice Ao31 y145.length co31,.slice Ao30 y148.length co30,.int .i64 0,.int .i64 0,.slice Ao29 y154.length co29],.slice Ao42 y161.length co42,.agg #[.slice Ao48 t172.length co48,.bool t175],.int .i64 0] (by rfl) rfl rfl (by(try simp only [List.map_toArray,List.map_cons,List.map_nil]);first|done|rfl|(simp only [List.length_drop,List.length_take];rfl)) ?_
        with_reducible refine(machine_Feed.calls _ _ y145 _ _ y148 0 0 _ _ y154 _ _ y161 _ _ t172 t175 0 t176 t179 t180 t183 _ ?side1 ?side2 ?side3 ?side4 ?side5 ?side6 ?side7 ?side8 ?side9 ?side10 A4.out).mono ?_
        (case side1=>repeat(first|exact(aF HO147.out).2.2|(with_reducible refine Kd.C_alloc ?_ _)|(with_reducible refine Kd.C_drewN ?_ _)|(with_reducible refine bC ?_)))
        (case side2=>exact(aF HO147.out).2.1)
        (case side3=>repeat(first|exact(aT HO150.out).2.2|(with_reducible refine Kd.C_alloc ?_ _)|(with_reducible refine Kd.C_drewN ?_ _)|(with_reducible refine bC ?_)))
        (case side4=>exact(aT HO150.out).2.1)
        (case side5=>repeat(first|exact(aT HO156.out).2.2|(with_reducible refine Kd.C_alloc ?_ _)|(with_reducible refine Kd.C_drewN ?_ _)|(with_reducible refine bC ?_)))
        (case side6=>exact(aT HO156.out).2.1)
        (case side7=>repeat(first|exact(aT HO163.out).2.2|(with_reducible refine Kd.C_alloc ?_ _)|(with_reducible refine Kd.C_drewN ?_ _)|(with_reducible refine bC ?_)))
        (case side8=>exact(aT HO163.out).2.1)
        (case side9=>repeat(first|exact(aF HO174.out).2.2|(with_reducible refine Kd.C_alloc ?_ _)|(with_reducible refine Kd.C_drewN ?_ _)|(with_reducible refine bC ?_)))
        (case side10=>exact(aF HO174.out).2.1)
        rintro e w49 ⟨v177,v181,rfl,ho0,ho1,hb⟩
        refine⟨_,rfl,?_⟩
        have n0_:=aM (aD (by(with_reducible repeat(first|apply aA|apply aB|apply aC));exact HO147.out) hb)
        have n1_:=aM (Kd.N_mono (Kd.N_told (Kd.N_told (Kd.N_old (by(with_reducible repeat(first|apply Kd.N_alloc|apply aY|apply aZ));exact HO150.out) hb) (Kd.R_base ho0)) (Kd.R_base ho1)) (fun _ h_=>h_.1))
        have n2_:=aM (Kd.N_mono (Kd.N_told (Kd.N_told (Kd.N_old (by(with_reducible repeat(first|apply Kd.N_alloc|apply aY|apply aZ));exact HO156.out) hb) (Kd.R_base ho0)) (Kd.R_base ho1)) (fun _ h_=>h_.1))
        have n3_:=aM (Kd.N_mono (Kd.N_told (Kd.N_told (Kd.N_old (by(with_reducible repeat(first|apply Kd.N_alloc|apply aY|apply aZ));exact HO163.out) hb) (Kd.R_base ho0)) (Kd.R_base ho1)) (fun _ h_=>h_.1))
        have n4_:=aM (bE (by(with_reducible repeat(first|apply aA|apply aB|apply aC));exact HO166.out) (Kd.R_base ho1) hb)
        have n5_:=aM (bE (by(with_reducible repeat(first|apply aA|apply aB|apply aC));exact HO169.out) (Kd.R_base ho1) hb)
        have n6_:=aM (bE (by(with_reducible repeat(first|apply aA|apply aB|apply aC));exact HO174.out) (Kd.R_base ho0) hb)
        have n7_:=aM (bL (Kd.R_new' ho0 (Kd.R_lt (by(with_reducible repeat(first|apply aA|apply aB|apply aC));exact HO174.out))) (bH (by repeat(first|(with_reducible first|exact HB.out|apply aN|apply aP|apply aO|refine aL ?_ GE157.out|refine aL ?_ GE184.out)|exact HB.out))))
        have n8_:=aM (bL (Kd.R_new' (Kd.R_new' ho1 (Kd.R_lt (by(with_reducible repeat(first|apply aA|apply aB|apply aC));exact HO166.out))) (Kd.R_lt (by(with_reducible repeat(first|apply aA|apply aB|apply aC));exact HO169.out))) (bH (by repeat(first|(with_reducible first|exact HB.out|apply aN|apply aP|apply aO|refine aL ?_ GE157.out|refine aL ?_ GE184.out)|exact HB.out))))
        have n9_:=aM (bF (g:=gb157) (o:= .cells #[.slice Ao31 y145.length co31,.slice Ao30 y148.length co30,.int .i64 0,.int .i64 0,.slice Ao29 y154.length co29] 26 (0,0)) (by(with_reducible repeat(first|refine aJ ?_ _|refine aK ?_|refine aI ?_ _));exact BK157.out) hb)
        have n10_:=aM (bF (g:=gb184) (o:= .cells #[.slice none 0 0,.bool false] 31 (0,0)) (by(with_reducible repeat(first|refine aJ ?_ _|refine aK ?_|refine aI ?_ _));exact BK184.out) hb)
        have n11_:=aM (bG (by repeat(first|(with_reducible first|exact HB.out|apply aN|apply aP|apply aO|refine aL ?_ GE157.out|refine aL ?_ GE184.out)|exact HB.out)) hb)
        clear HO147
        clear HO150
        clear HO156
        clear HO163
        clear HO166
        clear HO169
        clear HO174
        clear BK157
        clear BK184
        clear HB
        have HO147:=n0_
        have HO150:=n1_
        have HO156:=n2_
        have HO163:=n3_
        have HO166:=n4_
        have HO169:=n5_
        have HO174:=n6_
        have HO178:=n7_
        have HO182:=n8_
        have BK157:=n9_
        have BK184:=n10_
        have HB:=n11_
        clear n0_ n1_ n2_ n3_ n4_ n5_ n6_ n7_ n8_ n9_ n10_ n11_
        (try clear hb);(try clear hb2);(try clear hk);(try clear hi);(try clear ho0);(try clear ho1)
        refine hK.out _ _ ⟨(aG BK157.out 0).trans rfl,(aG BK157.out 1).trans rfl,(aG BK157.out 2).trans rfl,(aG BK157.out 3).trans rfl,(aG BK157.out 4).trans rfl⟩ (fun hHeld=>?_)
        clear hK K
        refine norm_ (a':=?_) ?_ ?_
        rotate_left
        ·show Act.put _ (some 35) _=_
         simp only [pq]
         rfl
        refine pure_ (i:=4) (N:=some 31) (v:=?_) (a':=?_) #[T,T,T,T,T,F,F,F,T,F,F,F] rfl rfl (any_of HT_.out (by kernel_rfl)) (fun _ _ _ h=>h) (Or.inl ⟨by rfl,?_⟩) ?_ ?_
        rotate_left;(intro w';go_simp;with_reducible rfl);rotate_left;(simp only [pq];rfl)
        refine pure_ (i:=5) (N:=some 36) (v:=?_) (a':=?_) #[T,T,T,T,T,T,F,F,T,F,F,F] rfl rfl (any_of HT_.out (by kernel_rfl)) (fun _ _ _ h=>h) (Or.inl ⟨by rfl,?_⟩) ?_ ?_
        rotate_left;(intro w';go_simp;with_reducible rfl);rotate_left;(simp only [pq];rfl)
        refine pure_ (i:=6) (N:=some 37) (v:=?_) (a':=?_) #[T,T,T,T,T,T,T,F,T,F,F,F] rfl rfl (any_of HT_.out (by kernel_rfl)) (fun _ _ _ h=>h) (Or.inl ⟨by rfl,?_⟩) ?_ ?_
        rotate_left;(intro w';go_simp;with_reducible rfl);rotate_left;(simp only [pq];rfl)
        refine pure_ (i:=7) (N:=some 38) (v:=?_) (a':=?_) #[T,T,T,T,T,T,T,T,T,F,F,F] rfl rfl (any_of HT_.out (by kernel_rfl)) (fun _ _ _ h=>h) (Or.inl ⟨by rfl,?_⟩) ?_ ?_
        rotate_left;(intro w';go_simp;with_reducible rfl);rotate_left;(simp only [pq];rfl)
        exact norm_ (by simp only [putAll,Act.put,List.setIfInBounds_toArray,List.set_cons_zero,List.set_cons_succ]) (hCont (.slice Ao48 t172.length co48,v177,v181,gb184) _ ⟨hHeld,(by(with_reducible repeat(first|apply aA|apply aB|apply aC));exact HO147.out),(by(with_reducible repeat(first|apply Kd.N_alloc|apply aY|apply aZ));exact Kd.N_mono HO150.out (fun _ hk=>⟨hk.1.1.1.1.1.1.1.1.1.1.1,⟨hk.1.1.1.1.1.1.1.1.1.2,⟨hk.1.1.1.1.1.1.2,⟨hk.1.1.1.1.1.2,⟨hk.1.1.1.1.2,⟨hk.1.1.1.2,⟨hk.1.2,⟨hk.2,⟨hk.1.1.1.1.1.1.1.1.2,hk.1.1.2⟩⟩⟩⟩⟩⟩⟩⟩⟩)),(by(with_reducible repeat(first|apply Kd.N_alloc|apply aY|apply aZ));exact Kd.N_mono HO156.out (fun _ hk=>⟨hk.1.1.1.1.1.1.1.1.1.1,⟨hk.1.1.1.1.1.1.1.1.1.2,⟨hk.1.1.1.1.1.1.2,⟨hk.1.1.1.1.1.2,⟨hk.1.1.1.1.2,⟨hk.1.1.1.2,⟨hk.1.2,⟨hk.2,⟨hk.1.1.1.1.1.1.1.1.2,hk.1.1.2⟩⟩⟩⟩⟩⟩⟩⟩⟩)),(by(with_reducible repeat(first|apply Kd.N_alloc|apply aY|apply aZ));exact Kd.N_mono HO163.out (fun _ hk=>⟨hk.1.1.1.1.1.1.1,⟨hk.1.1.1.1.1.1.2.1,⟨hk.1.1.1.1.1.1.2.2.1,⟨hk.1.1.1.1.1.2,⟨hk.1.1.1.1.2,⟨hk.1.1.1.2,⟨hk.1.2,⟨hk.2,⟨hk.1.1.1.1.1.1.2.2.2,hk.1.1.2⟩⟩⟩⟩⟩⟩⟩⟩⟩)),(by(with_reducible repeat(first|apply aA|apply aB|apply aC));exact Kd.R_mono HO166.out (fun _ hk=>⟨hk.1.2,hk.2⟩)),(by(with_reducible repeat(first|apply aA|apply aB|apply aC));exact Kd.R_mono HO169.out (fun _ hk=>⟨hk.1.2,hk.2⟩)),(by(with_reducible repeat(first|apply aA|apply aB|apply aC));exact Kd.R_mono HO174.out (fun _ hk=>hk.2)),(by(with_reducible repeat(first|apply aA|apply aB|apply aC));exact Kd.R_mono HO178.out (fun _ hk=>hk.2)),(by(with_reducible repeat(first|apply aA|apply aB|apply aC));exact Kd.R_mono HO182.out (fun _ hk=>⟨hk.1.2,hk.2⟩)),(by(with_reducible repeat(first|refine aJ ?_ _|refine aK ?_|refine aI ?_ _));exact BK157.out),(by(with_reducible repeat(first|refine aJ ?_ _|refine aK ?_|refine aI ?_ _));exact BK184.out),GW184.out,GE184.out,NB157_184.out,NB184_157.out,(by repeat(first|(with_reducible first|exact HB.out|apply aN|apply aP|apply aO|refine aL ?_ GE157.out|refine aL ?_ GE184.out)|exact HB.out))⟩)
      ·skip
       refine box_step ?hg (N:=6) ?hd (cs:=#[.slice none 0 0,.bool false]) (t:=31) ?hr ?_;(case hd=>rfl);(case hg=>rfl);(case hr=>first|(go_simp;done)|(go_simp;rfl))
       intro gb184 hg w46 hbox hb
       have n0_:=aM (aD (by(with_reducible repeat(first|apply aA|apply aB|apply aC));exact HO147.out) hb)
       have n1_:=aM (Kd.N_below (Kd.N_elderB (by(with_reducible repeat(first|apply Kd.N_alloc|apply aY|apply aZ));exact HO150.out) gb184 (Nat.le_of_eq hg.symm)) hb)
       have n2_:=aM (Kd.N_below (Kd.N_elderB (by(with_reducible repeat(first|apply Kd.N_alloc|apply aY|apply aZ));exact HO156.out) gb184 (Nat.le_of_eq hg.symm)) hb)
       have n3_:=aM (Kd.N_below (Kd.N_elderB (by(with_reducible repeat(first|apply Kd.N_alloc|apply aY|apply aZ));exact HO163.out) gb184 (Nat.le_of_eq hg.symm)) hb)
       have n4_:=aM (aD (by(with_reducible repeat(first|apply aA|apply aB|apply aC));exact HO166.out) hb)
       have n5_:=aM (aD (by(with_reducible repeat(first|apply aA|apply aB|apply aC));exact HO169.out) hb)
       have n6_:=aM (bF (g:=gb157) (o:= .cells #[.slice Ao31 y145.length co31,.slice Ao30 y148.length co30,.int .i64 0,.int .i64 0,.slice Ao29 y154.length co29] 26 (0,0)) (by(with_reducible repeat(first|refine aJ ?_ _|refine aK ?_|refine aI ?_ _));exact BK157.out) hb)
       have n7_:=aM (bG (by repeat(first|(with_reducible first|exact HB.out|apply aN|apply aP|apply aO|refine aL ?_ GE157.out)|exact HB.out)) hb)
       have n8_:=aM (hbox)
       have n9_:=aM ((by rw [hg];exact(bH (by repeat(first|(with_reducible first|exact HB.out|apply aN|apply aP|apply aO|refine aL ?_ GE157.out)|exact HB.out))):w.heap.size≤gb184))
       have n10_:=aM ((by rw [hg];exact(bH (by repeat(first|(with_reducible first|exact HB.out|apply aN|apply aP|apply aO|refine aL ?_ GE157.out)|exact HB.out))):w.heap.size≤gb184))
       have n11_:=aM ((by rw [hg];exact Nat.ne_of_lt (bN (g:=gb157) (o:= .cells #[.slice Ao31 y145.length co31,.slice Ao30 y148.length co30,.int .i64 0,.int .i64 0,.slice Ao29 y154.length co29] 26 (0,0)) (by(with_reducible repeat(first|refine aJ ?_ _|refine aK ?_|refine aI ?_ _));exact BK157.out)):gb157≠gb184))
       have n12_:=aM ((by rw [hg];exact Nat.ne_of_gt (bN (g:=gb157) (o:= .cells #[.slice Ao31 y145.length co31,.slice Ao30 y148.length co30,.int .i64 0,.int .i64 0,.slice Ao29 y154.length co29] 26 (0,0)) (by(with_reducible repeat(first|refine aJ ?_ _|refine aK ?_|refine aI ?_ _));exact BK157.out)):gb184≠gb157))
       clear HO147
       clear HO150
       clear HO156
       clear HO163
       clear HO166
       clear HO169
       clear BK157
       clear HB
       have HO147:=n0_
       have HO150:=n1_
       have HO156:=n2_
       have HO163:=n3_
       have HO166:=n4_
       have HO169:=n5_
       have BK157:=n6_
       have HB:=n7_
       have BK184:=n8_
       have GW184:=n9_
       have GE184:=n10_
       have NB157_184:=n11_
       have NB184_157:=n12_
       clear n0_ n1_ n2_ n3_ n4_ n5_ n6_ n7_ n8_ n9_ n10_ n11_ n12_
       clear hb hbox hg
       refine hK.out _ _ ⟨(aG BK157.out 0).trans rfl,(aG BK157.out 1).trans rfl,(aG BK157.out 2).trans rfl,(aG BK157.out 3).trans rfl,(aG BK157.out 4).trans rfl⟩ (fun hHeld=>?_)
       clear hK K
       refine norm_ (a':=?_) ?_ ?_
       rotate_left
       ·show Act.put _ (some 6) _=_
        simp only [pq]
        rfl
       refine one_ (i:=2) (N:=some 34) #[T,T,T,F,F,F,F,F,T,F,F,F] rfl rfl (one_of HT_.out (by kernel_rfl)) (by decide) (fun K hK=>?_)
       refine goes_ Try.func17 (by kernel_rfl) rfl #[] (by rfl) rfl rfl (by(try simp only [List.map_toArray,List.map_cons,List.map_nil]);first|done|rfl|(simp only [List.length_drop,List.length_take];rfl)) ?_
       with_reducible refine(machine_Start.calls  t172 t175 _ A3.out).mono ?_
       rintro e w47 ⟨v173,rfl,ho0,hb⟩
       refine⟨_,rfl,?_⟩
       have n0_:=aM (aD (by(with_reducible repeat(first|apply aA|apply aB|apply aC));exact HO147.out) hb)
       have n1_:=aM (Kd.N_elder' (by(with_reducible repeat(first|apply Kd.N_alloc|apply aY|apply aZ));exact HO150.out) (Kd.R_base ho0) hb)
       have n2_:=aM (Kd.N_elder' (by(with_reducible repeat(first|apply Kd.N_alloc|apply aY|apply aZ));exact HO156.out) (Kd.R_base ho0) hb)
       have n3_:=aM (Kd.N_elder' (by(with_reducible repeat(first|apply Kd.N_alloc|apply aY|apply aZ));exact HO163.out) (Kd.R_base ho0) hb)
       have n4_:=aM (aD (by(with_reducible repeat(first|apply aA|apply aB|apply aC));exact HO166.out) hb)
       have n5_:=aM (aD (by(with_reducible repeat(first|apply aA|apply aB|apply aC));exact HO169.out) hb)
       have n6_:=aM (bL ho0 (bH (by repeat(first|(with_reducible first|exact HB.out|apply aN|apply aP|apply aO|refine aL ?_ GE157.out|refine aL ?_ GE184.out)|exact HB.out))))
       have n7_:=aM (bF (g:=gb157) (o:= .cells #[.slice Ao31 y145.length co31,.slice Ao30 y148.length co30,.int .i64 0,.int .i64 0,.slice Ao29 y154.length co29] 26 (0,0)) (by(with_reducible repeat(first|refine aJ ?_ _|refine aK ?_|refine aI ?_ _));exact BK157.out) hb)
       have n8_:=aM (bF (g:=gb184) (o:= .cells #[.slice none 0 0,.bool false] 31 (0,0)) (by(with_reducible repeat(first|refine aJ ?_ _|refine aK ?_|refine aI ?_ _));exact BK184.out) hb)
       have n9_:=aM (bG (by repeat(first|(with_reducible first|exact HB.out|apply aN|apply aP|apply aO|refine aL ?_ GE157.out|refine aL ?_ GE184.out)|exact HB.out)) hb)
       clear HO147
       clear HO150
       clear HO156
       clear HO163
       clear HO166
       clear HO169
       clear BK157
       clear BK184
       clear HB
       have HO147:=n0_
       have HO150:=n1_
       have HO156:=n2_
       have HO163:=n3_
       have HO166:=n4_
       have HO169:=n5_
       have HO174:=n6_
       have BK157:=n7_
       have BK184:=n8_
       have HB:=n9_
       clear n0_ n1_ n2_ n3_ n4_ n5_ n6_ n7_ n8_ n9_
       (try clear hb);(try clear hb2);(try clear hk);(try clear hi);(try clear ho0)
       obtain⟨Ao48,co48,eo48⟩:=Kd.R_slice HO174.out
       (first|subst eo48|(injection eo48 with f1_ f2_ f3_;have f4_:=f1_.symm;have f5_:=f3_.symm;clear f1_ f2_ f3_;subst f4_;subst f5_))
       refine hK.out _ _ ⟨(aG BK157.out 0).trans rfl,(aG BK157.out 1).trans rfl,(aG BK157.out 2).trans rfl,(aG BK157.out 3).trans rfl,(aG BK157.out 4).trans rfl⟩ (fun hHeld=>?_)
       clear hK K
       refine norm_ (a':=?_) ?_ ?_
       rotate_left
       ·show Act.put _ (some 34) _=_
        simp only [pq]
        rfl
       refine one_ (i:=3) (N:=some 35) #[T,T,T,T,F,F,F,F,T,F,F,F] rfl rfl (one_of HT_.out (by kernel_rfl)) (by decide) (fun K hK=>?_)
       refine goes_ Try.func23 (by kernel_rfl) rfl #[.agg #[.slice Ao31 y145.length co31,.slice Ao30 y148.length co30,.int .i64 0,.int .i64 0,.slice Ao29 y154.length co29],.slice Ao42 y161.length co42,.agg #[.slice Ao48 t172.length co48,.bool t175],.int .i64 0] (by rfl) rfl rfl (by(try simp only [List.map_toArray,List.map_cons,List.map_nil]);first|done|rfl|(simp only [List.length_drop,List.length_take];rfl)) ?_
       with_reducible refine(machine_Feed.calls _ _ y145 _ _ y148 0 0 _ _ y154 _ _ y161 _ _ t172 t175 0 t176 t179 t180 t183 _ ?side1 ?side2 ?side3 ?side4 ?side5 ?side6 ?side7 ?side8 ?side9 ?side10 A4.out).mono ?_
       (case side1=>repeat(first|exact(aF HO147.out).2.2|(with_reducible refine Kd.C_alloc ?_ _)|(with_reducible refine Kd.C_drewN ?_ _)|(with_reducible refine bC ?_)))
       (case side2=>exact(aF HO147.out).2.1)
       (case side3=>repeat(first|exact(aT HO150.out).2.2|(with_reducible refine Kd.C_alloc ?_ _)|(with_reducible refine Kd.C_drewN ?_ _)|(with_reducible refine bC ?_)))
       (case side4=>exact(aT HO150.out).2.1)
       (case side5=>repeat(first|exact(aT HO156.out).2.2|(with_reducible refine Kd.C_alloc ?_ _)|(with_reducible refine Kd.C_drewN ?_ _)|(with_reducible refine bC ?_)))
       (case side6=>exact(aT HO156.out).2.1)
       (case side7=>repeat(first|exact(aT HO163.out).2.2|(with_reducible refine Kd.C_alloc ?_ _)|(with_reducible refine Kd.C_drewN ?_ _)|(with_reducible refine bC ?_)))
       (case side8=>exact(aT HO163.out).2.1)
       (case side9=>repeat(first|exact(aF HO174.out).2.2|(with_reducible refine Kd.C_alloc ?_ _)|(with_reducible refine Kd.C_drewN ?_ _)|(with_reducible refine bC ?_)))
       (case side10=>exact(aF HO174.out).2.1)
       rintro e w49 ⟨v177,v181,rfl,ho0,ho1,hb⟩
       refine⟨_,rfl,?_⟩
       have n0_:=aM (aD (by(with_reducible repeat(first|apply aA|apply aB|apply aC));exact HO147.out) hb)
       have n1_:=aM (Kd.N_mono (Kd.N_told (Kd.N_told (Kd.N_old (by(with_reducible repeat(first|apply Kd.N_alloc|apply aY|apply aZ));exact HO150.out) hb) (Kd.R_base ho0)) (Kd.R_base ho1)) (fun _ h_=>h_.1))
       have n2_:=aM (Kd.N_mono (Kd.N_told (Kd.N_told (Kd.N_old (by(with_reducible repeat(first|apply Kd.N_alloc|apply aY|apply aZ));exact HO156.out) hb) (Kd.R_base ho0)) (Kd.R_base ho1)) (fun _ h_=>h_.1))
       have n3_:=aM (Kd.N_mono (Kd.N_told (Kd.N_told (Kd.N_old (by(with_reducible repeat(first|apply Kd.N_alloc|apply aY|apply aZ));exact HO163.out) hb) (Kd.R_base ho0)) (Kd.R_base ho1)) (fun _ h_=>h_.1))
       have n4_:=aM (bE (by(with_reducible repeat(first|apply aA|apply aB|apply aC));exact HO166.out) (Kd.R_base ho1) hb)
       have n5_:=aM (bE (by(with_reducible repeat(first|apply aA|apply aB|apply aC));exact HO169.out) (Kd.R_base ho1) hb)
       have n6_:=aM (bE (by(with_reducible repeat(first|apply aA|apply aB|apply aC));exact HO174.out) (Kd.R_base ho0) hb)
       have n7_:=aM (bL (Kd.R_new' ho0 (Kd.R_lt (by(with_reducible repeat(first|apply aA|apply aB|apply aC));exact HO174.out))) (bH (by repeat(first|(with_reducible first|exact HB.out|apply aN|apply aP|apply aO|refine aL ?_ GE157.out|refine aL ?_ GE184.out)|exact HB.out))))
       have n8_:=aM (bL (Kd.R_new' (Kd.R_new' ho1 (Kd.R_lt (by(with_reducible repeat(first|apply aA|apply aB|apply aC));exact HO166.out))) (Kd.R_lt (by(with_reducible repeat(first|apply aA|apply aB|apply aC));exact HO169.out))) (bH (by repeat(first|(with_reducible first|exact HB.out|apply aN|apply aP|apply aO|refine aL ?_ GE157.out|refine aL ?_ GE184.out)|exact HB.out))))
       have n9_:=aM (bF (g:=gb157) (o:= .cells #[.slice Ao31 y145.length co31,.slice Ao30 y148.length co30,.int .i64 0,.int .i64 0,.slice Ao29 y154.length co29] 26 (0,0)) (by(with_reducible repeat(first|refine aJ ?_ _|refine aK ?_|refine aI ?_ _));exact BK157.out) hb)
       have n10_:=aM (bF (g:=gb184) (o:= .cells #[.slice none 0 0,.bool false] 31 (0,0)) (by(with_reducible repeat(first|refine aJ ?_ _|refine aK ?_|refine aI ?_ _));exact BK184.out) hb)
       have n11_:=aM (bG (by repeat(first|(with_reducible first|exact HB.out|apply aN|apply aP|apply aO|refine aL ?_ GE157.out|refine aL ?_ GE184.out)|exact HB.out)) hb)
       clear HO147
       clear HO150
       clear HO156
       clear HO163
       clear HO166
       clear HO169
       clear HO174
       clear BK157
       clear BK184
       clear HB
       have HO147:=n0_
       have HO150:=n1_
       have HO156:=n2_
       have HO163:=n3_
       have HO166:=n4_
       have HO169:=n5_
       have HO174:=n6_
       have HO178:=n7_
       have HO182:=n8_
       have BK157:=n9_
       have BK184:=n10_
       have HB:=n11_
       clear n0_ n1_ n2_ n3_ n4_ n5_ n6_ n7_ n8_ n9_ n10_ n11_
       (try clear hb);(try clear hb2);(try clear hk);(try clear hi);(try clear ho0);(try clear ho1)
       refine hK.out _ _ ⟨(aG BK157.out 0).trans rfl,(aG BK157.out 1).trans rfl,(aG BK157.out 2).trans rfl,(aG BK157.out 3).trans rfl,(aG BK157.out 4).trans rfl⟩ (fun hHeld=>?_)
       clear hK K
       refine norm_ (a':=?_) ?_ ?_
       rotate_left
       ·show Act.put _ (some 35) _=_
        simp only [pq]
        rfl
       refine pure_ (i:=4) (N:=some 31) (v:=?_) (a':=?_) #[T,T,T,T,T,F,F,F,T,F,F,F] rfl rfl (any_of HT_.out (by kernel_rfl)) (fun _ _ _ h=>h) (Or.inl ⟨by rfl,?_⟩) ?_ ?_
       rotate_left;(intro w';go_simp;with_reducible rfl);rotate_left;(simp only [pq];rfl)
       refine pure_ (i:=5) (N:=some 36) (v:=?_) (a':=?_) #[T,T,T,T,T,T,F,F,T,F,F,F] rfl rfl (any_of HT_.out (by kernel_rfl)) (fun _ _ _ h=>h) (Or.inl ⟨by rfl,?_⟩) ?_ ?_
       rotate_left;(intro w';go_simp;with_reducible rfl);rotate_left;(simp only [pq];rfl)
       refine pure_ (i:=6) (N:=some 37) (v:=?_) (a':=?_) #[T,T,T,T,T,T,T,F,T,F,F,F] rfl rfl (any_of HT_.out (by kernel_rfl)) (fun _ _ _ h=>h) (Or.inl ⟨by rfl,?_⟩) ?_ ?_
       rotate_left;(intro w';go_simp;with_reducible rfl);rotate_left;(simp only [pq];rfl)
       refine pure_ (i:=7) (N:=some 38) (v:=?_) (a':=?_) #[T,T,T,T,T,T,T,T,T,F,F,F] rfl rfl (any_of HT_.out (by kernel_rfl)) (fun _ _ _ h=>h) (Or.inl ⟨by rfl,?_⟩) ?_ ?_
       rotate_left;(intro w';go_simp;with_reducible rfl);rotate_left;(simp only [pq];rfl)
       exact norm_ (by simp only [putAll,Act.put,List.setIfInBounds_toArray,List.set_cons_zero,List.set_cons_succ]) (hCont (.slice Ao48 t172.length co48,v177,v181,gb184) _ ⟨hHeld,(by(with_reducible repeat(first|apply aA|apply aB|apply aC));exact HO147.out),(by(with_reducible repeat(first|apply Kd.N_alloc|apply aY|apply aZ));exact Kd.N_mono HO150.out (fun _ hk=>⟨hk.1.1.1.1.1.1.1.1.1.1.1,⟨hk.1.1.1.1.1.1.1.1.1.2,⟨hk.1.1.1.1.1.1.2,⟨hk.1.1.1.1.1.2,⟨hk.1.1.1.1.2,⟨hk.1.1.2,⟨hk.1.2,⟨hk.2,⟨hk.1.1.1.1.1.1.1.1.2,hk.1.1.1.2⟩⟩⟩⟩⟩⟩⟩⟩⟩)),(by(with_reducible repeat(first|apply Kd.N_alloc|apply aY|apply aZ));exact Kd.N_mono HO156.out (fun _ hk=>⟨hk.1.1.1.1.1.1.1.1.1.1,⟨hk.1.1.1.1.1.1.1.1.1.2,⟨hk.1.1.1.1.1.1.2,⟨hk.1.1.1.1.1.2,⟨hk.1.1.1.1.2,⟨hk.1.1.2,⟨hk.1.2,⟨hk.2,⟨hk.1.1.1.1.1.1.1.1.2,hk.1.1.1.2⟩⟩⟩⟩⟩⟩⟩⟩⟩)),(by(with_reducible repeat(first|apply Kd.N_alloc|apply aY|apply aZ));exact Kd.N_mono HO163.out (fun _ hk=>⟨hk.1.1.1.1.1.1.1,⟨hk.1.1.1.1.1.1.2.1,⟨hk.1.1.1.1.1.1.2.2.1,⟨hk.1.1.1.1.1.2,⟨hk.1.1.1.1.2,⟨hk.1.1.2,⟨hk.1.2,⟨hk.2,⟨hk.1.1.1.1.1.1.2.2.2,hk.1.1.1.2⟩⟩⟩⟩⟩⟩⟩⟩⟩)),(by(with_reducible repeat(first|apply aA|apply aB|apply aC));exact Kd.R_mono HO166.out (fun _ hk=>⟨hk.1.2,hk.2⟩)),(by(with_reducible repeat(first|apply aA|apply aB|apply aC));exact Kd.R_mono HO169.out (fun _ hk=>⟨hk.1.2,hk.2⟩)),(by(with_reducible repeat(first|apply aA|apply aB|apply aC));exact Kd.R_mono HO174.out (fun _ hk=>hk.2)),(by(with_reducible repeat(first|apply aA|apply aB|apply aC));exact Kd.R_mono HO178.out (fun _ hk=>hk.2)),(by(with_reducible repeat(first|apply aA|apply aB|apply aC));exact Kd.R_mono HO182.out (fun _ hk=>⟨hk.1.2,hk.2⟩)),(by(with_reducible repeat(first|refine aJ ?_ _|refine aK ?_|refine aI ?_ _));exact BK157.out),(by(with_reducible repeat(first|refine aJ ?_ _|refine aK ?_|refine aI ?_ _));exact BK184.out),GW184.out,GE184.out,NB157_184.out,NB184_157.out,(by repeat(first|(with_reducible first|exact HB.out|apply aN|apply aP|apply aO|refine aL ?_ GE157.out|refine aL ?_ GE184.out)|exact HB.out))⟩)
     rintro⟨v173,v177,v181,gb184⟩ w50 ⟨hS_,h0_,h1_,h2_,h3_,h4_,h5_,h6_,h7_,h8_,h9_,h10_,h11_,h12_,h13_,h14_,h15_⟩
     have n0_:Aside0 (Kd.R Kd.string 9 w50 w.heap.size (fun _=>True) (.slice Ao31 y145.length co31) y145):=⟨h0_⟩
     have n1_:Aside0 (Kd.N k72 72 w50 w.heap.size (fun k_=>some k_≠(.slice Ao31 y145.length co31:Value).ownBlock∧some k_≠(.slice Ao29 y154.length co29:Value).ownBlock∧some k_≠(.slice Ao42 y161.length co42:Value).ownBlock∧some k_≠(.slice Ao43 y164.length co43:Value).ownBlock∧some k_≠(v168:Value).ownBlock∧some k_≠(v173:Value).ownBlock∧some k_≠(v177:Value).ownBlock∧some k_≠(v181:Value).ownBlock∧k_≠gb157∧k_≠gb184) (.slice Ao30 y148.length co30) y148):=⟨h1_⟩
     have n2_:Aside0 (Kd.N k35 35 w50 w.heap.size (fun k_=>some k_≠(.slice Ao31 y145.length co31:Value).ownBlock∧some k_≠(.slice Ao30 y148.length co30:Value).ownBlock∧some k_≠(.slice Ao42 y161.length co42:Value).ownBlock∧some k_≠(.slice Ao43 y164.length co43:Value).ownBlock∧some k_≠(v168:Value).ownBlock∧some k_≠(v173:Value).ownBlock∧some k_≠(v177:Value).ownBlock∧some k_≠(v181:Value).ownBlock∧k_≠gb157∧k_≠gb184) (.slice Ao29 y154.length co29) y154):=⟨h2_⟩
     have n3_:Aside0 (Kd.N (Kd.slice 3 (Kd.int .i64)) 32 w50 w.heap.size (fun k_=>some k_≠(.slice Ao31 y145.length co31:Value).ownBlock∧some k_≠(.slice Ao30 y148.length co30:Value).ownBlock∧some k_≠(.slice Ao29 y154.length co29:Value).ownBlock∧some k_≠(.slice Ao43 y164.length co43:Value).ownBlock∧some k_≠(v168:Value).ownBlock∧some k_≠(v173:Value).ownBlock∧some k_≠(v177:Value).ownBlock∧some k_≠(v181:Value).ownBlock∧k_≠gb157∧k_≠gb184) (.slice Ao42 y161.length co42) y161):=⟨h3_⟩
     have n4_:Aside0 (Kd.R (Kd.int .i64) 3 w50 w.heap.size (fun k_=>some k_≠(v168:Value).ownBlock∧some k_≠(v181:Value).ownBlock) (.slice Ao43 y164.length co43) y164):=⟨h4_⟩
     have n5_:Aside0 (Kd.R (Kd.int .i64) 3 w50 w.heap.size (fun k_=>some k_≠(.slice Ao43 y164.length co43:Value).ownBlock∧some k_≠(v181:Value).ownBlock) v168 t167):=⟨h5_⟩
     have n6_:Aside0 (Kd.R k43 43 w50 w.heap.size (fun k_=>some k_≠(v177:Value).ownBlock) v173 t172):=⟨h6_⟩
     have n7_:Aside0 (Kd.R k43 43 w50 w.heap.size (fun k_=>some k_≠(v173:Value).ownBlock) v177 t176):=⟨h7_⟩
     have n8_:Aside0 (Kd.R (Kd.int .i64) 3 w50 w.heap.size (fun k_=>some k_≠(.slice Ao43 y164.length co43:Value).ownBlock∧some k_≠(v168:Value).ownBlock) v181 t180):=⟨h8_⟩
     have n9_:Aside0 (w50.heap[gb157]?=some (.cells #[.slice Ao31 y145.length co31,.slice Ao30 y148.length co30,.int .i64 0,.int .i64 0,.slice Ao29 y154.length co29] 26 (0,0))):=⟨h9_⟩
     have n10_:Aside0 (w50.heap[gb184]?=some (.cells #[.slice none 0 0,.bool false] 31 (0,0))):=⟨h10_⟩
     have n11_:Aside0 (w.heap.size≤gb184):=⟨h11_⟩
     have n12_:Aside0 (w.heap.size≤gb184):=⟨h12_⟩
     have n13_:Aside0 (gb157≠gb184):=⟨h13_⟩
     have n14_:Aside0 (gb184≠gb157):=⟨h14_⟩
     have n15_:Aside0 (Below w.heap.size w w50):=⟨h15_⟩
     clear HO147
     clear HO150
     clear HO156
     clear HO163
     clear HO166
     clear HO169
     clear BK157
     clear HB
     clear h0_ h1_ h2_ h3_ h4_ h5_ h6_ h7_ h8_ h9_ h10_ h11_ h12_ h13_ h14_ h15_
     have HO147:=n0_
     have HO150:=n1_
     have HO156:=n2_
     have HO163:=n3_
     have HO166:=n4_
     have HO169:=n5_
     have HO174:=n6_
     have HO178:=n7_
     have HO182:=n8_
     have BK157:=n9_
     have BK184:=n10_
     have GW184:=n11_
     have GE184:=n12_
     have NB157_184:=n13_
     have NB184_157:=n14_
     have HB:=n15_
     clear n0_ n1_ n2_ n3_ n4_ n5_ n6_ n7_ n8_ n9_ n10_ n11_ n12_ n13_ n14_ n15_
     have hHeld:w50.cell? ⟨gb157,0,none⟩=some (.slice Ao31 y145.length co31)∧w50.cell? ⟨gb157,1,none⟩=some (.slice Ao30 y148.length co30)∧w50.cell? ⟨gb157,2,none⟩=some (.int .i64 0)∧w50.cell? ⟨gb157,3,none⟩=some (.int .i64 0)∧w50.cell? ⟨gb157,4,none⟩=some (.slice Ao29 y154.length co29):=hS_
     obtain⟨Ao51,co51,eo51⟩:=Kd.R_slice HO178.out
     (first|subst eo51|(injection eo51 with f1_ f2_ f3_;have f4_:=f1_.symm;have f5_:=f3_.symm;clear f1_ f2_ f3_;subst f4_;subst f5_))
     refine norm_ (a':=?_) ?_ ?_
     rotate_left
     ·simp only [putAll,Act.put,List.setIfInBounds_toArray,List.set_cons_zero,List.set_cons_succ]
      rfl
     refine one_ (i:=9) (N:=none) #[T,T,T,T,T,T,T,T,T,T,F,F] rfl rfl (one_of HT_.out (by kernel_rfl)) (by decide) (fun K hK=>?_)
     have hs52:w50.cell? ⟨gb184,0,none⟩=some (.slice none 0 0):=(aG BK184.out 0).trans rfl
     have hfs52:=aH BK184.out 0
     have hns52_0:=NB157_184.out
     have hms52_0:=NB184_157.out
     have hs53:w50.cell? ⟨gb184,1,none⟩=some (.bool false):=(aG BK184.out 1).trans rfl
     have hfs53:=aH BK184.out 1
     have hns53_0:=NB157_184.out
     have hms53_0:=NB184_157.out
     refine skip_ (w1:=?_) (by rfl) rfl ?_ ?_
     rotate_left
     ·go_simp
      rfl
     refine hK.out _ _ ⟨((cell_far (p:=⟨gb184,_,none⟩) NB157_184.out _).trans (((cell_far (p:=⟨gb184,_,none⟩) NB157_184.out _).trans (hHeld.1)))),((cell_far (p:=⟨gb184,_,none⟩) NB157_184.out _).trans (((cell_far (p:=⟨gb184,_,none⟩) NB157_184.out _).trans (hHeld.2.1)))),((cell_far (p:=⟨gb184,_,none⟩) NB157_184.out _).trans (((cell_far (p:=⟨gb184,_,none⟩) NB157_184.out _).trans (hHeld.2.2.1)))),((cell_far (p:=⟨gb184,_,none⟩) NB157_184.out _).trans (((cell_far (p:=⟨gb184,_,none⟩) NB157_184.out _).trans (hHeld.2.2.2.1)))),((cell_far (p:=⟨gb184,_,none⟩) NB157_184.out _).trans (((cell_far (p:=⟨gb184,_,none⟩) NB157_184.out _).trans (hHeld.2.2.2.2))))⟩ (fun hHeld=>?_)
     clear hK K
     refine pure_ (i:=10) (N:=some 7) (v:=?_) (a':=?_) #[T,T,T,T,T,T,T,T,T,T,T,F] rfl rfl (any_of HT_.out (by kernel_rfl)) (fun _ _ _ h=>h) (Or.inl ⟨by rfl,?_⟩) ?_ ?_
     rotate_left;(intro w';go_simp;with_reducible rfl);rotate_left;(simp only [pq];rfl)
     refine pure_ (i:=11) (N:=some 8) (v:=?_) (a':=?_) #[T,T,T,T,T,T,T,T,T,T,T,T] rfl rfl (any_of HT_.out (by kernel_rfl)) (fun _ _ _ h=>h) (Or.inl ⟨by rfl,?_⟩) ?_ ?_
     rotate_left;(intro w';go_simp;with_reducible rfl);rotate_left;(simp only [pq];rfl)
     refine done_ (done_of HT_.out (by kernel_rfl)) ?_
     have hnb54:=NB157_184.out
     have hnc54:=NB184_157.out
     have hcz55_0:w50.cell? ⟨gb157,0,none⟩=some (.slice Ao31 y145.length co31):=(aG BK157.out 0).trans rfl
     have hcz55_1:w50.cell? ⟨gb157,1,none⟩=some (.slice Ao30 y148.length co30):=(aG BK157.out 1).trans rfl
     have hcz55_2:w50.cell? ⟨gb157,2,none⟩=some (.int .i64 0):=(aG BK157.out 2).trans rfl
     have hcz55_3:w50.cell? ⟨gb157,3,none⟩=some (.int .i64 0):=(aG BK157.out 3).trans rfl
     have hcz55_4:w50.cell? ⟨gb157,4,none⟩=some (.slice Ao29 y154.length co29):=(aG BK157.out 4).trans rfl
     have hfz55_0:=aH BK157.out 0
     have hfz55_1:=aH BK157.out 1
     have hfz55_2:=aH BK157.out 2
     have hfz55_3:=aH BK157.out 3
     have hfz55_4:=aH BK157.out 4
     try go_wp2_with (first|((with_reducible refine bJ (N:=42) rfl ?_);(try(refine gate_guard (by rfl) ?_;dsimp only));refine Kd.R_lit (Kd.int .i64) _ 3 ?hg (N:=42) ?hd (xs:=([1]:List Int)) (inner:= [.int .i64 1]) (ok:=fun _=>True) (okp:=fun _=>True) ?hr ?hp (fun _ hk=>hk) trivial (Below.refl _ _) (Nat.le_refl _) (by simp) ?_;(case hd=>rfl);(case hg=>rfl);(case hr=>first|(go_simp;done)|(go_simp;rfl));(case hp=>exact(Reps.one (show Kd.M (Kd.int .i64) _ _ _ 1 [.int .i64 1] from rfl) (Reps.none _ _)));intro v186 w56 ho57 hb hg_ hnew_;clear hg_ hnew_;(first|rw [←Ny185.out] at ho57|(simp only [Int.reduceToNat] at ho57;rw [←Ny185.out] at ho57));have n0_:=aM (aD (by(with_reducible repeat(first|apply aA|apply aB|apply aC));exact(Kd.R_mono (aE (p:=⟨gb184,1,none⟩) (aE (p:=⟨gb184,0,none⟩) (Kd.R_types HO147.out BK184.out (by decide)) (fun _ hk=>hk.2) (.slice Ao51 t176.length co51)) (fun _ hk=>hk.2) (.bool t179)) (fun _ h_=>h_.1))) hb);have n1_:=aM (Kd.N_elder' (by(with_reducible repeat(first|apply Kd.N_alloc|apply aY|apply aZ));exact(Kd.N_mono (Kd.N_far (p:=⟨gb184,1,none⟩) (Kd.N_far (p:=⟨gb184,0,none⟩) (Kd.N_mono HO150.out (fun k_ hk=>(⟨hk,hk.2.2.2.2.2.2.2.2.2⟩:_∧k_≠gb184))) (fun _ hk=>hk.2) (.slice Ao51 t176.length co51)) (fun _ hk=>hk.2) (.bool t179)) (fun _ h_=>h_.1))) (Kd.R_base ho57) hb);have n2_:=aM (Kd.N_elder' (by(with_reducible repeat(first|apply Kd.N_alloc|apply aY|apply aZ));exact(Kd.N_mono (Kd.N_far (p:=⟨gb184,1,none⟩) (Kd.N_far (p:=⟨gb184,0,none⟩) (Kd.N_mono HO156.out (fun k_ hk=>(⟨hk,hk.2.2.2.2.2.2.2.2.2⟩:_∧k_≠gb184))) (fun _ hk=>hk.2) (.slice Ao51 t176.length co51)) (fun _ hk=>hk.2) (.bool t179)) (fun _ h_=>h_.1))) (Kd.R_base ho57) hb);have n3_:=aM (Kd.N_elder' (by(with_reducible repeat(first|apply Kd.N_alloc|apply aY|apply aZ));exact(Kd.N_mono (Kd.N_far (p:=⟨gb184,1,none⟩) (Kd.N_far (p:=⟨gb184,0,none⟩) (Kd.N_mono HO163.out (fun k_ hk=>(⟨hk,hk.2.2.2.2.2.2.2.2.2⟩:_∧k_≠gb184))) (fun _ hk=>hk.2) (.slice Ao51 t176.length co51)) (fun _ hk=>hk.2) (.bool t179)) (fun _ h_=>h_.1))) (Kd.R_base ho57) hb);have n4_:=aM (bE (by(with_reducible repeat(first|apply aA|apply aB|apply aC));exact(Kd.R_mono (aE (p:=⟨gb184,1,none⟩) (aE (p:=⟨gb184,0,none⟩) (Kd.R_types HO166.out BK184.out (by decide)) (fun _ hk=>hk.2) (.slice Ao51 t176.length co51)) (fun _ hk=>hk.2) (.bool t179)) (fun _ h_=>h_.1))) (Kd.R_base ho57) hb);have n5_:=aM (bE (by(with_reducible repeat(first|apply aA|apply aB|apply aC));exact(Kd.R_mono (aE (p:=⟨gb184,1,none⟩) (aE (p:=⟨gb184,0,none⟩) (Kd.R_types HO169.out BK184.out (by decide)) (fun _ hk=>hk.2) (.slice Ao51 t176.length co51)) (fun _ hk=>hk.2) (.bool t179)) (fun _ h_=>h_.1))) (Kd.R_base ho57) hb);have n6_:=aM (aD (by(with_reducible repeat(first|apply aA|apply aB|apply aC));exact(Kd.R_mono (aE (p:=⟨gb184,1,none⟩) (aE (p:=⟨gb184,0,none⟩) (Kd.R_types HO174.out BK184.out (by decide)) (fun _ hk=>hk.2) (.slice Ao51 t176.length co51)) (fun _ hk=>hk.2) (.bool t179)) (fun _ h_=>h_.1))) hb);have n7_:=aM (aD (by(with_reducible repeat(first|apply aA|apply aB|apply aC));exact(Kd.R_mono (aE (p:=⟨gb184,1,none⟩) (aE (p:=⟨gb184,0,none⟩) (Kd.R_types HO178.out BK184.out (by decide)) (fun _ hk=>hk.2) (.slice Ao51 t176.length co51)) (fun _ hk=>hk.2) (.bool t179)) (fun _ h_=>h_.1))) hb);have n8_:=aM (bE (by(with_reducible repeat(first|apply aA|apply aB|apply aC));exact(Kd.R_mono (aE (p:=⟨gb184,1,none⟩) (aE (p:=⟨gb184,0,none⟩) (Kd.R_types HO182.out BK184.out (by decide)) (fun _ hk=>hk.2) (.slice Ao51 t176.length co51)) (fun _ hk=>hk.2) (.bool t179)) (fun _ h_=>h_.1))) (Kd.R_base ho57) hb);have n9_:=aM (bL (Kd.R_new' (Kd.R_new' (Kd.R_new' ho57 (Kd.R_lt (by(with_reducible repeat(first|apply aA|apply aB|apply aC));exact(Kd.R_mono (aE (p:=⟨gb184,1,none⟩) (aE (p:=⟨gb184,0,none⟩) (Kd.R_types HO166.out BK184.out (by decide)) (fun _ hk=>hk.2) (.slice Ao51 t176.length co51)) (fun _ hk=>hk.2) (.bool t179)) (fun _ h_=>h_.1))))) (Kd.R_lt (by(with_reducible repeat(first|apply aA|apply aB|apply aC));exact(Kd.R_mono (aE (p:=⟨gb184,1,none⟩) (aE (p:=⟨gb184,0,none⟩) (Kd.R_types HO169.out BK184.out (by decide)) (fun _ hk=>hk.2) (.slice Ao51 t176.length co51)) (fun _ hk=>hk.2) (.bool t179)) (fun _ h_=>h_.1))))) (Kd.R_lt (by(with_reducible repeat(first|apply aA|apply aB|apply aC));exact(Kd.R_mono (aE (p:=⟨gb184,1,none⟩) (aE (p:=⟨gb184,0,none⟩) (Kd.R_types HO182.out BK184.out (by decide)) (fun _ hk=>hk.2) (.slice Ao51 t176.length co51)) (fun _ hk=>hk.2) (.bool t179)) (fun _ h_=>h_.1))))) (bH (by repeat(first|(with_reducible first|exact HB.out|apply aN|apply aP|apply aO|refine aL ?_ GE157.out|refine aL ?_ GE184.out)|exact HB.out))));have n10_:=aM (bF (g:=gb157) (o:= .cells #[.slice Ao31 y145.length co31,.slice Ao30 y148.length co30,.int .i64 0,.int .i64 0,.slice Ao29 y154.length co29] 26 (0,0)) (by(with_reducible repeat(first|refine aJ ?_ _|refine aK ?_|refine aI ?_ _));refine blk_far ?_ NB157_184.out _;(with_reducible repeat(first|refine aJ ?_ _|refine aK ?_|refine aI ?_ _));refine blk_far ?_ NB157_184.out _;(with_reducible repeat(first|refine aJ ?_ _|refine aK ?_|refine aI ?_ _));exact BK157.out) hb);have n11_:=aM (bF (g:=gb184) (o:= .cells #[.slice Ao51 t176.length co51,.bool t179] 31 (0,0)) (by(with_reducible repeat(first|refine aJ ?_ _|refine aK ?_|refine aI ?_ _));refine blk_put (cs:=#[.slice Ao51 t176.length co51,.bool false]) ?_ 1 _ rfl;(with_reducible repeat(first|refine aJ ?_ _|refine aK ?_|refine aI ?_ _));refine blk_put (cs:=#[.slice none 0 0,.bool false]) ?_ 0 _ rfl;(with_reducible repeat(first|refine aJ ?_ _|refine aK ?_|refine aI ?_ _));exact BK184.out) hb);have n12_:=aM (bG (by repeat(first|(with_reducible first|exact HB.out|apply aN|apply aP|apply aO|refine aL ?_ GE157.out|refine aL ?_ GE184.out)|exact HB.out)) hb);clear HO147;clear HO150;clear HO156;clear HO163;clear HO166;clear HO169;clear HO174;clear HO178;clear HO182;clear BK157;clear BK184;clear HB;have HO147:=n0_;have HO150:=n1_;have HO156:=n2_;have HO163:=n3_;have HO166:=n4_;have HO169:=n5_;have HO174:=n6_;have HO178:=n7_;have HO182:=n8_;have HO187:=n9_;have BK157:=n10_;have BK184:=n11_;have HB:=n12_;clear n0_ n1_ n2_ n3_ n4_ n5_ n6_ n7_ n8_ n9_ n10_ n11_ n12_;clear hb ho57;obtain⟨Ao58,co58,eo58⟩:=Kd.R_slice HO187.out;subst eo58)|((with_reducible refine bI (f:=22) rfl ?_);refine goesL_ (some 43) rfl rfl Try.func22 (by kernel_rfl) rfl #[.agg #[.slice Ao31 y145.length co31,.slice Ao30 y148.length co30,.int .i64 0,.int .i64 0,.slice Ao29 y154.length co29],.slice Ao42 y161.length co42,.slice Ao58 y185.length co58] rfl (by(try simp only [List.map_toArray,List.map_cons,List.map_nil]);first|done|rfl|(simp only [List.length_drop,List.length_take];rfl)) ?_;(with_reducible refine(machine_Run.calls k _ _ y145 _ _ y148 0 0 _ _ y154 _ _ y161 _ _ y185 t188 t191 t192 _ ?side1 ?side2 ?side3 ?side4 ?side5 ?side6 ?side7 ?side8 ?side9 ?side10 A5.out).mono ?_);(case side1=>repeat(first|exact(aF HO147.out).2.2|(with_reducible refine Kd.C_alloc ?_ _)|(with_reducible refine Kd.C_drewN ?_ _)|(with_reducible refine bC ?_)));(case side2=>exact(aF HO147.out).2.1);(case side3=>repeat(first|exact(aT HO150.out).2.2|(with_reducible refine Kd.C_alloc ?_ _)|(with_reducible refine Kd.C_drewN ?_ _)|(with_reducible refine bC ?_)));(case side4=>exact(aT HO150.out).2.1);(case side5=>repeat(first|exact(aT HO156.out).2.2|(with_reducible refine Kd.C_alloc ?_ _)|(with_reducible refine Kd.C_drewN ?_ _)|(with_reducible refine bC ?_)));(case side6=>exact(aT HO156.out).2.1);(case side7=>repeat(first|exact(aT HO163.out).2.2|(with_reducible refine Kd.C_alloc ?_ _)|(with_reducible refine Kd.C_drewN ?_ _)|(with_reducible refine bC ?_)));(case side8=>exact(aT HO163.out).2.1);(case side9=>repeat(first|exact(aF HO187.out).2.2|(with_reducible refine Kd.C_alloc ?_ _)|(with_reducible refine Kd.C_drewN ?_ _)|(with_reducible refine bC ?_)));(case side10=>exact(aF HO187.out).2.1);rintro e w59 ⟨v189,rfl,ho0,hb⟩;refine⟨_,rfl,?_⟩;have n0_:=aM (aD (by(with_reducible repeat(first|apply aA|apply aB|apply aC));exact HO147.out) hb);have n1_:=aM (Kd.N_elder' (by(with_reducible repeat(first|apply Kd.N_alloc|apply aY|apply aZ));exact HO150.out) (Kd.R_base ho0) hb);have n2_:=aM (Kd.N_elder' (by(with_reducible repeat(first|apply Kd.N_alloc|apply aY|apply aZ));exact HO156.out) (Kd.R_base ho0) hb);have n3_:=aM (Kd.N_elder' (by(with_reducible repeat(first|apply Kd.N_alloc|apply aY|apply aZ));exact HO163.out) (Kd.R_base ho0) hb);have n4_:=aM (bE (by(with_reducible repeat(first|apply aA|apply aB|apply aC));exact HO166.out) (Kd.R_base ho0) hb);have n5_:=aM (bE (by(with_reducible repeat(first|apply aA|apply aB|apply aC));exact HO169.out) (Kd.R_base ho0) hb);have n6_:=aM (aD (by(with_reducible repeat(first|apply aA|apply aB|apply aC));exact HO174.out) hb);have n7_:=aM (aD (by(with_reducible repeat(first|apply aA|apply aB|apply aC));exact HO178.out) hb);have n8_:=aM (bE (by(with_reducible repeat(first|apply aA|apply aB|apply aC));exact HO182.out) (Kd.R_base ho0) hb);have n9_:=aM (bE (by(with_reducible repeat(first|apply aA|apply aB|apply aC));exact HO187.out) (Kd.R_base ho0) hb);have n10_:=aM (bL (Kd.R_new' (Kd.R_new' (Kd.R_new' (Kd.R_new' ho0 (Kd.R_lt (by(with_reducible repeat(first|apply aA|apply aB|apply aC));exact HO166.out))) (Kd.R_lt (by(with_reducible repeat(first|apply aA|apply aB|apply aC));exact HO169.out))) (Kd.R_lt (by(with_reducible repeat(first|apply aA|apply aB|apply aC));exact HO182.out))) (Kd.R_lt (by(with_reducible repeat(first|apply aA|apply aB|apply aC));exact HO187.out))) (bH (by repeat(first|(with_reducible first|exact HB.out|apply aN|apply aP|apply aO|refine aL ?_ GE157.out|refine aL ?_ GE184.out)|exact HB.out))));have n11_:=aM (bF (g:=gb157) (o:= .cells #[.slice Ao31 y145.length co31,.slice Ao30 y148.length co30,.int .i64 0,.int .i64 0,.slice Ao29 y154.length co29] 26 (0,0)) (by(with_reducible repeat(first|refine aJ ?_ _|refine aK ?_|refine aI ?_ _));exact BK157.out) hb);have n12_:=aM (bF (g:=gb184) (o:= .cells #[.slice Ao51 t176.length co51,.bool t179] 31 (0,0)) (by(with_reducible repeat(first|refine aJ ?_ _|refine aK ?_|refine aI ?_ _));exact BK184.out) hb);have n13_:=aM (bG (by repeat(first|(with_reducible first|exact HB.out|apply aN|apply aP|apply aO|refine aL ?_ GE157.out|refine aL ?_ GE184.out)|exact HB.out)) hb);clear HO147;clear HO150;clear HO156;clear HO163;clear HO166;clear HO169;clear HO174;clear HO178;clear HO182;clear HO187;clear BK157;clear BK184;clear HB;have HO147:=n0_;have HO150:=n1_;have HO156:=n2_;have HO163:=n3_;have HO166:=n4_;have HO169:=n5_;have HO174:=n6_;have HO178:=n7_;have HO182:=n8_;have HO187:=n9_;have HO190:=n10_;have BK157:=n11_;have BK184:=n12_;have HB:=n13_;clear n0_ n1_ n2_ n3_ n4_ n5_ n6_ n7_ n8_ n9_ n10_ n11_ n12_ n13_;(try clear hb);(try clear hb2);(try clear hk);(try clear hi);(try clear ho0)))
     have n0_:=aM (aC HO147.out)
     have n1_:=aM (aZ HO150.out)
     have n2_:=aM (aZ HO156.out)
     have n3_:=aM (aZ HO163.out)
     have n4_:=aM (aC HO166.out)
     have n5_:=aM (aC HO169.out)
     have n6_:=aM (aC HO174.out)
     have n7_:=aM (aC HO178.out)
     have n8_:=aM (aC HO182.out)
     have n9_:=aM (aC HO187.out)
     have n10_:=aM (aC HO190.out)
     have n11_:=aM (aK BK157.out)
     have n12_:=aM (aK BK184.out)
     have n13_:=aM (aO HB.out)
     clear HO147
     clear HO150
     clear HO156
     clear HO163
     clear HO166
     clear HO169
     clear HO174
     clear HO178
     clear HO182
     clear HO187
     clear HO190
     clear BK157
     clear BK184
     clear HB
     have HO147:=n0_
     have HO150:=n1_
     have HO156:=n2_
     have HO163:=n3_
     have HO166:=n4_
     have HO169:=n5_
     have HO174:=n6_
     have HO178:=n7_
     have HO182:=n8_
     have HO187:=n9_
     have HO190:=n10_
     have BK157:=n11_
     have BK184:=n12_
     have HB:=n13_
     clear n0_ n1_ n2_ n3_ n4_ n5_ n6_ n7_ n8_ n9_ n10_ n11_ n12_ n13_
     refine start_ (n:=40) (S:=fun w'=>w'.cell? ⟨gb184,0,none⟩=some (.slice Ao51 t176.length co51)∧w'.cell? ⟨gb184,1,none⟩=some (.bool t179)∧w'.cell? ⟨gb157,0,none⟩=some (.slice Ao31 y145.length co31)∧w'.cell? ⟨gb157,1,none⟩=some (.slice Ao30 y148.length co30)∧w'.cell? ⟨gb157,2,none⟩=some (.int .i64 0)∧w'.cell? ⟨gb157,3,none⟩=some (.int .i64 0)∧w'.cell? ⟨gb157,4,none⟩=some (.slice Ao29 y154.length co29)) (ds:= []) #[F,F,F,F,F,F,F,F,F,F,F,F,F,F,F,F,F,F,F,F,F,F,F,F,F,F,F,F,F,F,F,F,F,F,F,F,F,F,F,F] (by kernel_rfl) rfl rfl ⟨(aG BK184.out 0).trans rfl,(aG BK184.out 1).trans rfl,(aG BK157.out 0).trans rfl,(aG BK157.out 1).trans rfl,(aG BK157.out 2).trans rfl,(aG BK157.out 3).trans rfl,(aG BK157.out 4).trans rfl⟩ (fun hHeld=>?_);refine with_tabW regletlaw16_awake.tab6 regletlaw16_awake.bits6 (fun HT_ HW_=>?_)
     generalize w59.drew=w60 at HO147 HO150 HO156 HO163 HO166 HO169 HO174 HO178 HO182 HO187 HO190 BK157 BK184 HB hHeld ⊢
     refine pure_ (i:=0) (N:=some 47) (v:=?_) (a':=?_) #[T,F,F,F,F,F,F,F,F,F,F,F,F,F,F,F,F,F,F,F,F,F,F,F,F,F,F,F,F,F,F,F,F,F,F,F,F,F,F,F] rfl rfl (any_of HT_.out (by kernel_rfl)) (fun _ _ _ h=>h) (Or.inl ⟨by rfl,?_⟩) ?_ ?_
     rotate_left;(intro w';go_simp;with_reducible rfl);rotate_left;(simp only [pq];rfl)
     refine pure_ (i:=1) (N:=some 48) (v:=?_) (a':=?_) #[T,T,F,F,F,F,F,F,F,F,F,F,F,F,F,F,F,F,F,F,F,F,F,F,F,F,F,F,F,F,F,F,F,F,F,F,F,F,F,F] rfl rfl (any_of HT_.out (by kernel_rfl)) (fun _ _ _ h=>h) (Or.inl ⟨by rfl,?_⟩) ?_ ?_
     rotate_left;(intro w';go_simp;with_reducible rfl);rotate_left;(simp only [pq];rfl)
     refine pure_ (i:=2) (N:=some 49) (v:=?_) (a':=?_) #[T,T,T,F,F,F,F,F,F,F,F,F,F,F,F,F,F,F,F,F,F,F,F,F,F,F,F,F,F,F,F,F,F,F,F,F,F,F,F,F] rfl rfl (any_of HT_.out (by kernel_rfl)) (fun _ _ _ h=>h) (Or.inl ⟨by rfl,?_⟩) ?_ ?_
     rotate_left;(intro w';go_simp;with_reducible rfl);rotate_left;(simp only [pq];rfl)
     refine pure_ (i:=3) (N:=some 50) (v:=?_) (a':=?_) #[T,T,T,T,F,F,F,F,F,F,F,F,F,F,F,F,F,F,F,F,F,F,F,F,F,F,F,F,F,F,F,F,F,F,F,F,F,F,F,F] rfl rfl (any_of HT_.out (by kernel_rfl)) (fun _ _ _ h=>h) (Or.inl ⟨by rfl,?_⟩) ?_ ?_
     rotate_left;(intro w';go_simp;with_reducible rfl);rotate_left;(simp only [pq];rfl)
     refine one_ (i:=4) (N:=some 51) #[T,T,T,T,T,F,F,F,F,F,F,F,F,F,F,F,F,F,F,F,F,F,F,F,F,F,F,F,F,F,F,F,F,F,F,F,F,F,F,F] rfl rfl (one_of HT_.out (by kernel_rfl)) (by decide) (fun K hK=>?_)
     refine Kd.R_lit_step (Kd.int .i64) _ 3 ?hg (N:=51) ?hd (xs:=([0,0,1]:List Int)) (inner:= [.int .i64 0,.int .i64 0,.int .i64 1]) (ok:=fun _=>True) (okp:=fun _=>True) ?hr ?hp (fun _ hk=>hk) trivial (Below.refl _ _) (Nat.le_refl _) (by simp) ?_;(case hd=>rfl);(case hg=>rfl);(case hr=>first|(go_simp;done)|(go_simp;rfl));(case hp=>exact(Reps.one (show Kd.M (Kd.int .i64) _ _ _ 0 [.int .i64 0] from rfl) (Reps.one (show Kd.M (Kd.int .i64) _ _ _ 0 [.int .i64 0] from rfl) (Reps.one (show Kd.M (Kd.int .i64) _ _ _ 1 [.int .i64 1] from rfl) (Reps.none _ _)))))
     intro v194 w61 ho62 hb hg_ hnew_
     clear hg_ hnew_
     (first|rw [←Ny193.out] at ho62|(simp only [Int.reduceToNat] at ho62;rw [←Ny193.out] at ho62))
     have n0_:=aM (aD (by(with_reducible repeat(first|apply aA|apply aB|apply aC));exact HO147.out) hb)
     have n1_:=aM (Kd.N_elder' (by(with_reducible repeat(first|apply Kd.N_alloc|apply aY|apply aZ));exact HO150.out) (Kd.R_base ho62) hb)
     have n2_:=aM (Kd.N_elder' (by(with_reducible repeat(first|apply Kd.N_alloc|apply aY|apply aZ));exact HO156.out) (Kd.R_base ho62) hb)
     have n3_:=aM (Kd.N_elder' (by(with_reducible repeat(first|apply Kd.N_alloc|apply aY|apply aZ));exact HO163.out) (Kd.R_base ho62) hb)
     have n4_:=aM (bE (by(with_reducible repeat(first|apply aA|apply aB|apply aC));exact HO166.out) (Kd.R_base ho62) hb)
     have n5_:=aM (bE (by(with_reducible repeat(first|apply aA|apply aB|apply aC));exact HO169.out) (Kd.R_base ho62) hb)
     have n6_:=aM (aD (by(with_reducible repeat(first|apply aA|apply aB|apply aC));exact HO174.out) hb)
     have n7_:=aM (aD (by(with_reducible repeat(first|apply aA|apply aB|apply aC));exact HO178.out) hb)
     have n8_:=aM (bE (by(with_reducible repeat(first|apply aA|apply aB|apply aC));exact HO182.out) (Kd.R_base ho62) hb)
     have n9_:=aM (bE (by(with_reducible repeat(first|apply aA|apply aB|apply aC));exact HO187.out) (Kd.R_base ho62) hb)
     have n10_:=aM (bE (by(with_reducible repeat(first|apply aA|apply aB|apply aC));exact HO190.out) (Kd.R_base ho62) hb)
     have n11_:=aM (bL (Kd.R_new' (Kd.R_new' (Kd.R_new' (Kd.R_new' (Kd.R_new' ho62 (Kd.R_lt (by(with_reducible repeat(first|apply aA|apply aB|apply aC));exact HO166.out))) (Kd.R_lt (by(with_reducible repeat(first|apply aA|apply aB|apply aC));exact HO169.out))) (Kd.R_lt (by(with_reducible repeat(first|apply aA|apply aB|apply aC));exact HO182.out))) (Kd.R_lt (by(with_reducible repeat(first|apply aA|apply aB|apply aC));exact HO187.out))) (Kd.R_lt (by(with_reducible repeat(first|apply aA|apply aB|apply aC));exact HO190.out))) (bH (by repeat(first|(with_reducible first|exact HB.out|apply aN|apply aP|apply aO|refine aL ?_ GE157.out|refine aL ?_ GE184.out)|exact HB.out))))
     have n12_:=aM (bF (g:=gb157) (o:= .cells #[.slice Ao31 y145.length co31,.slice Ao30 y148.length co30,.int .i64 0,.int .i64 0,.slice Ao29 y154.length co29] 26 (0,0)) (by(with_reducible repeat(first|refine aJ ?_ _|refine aK ?_|refine aI ?_ _));exact BK157.out) hb)
     have n13_:=aM (bF (g:=gb184) (o:= .cells #[.slice Ao51 t176.length co51,.bool t179] 31 (0,0)) (by(with_reducible repeat(first|refine aJ ?_ _|refine aK ?_|refine aI ?_ _));exact BK184.out) hb)
     have n14_:=aM (bG (by repeat(first|(with_reducible first|exact HB.out|apply aN|apply aP|apply aO|refine aL ?_ GE157.out|refine aL ?_ GE184.out)|exact HB.out)) hb)
     clear HO147
     clear HO150
     clear HO156
     clear HO163
     clear HO166
     clear HO169
     clear HO174
     clear HO178
     clear HO182
     clear HO187
     clear HO190
     clear BK157
     clear BK184
     clear HB
     have HO147:=n0_
     have HO150:=n1_
     have HO156:=n2_
     have HO163:=n3_
     have HO166:=n4_
     have HO169:=n5_
     have HO174:=n6_
     have HO178:=n7_
     have HO182:=n8_
     have HO187:=n9_
     have HO190:=n10_
     have HO195:=n11_
     have BK157:=n12_
     have BK184:=n13_
     have HB:=n14_
     clear n0_ n1_ n2_ n3_ n4_ n5_ n6_ n7_ n8_ n9_ n10_ n11_ n12_ n13_ n14_
     clear hb ho62
     obtain⟨Ao63,co63,eo63⟩:=Kd.R_slice HO169.out
     (first|subst eo63|(injection eo63 with f1_ f2_ f3_;have f4_:=f1_.symm;have f5_:=f3_.symm;clear f1_ f2_ f3_;subst f4_;subst f5_))
     obtain⟨Ao64,co64,eo64⟩:=Kd.R_slice HO195.out
     (first|subst eo64|(injection eo64 with f1_ f2_ f3_;have f4_:=f1_.symm;have f5_:=f3_.symm;clear f1_ f2_ f3_;subst f4_;subst f5_))
     refine hK.out _ _ ⟨(aG BK184.out 0).trans rfl,(aG BK184.out 1).trans rfl,(aG BK157.out 0).trans rfl,(aG BK157.out 1).trans rfl,(aG BK157.out 2).trans rfl,(aG BK157.out 3).trans rfl,(aG BK157.out 4).trans rfl⟩ (fun hHeld=>?_)
     clear hK K
     refine norm_ (a':=?_) ?_ ?_
     rotate_left
     ·show Act.put _ (some 51) _=_
      simp only [pq]
      rfl
     refine one_ (i:=5) (N:=some 52) #[T,T,T,T,T,T,F,F,F,F,F,F,F,F,F,F,F,F,F,F,F,F,F,F,F,F,F,F,F,F,F,F,F,F,F,F,F,F,F,F] rfl rfl (one_of HT_.out (by kernel_rfl)) (by decide) (fun K hK=>?_)
     refine goes_ Try.func24 (by kernel_rfl) rfl #[.slice Ao63 t167.length co63,.slice Ao64 y193.length co64] (by rfl) rfl rfl (by(try simp only [List.map_toArray,List.map_cons,List.map_nil]);first|done|rfl|(simp only [List.length_drop,List.length_take];rfl)) ?_
     with_reducible refine(regletref13_SameInts.calls k _ _ t167 _ _ y193 true _ ?side1 ?side2 ?side3 ?side4 A7.out).mono ?_
     (case side1=>repeat(first|exact(aF HO169.out).2.2|(with_reducible refine Kd.C_alloc ?_ _)|(with_reducible refine Kd.C_drewN ?_ _)|(with_reducible refine bC ?_)))
     (case side2=>exact(aF HO169.out).2.1)
     (case side3=>repeat(first|exact(aF HO195.out).2.2|(with_reducible refine Kd.C_alloc ?_ _)|(with_reducible refine Kd.C_drewN ?_ _)|(with_reducible refine bC ?_)))
     (case side4=>exact(aF HO195.out).2.1)
     rintro e w' ⟨rfl,⟨nd,rfl⟩⟩
     refine⟨_,rfl,?_⟩
     refine hK.out _ _ ⟨(aG BK184.out 0).trans rfl,(aG BK184.out 1).trans rfl,(aG BK157.out 0).trans rfl,(aG BK157.out 1).trans rfl,(aG BK157.out 2).trans rfl,(aG BK157.out 3).trans rfl,(aG BK157.out 4).trans rfl⟩ (fun hHeld=>?_)
     clear hK K
     refine norm_ (a':=?_) ?_ ?_
     rotate_left
     ·show Act.put _ (some 52) _=_
      simp only [pq]
      rfl
     refine pure_ (i:=6) (N:=some 53) (v:=?_) (a':=?_) #[T,T,T,T,T,T,T,F,F,F,F,F,F,F,F,F,F,F,F,F,F,F,F,F,F,F,F,F,F,F,F,F,F,F,F,F,F,F,F,F] rfl rfl (any_of HT_.out (by kernel_rfl)) (fun _ _ _ h=>h) (Or.inl ⟨by rfl,?_⟩) ?_ ?_
     rotate_left;(intro w';go_simp;with_reducible rfl);rotate_left;(simp only [pq];rfl)
     refine pure_ (i:=7) (N:=some 54) (v:=?_) (a':=?_) #[T,T,T,T,T,T,T,T,F,F,F,F,F,F,F,F,F,F,F,F,F,F,F,F,F,F,F,F,F,F,F,F,F,F,F,F,F,F,F,F] rfl rfl (any_of HT_.out (by kernel_rfl)) (fun _ _ _ h=>h) (Or.inl ⟨by rfl,?_⟩) ?_ ?_
     rotate_left;(intro w';go_simp;with_reducible rfl);rotate_left;(simp only [pq];rfl)
     refine pure_ (i:=8) (N:=some 55) (v:=?_) (a':=?_) #[T,T,T,T,T,T,T,T,T,F,F,F,F,F,F,F,F,F,F,F,F,F,F,F,F,F,F,F,F,F,F,F,F,F,F,F,F,F,F,F] rfl rfl (any_of HT_.out (by kernel_rfl)) (fun _ _ _ h=>h) (Or.inl ⟨by rfl,?_⟩) ?_ ?_
     rotate_left;(intro w';go_simp;with_reducible rfl);rotate_left;(simp only [pq];rfl)
     refine pure_ (i:=9) (N:=some 56) (v:=?_) (a':=?_) #[T,T,T,T,T,T,T,T,T,T,F,F,F,F,F,F,F,F,F,F,F,F,F,F,F,F,F,F,F,F,F,F,F,F,F,F,F,F,F,F] rfl rfl (any_of HT_.out (by kernel_rfl)) (fun _ _ _ h=>h) (Or.inl ⟨by rfl,?_⟩) ?_ ?_
     rotate_left;(intro w';go_simp;with_reducible rfl);rotate_left;(simp only [pq];rfl)
     refine pure_ (i:=10) (N:=some 57) (v:=?_) (a':=?_) #[T,T,T,T,T,T,T,T,T,T,T,F,F,F,F,F,F,F,F,F,F,F,F,F,F,F,F,F,F,F,F,F,F,F,F,F,F,F,F,F] rfl rfl (any_of HT_.out (by kernel_rfl)) (fun _ _ _ h=>h) (Or.inl ⟨by rfl,?_⟩) ?_ ?_
     rotate_left;(intro w';go_simp;with_reducible rfl);rotate_left;(simp only [pq];rfl)
     refine pure_ (i:=11) (N:=some 58) (v:=?_) (a':=?_) #[T,T,T,T,T,T,T,T,T,T,T,T,F,F,F,F,F,F,F,F,F,F,F,F,F,F,F,F,F,F,F,F,F,F,F,F,F,F,F,F] rfl rfl (any_of HT_.out (by kernel_rfl)) (fun _ _ _ h=>h) (Or.inl ⟨by rfl,?_⟩) ?_ ?_
     rotate_left;(intro w';go_simp;with_reducible rfl);rotate_left;(simp only [pq];rfl)
     refine pure_ (i:=12) (N:=some 59) (v:=?_) (a':=?_) #[T,T,T,T,T,T,T,T,T,T,T,T,T,F,F,F,F,F,F,F,F,F,F,F,F,F,F,F,F,F,F,F,F,F,F,F,F,F,F,F] rfl rfl (any_of HT_.out (by kernel_rfl)) (fun _ _ _ h=>h) (Or.inl ⟨by rfl,?_⟩) ?_ ?_
     rotate_left;(intro w';go_simp;with_reducible rfl);rotate_left;(simp only [pq];rfl)
     refine one_ (i:=13) (N:=some 60) #[T,T,T,T,T,T,T,T,T,T,T,T,T,T,F,F,F,F,F,F,F,F,F,F,F,F,F,F,F,F,F,F,F,F,F,F,F,F,F,F] rfl rfl (one_of HT_.out (by kernel_rfl)) (by decide) (fun K hK=>?_)
     refine Kd.R_lit_step (Kd.int .i64) _ 3 ?hg (N:=60) ?hd (xs:=([0]:List Int)) (inner:= [.int .i64 0]) (ok:=fun _=>True) (okp:=fun _=>True) ?hr ?hp (fun _ hk=>hk) trivial (Below.refl _ _) (Nat.le_refl _) (by simp) ?_;(case hd=>rfl);(case hg=>rfl);(case hr=>first|(go_simp;done)|(go_simp;rfl));(case hp=>exact(Reps.one (show Kd.M (Kd.int .i64) _ _ _ 0 [.int .i64 0] from rfl) (Reps.none _ _)))
     intro v198 w65 ho66 hb hg_ hnew_
     clear hg_ hnew_
     (first|rw [←Ny197.out] at ho66|(simp only [Int.reduceToNat] at ho66;rw [←Ny197.out] at ho66))
     have n0_:=aM (aD (by(with_reducible repeat(first|apply aA|apply aB|apply aC));exact HO147.out) hb)
     have n1_:=aM (Kd.N_elder' (by(with_reducible repeat(first|apply Kd.N_alloc|apply aY|apply aZ));exact HO150.out) (Kd.R_base ho66) hb)
     have n2_:=aM (Kd.N_elder' (by(with_reducible repeat(first|apply Kd.N_alloc|apply aY|apply aZ));exact HO156.out) (Kd.R_base ho66) hb)
     have n3_:=aM (Kd.N_elder' (by(with_reducible repeat(first|apply Kd.N_alloc|apply aY|apply aZ));exact HO163.out) (Kd.R_base ho66) hb)
     have n4_:=aM (bE (by(with_reducible repeat(first|apply aA|apply aB|apply aC));exact HO166.out) (Kd.R_base ho66) hb)
     have n5_:=aM (bE (by(with_reducible repeat(first|apply aA|apply aB|apply aC));exact HO169.out) (Kd.R_base ho66) hb)
     have n6_:=aM (aD (by(with_reducible repeat(first|apply aA|apply aB|apply aC));exact HO174.out) hb)
     have n7_:=aM (aD (by(with_reducible repeat(first|apply aA|apply aB|apply aC));exact HO178.out) hb)
     have n8_:=aM (bE (by(with_reducible repeat(first|apply aA|apply aB|apply aC));exact HO182.out) (Kd.R_base ho66) hb)
     have n9_:=aM (bE (by(with_reducible repeat(first|apply aA|apply aB|apply aC));exact HO187.out) (Kd.R_base ho66) hb)
     have n10_:=aM (bE (by(with_reducible repeat(first|apply aA|apply aB|apply aC));exact HO190.out) (Kd.R_base ho66) hb)
     have n11_:=aM (bE (by(with_reducible repeat(first|apply aA|apply aB|apply aC));exact HO195.out) (Kd.R_base ho66) hb)
     have n12_:=aM (bL (Kd.R_new' (Kd.R_new' (Kd.R_new' (Kd.R_new' (Kd.R_new' (Kd.R_new' ho66 (Kd.R_lt (by(with_reducible repeat(first|apply aA|apply aB|apply aC));exact HO166.out))) (Kd.R_lt (by(with_reducible repeat(first|apply aA|apply aB|apply aC));exact HO169.out))) (Kd.R_lt (by(with_reducible repeat(first|apply aA|apply aB|apply aC));exact HO182.out))) (Kd.R_lt (by(with_reducible repeat(first|apply aA|apply aB|apply aC));exact HO187.out))) (Kd.R_lt (by(with_reducible repeat(first|apply aA|apply aB|apply aC));exact HO190.out))) (Kd.R_lt (by(with_reducible repeat(first|apply aA|apply aB|apply aC));exact HO195.out))) (bH (by repeat(first|(with_reducible first|exact HB.out|apply aN|apply aP|apply aO|refine aL ?_ GE157.out|refine aL ?_ GE184.out)|exact HB.out))))
     have n13_:=aM (bF (g:=gb157) (o:= .cells #[.slice Ao31 y145.length co31,.slice Ao30 y148.length co30,.int .i64 0,.int .i64 0,.slice Ao29 y154.length co29] 26 (0,0)) (by(with_reducible repeat(first|refine aJ ?_ _|refine aK ?_|refine aI ?_ _));exact BK157.out) hb)
     have n14_:=aM (bF (g:=gb184) (o:= .cells #[.slice Ao51 t176.length co51,.bool t179] 31 (0,0)) (by(with_reducible repeat(first|refine aJ ?_ _|refine aK ?_|refine aI ?_ _));exact BK184.out) hb)
     have n15_:=aM (bG (by repeat(first|(with_reducible first|exact HB.out|apply aN|apply aP|apply aO|refine aL ?_ GE157.out|refine aL ?_ GE184.out)|exact HB.out)) hb)
     clear HO147
     clear HO150
     clear HO156
     clear HO163
     clear HO166
     clear HO169
     clear HO174
     clear HO178
     clear HO182
     clear HO187
     clear HO190
     clear HO195
     clear BK157
     clear BK184
     clear HB
     have HO147:=n0_
     have HO150:=n1_
     have HO156:=n2_
     have HO163:=n3_
     have HO166:=n4_
     have HO169:=n5_
     have HO174:=n6_
     have HO178:=n7_
     have HO182:=n8_
     have HO187:=n9_
     have HO190:=n10_
     have HO195:=n11_
     have HO199:=n12_
     have BK157:=n13_
     have BK184:=n14_
     have HB:=n15_
     clear n0_ n1_ n2_ n3_ n4_ n5_ n6_ n7_ n8_ n9_ n10_ n11_ n12_ n13_ n14_ n15_
     clear hb ho66
     obtain⟨Ao67,co67,eo67⟩:=Kd.R_slice HO182.out
     (first|subst eo67|(injection eo67 with f1_ f2_ f3_;have f4_:=f1_.symm;have f5_:=f3_.symm;clear f1_ f2_ f3_;subst f4_;subst f5_))
     obtain⟨Ao68,co68,eo68⟩:=Kd.R_slice HO199.out
     (first|subst eo68|(injection eo68 with f1_ f2_ f3_;have f4_:=f1_.symm;have f5_:=f3_.symm;clear f1_ f2_ f3_;subst f4_;subst f5_))
     refine hK.out _ _ ⟨(aG BK184.out 0).trans rfl,(aG BK184.out 1).trans rfl,(aG BK157.out 0).trans rfl,(aG BK157.out 1).trans rfl,(aG BK157.out 2).trans rfl,(aG BK157.out 3).trans rfl,(aG BK157.out 4).trans rfl⟩ (fun hHeld=>?_)
     clear hK K
     refine norm_ (a':=?_) ?_ ?_
     rotate_left
     ·show Act.put _ (some 60) _=_
      simp only [pq]
      rfl
     refine one_ (i:=14) (N:=some 61) #[T,T,T,T,T,T,T,T,T,T,T,T,T,T,T,F,F,F,F,F,F,F,F,F,F,F,F,F,F,F,F,F,F,F,F,F,F,F,F,F] rfl rfl (one_of HT_.out (by kernel_rfl)) (by decide) (fun K hK=>?_)
     refine goes_ Try.func24 (by kernel_rfl) rfl #[.slice Ao67 t180.length co67,.slice Ao68 y197.length co68] (by rfl) rfl rfl (by(try simp only [List.map_toArray,List.map_cons,List.map_nil]);first|done|rfl|(simp only [List.length_drop,List.length_take];rfl)) ?_
     with_reducible refine(regletref13_SameInts.calls k _ _ t180 _ _ y197 true _ ?side1 ?side2 ?side3 ?side4 A10.out).mono ?_
     (case side1=>repeat(first|exact(aF HO182.out).2.2|(with_reducible refine Kd.C_alloc ?_ _)|(with_reducible refine Kd.C_drewN ?_ _)|(with_reducible refine bC ?_)))
     (case side2=>exact(aF HO182.out).2.1)
     (case side3=>repeat(first|exact(aF HO199.out).2.2|(with_reducible refine Kd.C_alloc ?_ _)|(with_reducible refine Kd.C_drewN ?_ _)|(with_reducible refine bC ?_)))
     (case side4=>exact(aF HO199.out).2.1)
     rintro e w' ⟨rfl,⟨nd,rfl⟩⟩
     refine⟨_,rfl,?_⟩
     refine hK.out _ _ ⟨(aG BK184.out 0).trans rfl,(aG BK184.out 1).trans rfl,(aG BK157.out 0).trans rfl,(aG BK157.out 1).trans rfl,(aG BK157.out 2).trans rfl,(aG BK157.out 3).trans rfl,(aG BK157.out 4).trans rfl⟩ (fun hHeld=>?_)
     clear hK K
     refine norm_ (a':=?_) ?_ ?_
     rotate_left
     ·show Act.put _ (some 61) _=_
      simp only [pq]
      rfl
     refine pure_ (i:=15) (N:=some 62) (v:=?_) (a':=?_) #[T,T,T,T,T,T,T,T,T,T,T,T,T,T,T,T,F,F,F,F,F,F,F,F,F,F,F,F,F,F,F,F,F,F,F,F,F,F,F,F] rfl rfl (any_of HT_.out (by kernel_rfl)) (fun _ _ _ h=>h) (Or.inl ⟨by rfl,?_⟩) ?_ ?_
     rotate_left;(intro w';go_simp;with_reducible rfl);rotate_left;(simp only [pq];rfl)
     refine pure_ (i:=16) (N:=some 63) (v:=?_) (a':=?_) #[T,T,T,T,T,T,T,T,T,T,T,T,T,T,T,T,T,F,F,F,F,F,F,F,F,F,F,F,F,F,F,F,F,F,F,F,F,F,F,F] rfl rfl (any_of HT_.out (by kernel_rfl)) (fun _ _ _ h=>h) (Or.inl ⟨by rfl,?_⟩) ?_ ?_
     rotate_left;(intro w';go_simp;with_reducible rfl);rotate_left;(simp only [pq];rfl)
     refine take_ (i:=17) (N:=some 64) (v:=?_) (a':=?_) #[T,T,T,T,T,T,T,T,T,T,T,T,T,T,T,T,T,T,F,F,F,F,F,F,F,F,F,F,F,F,F,F,F,F,F,F,F,F,F,F] rfl rfl (take_ofW HT_.out HW_.out (by kernel_rfl)) (fun _ _ _ h=>h) (Or.inl ⟨by rfl,?_⟩) hHeld ?_ ?_
     rotate_left
     ·rintro w' ⟨s0,s1,s2,s3,s4,s5,s6⟩
      go_simp
      with_reducible rfl
     rotate_left
     ·simp only [pq]
      rfl
     refine one_ (i:=18) (N:=some 65) #[T,T,T,T,T,T,T,T,T,T,T,T,T,T,T,T,T,T,T,F,F,F,F,F,F,F,F,F,F,F,F,F,F,F,F,F,F,F,F,F] rfl rfl (one_of HT_.out (by kernel_rfl)) (by decide) (fun K hK=>?_)
     refine goes_ Try.func17 (by kernel_rfl) rfl #[] (by rfl) rfl rfl (by(try simp only [List.map_toArray,List.map_cons,List.map_nil]);first|done|rfl|(simp only [List.length_drop,List.length_take];rfl)) ?_
     with_reducible refine(machine_Start.calls  t201 t204 _ A12.out).mono ?_
     rintro e w69 ⟨v202,rfl,ho0,hb⟩
     refine⟨_,rfl,?_⟩
     have n0_:=aM (aD (by(with_reducible repeat(first|apply aA|apply aB|apply aC));exact HO147.out) hb)
     have n1_:=aM (Kd.N_elder' (by(with_reducible repeat(first|apply Kd.N_alloc|apply aY|apply aZ));exact HO150.out) (Kd.R_base ho0) hb)
     have n2_:=aM (Kd.N_elder' (by(with_reducible repeat(first|apply Kd.N_alloc|apply aY|apply aZ));exact HO156.out) (Kd.R_base ho0) hb)
     have n3_:=aM (Kd.N_elder' (by(with_reducible repeat(first|apply Kd.N_alloc|apply aY|apply aZ));exact HO163.out) (Kd.R_base ho0) hb)
     have n4_:=aM (aD (by(with_reducible repeat(first|apply aA|apply aB|apply aC));exact HO166.out) hb)
     have n5_:=aM (aD (by(with_reducible repeat(first|apply aA|apply aB|apply aC));exact HO169.out) hb)
     have n6_:=aM (bE (by(with_reducible repeat(first|apply aA|apply aB|apply aC));exact HO174.out) (Kd.R_base ho0) hb)
     have n7_:=aM (bE (by(with_reducible repeat(first|apply aA|apply aB|apply aC));exact HO178.out) (Kd.R_base ho0) hb)
     have n8_:=aM (aD (by(with_reducible repeat(first|apply aA|apply aB|apply aC));exact HO182.out) hb)
     have n9_:=aM (aD (by(with_reducible repeat(first|apply aA|apply aB|apply aC));exact HO187.out) hb)
     have n10_:=aM (aD (by(with_reducible repeat(first|apply aA|apply aB|apply aC));exact HO190.out) hb)
     have n11_:=aM (aD (by(with_reducible repeat(first|apply aA|apply aB|apply aC));exact HO195.out) hb)
     have n12_:=aM (aD (by(with_reducible repeat(first|apply aA|apply aB|apply aC));exact HO199.out) hb)
     have n13_:=aM (bL (Kd.R_new' (Kd.R_new' ho0 (Kd.R_lt (by(with_reducible repeat(first|apply aA|apply aB|apply aC));exact HO174.out))) (Kd.R_lt (by(with_reducible repeat(first|apply aA|apply aB|apply aC));exact HO178.out))) (bH (by repeat(first|(with_reducible first|exact HB.out|apply aN|apply aP|apply aO|refine aL ?_ GE157.out|refine aL ?_ GE184.out)|exact HB.out))))
     have n14_:=aM (bF (g:=gb157) (o:= .cells #[.slice Ao31 y145.length co31,.slice Ao30 y148.length co30,.int .i64 0,.int .i64 0,.slice Ao29 y154.length co29] 26 (0,0)) (by(with_reducible repeat(first|refine aJ ?_ _|refine aK ?_|refine aI ?_ _));exact BK157.out) hb)
     have n15_:=aM (bF (g:=gb184) (o:= .cells #[.slice Ao51 t176.length co51,.bool t179] 31 (0,0)) (by(with_reducible repeat(first|refine aJ ?_ _|refine aK ?_|refine aI ?_ _));exact BK184.out) hb)
     have n16_:=aM (bG (by repeat(first|(with_reducible first|exact HB.out|apply aN|apply aP|apply aO|refine aL ?_ GE157.out|refine aL ?_ GE184.out)|exact HB.out)) hb)
     clear HO147
     clear HO150
     clear HO156
     clear HO163
     clear HO166
     clear HO169
     clear HO174
     clear HO178
     clear HO182
     clear HO187
     clear HO190
     clear HO195
     clear HO199
     clear BK157
     clear BK184
     clear HB
     have HO147:=n0_
     have HO150:=n1_
     have HO156:=n2_
     have HO163:=n3_
     have HO166:=n4_
     have HO169:=n5_
     have HO174:=n6_
     have HO178:=n7_
     have HO182:=n8_
     have HO187:=n9_
     have HO190:=n10_
     have HO195:=n11_
     have HO199:=n12_
     have HO203:=n13_
     have BK157:=n14_
     have BK184:=n15_
     have HB:=n16_
     clear n0_ n1_ n2_ n3_ n4_ n5_ n6_ n7_ n8_ n9_ n10_ n11_ n12_ n13_ n14_ n15_ n16_
     (try clear hb);(try clear hb2);(try clear hk);(try clear hi);(try clear ho0)
     obtain⟨Ao70,co70,eo70⟩:=Kd.R_slice HO203.out
     (first|subst eo70|(injection eo70 with f1_ f2_ f3_;have f4_:=f1_.symm;have f5_:=f3_.symm;clear f1_ f2_ f3_;subst f4_;subst f5_))
     refine hK.out _ _ ⟨(aG BK184.out 0).trans rfl,(aG BK184.out 1).trans rfl,(aG BK157.out 0).trans rfl,(aG BK157.out 1).trans rfl,(aG BK157.out 2).trans rfl,(aG BK157.out 3).trans rfl,(aG BK157.out 4).trans rfl⟩ (fun hHeld=>?_)
     clear hK K
     refine norm_ (a':=?_) ?_ ?_
     rotate_left
     ·show Act.put _ (some 65) _=_
      simp only [pq]
      rfl
     refine one_ (i:=19) (N:=some 66) #[T,T,T,T,T,T,T,T,T,T,T,T,T,T,T,T,T,T,T,T,F,F,F,F,F,F,F,F,F,F,F,F,F,F,F,F,F,F,F,F] rfl rfl (one_of HT_.out (by kernel_rfl)) (by decide) (fun K hK=>?_)
     refine goes_ Try.func16 (by kernel_rfl) rfl #[.agg #[.slice Ao51 t176.length co51,.bool t179],.agg #[.slice Ao70 t201.length co70,.bool t204]] (by rfl) rfl rfl (by(try simp only [List.map_toArray,List.map_cons,List.map_nil]);first|done|rfl|(simp only [List.length_drop,List.length_take];rfl)) ?_
     with_reducible refine(regletref16_Same.calls k _ _ t176 t179 _ _ t201 t204 true _ ?side1 ?side2 ?side3 ?side4 A13.out).mono ?_
     (case side1=>repeat(first|exact(aF HO178.out).2.2|(with_reducible refine Kd.C_alloc ?_ _)|(with_reducible refine Kd.C_drewN ?_ _)|(with_reducible refine bC ?_)))
     (case side2=>exact(aF HO178.out).2.1)
     (case side3=>repeat(first|exact(aF HO203.out).2.2|(with_reducible refine Kd.C_alloc ?_ _)|(with_reducible refine Kd.C_drewN ?_ _)|(with_reducible refine bC ?_)))
     (case side4=>exact(aF HO203.out).2.1)
     rintro e w71 ⟨rfl,hb⟩
     refine⟨_,rfl,?_⟩
     have n0_:=aM (aD (by(with_reducible repeat(first|apply aA|apply aB|apply aC));exact HO147.out) hb)
     have n1_:=aM (Kd.N_below (by(with_reducible repeat(first|apply Kd.N_alloc|apply aY|apply aZ));exact HO150.out) hb)
     have n2_:=aM (Kd.N_below (by(with_reducible repeat(first|apply Kd.N_alloc|apply aY|apply aZ));exact HO156.out) hb)
     have n3_:=aM (Kd.N_below (by(with_reducible repeat(first|apply Kd.N_alloc|apply aY|apply aZ));exact HO163.out) hb)
     have n4_:=aM (aD (by(with_reducible repeat(first|apply aA|apply aB|apply aC));exact HO166.out) hb)
     have n5_:=aM (aD (by(with_reducible repeat(first|apply aA|apply aB|apply aC));exact HO169.out) hb)
     have n6_:=aM (aD (by(with_reducible repeat(first|apply aA|apply aB|apply aC));exact HO174.out) hb)
     have n7_:=aM (aD (by(with_reducible repeat(first|apply aA|apply aB|apply aC));exact HO178.out) hb)
     have n8_:=aM (aD (by(with_reducible repeat(first|apply aA|apply aB|apply aC));exact HO182.out) hb)
     have n9_:=aM (aD (by(with_reducible repeat(first|apply aA|apply aB|apply aC));exact HO187.out) hb)
     have n10_:=aM (aD (by(with_reducible repeat(first|apply aA|apply aB|apply aC));exact HO190.out) hb)
     have n11_:=aM (aD (by(with_reducible repeat(first|apply aA|apply aB|apply aC));exact HO195.out) hb)
     have n12_:=aM (aD (by(with_reducible repeat(first|apply aA|apply aB|apply aC));exact HO199.out) hb)
     have n13_:=aM (aD (by(with_reducible repeat(first|apply aA|apply aB|apply aC));exact HO203.out) hb)
     have n14_:=aM (bF (g:=gb157) (o:= .cells #[.slice Ao31 y145.length co31,.slice Ao30 y148.length co30,.int .i64 0,.int .i64 0,.slice Ao29 y154.length co29] 26 (0,0)) (by(with_reducible repeat(first|refine aJ ?_ _|refine aK ?_|refine aI ?_ _));exact BK157.out) hb)
     have n15_:=aM (bF (g:=gb184) (o:= .cells #[.slice Ao51 t176.length co51,.bool t179] 31 (0,0)) (by(with_reducible repeat(first|refine aJ ?_ _|refine aK ?_|refine aI ?_ _));exact BK184.out) hb)
     have n16_:=aM (bG (by repeat(first|(with_reducible first|exact HB.out|apply aN|apply aP|apply aO|refine aL ?_ GE157.out|refine aL ?_ GE184.out)|exact HB.out)) hb)
     clear HO147
     clear HO150
     clear HO156
     clear HO163
     clear HO166
     clear HO169
     clear HO174
     clear HO178
     clear HO182
     clear HO187
     clear HO190
     clear HO195
     clear HO199
     clear HO203
     clear BK157
     clear BK184
     clear HB
     have HO147:=n0_
     have HO150:=n1_
     have HO156:=n2_
     have HO163:=n3_
     have HO166:=n4_
     have HO169:=n5_
     have HO174:=n6_
     have HO178:=n7_
     have HO182:=n8_
     have HO187:=n9_
     have HO190:=n10_
     have HO195:=n11_
     have HO199:=n12_
     have HO203:=n13_
     have BK157:=n14_
     have BK184:=n15_
     have HB:=n16_
     clear n0_ n1_ n2_ n3_ n4_ n5_ n6_ n7_ n8_ n9_ n10_ n11_ n12_ n13_ n14_ n15_ n16_
     (try clear hb);(try clear hb2);(try clear hk);(try clear hi)
     refine hK.out _ _ ⟨(aG BK184.out 0).trans rfl,(aG BK184.out 1).trans rfl,(aG BK157.out 0).trans rfl,(aG BK157.out 1).trans rfl,(aG BK157.out 2).trans rfl,(aG BK157.out 3).trans rfl,(aG BK157.out 4).trans rfl⟩ (fun hHeld=>?_)
     clear hK K
     refine norm_ (a':=?_) ?_ ?_
     rotate_left
     ·show Act.put _ (some 66) _=_
      simp only [pq]
      rfl
     refine pure_ (i:=20) (N:=some 67) (v:=?_) (a':=?_) #[T,T,T,T,T,T,T,T,T,T,T,T,T,T,T,T,T,T,T,T,T,F,F,F,F,F,F,F,F,F,F,F,F,F,F,F,F,F,F,F] rfl rfl (any_of HT_.out (by kernel_rfl)) (fun _ _ _ h=>h) (Or.inl ⟨by rfl,?_⟩) ?_ ?_
     rotate_left;(intro w';go_simp;with_reducible rfl);rotate_left;(simp only [pq];rfl)
     refine pure_ (i:=21) (N:=some 68) (v:=?_) (a':=?_) #[T,T,T,T,T,T,T,T,T,T,T,T,T,T,T,T,T,T,T,T,T,T,F,F,F,F,F,F,F,F,F,F,F,F,F,F,F,F,F,F] rfl rfl (any_of HT_.out (by kernel_rfl)) (fun _ _ _ h=>h) (Or.inl ⟨by rfl,?_⟩) ?_ ?_
     rotate_left;(intro w';go_simp;with_reducible rfl);rotate_left;(simp only [pq];rfl)
     refine pure_ (i:=22) (N:=some 69) (v:=?_) (a':=?_) #[T,T,T,T,T,T,T,T,T,T,T,T,T,T,T,T,T,T,T,T,T,T,T,F,F,F,F,F,F,F,F,F,F,F,F,F,F,F,F,F] rfl rfl (any_of HT_.out (by kernel_rfl)) (fun _ _ _ h=>h) (Or.inl ⟨by rfl,?_⟩) ?_ ?_
     rotate_left;(intro w';go_simp;with_reducible rfl);rotate_left;(simp only [pq];rfl)
     refine pure_ (i:=23) (N:=some 70) (v:=?_) (a':=?_) #[T,T,T,T,T,T,T,T,T,T,T,T,T,T,T,T,T,T,T,T,T,T,T,T,F,F,F,F,F,F,F,F,F,F,F,F,F,F,F,F] rfl rfl (any_of HT_.out (by kernel_rfl)) (fun _ _ _ h=>h) (Or.inl ⟨by rfl,?_⟩) ?_ ?_
     rotate_left;(intro w';go_simp;with_reducible rfl);rotate_left;(simp only [pq];rfl)
     refine pure_ (i:=24) (N:=some 71) (v:=?_) (a':=?_) #[T,T,T,T,T,T,T,T,T,T,T,T,T,T,T,T,T,T,T,T,T,T,T,T,T,F,F,F,F,F,F,F,F,F,F,F,F,F,F,F] rfl rfl (any_of HT_.out (by kernel_rfl)) (fun _ _ _ h=>h) (Or.inl ⟨by rfl,?_⟩) ?_ ?_
     rotate_left;(intro w';go_simp;with_reducible rfl);rotate_left;(simp only [pq];rfl)
     refine pure_ (i:=25) (N:=some 72) (v:=?_) (a':=?_) #[T,T,T,T,T,T,T,T,T,T,T,T,T,T,T,T,T,T,T,T,T,T,T,T,T,T,F,F,F,F,F,F,F,F,F,F,F,F,F,F] rfl rfl (any_of HT_.out (by kernel_rfl)) (fun _ _ _ h=>h) (Or.inl ⟨by rfl,?_⟩) ?_ ?_
     rotate_left;(intro w';go_simp;with_reducible rfl);rotate_left;(simp only [pq];rfl)
     refine pure_ (i:=26) (N:=some 73) (v:=?_) (a':=?_) #[T,T,T,T,T,T,T,T,T,T,T,T,T,T,T,T,T,T,T,T,T,T,T,T,T,T,T,F,F,F,F,F,F,F,F,F,F,F,F,F] rfl rfl (any_of HT_.out (by kernel_rfl)) (fun _ _ _ h=>h) (Or.inl ⟨by rfl,?_⟩) ?_ ?_
     rotate_left;(intro w';go_simp;with_reducible rfl);rotate_left;(simp only [pq];rfl)
     refine pure_ (i:=27) (N:=some 74) (v:=?_) (a':=?_) #[T,T,T,T,T,T,T,T,T,T,T,T,T,T,T,T,T,T,T,T,T,T,T,T,T,T,T,T,F,F,F,F,F,F,F,F,F,F,F,F] rfl rfl (any_of HT_.out (by kernel_rfl)) (fun _ _ _ h=>h) (Or.inl ⟨by rfl,?_⟩) ?_ ?_
     rotate_left;(intro w';go_simp;with_reducible rfl);rotate_left;(simp only [pq];rfl)
     refine pure_ (i:=28) (N:=some 75) (v:=?_) (a':=?_) #[T,T,T,T,T,T,T,T,T,T,T,T,T,T,T,T,T,T,T,T,T,T,T,T,T,T,T,T,T,F,F,F,F,F,F,F,F,F,F,F] rfl rfl (any_of HT_.out (by kernel_rfl)) (fun _ _ _ h=>h) (Or.inl ⟨by rfl,?_⟩) ?_ ?_
     rotate_left;(intro w';go_simp;with_reducible rfl);rotate_left;(simp only [pq];rfl)
     refine pure_ (i:=29) (N:=some 76) (v:=?_) (a':=?_) #[T,T,T,T,T,T,T,T,T,T,T,T,T,T,T,T,T,T,T,T,T,T,T,T,T,T,T,T,T,T,F,F,F,F,F,F,F,F,F,F] rfl rfl (any_of HT_.out (by kernel_rfl)) (fun _ _ _ h=>h) (Or.inl ⟨by rfl,?_⟩) ?_ ?_
     rotate_left;(intro w';go_simp;with_reducible rfl);rotate_left;(simp only [pq];rfl)
     refine pure_ (i:=31) (N:=some 78) (v:=?_) (a':=?_) #[T,T,T,T,T,T,T,T,T,T,T,T,T,T,T,T,T,T,T,T,T,T,T,T,T,T,T,T,T,T,F,T,F,F,F,F,F,F,F,F] rfl rfl (any_of HT_.out (by kernel_rfl)) (fun _ _ _ h=>h) (Or.inl ⟨by rfl,?_⟩) ?_ ?_
     rotate_left;(intro w';go_simp;with_reducible rfl);rotate_left;(simp only [pq];rfl)
     refine take_ (i:=30) (N:=some 77) (v:=?_) (a':=?_) #[T,T,T,T,T,T,T,T,T,T,T,T,T,T,T,T,T,T,T,T,T,T,T,T,T,T,T,T,T,T,T,T,F,F,F,F,F,F,F,F] rfl rfl (take_ofW HT_.out HW_.out (by kernel_rfl)) (fun _ _ _ h=>h) (Or.inl ⟨by rfl,?_⟩) hHeld ?_ ?_
     rotate_left
     ·rintro w' ⟨s0,s1,s2,s3,s4,s5,s6⟩
      go_simp
      with_reducible rfl
     rotate_left
     ·simp only [pq]
      rfl
     refine one_ (i:=32) (N:=some 79) #[T,T,T,T,T,T,T,T,T,T,T,T,T,T,T,T,T,T,T,T,T,T,T,T,T,T,T,T,T,T,T,T,T,F,F,F,F,F,F,F] rfl rfl (one_of HT_.out (by kernel_rfl)) (by decide) (fun K hK=>?_)
     refine goes_ Try.func25 (by kernel_rfl) rfl #[.agg #[.slice Ao31 y145.length co31,.slice Ao30 y148.length co30,.int .i64 0,.int .i64 0,.slice Ao29 y154.length co29],.slice Ao42 y161.length co42] (by rfl) rfl rfl (by(try simp only [List.map_toArray,List.map_cons,List.map_nil]);first|done|rfl|(simp only [List.length_drop,List.length_take];rfl)) ?_
     with_reducible refine(machine_Right.calls _ _ y145 _ _ y148 0 0 _ _ y154 _ _ y161 true _ ?side1 ?side2 ?side3 ?side4 ?side5 ?side6 ?side7 ?side8 A17.out).mono ?_
     (case side1=>repeat(first|exact(aF HO147.out).2.2|(with_reducible refine Kd.C_alloc ?_ _)|(with_reducible refine Kd.C_drewN ?_ _)|(with_reducible refine bC ?_)))
     (case side2=>exact(aF HO147.out).2.1)
     (case side3=>repeat(first|exact(aT HO150.out).2.2|(with_reducible refine Kd.C_alloc ?_ _)|(with_reducible refine Kd.C_drewN ?_ _)|(with_reducible refine bC ?_)))
     (case side4=>exact(aT HO150.out).2.1)
     (case side5=>repeat(first|exact(aT HO156.out).2.2|(with_reducible refine Kd.C_alloc ?_ _)|(with_reducible refine Kd.C_drewN ?_ _)|(with_reducible refine bC ?_)))
     (case side6=>exact(aT HO156.out).2.1)
     (case side7=>repeat(first|exact(aT HO163.out).2.2|(with_reducible refine Kd.C_alloc ?_ _)|(with_reducible refine Kd.C_drewN ?_ _)|(with_reducible refine bC ?_)))
     (case side8=>exact(aT HO163.out).2.1)
     rintro e w72 ⟨rfl,hb⟩
     refine⟨_,rfl,?_⟩
     have n0_:=aM (aD (by(with_reducible repeat(first|apply aA|apply aB|apply aC));exact HO147.out) hb)
     have n1_:=aM (Kd.N_below (by(with_reducible repeat(first|apply Kd.N_alloc|apply aY|apply aZ));exact HO150.out) hb)
     have n2_:=aM (Kd.N_below (by(with_reducible repeat(first|apply Kd.N_alloc|apply aY|apply aZ));exact HO156.out) hb)
     have n3_:=aM (Kd.N_below (by(with_reducible repeat(first|apply Kd.N_alloc|apply aY|apply aZ));exact HO163.out) hb)
     have n4_:=aM (aD (by(with_reducible repeat(first|apply aA|apply aB|apply aC));exact HO166.out) hb)
     have n5_:=aM (aD (by(with_reducible repeat(first|apply aA|apply aB|apply aC));exact HO169.out) hb)
     have n6_:=aM (aD (by(with_reducible repeat(first|apply aA|apply aB|apply aC));exact HO174.out) hb)
     have n7_:=aM (aD (by(with_reducible repeat(first|apply aA|apply aB|apply aC));exact HO178.out) hb)
     have n8_:=aM (aD (by(with_reducible repeat(first|apply aA|apply aB|apply aC));exact HO182.out) hb)
     have n9_:=aM (aD (by(with_reducible repeat(first|apply aA|apply aB|apply aC));exact HO187.out) hb)
     have n10_:=aM (aD (by(with_reducible repeat(first|apply aA|apply aB|apply aC));exact HO190.out) hb)
     have n11_:=aM (aD (by(with_reducible repeat(first|apply aA|apply aB|apply aC));exact HO195.out) hb)
     have n12_:=aM (aD (by(with_reducible repeat(first|apply aA|apply aB|apply aC));exact HO199.out) hb)
     have n13_:=aM (aD (by(with_reducible repeat(first|apply aA|apply aB|apply aC));exact HO203.out) hb)
     have n14_:=aM (bF (g:=gb157) (o:= .cells #[.slice Ao31 y145.length co31,.slice Ao30 y148.length co30,.int .i64 0,.int .i64 0,.slice Ao29 y154.length co29] 26 (0,0)) (by(with_reducible repeat(first|refine aJ ?_ _|refine aK ?_|refine aI ?_ _));exact BK157.out) hb)
     have n15_:=aM (bF (g:=gb184) (o:= .cells #[.slice Ao51 t176.length co51,.bool t179] 31 (0,0)) (by(with_reducible repeat(first|refine aJ ?_ _|refine aK ?_|refine aI ?_ _));exact BK184.out) hb)
     have n16_:=aM (bG (by repeat(first|(with_reducible first|exact HB.out|apply aN|apply aP|apply aO|refine aL ?_ GE157.out|refine aL ?_ GE184.out)|exact HB.out)) hb)
     clear HO147
     clear HO150
     clear HO156
     clear HO163
     clear HO166
     clear HO169
     clear HO174
     clear HO178
     clear HO182
     clear HO187
     clear HO190
     clear HO195
     clear HO199
     clear HO203
     clear BK157
     clear BK184
     clear HB
     have HO147:=n0_
     have HO150:=n1_
     have HO156:=n2_
     have HO163:=n3_
     have HO166:=n4_
     have HO169:=n5_
     have HO174:=n6_
     have HO178:=n7_
     have HO182:=n8_
     have HO187:=n9_
     have HO190:=n10_
     have HO195:=n11_
     have HO199:=n12_
     have HO203:=n13_
     have BK157:=n14_
     have BK184:=n15_
     have HB:=n16_
     clear n0_ n1_ n2_ n3_ n4_ n5_ n6_ n7_ n8_ n9_ n10_ n11_ n12_ n13_ n14_ n15_ n16_
     (try clear hb);(try clear hb2);(try clear hk);(try clear hi)
     refine hK.out _ _ ⟨(aG BK184.out 0).trans rfl,(aG BK184.out 1).trans rfl,(aG BK157.out 0).trans rfl,(aG BK157.out 1).trans rfl,(aG BK157.out 2).trans rfl,(aG BK157.out 3).trans rfl,(aG BK157.out 4).trans rfl⟩ (fun hHeld=>?_)
     clear hK K
     refine norm_ (a':=?_) ?_ ?_
     rotate_left
     ·show Act.put _ (some 79) _=_
      simp only [pq]
      rfl
     refine pure_ (i:=33) (N:=some 80) (v:=?_) (a':=?_) #[T,T,T,T,T,T,T,T,T,T,T,T,T,T,T,T,T,T,T,T,T,T,T,T,T,T,T,T,T,T,T,T,T,T,F,F,F,F,F,F] rfl rfl (any_of HT_.out (by kernel_rfl)) (fun _ _ _ h=>h) (Or.inl ⟨by rfl,?_⟩) ?_ ?_
     rotate_left;(intro w';go_simp;with_reducible rfl);rotate_left;(simp only [pq];rfl)
     refine pure_ (i:=34) (N:=some 81) (v:=?_) (a':=?_) #[T,T,T,T,T,T,T,T,T,T,T,T,T,T,T,T,T,T,T,T,T,T,T,T,T,T,T,T,T,T,T,T,T,T,T,F,F,F,F,F] rfl rfl (any_of HT_.out (by kernel_rfl)) (fun _ _ _ h=>h) (Or.inl ⟨by rfl,?_⟩) ?_ ?_
     rotate_left;(intro w';go_simp;with_reducible rfl);rotate_left;(simp only [pq];rfl)
     refine take_ (i:=35) (N:=some 82) (v:=?_) (a':=?_) #[T,T,T,T,T,T,T,T,T,T,T,T,T,T,T,T,T,T,T,T,T,T,T,T,T,T,T,T,T,T,T,T,T,T,T,T,F,F,F,F] rfl rfl (take_ofW HT_.out HW_.out (by kernel_rfl)) (fun _ _ _ h=>h) (Or.inl ⟨by rfl,?_⟩) hHeld ?_ ?_
     rotate_left
     ·rintro w' ⟨s0,s1,s2,s3,s4,s5,s6⟩
      go_simp
      with_reducible rfl
     rotate_left
     ·simp only [pq]
      rfl
     refine one_ (i:=36) (N:=some 83) #[T,T,T,T,T,T,T,T,T,T,T,T,T,T,T,T,T,T,T,T,T,T,T,T,T,T,T,T,T,T,T,T,T,T,T,T,T,F,F,F] rfl rfl (one_of HT_.out (by kernel_rfl)) (by decide) (fun K hK=>?_)
     refine goes_ Try.func25 (by kernel_rfl) rfl #[.agg #[.slice Ao31 y145.length co31,.slice Ao30 y148.length co30,.int .i64 0,.int .i64 0,.slice Ao29 y154.length co29],.slice none 0 0] (by rfl) rfl rfl (by(try simp only [List.map_toArray,List.map_cons,List.map_nil]);first|done|rfl|(simp only [List.length_drop,List.length_take];rfl)) ?_
     refine(machine_Right.calls _ _ y145 _ _ y148 0 0 _ _ y154 _ _ ([]:List (List Int)) t207 _ ?side1 ?side2 ?side3 ?side4 ?side5 ?side6 ?side7 ?side8 A19.out).mono ?_
     (case side1=>repeat(first|exact(aF HO147.out).2.2|(with_reducible refine Kd.C_alloc ?_ _)|(with_reducible refine Kd.C_drewN ?_ _)|(with_reducible refine bC ?_)))
     (case side2=>exact(aF HO147.out).2.1)
     (case side3=>repeat(first|exact(aT HO150.out).2.2|(with_reducible refine Kd.C_alloc ?_ _)|(with_reducible refine Kd.C_drewN ?_ _)|(with_reducible refine bC ?_)))
     (case side4=>exact(aT HO150.out).2.1)
     (case side5=>repeat(first|exact(aT HO156.out).2.2|(with_reducible refine Kd.C_alloc ?_ _)|(with_reducible refine Kd.C_drewN ?_ _)|(with_reducible refine bC ?_)))
     (case side6=>exact(aT HO156.out).2.1)
     (case side7=>exact Kd.C_nil _ _)
     (case side8=>exact Nat.le_refl _)
     rintro e w73 ⟨rfl,hb⟩
     refine⟨_,rfl,?_⟩
     have n0_:=aM (aD (by(with_reducible repeat(first|apply aA|apply aB|apply aC));exact HO147.out) hb)
     have n1_:=aM (Kd.N_below (by(with_reducible repeat(first|apply Kd.N_alloc|apply aY|apply aZ));exact HO150.out) hb)
     have n2_:=aM (Kd.N_below (by(with_reducible repeat(first|apply Kd.N_alloc|apply aY|apply aZ));exact HO156.out) hb)
     have n3_:=aM (Kd.N_below (by(with_reducible repeat(first|apply Kd.N_alloc|apply aY|apply aZ));exact HO163.out) hb)
     have n4_:=aM (aD (by(with_reducible repeat(first|apply aA|apply aB|apply aC));exact HO166.out) hb)
     have n5_:=aM (aD (by(with_reducible repeat(first|apply aA|apply aB|apply aC));exact HO169.out) hb)
     have n6_:=aM (aD (by(with_reducible repeat(first|apply aA|apply aB|apply aC));exact HO174.out) hb)
     have n7_:=aM (aD (by(with_reducible repeat(first|apply aA|apply aB|apply aC));exact HO178.out) hb)
     have n8_:=aM (aD (by(with_reducible repeat(first|apply aA|apply aB|apply aC));exact HO182.out) hb)
     have n9_:=aM (aD (by(with_reducible repeat(first|apply aA|apply aB|apply aC));exact HO187.out) hb)
     have n10_:=aM (aD (by(with_reducible repeat(first|apply aA|apply aB|apply aC));exact HO190.out) hb)
     have n11_:=aM (aD (by(with_reducible repeat(first|apply aA|apply aB|apply aC));exact HO195.out) hb)
     have n12_:=aM (aD (by(with_reducible repeat(first|apply aA|apply aB|apply aC));exact HO199.out) hb)
     have n13_:=aM (aD (by(with_reducible repeat(first|apply aA|apply aB|apply aC));exact HO203.out) hb)
     have n14_:=aM (bF (g:=gb157) (o:= .cells #[.slice Ao31 y145.length co31,.slice Ao30 y148.length co30,.int .i64 0,.int .i64 0,.slice Ao29 y154.length co29] 26 (0,0)) (by(with_reducible repeat(first|refine aJ ?_ _|refine aK ?_|refine aI ?_ _));exact BK157.out) hb)
     have n15_:=aM (bF (g:=gb184) (o:= .cells #[.slice Ao51 t176.length co51,.bool t179] 31 (0,0)) (by(with_reducible repeat(first|refine aJ ?_ _|refine aK ?_|refine aI ?_ _));exact BK184.out) hb)
     have n16_:=aM (bG (by repeat(first|(with_reducible first|exact HB.out|apply aN|apply aP|apply aO|refine aL ?_ GE157.out|refine aL ?_ GE184.out)|exact HB.out)) hb)
     clear HO147
     clear HO150
     clear HO156
     clear HO163
     clear HO166
     clear HO169
     clear HO174
     clear HO178
     clear HO182
     clear HO187
     clear HO190
     clear HO195
     clear HO199
     clear HO203
     clear BK157
     clear BK184
     clear HB
     have HO147:=n0_
     have HO150:=n1_
     have HO156:=n2_
     have HO163:=n3_
     have HO166:=n4_
     have HO169:=n5_
     have HO174:=n6_
     have HO178:=n7_
     have HO182:=n8_
     have HO187:=n9_
     have HO190:=n10_
     have HO195:=n11_
     have HO199:=n12_
     have HO203:=n13_
     have BK157:=n14_
     have BK184:=n15_
     have HB:=n16_
     clear n0_ n1_ n2_ n3_ n4_ n5_ n6_ n7_ n8_ n9_ n10_ n11_ n12_ n13_ n14_ n15_ n16_
     (try clear hb);(try clear hb2);(try clear hk);(try clear hi)
     refine hK.out _ _ ⟨(aG BK184.out 0).trans rfl,(aG BK184.out 1).trans rfl,(aG BK157.out 0).trans rfl,(aG BK157.out 1).trans rfl,(aG BK157.out 2).trans rfl,(aG BK157.out 3).trans rfl,(aG BK157.out 4).trans rfl⟩ (fun hHeld=>?_)
     clear hK K
     refine norm_ (a':=?_) ?_ ?_
     rotate_left
     ·show Act.put _ (some 83) _=_
      simp only [pq]
      rfl
     refine pure_ (i:=37) (N:=some 84) (v:=?_) (a':=?_) #[T,T,T,T,T,T,T,T,T,T,T,T,T,T,T,T,T,T,T,T,T,T,T,T,T,T,T,T,T,T,T,T,T,T,T,T,T,T,F,F] rfl rfl (any_of HT_.out (by kernel_rfl)) (fun _ _ _ h=>h) (Or.inl ⟨by rfl,?_⟩) ?_ ?_
     rotate_left;(intro w';go_simp;with_reducible rfl);rotate_left;(simp only [pq];rfl)
     refine pure_ (i:=38) (N:=some 85) (v:=?_) (a':=?_) #[T,T,T,T,T,T,T,T,T,T,T,T,T,T,T,T,T,T,T,T,T,T,T,T,T,T,T,T,T,T,T,T,T,T,T,T,T,T,T,F] rfl rfl (any_of HT_.out (by kernel_rfl)) (fun _ _ _ h=>h) (Or.inl ⟨by rfl,?_⟩) ?_ ?_
     rotate_left;(intro w';go_simp;with_reducible rfl);rotate_left;(simp only [pq];rfl)
     refine pure_ (i:=39) (N:=some 0) (v:=?_) (a':=?_) #[T,T,T,T,T,T,T,T,T,T,T,T,T,T,T,T,T,T,T,T,T,T,T,T,T,T,T,T,T,T,T,T,T,T,T,T,T,T,T,T] rfl rfl (any_of HT_.out (by kernel_rfl)) (fun _ _ _ h=>h) (Or.inl ⟨by rfl,?_⟩) ?_ ?_
     rotate_left;(intro w';go_simp;with_reducible rfl);rotate_left;(simp only [pq];rfl)
     refine done_ (done_of HT_.out (by kernel_rfl)) ?_
     try go_wp2
     go_ret
     exact⟨by first|rfl|(simp [errW_none,errW_some]<;>rfl)|(simp [*,errW_none,errW_some]<;>rfl),by repeat(first|(with_reducible first|exact HB.out|apply aN|apply aP|apply aO|refine aL ?_ GE157.out|refine aL ?_ GE184.out)|exact HB.out)⟩
    ·replace c18:=Bool.eq_false_iff.mpr c18
     subst c18
     have H1:(none)=some r:=by rw [if_neg (show ¬(false=true) by decide)] at H;exact H
     clear H
     have H:=H1
     clear H1
     exact absurd H (by simp)
   ·replace c14:=Bool.eq_false_iff.mpr c14
    subst c14
    have H1:(none)=some r:=by rw [if_neg (show ¬(false=true) by decide)] at H;exact H
    clear H
    have H:=H1
    clear H1
    exact absurd H (by simp)
  ·replace c11:=Bool.eq_false_iff.mpr c11
   subst c11
   have H1:(none)=some r:=by rw [if_neg (show ¬(false=true) by decide)] at H;exact H
   clear H
   have H:=H1
   clear H1
   exact absurd H (by simp)
 ·replace c8:=Bool.eq_false_iff.mpr c8
  subst c8
  have H1:(none)=some r:=by rw [if_neg (show ¬(false=true) by decide)] at H;exact H
  clear H
  have H:=H1
  clear H1
  exact absurd H (by simp)
end Go.Proofs.Ytapjfnfengefpaa.P
end
