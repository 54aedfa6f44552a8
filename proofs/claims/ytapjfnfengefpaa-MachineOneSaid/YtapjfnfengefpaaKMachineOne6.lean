/- Packed texts of this claim: the walks of the functions, and their plain laws; see the claim's last text. -/
import Derived.Deep.Cut
import Derived.Shelf.Abstract
import Derived.Deep.RegionHeld3
import Derived.Test.YtapjfnfengefpaaKMachineOne5
section
namespace Go.Proofs.Ytapjfnfengefpaa.P
open Go.RowKit Go.Proofs.YtapjfnfengefpaaW.PrintWords Go.Proofs.YtapjfnfengefpaaW.PrintLast Go.Proofs.YtapjfnfengefpaaW.PrintMore
attribute [local go_sem] max2_int min2_int max_two min_two max_three min_three max_four min_four   -- for this text's walks alone
set_option linter.unusedVariables false
set_option linter.unusedSimpArgs false
def regletlaw16_awake.f (k:Nat)  :Option (Bool):=(some (([(⟨#[97]⟩:ByteArray)]:List ByteArray):List ByteArray)).bind fun y145=>(if 1≤2706490160679 then((some (List.replicate 1 z72:List (S72))).bind fun y148=>((some (([(⟨0,(([(⟨true,0⟩:S43),(⟨false,0⟩:S43)]:List (S43)))⟩:S35),(⟨0,([]:List (S43))⟩:S35)]:List (S35)):List (S35))).bind fun y154=>((some (([(([0,1]:List Int))]:List (List Int)):List (List Int))).bind fun y161=>((machine_Run.f k y145 y148 0 0 y154 y161 (([0,0]:List Int))).bind fun bt167=>((machine_Start.f).bind fun bt172=>((machine_Feed.f y145 y148 0 0 y154 y161 bt172.1 bt172.2 0).bind fun bt176=>((machine_Run.f k y145 y148 0 0 y154 y161 (([1]:List Int))).bind fun bt188=>(if bt167.2.1=0 then((regletref13_SameInts.f k bt167.1 (([0,0,1]:List Int))).bind fun t196=>(if t196=true then(if bt176.2.2.2=0 then((regletref13_SameInts.f k bt176.2.2.1 (([0]:List Int))).bind fun t200=>(if t200=true then((machine_Start.f).bind fun bt201=>((regletref16_Same.f k bt176.1 bt176.2.1 bt201.1 bt201.2).bind fun t205=>(if t205=true then(if bt188.2.1=1 then(if bt188.2.2=0 then((machine_Right.f y145 y148 0 0 y154 y161).bind fun t206=>(if t206=true then((machine_Right.f y145 y148 0 0 y154 ([]:List (List Int))).bind fun t207=>(some (!t207))) else(none))) else(none)) else(none)) else(none)))) else(none))) else(none)) else(none))) else(none))))))))) else(none))
theorem regletlaw16_awake.mono:∀k,LeO (regletlaw16_awake.f k) (regletlaw16_awake.f (k+1)):=by
 intro  k
 unfold regletlaw16_awake.f
 repeat' first
  |(with_reducible exact machine_Run.mono _ _ _ _ _ _ _ _)
  |(with_reducible exact regletref13_SameInts.mono _ _ _)
  |(with_reducible exact regletref16_Same.mono _ _ _ _ _)
  |(with_reducible exact LeO.refl _)
  |(with_reducible exact LeO.none _)
  |(with_reducible refine LeO.ite ?_ ?_)
  |(with_reducible refine LeO.bind ?_ (fun _=>?_))
  |exact machine_Run.mono _ _ _ _ _ _ _ _
  |exact regletref13_SameInts.mono _ _ _
  |exact regletref16_Same.mono _ _ _ _ _
  |exact LeO.none _
  |refine LeO.ite ?_ ?_
  |refine LeO.bind ?_ (fun _=>?_)
def regletlaw16_awake.T4:Bool×List (List Nat×List Nat):=(true,[([],[]),([],[]),([],[]),([0,1,2,2],[0,1,2]),([3],[3]),([4],[4]),([4],[4]),([4],[4]),([],[]),([8,5,3,0,1,2,3,4,5,8],[5,8]),([6,9,0,1,2,3,4,5,6,8,9],[6]),([7,10,0,1,2,3,4,5,6,7,8,9,10],[7])])
def regletlaw16_awake.B4:List Nat:= [0,0,0,7,15,31,31,31,0,319,895,2047]
theorem regletlaw16_awake.tab4:rtab .any (opsOf Try.f10 4)=regletlaw16_awake.T4:=by kernel_rfl
theorem regletlaw16_awake.bits4:waitsOk regletlaw16_awake.T4.2 regletlaw16_awake.B4=true:=by kernel_rfl
def regletlaw16_awake.T6:Bool×List (List Nat×List Nat):=(true,[([],[]),([0],[0]),([1],[1]),([2],[2]),([2],[2]),([3,4,2,2],[2,3,4]),([2,5],[2,5]),([6,5],[6]),([7],[7]),([8,7],[7,8]),([7,9],[7,9]),([10,7],[10]),([11],[11]),([11],[11]),([12,13,11,11],[11,12,13]),([11,14],[11,14]),([15,14],[15]),([16],[16]),([16,16],[16]),([17,18,18,16],[16,17,18]),([16,19],[16,19]),([20,19],[20]),([21],[21]),([22,21],[21,22]),([21,23],[21,23]),([24,21],[24]),([25],[25]),([26,25],[25,26]),([25,27],[25,27]),([28,25],[28]),([29],[29]),([29],[29]),([30,31,29,29],[29,30,31]),([29,32],[29,32]),([33,32],[33]),([34],[34]),([35,34,34],[34,35]),([36,34],[34,36]),([34,37],[34,37]),([38,36,0,1,2,3,4,5,6,7,8,9,10,11,12,13,14,15,16,17,18,19,20,21,22,23,24,25,26,27,28,29,30,31,32,33,34,35,36,37,38],[38])])
def regletlaw16_awake.B6:List Nat:= [0,1,3,7,7,31,63,127,255,511,1023,2047,4095,4095,16383,32767,65535,131071,131071,524287,1048575,2097151,4194303,8388607,16777215,33554431,67108863,134217727,268435455,536870911,1073741823,1073741823,4294967295,8589934591,17179869183,34359738367,68719476735,137438953471,274877906943,549755813887]
theorem regletlaw16_awake.tab6:rtab .any (opsOf Try.f10 6)=regletlaw16_awake.T6:=by kernel_rfl
theorem regletlaw16_awake.bits6:waitsOk regletlaw16_awake.T6.2 regletlaw16_awake.B6=true:=by kernel_rfl
set_option maxHeartbeats 8000000 in
set_option maxRecDepth 100000 in
theorem regletlaw16_awake.calls (k:Nat)  (r:Bool) (w:World) (h:regletlaw16_awake.f k  =some r):
 Calls Try.prog 10 #[] w fun e w'=>e= .returned (.bool r)∧Below w.heap.size w w':=by
 have hu43:=Try.underlying43
 have hu35:=Try.underlying35
 have hu26:=Try.underlying26
 have hu31:=Try.underlying31
 have HB:=aM (Below.refl w.heap.size w)
 have H:((some (([(⟨#[97]⟩:ByteArray)]:List ByteArray):List ByteArray)).bind fun y145=>(if 1≤2706490160679 then((some (List.replicate 1 z72:List (S72))).bind fun y148=>((some (([(⟨0,(([(⟨true,0⟩:S43),(⟨false,0⟩:S43)]:List (S43)))⟩:S35),(⟨0,([]:List (S43))⟩:S35)]:List (S35)):List (S35))).bind fun y154=>((some (([(([0,1]:List Int))]:List (List Int)):List (List Int))).bind fun y161=>((machine_Run.f k y145 y148 0 0 y154 y161 (([0,0]:List Int))).bind fun bt167=>((machine_Start.f).bind fun bt172=>((machine_Feed.f y145 y148 0 0 y154 y161 bt172.1 bt172.2 0).bind fun bt176=>((machine_Run.f k y145 y148 0 0 y154 y161 (([1]:List Int))).bind fun bt188=>(if bt167.2.1=0 then((regletref13_SameInts.f k bt167.1 (([0,0,1]:List Int))).bind fun t196=>(if t196=true then(if bt176.2.2.2=0 then((regletref13_SameInts.f k bt176.2.2.1 (([0]:List Int))).bind fun t200=>(if t200=true then((machine_Start.f).bind fun bt201=>((regletref16_Same.f k bt176.1 bt176.2.1 bt201.1 bt201.2).bind fun t205=>(if t205=true then(if bt188.2.1=1 then(if bt188.2.2=0 then((machine_Right.f y145 y148 0 0 y154 y161).bind fun t206=>(if t206=true then((machine_Right.f y145 y148 0 0 y154 ([]:List (List Int))).bind fun t207=>(some (!t207))) else(none))) else(none)) else(none)) else(none)))) else(none))) else(none)) else(none))) else(none))))))))) else(none)))=some r:=h
 clear h
 obtain⟨y145,hy145⟩:∃y_:List ByteArray,y_=(([(⟨#[97]⟩:ByteArray)]:List ByteArray)):=⟨_,rfl⟩
 replace H:(if 1≤2706490160679 then((some (List.replicate 1 z72:List (S72))).bind fun y148=>((some (([(⟨0,(([(⟨true,0⟩:S43),(⟨false,0⟩:S43)]:List (S43)))⟩:S35),(⟨0,([]:List (S43))⟩:S35)]:List (S35)):List (S35))).bind fun y154=>((some (([(([0,1]:List Int))]:List (List Int)):List (List Int))).bind fun y161=>((machine_Run.f k y145 y148 0 0 y154 y161 (([0,0]:List Int))).bind fun bt167=>((machine_Start.f).bind fun bt172=>((machine_Feed.f y145 y148 0 0 y154 y161 bt172.1 bt172.2 0).bind fun bt176=>((machine_Run.f k y145 y148 0 0 y154 y161 (([1]:List Int))).bind fun bt188=>(if bt167.2.1=0 then((regletref13_SameInts.f k bt167.1 (([0,0,1]:List Int))).bind fun t196=>(if t196=true then(if bt176.2.2.2=0 then((regletref13_SameInts.f k bt176.2.2.1 (([0]:List Int))).bind fun t200=>(if t200=true then((machine_Start.f).bind fun bt201=>((regletref16_Same.f k bt176.1 bt176.2.1 bt201.1 bt201.2).bind fun t205=>(if t205=true then(if bt188.2.1=1 then(if bt188.2.2=0 then((machine_Right.f y145 y148 0 0 y154 y161).bind fun t206=>(if t206=true then((machine_Right.f y145 y148 0 0 y154 ([]:List (List Int))).bind fun t207=>(some (!t207))) else(none))) else(none)) else(none)) else(none)))) else(none))) else(none)) else(none))) else(none))))))))) else(none))=some r:=by first|(rw [hy145];with_reducible exact H)|(have H2_:=(Option.bind_some _ _).symm.trans H;rw [hy145];with_reducible exact H2_)|(have H2_:=(Option.bind_some _ _).symm.trans H;with_reducible exact H2_)|with_reducible exact H|(rw [hy145];exact H)|exact H
 have Ny145:=aM hy145
 clear hy145
 by_cases c1:1≤2706490160679
 rotate_left
 ·rw [if_neg c1] at H
  exact absurd H (by simp)
 rw [if_pos c1] at H
 have c1b0:=eq_true c1
 have c1b1:decide (1≤2706490160679)=true:=decide_eq_true c1
 clear c1
 obtain⟨y148,hy148⟩:∃y_:List (S72),y_=(List.replicate 1 z72):=⟨_,rfl⟩
 replace H:((some (([(⟨0,(([(⟨true,0⟩:S43),(⟨false,0⟩:S43)]:List (S43)))⟩:S35),(⟨0,([]:List (S43))⟩:S35)]:List (S35)):List (S35))).bind fun y154=>((some (([(([0,1]:List Int))]:List (List Int)):List (List Int))).bind fun y161=>((machine_Run.f k y145 y148 0 0 y154 y161 (([0,0]:List Int))).bind fun bt167=>((machine_Start.f).bind fun bt172=>((machine_Feed.f y145 y148 0 0 y154 y161 bt172.1 bt172.2 0).bind fun bt176=>((machine_Run.f k y145 y148 0 0 y154 y161 (([1]:List Int))).bind fun bt188=>(if bt167.2.1=0 then((regletref13_SameInts.f k bt167.1 (([0,0,1]:List Int))).bind fun t196=>(if t196=true then(if bt176.2.2.2=0 then((regletref13_SameInts.f k bt176.2.2.1 (([0]:List Int))).bind fun t200=>(if t200=true then((machine_Start.f).bind fun bt201=>((regletref16_Same.f k bt176.1 bt176.2.1 bt201.1 bt201.2).bind fun t205=>(if t205=true then(if bt188.2.1=1 then(if bt188.2.2=0 then((machine_Right.f y145 y148 0 0 y154 y161).bind fun t206=>(if t206=true then((machine_Right.f y145 y148 0 0 y154 ([]:List (List Int))).bind fun t207=>(some (!t207))) else(none))) else(none)) else(none)) else(none)))) else(none))) else(none)) else(none))) else(none))))))))=some r:=by first|(rw [hy148];with_reducible exact H)|(have H2_:=(Option.bind_some _ _).symm.trans H;rw [hy148];with_reducible exact H2_)|(have H2_:=(Option.bind_some _ _).symm.trans H;with_reducible exact H2_)|with_reducible exact H|(rw [hy148];exact H)|exact H
 have Ny148:=aM hy148
 clear hy148
 obtain⟨y151,hy151⟩:∃y_:List (S43),y_=(([(⟨true,0⟩:S43),(⟨false,0⟩:S43)]:List (S43))):=⟨_,rfl⟩
 replace H:((some (([(⟨0,y151⟩:S35),(⟨0,([]:List (S43))⟩:S35)]:List (S35)):List (S35))).bind fun y154=>((some (([(([0,1]:List Int))]:List (List Int)):List (List Int))).bind fun y161=>((machine_Run.f k y145 y148 0 0 y154 y161 (([0,0]:List Int))).bind fun bt167=>((machine_Start.f).bind fun bt172=>((machine_Feed.f y145 y148 0 0 y154 y161 bt172.1 bt172.2 0).bind fun bt176=>((machine_Run.f k y145 y148 0 0 y154 y161 (([1]:List Int))).bind fun bt188=>(if bt167.2.1=0 then((regletref13_SameInts.f k bt167.1 (([0,0,1]:List Int))).bind fun t196=>(if t196=true then(if bt176.2.2.2=0 then((regletref13_SameInts.f k bt176.2.2.1 (([0]:List Int))).bind fun t200=>(if t200=true then((machine_Start.f).bind fun bt201=>((regletref16_Same.f k bt176.1 bt176.2.1 bt201.1 bt201.2).bind fun t205=>(if t205=true then(if bt188.2.1=1 then(if bt188.2.2=0 then((machine_Right.f y145 y148 0 0 y154 y161).bind fun t206=>(if t206=true then((machine_Right.f y145 y148 0 0 y154 ([]:List (List Int))).bind fun t207=>(some (!t207))) else(none))) else(none)) else(none)) else(none)))) else(none))) else(none)) else(none))) else(none))))))))=some r:=by first|(rw [hy151];with_reducible exact H)|(have H2_:=(Option.bind_some _ _).symm.trans H;rw [hy151];with_reducible exact H2_)|(have H2_:=(Option.bind_some _ _).symm.trans H;with_reducible exact H2_)|with_reducible exact H|(rw [hy151];exact H)|exact H
 have Ny151:=aM hy151
 clear hy151
 obtain⟨y154,hy154⟩:∃y_:List (S35),y_=(([(⟨0,y151⟩:S35),(⟨0,([]:List (S43))⟩:S35)]:List (S35))):=⟨_,rfl⟩
 replace H:((some (([(([0,1]:List Int))]:List (List Int)):List (List Int))).bind fun y161=>((machine_Run.f k y145 y148 0 0 y154 y161 (([0,0]:List Int))).bind fun bt167=>((machine_Start.f).bind fun bt172=>((machine_Feed.f y145 y148 0 0 y154 y161 bt172.1 bt172.2 0).bind fun bt176=>((machine_Run.f k y145 y148 0 0 y154 y161 (([1]:List Int))).bind fun bt188=>(if bt167.2.1=0 then((regletref13_SameInts.f k bt167.1 (([0,0,1]:List Int))).bind fun t196=>(if t196=true then(if bt176.2.2.2=0 then((regletref13_SameInts.f k bt176.2.2.1 (([0]:List Int))).bind fun t200=>(if t200=true then((machine_Start.f).bind fun bt201=>((regletref16_Same.f k bt176.1 bt176.2.1 bt201.1 bt201.2).bind fun t205=>(if t205=true then(if bt188.2.1=1 then(if bt188.2.2=0 then((machine_Right.f y145 y148 0 0 y154 y161).bind fun t206=>(if t206=true then((machine_Right.f y145 y148 0 0 y154 ([]:List (List Int))).bind fun t207=>(some (!t207))) else(none))) else(none)) else(none)) else(none)))) else(none))) else(none)) else(none))) else(none)))))))=some r:=by first|(rw [hy154];with_reducible exact H)|(have H2_:=(Option.bind_some _ _).symm.trans H;rw [hy154];with_reducible exact H2_)|(have H2_:=(Option.bind_some _ _).symm.trans H;with_reducible exact H2_)|with_reducible exact H|(rw [hy154];exact H)|exact H
 have Ny154:=aM hy154
 clear hy154
 obtain⟨y158,hy158⟩:∃y_:List Int,y_=(([0,1]:List Int)):=⟨_,rfl⟩
 replace H:((some (([y158]:List (List Int)):List (List Int))).bind fun y161=>((machine_Run.f k y145 y148 0 0 y154 y161 (([0,0]:List Int))).bind fun bt167=>((machine_Start.f).bind fun bt172=>((machine_Feed.f y145 y148 0 0 y154 y161 bt172.1 bt172.2 0).bind fun bt176=>((machine_Run.f k y145 y148 0 0 y154 y161 (([1]:List Int))).bind fun bt188=>(if bt167.2.1=0 then((regletref13_SameInts.f k bt167.1 (([0,0,1]:List Int))).bind fun t196=>(if t196=true then(if bt176.2.2.2=0 then((regletref13_SameInts.f k bt176.2.2.1 (([0]:List Int))).bind fun t200=>(if t200=true then((machine_Start.f).bind fun bt201=>((regletref16_Same.f k bt176.1 bt176.2.1 bt201.1 bt201.2).bind fun t205=>(if t205=true then(if bt188.2.1=1 then(if bt188.2.2=0 then((machine_Right.f y145 y148 0 0 y154 y161).bind fun t206=>(if t206=true then((machine_Right.f y145 y148 0 0 y154 ([]:List (List Int))).bind fun t207=>(some (!t207))) else(none))) else(none)) else(none)) else(none)))) else(none))) else(none)) else(none))) else(none)))))))=some r:=by first|(rw [hy158];with_reducible exact H)|(have H2_:=(Option.bind_some _ _).symm.trans H;rw [hy158];with_reducible exact H2_)|(have H2_:=(Option.bind_some _ _).symm.trans H;with_reducible exact H2_)|with_reducible exact H|(rw [hy158];exact H)|exact H
 have Ny158:=aM hy158
 clear hy158
 obtain⟨y161,hy161⟩:∃y_:List (List Int),y_=(([y158]:List (List Int))):=⟨_,rfl⟩
 replace H:((machine_Run.f k y145 y148 0 0 y154 y161 (([0,0]:List Int))).bind fun bt167=>((machine_Start.f).bind fun bt172=>((machine_Feed.f y145 y148 0 0 y154 y161 bt172.1 bt172.2 0).bind fun bt176=>((machine_Run.f k y145 y148 0 0 y154 y161 (([1]:List Int))).bind fun bt188=>(if bt167.2.1=0 then((regletref13_SameInts.f k bt167.1 (([0,0,1]:List Int))).bind fun t196=>(if t196=true then(if bt176.2.2.2=0 then((regletref13_SameInts.f k bt176.2.2.1 (([0]:List Int))).bind fun t200=>(if t200=true then((machine_Start.f).bind fun bt201=>((regletref16_Same.f k bt176.1 bt176.2.1 bt201.1 bt201.2).bind fun t205=>(if t205=true then(if bt188.2.1=1 then(if bt188.2.2=0 then((machine_Right.f y145 y148 0 0 y154 y161).bind fun t206=>(if t206=true then((machine_Right.f y145 y148 0 0 y154 ([]:List (List Int))).bind fun t207=>(some (!t207))) else(none))) else(none)) else(none)) else(none)))) else(none))) else(none)) else(none))) else(none))))))=some r:=by first|(rw [hy161];with_reducible exact H)|(have H2_:=(Option.bind_some _ _).symm.trans H;rw [hy161];with_reducible exact H2_)|(have H2_:=(Option.bind_some _ _).symm.trans H;with_reducible exact H2_)|with_reducible exact H|(rw [hy161];exact H)|exact H
 have Ny161:=aM hy161
 clear hy161
 obtain⟨y164,hy164⟩:∃y_:List Int,y_=(([0,0]:List Int)):=⟨_,rfl⟩
 replace H:((machine_Run.f k y145 y148 0 0 y154 y161 y164).bind fun bt167=>((machine_Start.f).bind fun bt172=>((machine_Feed.f y145 y148 0 0 y154 y161 bt172.1 bt172.2 0).bind fun bt176=>((machine_Run.f k y145 y148 0 0 y154 y161 (([1]:List Int))).bind fun bt188=>(if bt167.2.1=0 then((regletref13_SameInts.f k bt167.1 (([0,0,1]:List Int))).bind fun t196=>(if t196=true then(if bt176.2.2.2=0 then((regletref13_SameInts.f k bt176.2.2.1 (([0]:List Int))).bind fun t200=>(if t200=true then((machine_Start.f).bind fun bt201=>((regletref16_Same.f k bt176.1 bt176.2.1 bt201.1 bt201.2).bind fun t205=>(if t205=true then(if bt188.2.1=1 then(if bt188.2.2=0 then((machine_Right.f y145 y148 0 0 y154 y161).bind fun t206=>(if t206=true then((machine_Right.f y145 y148 0 0 y154 ([]:List (List Int))).bind fun t207=>(some (!t207))) else(none))) else(none)) else(none)) else(none)))) else(none))) else(none)) else(none))) else(none))))))=some r:=by first|(rw [hy164];with_reducible exact H)|(have H2_:=(Option.bind_some _ _).symm.trans H;rw [hy164];with_reducible exact H2_)|(have H2_:=(Option.bind_some _ _).symm.trans H;with_reducible exact H2_)|with_reducible exact H|(rw [hy164];exact H)|exact H
 have Ny164:=aM hy164
 clear hy164
 replace H:=Option.bind_eq_some_iff.mp H
 obtain⟨⟨t167,t170,t171⟩,A20,H⟩:=H
 replace H:((machine_Start.f).bind fun bt172=>((machine_Feed.f y145 y148 0 0 y154 y161 bt172.1 bt172.2 0).bind fun bt176=>((machine_Run.f k y145 y148 0 0 y154 y161 (([1]:List Int))).bind fun bt188=>(if t170=0 then((regletref13_SameInts.f k t167 (([0,0,1]:List Int))).bind fun t196=>(if t196=true then(if bt176.2.2.2=0 then((regletref13_SameInts.f k bt176.2.2.1 (([0]:List Int))).bind fun t200=>(if t200=true then((machine_Start.f).bind fun bt201=>((regletref16_Same.f k bt176.1 bt176.2.1 bt201.1 bt201.2).bind fun t205=>(if t205=true then(if bt188.2.1=1 then(if bt188.2.2=0 then((machine_Right.f y145 y148 0 0 y154 y161).bind fun t206=>(if t206=true then((machine_Right.f y145 y148 0 0 y154 ([]:List (List Int))).bind fun t207=>(some (!t207))) else(none))) else(none)) else(none)) else(none)))) else(none))) else(none)) else(none))) else(none)))))=some r:=H
 have A2:=aM A20
 clear A20
 replace H:=Option.bind_eq_some_iff.mp H
 obtain⟨⟨t172,t175⟩,A30,H⟩:=H
 replace H:((machine_Feed.f y145 y148 0 0 y154 y161 t172 t175 0).bind fun bt176=>((machine_Run.f k y145 y148 0 0 y154 y161 (([1]:List Int))).bind fun bt188=>(if t170=0 then((regletref13_SameInts.f k t167 (([0,0,1]:List Int))).bind fun t196=>(if t196=true then(if bt176.2.2.2=0 then((regletref13_SameInts.f k bt176.2.2.1 (([0]:List Int))).bind fun t200=>(if t200=true then((machine_Start.f).bind fun bt201=>((regletref16_Same.f k bt176.1 bt176.2.1 bt201.1 bt201.2).bind fun t205=>(if t205=true then(if bt188.2.1=1 then(if bt188.2.2=0 then((machine_Right.f y145 y148 0 0 y154 y161).bind fun t206=>(if t206=true then((machine_Right.f y145 y148 0 0 y154 ([]:List (List Int))).bind fun t207=>(some (!t207))) else(none))) else(none)) else(none)) else(none)))) else(none))) else(none)) else(none))) else(none))))=some r:=H
 have A3:=aM A30
 clear A30
 replace H:=Option.bind_eq_some_iff.mp H
 obtain⟨⟨t176,t179,t180,t183⟩,A40,H⟩:=H
 replace H:((machine_Run.f k y145 y148 0 0 y154 y161 (([1]:List Int))).bind fun bt188=>(if t170=0 then((regletref13_SameInts.f k t167 (([0,0,1]:List Int))).bind fun t196=>(if t196=true then(if t183=0 then((regletref13_SameInts.f k t180 (([0]:List Int))).bind fun t200=>(if t200=true then((machine_Start.f).bind fun bt201=>((regletref16_Same.f k t176 t179 bt201.1 bt201.2).bind fun t205=>(if t205=true then(if bt188.2.1=1 then(if bt188.2.2=0 then((machine_Right.f y145 y148 0 0 y154 y161).bind fun t206=>(if t206=true then((machine_Right.f y145 y148 0 0 y154 ([]:List (List Int))).bind fun t207=>(some (!t207))) else(none))) else(none)) else(none)) else(none)))) else(none))) else(none)) else(none))) else(none)))=some r:=H
 have A4:=aM A40
 clear A40
 obtain⟨y185,hy185⟩:∃y_:List Int,y_=(([1]:List Int)):=⟨_,rfl⟩
 replace H:((machine_Run.f k y145 y148 0 0 y154 y161 y185).bind fun bt188=>(if t170=0 then((regletref13_SameInts.f k t167 (([0,0,1]:List Int))).bind fun t196=>(if t196=true then(if t183=0 then((regletref13_SameInts.f k t180 (([0]:List Int))).bind fun t200=>(if t200=true then((machine_Start.f).bind fun bt201=>((regletref16_Same.f k t176 t179 bt201.1 bt201.2).bind fun t205=>(if t205=true then(if bt188.2.1=1 then(if bt188.2.2=0 then((machine_Right.f y145 y148 0 0 y154 y161).bind fun t206=>(if t206=true then((machine_Right.f y145 y148 0 0 y154 ([]:List (List Int))).bind fun t207=>(some (!t207))) else(none))) else(none)) else(none)) else(none)))) else(none))) else(none)) else(none))) else(none)))=some r:=by first|(rw [hy185];with_reducible exact H)|(have H2_:=(Option.bind_some _ _).symm.trans H;rw [hy185];with_reducible exact H2_)|(have H2_:=(Option.bind_some _ _).symm.trans H;with_reducible exact H2_)|with_reducible exact H|(rw [hy185];exact H)|exact H
 have Ny185:=aM hy185
 clear hy185
 replace H:=Option.bind_eq_some_iff.mp H
 obtain⟨⟨t188,t191,t192⟩,A50,H⟩:=H
 replace H:(if t170=0 then((regletref13_SameInts.f k t167 (([0,0,1]:List Int))).bind fun t196=>(if t196=true then(if t183=0 then((regletref13_SameInts.f k t180 (([0]:List Int))).bind fun t200=>(if t200=true then((machine_Start.f).bind fun bt201=>((regletref16_Same.f k t176 t179 bt201.1 bt201.2).bind fun t205=>(if t205=true then(if t191=1 then(if t192=0 then((machine_Right.f y145 y148 0 0 y154 y161).bind fun t206=>(if t206=true then((machine_Right.f y145 y148 0 0 y154 ([]:List (List Int))).bind fun t207=>(some (!t207))) else(none))) else(none)) else(none)) else(none)))) else(none))) else(none)) else(none))) else(none))=some r:=H
 have A5:=aM A50
 clear A50
 by_cases c6:t170=0
 rotate_left
 ·rw [if_neg c6] at H
  exact absurd H (by simp)
 rw [if_pos c6] at H
 have c6b0:(t170==0)=true:=beq_iff_eq.mpr c6
 have c6b1:(t170 !=0)=false:=bne_eq_false_iff_eq.mpr c6
 clear c6
 obtain⟨y193,hy193⟩:∃y_:List Int,y_=(([0,0,1]:List Int)):=⟨_,rfl⟩
 replace H:((regletref13_SameInts.f k t167 y193).bind fun t196=>(if t196=true then(if t183=0 then((regletref13_SameInts.f k t180 (([0]:List Int))).bind fun t200=>(if t200=true then((machine_Start.f).bind fun bt201=>((regletref16_Same.f k t176 t179 bt201.1 bt201.2).bind fun t205=>(if t205=true then(if t191=1 then(if t192=0 then((machine_Right.f y145 y148 0 0 y154 y161).bind fun t206=>(if t206=true then((machine_Right.f y145 y148 0 0 y154 ([]:List (List Int))).bind fun t207=>(some (!t207))) else(none))) else(none)) else(none)) else(none)))) else(none))) else(none)) else(none)))=some r:=by first|(rw [hy193];with_reducible exact H)|(have H2_:=(Option.bind_some _ _).symm.trans H;rw [hy193];with_reducible exact H2_)|(have H2_:=(Option.bind_some _ _).symm.trans H;with_reducible exact H2_)|with_reducible exact H|(rw [hy193];exact H)|exact H
 have Ny193:=aM hy193
 clear hy193
 replace H:=Option.bind_eq_some_iff.mp H
 obtain⟨t196,A70,H⟩:=H
 replace H:(if t196=true then(if t183=0 then((regletref13_SameInts.f k t180 (([0]:List Int))).bind fun t200=>(if t200=true then((machine_Start.f).bind fun bt201=>((regletref16_Same.f k t176 t179 bt201.1 bt201.2).bind fun t205=>(if t205=true then(if t191=1 then(if t192=0 then((machine_Right.f y145 y148 0 0 y154 y161).bind fun t206=>(if t206=true then((machine_Right.f y145 y148 0 0 y154 ([]:List (List Int))).bind fun t207=>(some (!t207))) else(none))) else(none)) else(none)) else(none)))) else(none))) else(none)) else(none))=some r:=H
 have A7:=aM A70
 clear A70
 by_cases c8:t196=true
 ·subst c8
  have H1:(if t183=0 then((regletref13_SameInts.f k t180 (([0]:List Int))).bind fun t200=>(if t200=true then((machine_Start.f).bind fun bt201=>((regletref16_Same.f k t176 t179 bt201.1 bt201.2).bind fun t205=>(if t205=true then(if t191=1 then(if t192=0 then((machine_Right.f y145 y148 0 0 y154 y161).bind fun t206=>(if t206=true then((machine_Right.f y145 y148 0 0 y154 ([]:List (List Int))).bind fun t207=>(some (!t207))) else(none))) else(none)) else(none)) else(none)))) else(none))) else(none))=some r:=by rw [if_pos rfl] at H;exact H
  clear H
  have H:=H1
  clear H1
  by_cases c9:t183=0
  rotate_left
  ·rw [if_neg c9] at H
   exact absurd H (by simp)
  rw [if_pos c9] at H
  have c9b0:(t183==0)=true:=beq_iff_eq.mpr c9
  have c9b1:(t183 !=0)=false:=bne_eq_false_iff_eq.mpr c9
  clear c9
  obtain⟨y197,hy197⟩:∃y_:List Int,y_=(([0]:List Int)):=⟨_,rfl⟩
  replace H:((regletref13_SameInts.f k t180 y197).bind fun t200=>(if t200=true then((machine_Start.f).bind fun bt201=>((regletref16_Same.f k t176 t179 bt201.1 bt201.2).bind fun t205=>(if t205=true then(if t191=1 then(if t192=0 then((machine_Right.f y145 y148 0 0 y154 y161).bind fun t206=>(if t206=true then((machine_Right.f y145 y148 0 0 y154 ([]:List (List Int))).bind fun t207=>(some (!t207))) else(none))) else(none)) else(none)) else(none)))) else(none)))=some r:=by first|(rw [hy197];with_reducible exact H)|(have H2_:=(Option.bind_some _ _).symm.trans H;rw [hy197];with_reducible exact H2_)|(have H2_:=(Option.bind_some _ _).symm.trans H;with_reducible exact H2_)|with_reducible exact H|(rw [hy197];exact H)|exact H
  have Ny197:=aM hy197
  clear hy197
  replace H:=Option.bind_eq_some_iff.mp H
  obtain⟨t200,A100,H⟩:=H
  replace H:(if t200=true then((machine_Start.f).bind fun bt201=>((regletref16_Same.f k t176 t179 bt201.1 bt201.2).bind fun t205=>(if t205=true then(if t191=1 then(if t192=0 then((machine_Right.f y145 y148 0 0 y154 y161).bind fun t206=>(if t206=true then((machine_Right.f y145 y148 0 0 y154 ([]:List (List Int))).bind fun t207=>(some (!t207))) else(none))) else(none)) else(none)) else(none)))) else(none))=some r:=H
  have A10:=aM A100
  clear A100
  by_cases c11:t200=true
  ·subst c11
   have H1:((machine_Start.f).bind fun bt201=>((regletref16_Same.f k t176 t179 bt201.1 bt201.2).bind fun t205=>(if t205=true then(if t191=1 then(if t192=0 then((machine_Right.f y145 y148 0 0 y154 y161).bind fun t206=>(if t206=true then((machine_Right.f y145 y148 0 0 y154 ([]:List (List Int))).bind fun t207=>(some (!t207))) else(none))) else(none)) else(none)) else(none))))=some r:=by rw [if_pos rfl] at H;exact H
   clear H
   have H:=H1
   clear H1
   replace H:=Option.bind_eq_some_iff.mp H
   obtain⟨⟨t201,t204⟩,A120,H⟩:=H
   replace H:((regletref16_Same.f k t176 t179 t201 t204).bind fun t205=>(if t205=true then(if t191=1 then(if t192=0 then((machine_Right.f y145 y148 0 0 y154 y161).bind fun t206=>(if t206=true then((machine_Right.f y145 y148 0 0 y154 ([]:List (List Int))).bind fun t207=>(some (!t207))) else(none))) else(none)) else(none)) else(none)))=some r:=H
   have A12:=aM A120
   clear A120
   replace H:=Option.bind_eq_some_iff.mp H
   obtain⟨t205,A130,H⟩:=H
   replace H:(if t205=true then(if t191=1 then(if t192=0 then((machine_Right.f y145 y148 0 0 y154 y161).bind fun t206=>(if t206=true then((machine_Right.f y145 y148 0 0 y154 ([]:List (List Int))).bind fun t207=>(some (!t207))) else(none))) else(none)) else(none)) else(none))=some r:=H
   have A13:=aM A130
   clear A130
   by_cases c14:t205=true
   ·subst c14
    have H1:(if t191=1 then(if t192=0 then((machine_Right.f y145 y148 0 0 y154 y161).bind fun t206=>(if t206=true then((machine_Right.f y145 y148 0 0 y154 ([]:List (List Int))).bind fun t207=>(some (!t207))) else(none))) else(none)) else(none))=some r:=by rw [if_pos rfl] at H;exact H
    clear H
    have H:=H1
    clear H1
    by_cases c15:t191=1
    rotate_left
    ·rw [if_neg c15] at H
     exact absurd H (by simp)
    rw [if_pos c15] at H
    have c15b0:(t191==1)=true:=beq_iff_eq.mpr c15
    have c15b1:(t191 !=1)=false:=bne_eq_false_iff_eq.mpr c15
    clear c15
    by_cases c16:t192=0
    rotate_left
    ·rw [if_neg c16] at H
     exact absurd H (by simp)
    rw [if_pos c16] at H
    have c16b0:(t192==0)=true:=beq_iff_eq.mpr c16
    have c16b1:(t192 !=0)=false:=bne_eq_false_iff_eq.mpr c16
    clear c16
    replace H:=Option.bind_eq_some_iff.mp H
    obtain⟨t206,A170,H⟩:=H
    replace H:(if t206=true then((machine_Right.f y145 y148 0 0 y154 ([]:List (List Int))).bind fun t207=>(some (!t207))) else(none))=some r:=H
    have A17:=aM A170
    clear A170
    by_cases c18:t206=true
    ·subst c18
     have H1:((machine_Right.f y145 y148 0 0 y154 ([]:List (List Int))).bind fun t207=>(some (!t207)))=some r:=by rw [if_pos rfl] at H;exact H
     clear H
     have H:=H1
     clear H1
     replace H:=Option.bind_eq_some_iff.mp H
     obtain⟨t207,A190,H⟩:=H
     replace H:(some (!t207))=some r:=H
     have A19:=aM A190
     clear A190
     obtain rfl:=Option.some.inj H
     go_enter Try.func10,Try.ntmps10
     try go_wp2_with (first|((with_reducible refine bJ (N:=12) rfl ?_);(try(refine gate_guard (by rfl) ?_;dsimp only));refine Kd.R_lit Kd.string _ 9 ?hg (N:=12) ?hd (xs:=([(⟨#[97]⟩:ByteArray)]:List ByteArray)) (inner:= [.string (⟨#[97]⟩:ByteArray)]) (ok:=fun _=>True) (okp:=fun _=>True) ?hr ?hp (fun _ hk=>hk) trivial (Below.refl _ _) (Nat.le_refl _) (by simp) ?_;(case hd=>rfl);(case hg=>rfl);(case hr=>first|(go_simp;done)|(go_simp;rfl));(case hp=>exact(Reps.one (show Kd.M Kd.string _ _ _ (⟨#[97]⟩:ByteArray) [.string (⟨#[97]⟩:ByteArray)] from rfl) (Reps.none _ _)));intro v146 w20 ho21 hb hg_ hnew_;clear hg_ hnew_;(first|rw [←Ny145.out] at ho21|(simp only [Int.reduceToNat] at ho21;rw [←Ny145.out] at ho21));have n0_:=aM (bL ho21 (bH (by repeat(first|(with_reducible first|exact HB.out|apply aN|apply aP|apply aO)|exact HB.out))));have n1_:=aM (bG (by repeat(first|(with_reducible first|exact HB.out|apply aN|apply aP|apply aO)|exact HB.out)) hb);clear HB;have HO147:=n0_;have HB:=n1_;clear n0_ n1_;clear hb ho21)|((with_reducible refine bJ (N:=13) rfl ?_);(try(refine gate_guard (by rfl) ?_;dsimp only));refine Kd.N_make k72 _ 72 rfl (N':=13) rfl 23 _ _ rfl 1 rfl rfl Try.underlying23 (.agg #[(.string ⟨#[]⟩),(.int .i64 0),(.string ⟨#[]⟩),(.slice none 0 0),(.int .i64 0),(.int .i64 0),(.slice none 0 0)]) 104 info72 rfl (by decide) (by omega) z72 (ok:=fun k_=>w20.heap.size≤k_) (okp:=fun _=>False) (k72_mkF _ _ z72 (Nat.le_refl _) (Kd.F_nil _ _ _) (Nat.le_refl _) (Kd.F_nil _ _ _)) (fun _ hk=>hk.elim) (Nat.le_refl _) (by omega) (by omega) (Below.refl _ _) (Nat.le_refl _) ?_;intro v149 w22 ho23 hb hg_ hnew_;clear hg_ hnew_;(first|rw [←Ny148.out] at ho23|(simp only [Int.reduceToNat] at ho23;rw [←Ny148.out] at ho23));have n0_:=aM (aD (by(with_reducible repeat(first|apply aA|apply aB|apply aC));exact HO147.out) hb);have n1_:=aM (Kd.N_lower (Kd.N_mono (ok':=fun k_=>some k_≠(v146:Value).ownBlock) ho23 (fun k_ hk_=>(Kd.fresh' (Kd.R_lt (by(with_reducible repeat(first|apply aA|apply aB|apply aC));exact HO147.out)) k_ hk_))) (bH (by repeat(first|(with_reducible first|exact HB.out|apply aN|apply aP|apply aO)|exact HB.out))));have n2_:=aM (bG (by repeat(first|(with_reducible first|exact HB.out|apply aN|apply aP|apply aO)|exact HB.out)) hb);clear HO147;clear HB;have HO147:=n0_;have HO150:=n1_;have HB:=n2_;clear n0_ n1_ n2_;clear hb ho23)|((with_reducible refine bJ (N:=16) rfl ?_);(try(refine gate_guard (by rfl) ?_;dsimp only));refine Kd.R_lit k43 _ 43 ?hg (N:=16) ?hd (xs:=([(⟨true,0⟩:S43),(⟨false,0⟩:S43)]:List (S43))) (inner:= [.bool true,.int .i64 0,.bool false,.int .i64 0]) (ok:=fun _=>True) (okp:=fun _=>True) ?hr ?hp (fun _ hk=>hk) trivial (Below.refl _ _) (Nat.le_refl _) (by simp) ?_;(case hd=>rfl);(case hg=>rfl);(case hr=>first|(go_simp;done)|(go_simp;rfl));(case hp=>exact(Reps.c2 (show Kd.M k43 _ _ _ (⟨true,0⟩:S43) [.bool true,.int .i64 0] from(k43_mkM _ _ _ (⟨true,0⟩:S43))) (Reps.c2 (show Kd.M k43 _ _ _ (⟨false,0⟩:S43) [.bool false,.int .i64 0] from(k43_mkM _ _ _ (⟨false,0⟩:S43))) (Reps.none _ _))));intro v152 w24 ho25 hb hg_ hnew_;clear hg_ hnew_;(first|rw [←Ny151.out] at ho25|(simp only [Int.reduceToNat] at ho25;rw [←Ny151.out] at ho25));have n0_:=aM (aD (by(with_reducible repeat(first|apply aA|apply aB|apply aC));exact HO147.out) hb);have n1_:=aM (Kd.N_elder' (by(with_reducible repeat(first|apply Kd.N_alloc|apply aY|apply aZ));exact HO150.out) (Kd.R_base ho25) hb);have n2_:=aM (bL ho25 (bH (by repeat(first|(with_reducible first|exact HB.out|apply aN|apply aP|apply aO)|exact HB.out))));have n3_:=aM (bG (by repeat(first|(with_reducible first|exact HB.out|apply aN|apply aP|apply aO)|exact HB.out)) hb);clear HO147;clear HO150;clear HB;have HO147:=n0_;have HO150:=n1_;have HO153:=n2_;have HB:=n3_;clear n0_ n1_ n2_ n3_;clear hb ho25;obtain⟨Ao26,co26,eo26⟩:=Kd.R_slice HO153.out;subst eo26)|((with_reducible refine bJ (N:=19) rfl ?_);(try(refine gate_guard (by rfl) ?_;dsimp only));refine Kd.N_lit k35 _ 35 ?hg (N':=19) ?hd (xs:=([(⟨0,y151⟩:S35),(⟨0,([]:List (S43))⟩:S35)]:List (S35))) (inner:= [.int .i64 0,.slice Ao26 y151.length co26,.int .i64 0,.slice none 0 0]) (ok:=(fun k_=>some k_≠(v146:Value).ownBlock∧some k_≠(v149:Value).ownBlock)) (okp:=(fun k_=>some k_≠(v146:Value).ownBlock∧some k_≠(v149:Value).ownBlock)) ?hr ?hp (fun _ hk=>hk) ((show ∀k_,w24.heap.size≤k_→(fun k_=>some k_≠(v146:Value).ownBlock∧some k_≠(v149:Value).ownBlock) k_ from fun k_ hk=>⟨Kd.fresh' (Kd.R_lt (by(with_reducible repeat(first|apply aA|apply aB|apply aC));exact HO147.out)) k_ hk,Kd.fresh' (Kd.N_lt (by(with_reducible repeat(first|apply Kd.N_alloc|apply aY|apply aZ));exact HO150.out)) k_ hk⟩) _ (Nat.le_refl _)) (Below.refl _ _) (Nat.le_refl _) (by simp) ?_;(case hd=>rfl);(case hg=>rfl);(case hr=>first|(go_simp;done)|(go_simp;rfl));(case hp=>exact(Reps.c2 (show Kd.FK k35 _ _ (⟨0,y151⟩:S35) [.int .i64 0,.slice Ao26 y151.length co26] from(k35_mkF _ _ (⟨0,y151⟩:S35) (aF (Kd.R_mono (ok':=(fun k_=>some k_≠(v146:Value).ownBlock∧some k_≠(v149:Value).ownBlock)) (Kd.R_apart' (Kd.R_apart' (HO153.out) (Kd.R_typed HO147.out) (by decide)) (Kd.N_typed HO150.out) (by decide)) (fun k_ hk=>⟨hk.1.2,hk.2⟩))).2.1 (Kd.R_F (Kd.R_mono (ok':=(fun k_=>some k_≠(v146:Value).ownBlock∧some k_≠(v149:Value).ownBlock)) (Kd.R_apart' (Kd.R_apart' (HO153.out) (Kd.R_typed HO147.out) (by decide)) (Kd.N_typed HO150.out) (by decide)) (fun k_ hk=>⟨hk.1.2,hk.2⟩))))) (Reps.c2 (show Kd.FK k35 _ _ (⟨0,([]:List (S43))⟩:S35) [.int .i64 0,.slice none 0 0] from(k35_mkF _ _ (⟨0,([]:List (S43))⟩:S35) (Nat.le_refl _) (Kd.F_nil _ _ _))) (Reps.none _ _))));intro v155 w27 ho28 hb hg_ hnew_;clear hg_ hnew_;(first|rw [←Ny154.out] at ho28|(simp only [Int.reduceToNat] at ho28;rw [←Ny154.out] at ho28));have n0_:=aM (aD (by(with_reducible repeat(first|apply aA|apply aB|apply aC));exact HO147.out) hb);have n1_:=aM (Kd.N_elder' (by(with_reducible repeat(first|apply Kd.N_alloc|apply aY|apply aZ));exact HO150.out) (Kd.N_base ho28) hb);have n2_:=aM (Kd.N_lower ho28 (bH (by repeat(first|(with_reducible first|exact HB.out|apply aN|apply aP|apply aO)|exact HB.out))));have n3_:=aM (bG (by repeat(first|(with_reducible first|exact HB.out|apply aN|apply aP|apply aO)|exact HB.out)) hb);clear HO147;clear HO150;clear HB;clear HO153;have HO147:=n0_;have HO150:=n1_;have HO156:=n2_;have HB:=n3_;clear n0_ n1_ n2_ n3_;clear hb ho28;obtain⟨Ao29,co29,eo29⟩:=Kd.N_slice HO156.out;subst eo29;obtain⟨Ao30,co30,eo30⟩:=Kd.N_slice HO150.out;subst eo30;obtain⟨Ao31,co31,eo31⟩:=Kd.R_slice HO147.out;subst eo31)|((with_reducible refine bJ (N:=1) rfl ?_);(try(refine gate_guard (by rfl) ?_;dsimp only));refine box_event ?hg (N:=1) ?hd (cs:=#[.slice none 0 0,.slice none 0 0,.int .i64 0,.int .i64 0,.slice none 0 0]) (t:=26) ?hr ?_;(case hd=>rfl);(case hg=>rfl);(case hr=>first|(go_simp;done)|(go_simp;rfl));intro gb157 hg w32 hbox hb;have n0_:=aM (aD (by(with_reducible repeat(first|apply aA|apply aB|apply aC));exact HO147.out) hb);have n1_:=aM (Kd.N_below (Kd.N_elderB (by(with_reducible repeat(first|apply Kd.N_alloc|apply aY|apply aZ));exact HO150.out) gb157 (Nat.le_of_eq hg.symm)) hb);have n2_:=aM (Kd.N_below (Kd.N_elderB (by(with_reducible repeat(first|apply Kd.N_alloc|apply aY|apply aZ));exact HO156.out) gb157 (Nat.le_of_eq hg.symm)) hb);have n3_:=aM (bG (by repeat(first|(with_reducible first|exact HB.out|apply aN|apply aP|apply aO)|exact HB.out)) hb);have n4_:=aM (hbox);have n5_:=aM ((by rw [hg];exact(bH (by repeat(first|(with_reducible first|exact HB.out|apply aN|apply aP|apply aO)|exact HB.out))):w.heap.size≤gb157));have n6_:=aM ((by rw [hg];exact(bH (by repeat(first|(with_reducible first|exact HB.out|apply aN|apply aP|apply aO)|exact HB.out))):w.heap.size≤gb157));clear HO147;clear HO150;clear HO156;clear HB;have HO147:=n0_;have HO150:=n1_;have HO156:=n2_;have HB:=n3_;have BK157:=n4_;have GW157:=n5_;have GE157:=n6_;clear n0_ n1_ n2_ n3_ n4_ n5_ n6_;clear hb hbox hg;have hcz33_0:w32.cell? ⟨gb157,0,none⟩=some (.slice none 0 0):=(aG BK157.out 0).trans rfl;have hcz33_1:w32.cell? ⟨gb157,1,none⟩=some (.slice none 0 0):=(aG BK157.out 1).trans rfl;have hcz33_2:w32.cell? ⟨gb157,2,none⟩=some (.int .i64 0):=(aG BK157.out 2).trans rfl;have hcz33_3:w32.cell? ⟨gb157,3,none⟩=some (.int .i64 0):=(aG BK157.out 3).trans rfl;have hcz33_4:w32.cell? ⟨gb157,4,none⟩=some (.slice none 0 0):=(aG BK157.out 4).trans rfl;have hfz33_0:=aH BK157.out 0;have hfz33_1:=aH BK157.out 1;have hfz33_2:=aH BK157.out 2;have hfz33_3:=aH BK157.out 3;have hfz33_4:=aH BK157.out 4)|((with_reducible refine bJ (N:=21) rfl ?_);(try(refine gate_guard (by rfl) ?_;dsimp only));refine Kd.R_lit (Kd.int .i64) _ 3 ?hg (N:=21) ?hd (xs:=([0,1]:List Int)) (inner:= [.int .i64 0,.int .i64 1]) (ok:=fun _=>True) (okp:=fun _=>True) ?hr ?hp (fun _ hk=>hk) trivial (Below.refl _ _) (Nat.le_refl _) (by simp) ?_;(case hd=>rfl);(case hg=>rfl);(case hr=>first|(go_simp;done)|(go_simp;rfl));(case hp=>exact(Reps.one (show Kd.M (Kd.int .i64) _ _ _ 0 [.int .i64 0] from rfl) (Reps.one (show Kd.M (Kd.int .i64) _ _ _ 1 [.int .i64 1] from rfl) (Reps.none _ _))));intro v159 w34 ho35 hb hg_ hnew_;clear hg_ hnew_;(first|rw [←Ny158.out] at ho35|(simp only [Int.reduceToNat] at ho35;rw [←Ny158.out] at ho35));have n0_:=aM (aD (by(with_reducible repeat(first|apply aA|apply aB|apply aC));exact(Kd.R_mono (aE (p:=⟨gb157,4,none⟩) (aE (p:=⟨gb157,3,none⟩) (aE (p:=⟨gb157,2,none⟩) (aE (p:=⟨gb157,1,none⟩) (aE (p:=⟨gb157,0,none⟩) (Kd.R_types HO147.out BK157.out (by decide)) (fun _ hk=>hk.2) (.slice Ao31 y145.length co31)) (fun _ hk=>hk.2) (.slice Ao30 y148.length co30)) (fun _ hk=>hk.2) (.int .i64 0)) (fun _ hk=>hk.2) (.int .i64 0)) (fun _ hk=>hk.2) (.slice Ao29 y154.length co29)) (fun _ h_=>h_.1))) hb);have n1_:=aM (Kd.N_elder' (by(with_reducible repeat(first|apply Kd.N_alloc|apply aY|apply aZ));exact(Kd.N_mono (Kd.N_far (p:=⟨gb157,4,none⟩) (Kd.N_far (p:=⟨gb157,3,none⟩) (Kd.N_far (p:=⟨gb157,2,none⟩) (Kd.N_far (p:=⟨gb157,1,none⟩) (Kd.N_far (p:=⟨gb157,0,none⟩) (Kd.N_mono HO150.out (fun k_ hk=>(⟨hk,hk.2⟩:_∧k_≠gb157))) (fun _ hk=>hk.2) (.slice Ao31 y145.length co31)) (fun _ hk=>hk.2) (.slice Ao30 y148.length co30)) (fun _ hk=>hk.2) (.int .i64 0)) (fun _ hk=>hk.2) (.int .i64 0)) (fun _ hk=>hk.2) (.slice Ao29 y154.length co29)) (fun _ h_=>h_.1))) (Kd.R_base ho35) hb);have n2_:=aM (Kd.N_elder' (by(with_reducible repeat(first|apply Kd.N_alloc|apply aY|apply aZ));exact(Kd.N_mono (Kd.N_far (p:=⟨gb157,4,none⟩) (Kd.N_far (p:=⟨gb157,3,none⟩) (Kd.N_far (p:=⟨gb157,2,none⟩) (Kd.N_far (p:=⟨gb157,1,none⟩) (Kd.N_far (p:=⟨gb157,0,none⟩) (Kd.N_mono HO156.out (fun k_ hk=>(⟨hk,hk.2⟩:_∧k_≠gb157))) (fun _ hk=>hk.2) (.slice Ao31 y145.length co31)) (fun _ hk=>hk.2) (.slice Ao30 y148.length co30)) (fun _ hk=>hk.2) (.int .i64 0)) (fun _ hk=>hk.2) (.int .i64 0)) (fun _ hk=>hk.2) (.slice Ao29 y154.length co29)) (fun _ h_=>h_.1))) (Kd.R_base ho35) hb);have n3_:=aM (bL ho35 (bH (by repeat(first|(with_reducible first|exact HB.out|apply aN|apply aP|apply aO|refine aL ?_ GE157.out)|exact HB.out))));have n4_:=aM (bF (g:=gb157) (o:= .cells #[.slice Ao31 y145.length co31,.slice Ao30 y148.length co30,.int .i64 0,.int .i64 0,.slice Ao29 y154.length co29] 26 (0,0)) (by(with_reducible repeat(first|refine aJ ?_ _|refine aK ?_|refine aI ?_ _));refine blk_put (cs:=#[.slice Ao31 y145.length co31,.slice Ao30 y148.length co30,.int .i64 0,.int .i64 0,.slice none 0 0]) ?_ 4 _ rfl;(with_reducible repeat(first|refine aJ ?_ _|refine aK ?_|refine aI ?_ _));refine blk_put (cs:=#[.slice Ao31 y145.length co31,.slice Ao30 y148.length co30,.int .i64 0,.int .i64 0,.slice none 0 0]) ?_ 3 _ rfl;(with_reducible repeat(first|refine aJ ?_ _|refine aK ?_|refine aI ?_ _));refine blk_put (cs:=#[.slice Ao31 y145.length co31,.slice Ao30 y148.length co30,.int .i64 0,.int .i64 0,.slice none 0 0]) ?_ 2 _ rfl;(with_reducible repeat(first|refine aJ ?_ _|refine aK ?_|refine aI ?_ _));refine blk_put (cs:=#[.slice Ao31 y145.length co31,.slice none 0 0,.int .i64 0,.int .i64 0,.slice none 0 0]) ?_ 1 _ rfl;(with_reducible repeat(first|refine aJ ?_ _|refine aK ?_|refine aI ?_ _));refine blk_put (cs:=#[.slice none 0 0,.slice none 0 0,.int .i64 0,.int .i64 0,.slice none 0 0]) ?_ 0 _ rfl;(with_reducible repeat(first|refine aJ ?_ _|refine aK ?_|refine aI ?_ _));exact BK157.out) hb);have n5_:=aM (bG (by repeat(first|(with_reducible first|exact HB.out|apply aN|apply aP|apply aO|refine aL ?_ GE157.out)|exact HB.out)) hb);clear HO147;clear HO150;clear HO156;clear BK157;clear HB;have HO147:=n0_;have HO150:=n1_;have HO156:=n2_;have HO160:=n3_;have BK157:=n4_;have HB:=n5_;clear n0_ n1_ n2_ n3_ n4_ n5_;clear hb ho35;obtain⟨Ao36,co36,eo36⟩:=Kd.R_slice HO160.out;subst eo36)|((with_reducible refine bJ (N:=22) rfl ?_);(try(refine gate_guard (by rfl) ?_;dsimp only));refine Kd.N_lit (Kd.slice 3 (Kd.int .i64)) _ 32 ?hg (N':=22) ?hd (xs:=([y158]:List (List Int))) (inner:= [.slice Ao36 y158.length co36]) (ok:=(fun k_=>some k_≠(.slice Ao31 y145.length co31:Value).ownBlock∧some k_≠(.slice Ao30 y148.length co30:Value).ownBlock∧some k_≠(.slice Ao29 y154.length co29:Value).ownBlock∧k_≠gb157)) (okp:=(fun k_=>some k_≠(.slice Ao31 y145.length co31:Value).ownBlock∧some k_≠(.slice Ao30 y148.length co30:Value).ownBlock∧some k_≠(.slice Ao29 y154.length co29:Value).ownBlock∧k_≠gb157)) ?hr ?hp (fun _ hk=>hk) ((show ∀k_,w34.heap.size≤k_→(fun k_=>some k_≠(.slice Ao31 y145.length co31:Value).ownBlock∧some k_≠(.slice Ao30 y148.length co30:Value).ownBlock∧some k_≠(.slice Ao29 y154.length co29:Value).ownBlock∧k_≠gb157) k_ from fun k_ hk=>⟨Kd.fresh' (Kd.R_lt (by(with_reducible repeat(first|apply aA|apply aB|apply aC));exact HO147.out)) k_ hk,Kd.fresh' (Kd.N_lt (by(with_reducible repeat(first|apply Kd.N_alloc|apply aY|apply aZ));exact HO150.out)) k_ hk,Kd.fresh' (Kd.N_lt (by(with_reducible repeat(first|apply Kd.N_alloc|apply aY|apply aZ));exact HO156.out)) k_ hk,Kd.freshB (g:=gb157) (o:= .cells #[.slice Ao31 y145.length co31,.slice Ao30 y148.length co30,.int .i64 0,.int .i64 0,.slice Ao29 y154.length co29] 26 (0,0)) (by(with_reducible repeat(first|refine aJ ?_ _|refine aK ?_|refine aI ?_ _));exact BK157.out) k_ hk⟩) _ (Nat.le_refl _)) (Below.refl _ _) (Nat.le_refl _) (by simp) ?_;(case hd=>rfl);(case hg=>rfl);(case hr=>first|(go_simp;done)|(go_simp;rfl));(case hp=>exact(Reps.one (show Kd.FK (Kd.slice 3 (Kd.int .i64)) _ _ y158 [.slice Ao36 y158.length co36] from(Kd.FK_slice_mk (aF (Kd.R_mono (ok':=(fun k_=>some k_≠(.slice Ao31 y145.length co31:Value).ownBlock∧some k_≠(.slice Ao30 y148.length co30:Value).ownBlock∧some k_≠(.slice Ao29 y154.length co29:Value).ownBlock∧k_≠gb157)) (Kd.R_types (Kd.R_apart' (Kd.R_apart' (Kd.R_apart' (HO160.out) (Kd.R_typed HO147.out) (by decide)) (Kd.N_typed HO150.out) (by decide)) (Kd.N_typed HO156.out) (by decide)) BK157.out (by decide)) (fun k_ hk=>⟨hk.1.1.1.2,⟨hk.1.1.2,⟨hk.1.2,hk.2⟩⟩⟩))).2.1 (Kd.R_F (Kd.R_mono (ok':=(fun k_=>some k_≠(.slice Ao31 y145.length co31:Value).ownBlock∧some k_≠(.slice Ao30 y148.length co30:Value).ownBlock∧some k_≠(.slice Ao29 y154.length co29:Value).ownBlock∧k_≠gb157)) (Kd.R_types (Kd.R_apart' (Kd.R_apart' (Kd.R_apart' (HO160.out) (Kd.R_typed HO147.out) (by decide)) (Kd.N_typed HO150.out) (by decide)) (Kd.N_typed HO156.out) (by decide)) BK157.out (by decide)) (fun k_ hk=>⟨hk.1.1.1.2,⟨hk.1.1.2,⟨hk.1.2,hk.2⟩⟩⟩))))) (Reps.none _ _)));intro v162 w37 ho38 hb hg_ hnew_;clear hg_ hnew_;(first|rw [←Ny161.out] at ho38|(simp only [Int.reduceToNat] at ho38;rw [←Ny161.out] at ho38));have n0_:=aM (aD (by(with_reducible repeat(first|apply aA|apply aB|apply aC));exact HO147.out) hb);have n1_:=aM (Kd.N_elder' (by(with_reducible repeat(first|apply Kd.N_alloc|apply aY|apply aZ));exact HO150.out) (Kd.N_base ho38) hb);have n2_:=aM (Kd.N_elder' (by(with_reducible repeat(first|apply Kd.N_alloc|apply aY|apply aZ));exact HO156.out) (Kd.N_base ho38) hb);have n3_:=aM (Kd.N_lower ho38 (bH (by repeat(first|(with_reducible first|exact HB.out|apply aN|apply aP|apply aO|refine aL ?_ GE157.out)|exact HB.out))));have n4_:=aM (bF (g:=gb157) (o:= .cells #[.slice Ao31 y145.length co31,.slice Ao30 y148.length co30,.int .i64 0,.int .i64 0,.slice Ao29 y154.length co29] 26 (0,0)) (by(with_reducible repeat(first|refine aJ ?_ _|refine aK ?_|refine aI ?_ _));exact BK157.out) hb);have n5_:=aM (bG (by repeat(first|(with_reducible first|exact HB.out|apply aN|apply aP|apply aO|refine aL ?_ GE157.out)|exact HB.out)) hb);clear HO147;clear HO150;clear HO156;clear BK157;clear HB;clear HO160;have HO147:=n0_;have HO150:=n1_;have HO156:=n2_;have HO163:=n3_;have BK157:=n4_;have HB:=n5_;clear n0_ n1_ n2_ n3_ n4_ n5_;clear hb ho38;have hcz39_0:w37.cell? ⟨gb157,0,none⟩=some (.slice Ao31 y145.length co31):=(aG BK157.out 0).trans rfl;have hcz39_1:w37.cell? ⟨gb157,1,none⟩=some (.slice Ao30 y148.length co30):=(aG BK157.out 1).trans rfl;have hcz39_2:w37.cell? ⟨gb157,2,none⟩=some (.int .i64 0):=(aG BK157.out 2).trans rfl;have hcz39_3:w37.cell? ⟨gb157,3,none⟩=some (.int .i64 0):=(aG BK157.out 3).trans rfl;have hcz39_4:w37.cell? ⟨gb157,4,none⟩=some (.slice Ao29 y154.length co29):=(aG BK157.out 4).trans rfl;have hfz39_0:=aH BK157.out 0;have hfz39_1:=aH BK157.out 1;have hfz39_2:=aH BK157.out 2;have hfz39_3:=aH BK157.out 3;have hfz39_4:=aH BK157.out 4)|((with_reducible refine bJ (N:=26) rfl ?_);(try(refine gate_guard (by rfl) ?_;dsimp only));refine Kd.R_lit (Kd.int .i64) _ 3 ?hg (N:=26) ?hd (xs:=([0,0]:List Int)) (inner:= [.int .i64 0,.int .i64 0]) (ok:=fun _=>True) (okp:=fun _=>True) ?hr ?hp (fun _ hk=>hk) trivial (Below.refl _ _) (Nat.le_refl _) (by simp) ?_;(case hd=>rfl);(case hg=>rfl);(case hr=>first|(go_simp;done)|(go_simp;rfl));(case hp=>exact(Reps.one (show Kd.M (Kd.int .i64) _ _ _ 0 [.int .i64 0] from rfl) (Reps.one (show Kd.M (Kd.int .i64) _ _ _ 0 [.int .i64 0] from rfl) (Reps.none _ _))));intro v165 w40 ho41 hb hg_ hnew_;clear hg_ hnew_;(first|rw [←Ny164.out] at ho41|(simp only [Int.reduceToNat] at ho41;rw [←Ny164.out] at ho41));have n0_:=aM (aD (by(with_reducible repeat(first|apply aA|apply aB|apply aC));exact HO147.out) hb);have n1_:=aM (Kd.N_elder' (by(with_reducible repeat(first|apply Kd.N_alloc|apply aY|apply aZ));exact HO150.out) (Kd.R_base ho41) hb);have n2_:=aM (Kd.N_elder' (by(with_reducible repeat(first|apply Kd.N_alloc|apply aY|apply aZ));exact HO156.out) (Kd.R_base ho41) hb);have n3_:=aM (Kd.N_elder' (by(with_reducible repeat(first|apply Kd.N_alloc|apply aY|apply aZ));exact HO163.out) (Kd.R_base ho41) hb);have n4_:=aM (bL ho41 (bH (by repeat(first|(with_reducible first|exact HB.out|apply aN|apply aP|apply aO|refine aL ?_ GE157.out)|exact HB.out))));have n5_:=aM (bF (g:=gb157) (o:= .cells #[.slice Ao31 y145.length co31,.slice Ao30 y148.length co30,.int .i64 0,.int .i64 0,.slice Ao29 y154.length co29] 26 (0,0)) (by(with_reducible repeat(first|refine aJ ?_ _|refine aK ?_|refine aI ?_ _));exact BK157.out) hb);have n6_:=aM (bG (by repeat(first|(with_reducible first|exact HB.out|apply aN|apply aP|apply aO|refine aL ?_ GE157.out)|exact HB.out)) hb);clear HO147;clear HO150;clear HO156;clear HO163;clear BK157;clear HB;have HO147:=n0_;have HO150:=n1_;have HO156:=n2_;have HO163:=n3_;have HO166:=n4_;have BK157:=n5_;have HB:=n6_;clear n0_ n1_ n2_ n3_ n4_ n5_ n6_;clear hb ho41;obtain⟨Ao42,co42,eo42⟩:=Kd.N_slice HO163.out;subst eo42;obtain⟨Ao43,co43,eo43⟩:=Kd.R_slice HO166.out;subst eo43)|((with_reducible refine bI (f:=22) rfl ?_);refine goesL_ (some 27) rfl rfl Try.func22 (by kernel_rfl) rfl #[.agg #[.slice Ao31 y145.length co31,.slice Ao30 y148.length co30,.int .i64 0,.int .i64 0,.slice Ao29 y154.length co29],.slice Ao42 y161.length co42,.slice Ao43 y164.length co43] rfl (by(try simp only [List.map_toArray,List.map_cons,List.map_nil]);first|done|rfl|(simp only [List.length_drop,List.length_take];rfl)) ?_;(with_reducible refine(machine_Run.calls k _ _ y145 _ _ y148 0 0 _ _ y154 _ _ y161 _ _ y164 t167 t170 t171 _ ?side1 ?side2 ?side3 ?side4 ?side5 ?side6 ?side7 ?side8 ?side9 ?side10 A2.out).mono ?_);(case side1=>repeat(first|exact(aF HO147.out).2.2|(with_reducible refine Kd.C_alloc ?_ _)|(with_reducible refine Kd.C_drewN ?_ _)|(with_reducible refine Kd.C_drew ?_)));(case side2=>exact(aF HO147.out).2.1);(case side3=>repeat(first|exact(aT HO150.out).2.2|(with_reducible refine Kd.C_alloc ?_ _)|(with_reducible refine Kd.C_drewN ?_ _)|(with_reducible refine Kd.C_drew ?_)));(case side4=>exact(aT HO150.out).2.1);(case side5=>repeat(first|exact(aT HO156.out).2.2|(with_reducible refine Kd.C_alloc ?_ _)|(with_reducible refine Kd.C_drewN ?_ _)|(with_reducible refine Kd.C_drew ?_)));(case side6=>exact(aT HO156.out).2.1);(case side7=>repeat(first|exact(aT HO163.out).2.2|(with_reducible refine Kd.C_alloc ?_ _)|(with_reducible refine Kd.C_drewN ?_ _)|(with_reducible refine Kd.C_drew ?_)));(case side8=>exact(aT HO163.out).2.1);(case side9=>repeat(first|exact(aF HO166.out).2.2|(with_reducible refine Kd.C_alloc ?_ _)|(with_reducible refine Kd.C_drewN ?_ _)|(with_reducible refine Kd.C_drew ?_)));(case side10=>exact(aF HO166.out).2.1);rintro e w44 ⟨v168,rfl,ho0,hb⟩;refine⟨_,rfl,?_⟩;have n0_:=aM (aD (by(with_reducible repeat(first|apply aA|apply aB|apply aC));exact HO147.out) hb);have n1_:=aM (Kd.N_elder' (by(with_reducible repeat(first|apply Kd.N_alloc|apply aY|apply aZ));exact HO150.out) (Kd.R_base ho0) hb);have n2_:=aM (Kd.N_elder' (by(with_reducible repeat(first|apply Kd.N_alloc|apply aY|apply aZ));exact HO156.out) (Kd.R_base ho0) hb);have n3_:=aM (Kd.N_elder' (by(with_reducible repeat(first|apply Kd.N_alloc|apply aY|apply aZ));exact HO163.out) (Kd.R_base ho0) hb);have n4_:=aM (bE (by(with_reducible repeat(first|apply aA|apply aB|apply aC));exact HO166.out) (Kd.R_base ho0) hb);have n5_:=aM (bL (Kd.R_new' ho0 (Kd.R_lt (by(with_reducible repeat(first|apply aA|apply aB|apply aC));exact HO166.out))) (bH (by repeat(first|(with_reducible first|exact HB.out|apply aN|apply aP|apply aO|refine aL ?_ GE157.out)|exact HB.out))));have n6_:=aM (bF (g:=gb157) (o:= .cells #[.slice Ao31 y145.length co31,.slice Ao30 y148.length co30,.int .i64 0,.int .i64 0,.slice Ao29 y154.length co29] 26 (0,0)) (by(with_reducible repeat(first|refine aJ ?_ _|refine aK ?_|refine aI ?_ _));exact BK157.out) hb);have n7_:=aM (bG (by repeat(first|(with_reducible first|exact HB.out|apply aN|apply aP|apply aO|refine aL ?_ GE157.out)|exact HB.out)) hb);clear HO147;clear HO150;clear HO156;clear HO163;clear HO166;clear BK157;clear HB;have HO147:=n0_;have HO150:=n1_;have HO156:=n2_;have HO163:=n3_;have HO166:=n4_;have HO169:=n5_;have BK157:=n6_;have HB:=n7_;clear n0_ n1_ n2_ n3_ n4_ n5_ n6_ n7_;(try clear hb);(try clear hb2);(try clear hk);(try clear hi);(try clear ho0)))
     have n0_:=aM (aC HO147.out)
     have n1_:=aM (aZ HO150.out)
     have n2_:=aM (aZ HO156.out)
     have n3_:=aM (aZ HO163.out)
     have n4_:=aM (aC HO166.out)
     have n5_:=aM (aC HO169.out)
     have n6_:=aM (aK BK157.out)
     have n7_:=aM (aO HB.out)
     clear HO147
     clear HO150
     clear HO156
     clear HO163
     clear HO166
     clear HO169
     clear BK157
     clear HB
     have HO147:=n0_
     have HO150:=n1_
     have HO156:=n2_
     have HO163:=n3_
     have HO166:=n4_
     have HO169:=n5_
     have BK157:=n6_
     have HB:=n7_
     clear n0_ n1_ n2_ n3_ n4_ n5_ n6_ n7_
     refine start_ (n:=12) (S:=fun w'=>w'.cell? ⟨gb157,0,none⟩=some (.slice Ao31 y145.length co31)∧w'.cell? ⟨gb157,1,none⟩=some (.slice Ao30 y148.length co30)∧w'.cell? ⟨gb157,2,none⟩=some (.int .i64 0)∧w'.cell? ⟨gb157,3,none⟩=some (.int .i64 0)∧w'.cell? ⟨gb157,4,none⟩=some (.slice Ao29 y154.length co29)) (ds:= []) #[F,F,F,F,F,F,F,F,F,F,F,F] (by kernel_rfl) rfl rfl ⟨(aG BK157.out 0).trans rfl,(aG BK157.out 1).trans rfl,(aG BK157.out 2).trans rfl,(aG BK157.out 3).trans rfl,(aG BK157.out 4).trans rfl⟩ (fun hHeld=>?_);refine with_tabW regletlaw16_awake.tab4 regletlaw16_awake.bits4 (fun HT_ HW_=>?_)
     generalize w44.drew=w45 at HO147 HO150 HO156 HO163 HO166 HO169 BK157 HB hHeld ⊢
     refine pure_ (i:=1) (N:=some 33) (v:=?_) (a':=?_) #[F,T,F,F,F,F,F,F,F,F,F,F] rfl rfl (any_of HT_.out (by kernel_rfl)) (fun _ _ _ h=>h) (Or.inl ⟨by rfl,?_⟩) ?_ ?_
     rotate_left;(intro w';go_simp;with_reducible rfl);rotate_left;(simp only [pq];rfl)
     refine take_ (i:=0) (N:=some 32) (v:=?_) (a':=?_) #[T,T,F,F,F,F,F,F,F,F,F,F] rfl rfl (take_ofW HT_.out HW_.out (by kernel_rfl)) (fun _ _ _ h=>h) (Or.inl ⟨by rfl,?_⟩) hHeld ?_ ?_
     rotate_left
     ·rintro w' ⟨s0,s1,s2,s3,s4⟩
      go_simp
      with_reducible rfl
     rotate_left
     ·simp only [pq]
      rfl
     refine join_ (σ:=Value×Value×Value×Nat) 3 #[T,T,T,T,T,T,T,T,T,F,F,F] (fun s_=> [(34,.agg #[s_.1,.bool t175]),(35,.tuple #[.agg #[s_.2.1,.bool t179],s_.2.2.1,.int .i64 t183]),(6,.pointer (some ⟨s_.2.2.2,0,none⟩)),(31,.tuple #[.agg #[s_.2.1,.bool t179],s_.2.2.1,.int .i64 t183]),(36,.agg #[s_.2.1,.bool t179]),(37,s_.2.2.1),(38,.int .i64 t183)]) (fun s_ w'=>(w'.cell? ⟨gb157,0,none⟩=some (.slice Ao31 y145.length co31)∧w'.cell? ⟨gb157,1,none⟩=some (.slice Ao30 y148.length co30)∧w'.cell? ⟨gb157,2,none⟩=some (.int .i64 0)∧w'.cell? ⟨gb157,3,none⟩=some (.int .i64 0)∧w'.cell? ⟨gb157,4,none⟩=some (.slice Ao29 y154.length co29))∧(Kd.R Kd.string 9 w' w.heap.size (fun _=>True) (.slice Ao31 y145.length co31) y145)∧(Kd.N k72 72 w' w.heap.size (fun k_=>some k_≠(.slice Ao31 y145.length co31:Value).ownBlock∧some k_≠(.slice Ao29 y154.length co29:Value).ownBlock∧some k_≠(.slice Ao42 y161.length co42:Value).ownBlock∧some k_≠(.slice Ao43 y164.length co43:Value).ownBlock∧some k_≠(v168:Value).ownBlock∧some k_≠(s_.1:Value).ownBlock∧some k_≠(s_.2.1:Value).ownBlock∧some k_≠(s_.2.2.1:Value).ownBlock∧k_≠gb157∧k_≠s_.2.2.2) (.slice Ao30 y148.length co30) y148)∧(Kd.N k35 35 w' w.heap.size (fun k_=>some k_≠(.slice Ao31 y145.length co31:Value).ownBlock∧some k_≠(.slice Ao30 y148.length co30:Value).ownBlock∧some k_≠(.slice Ao42 y161.length co42:Value).ownBlock∧some k_≠(.slice Ao43 y164.length co43:Value).ownBlock∧some k_≠(v168:Value).ownBlock∧some k_≠(s_.1:Value).ownBlock∧some k_≠(s_.2.1:Value).ownBlock∧some k_≠(s_.2.2.1:Value).ownBlock∧k_≠gb157∧k_≠s_.2.2.2) (.slice Ao29 y154.length co29) y154)∧(Kd.N (Kd.slice 3 (Kd.int .i64)) 32 w' w.heap.size (fun k_=>some k_≠(.slice Ao31 y145.length co31:Value).ownBlock∧some k_≠(.slice Ao30 y148.length co30:Value).ownBlock∧some k_≠(.slice Ao29 y154.length co29:Value).ownBlock∧some k_≠(.slice Ao43 y164.length co43:Value).ownBlock∧some k_≠(v168:Value).ownBlock∧some k_≠(s_.1:Value).ownBlock∧some k_≠(s_.2.1:Value).ownBlock∧some k_≠(s_.2.2.1:Value).ownBlock∧k_≠gb157∧k_≠s_.2.2.2) (.slice Ao42 y161.length co42) y161)∧(Kd.R (Kd.int .i64) 3 w' w.heap.size (fun k_=>some k_≠(v168:Value).ownBlock∧some k_≠(s_.2.2.1:Value).ownBlock) (.slice Ao43 y164.length co43) y164)∧(Kd.R (Kd.int .i64) 3 w' w.heap.size (fun k_=>some k_≠(.slice Ao43 y164.length co43:Value).ownBlock∧some k_≠(s_.2.2.1:Value).ownBlock) v168 t167)∧(Kd.R k43 43 w' w.heap.size (fun k_=>some k_≠(s_.2.1:Value).ownBlock) s_.1 t172)∧(Kd.R k43 43 w' w.heap.size (fun k_=>some k_≠(s_.1:Value).ownBlock) s_.2.1 t176)∧(Kd.R (Kd.int .i64) 3 w' w.heap.size (fun k_=>some k_≠(.slice Ao43 y164.length co43:Value).ownBlock∧some k_≠(v168:Value).ownBlock) s_.2.2.1 t180)∧(w'.heap[gb157]?=some (.cells #[.slice Ao31 y145.length co31,.slice Ao30 y148.length co30,.int .i64 0,.int .i64 0,.slice Ao29 y154.length co29] 26 (0,0)))∧(w'.heap[s_.2.2.2]?=some (.cells #[.slice none 0 0,.bool false] 31 (0,0)))∧(w.heap.size≤s_.2.2.2)∧(w.heap.size≤s_.2.2.2)∧(gb157≠s_.2.2.2)∧(s_.2.2.2≠gb157)∧(Below w.heap.size w w')) ?_ ?_
     rotate_left
     ·intro hCont
      refine two_ (i:=2) (j:=8) (Ni:=some 34) (Nj:=some 6) #[T,T,T,F,F,F,F,F,F,F,F,F] #[T,T,F,F,F,F,F,F,T,F,F,F] rfl rfl rfl rfl (two_of HT_.out (by kernel_rfl)) (by decide) (by decide) (fun K hK=>?_) (fun K hK=>?_)
      ·skip
       refine goes_ Try.func17 (by kernel_rfl) rfl #[] (by rfl) rfl rfl (by(try simp only [List.map_toArray,List.map_cons,List.map_nil]);first|done|rfl|(simp only [List.length_drop,List.length_take];rfl)) ?_
       with_reducible refine(machine_Start.calls  t172 t175 _ A3.out).mono ?_
       rintro e w46 ⟨v173,rfl,ho0,hb⟩
       refine⟨_,rfl,?_⟩
       have n0_:=aM (aD (by(with_reducible repeat(first|apply aA|apply aB|apply aC));exact HO147.out) hb)
       have n1_:=aM (Kd.N_elder' (by(with_reducible repeat(first|apply Kd.N_alloc|apply aY|apply aZ));exact HO150.out) (Kd.R_base ho0) hb)
       have n2_:=aM (Kd.N_elder' (by(with_reducible repeat(first|apply Kd.N_alloc|apply aY|apply aZ));exact HO156.out) (Kd.R_base ho0) hb)
       have n3_:=aM (Kd.N_elder' (by(with_reducible repeat(first|apply Kd.N_alloc|apply aY|apply aZ));exact HO163.out) (Kd.R_base ho0) hb)
       have n4_:=aM (aD (by(with_reducible repeat(first|apply aA|apply aB|apply aC));exact HO166.out) hb)
       have n5_:=aM (aD (by(with_reducible repeat(first|apply aA|apply aB|apply aC));exact HO169.out) hb)
       have n6_:=aM (bL ho0 (bH (by repeat(first|(with_reducible first|exact HB.out|apply aN|apply aP|apply aO|refine aL ?_ GE157.out)|exact HB.out))))
       have n7_:=aM (bF (g:=gb157) (o:= .cells #[.slice Ao31 y145.length co31,.slice Ao30 y148.length co30,.int .i64 0,.int .i64 0,.slice Ao29 y154.length co29] 26 (0,0)) (by(with_reducible repeat(first|refine aJ ?_ _|refine aK ?_|refine aI ?_ _));exact BK157.out) hb)
       have n8_:=aM (bG (by repeat(first|(with_reducible first|exact HB.out|apply aN|apply aP|apply aO|refine aL ?_ GE157.out)|exact HB.out)) hb)
       clear HO147
       clear HO150
       clear HO156
       clear HO163
       clear HO166
       clear HO169
       clear BK157
       clear HB
       have HO147:=n0_
       have HO150:=n1_
       have HO156:=n2_
       have HO163:=n3_
       have HO166:=n4_
       have HO169:=n5_
       have HO174:=n6_
       have BK157:=n7_
       have HB:=n8_
       clear n0_ n1_ n2_ n3_ n4_ n5_ n6_ n7_ n8_
       (try clear hb);(try clear hb2);(try clear hk);(try clear hi);(try clear ho0)
       obtain⟨Ao47,co47,eo47⟩:=Kd.R_slice HO174.out
       (first|subst eo47|(injection eo47 with f1_ f2_ f3_;have f4_:=f1_.symm;have f5_:=f3_.symm;clear f1_ f2_ f3_;subst f4_;subst f5_))
       refine hK.out _ _ ⟨(aG BK157.out 0).trans rfl,(aG BK157.out 1).trans rfl,(aG BK157.out 2).trans rfl,(aG BK157.out 3).trans rfl,(aG BK157.out 4).trans rfl⟩ (fun hHeld=>?_)
       clear hK K
       refine norm_ (a':=?_) ?_ ?_
       rotate_left
       ·show Act.put _ (some 34) _=_
        simp only [pq]
        rfl
       refine two_ (i:=3) (j:=8) (Ni:=some 35) (Nj:=some 6) #[T,T,T,T,F,F,F,F,F,F,F,F] #[T,T,T,F,F,F,F,F,T,F,F,F] rfl rfl rfl rfl (two_of HT_.out (by kernel_rfl)) (by decide) (by decide) (fun K hK=>?_) (fun K hK=>?_)
       ·skip
        refine goes_ Try.func23 (by kernel_rfl) rfl #[.agg #[.slice Ao31 y145.length co31,.slice Ao30 y148.length co30,.int .i64 0,.int .i64 0,.slice Ao29 y154.length co29],.slice Ao42 y161.length co42,.agg #[.slice Ao47 t172.length co47,.bool t175],.int .i64 0] (by rfl) rfl rfl (by(try simp only [List.map_toArray,List.map_cons,List.map_nil]);first|done|rfl|(simp only [List.length_drop,List.length_take];rfl)) ?_
        with_reducible refine(machine_Feed.calls _ _ y145 _ _ y148 0 0 _ _ y154 _ _ y161 _ _ t172 t175 0 t176 t179 t180 t183 _ ?side1 ?side2 ?side3 ?side4 ?side5 ?side6 ?side7 ?side8 ?side9 ?side10 A4.out).mono ?_
        (case side1=>repeat(first|exact(aF HO147.out).2.2|(with_reducible refine Kd.C_alloc ?_ _)|(with_reducible refine Kd.C_drewN ?_ _)|(with_reducible refine Kd.C_drew ?_)))
        (case side2=>exact(aF HO147.out).2.1)
        (case side3=>repeat(first|exact(aT HO150.out).2.2|(with_reducible refine Kd.C_alloc ?_ _)|(with_reducible refine Kd.C_drewN ?_ _)|(with_reducible refine Kd.C_drew ?_)))
        (case side4=>exact(aT HO150.out).2.1)
        (case side5=>repeat(first|exact(aT HO156.out).2.2|(with_reducible refine Kd.C_alloc ?_ _)|(with_reducible refine Kd.C_drewN ?_ _)|(with_reducible refine Kd.C_drew ?_)))
        (case side6=>exact(aT HO156.out).2.1)
        (case side7=>repeat(first|exact(aT HO163.out).2.2|(with_reducible refine Kd.C_alloc ?_ _)|(with_reducible refine Kd.C_drewN ?_ _)|(with_reducible refine Kd.C_drew ?_)))
        (case side8=>exact(aT HO163.out).2.1)
        (case side9=>repeat(first|exact(aF HO174.out).2.2|(with_reducible refine Kd.C_alloc ?_ _)|(with_reducible refine Kd.C_drewN ?_ _)|(with_reducible refine Kd.C_drew ?_)))
        (case side10=>exact(aF HO174.out).2.1)
        rintro e w48 ⟨v177,v181,rfl,ho0,ho1,hb⟩
        refine⟨_,rfl,?_⟩
        have n0_:=aM (aD (by(with_reducible repeat(first|apply aA|apply aB|apply aC));exact HO147.out) hb)
        have n1_:=aM (Kd.N_mono (Kd.N_told (Kd.N_told (Kd.N_old (by(with_reducible repeat(first|apply Kd.N_alloc|apply aY|apply aZ));exact HO150.out) hb) (Kd.R_base ho0)) (Kd.R_base ho1)) (fun _ h_=>h_.1))
        have n2_:=aM (Kd.N_mono (Kd.N_told (Kd.N_told (Kd.N_old (by(with_reducible repeat(first|apply Kd.N_alloc|apply aY|apply aZ));exact HO156.out) hb) (Kd.R_base ho0)) (Kd.R_base ho1)) (fun _ h_=>h_.1))
        have n3_:=aM (Kd.N_mono (Kd.N_told (Kd.N_told (Kd.N_old (by(with_reducible repeat(first|apply Kd.N_alloc|apply aY|apply aZ));exact HO163.out) hb) (Kd.R_base ho0)) (Kd.R_base ho1)) (fun _ h_=>h_.1))
        have n4_:=aM (bE (by(with_reducible repeat(first|apply aA|apply aB|apply aC));exact HO166.out) (Kd.R_base ho1) hb)
        have n5_:=aM (bE (by(with_reducible repeat(first|apply aA|apply aB|apply aC));exact HO169.out) (Kd.R_base ho1) hb)
        have n6_:=aM (bE (by(with_reducible repeat(first|apply aA|apply aB|apply aC));exact HO174.out) (Kd.R_base ho0) hb)
        have n7_:=aM (bL (Kd.R_new' ho0 (Kd.R_lt (by(with_reducible repeat(first|apply aA|apply aB|apply aC));exact HO174.out))) (bH (by repeat(first|(with_reducible first|exact HB.out|apply aN|apply aP|apply aO|refine aL ?_ GE157.out)|exact HB.out))))
        have n8_:=aM (bL (Kd.R_new' (Kd.R_new' ho1 (Kd.R_lt (by(with_reducible repeat(first|apply aA|apply aB|apply aC));exact HO166.out))) (Kd.R_lt (by(with_reducible repeat(first|apply aA|apply aB|apply aC));exact HO169.out))) (bH (by repeat(first|(with_reducible first|exact HB.out|apply aN|apply aP|apply aO|refine aL ?_ GE157.out)|exact HB.out))))
        have n9_:=aM (bF (g:=gb157) (o:= .cells #[.slice Ao31 y145.length co31,.slice Ao30 y148.length co30,.int .i64 0,.int .i64 0,.slice Ao29 y154.length co29] 26 (0,0)) (by(with_reducible repeat(first|refine aJ ?_ _|refine aK ?_|refine aI ?_ _));exact BK157.out) hb)
        have n10_:=aM (bG (by repeat(first|(with_reducible first|exact HB.out|apply aN|apply aP|apply aO|refine aL ?_ GE157.out)|exact HB.out)) hb)
        clear HO147
        clear HO150
        clear HO156
        clear HO163
        clear HO166
        clear HO169
        clear HO174
        clear BK157
        clear HB
        have HO147:=n0_
        have HO150:=n1_
        have HO156:=n2_
        have HO163:=n3_
        have HO166:=n4_
        have HO169:=n5_
        have HO174:=n6_
        have HO178:=n7_
        have HO182:=n8_
        have BK157:=n9_
        have HB:=n10_
        clear n0_ n1_ n2_ n3_ n4_ n5_ n6_ n7_ n8_ n9_ n10_
        (try clear hb);(try clear hb2);(try clear hk);(try clear hi);(try clear ho0);(try clear ho1)
        refine hK.out _ _ ⟨(aG BK157.out 0).trans rfl,(aG BK157.out 1).trans rfl,(aG BK157.out 2).trans rfl,(aG BK157.out 3).trans rfl,(aG BK157.out 4).trans rfl⟩ (fun hHeld=>?_)
        clear hK K
        refine norm_ (a':=?_) ?_ ?_
        rotate_left
        ·show Act.put _ (some 35) _=_
         simp only [pq]
         rfl
        refine pure_ (i:=4) (N:=some 31) (v:=?_) (a':=?_) #[T,T,T,T,T,F,F,F,F,F,F,F] rfl rfl (any_of HT_.out (by kernel_rfl)) (fun _ _ _ h=>h) (Or.inl ⟨by rfl,?_⟩) ?_ ?_
        rotate_left;(intro w';go_simp;with_reducible rfl);rotate_left;(simp only [pq];rfl)
        refine pure_ (i:=5) (N:=some 36) (v:=?_) (a':=?_) #[T,T,T,T,T,T,F,F,F,F,F,F] rfl rfl (any_of HT_.out (by kernel_rfl)) (fun _ _ _ h=>h) (Or.inl ⟨by rfl,?_⟩) ?_ ?_
        rotate_left;(intro w';go_simp;with_reducible rfl);rotate_left;(simp only [pq];rfl)
        refine pure_ (i:=6) (N:=some 37) (v:=?_) (a':=?_) #[T,T,T,T,T,T,T,F,F,F,F,F] rfl rfl (any_of HT_.out (by kernel_rfl)) (fun _ _ _ h=>h) (Or.inl ⟨by rfl,?_⟩) ?_ ?_
        rotate_left;(intro w';go_simp;with_reducible rfl);rotate_left;(simp only [pq];rfl)
        refine pure_ (i:=7) (N:=some 38) (v:=?_) (a':=?_) #[T,T,T,T,T,T,T,T,F,F,F,F] rfl rfl (any_of HT_.out (by kernel_rfl)) (fun _ _ _ h=>h) (Or.inl ⟨by rfl,?_⟩) ?_ ?_
        rotate_left;(intro w';go_simp;with_reducible rfl);rotate_left;(simp only [pq];rfl)
        refine one_ (i:=8) (N:=some 6) #[T,T,T,T,T,T,T,T,T,F,F,F] rfl rfl (one_of HT_.out (by kernel_rfl)) (by decide) (fun K hK=>?_)
        refine box_step ?hg (N:=6) ?hd (cs:=#[.slice none 0 0,.bool false]) (t:=31) ?hr ?_;(case hd=>rfl);(case hg=>rfl);(case hr=>first|(go_simp;done)|(go_simp;rfl))
        intro gb184 hg w49 hbox hb
        have n0_:=aM (aD (by(with_reducible repeat(first|apply aA|apply aB|apply aC));exact HO147.out) hb)
        have n1_:=aM (Kd.N_below (Kd.N_elderB (by(with_reducible repeat(first|apply Kd.N_alloc|apply aY|apply aZ));exact HO150.out) gb184 (Nat.le_of_eq hg.symm)) hb)
        have n2_:=aM (Kd.N_below (Kd.N_elderB (by(with_reducible repeat(first|apply Kd.N_alloc|apply aY|apply aZ));exact HO156.out) gb184 (Nat.le_of_eq hg.symm)) hb)
        have n3_:=aM (Kd.N_below (Kd.N_elderB (by(with_reducible repeat(first|apply Kd.N_alloc|apply aY|apply aZ));exact HO163.out) gb184 (Nat.le_of_eq hg.symm)) hb)
        have n4_:=aM (aD (by(with_reducible repeat(first|apply aA|apply aB|apply aC));exact HO166.out) hb)
        have n5_:=aM (aD (by(with_reducible repeat(first|apply aA|apply aB|apply aC));exact HO169.out) hb)
        have n6_:=aM (aD (by(with_reducible repeat(first|apply aA|apply aB|apply aC));exact HO174.out) hb)
        have n7_:=aM (aD (by(with_reducible repeat(first|apply aA|apply aB|apply aC));exact HO178.out) hb)
        have n8_:=aM (aD (by(with_reducible repeat(first|apply aA|apply aB|apply aC));exact HO182.out) hb)
        have n9_:=aM (bF (g:=gb157) (o:= .cells #[.slice Ao31 y145.length co31,.slice Ao30 y148.length co30,.int .i64 0,.int .i64 0,.slice Ao29 y154.length co29] 26 (0,0)) (by(with_reducible repeat(first|refine aJ ?_ _|refine aK ?_|refine aI ?_ _));exact BK157.out) hb)
        have n10_:=aM (bG (by repeat(first|(with_reducible first|exact HB.out|apply aN|apply aP|apply aO|refine aL ?_ GE157.out)|exact HB.out)) hb)
        have n11_:=aM (hbox)
        have n12_:=aM ((by rw [hg];exact(bH (by repeat(first|(with_reducible first|exact HB.out|apply aN|apply aP|apply aO|refine aL ?_ GE157.out)|exact HB.out))):w.heap.size≤gb184))
        have n13_:=aM ((by rw [hg];exact(bH (by repeat(first|(with_reducible first|exact HB.out|apply aN|apply aP|apply aO|refine aL ?_ GE157.out)|exact HB.out))):w.heap.size≤gb184))
        have n14_:=aM ((by rw [hg];exact Nat.ne_of_lt (bN (g:=gb157) (o:= .cells #[.slice Ao31 y145.length co31,.slice Ao30 y148.length co30,.int .i64 0,.int .i64 0,.slice Ao29 y154.length co29] 26 (0,0)) (by(with_reducible repeat(first|refine aJ ?_ _|refine aK ?_|refine aI ?_ _));exact BK157.out)):gb157≠gb184))
        have n15_:=aM ((by rw [hg];exact Nat.ne_of_gt (bN (g:=gb157) (o:= .cells #[.slice Ao31 y145.length co31,.slice Ao30 y148.length co30,.int .i64 0,.int .i64 0,.slice Ao29 y154.length co29] 26 (0,0)) (by(with_reducible repeat(first|refine aJ ?_ _|refine aK ?_|refine aI ?_ _));exact BK157.out)):gb184≠gb157))
        clear HO147
        clear HO150
        clear HO156
        clear HO163
        clear HO166
        clear HO169
        clear HO174
        clear HO178
        clear HO182
        clear BK157
        clear HB
        have HO147:=n0_
        have HO150:=n1_
        have HO156:=n2_
        have HO163:=n3_
        have HO166:=n4_
        have HO169:=n5_
        have HO174:=n6_
        have HO178:=n7_
        have HO182:=n8_
        have BK157:=n9_
        have HB:=n10_
        have BK184:=n11_
        have GW184:=n12_
        have GE184:=n13_
        have NB157_184:=n14_
        have NB184_157:=n15_
        clear n0_ n1_ n2_ n3_ n4_ n5_ n6_ n7_ n8_ n9_ n10_ n11_ n12_ n13_ n14_ n15_
        clear hb hbox hg
        refine hK.out _ _ ⟨(aG BK157.out 0).trans rfl,(aG BK157.out 1).trans rfl,(aG BK157.out 2).trans rfl,(aG BK157.out 3).trans rfl,(aG BK157.out 4).trans rfl⟩ (fun hHeld=>?_)
        clear hK K
        refine norm_ (a':=?_) ?_ ?_
        rotate_left
        ·show Act.put _ (some 6) _=_
         simp only [pq]
         rfl
        exact norm_ (by simp only [putAll,Act.put,List.setIfInBounds_toArray,List.set_cons_zero,List.set_cons_succ]) (hCont (.slice Ao47 t172.length co47,v177,v181,gb184) _ ⟨hHeld,(by(with_reducible repeat(first|apply aA|apply aB|apply aC));exact HO147.out),(by(with_reducible repeat(first|apply Kd.N_alloc|apply aY|apply aZ));exact Kd.N_mono HO150.out (fun _ hk=>⟨hk.1.1.1.1.1.1.1.1.1.1.1,⟨hk.1.1.1.1.1.1.1.1.1.2,⟨hk.1.1.1.1.1.1.2,⟨hk.1.1.1.1.1.2,⟨hk.1.1.1.1.2,⟨hk.1.1.1.2,⟨hk.1.1.2,⟨hk.1.2,⟨hk.1.1.1.1.1.1.1.1.2,hk.2⟩⟩⟩⟩⟩⟩⟩⟩⟩)),(by(with_reducible repeat(first|apply Kd.N_alloc|apply aY|apply aZ));exact Kd.N_mono HO156.out (fun _ hk=>⟨hk.1.1.1.1.1.1.1.1.1.1,⟨hk.1.1.1.1.1.1.1.1.1.2,⟨hk.1.1.1.1.1.1.2,⟨hk.1.1.1.1.1.2,⟨hk.1.1.1.1.2,⟨hk.1.1.1.2,⟨hk.1.1.2,⟨hk.1.2,⟨hk.1.1.1.1.1.1.1.1.2,hk.2⟩⟩⟩⟩⟩⟩⟩⟩⟩)),(by(with_reducible repeat(first|apply Kd.N_alloc|apply aY|apply aZ));exact Kd.N_mono HO163.out (fun _ hk=>⟨hk.1.1.1.1.1.1.1,⟨hk.1.1.1.1.1.1.2.1,⟨hk.1.1.1.1.1.1.2.2.1,⟨hk.1.1.1.1.1.2,⟨hk.1.1.1.1.2,⟨hk.1.1.1.2,⟨hk.1.1.2,⟨hk.1.2,⟨hk.1.1.1.1.1.1.2.2.2,hk.2⟩⟩⟩⟩⟩⟩⟩⟩⟩)),(by(with_reducible repeat(first|apply aA|apply aB|apply aC));exact Kd.R_mono HO166.out (fun _ hk=>⟨hk.1.2,hk.2⟩)),(by(with_reducible repeat(first|apply aA|apply aB|apply aC));exact Kd.R_mono HO169.out (fun _ hk=>⟨hk.1.2,hk.2⟩)),(by(with_reducible repeat(first|apply aA|apply aB|apply aC));exact Kd.R_mono HO174.out (fun _ hk=>hk.2)),(by(with_reducible repeat(first|apply aA|apply aB|apply aC));exact Kd.R_mono HO178.out (fun _ hk=>hk.2)),(by(with_reducible repeat(first|apply aA|apply aB|apply aC));exact Kd.R_mono HO182.out (fun _ hk=>⟨hk.1.2,hk.2⟩)),(by(with_reducible repeat(first|refine aJ ?_ _|refine aK ?_|refine aI ?_ _));exact BK157.out),(by(with_reducible repeat(first|refine aJ ?_ _|refine aK ?_|refine aI ?_ _));exact BK184.out),GW184.out,GE184.out,NB157_184.out,NB184_157.out,(by repeat(first|(with_reducible first|exact HB.out|apply aN|apply aP|apply aO|refine aL ?_ GE157.out|refine aL ?_ GE184.out)|exact HB.out))⟩)
       ·skip
        refine box_step ?hg (N:=6) ?hd (cs:=#[.slice none 0 0,.bool false]) (t:=31) ?hr ?_;(case hd=>rfl);(case hg=>rfl);(case hr=>first|(go_simp;done)|(go_simp;rfl))
        intro gb184 hg w47 hbox hb
        have n0_:=aM (aD (by(with_reducible repeat(first|apply aA|apply aB|apply aC));exact HO147.out) hb)
        have n1_:=aM (Kd.N_below (Kd.N_elderB (by(with_reducible repeat(first|apply Kd.N_alloc|apply aY|apply aZ));exact HO150.out) gb184 (Nat.le_of_eq hg.symm)) hb)
        have n2_:=aM (Kd.N_below (Kd.N_elderB (by(with_reducible repeat(first|apply Kd.N_alloc|apply aY|apply aZ));exact HO156.out) gb184 (Nat.le_of_eq hg.symm)) hb)
        have n3_:=aM (Kd.N_below (Kd.N_elderB (by(with_reducible repeat(first|apply Kd.N_alloc|apply aY|apply aZ));exact HO163.out) gb184 (Nat.le_of_eq hg.symm)) hb)
        have n4_:=aM (aD (by(with_reducible repeat(first|apply aA|apply aB|apply aC));exact HO166.out) hb)
        have n5_:=aM (aD (by(with_reducible repeat(first|apply aA|apply aB|apply aC));exact HO169.out) hb)
        have n6_:=aM (aD (by(with_reducible repeat(first|apply aA|apply aB|apply aC));exact HO174.out) hb)
        have n7_:=aM (bF (g:=gb157) (o:= .cells #[.slice Ao31 y145.length co31,.slice Ao30 y148.length co30,.int .i64 0,.int .i64 0,.slice Ao29 y154.length co29] 26 (0,0)) (by(with_reducible repeat(first|refine aJ ?_ _|refine aK ?_|refine aI ?_ _));exact BK157.out) hb)
        have n8_:=aM (bG (by repeat(first|(with_reducible first|exact HB.out|apply aN|apply aP|apply aO|refine aL ?_ GE157.out)|exact HB.out)) hb)
        have n9_:=aM (hbox)
        have n10_:=aM ((by rw [hg];exact(bH (by repeat(first|(with_reducible first|exact HB.out|apply aN|apply aP|apply aO|refine aL ?_ GE157.out)|exact HB.out))):w.heap.size≤gb184))
        have n11_:=aM ((by rw [hg];exact(bH (by repeat(first|(with_reducible first|exact HB.out|apply aN|apply aP|apply aO|refine aL ?_ GE157.out)|exact HB.out))):w.heap.size≤gb184))
        have n12_:=aM ((by rw [hg];exact Nat.ne_of_lt (bN (g:=gb157) (o:= .cells #[.slice Ao31 y145.length co31,.slice Ao30 y148.length co30,.int .i64 0,.int .i64 0,.slice Ao29 y154.length co29] 26 (0,0)) (by(with_reducible repeat(first|refine aJ ?_ _|refine aK ?_|refine aI ?_ _));exact BK157.out)):gb157≠gb184))
        have n13_:=aM ((by rw [hg];exact Nat.ne_of_gt (bN (g:=gb157) (o:= .cells #[.slice Ao31 y145.length co31,.slice Ao30 y148.length co30,.int .i64 0,.int .i64 0,.slice Ao29 y154.length co29] 26 (0,0)) (by(with_reducible repeat(first|refine aJ ?_ _|refine aK ?_|refine aI ?_ _));exact BK157.out)):gb184≠gb157))
        clear HO147
        clear HO150
        clear HO156
        clear HO163
        clear HO166
        clear HO169
        clear HO174
        clear BK157
        clear HB
        have HO147:=n0_
        have HO150:=n1_
        have HO156:=n2_
        have HO163:=n3_
        have HO166:=n4_
        have HO169:=n5_
        have HO174:=n6_
        have BK157:=n7_
        have HB:=n8_
        have BK184:=n9_
        have GW184:=n10_
        have GE184:=n11_
        have NB157_184:=n12_
        have NB184_157:=n13_
        clear n0_ n1_ n2_ n3_ n4_ n5_ n6_ n7_ n8_ n9_ n10_ n11_ n12_ n13_
        clear hb hbox hg
        obtain⟨Ao48,co48,eo48⟩:=Kd.R_slice HO174.out
        (first|subst eo48|(injection eo48 with f1_ f2_ f3_;have f4_:=f1_.symm;have f5_:=f3_.symm;clear f1_ f2_ f3_;subst f4_;subst f5_))
        refine hK.out _ _ ⟨(aG BK157.out 0).trans rfl,(aG BK157.out 1).trans rfl,(aG BK157.out 2).trans rfl,(aG BK157.out 3).trans rfl,(aG BK157.out 4).trans rfl⟩ (fun hHeld=>?_)
        clear hK K
        refine norm_ (a':=?_) ?_ ?_
        rotate_left
        ·show Act.put _ (some 6) _=_
         simp only [pq]
         rfl
        refine one_ (i:=3) (N:=some 35) #[T,T,T,T,F,F,F,F,T,F,F,F] rfl rfl (one_of HT_.out (by kernel_rfl)) (by decide) (fun K hK=>?_)
        refine goes_ Try.func23 (by kernel_rfl) rfl #[.agg #[.slice Ao31 y145.length co31,.slice Ao30 y148.length co30,.int .i64 0,.int .i64 0,.slice Ao29 y154.length co29],.slice Ao42 y161.length co42,.agg #[.slice Ao48 t172.length co48,.bool t175],.int .i64 0] (by rfl) rfl rfl (by(try simp only [List.map_toArray,List.map_cons,List.map_nil]);first|done|rfl|(simp only [List.length_drop,List.length_take];rfl)) ?_
        with_reducible refine(machine_Feed.calls _ _ y145 _ _ y148 0 0 _ _ y154 _ _ y161 _ _ t172 t175 0 t176 t179 t180 t183 _ ?side1 ?side2 ?side3 ?side4 ?side5 ?side6 ?side7 ?side8 ?side9 ?side10 A4.out).mono ?_
        (case side1=>repeat(first|exact(aF HO147.out).2.2|(with_reducible refine Kd.C_alloc ?_ _)|(with_reducible refine Kd.C_drewN ?_ _)|(with_reducible refine Kd.C_drew ?_)))
        (case side2=>exact(aF HO147.out).2.1)
        (case side3=>repeat(first|exact(aT HO150.out).2.2|(with_reducible refine Kd.C_alloc ?_ _)|(with_reducible refine Kd.C_drewN ?_ _)|(with_reducible refine Kd.C_drew ?_)))
        (case side4=>exact(aT HO150.out).2.1)
        (case side5=>repeat(first|exact(aT HO156.out).2.2|(with_reducible refine Kd.C_alloc ?_ _)|(with_reducible refine Kd.C_drewN ?_ _)|(with_reducible refine Kd.C_drew ?_)))
        (case side6=>exact(aT HO156.out).2.1)
        (case side7=>repeat(first|exact(aT HO163.out).2.2|(with_reducible refine Kd.C_alloc ?_ _)|(with_reducible refine Kd.C_drewN ?_ _)|(with_reducible refine Kd.C_drew ?_)))
        (case side8=>exact(aT HO163.out).2.1)
        (case side9=>repeat(first|exact(aF HO174.out).2.2|(with_reducible refine Kd.C_alloc ?_ _)|(with_reducible refine Kd.C_drewN ?_ _)|(with_reducible refine Kd.C_drew ?_)))
        (case side10=>exact(aF HO174.out).2.1)
        rintro e w49 ⟨v177,v181,rfl,ho0,ho1,hb⟩
        refine⟨_,rfl,?_⟩
        have n0_:=aM (aD (by(with_reducible repeat(first|apply aA|apply aB|apply aC));exact HO147.out) hb)
        have n1_:=aM (Kd.N_mono (Kd.N_told (Kd.N_told (Kd.N_old (by(with_reducible repeat(first|apply Kd.N_alloc|apply aY|apply aZ));exact HO150.out) hb) (Kd.R_base ho0)) (Kd.R_base ho1)) (fun _ h_=>h_.1))
        have n2_:=aM (Kd.N_mono (Kd.N_told (Kd.N_told (Kd.N_old (by(with_reducible repeat(first|apply Kd.N_alloc|apply aY|apply aZ));exact HO156.out) hb) (Kd.R_base ho0)) (Kd.R_base ho1)) (fun _ h_=>h_.1))
        have n3_:=aM (Kd.N_mono (Kd.N_told (Kd.N_told (Kd.N_old (by(with_reducible repeat(first|apply Kd.N_alloc|apply aY|apply aZ));exact HO163.out) hb) (Kd.R_base ho0)) (Kd.R_base ho1)) (fun _ h_=>h_.1))
        have n4_:=aM (bE (by(with_reducible repeat(first|apply aA|apply aB|apply aC));exact HO166.out) (Kd.R_base ho1) hb)
        have n5_:=aM (bE (by(with_reducible repeat(first|apply aA|apply aB|apply aC));exact HO169.out) (Kd.R_base ho1) hb)
        have n6_:=aM (bE (by(with_reducible repeat(first|apply aA|apply aB|apply aC));exact HO174.out) (Kd.R_base ho0) hb)
        have n7_:=aM (bL (Kd.R_new' ho0 (Kd.R_lt (by(with_reducible repeat(first|apply aA|apply aB|apply aC));exact HO174.out))) (bH (by repeat(first|(with_reducible first|exact HB.out|apply aN|apply aP|apply aO|refine aL ?_ GE157.out|refine aL ?_ GE184.out)|exact HB.out))))
        have n8_:=aM (bL (Kd.R_new' (Kd.R_new' ho1 (Kd.R_lt (by(with_reducible repeat(first|apply aA|apply aB|apply aC));exact HO166.out))) (Kd.R_lt (by(with_reducible repeat(first|apply aA|apply aB|apply aC));exact HO169.out))) (bH (by repeat(first|(with_reducible first|exact HB.out|apply aN|apply aP|apply aO|refine aL ?_ GE157.out|refine aL ?_ GE184.out)|exact HB.out))))
        have n9_:=aM (bF (g:=gb157) (o:= .cells #[.slice Ao31 y145.length co31,.slice Ao30 y148.length co30,.int .i64 0,.int .i64 0,.slice Ao29 y154.length co29] 26 (0,0)) (by(with_reducible repeat(first|refine aJ ?_ _|refine aK ?_|refine aI ?_ _));exact BK157.out) hb)
        have n10_:=aM (bF (g:=gb184) (o:= .cells #[.slice none 0 0,.bool false] 31 (0,0)) (by(with_reducible repeat(first|refine aJ ?_ _|refine aK ?_|refine aI ?_ _));exact BK184.out) hb)
        have n11_:=aM (bG (by repeat(first|(with_reducible first|exact HB.out|apply aN|apply aP|apply aO|refine aL ?_ GE157.out|refine aL ?_ GE184.out)|exact HB.out)) hb)
        clear HO147
        clear HO150
        clear HO156
        clear HO163
        clear HO166
        clear HO169
        clear HO174
        clear BK157
        clear BK184
        clear HB
        have HO147:=n0_
        have HO150:=n1_
        have HO156:=n2_
        have HO163:=n3_
        have HO166:=n4_
        have HO169:=n5_
        have HO174:=n6_
        have HO178:=n7_
        have HO182:=n8_
        have BK157:=n9_
        have BK184:=n10_
        have HB:=n11_
        clear n0_ n1_ n2_ n3_ n4_ n5_ n6_ n7_ n8_ n9_ n10_ n11_
        (try clear hb);(try clear hb2);(try clear hk);(try clear hi);(try clear ho0);(try clear ho1)
        refine hK.out _ _ ⟨(aG BK157.out 0).trans rfl,(aG BK157.out 1).trans rfl,(aG BK157.out 2).trans rfl,(aG BK157.out 3).trans rfl,(aG BK157.out 4).trans rfl⟩ (fun hHeld=>?_)
        clear hK K
        refine norm_ (a':=?_) ?_ ?_
        rotate_left
        ·show Act.put _ (some 35) _=_
         simp only [pq]
         rfl
        refine pure_ (i:=4) (N:=some 31) (v:=?_) (a':=?_) #[T,T,T,T,T,F,F,F,T,F,F,F] rfl rfl (any_of HT_.out (by kernel_rfl)) (fun _ _ _ h=>h) (Or.inl ⟨by rfl,?_⟩) ?_ ?_
        rotate_left;(intro w';go_simp;with_reducible rfl);rotate_left;(simp only [pq];rfl)
        refine pure_ (i:=5) (N:=some 36) (v:=?_) (a':=?_) #[T,T,T,T,T,T,F,F,T,F,F,F] rfl rfl (any_of HT_.out (by kernel_rfl)) (fun _ _ _ h=>h) (Or.inl ⟨by rfl,?_⟩) ?_ ?_
        rotate_left;(intro w';go_simp;with_reducible rfl);rotate_left;(simp only [pq];rfl)
        refine pure_ (i:=6) (N:=some 37) (v:=?_) (a':=?_) #[T,T,T,T,T,T,T,F,T,F,F,F] rfl rfl (any_of HT_.out (by kernel_rfl)) (fun _ _ _ h=>h) (Or.inl ⟨by rfl,?_⟩) ?_ ?_
        rotate_left;(intro w';go_simp;with_reducible rfl);rotate_left;(simp only [pq];rfl)
        refine pure_ (i:=7) (N:=some 38) (v:=?_) (a':=?_) #[T,T,T,T,T,T,T,T,T,F,F,F] rfl rfl (any_of HT_.out (by kernel_rfl)) (fun _ _ _ h=>h) (Or.inl ⟨by rfl,?_⟩) ?_ ?_
        rotate_left;(intro w';go_simp;with_reducible rfl);rotate_left;(simp only [pq];rfl)
        exact norm_ (by simp only [putAll,Act.put,List.setIfInBounds_toArray,List.set_cons_zero,List.set_cons_succ]) (hCont (.slice Ao48 t172.length co48,v177,v181,gb184) _ ⟨hHeld,(by(with_reducible repeat(first|apply aA|apply aB|apply aC));exact HO147.out),(by(with_reducible repeat(first|apply Kd.N_alloc|apply aY|apply aZ));exact Kd.N_mono HO150.out (fun _ hk=>⟨hk.1.1.1.1.1.1.1.1.1.1.1,⟨hk.1.1.1.1.1.1.1.1.1.2,⟨hk.1.1.1.1.1.1.2,⟨hk.1.1.1.1.1.2,⟨hk.1.1.1.1.2,⟨hk.1.1.1.2,⟨hk.1.2,⟨hk.2,⟨hk.1.1.1.1.1.1.1.1.2,hk.1.1.2⟩⟩⟩⟩⟩⟩⟩⟩⟩)),(by(with_reducible repeat(first|apply Kd.N_alloc|apply aY|apply aZ));exact Kd.N_mono HO156.out (fun _ hk=>⟨hk.1.1.1.1.1.1.1.1.1.1,⟨hk.1.1.1.1.1.1.1.1.1.2,⟨hk.1.1.1.1.1.1.2,⟨hk.1.1.1.1.1.2,⟨hk.1.1.1.1.2,⟨hk.1.1.1.2,⟨hk.1.2,⟨hk.2,⟨hk.1.1.1.1.1.1.1.1.2,hk.1.1.2⟩⟩⟩⟩⟩⟩⟩⟩⟩)),(by(with_reducible repeat(first|apply Kd.N_alloc|apply aY|apply aZ));exact Kd.N_mono HO163.out (fun _ hk=>⟨hk.1.1.1.1.1.1.1,⟨hk.1.1.1.1.1.1.2.1,⟨hk.1.1.1.1.1.1.2.2.1,⟨hk.1.1.1.1.1.2,⟨hk.1.1.1.1.2,⟨hk.1.1.1.2,⟨hk.1.2,⟨hk.2,⟨hk.1.1.1.1.1.1.2.2.2,hk.1.1.2⟩⟩⟩⟩⟩⟩⟩⟩⟩)),(by(with_reducible repeat(first|apply aA|apply aB|apply aC));exact Kd.R_mono HO166.out (fun _ hk=>⟨hk.1.2,hk.2⟩)),(by(with_reducible repeat(first|apply aA|apply aB|apply aC));exact Kd.R_mono HO169.out (fun _ hk=>⟨hk.1.2,hk.2⟩)),(by(with_reducible repeat(first|apply aA|apply aB|apply aC));exact Kd.R_mono HO174.out (fun _ hk=>hk.2)),(by(with_reducible repeat(first|apply aA|apply aB|apply aC));exact Kd.R_mono HO178.out (fun _ hk=>hk.2)),(by(with_reducible repeat(first|apply aA|apply aB|apply aC));exact Kd.R_mono HO182.out (fun _ hk=>⟨hk.1.2,hk.2⟩)),(by(with_reducible repeat(first|refine aJ ?_ _|refine aK ?_|refine aI ?_ _));exact BK157.out),(by(with_reducible repeat(first|refine aJ ?_ _|refine aK ?_|refine aI ?_ _));exact BK184.out),GW184.out,GE184.out,NB157_184.out,NB184_157.out,(by repeat(first|(with_reducible first|exact HB.out|apply aN|apply aP|apply aO|refine aL ?_ GE157.out|refine aL ?_ GE184.out)|exact HB.out))⟩)
      ·skip
       refine box_step ?hg (N:=6) ?hd (cs:=#[.slice none 0 0,.bool false]) (t:=31) ?hr ?_;(case hd=>rfl);(case hg=>rfl);(case hr=>first|(go_simp;done)|(go_simp;rfl))
       intro gb184 hg w46 hbox hb
       have n0_:=aM (aD (by(with_reducible repeat(first|apply aA|apply aB|apply aC));exact HO147.out) hb)
       have n1_:=aM (Kd.N_below (Kd.N_elderB (by(with_reducible repeat(first|apply Kd.N_alloc|apply aY|apply aZ));exact HO150.out) gb184 (Nat.le_of_eq hg.symm)) hb)
       have n2_:=aM (Kd.N_below (Kd.N_elderB (by(with_reducible repeat(first|apply Kd.N_alloc|apply aY|apply aZ));exact HO156.out) gb184 (Nat.le_of_eq hg.symm)) hb)
       have n3_:=aM (Kd.N_below (Kd.N_elderB (by(with_reducible repeat(first|apply Kd.N_alloc|apply aY|apply aZ));exact HO163.out) gb184 (Nat.le_of_eq hg.symm)) hb)
       have n4_:=aM (aD (by(with_reducible repeat(first|apply aA|apply aB|apply aC));exact HO166.out) hb)
       have n5_:=aM (aD (by(with_reducible repeat(first|apply aA|apply aB|apply aC));exact HO169.out) hb)
       have n6_:=aM (bF (g:=gb157) (o:= .cells #[.slice Ao31 y145.length co31,.slice Ao30 y148.length co30,.int .i64 0,.int .i64 0,.slice Ao29 y154.length co29] 26 (0,0)) (by(with_reducible repeat(first|refine aJ ?_ _|refine aK ?_|refine aI ?_ _));exact BK157.out) hb)
       have n7_:=aM (bG (by repeat(first|(with_reducible first|exact HB.out|apply aN|apply aP|apply aO|refine aL ?_ GE157.out)|exact HB.out)) hb)
       have n8_:=aM (hbox)
       have n9_:=aM ((by rw [hg];exact(bH (by repeat(first|(with_reducible first|exact HB.out|apply aN|apply aP|apply aO|refine aL ?_ GE157.out)|exact HB.out))):w.heap.size≤gb184))
       have n10_:=aM ((by rw [hg];exact(bH (by repeat(first|(with_reducible first|exact HB.out|apply aN|apply aP|apply aO|refine aL ?_ GE157.out)|exact HB.out))):w.heap.size≤gb184))
       have n11_:=aM ((by rw [hg];exact Nat.ne_of_lt (bN (g:=gb157) (o:= .cells #[.slice Ao31 y145.length co31,.slice Ao30 y148.length co30,.int .i64 0,.int .i64 0,.slice Ao29 y154.length co29] 26 (0,0)) (by(with_reducible repeat(first|refine aJ ?_ _|refine aK ?_|refine aI ?_ _));exact BK157.out)):gb157≠gb184))
       have n12_:=aM ((by rw [hg];exact Nat.ne_of_gt (bN (g:=gb157) (o:= .cells #[.slice Ao31 y145.length co31,.slice Ao30 y148.length co30,.int .i64 0,.int .i64 0,.slice Ao29 y154.length co29] 26 (0,0)) (by(with_reducible repeat(first|refine aJ ?_ _|refine aK ?_|refine aI ?_ _));exact BK157.out)):gb184≠gb157))
       clear HO147
       clear HO150
       clear HO156
       clear HO163
       clear HO166
       clear HO169
       clear BK157
       clear HB
       have HO147:=n0_
       have HO150:=n1_
       have HO156:=n2_
       have HO163:=n3_
       have HO166:=n4_
       have HO169:=n5_
       have BK157:=n6_
       have HB:=n7_
       have BK184:=n8_
       have GW184:=n9_
       have GE184:=n10_
       have NB157_184:=n11_
       have NB184_157:=n12_
       clear n0_ n1_ n2_ n3_ n4_ n5_ n6_ n7_ n8_ n9_ n10_ n11_ n12_
       clear hb hbox hg
       refine hK.out _ _ ⟨(aG BK157.out 0).trans rfl,(aG BK157.out 1).trans rfl,(aG BK157.out 2).trans rfl,(aG BK157.out 3).trans rfl,(aG BK157.out 4).trans rfl⟩ (fun hHeld=>?_)
       clear hK K
       refine norm_ (a':=?_) ?_ ?_
       rotate_left
       ·show Act.put _ (some 6) _=_
        simp only [pq]
        rfl
       refine one_ (i:=2) (N:=some 34) #[T,T,T,F,F,F,F,F,T,F,F,F] rfl rfl (one_of HT_.out (by kernel_rfl)) (by decide) (fun K hK=>?_)
       refine goes_ Try.func17 (by kernel_rfl) rfl #[] (by rfl) rfl rfl (by(try simp only [List.map_toArray,List.map_cons,List.map_nil]);first|done|rfl|(simp only [List.length_drop,List.length_take];rfl)) ?_
       with_reducible refine(machine_Start.calls  t172 t175 _ A3.out).mono ?_
       rintro e w47 ⟨v173,rfl,ho0,hb⟩
       refine⟨_,rfl,?_⟩
       have n0_:=aM (aD (by(with_reducible repeat(first|apply aA|apply aB|apply aC));exact HO147.out) hb)
       have n1_:=aM (Kd.N_elder' (by(with_reducible repeat(first|apply Kd.N_alloc|apply aY|apply aZ));exact HO150.out) (Kd.R_base ho0) hb)
       have n2_:=aM (Kd.N_elder' (by(with_reducible repeat(first|apply Kd.N_alloc|apply aY|apply aZ));exact HO156.out) (Kd.R_base ho0) hb)
       have n3_:=aM (Kd.N_elder' (by(with_reducible repeat(first|apply Kd.N_alloc|apply aY|apply aZ));exact HO163.out) (Kd.R_base ho0) hb)
       have n4_:=aM (aD (by(with_reducible repeat(first|apply aA|apply aB|apply aC));exact HO166.out) hb)
       have n5_:=aM (aD (by(with_reducible repeat(first|apply aA|apply aB|apply aC));exact HO169.out) hb)
       have n6_:=aM (bL ho0 (bH (by repeat(first|(with_reducible first|exact HB.out|apply aN|apply aP|apply aO|refine aL ?_ GE157.out|refine aL ?_ GE184.out)|exact HB.out))))
       have n7_:=aM (bF (g:=gb157) (o:= .cells #[.slice Ao31 y145.length co31,.slice Ao30 y148.length co30,.int .i64 0,.int .i64 0,.slice Ao29 y154.length co29] 26 (0,0)) (by(with_reducible repeat(first|refine aJ ?_ _|refine aK ?_|refine aI ?_ _));exact BK157.out) hb)
       have n8_:=aM (bF (g:=gb184) (o:= .cells #[.slice none 0 0,.bool false] 31 (0,0)) (by(with_reducible repeat(first|refine aJ ?_ _|refine aK ?_|refine aI ?_ _));exact BK184.out) hb)
       have n9_:=aM (bG (by repeat(first|(with_reducible first|exact HB.out|apply aN|apply aP|apply aO|refine aL ?_ GE157.out|refine aL ?_ GE184.out)|exact HB.out)) hb)
       clear HO147
       clear HO150
       clear HO156
       clear HO163
       clear HO166
       clear HO169
       clear BK157
       clear BK184
       clear HB
       have HO147:=n0_
       have HO150:=n1_
       have HO156:=n2_
       have HO163:=n3_
       have HO166:=n4_
       have HO169:=n5_
       have HO174:=n6_
       have BK157:=n7_
       have BK184:=n8_
       have HB:=n9_
       clear n0_ n1_ n2_ n3_ n4_ n5_ n6_ n7_ n8_ n9_
       (try clear hb);(try clear hb2);(try clear hk);(try clear hi);(try clear ho0)
       obtain⟨Ao48,co48,eo48⟩:=Kd.R_slice HO174.out
       (first|subst eo48|(injection eo48 with f1_ f2_ f3_;have f4_:=f1_.symm;have f5_:=f3_.symm;clear f1_ f2_ f3_;subst f4_;subst f5_))
       refine hK.out _ _ ⟨(aG BK157.out 0).trans rfl,(aG BK157.out 1).trans rfl,(aG BK157.out 2).trans rfl,(aG BK157.out 3).trans rfl,(aG BK157.out 4).trans rfl⟩ (fun hHeld=>?_)
       clear hK K
       refine norm_ (a':=?_) ?_ ?_
       rotate_left
       ·show Act.put _ (some 34) _=_
        simp only [pq]
        rfl
       refine one_ (i:=3) (N:=some 35) #[T,T,T,T,F,F,F,F,T,F,F,F] rfl rfl (one_of HT_.out (by kernel_rfl)) (by decide) (fun K hK=>?_)
       refine goes_ Try.func23 (by kernel_rfl) rfl #[.agg #[.slice Ao31 y145.length co31,.slice Ao30 y148.length co30,.int .i64 0,.int .i64 0,.slice Ao29 y154.length co29],.slice Ao42 y161.length co42,.agg #[.slice Ao48 t172.length co48,.bool t175],.int .i64 0] (by rfl) rfl rfl (by(try simp only [List.map_toArray,List.map_cons,List.map_nil]);first|done|rfl|(simp only [List.length_drop,List.length_take];rfl)) ?_
       with_reducible refine(machine_Feed.calls _ _ y145 _ _ y148 0 0 _ _ y154 _ _ y161 _ _ t172 t175 0 t176 t179 t180 t183 _ ?side1 ?side2 ?side3 ?side4 ?side5 ?side6 ?side7 ?side8 ?side9 ?side10 A4.out).mono ?_
       (case side1=>repeat(first|exact(aF HO147.out).2.2|(with_reducible refine Kd.C_alloc ?_ _)|(with_reducible refine Kd.C_drewN ?_ _)|(with_reducible refine Kd.C_drew ?_)))
       (case side2=>exact(aF HO147.out).2.1)
       (case side3=>repeat(first|exact(aT HO150.out).2.2|(with_reducible refine Kd.C_alloc ?_ _)|(with_reducible refine Kd.C_drewN ?_ _)|(with_reducible refine Kd.C_drew ?_)))
       (case side4=>exact(aT HO150.out).2.1)
       (case side5=>repeat(first|exact(aT HO156.out).2.2|(with_reducible refine Kd.C_alloc ?_ _)|(with_reducible refine Kd.C_drewN ?_ _)|(with_reducible refine Kd.C_drew ?_)))
       (case side6=>exact(aT HO156.out).2.1)
       (case side7=>repeat(first|exact(aT HO163.out).2.2|(with_reducible refine Kd.C_alloc ?_ _)|(with_reducible refine Kd.C_drewN ?_ _)|(with_reducible refine Kd.C_drew ?_)))
       (case side8=>exact(aT HO163.out).2.1)
       (case side9=>repeat(first|exact(aF HO174.out).2.2|(with_reducible refine Kd.C_alloc ?_ _)|(with_reducible refine Kd.C_drewN ?_ _)|(with_reducible refine Kd.C_drew ?_)))
       (case side10=>exact(aF HO174.out).2.1)
       rintro e w49 ⟨v177,v181,rfl,ho0,ho1,hb⟩
       refine⟨_,rfl,?_⟩
       have n0_:=aM (aD (by(with_reducible repeat(first|apply aA|apply aB|apply aC));exact HO147.out) hb)
       have n1_:=aM (Kd.N_mono (Kd.N_told (Kd.N_told (Kd.N_old (by(with_reducible repeat(first|apply Kd.N_alloc|apply aY|apply aZ));exact HO150.out) hb) (Kd.R_base ho0)) (Kd.R_base ho1)) (fun _ h_=>h_.1))
       have n2_:=aM (Kd.N_mono (Kd.N_told (Kd.N_told (Kd.N_old (by(with_reducible repeat(first|apply Kd.N_alloc|apply aY|apply aZ));exact HO156.out) hb) (Kd.R_base ho0)) (Kd.R_base ho1)) (fun _ h_=>h_.1))
       have n3_:=aM (Kd.N_mono (Kd.N_told (Kd.N_told (Kd.N_old (by(with_reducible repeat(first|apply Kd.N_alloc|apply aY|apply aZ));exact HO163.out) hb) (Kd.R_base ho0)) (Kd.R_base ho1)) (fun _ h_=>h_.1))
       have n4_:=aM (bE (by(with_reducible repeat(first|apply aA|apply aB|apply aC));exact HO166.out) (Kd.R_base ho1) hb)
       have n5_:=aM (bE (by(with_reducible repeat(first|apply aA|apply aB|apply aC));exact HO169.out) (Kd.R_base ho1) hb)
       have n6_:=aM (bE (by(with_reducible repeat(first|apply aA|apply aB|apply aC));exact HO174.out) (Kd.R_base ho0) hb)
       have n7_:=aM (bL (Kd.R_new' ho0 (Kd.R_lt (by(with_reducible repeat(first|apply aA|apply aB|apply aC));exact HO174.out))) (bH (by repeat(first|(with_reducible first|exact HB.out|apply aN|apply aP|apply aO|refine aL ?_ GE157.out|refine aL ?_ GE184.out)|exact HB.out))))
       have n8_:=aM (bL (Kd.R_new' (Kd.R_new' ho1 (Kd.R_lt (by(with_reducible repeat(first|apply aA|apply aB|apply aC));exact HO166.out))) (Kd.R_lt (by(with_reducible repeat(first|apply aA|apply aB|apply aC));exact HO169.out))) (bH (by repeat(first|(with_reducible first|exact HB.out|apply aN|apply aP|apply aO|refine aL ?_ GE157.out|refine aL ?_ GE184.out)|exact HB.out))))
       have n9_:=aM (bF (g:=gb157) (o:= .cells #[.slice Ao31 y145.length co31,.slice Ao30 y148.length co30,.int .i64 0,.int .i64 0,.slice Ao29 y154.length co29] 26 (0,0)) (by(with_reducible repeat(first|refine aJ ?_ _|refine aK ?_|refine aI ?_ _));exact BK157.out) hb)
       have n10_:=aM (bF (g:=gb184) (o:= .cells #[.slice none 0 0,.bool false] 31 (0,0)) (by(with_reducible repeat(first|refine aJ ?_ _|refine aK ?_|refine aI ?_ _));exact BK184.out) hb)
       have n11_:=aM (bG (by repeat(first|(with_reducible first|exact HB.out|apply aN|apply aP|apply aO|refine aL ?_ GE157.out|refine aL ?_ GE184.out)|exact HB.out)) hb)
       clear HO147
       clear HO150
       clear HO156
       clear HO163
       clear HO166
       clear HO169
       clear HO174
       clear BK157
       clear BK184
       clear HB
       have HO147:=n0_
       have HO150:=n1_
       have HO156:=n2_
       have HO163:=n3_
       have HO166:=n4_
       have HO169:=n5_
       have HO174:=n6_
       have HO178:=n7_
       have HO182:=n8_
       have BK157:=n9_
       have BK184:=n10_
       have HB:=n11_
       clear n0_ n1_ n2_ n3_ n4_ n5_ n6_ n7_ n8_ n9_ n10_ n11_
       (try clear hb);(try clear hb2);(try clear hk);(try clear hi);(try clear ho0);(try clear ho1)
       refine hK.out _ _ ⟨(aG BK157.out 0).trans rfl,(aG BK157.out 1).trans rfl,(aG BK157.out 2).trans rfl,(aG BK157.out 3).trans rfl,(aG BK157.out 4).trans rfl⟩ (fun hHeld=>?_)
       clear hK K
       refine norm_ (a':=?_) ?_ ?_
       rotate_left
       ·show Act.put _ (some 35) _=_
        simp only [pq]
        rfl
       refine pure_ (i:=4) (N:=some 31) (v:=?_) (a':=?_) #[T,T,T,T,T,F,F,F,T,F,F,F] rfl rfl (any_of HT_.out (by kernel_rfl)) (fun _ _ _ h=>h) (Or.inl ⟨by rfl,?_⟩) ?_ ?_
       rotate_left;(intro w';go_simp;with_reducible rfl);rotate_left;(simp only [pq];rfl)
       refine pure_ (i:=5) (N:=some 36) (v:=?_) (a':=?_) #[T,T,T,T,T,T,F,F,T,F,F,F] rfl rfl (any_of HT_.out (by kernel_rfl)) (fun _ _ _ h=>h) (Or.inl ⟨by rfl,?_⟩) ?_ ?_
       rotate_left;(intro w';go_simp;with_reducible rfl);rotate_left;(simp only [pq];rfl)
       refine pure_ (i:=6) (N:=some 37) (v:=?_) (a':=?_) #[T,T,T,T,T,T,T,F,T,F,F,F] rfl rfl (any_of HT_.out (by kernel_rfl)) (fun _ _ _ h=>h) (Or.inl ⟨by rfl,?_⟩) ?_ ?_
       rotate_left;(intro w';go_simp;with_reducible rfl);rotate_left;(simp only [pq];rfl)
       refine pure_ (i:=7) (N:=some 38) (v:=?_) (a':=?_) #[T,T,T,T,T,T,T,T,T,F,F,F] rfl rfl (any_of HT_.out (by kernel_rfl)) (fun _ _ _ h=>h) (Or.inl ⟨by rfl,?_⟩) ?_ ?_
       rotate_left;(intro w';go_simp;with_reducible rfl);rotate_left;(simp only [pq];rfl)
       exact norm_ (by simp only [putAll,Act.put,List.setIfInBounds_toArray,List.set_cons_zero,List.set_cons_succ]) (hCont (.slice Ao48 t172.length co48,v177,v181,gb184) _ ⟨hHeld,(by(with_reducible repeat(first|apply aA|apply aB|apply aC));exact HO147.out),(by(with_reducible repeat(first|apply Kd.N_alloc|apply aY|apply aZ));exact Kd.N_mono HO150.out (fun _ hk=>⟨hk.1.1.1.1.1.1.1.1.1.1.1,⟨hk.1.1.1.1.1.1.1.1.1.2,⟨hk.1.1.1.1.1.1.2,⟨hk.1.1.1.1.1.2,⟨hk.1.1.1.1.2,⟨hk.1.1.2,⟨hk.1.2,⟨hk.2,⟨hk.1.1.1.1.1.1.1.1.2,hk.1.1.1.2⟩⟩⟩⟩⟩⟩⟩⟩⟩)),(by(with_reducible repeat(first|apply Kd.N_alloc|apply aY|apply aZ));exact Kd.N_mono HO156.out (fun _ hk=>⟨hk.1.1.1.1.1.1.1.1.1.1,⟨hk.1.1.1.1.1.1.1.1.1.2,⟨hk.1.1.1.1.1.1.2,⟨hk.1.1.1.1.1.2,⟨hk.1.1.1.1.2,⟨hk.1.1.2,⟨hk.1.2,⟨hk.2,⟨hk.1.1.1.1.1.1.1.1.2,hk.1.1.1.2⟩⟩⟩⟩⟩⟩⟩⟩⟩)),(by(with_reducible repeat(first|apply Kd.N_alloc|apply aY|apply aZ));exact Kd.N_mono HO163.out (fun _ hk=>⟨hk.1.1.1.1.1.1.1,⟨hk.1.1.1.1.1.1.2.1,⟨hk.1.1.1.1.1.1.2.2.1,⟨hk.1.1.1.1.1.2,⟨hk.1.1.1.1.2,⟨hk.1.1.2,⟨hk.1.2,⟨hk.2,⟨hk.1.1.1.1.1.1.2.2.2,hk.1.1.1.2⟩⟩⟩⟩⟩⟩⟩⟩⟩)),(by(with_reducible repeat(first|apply aA|apply aB|apply aC));exact Kd.R_mono HO166.out (fun _ hk=>⟨hk.1.2,hk.2⟩)),(by(with_reducible repeat(first|apply aA|apply aB|apply aC));exact Kd.R_mono HO169.out (fun _ hk=>⟨hk.1.2,hk.2⟩)),(by(with_reducible repeat(first|apply aA|apply aB|apply aC));exact Kd.R_mono HO174.out (fun _ hk=>hk.2)),(by(with_reducible repeat(first|apply aA|apply aB|apply aC));exact Kd.R_mono HO178.out (fun _ hk=>hk.2)),(by(with_reducible repeat(first|apply aA|apply aB|apply aC));exact Kd.R_mono HO182.out (fun _ hk=>⟨hk.1.2,hk.2⟩)),(by(with_reducible repeat(first|refine aJ ?_ _|refine aK ?_|refine aI ?_ _));exact BK157.out),(by(with_reducible repeat(first|refine aJ ?_ _|refine aK ?_|refine aI ?_ _));exact BK184.out),GW184.out,GE184.out,NB157_184.out,NB184_157.out,(by repeat(first|(with_reducible first|exact HB.out|apply aN|apply aP|apply aO|refine aL ?_ GE157.out|refine aL ?_ GE184.out)|exact HB.out))⟩)
     rintro⟨v173,v177,v181,gb184⟩ w50 ⟨hS_,h0_,h1_,h2_,h3_,h4_,h5_,h6_,h7_,h8_,h9_,h10_,h11_,h12_,h13_,h14_,h15_⟩
     have n0_:Aside0 (Kd.R Kd.string 9 w50 w.heap.size (fun _=>True) (.slice Ao31 y145.length co31) y145):=⟨h0_⟩
     have n1_:Aside0 (Kd.N k72 72 w50 w.heap.size (fun k_=>some k_≠(.slice Ao31 y145.length co31:Value).ownBlock∧some k_≠(.slice Ao29 y154.length co29:Value).ownBlock∧some k_≠(.slice Ao42 y161.length co42:Value).ownBlock∧some k_≠(.slice Ao43 y164.length co43:Value).ownBlock∧some k_≠(v168:Value).ownBlock∧some k_≠(v173:Value).ownBlock∧some k_≠(v177:Value).ownBlock∧some k_≠(v181:Value).ownBlock∧k_≠gb157∧k_≠gb184) (.slice Ao30 y148.length co30) y148):=⟨h1_⟩
     have n2_:Aside0 (Kd.N k35 35 w50 w.heap.size (fun k_=>some k_≠(.slice Ao31 y145.length co31:Value).ownBlock∧some k_≠(.slice Ao30 y148.length co30:Value).ownBlock∧some k_≠(.slice Ao42 y161.length co42:Value).ownBlock∧some k_≠(.slice Ao43 y164.length co43:Value).ownBlock∧some k_≠(v168:Value).ownBlock∧some k_≠(v173:Value).ownBlock∧some k_≠(v177:Value).ownBlock∧some k_≠(v181:Value).ownBlock∧k_≠gb157∧k_≠gb184) (.slice Ao29 y154.length co29) y154):=⟨h2_⟩
     have n3_:Aside0 (Kd.N (Kd.slice 3 (Kd.int .i64)) 32 w50 w.heap.size (fun k_=>some k_≠(.slice Ao31 y145.length co31:Value).ownBlock∧some k_≠(.slice Ao30 y148.length co30:Value).ownBlock∧some k_≠(.slice Ao29 y154.length co29:Value).ownBlock∧some k_≠(.slice Ao43 y164.length co43:Value).ownBlock∧some k_≠(v168:Value).ownBlock∧some k_≠(v173:Value).ownBlock∧some k_≠(v177:Value).ownBlock∧some k_≠(v181:Value).ownBlock∧k_≠gb157∧k_≠gb184) (.slice Ao42 y161.length co42) y161):=⟨h3_⟩
     have n4_:Aside0 (Kd.R (Kd.int .i64) 3 w50 w.heap.size (fun k_=>some k_≠(v168:Value).ownBlock∧some k_≠(v181:Value).ownBlock) (.slice Ao43 y164.length co43) y164):=⟨h4_⟩
     have n5_:Aside0 (Kd.R (Kd.int .i64) 3 w50 w.heap.size (fun k_=>some k_≠(.slice Ao43 y164.length co43:Value).ownBlock∧some k_≠(v181:Value).ownBlock) v168 t167):=⟨h5_⟩
     have n6_:Aside0 (Kd.R k43 43 w50 w.heap.size (fun k_=>some k_≠(v177:Value).ownBlock) v173 t172):=⟨h6_⟩
     have n7_:Aside0 (Kd.R k43 43 w50 w.heap.size (fun k_=>some k_≠(v173:Value).ownBlock) v177 t176):=⟨h7_⟩
     have n8_:Aside0 (Kd.R (Kd.int .i64) 3 w50 w.heap.size (fun k_=>some k_≠(.slice Ao43 y164.length co43:Value).ownBlock∧some k_≠(v168:Value).ownBlock) v181 t180):=⟨h8_⟩
     have n9_:Aside0 (w50.heap[gb157]?=some (.cells #[.slice Ao31 y145.length co31,.slice Ao30 y148.length co30,.int .i64 0,.int .i64 0,.slice Ao29 y154.length co29] 26 (0,0))):=⟨h9_⟩
     have n10_:Aside0 (w50.heap[gb184]?=some (.cells #[.slice none 0 0,.bool false] 31 (0,0))):=⟨h10_⟩
     have n11_:Aside0 (w.heap.size≤gb184):=⟨h11_⟩
     have n12_:Aside0 (w.heap.size≤gb184):=⟨h12_⟩
     have n13_:Aside0 (gb157≠gb184):=⟨h13_⟩
     have n14_:Aside0 (gb184≠gb157):=⟨h14_⟩
     have n15_:Aside0 (Below w.heap.size w w50):=⟨h15_⟩
     clear HO147
     clear HO150
     clear HO156
     clear HO163
     clear HO166
     clear HO169
     clear BK157
     clear HB
     clear h0_ h1_ h2_ h3_ h4_ h5_ h6_ h7_ h8_ h9_ h10_ h11_ h12_ h13_ h14_ h15_
     have HO147:=n0_
     have HO150:=n1_
     have HO156:=n2_
     have HO163:=n3_
     have HO166:=n4_
     have HO169:=n5_
     have HO174:=n6_
     have HO178:=n7_
     have HO182:=n8_
     have BK157:=n9_
     have BK184:=n10_
     have GW184:=n11_
     have GE184:=n12_
     have NB157_184:=n13_
     have NB184_157:=n14_
     have HB:=n15_
     clear n0_ n1_ n2_ n3_ n4_ n5_ n6_ n7_ n8_ n9_ n10_ n11_ n12_ n13_ n14_ n15_
     have hHeld:w50.cell? ⟨gb157,0,none⟩=some (.slice Ao31 y145.length co31)∧w50.cell? ⟨gb157,1,none⟩=some (.slice Ao30 y148.length co30)∧w50.cell? ⟨gb157,2,none⟩=some (.int .i64 0)∧w50.cell? ⟨gb157,3,none⟩=some (.int .i64 0)∧w50.cell? ⟨gb157,4,none⟩=some (.slice Ao29 y154.length co29):=hS_
     obtain⟨Ao51,co51,eo51⟩:=Kd.R_slice HO178.out
     (first|subst eo51|(injection eo51 with f1_ f2_ f3_;have f4_:=f1_.symm;have f5_:=f3_.symm;clear f1_ f2_ f3_;subst f4_;subst f5_))
     refine norm_ (a':=?_) ?_ ?_
     rotate_left
     ·simp only [putAll,Act.put,List.setIfInBounds_toArray,List.set_cons_zero,List.set_cons_succ]
      rfl
     refine one_ (i:=9) (N:=none) #[T,T,T,T,T,T,T,T,T,T,F,F] rfl rfl (one_of HT_.out (by kernel_rfl)) (by decide) (fun K hK=>?_)
     have hs52:w50.cell? ⟨gb184,0,none⟩=some (.slice none 0 0):=(aG BK184.out 0).trans rfl
     have hfs52:=aH BK184.out 0
     have hns52_0:=NB157_184.out
     have hms52_0:=NB184_157.out
     have hs53:w50.cell? ⟨gb184,1,none⟩=some (.bool false):=(aG BK184.out 1).trans rfl
     have hfs53:=aH BK184.out 1
     have hns53_0:=NB157_184.out
     have hms53_0:=NB184_157.out
     refine skip_ (w1:=?_) (by rfl) rfl ?_ ?_
     rotate_left
     ·go_simp
      rfl
     refine hK.out _ _ ⟨((cell_far (p:=⟨gb184,_,none⟩) NB157_184.out _).trans (((cell_far (p:=⟨gb184,_,none⟩) NB157_184.out _).trans (hHeld.1)))),((cell_far (p:=⟨gb184,_,none⟩) NB157_184.out _).trans (((cell_far (p:=⟨gb184,_,none⟩) NB157_184.out _).trans (hHeld.2.1)))),((cell_far (p:=⟨gb184,_,none⟩) NB157_184.out _).trans (((cell_far (p:=⟨gb184,_,none⟩) NB157_184.out _).trans (hHeld.2.2.1)))),((cell_far (p:=⟨gb184,_,none⟩) NB157_184.out _).trans (((cell_far (p:=⟨gb184,_,none⟩) NB157_184.out _).trans (hHeld.2.2.2.1)))),((cell_far (p:=⟨gb184,_,none⟩) NB157_184.out _).trans (((cell_far (p:=⟨gb184,_,none⟩) NB157_184.out _).trans (hHeld.2.2.2.2))))⟩ (fun hHeld=>?_)
     clear hK K
     refine pure_ (i:=10) (N:=some 7) (v:=?_) (a':=?_) #[T,T,T,T,T,T,T,T,T,T,T,F] rfl rfl (any_of HT_.out (by kernel_rfl)) (fun _ _ _ h=>h) (Or.inl ⟨by rfl,?_⟩) ?_ ?_
     rotate_left;(intro w';go_simp;with_reducible rfl);rotate_left;(simp only [pq];rfl)
     refine pure_ (i:=11) (N:=some 8) (v:=?_) (a':=?_) #[T,T,T,T,T,T,T,T,T,T,T,T] rfl rfl (any_of HT_.out (by kernel_rfl)) (fun _ _ _ h=>h) (Or.inl ⟨by rfl,?_⟩) ?_ ?_
     rotate_left;(intro w';go_simp;with_reducible rfl);rotate_left;(simp only [pq];rfl)
     refine done_ (done_of HT_.out (by kernel_rfl)) ?_
     have hnb54:=NB157_184.out
     have hnc54:=NB184_157.out
     have hcz55_0:w50.cell? ⟨gb157,0,none⟩=some (.slice Ao31 y145.length co31):=(aG BK157.out 0).trans rfl
     have hcz55_1:w50.cell? ⟨gb157,1,none⟩=some (.slice Ao30 y148.length co30):=(aG BK157.out 1).trans rfl
     have hcz55_2:w50.cell? ⟨gb157,2,none⟩=some (.int .i64 0):=(aG BK157.out 2).trans rfl
     have hcz55_3:w50.cell? ⟨gb157,3,none⟩=some (.int .i64 0):=(aG BK157.out 3).trans rfl
     have hcz55_4:w50.cell? ⟨gb157,4,none⟩=some (.slice Ao29 y154.length co29):=(aG BK157.out 4).trans rfl
     have hfz55_0:=aH BK157.out 0
     have hfz55_1:=aH BK157.out 1
     have hfz55_2:=aH BK157.out 2
     have hfz55_3:=aH BK157.out 3
     have hfz55_4:=aH BK157.out 4
     try go_wp2_with (first|((with_reducible refine bJ (N:=42) rfl ?_);(try(refine gate_guard (by rfl) ?_;dsimp only));refine Kd.R_lit (Kd.int .i64) _ 3 ?hg (N:=42) ?hd (xs:=([1]:List Int)) (inner:= [.int .i64 1]) (ok:=fun _=>True) (okp:=fun _=>True) ?hr ?hp (fun _ hk=>hk) trivial (Below.refl _ _) (Nat.le_refl _) (by simp) ?_;(case hd=>rfl);(case hg=>rfl);(case hr=>first|(go_simp;done)|(go_simp;rfl));(case hp=>exact(Reps.one (show Kd.M (Kd.int .i64) _ _ _ 1 [.int .i64 1] from rfl) (Reps.none _ _)));intro v186 w56 ho57 hb hg_ hnew_;clear hg_ hnew_;(first|rw [←Ny185.out] at ho57|(simp only [Int.reduceToNat] at ho57;rw [←Ny185.out] at ho57));have n0_:=aM (aD (by(with_reducible repeat(first|apply aA|apply aB|apply aC));exact(Kd.R_mono (aE (p:=⟨gb184,1,none⟩) (aE (p:=⟨gb184,0,none⟩) (Kd.R_types HO147.out BK184.out (by decide)) (fun _ hk=>hk.2) (.slice Ao51 t176.length co51)) (fun _ hk=>hk.2) (.bool t179)) (fun _ h_=>h_.1))) hb);have n1_:=aM (Kd.N_elder' (by(with_reducible repeat(first|apply Kd.N_alloc|apply aY|apply aZ));exact(Kd.N_mono (Kd.N_far (p:=⟨gb184,1,none⟩) (Kd.N_far (p:=⟨gb184,0,none⟩) (Kd.N_mono HO150.out (fun k_ hk=>(⟨hk,hk.2.2.2.2.2.2.2.2.2⟩:_∧k_≠gb184))) (fun _ hk=>hk.2) (.slice Ao51 t176.length co51)) (fun _ hk=>hk.2) (.bool t179)) (fun _ h_=>h_.1))) (Kd.R_base ho57) hb);have n2_:=aM (Kd.N_elder' (by(with_reducible repeat(first|apply Kd.N_alloc|apply aY|apply aZ));exact(Kd.N_mono (Kd.N_far (p:=⟨gb184,1,none⟩) (Kd.N_far (p:=⟨gb184,0,none⟩) (Kd.N_mono HO156.out (fun k_ hk=>(⟨hk,hk.2.2.2.2.2.2.2.2.2⟩:_∧k_≠gb184))) (fun _ hk=>hk.2) (.slice Ao51 t176.length co51)) (fun _ hk=>hk.2) (.bool t179)) (fun _ h_=>h_.1))) (Kd.R_base ho57) hb);have n3_:=aM (Kd.N_elder' (by(with_reducible repeat(first|apply Kd.N_alloc|apply aY|apply aZ));exact(Kd.N_mono (Kd.N_far (p:=⟨gb184,1,none⟩) (Kd.N_far (p:=⟨gb184,0,none⟩) (Kd.N_mono HO163.out (fun k_ hk=>(⟨hk,hk.2.2.2.2.2.2.2.2.2⟩:_∧k_≠gb184))) (fun _ hk=>hk.2) (.slice Ao51 t176.length co51)) (fun _ hk=>hk.2) (.bool t179)) (fun _ h_=>h_.1))) (Kd.R_base ho57) hb);have n4_:=aM (bE (by(with_reducible repeat(first|apply aA|apply aB|apply aC));exact(Kd.R_mono (aE (p:=⟨gb184,1,none⟩) (aE (p:=⟨gb184,0,none⟩) (Kd.R_types HO166.out BK184.out (by decide)) (fun _ hk=>hk.2) (.slice Ao51 t176.length co51)) (fun _ hk=>hk.2) (.bool t179)) (fun _ h_=>h_.1))) (Kd.R_base ho57) hb);have n5_:=aM (bE (by(with_reducible repeat(first|apply aA|apply aB|apply aC));exact(Kd.R_mono (aE (p:=⟨gb184,1,none⟩) (aE (p:=⟨gb184,0,none⟩) (Kd.R_types HO169.out BK184.out (by decide)) (fun _ hk=>hk.2) (.slice Ao51 t176.length co51)) (fun _ hk=>hk.2) (.bool t179)) (fun _ h_=>h_.1))) (Kd.R_base ho57) hb);have n6_:=aM (aD (by(with_reducible repeat(first|apply aA|apply aB|apply aC));exact(Kd.R_mono (aE (p:=⟨gb184,1,none⟩) (aE (p:=⟨gb184,0,none⟩) (Kd.R_types HO174.out BK184.out (by decide)) (fun _ hk=>hk.2) (.slice Ao51 t176.length co51)) (fun _ hk=>hk.2) (.bool t179)) (fun _ h_=>h_.1))) hb);have n7_:=aM (aD (by(with_reducible repeat(first|apply aA|apply aB|apply aC));exact(Kd.R_mono (aE (p:=⟨gb184,1,none⟩) (aE (p:=⟨gb184,0,none⟩) (Kd.R_types HO178.out BK184.out (by decide)) (fun _ hk=>hk.2) (.slice Ao51 t176.length co51)) (fun _ hk=>hk.2) (.bool t179)) (fun _ h_=>h_.1))) hb);have n8_:=aM (bE (by(with_reducible repeat(first|apply aA|apply aB|apply aC));exact(Kd.R_mono (aE (p:=⟨gb184,1,none⟩) (aE (p:=⟨gb184,0,none⟩) (Kd.R_types HO182.out BK184.out (by decide)) (fun _ hk=>hk.2) (.slice Ao51 t176.length co51)) (fun _ hk=>hk.2) (.bool t179)) (fun _ h_=>h_.1))) (Kd.R_base ho57) hb);have n9_:=aM (bL (Kd.R_new' (Kd.R_new' (Kd.R_new' ho57 (Kd.R_lt (by(with_reducible repeat(first|apply aA|apply aB|apply aC));exact(Kd.R_mono (aE (p:=⟨gb184,1,none⟩) (aE (p:=⟨gb184,0,none⟩) (Kd.R_types HO166.out BK184.out (by decide)) (fun _ hk=>hk.2) (.slice Ao51 t176.length co51)) (fun _ hk=>hk.2) (.bool t179)) (fun _ h_=>h_.1))))) (Kd.R_lt (by(with_reducible repeat(first|apply aA|apply aB|apply aC));exact(Kd.R_mono (aE (p:=⟨gb184,1,none⟩) (aE (p:=⟨gb184,0,none⟩) (Kd.R_types HO169.out BK184.out (by decide)) (fun _ hk=>hk.2) (.slice Ao51 t176.length co51)) (fun _ hk=>hk.2) (.bool t179)) (fun _ h_=>h_.1))))) (Kd.R_lt (by(with_reducible repeat(first|apply aA|apply aB|apply aC));exact(Kd.R_mono (aE (p:=⟨gb184,1,none⟩) (aE (p:=⟨gb184,0,none⟩) (Kd.R_types HO182.out BK184.out (by decide)) (fun _ hk=>hk.2) (.slice Ao51 t176.length co51)) (fun _ hk=>hk.2) (.bool t179)) (fun _ h_=>h_.1))))) (bH (by repeat(first|(with_reducible first|exact HB.out|apply aN|apply aP|apply aO|refine aL ?_ GE157.out|refine aL ?_ GE184.out)|exact HB.out))));have n10_:=aM (bF (g:=gb157) (o:= .cells #[.slice Ao31 y145.length co31,.slice Ao30 y148.length co30,.int .i64 0,.int .i64 0,.slice Ao29 y154.length co29] 26 (0,0)) (by(with_reducible repeat(first|refine aJ ?_ _|refine aK ?_|refine aI ?_ _));refine blk_far ?_ NB157_184.out _;(with_reducible repeat(first|refine aJ ?_ _|refine aK ?_|refine aI ?_ _));refine blk_far ?_ NB157_184.out _;(with_reducible repeat(first|refine aJ ?_ _|refine aK ?_|refine aI ?_ _));exact BK157.out) hb);have n11_:=aM (bF (g:=gb184) (o:= .cells #[.slice Ao51 t176.length co51,.bool t179] 31 (0,0)) (by(with_reducible repeat(first|refine aJ ?_ _|refine aK ?_|refine aI ?_ _));refine blk_put (cs:=#[.slice Ao51 t176.length co51,.bool false]) ?_ 1 _ rfl;(with_reducible repeat(first|refine aJ ?_ _|refine aK ?_|refine aI ?_ _));refine blk_put (cs:=#[.slice none 0 0,.bool false]) ?_ 0 _ rfl;(with_reducible repeat(first|refine aJ ?_ _|refine aK ?_|refine aI ?_ _));exact BK184.out) hb);have n12_:=aM (bG (by repeat(first|(with_reducible first|exact HB.out|apply aN|apply aP|apply aO|refine aL ?_ GE157.out|refine aL ?_ GE184.out)|exact HB.out)) hb);clear HO147;clear HO150;clear HO156;clear HO163;clear HO166;clear HO169;clear HO174;clear HO178;clear HO182;clear BK157;clear BK184;clear HB;have HO147:=n0_;have HO150:=n1_;have HO156:=n2_;have HO163:=n3_;have HO166:=n4_;have HO169:=n5_;have HO174:=n6_;have HO178:=n7_;have HO182:=n8_;have HO187:=n9_;have BK157:=n10_;have BK184:=n11_;have HB:=n12_;clear n0_ n1_ n2_ n3_ n4_ n5_ n6_ n7_ n8_ n9_ n10_ n11_ n12_;clear hb ho57;obtain⟨Ao58,co58,eo58⟩:=Kd.R_slice HO187.out;subst eo58)|((with_reducible refine bI (f:=22) rfl ?_);refine goesL_ (some 43) rfl rfl Try.func22 (by kernel_rfl) rfl #[.agg #[.slice Ao31 y145.length co31,.slice Ao30 y148.length co30,.int .i64 0,.int .i64 0,.slice Ao29 y154.length co29],.slice Ao42 y161.length co42,.slice Ao58 y185.length co58] rfl (by(try simp only [List.map_toArray,List.map_cons,List.map_nil]);first|done|rfl|(simp only [List.length_drop,List.length_take];rfl)) ?_;(with_reducible refine(machine_Run.calls k _ _ y145 _ _ y148 0 0 _ _ y154 _ _ y161 _ _ y185 t188 t191 t192 _ ?side1 ?side2 ?side3 ?side4 ?side5 ?side6 ?side7 ?side8 ?side9 ?side10 A5.out).mono ?_);(case side1=>repeat(first|exact(aF HO147.out).2.2|(with_reducible refine Kd.C_alloc ?_ _)|(with_reducible refine Kd.C_drewN ?_ _)|(with_reducible refine Kd.C_drew ?_)));(case side2=>exact(aF HO147.out).2.1);(case side3=>repeat(first|exact(aT HO150.out).2.2|(with_reducible refine Kd.C_alloc ?_ _)|(with_reducible refine Kd.C_drewN ?_ _)|(with_reducible refine Kd.C_drew ?_)));(case side4=>exact(aT HO150.out).2.1);(case side5=>repeat(first|exact(aT HO156.out).2.2|(with_reducible refine Kd.C_alloc ?_ _)|(with_reducible refine Kd.C_drewN ?_ _)|(with_reducible refine Kd.C_drew ?_)));(case side6=>exact(aT HO156.out).2.1);(case side7=>repeat(first|exact(aT HO163.out).2.2|(with_reducible refine Kd.C_alloc ?_ _)|(with_reducible refine Kd.C_drewN ?_ _)|(with_reducible refine Kd.C_drew ?_)));(case side8=>exact(aT HO163.out).2.1);(case side9=>repeat(first|exact(aF HO187.out).2.2|(with_reducible refine Kd.C_alloc ?_ _)|(with_reducible refine Kd.C_drewN ?_ _)|(with_reducible refine Kd.C_drew ?_)));(case side10=>exact(aF HO187.out).2.1);rintro e w59 ⟨v189,rfl,ho0,hb⟩;refine⟨_,rfl,?_⟩;have n0_:=aM (aD (by(with_reducible repeat(first|apply aA|apply aB|apply aC));exact HO147.out) hb);have n1_:=aM (Kd.N_elder' (by(with_reducible repeat(first|apply Kd.N_alloc|apply aY|apply aZ));exact HO150.out) (Kd.R_base ho0) hb);have n2_:=aM (Kd.N_elder' (by(with_reducible repeat(first|apply Kd.N_alloc|apply aY|apply aZ));exact HO156.out) (Kd.R_base ho0) hb);have n3_:=aM (Kd.N_elder' (by(with_reducible repeat(first|apply Kd.N_alloc|apply aY|apply aZ));exact HO163.out) (Kd.R_base ho0) hb);have n4_:=aM (bE (by(with_reducible repeat(first|apply aA|apply aB|apply aC));exact HO166.out) (Kd.R_base ho0) hb);have n5_:=aM (bE (by(with_reducible repeat(first|apply aA|apply aB|apply aC));exact HO169.out) (Kd.R_base ho0) hb);have n6_:=aM (aD (by(with_reducible repeat(first|apply aA|apply aB|apply aC));exact HO174.out) hb);have n7_:=aM (aD (by(with_reducible repeat(first|apply aA|apply aB|apply aC));exact HO178.out) hb);have n8_:=aM (bE (by(with_reducible repeat(first|apply aA|apply aB|apply aC));exact HO182.out) (Kd.R_base ho0) hb);have n9_:=aM (bE (by(with_reducible repeat(first|apply aA|apply aB|apply aC));exact HO187.out) (Kd.R_base ho0) hb);have n10_:=aM (bL (Kd.R_new' (Kd.R_new' (Kd.R_new' (Kd.R_new' ho0 (Kd.R_lt (by(with_reducible repeat(first|apply aA|apply aB|apply aC));exact HO166.out))) (Kd.R_lt (by(with_reducible repeat(first|apply aA|apply aB|apply aC));exact HO169.out))) (Kd.R_lt (by(with_reducible repeat(first|apply aA|apply aB|apply aC));exact HO182.out))) (Kd.R_lt (by(with_reducible repeat(first|apply aA|apply aB|apply aC));exact HO187.out))) (bH (by repeat(first|(with_reducible first|exact HB.out|apply aN|apply aP|apply aO|refine aL ?_ GE157.out|refine aL ?_ GE184.out)|exact HB.out))));have n11_:=aM (bF (g:=gb157) (o:= .cells #[.slice Ao31 y145.length co31,.slice Ao30 y148.length co30,.int .i64 0,.int .i64 0,.slice Ao29 y154.length co29] 26 (0,0)) (by(with_reducible repeat(first|refine aJ ?_ _|refine aK ?_|refine aI ?_ _));exact BK157.out) hb);have n12_:=aM (bF (g:=gb184) (o:= .cells #[.slice Ao51 t176.length co51,.bool t179] 31 (0,0)) (by(with_reducible repeat(first|refine aJ ?_ _|refine aK ?_|refine aI ?_ _));exact BK184.out) hb);have n13_:=aM (bG (by repeat(first|(with_reducible first|exact HB.out|apply aN|apply aP|apply aO|refine aL ?_ GE157.out|refine aL ?_ GE184.out)|exact HB.out)) hb);clear HO147;clear HO150;clear HO156;clear HO163;clear HO166;clear HO169;clear HO174;clear HO178;clear HO182;clear HO187;clear BK157;clear BK184;clear HB;have HO147:=n0_;have HO150:=n1_;have HO156:=n2_;have HO163:=n3_;have HO166:=n4_;have HO169:=n5_;have HO174:=n6_;have HO178:=n7_;have HO182:=n8_;have HO187:=n9_;have HO190:=n10_;have BK157:=n11_;have BK184:=n12_;have HB:=n13_;clear n0_ n1_ n2_ n3_ n4_ n5_ n6_ n7_ n8_ n9_ n10_ n11_ n12_ n13_;(try clear hb);(try clear hb2);(try clear hk);(try clear hi);(try clear ho0)))
     have n0_:=aM (aC HO147.out)
     have n1_:=aM (aZ HO150.out)
     have n2_:=aM (aZ HO156.out)
     have n3_:=aM (aZ HO163.out)
     have n4_:=aM (aC HO166.out)
     have n5_:=aM (aC HO169.out)
     have n6_:=aM (aC HO174.out)
     have n7_:=aM (aC HO178.out)
     have n8_:=aM (aC HO182.out)
     have n9_:=aM (aC HO187.out)
     have n10_:=aM (aC HO190.out)
     have n11_:=aM (aK BK157.out)
     have n12_:=aM (aK BK184.out)
     have n13_:=aM (aO HB.out)
     clear HO147
     clear HO150
     clear HO156
     clear HO163
     clear HO166
     clear HO169
     clear HO174
     clear HO178
     clear HO182
     clear HO187
     clear HO190
     clear BK157
     clear BK184
     clear HB
     have HO147:=n0_
     have HO150:=n1_
     have HO156:=n2_
     have HO163:=n3_
     have HO166:=n4_
     have HO169:=n5_
     have HO174:=n6_
     have HO178:=n7_
     have HO182:=n8_
     have HO187:=n9_
     have HO190:=n10_
     have BK157:=n11_
     have BK184:=n12_
     have HB:=n13_
     clear n0_ n1_ n2_ n3_ n4_ n5_ n6_ n7_ n8_ n9_ n10_ n11_ n12_ n13_
     refine start_ (n:=40) (S:=fun w'=>w'.cell? ⟨gb184,0,none⟩=some (.slice Ao51 t176.length co51)∧w'.cell? ⟨gb184,1,none⟩=some (.bool t179)∧w'.cell? ⟨gb157,0,none⟩=some (.slice Ao31 y145.length co31)∧w'.cell? ⟨gb157,1,none⟩=some (.slice Ao30 y148.length co30)∧w'.cell? ⟨gb157,2,none⟩=some (.int .i64 0)∧w'.cell? ⟨gb157,3,none⟩=some (.int .i64 0)∧w'.cell? ⟨gb157,4,none⟩=some (.slice Ao29 y154.length co29)) (ds:= []) #[F,F,F,F,F,F,F,F,F,F,F,F,F,F,F,F,F,F,F,F,F,F,F,F,F,F,F,F,F,F,F,F,F,F,F,F,F,F,F,F] (by kernel_rfl) rfl rfl ⟨(aG BK184.out 0).trans rfl,(aG BK184.out 1).trans rfl,(aG BK157.out 0).trans rfl,(aG BK157.out 1).trans rfl,(aG BK157.out 2).trans rfl,(aG BK157.out 3).trans rfl,(aG BK157.out 4).trans rfl⟩ (fun hHeld=>?_);refine with_tabW regletlaw16_awake.tab6 regletlaw16_awake.bits6 (fun HT_ HW_=>?_)
     generalize w59.drew=w60 at HO147 HO150 HO156 HO163 HO166 HO169 HO174 HO178 HO182 HO187 HO190 BK157 BK184 HB hHeld ⊢
     refine pure_ (i:=0) (N:=some 47) (v:=?_) (a':=?_) #[T,F,F,F,F,F,F,F,F,F,F,F,F,F,F,F,F,F,F,F,F,F,F,F,F,F,F,F,F,F,F,F,F,F,F,F,F,F,F,F] rfl rfl (any_of HT_.out (by kernel_rfl)) (fun _ _ _ h=>h) (Or.inl ⟨by rfl,?_⟩) ?_ ?_
     rotate_left;(intro w';go_simp;with_reducible rfl);rotate_left;(simp only [pq];rfl)
     refine pure_ (i:=1) (N:=some 48) (v:=?_) (a':=?_) #[T,T,F,F,F,F,F,F,F,F,F,F,F,F,F,F,F,F,F,F,F,F,F,F,F,F,F,F,F,F,F,F,F,F,F,F,F,F,F,F] rfl rfl (any_of HT_.out (by kernel_rfl)) (fun _ _ _ h=>h) (Or.inl ⟨by rfl,?_⟩) ?_ ?_
     rotate_left;(intro w';go_simp;with_reducible rfl);rotate_left;(simp only [pq];rfl)
     refine pure_ (i:=2) (N:=some 49) (v:=?_) (a':=?_) #[T,T,T,F,F,F,F,F,F,F,F,F,F,F,F,F,F,F,F,F,F,F,F,F,F,F,F,F,F,F,F,F,F,F,F,F,F,F,F,F] rfl rfl (any_of HT_.out (by kernel_rfl)) (fun _ _ _ h=>h) (Or.inl ⟨by rfl,?_⟩) ?_ ?_
     rotate_left;(intro w';go_simp;with_reducible rfl);rotate_left;(simp only [pq];rfl)
     refine pure_ (i:=3) (N:=some 50) (v:=?_) (a':=?_) #[T,T,T,T,F,F,F,F,F,F,F,F,F,F,F,F,F,F,F,F,F,F,F,F,F,F,F,F,F,F,F,F,F,F,F,F,F,F,F,F] rfl rfl (any_of HT_.out (by kernel_rfl)) (fun _ _ _ h=>h) (Or.inl ⟨by rfl,?_⟩) ?_ ?_
     rotate_left;(intro w';go_simp;with_reducible rfl);rotate_left;(simp only [pq];rfl)
     refine one_ (i:=4) (N:=some 51) #[T,T,T,T,T,F,F,F,F,F,F,F,F,F,F,F,F,F,F,F,F,F,F,F,F,F,F,F,F,F,F,F,F,F,F,F,F,F,F,F] rfl rfl (one_of HT_.out (by kernel_rfl)) (by decide) (fun K hK=>?_)
     refine Kd.R_lit_step (Kd.int .i64) _ 3 ?hg (N:=51) ?hd (xs:=([0,0,1]:List Int)) (inner:= [.int .i64 0,.int .i64 0,.int .i64 1]) (ok:=fun _=>True) (okp:=fun _=>True) ?hr ?hp (fun _ hk=>hk) trivial (Below.refl _ _) (Nat.le_refl _) (by simp) ?_;(case hd=>rfl);(case hg=>rfl);(case hr=>first|(go_simp;done)|(go_simp;rfl));(case hp=>exact(Reps.one (show Kd.M (Kd.int .i64) _ _ _ 0 [.int .i64 0] from rfl) (Reps.one (show Kd.M (Kd.int .i64) _ _ _ 0 [.int .i64 0] from rfl) (Reps.one (show Kd.M (Kd.int .i64) _ _ _ 1 [.int .i64 1] from rfl) (Reps.none _ _)))))
     intro v194 w61 ho62 hb hg_ hnew_
     clear hg_ hnew_
     (first|rw [←Ny193.out] at ho62|(simp only [Int.reduceToNat] at ho62;rw [←Ny193.out] at ho62))
     have n0_:=aM (aD (by(with_reducible repeat(first|apply aA|apply aB|apply aC));exact HO147.out) hb)
     have n1_:=aM (Kd.N_elder' (by(with_reducible repeat(first|apply Kd.N_alloc|apply aY|apply aZ));exact HO150.out) (Kd.R_base ho62) hb)
     have n2_:=aM (Kd.N_elder' (by(with_reducible repeat(first|apply Kd.N_alloc|apply aY|apply aZ));exact HO156.out) (Kd.R_base ho62) hb)
     have n3_:=aM (Kd.N_elder' (by(with_reducible repeat(first|apply Kd.N_alloc|apply aY|apply aZ));exact HO163.out) (Kd.R_base ho62) hb)
     have n4_:=aM (bE (by(with_reducible repeat(first|apply aA|apply aB|apply aC));exact HO166.out) (Kd.R_base ho62) hb)
     have n5_:=aM (bE (by(with_reducible repeat(first|apply aA|apply aB|apply aC));exact HO169.out) (Kd.R_base ho62) hb)
     have n6_:=aM (aD (by(with_reducible repeat(first|apply aA|apply aB|apply aC));exact HO174.out) hb)
     have n7_:=aM (aD (by(with_reducible repeat(first|apply aA|apply aB|apply aC));exact HO178.out) hb)
     have n8_:=aM (bE (by(with_reducible repeat(first|apply aA|apply aB|apply aC));exact HO182.out) (Kd.R_base ho62) hb)
     have n9_:=aM (bE (by(with_reducible repeat(first|apply aA|apply aB|apply aC));exact HO187.out) (Kd.R_base ho62) hb)
     have n10_:=aM (bE (by(with_reducible repeat(first|apply aA|apply aB|apply aC));exact HO190.out) (Kd.R_base ho62) hb)
     have n11_:=aM (bL (Kd.R_new' (Kd.R_new' (Kd.R_new' (Kd.R_new' (Kd.R_new' ho62 (Kd.R_lt (by(with_reducible repeat(first|apply aA|apply aB|apply aC));exact HO166.out))) (Kd.R_lt (by(with_reducible repeat(first|apply aA|apply aB|apply aC));exact HO169.out))) (Kd.R_lt (by(with_reducible repeat(first|apply aA|apply aB|apply aC));exact HO182.out))) (Kd.R_lt (by(with_reducible repeat(first|apply aA|apply aB|apply aC));exact HO187.out))) (Kd.R_lt (by(with_reducible repeat(first|apply aA|apply aB|apply aC));exact HO190.out))) (bH (by repeat(first|(with_reducible first|exact HB.out|apply aN|apply aP|apply aO|refine aL ?_ GE157.out|refine aL ?_ GE184.out)|exact HB.out))))
     have n12_:=aM (bF (g:=gb157) (o:= .cells #[.slice Ao31 y145.length co31,.slice Ao30 y148.length co30,.int .i64 0,.int .i64 0,.slice Ao29 y154.length co29] 26 (0,0)) (by(with_reducible repeat(first|refine aJ ?_ _|refine aK ?_|refine aI ?_ _));exact BK157.out) hb)
     have n13_:=aM (bF (g:=gb184) (o:= .cells #[.slice Ao51 t176.length co51,.bool t179] 31 (0,0)) (by(with_reducible repeat(first|refine aJ ?_ _|refine aK ?_|refine aI ?_ _));exact BK184.out) hb)
     have n14_:=aM (bG (by repeat(first|(with_reducible first|exact HB.out|apply aN|apply aP|apply aO|refine aL ?_ GE157.out|refine aL ?_ GE184.out)|exact HB.out)) hb)
     clear HO147
     clear HO150
     clear HO156
     clear HO163
     clear HO166
     clear HO169
     clear HO174
     clear HO178
     clear HO182
     clear HO187
     clear HO190
     clear BK157
     clear BK184
     clear HB
     have HO147:=n0_
     have HO150:=n1_
     have HO156:=n2_
     have HO163:=n3_
     have HO166:=n4_
     have HO169:=n5_
     have HO174:=n6_
     have HO178:=n7_
     have HO182:=n8_
     have HO187:=n9_
     have HO190:=n10_
     have HO195:=n11_
     have BK157:=n12_
     have BK184:=n13_
     have HB:=n14_
     clear n0_ n1_ n2_ n3_ n4_ n5_ n6_ n7_ n8_ n9_ n10_ n11_ n12_ n13_ n14_
     clear hb ho62
     obtain⟨Ao63,co63,eo63⟩:=Kd.R_slice HO169.out
     (first|subst eo63|(injection eo63 with f1_ f2_ f3_;have f4_:=f1_.symm;have f5_:=f3_.symm;clear f1_ f2_ f3_;subst f4_;subst f5_))
     obtain⟨Ao64,co64,eo64⟩:=Kd.R_slice HO195.out
     (first|subst eo64|(injection eo64 with f1_ f2_ f3_;have f4_:=f1_.symm;have f5_:=f3_.symm;clear f1_ f2_ f3_;subst f4_;subst f5_))
     refine hK.out _ _ ⟨(aG BK184.out 0).trans rfl,(aG BK184.out 1).trans rfl,(aG BK157.out 0).trans rfl,(aG BK157.out 1).trans rfl,(aG BK157.out 2).trans rfl,(aG BK157.out 3).trans rfl,(aG BK157.out 4).trans rfl⟩ (fun hHeld=>?_)
     clear hK K
     refine norm_ (a':=?_) ?_ ?_
     rotate_left
     ·show Act.put _ (some 51) _=_
      simp only [pq]
      rfl
     refine one_ (i:=5) (N:=some 52) #[T,T,T,T,T,T,F,F,F,F,F,F,F,F,F,F,F,F,F,F,F,F,F,F,F,F,F,F,F,F,F,F,F,F,F,F,F,F,F,F] rfl rfl (one_of HT_.out (by kernel_rfl)) (by decide) (fun K hK=>?_)
     refine goes_ Try.func24 (by kernel_rfl) rfl #[.slice Ao63 t167.length co63,.slice Ao64 y193.length co64] (by rfl) rfl rfl (by(try simp only [List.map_toArray,List.map_cons,List.map_nil]);first|done|rfl|(simp only [List.length_drop,List.length_take];rfl)) ?_
     with_reducible refine(regletref13_SameInts.calls k _ _ t167 _ _ y193 true _ ?side1 ?side2 ?side3 ?side4 A7.out).mono ?_
     (case side1=>repeat(first|exact(aF HO169.out).2.2|(with_reducible refine Kd.C_alloc ?_ _)|(with_reducible refine Kd.C_drewN ?_ _)|(with_reducible refine Kd.C_drew ?_)))
     (case side2=>exact(aF HO169.out).2.1)
     (case side3=>repeat(first|exact(aF HO195.out).2.2|(with_reducible refine Kd.C_alloc ?_ _)|(with_reducible refine Kd.C_drewN ?_ _)|(with_reducible refine Kd.C_drew ?_)))
     (case side4=>exact(aF HO195.out).2.1)
     rintro e w' ⟨rfl,⟨nd,rfl⟩⟩
     refine⟨_,rfl,?_⟩
     refine hK.out _ _ ⟨(aG BK184.out 0).trans rfl,(aG BK184.out 1).trans rfl,(aG BK157.out 0).trans rfl,(aG BK157.out 1).trans rfl,(aG BK157.out 2).trans rfl,(aG BK157.out 3).trans rfl,(aG BK157.out 4).trans rfl⟩ (fun hHeld=>?_)
     clear hK K
     refine norm_ (a':=?_) ?_ ?_
     rotate_left
     ·show Act.put _ (some 52) _=_
      simp only [pq]
      rfl
     refine pure_ (i:=6) (N:=some 53) (v:=?_) (a':=?_) #[T,T,T,T,T,T,T,F,F,F,F,F,F,F,F,F,F,F,F,F,F,F,F,F,F,F,F,F,F,F,F,F,F,F,F,F,F,F,F,F] rfl rfl (any_of HT_.out (by kernel_rfl)) (fun _ _ _ h=>h) (Or.inl ⟨by rfl,?_⟩) ?_ ?_
     rotate_left;(intro w';go_simp;with_reducible rfl);rotate_left;(simp only [pq];rfl)
     refine pure_ (i:=7) (N:=some 54) (v:=?_) (a':=?_) #[T,T,T,T,T,T,T,T,F,F,F,F,F,F,F,F,F,F,F,F,F,F,F,F,F,F,F,F,F,F,F,F,F,F,F,F,F,F,F,F] rfl rfl (any_of HT_.out (by kernel_rfl)) (fun _ _ _ h=>h) (Or.inl ⟨by rfl,?_⟩) ?_ ?_
     rotate_left;(intro w';go_simp;with_reducible rfl);rotate_left;(simp only [pq];rfl)
     refine pure_ (i:=8) (N:=some 55) (v:=?_) (a':=?_) #[T,T,T,T,T,T,T,T,T,F,F,F,F,F,F,F,F,F,F,F,F,F,F,F,F,F,F,F,F,F,F,F,F,F,F,F,F,F,F,F] rfl rfl (any_of HT_.out (by kernel_rfl)) (fun _ _ _ h=>h) (Or.inl ⟨by rfl,?_⟩) ?_ ?_
     rotate_left;(intro w';go_simp;with_reducible rfl);rotate_left;(simp only [pq];rfl)
     refine pure_ (i:=9) (N:=some 56) (v:=?_) (a':=?_) #[T,T,T,T,T,T,T,T,T,T,F,F,F,F,F,F,F,F,F,F,F,F,F,F,F,F,F,F,F,F,F,F,F,F,F,F,F,F,F,F] rfl rfl (any_of HT_.out (by kernel_rfl)) (fun _ _ _ h=>h) (Or.inl ⟨by rfl,?_⟩) ?_ ?_
     rotate_left;(intro w';go_simp;with_reducible rfl);rotate_left;(simp only [pq];rfl)
     refine pure_ (i:=10) (N:=some 57) (v:=?_) (a':=?_) #[T,T,T,T,T,T,T,T,T,T,T,F,F,F,F,F,F,F,F,F,F,F,F,F,F,F,F,F,F,F,F,F,F,F,F,F,F,F,F,F] rfl rfl (any_of HT_.out (by kernel_rfl)) (fun _ _ _ h=>h) (Or.inl ⟨by rfl,?_⟩) ?_ ?_
     rotate_left;(intro w';go_simp;with_reducible rfl);rotate_left;(simp only [pq];rfl)
     refine pure_ (i:=11) (N:=some 58) (v:=?_) (a':=?_) #[T,T,T,T,T,T,T,T,T,T,T,T,F,F,F,F,F,F,F,F,F,F,F,F,F,F,F,F,F,F,F,F,F,F,F,F,F,F,F,F] rfl rfl (any_of HT_.out (by kernel_rfl)) (fun _ _ _ h=>h) (Or.inl ⟨by rfl,?_⟩) ?_ ?_
     rotate_left;(intro w';go_simp;with_reducible rfl);rotate_left;(simp only [pq];rfl)
     refine pure_ (i:=12) (N:=some 59) (v:=?_) (a':=?_) #[T,T,T,T,T,T,T,T,T,T,T,T,T,F,F,F,F,F,F,F,F,F,F,F,F,F,F,F,F,F,F,F,F,F,F,F,F,F,F,F] rfl rfl (any_of HT_.out (by kernel_rfl)) (fun _ _ _ h=>h) (Or.inl ⟨by rfl,?_⟩) ?_ ?_
     rotate_left;(intro w';go_simp;with_reducible rfl);rotate_left;(simp only [pq];rfl)
     refine one_ (i:=13) (N:=some 60) #[T,T,T,T,T,T,T,T,T,T,T,T,T,T,F,F,F,F,F,F,F,F,F,F,F,F,F,F,F,F,F,F,F,F,F,F,F,F,F,F] rfl rfl (one_of HT_.out (by kernel_rfl)) (by decide) (fun K hK=>?_)
     refine Kd.R_lit_step (Kd.int .i64) _ 3 ?hg (N:=60) ?hd (xs:=([0]:List Int)) (inner:= [.int .i64 0]) (ok:=fun _=>True) (okp:=fun _=>True) ?hr ?hp (fun _ hk=>hk) trivial (Below.refl _ _) (Nat.le_refl _) (by simp) ?_;(case hd=>rfl);(case hg=>rfl);(case hr=>first|(go_simp;done)|(go_simp;rfl));(case hp=>exact(Reps.one (show Kd.M (Kd.int .i64) _ _ _ 0 [.int .i64 0] from rfl) (Reps.none _ _)))
     intro v198 w65 ho66 hb hg_ hnew_
     clear hg_ hnew_
     (first|rw [←Ny197.out] at ho66|(simp only [Int.reduceToNat] at ho66;rw [←Ny197.out] at ho66))
     have n0_:=aM (aD (by(with_reducible repeat(first|apply aA|apply aB|apply aC));exact HO147.out) hb)
     have n1_:=aM (Kd.N_elder' (by(with_reducible repeat(first|apply Kd.N_alloc|apply aY|apply aZ));exact HO150.out) (Kd.R_base ho66) hb)
     have n2_:=aM (Kd.N_elder' (by(with_reducible repeat(first|apply Kd.N_alloc|apply aY|apply aZ));exact HO156.out) (Kd.R_base ho66) hb)
     have n3_:=aM (Kd.N_elder' (by(with_reducible repeat(first|apply Kd.N_alloc|apply aY|apply aZ));exact HO163.out) (Kd.R_base ho66) hb)
     have n4_:=aM (bE (by(with_reducible repeat(first|apply aA|apply aB|apply aC));exact HO166.out) (Kd.R_base ho66) hb)
     have n5_:=aM (bE (by(with_reducible repeat(first|apply aA|apply aB|apply aC));exact HO169.out) (Kd.R_base ho66) hb)
     have n6_:=aM (aD (by(with_reducible repeat(first|apply aA|apply aB|apply aC));exact HO174.out) hb)
     have n7_:=aM (aD (by(with_reducible repeat(first|apply aA|apply aB|apply aC));exact HO178.out) hb)
     have n8_:=aM (bE (by(with_reducible repeat(first|apply aA|apply aB|apply aC));exact HO182.out) (Kd.R_base ho66) hb)
     have n9_:=aM (bE (by(with_reducible repeat(first|apply aA|apply aB|apply aC));exact HO187.out) (Kd.R_base ho66) hb)
     have n10_:=aM (bE (by(with_reducible repeat(first|apply aA|apply aB|apply aC));exact HO190.out) (Kd.R_base ho66) hb)
     have n11_:=aM (bE (by(with_reducible repeat(first|apply aA|apply aB|apply aC));exact HO195.out) (Kd.R_base ho66) hb)
     have n12_:=aM (bL (Kd.R_new' (Kd.R_new' (Kd.R_new' (Kd.R_new' (Kd.R_new' (Kd.R_new' ho66 (Kd.R_lt (by(with_reducible repeat(first|apply aA|apply aB|apply aC));exact HO166.out))) (Kd.R_lt (by(with_reducible repeat(first|apply aA|apply aB|apply aC));exact HO169.out))) (Kd.R_lt (by(with_reducible repeat(first|apply aA|apply aB|apply aC));exact HO182.out))) (Kd.R_lt (by(with_reducible repeat(first|apply aA|apply aB|apply aC));exact HO187.out))) (Kd.R_lt (by(with_reducible repeat(first|apply aA|apply aB|apply aC));exact HO190.out))) (Kd.R_lt (by(with_reducible repeat(first|apply aA|apply aB|apply aC));exact HO195.out))) (bH (by repeat(first|(with_reducible first|exact HB.out|apply aN|apply aP|apply aO|refine aL ?_ GE157.out|refine aL ?_ GE184.out)|exact HB.out))))
     have n13_:=aM (bF (g:=gb157) (o:= .cells #[.slice Ao31 y145.length co31,.slice Ao30 y148.length co30,.int .i64 0,.int .i64 0,.slice Ao29 y154.length co29] 26 (0,0)) (by(with_reducible repeat(first|refine aJ ?_ _|refine aK ?_|refine aI ?_ _));exact BK157.out) hb)
     have n14_:=aM (bF (g:=gb184) (o:= .cells #[.slice Ao51 t176.length co51,.bool t179] 31 (0,0)) (by(with_reducible repeat(first|refine aJ ?_ _|refine aK ?_|refine aI ?_ _));exact BK184.out) hb)
     have n15_:=aM (bG (by repeat(first|(with_reducible first|exact HB.out|apply aN|apply aP|apply aO|refine aL ?_ GE157.out|refine aL ?_ GE184.out)|exact HB.out)) hb)
     clear HO147
     clear HO150
     clear HO156
     clear HO163
     clear HO166
     clear HO169
     clear HO174
     clear HO178
     clear HO182
     clear HO187
     clear HO190
     clear HO195
     clear BK157
     clear BK184
     clear HB
     have HO147:=n0_
     have HO150:=n1_
     have HO156:=n2_
     have HO163:=n3_
     have HO166:=n4_
     have HO169:=n5_
     have HO174:=n6_
     have HO178:=n7_
     have HO182:=n8_
     have HO187:=n9_
     have HO190:=n10_
     have HO195:=n11_
     have HO199:=n12_
     have BK157:=n13_
     have BK184:=n14_
     have HB:=n15_
     clear n0_ n1_ n2_ n3_ n4_ n5_ n6_ n7_ n8_ n9_ n10_ n11_ n12_ n13_ n14_ n15_
     clear hb ho66
     obtain⟨Ao67,co67,eo67⟩:=Kd.R_slice HO182.out
     (first|subst eo67|(injection eo67 with f1_ f2_ f3_;have f4_:=f1_.symm;have f5_:=f3_.symm;clear f1_ f2_ f3_;subst f4_;subst f5_))
     obtain⟨Ao68,co68,eo68⟩:=Kd.R_slice HO199.out
     (first|subst eo68|(injection eo68 with f1_ f2_ f3_;have f4_:=f1_.symm;have f5_:=f3_.symm;clear f1_ f2_ f3_;subst f4_;subst f5_))
     refine hK.out _ _ ⟨(aG BK184.out 0).trans rfl,(aG BK184.out 1).trans rfl,(aG BK157.out 0).trans rfl,(aG BK157.out 1).trans rfl,(aG BK157.out 2).trans rfl,(aG BK157.out 3).trans rfl,(aG BK157.out 4).trans rfl⟩ (fun hHeld=>?_)
     clear hK K
     refine norm_ (a':=?_) ?_ ?_
     rotate_left
     ·show Act.put _ (some 60) _=_
      simp only [pq]
      rfl
     refine one_ (i:=14) (N:=some 61) #[T,T,T,T,T,T,T,T,T,T,T,T,T,T,T,F,F,F,F,F,F,F,F,F,F,F,F,F,F,F,F,F,F,F,F,F,F,F,F,F] rfl rfl (one_of HT_.out (by kernel_rfl)) (by decide) (fun K hK=>?_)
     refine goes_ Try.func24 (by kernel_rfl) rfl #[.slice Ao67 t180.length co67,.slice Ao68 y197.length co68] (by rfl) rfl rfl (by(try simp only [List.map_toArray,List.map_cons,List.map_nil]);first|done|rfl|(simp only [List.length_drop,List.length_take];rfl)) ?_
     with_reducible refine(regletref13_SameInts.calls k _ _ t180 _ _ y197 true _ ?side1 ?side2 ?side3 ?side4 A10.out).mono ?_
     (case side1=>repeat(first|exact(aF HO182.out).2.2|(with_reducible refine Kd.C_alloc ?_ _)|(with_reducible refine Kd.C_drewN ?_ _)|(with_reducible refine Kd.C_drew ?_)))
     (case side2=>exact(aF HO182.out).2.1)
     (case side3=>repeat(first|exact(aF HO199.out).2.2|(with_reducible refine Kd.C_alloc ?_ _)|(with_reducible refine Kd.C_drewN ?_ _)|(with_reducible refine Kd.C_drew ?_)))
     (case side4=>exact(aF HO199.out).2.1)
     rintro e w' ⟨rfl,⟨nd,rfl⟩⟩
     refine⟨_,rfl,?_⟩
     refine hK.out _ _ ⟨(aG BK184.out 0).trans rfl,(aG BK184.out 1).trans rfl,(aG BK157.out 0).trans rfl,(aG BK157.out 1).trans rfl,(aG BK157.out 2).trans rfl,(aG BK157.out 3).trans rfl,(aG BK157.out 4).trans rfl⟩ (fun hHeld=>?_)
     clear hK K
     refine norm_ (a':=?_) ?_ ?_
     rotate_left
     ·show Act.put _ (some 61) _=_
      simp only [pq]
      rfl
     refine pure_ (i:=15) (N:=some 62) (v:=?_) (a':=?_) #[T,T,T,T,T,T,T,T,T,T,T,T,T,T,T,T,F,F,F,F,F,F,F,F,F,F,F,F,F,F,F,F,F,F,F,F,F,F,F,F] rfl rfl (any_of HT_.out (by kernel_rfl)) (fun _ _ _ h=>h) (Or.inl ⟨by rfl,?_⟩) ?_ ?_
     rotate_left;(intro w';go_simp;with_reducible rfl);rotate_left;(simp only [pq];rfl)
     refine pure_ (i:=16) (N:=some 63) (v:=?_) (a':=?_) #[T,T,T,T,T,T,T,T,T,T,T,T,T,T,T,T,T,F,F,F,F,F,F,F,F,F,F,F,F,F,F,F,F,F,F,F,F,F,F,F] rfl rfl (any_of HT_.out (by kernel_rfl)) (fun _ _ _ h=>h) (Or.inl ⟨by rfl,?_⟩) ?_ ?_
     rotate_left;(intro w';go_simp;with_reducible rfl);rotate_left;(simp only [pq];rfl)
     refine take_ (i:=17) (N:=some 64) (v:=?_) (a':=?_) #[T,T,T,T,T,T,T,T,T,T,T,T,T,T,T,T,T,T,F,F,F,F,F,F,F,F,F,F,F,F,F,F,F,F,F,F,F,F,F,F] rfl rfl (take_ofW HT_.out HW_.out (by kernel_rfl)) (fun _ _ _ h=>h) (Or.inl ⟨by rfl,?_⟩) hHeld ?_ ?_
     rotate_left
     ·rintro w' ⟨s0,s1,s2,s3,s4,s5,s6⟩
      go_simp
      with_reducible rfl
     rotate_left
     ·simp only [pq]
      rfl
     refine one_ (i:=18) (N:=some 65) #[T,T,T,T,T,T,T,T,T,T,T,T,T,T,T,T,T,T,T,F,F,F,F,F,F,F,F,F,F,F,F,F,F,F,F,F,F,F,F,F] rfl rfl (one_of HT_.out (by kernel_rfl)) (by decide) (fun K hK=>?_)
     refine goes_ Try.func17 (by kernel_rfl) rfl #[] (by rfl) rfl rfl (by(try simp only [List.map_toArray,List.map_cons,List.map_nil]);first|done|rfl|(simp only [List.length_drop,List.length_take];rfl)) ?_
     with_reducible refine(machine_Start.calls  t201 t204 _ A12.out).mono ?_
     rintro e w69 ⟨v202,rfl,ho0,hb⟩
     refine⟨_,rfl,?_⟩
     have n0_:=aM (aD (by(with_reducible repeat(first|apply aA|apply aB|apply aC));exact HO147.out) hb)
     have n1_:=aM (Kd.N_elder' (by(with_reducible repeat(first|apply Kd.N_alloc|apply aY|apply aZ));exact HO150.out) (Kd.R_base ho0) hb)
     have n2_:=aM (Kd.N_elder' (by(with_reducible repeat(first|apply Kd.N_alloc|apply aY|apply aZ));exact HO156.out) (Kd.R_base ho0) hb)
     have n3_:=aM (Kd.N_elder' (by(with_reducible repeat(first|apply Kd.N_alloc|apply aY|apply aZ));exact HO163.out) (Kd.R_base ho0) hb)
     have n4_:=aM (aD (by(with_reducible repeat(first|apply aA|apply aB|apply aC));exact HO166.out) hb)
     have n5_:=aM (aD (by(with_reducible repeat(first|apply aA|apply aB|apply aC));exact HO169.out) hb)
     have n6_:=aM (bE (by(with_reducible repeat(first|apply aA|apply aB|apply aC));exact HO174.out) (Kd.R_base ho0) hb)
     have n7_:=aM (bE (by(with_reducible repeat(first|apply aA|apply aB|apply aC));exact HO178.out) (Kd.R_base ho0) hb)
     have n8_:=aM (aD (by(with_reducible repeat(first|apply aA|apply aB|apply aC));exact HO182.out) hb)
     have n9_:=aM (aD (by(with_reducible repeat(first|apply aA|apply aB|apply aC));exact HO187.out) hb)
     have n10_:=aM (aD (by(with_reducible repeat(first|apply aA|apply aB|apply aC));exact HO190.out) hb)
     have n11_:=aM (aD (by(with_reducible repeat(first|apply aA|apply aB|apply aC));exact HO195.out) hb)
     have n12_:=aM (aD (by(with_reducible repeat(first|apply aA|apply aB|apply aC));exact HO199.out) hb)
     have n13_:=aM (bL (Kd.R_new' (Kd.R_new' ho0 (Kd.R_lt (by(with_reducible repeat(first|apply aA|apply aB|apply aC));exact HO174.out))) (Kd.R_lt (by(with_reducible repeat(first|apply aA|apply aB|apply aC));exact HO178.out))) (bH (by repeat(first|(with_reducible first|exact HB.out|apply aN|apply aP|apply aO|refine aL ?_ GE157.out|refine aL ?_ GE184.out)|exact HB.out))))
     have n14_:=aM (bF (g:=gb157) (o:= .cells #[.slice Ao31 y145.length co31,.slice Ao30 y148.length co30,.int .i64 0,.int .i64 0,.slice Ao29 y154.length co29] 26 (0,0)) (by(with_reducible repeat(first|refine aJ ?_ _|refine aK ?_|refine aI ?_ _));exact BK157.out) hb)
     have n15_:=aM (bF (g:=gb184) (o:= .cells #[.slice Ao51 t176.length co51,.bool t179] 31 (0,0)) (by(with_reducible repeat(first|refine aJ ?_ _|refine aK ?_|refine aI ?_ _));exact BK184.out) hb)
     have n16_:=aM (bG (by repeat(first|(with_reducible first|exact HB.out|apply aN|apply aP|apply aO|refine aL ?_ GE157.out|refine aL ?_ GE184.out)|exact HB.out)) hb)
     clear HO147
     clear HO150
     clear HO156
     clear HO163
     clear HO166
     clear HO169
     clear HO174
     clear HO178
     clear HO182
     clear HO187
     clear HO190
     clear HO195
     clear HO199
     clear BK157
     clear BK184
     clear HB
     have HO147:=n0_
     have HO150:=n1_
     have HO156:=n2_
     have HO163:=n3_
     have HO166:=n4_
     have HO169:=n5_
     have HO174:=n6_
     have HO178:=n7_
     have HO182:=n8_
     have HO187:=n9_
     have HO190:=n10_
     have HO195:=n11_
     have HO199:=n12_
     have HO203:=n13_
     have BK157:=n14_
     have BK184:=n15_
     have HB:=n16_
     clear n0_ n1_ n2_ n3_ n4_ n5_ n6_ n7_ n8_ n9_ n10_ n11_ n12_ n13_ n14_ n15_ n16_
     (try clear hb);(try clear hb2);(try clear hk);(try clear hi);(try clear ho0)
     obtain⟨Ao70,co70,eo70⟩:=Kd.R_slice HO203.out
     (first|subst eo70|(injection eo70 with f1_ f2_ f3_;have f4_:=f1_.symm;have f5_:=f3_.symm;clear f1_ f2_ f3_;subst f4_;subst f5_))
     refine hK.out _ _ ⟨(aG BK184.out 0).trans rfl,(aG BK184.out 1).trans rfl,(aG BK157.out 0).trans rfl,(aG BK157.out 1).trans rfl,(aG BK157.out 2).trans rfl,(aG BK157.out 3).trans rfl,(aG BK157.out 4).trans rfl⟩ (fun hHeld=>?_)
     clear hK K
     refine norm_ (a':=?_) ?_ ?_
     rotate_left
     ·show Act.put _ (some 65) _=_
      simp only [pq]
      rfl
     refine one_ (i:=19) (N:=some 66) #[T,T,T,T,T,T,T,T,T,T,T,T,T,T,T,T,T,T,T,T,F,F,F,F,F,F,F,F,F,F,F,F,F,F,F,F,F,F,F,F] rfl rfl (one_of HT_.out (by kernel_rfl)) (by decide) (fun K hK=>?_)
     refine goes_ Try.func16 (by kernel_rfl) rfl #[.agg #[.slice Ao51 t176.length co51,.bool t179],.agg #[.slice Ao70 t201.length co70,.bool t204]] (by rfl) rfl rfl (by(try simp only [List.map_toArray,List.map_cons,List.map_nil]);first|done|rfl|(simp only [List.length_drop,List.length_take];rfl)) ?_
     with_reducible refine(regletref16_Same.calls k _ _ t176 t179 _ _ t201 t204 true _ ?side1 ?side2 ?side3 ?side4 A13.out).mono ?_
     (case side1=>repeat(first|exact(aF HO178.out).2.2|(with_reducible refine Kd.C_alloc ?_ _)|(with_reducible refine Kd.C_drewN ?_ _)|(with_reducible refine Kd.C_drew ?_)))
     (case side2=>exact(aF HO178.out).2.1)
     (case side3=>repeat(first|exact(aF HO203.out).2.2|(with_reducible refine Kd.C_alloc ?_ _)|(with_reducible refine Kd.C_drewN ?_ _)|(with_reducible refine Kd.C_drew ?_)))
     (case side4=>exact(aF HO203.out).2.1)
     rintro e w71 ⟨rfl,hb⟩
     refine⟨_,rfl,?_⟩
     have n0_:=aM (aD (by(with_reducible repeat(first|apply aA|apply aB|apply aC));exact HO147.out) hb)
     have n1_:=aM (Kd.N_below (by(with_reducible repeat(first|apply Kd.N_alloc|apply aY|apply aZ));exact HO150.out) hb)
     have n2_:=aM (Kd.N_below (by(with_reducible repeat(first|apply Kd.N_alloc|apply aY|apply aZ));exact HO156.out) hb)
     have n3_:=aM (Kd.N_below (by(with_reducible repeat(first|apply Kd.N_alloc|apply aY|apply aZ));exact HO163.out) hb)
     have n4_:=aM (aD (by(with_reducible repeat(first|apply aA|apply aB|apply aC));exact HO166.out) hb)
     have n5_:=aM (aD (by(with_reducible repeat(first|apply aA|apply aB|apply aC));exact HO169.out) hb)
     have n6_:=aM (aD (by(with_reducible repeat(first|apply aA|apply aB|apply aC));exact HO174.out) hb)
     have n7_:=aM (aD (by(with_reducible repeat(first|apply aA|apply aB|apply aC));exact HO178.out) hb)
     have n8_:=aM (aD (by(with_reducible repeat(first|apply aA|apply aB|apply aC));exact HO182.out) hb)
     have n9_:=aM (aD (by(with_reducible repeat(first|apply aA|apply aB|apply aC));exact HO187.out) hb)
     have n10_:=aM (aD (by(with_reducible repeat(first|apply aA|apply aB|apply aC));exact HO190.out) hb)
     have n11_:=aM (aD (by(with_reducible repeat(first|apply aA|apply aB|apply aC));exact HO195.out) hb)
     have n12_:=aM (aD (by(with_reducible repeat(first|apply aA|apply aB|apply aC));exact HO199.out) hb)
     have n13_:=aM (aD (by(with_reducible repeat(first|apply aA|apply aB|apply aC));exact HO203.out) hb)
     have n14_:=aM (bF (g:=gb157) (o:= .cells #[.slice Ao31 y145.length co31,.slice Ao30 y148.length co30,.int .i64 0,.int .i64 0,.slice Ao29 y154.length co29] 26 (0,0)) (by(with_reducible repeat(first|refine aJ ?_ _|refine aK ?_|refine aI ?_ _));exact BK157.out) hb)
     have n15_:=aM (bF (g:=gb184) (o:= .cells #[.slice Ao51 t176.length co51,.bool t179] 31 (0,0)) (by(with_reducible repeat(first|refine aJ ?_ _|refine aK ?_|refine aI ?_ _));exact BK184.out) hb)
     have n16_:=aM (bG (by repeat(first|(with_reducible first|exact HB.out|apply aN|apply aP|apply aO|refine aL ?_ GE157.out|refine aL ?_ GE184.out)|exact HB.out)) hb)
     clear HO147
     clear HO150
     clear HO156
     clear HO163
     clear HO166
     clear HO169
     clear HO174
     clear HO178
     clear HO182
     clear HO187
     clear HO190
     clear HO195
     clear HO199
     clear HO203
     clear BK157
     clear BK184
     clear HB
     have HO147:=n0_
     have HO150:=n1_
     have HO156:=n2_
     have HO163:=n3_
     have HO166:=n4_
     have HO169:=n5_
     have HO174:=n6_
     have HO178:=n7_
     have HO182:=n8_
     have HO187:=n9_
     have HO190:=n10_
     have HO195:=n11_
     have HO199:=n12_
     have HO203:=n13_
     have BK157:=n14_
     have BK184:=n15_
     have HB:=n16_
     clear n0_ n1_ n2_ n3_ n4_ n5_ n6_ n7_ n8_ n9_ n10_ n11_ n12_ n13_ n14_ n15_ n16_
     (try clear hb);(try clear hb2);(try clear hk);(try clear hi)
     refine hK.out _ _ ⟨(aG BK184.out 0).trans rfl,(aG BK184.out 1).trans rfl,(aG BK157.out 0).trans rfl,(aG BK157.out 1).trans rfl,(aG BK157.out 2).trans rfl,(aG BK157.out 3).trans rfl,(aG BK157.out 4).trans rfl⟩ (fun hHeld=>?_)
     clear hK K
     refine norm_ (a':=?_) ?_ ?_
     rotate_left
     ·show Act.put _ (some 66) _=_
      simp only [pq]
      rfl
     refine pure_ (i:=20) (N:=some 67) (v:=?_) (a':=?_) #[T,T,T,T,T,T,T,T,T,T,T,T,T,T,T,T,T,T,T,T,T,F,F,F,F,F,F,F,F,F,F,F,F,F,F,F,F,F,F,F] rfl rfl (any_of HT_.out (by kernel_rfl)) (fun _ _ _ h=>h) (Or.inl ⟨by rfl,?_⟩) ?_ ?_
     rotate_left;(intro w';go_simp;with_reducible rfl);rotate_left;(simp only [pq];rfl)
     refine pure_ (i:=21) (N:=some 68) (v:=?_) (a':=?_) #[T,T,T,T,T,T,T,T,T,T,T,T,T,T,T,T,T,T,T,T,T,T,F,F,F,F,F,F,F,F,F,F,F,F,F,F,F,F,F,F] rfl rfl (any_of HT_.out (by kernel_rfl)) (fun _ _ _ h=>h) (Or.inl ⟨by rfl,?_⟩) ?_ ?_
     rotate_left;(intro w';go_simp;with_reducible rfl);rotate_left;(simp only [pq];rfl)
     refine pure_ (i:=22) (N:=some 69) (v:=?_) (a':=?_) #[T,T,T,T,T,T,T,T,T,T,T,T,T,T,T,T,T,T,T,T,T,T,T,F,F,F,F,F,F,F,F,F,F,F,F,F,F,F,F,F] rfl rfl (any_of HT_.out (by kernel_rfl)) (fun _ _ _ h=>h) (Or.inl ⟨by rfl,?_⟩) ?_ ?_
     rotate_left;(intro w';go_simp;with_reducible rfl);rotate_left;(simp only [pq];rfl)
     refine pure_ (i:=23) (N:=some 70) (v:=?_) (a':=?_) #[T,T,T,T,T,T,T,T,T,T,T,T,T,T,T,T,T,T,T,T,T,T,T,T,F,F,F,F,F,F,F,F,F,F,F,F,F,F,F,F] rfl rfl (any_of HT_.out (by kernel_rfl)) (fun _ _ _ h=>h) (Or.inl ⟨by rfl,?_⟩) ?_ ?_
     rotate_left;(intro w';go_simp;with_reducible rfl);rotate_left;(simp only [pq];rfl)
     refine pure_ (i:=24) (N:=some 71) (v:=?_) (a':=?_) #[T,T,T,T,T,T,T,T,T,T,T,T,T,T,T,T,T,T,T,T,T,T,T,T,T,F,F,F,F,F,F,F,F,F,F,F,F,F,F,F] rfl rfl (any_of HT_.out (by kernel_rfl)) (fun _ _ _ h=>h) (Or.inl ⟨by rfl,?_⟩) ?_ ?_
     rotate_left;(intro w';go_simp;with_reducible rfl);rotate_left;(simp only [pq];rfl)
     refine pure_ (i:=25) (N:=some 72) (v:=?_) (a':=?_) #[T,T,T,T,T,T,T,T,T,T,T,T,T,T,T,T,T,T,T,T,T,T,T,T,T,T,F,F,F,F,F,F,F,F,F,F,F,F,F,F] rfl rfl (any_of HT_.out (by kernel_rfl)) (fun _ _ _ h=>h) (Or.inl ⟨by rfl,?_⟩) ?_ ?_
     rotate_left;(intro w';go_simp;with_reducible rfl);rotate_left;(simp only [pq];rfl)
     refine pure_ (i:=26) (N:=some 73) (v:=?_) (a':=?_) #[T,T,T,T,T,T,T,T,T,T,T,T,T,T,T,T,T,T,T,T,T,T,T,T,T,T,T,F,F,F,F,F,F,F,F,F,F,F,F,F] rfl rfl (any_of HT_.out (by kernel_rfl)) (fun _ _ _ h=>h) (Or.inl ⟨by rfl,?_⟩) ?_ ?_
     rotate_left;(intro w';go_simp;with_reducible rfl);rotate_left;(simp only [pq];rfl)
     refine pure_ (i:=27) (N:=some 74) (v:=?_) (a':=?_) #[T,T,T,T,T,T,T,T,T,T,T,T,T,T,T,T,T,T,T,T,T,T,T,T,T,T,T,T,F,F,F,F,F,F,F,F,F,F,F,F] rfl rfl (any_of HT_.out (by kernel_rfl)) (fun _ _ _ h=>h) (Or.inl ⟨by rfl,?_⟩) ?_ ?_
     rotate_left;(intro w';go_simp;with_reducible rfl);rotate_left;(simp only [pq];rfl)
     refine pure_ (i:=28) (N:=some 75) (v:=?_) (a':=?_) #[T,T,T,T,T,T,T,T,T,T,T,T,T,T,T,T,T,T,T,T,T,T,T,T,T,T,T,T,T,F,F,F,F,F,F,F,F,F,F,F] rfl rfl (any_of HT_.out (by kernel_rfl)) (fun _ _ _ h=>h) (Or.inl ⟨by rfl,?_⟩) ?_ ?_
     rotate_left;(intro w';go_simp;with_reducible rfl);rotate_left;(simp only [pq];rfl)
     refine pure_ (i:=29) (N:=some 76) (v:=?_) (a':=?_) #[T,T,T,T,T,T,T,T,T,T,T,T,T,T,T,T,T,T,T,T,T,T,T,T,T,T,T,T,T,T,F,F,F,F,F,F,F,F,F,F] rfl rfl (any_of HT_.out (by kernel_rfl)) (fun _ _ _ h=>h) (Or.inl ⟨by rfl,?_⟩) ?_ ?_
     rotate_left;(intro w';go_simp;with_reducible rfl);rotate_left;(simp only [pq];rfl)
     refine pure_ (i:=31) (N:=some 78) (v:=?_) (a':=?_) #[T,T,T,T,T,T,T,T,T,T,T,T,T,T,T,T,T,T,T,T,T,T,T,T,T,T,T,T,T,T,F,T,F,F,F,F,F,F,F,F] rfl rfl (any_of HT_.out (by kernel_rfl)) (fun _ _ _ h=>h) (Or.inl ⟨by rfl,?_⟩) ?_ ?_
     rotate_left;(intro w';go_simp;with_reducible rfl);rotate_left;(simp only [pq];rfl)
     refine take_ (i:=30) (N:=some 77) (v:=?_) (a':=?_) #[T,T,T,T,T,T,T,T,T,T,T,T,T,T,T,T,T,T,T,T,T,T,T,T,T,T,T,T,T,T,T,T,F,F,F,F,F,F,F,F] rfl rfl (take_ofW HT_.out HW_.out (by kernel_rfl)) (fun _ _ _ h=>h) (Or.inl ⟨by rfl,?_⟩) hHeld ?_ ?_
     rotate_left
     ·rintro w' ⟨s0,s1,s2,s3,s4,s5,s6⟩
      go_simp
      with_reducible rfl
     rotate_left
     ·simp only [pq]
      rfl
     refine one_ (i:=32) (N:=some 79) #[T,T,T,T,T,T,T,T,T,T,T,T,T,T,T,T,T,T,T,T,T,T,T,T,T,T,T,T,T,T,T,T,T,F,F,F,F,F,F,F] rfl rfl (one_of HT_.out (by kernel_rfl)) (by decide) (fun K hK=>?_)
     refine goes_ Try.func25 (by kernel_rfl) rfl #[.agg #[.slice Ao31 y145.length co31,.slice Ao30 y148.length co30,.int .i64 0,.int .i64 0,.slice Ao29 y154.length co29],.slice Ao42 y161.length co42] (by rfl) rfl rfl (by(try simp only [List.map_toArray,List.map_cons,List.map_nil]);first|done|rfl|(simp only [List.length_drop,List.length_take];rfl)) ?_
     with_reducible refine(machine_Right.calls _ _ y145 _ _ y148 0 0 _ _ y154 _ _ y161 true _ ?side1 ?side2 ?side3 ?side4 ?side5 ?side6 ?side7 ?side8 A17.out).mono ?_
     (case side1=>repeat(first|exact(aF HO147.out).2.2|(with_reducible refine Kd.C_alloc ?_ _)|(with_reducible refine Kd.C_drewN ?_ _)|(with_reducible refine Kd.C_drew ?_)))
     (case side2=>exact(aF HO147.out).2.1)
     (case side3=>repeat(first|exact(aT HO150.out).2.2|(with_reducible refine Kd.C_alloc ?_ _)|(with_reducible refine Kd.C_drewN ?_ _)|(with_reducible refine Kd.C_drew ?_)))
     (case side4=>exact(aT HO150.out).2.1)
     (case side5=>repeat(first|exact(aT HO156.out).2.2|(with_reducible refine Kd.C_alloc ?_ _)|(with_reducible refine Kd.C_drewN ?_ _)|(with_reducible refine Kd.C_drew ?_)))
     (case side6=>exact(aT HO156.out).2.1)
     (case side7=>repeat(first|exact(aT HO163.out).2.2|(with_reducible refine Kd.C_alloc ?_ _)|(with_reducible refine Kd.C_drewN ?_ _)|(with_reducible refine Kd.C_drew ?_)))
     (case side8=>exact(aT HO163.out).2.1)
     rintro e w72 ⟨rfl,hb⟩
     refine⟨_,rfl,?_⟩
     have n0_:=aM (aD (by(with_reducible repeat(first|apply aA|apply aB|apply aC));exact HO147.out) hb)
     have n1_:=aM (Kd.N_below (by(with_reducible repeat(first|apply Kd.N_alloc|apply aY|apply aZ));exact HO150.out) hb)
     have n2_:=aM (Kd.N_below (by(with_reducible repeat(first|apply Kd.N_alloc|apply aY|apply aZ));exact HO156.out) hb)
     have n3_:=aM (Kd.N_below (by(with_reducible repeat(first|apply Kd.N_alloc|apply aY|apply aZ));exact HO163.out) hb)
     have n4_:=aM (aD (by(with_reducible repeat(first|apply aA|apply aB|apply aC));exact HO166.out) hb)
     have n5_:=aM (aD (by(with_reducible repeat(first|apply aA|apply aB|apply aC));exact HO169.out) hb)
     have n6_:=aM (aD (by(with_reducible repeat(first|apply aA|apply aB|apply aC));exact HO174.out) hb)
     have n7_:=aM (aD (by(with_reducible repeat(first|apply aA|apply aB|apply aC));exact HO178.out) hb)
     have n8_:=aM (aD (by(with_reducible repeat(first|apply aA|apply aB|apply aC));exact HO182.out) hb)
     have n9_:=aM (aD (by(with_reducible repeat(first|apply aA|apply aB|apply aC));exact HO187.out) hb)
     have n10_:=aM (aD (by(with_reducible repeat(first|apply aA|apply aB|apply aC));exact HO190.out) hb)
     have n11_:=aM (aD (by(with_reducible repeat(first|apply aA|apply aB|apply aC));exact HO195.out) hb)
     have n12_:=aM (aD (by(with_reducible repeat(first|apply aA|apply aB|apply aC));exact HO199.out) hb)
     have n13_:=aM (aD (by(with_reducible repeat(first|apply aA|apply aB|apply aC));exact HO203.out) hb)
     have n14_:=aM (bF (g:=gb157) (o:= .cells #[.slice Ao31 y145.length co31,.slice Ao30 y148.length co30,.int .i64 0,.int .i64 0,.slice Ao29 y154.length co29] 26 (0,0)) (by(with_reducible repeat(first|refine aJ ?_ _|refine aK ?_|refine aI ?_ _));exact BK157.out) hb)
     have n15_:=aM (bF (g:=gb184) (o:= .cells #[.slice Ao51 t176.length co51,.bool t179] 31 (0,0)) (by(with_reducible repeat(first|refine aJ ?_ _|refine aK ?_|refine aI ?_ _));exact BK184.out) hb)
     have n16_:=aM (bG (by repeat(first|(with_reducible first|exact HB.out|apply aN|apply aP|apply aO|refine aL ?_ GE157.out|refine aL ?_ GE184.out)|exact HB.out)) hb)
     clear HO147
     clear HO150
     clear HO156
     clear HO163
     clear HO166
     clear HO169
     clear HO174
     clear HO178
     clear HO182
     clear HO187
     clear HO190
     clear HO195
     clear HO199
     clear HO203
     clear BK157
     clear BK184
     clear HB
     have HO147:=n0_
     have HO150:=n1_
     have HO156:=n2_
     have HO163:=n3_
     have HO166:=n4_
     have HO169:=n5_
     have HO174:=n6_
     have HO178:=n7_
     have HO182:=n8_
     have HO187:=n9_
     have HO190:=n10_
     have HO195:=n11_
     have HO199:=n12_
     have HO203:=n13_
     have BK157:=n14_
     have BK184:=n15_
     have HB:=n16_
     clear n0_ n1_ n2_ n3_ n4_ n5_ n6_ n7_ n8_ n9_ n10_ n11_ n12_ n13_ n14_ n15_ n16_
     (try clear hb);(try clear hb2);(try clear hk);(try clear hi)
     refine hK.out _ _ ⟨(aG BK184.out 0).trans rfl,(aG BK184.out 1).trans rfl,(aG BK157.out 0).trans rfl,(aG BK157.out 1).trans rfl,(aG BK157.out 2).trans rfl,(aG BK157.out 3).trans rfl,(aG BK157.out 4).trans rfl⟩ (fun hHeld=>?_)
     clear hK K
     refine norm_ (a':=?_) ?_ ?_
     rotate_left
     ·show Act.put _ (some 79) _=_
      simp only [pq]
      rfl
     refine pure_ (i:=33) (N:=some 80) (v:=?_) (a':=?_) #[T,T,T,T,T,T,T,T,T,T,T,T,T,T,T,T,T,T,T,T,T,T,T,T,T,T,T,T,T,T,T,T,T,T,F,F,F,F,F,F] rfl rfl (any_of HT_.out (by kernel_rfl)) (fun _ _ _ h=>h) (Or.inl ⟨by rfl,?_⟩) ?_ ?_
     rotate_left;(intro w';go_simp;with_reducible rfl);rotate_left;(simp only [pq];rfl)
     refine pure_ (i:=34) (N:=some 81) (v:=?_) (a':=?_) #[T,T,T,T,T,T,T,T,T,T,T,T,T,T,T,T,T,T,T,T,T,T,T,T,T,T,T,T,T,T,T,T,T,T,T,F,F,F,F,F] rfl rfl (any_of HT_.out (by kernel_rfl)) (fun _ _ _ h=>h) (Or.inl ⟨by rfl,?_⟩) ?_ ?_
     rotate_left;(intro w';go_simp;with_reducible rfl);rotate_left;(simp only [pq];rfl)
     refine take_ (i:=35) (N:=some 82) (v:=?_) (a':=?_) #[T,T,T,T,T,T,T,T,T,T,T,T,T,T,T,T,T,T,T,T,T,T,T,T,T,T,T,T,T,T,T,T,T,T,T,T,F,F,F,F] rfl rfl (take_ofW HT_.out HW_.out (by kernel_rfl)) (fun _ _ _ h=>h) (Or.inl ⟨by rfl,?_⟩) hHeld ?_ ?_
     rotate_left
     ·rintro w' ⟨s0,s1,s2,s3,s4,s5,s6⟩
      go_simp
      with_reducible rfl
     rotate_left
     ·simp only [pq]
      rfl
     refine one_ (i:=36) (N:=some 83) #[T,T,T,T,T,T,T,T,T,T,T,T,T,T,T,T,T,T,T,T,T,T,T,T,T,T,T,T,T,T,T,T,T,T,T,T,T,F,F,F] rfl rfl (one_of HT_.out (by kernel_rfl)) (by decide) (fun K hK=>?_)
     refine goes_ Try.func25 (by kernel_rfl) rfl #[.agg #[.slice Ao31 y145.length co31,.slice Ao30 y148.length co30,.int .i64 0,.int .i64 0,.slice Ao29 y154.length co29],.slice none 0 0] (by rfl) rfl rfl (by(try simp only [List.map_toArray,List.map_cons,List.map_nil]);first|done|rfl|(simp only [List.length_drop,List.length_take];rfl)) ?_
     refine(machine_Right.calls _ _ y145 _ _ y148 0 0 _ _ y154 _ _ ([]:List (List Int)) t207 _ ?side1 ?side2 ?side3 ?side4 ?side5 ?side6 ?side7 ?side8 A19.out).mono ?_
     (case side1=>repeat(first|exact(aF HO147.out).2.2|(with_reducible refine Kd.C_alloc ?_ _)|(with_reducible refine Kd.C_drewN ?_ _)|(with_reducible refine Kd.C_drew ?_)))
     (case side2=>exact(aF HO147.out).2.1)
     (case side3=>repeat(first|exact(aT HO150.out).2.2|(with_reducible refine Kd.C_alloc ?_ _)|(with_reducible refine Kd.C_drewN ?_ _)|(with_reducible refine Kd.C_drew ?_)))
     (case side4=>exact(aT HO150.out).2.1)
     (case side5=>repeat(first|exact(aT HO156.out).2.2|(with_reducible refine Kd.C_alloc ?_ _)|(with_reducible refine Kd.C_drewN ?_ _)|(with_reducible refine Kd.C_drew ?_)))
     (case side6=>exact(aT HO156.out).2.1)
     (case side7=>exact Kd.C_nil _ _)
     (case side8=>exact Nat.le_refl _)
     rintro e w73 ⟨rfl,hb⟩
     refine⟨_,rfl,?_⟩
     have n0_:=aM (aD (by(with_reducible repeat(first|apply aA|apply aB|apply aC));exact HO147.out) hb)
     have n1_:=aM (Kd.N_below (by(with_reducible repeat(first|apply Kd.N_alloc|apply aY|apply aZ));exact HO150.out) hb)
     have n2_:=aM (Kd.N_below (by(with_reducible repeat(first|apply Kd.N_alloc|apply aY|apply aZ));exact HO156.out) hb)
     have n3_:=aM (Kd.N_below (by(with_reducible repeat(first|apply Kd.N_alloc|apply aY|apply aZ));exact HO163.out) hb)
     have n4_:=aM (aD (by(with_reducible repeat(first|apply aA|apply aB|apply aC));exact HO166.out) hb)
     have n5_:=aM (aD (by(with_reducible repeat(first|apply aA|apply aB|apply aC));exact HO169.out) hb)
     have n6_:=aM (aD (by(with_reducible repeat(first|apply aA|apply aB|apply aC));exact HO174.out) hb)
     have n7_:=aM (aD (by(with_reducible repeat(first|apply aA|apply aB|apply aC));exact HO178.out) hb)
     have n8_:=aM (aD (by(with_reducible repeat(first|apply aA|apply aB|apply aC));exact HO182.out) hb)
     have n9_:=aM (aD (by(with_reducible repeat(first|apply aA|apply aB|apply aC));exact HO187.out) hb)
     have n10_:=aM (aD (by(with_reducible repeat(first|apply aA|apply aB|apply aC));exact HO190.out) hb)
     have n11_:=aM (aD (by(with_reducible repeat(first|apply aA|apply aB|apply aC));exact HO195.out) hb)
     have n12_:=aM (aD (by(with_reducible repeat(first|apply aA|apply aB|apply aC));exact HO199.out) hb)
     have n13_:=aM (aD (by(with_reducible repeat(first|apply aA|apply aB|apply aC));exact HO203.out) hb)
     have n14_:=aM (bF (g:=gb157) (o:= .cells #[.slice Ao31 y145.length co31,.slice Ao30 y148.length co30,.int .i64 0,.int .i64 0,.slice Ao29 y154.length co29] 26 (0,0)) (by(with_reducible repeat(first|refine aJ ?_ _|refine aK ?_|refine aI ?_ _));exact BK157.out) hb)
     have n15_:=aM (bF (g:=gb184) (o:= .cells #[.slice Ao51 t176.length co51,.bool t179] 31 (0,0)) (by(with_reducible repeat(first|refine aJ ?_ _|refine aK ?_|refine aI ?_ _));exact BK184.out) hb)
     have n16_:=aM (bG (by repeat(first|(with_reducible first|exact HB.out|apply aN|apply aP|apply aO|refine aL ?_ GE157.out|refine aL ?_ GE184.out)|exact HB.out)) hb)
     clear HO147
     clear HO150
     clear HO156
     clear HO163
     clear HO166
     clear HO169
     clear HO174
     clear HO178
     clear HO182
     clear HO187
     clear HO190
     clear HO195
     clear HO199
     clear HO203
     clear BK157
     clear BK184
     clear HB
     have HO147:=n0_
     have HO150:=n1_
     have HO156:=n2_
     have HO163:=n3_
     have HO166:=n4_
     have HO169:=n5_
     have HO174:=n6_
     have HO178:=n7_
     have HO182:=n8_
     have HO187:=n9_
     have HO190:=n10_
     have HO195:=n11_
     have HO199:=n12_
     have HO203:=n13_
     have BK157:=n14_
     have BK184:=n15_
     have HB:=n16_
     clear n0_ n1_ n2_ n3_ n4_ n5_ n6_ n7_ n8_ n9_ n10_ n11_ n12_ n13_ n14_ n15_ n16_
     (try clear hb);(try clear hb2);(try clear hk);(try clear hi)
     refine hK.out _ _ ⟨(aG BK184.out 0).trans rfl,(aG BK184.out 1).trans rfl,(aG BK157.out 0).trans rfl,(aG BK157.out 1).trans rfl,(aG BK157.out 2).trans rfl,(aG BK157.out 3).trans rfl,(aG BK157.out 4).trans rfl⟩ (fun hHeld=>?_)
     clear hK K
     refine norm_ (a':=?_) ?_ ?_
     rotate_left
     ·show Act.put _ (some 83) _=_
      simp only [pq]
      rfl
     refine pure_ (i:=37) (N:=some 84) (v:=?_) (a':=?_) #[T,T,T,T,T,T,T,T,T,T,T,T,T,T,T,T,T,T,T,T,T,T,T,T,T,T,T,T,T,T,T,T,T,T,T,T,T,T,F,F] rfl rfl (any_of HT_.out (by kernel_rfl)) (fun _ _ _ h=>h) (Or.inl ⟨by rfl,?_⟩) ?_ ?_
     rotate_left;(intro w';go_simp;with_reducible rfl);rotate_left;(simp only [pq];rfl)
     refine pure_ (i:=38) (N:=some 85) (v:=?_) (a':=?_) #[T,T,T,T,T,T,T,T,T,T,T,T,T,T,T,T,T,T,T,T,T,T,T,T,T,T,T,T,T,T,T,T,T,T,T,T,T,T,T,F] rfl rfl (any_of HT_.out (by kernel_rfl)) (fun _ _ _ h=>h) (Or.inl ⟨by rfl,?_⟩) ?_ ?_
     rotate_left;(intro w';go_simp;with_reducible rfl);rotate_left;(simp only [pq];rfl)
     refine pure_ (i:=39) (N:=some 0) (v:=?_) (a':=?_) #[T,T,T,T,T,T,T,T,T,T,T,T,T,T,T,T,T,T,T,T,T,T,T,T,T,T,T,T,T,T,T,T,T,T,T,T,T,T,T,T] rfl rfl (any_of HT_.out (by kernel_rfl)) (fun _ _ _ h=>h) (Or.inl ⟨by rfl,?_⟩) ?_ ?_
     rotate_left;(intro w';go_simp;with_reducible rfl);rotate_left;(simp only [pq];rfl)
     refine done_ (done_of HT_.out (by kernel_rfl)) ?_
     try go_wp2
     go_ret
     exact⟨by first|rfl|(simp [errW_none,errW_some]<;>rfl)|(simp [*,errW_none,errW_some]<;>rfl),by repeat(first|(with_reducible first|exact HB.out|apply aN|apply aP|apply aO|refine aL ?_ GE157.out|refine aL ?_ GE184.out)|exact HB.out)⟩
    ·replace c18:=Bool.eq_false_iff.mpr c18
     subst c18
     have H1:(none)=some r:=by rw [if_neg (show ¬(false=true) by decide)] at H;exact H
     clear H
     have H:=H1
     clear H1
     exact absurd H (by simp)
   ·replace c14:=Bool.eq_false_iff.mpr c14
    subst c14
    have H1:(none)=some r:=by rw [if_neg (show ¬(false=true) by decide)] at H;exact H
    clear H
    have H:=H1
    clear H1
    exact absurd H (by simp)
  ·replace c11:=Bool.eq_false_iff.mpr c11
   subst c11
   have H1:(none)=some r:=by rw [if_neg (show ¬(false=true) by decide)] at H;exact H
   clear H
   have H:=H1
   clear H1
   exact absurd H (by simp)
 ·replace c8:=Bool.eq_false_iff.mpr c8
  subst c8
  have H1:(none)=some r:=by rw [if_neg (show ¬(false=true) by decide)] at H;exact H
  clear H
  have H:=H1
  clear H1
  exact absurd H (by simp)
end Go.Proofs.Ytapjfnfengefpaa.P
end

section
namespace Go.Proofs.Ytapjfnfengefpaa.P
open Go.RowKit Go.Proofs.YtapjfnfengefpaaW.PrintWords Go.Proofs.YtapjfnfengefpaaW.PrintLast Go.Proofs.YtapjfnfengefpaaW.PrintMore
set_option linter.unusedVariables false
set_option linter.unusedSimpArgs false
def mPick (l:List Int) (at_:Nat) (n:Int):Int:=if l.length<at_+1 then 0 else Int.tmod (l.getD at_ 0) n
theorem wrap_u8 {x:Int}(h0:0≤x) (h1:x≤255):IntKind.i64.wrap x=x:=by rw [IntKind.wrap_i64];omega
theorem wrap_tmod {x n:Int}(h0:0≤x) (h1:x≤255):IntKind.i64.wrap (x.tmod n)=x.tmod n:=by
 have h2:0≤x.tmod n:=Int.tmod_nonneg n h0
 have h3:x.tmod n≤x:=by
  obtain⟨a,rfl⟩:=Int.eq_ofNat_of_zero_le h0
  rcases Int.lt_or_le n 0 with hn|hn
  ·obtain⟨b,hb⟩:=Int.eq_ofNat_of_zero_le (show 0≤ -n by omega)
   have:(a:Int).tmod n=(a:Int).tmod b:=by rw [show n= -(b:Int) by omega,Int.tmod_neg]
   rw [this,←Int.ofNat_tmod]
   exact_mod_cast Nat.mod_le a b
  ·obtain⟨b,rfl⟩:=Int.eq_ofNat_of_zero_le hn
   rw [←Int.ofNat_tmod]
   exact_mod_cast Nat.mod_le a b
 rw [IntKind.wrap_i64];omega
set_option maxHeartbeats 1000000 in
theorem pick_any (l:List Int) (A0:Option Addr) (c0 at_:Nat) (n:Int) (LB AB:Nat) (W:World) (hne:LB≠AB) (hl:W.cell? ⟨LB,0,none⟩=some (.slice A0 l.length c0)) (hab:W.heap[AB]?=some (.cells #[.int .i64 (at_:Int)] 3 (0,0)))
 (hr:∀W',Kept W W' (fun k=>k=AB)→Kd.C (Kd.int .u8) W' A0 l.length l) (hn:n≠0) (hat:at_<1000000) (hu:∀x∈l,0≤x∧x≤255):
 Calls Try.prog 29 #[.int .i64 n,.pointer (some ⟨AB,0,none⟩),.pointer (some ⟨LB,0,none⟩)] W fun e w'=>e= .returned (.int .i64 (mPick l at_ n))∧Aside0 (Kept W w' (fun k=>k=AB))∧Aside0 (w'.heap[AB]?=some (.cells #[.int .i64 ((at_+1:Nat):Int)] 3 (0,0)))∧Aside0 (Below AB W w'):=by
 have ha:W.cell? ⟨AB,0,none⟩=some (.int .i64 (at_:Int)):=(aG hab 0).trans rfl
 have hf:=aH hab 0
 have HA3:=aM (blk_put hab 0 (.int .i64 ((at_:Int)+1)) (cs':=#[.int .i64 ((at_+1:Nat):Int)]) rfl)
 have hK:=Kept.setCell (Kept.refl W (fun k=>k=AB)) (p:=⟨AB,0,none⟩) (.inl rfl) (.int .i64 ((at_:Int)+1))
 have hw1:IntKind.i64.wrap ((at_:Int)+1)=(at_:Int)+1:=by rw [IntKind.wrap_i64];omega
 have hw2:IntKind.i64.wrap ((at_:Int)+1 - 1)=(at_:Int):=by rw [IntKind.wrap_i64];omega
 have hl2:(W.setCell ⟨AB,0,none⟩ (.int .i64 ((at_:Int)+1))).cell? ⟨LB,0,none⟩=some (.slice A0 l.length c0):=Go.Proofs.YtapjfnfengefpaaW.PrintWords.cell_kept hl hK hne
 have ha2:(W.setCell ⟨AB,0,none⟩ (.int .i64 ((at_:Int)+1))).cell? ⟨AB,0,none⟩=some (.int .i64 ((at_:Int)+1)):=World.cell?_setCell_same' _ _ _ (by rw [ha];rfl)
 have HB:Aside0 (Below AB W (W.setCell ⟨AB,0,none⟩ (.int .i64 ((at_:Int)+1)))):=⟨(Below.refl AB W).setCell (Nat.le_refl _) _⟩
 have HK:=aM hK
 have HU:=aM hu
 have HR:=aM hr
 clear hK hu hr hab
 by_cases hlt:l.length<at_+1
 ·have e:mPick l at_ n=0:=if_pos hlt
  rw [e]
  have d0:decide ((at_:Int)+1>(l.length:Int))=true:=decide_eq_true (by omega)
  clear hlt e
  go_enter Try.func29,Try.ntmps29
  go_wp2
  go_ret
  exact⟨rfl,HK,HA3,HB⟩
 ·have e:mPick l at_ n=Int.tmod (l.getD at_ 0) n:=if_neg hlt
  rw [e]
  have d0:decide ((at_:Int)+1>(l.length:Int))=false:=decide_eq_false (by omega)
  obtain⟨ad,ead,hc⟩:=Kd.at_int (HR.out _ HK.out) (at_:Int) (by omega) (by omega)
  cases ead
  have p0:(0≤(at_:Int))=True:=eq_true (by omega)
  have p1:((at_:Int)<(l.length:Int))=True:=eq_true (by omega)
  have hx:=HU.out (l.getD at_ 0) (by rw [List.getD_eq_getElem?_getD,List.getElem?_eq_getElem (by omega)];exact List.getElem_mem _)
  have hx0:rd l (at_:Int)=l.getD at_ 0:=rfl
  rw [hx0] at hc
  generalize l.getD at_ 0=x at hc hx
  have hw3:=wrap_u8 hx.1 hx.2
  have hw4:=wrap_tmod (n:=n) hx.1 hx.2
  rw [Int.toNat_natCast] at hc
  clear hx hx0 hlt e
  go_enter Try.func29,Try.ntmps29
  go_wp2
  go_ret
  exact⟨rfl,HK,HA3,HB⟩
theorem mPick_lt {l:List Int}(hu:∀x∈l,0≤x∧x≤255) (at_:Nat) {n:Int}(hn:0<n):0≤mPick l at_ n∧mPick l at_ n<n:=by
 unfold mPick
 split
 ·omega
 ·have hx:=hu (l.getD at_ 0) (by rw [List.getD_eq_getElem?_getD,List.getElem?_eq_getElem (by omega)];exact List.getElem_mem _)
  exact⟨Int.tmod_nonneg n hx.1,Int.tmod_lt_of_pos _ hn⟩
def mRight (l:List Int) (n t:Int):Nat→Nat→List S43→List S43×Nat
 |0,at_,acc=>(acc,at_)
 |c+1,at_,acc=>mRight l n t c (at_+2) (acc++ [if mPick l at_ 2=0 then⟨true,mPick l (at_+1) t⟩ else⟨false,mPick l (at_+1) n⟩])
def mProds (l:List Int) (n t:Int):Nat→Nat→List S35→List S35
 |0,_,acc=>acc
 |i+1,at_,acc=>mProds l n t i (mRight l n t (mPick l (at_+1) 4).toNat (at_+2) []).2 (acc++ [⟨mPick l at_ n,(mRight l n t (mPick l (at_+1) 4).toNat (at_+2) []).1⟩])
def mNames:List ByteArray:= [⟨#[97]⟩,⟨#[98]⟩,⟨#[99]⟩,⟨#[100]⟩,⟨#[101]⟩]
def mTexts:List ByteArray:= [⟨#[120]⟩,⟨#[121]⟩,⟨#[122]⟩,⟨#[119]⟩]
def mTok (s:ByteArray):S72:=⟨⟨#[]⟩,⟨5,s,[],0,0,[]⟩⟩
def regletlaw13_Made.f (k:Nat) (l:List Int):Option (List ByteArray×List S72×Int×Int×List S35):=
 if l.all (fun x=>decide (0≤x∧x≤255))=true then some (mNames.take (1+mPick l 0 5).toNat,(mTexts.map mTok).take (1+mPick l 1 4).toNat,0,0,mProds l (1+mPick l 0 5) (1+mPick l 1 4) (1+mPick l 2 10).toNat 3 []) else none
structure MadeI (w:World) (A0:Option Addr) (n0 c0:Nat) (at_:Nat) (vn vt vp:Value) (W:World):Prop where
 bel:Below w.heap.size w W
 l:W.heap[w.heap.size]?=some (.cells #[.slice A0 n0 c0] 39 (0,0))
 r:W.heap[w.heap.size+1]?=some (.cells #[.slice none 0 0,.slice none 0 0,.int .i64 0,.int .i64 0,.slice none 0 0] 26 (0,0))
 s:W.heap[w.heap.size+2]?=some (.cells #[vn,vt,.int .i64 0,.int .i64 0,vp] 26 (0,0))
 a:W.heap[w.heap.size+3]?=some (.cells #[.int .i64 (at_:Int)] 3 (0,0))
theorem MadeI.pick {w W W':World}{A0:Option Addr}{n0 c0 at_:Nat}{vn vt vp:Value}(h:MadeI w A0 n0 c0 at_ vn vt vp W) (hk:Kept W W' (fun k=>k=w.heap.size+3)) (ha:W'.heap[w.heap.size+3]?=some (.cells #[.int .i64 ((at_+1:Nat):Int)] 3 (0,0))) (hb:Below (w.heap.size+3) W W'):MadeI w A0 n0 c0 (at_+1) vn vt vp W':=
 ⟨h.bel.trans (hb.mono (by omega)),blk_kept h.l hk (by simp),blk_kept h.r hk (by simp),blk_kept h.s hk (by simp),ha⟩
theorem MadeI.calls {w W:World}{A0:Option Addr}{l:List Int}{c0 at_:Nat}{vn vt vp:Value}(h:MadeI w A0 l.length c0 at_ vn vt vp W) (hr:Kd.C (Kd.int .u8) w A0 l.length l) (n:Int) (hn:n≠0) (hat:at_<1000000) (hu:∀x∈l,0≤x∧x≤255):
 Calls Try.prog 29 #[.int .i64 n,.pointer (some ⟨w.heap.size+3,0,none⟩),.pointer (some ⟨w.heap.size,0,none⟩)] W fun e w'=>e= .returned (.int .i64 (mPick l at_ n))∧Aside0 (MadeI w A0 l.length c0 (at_+1) vn vt vp w')∧Aside0 (Kept W w' (fun k=>k=w.heap.size+3)):=by
 refine(pick_any l A0 c0 at_ n w.heap.size (w.heap.size+3) W (by omega) ((aG h.l 0).trans rfl) h.a (fun W' hk=>?_) hn hat hu).mono ?_
 ·refine Kd.C_kept_came (Kd.heap_int _) hr h.bel (S:=fun k=>k=w.heap.size+3) (fun k hk=>by omega) W' hk
 ·rintro e w' ⟨rfl,hk,ha,hb⟩
  exact⟨rfl,⟨h.pick hk.out ha.out hb.out⟩,hk⟩
theorem miStr:(Try.prog.info? 9).map (fun i=>(i.zero,i.size,i.bytes))=some (some (.string ⟨#[]⟩),1,16):=by kernel_rfl
theorem miSym:(Try.prog.info? 43).map (fun i=>(i.zero,i.size,i.bytes))=some (some (.agg #[.bool false,.int .i64 0]),2,16):=by kernel_rfl
theorem miTok:(Try.prog.info? 72).map (fun i=>(i.zero,i.size,i.bytes))=some (some (.agg #[.string ⟨#[]⟩,.int .i64 0,.string ⟨#[]⟩,.slice none 0 0,.int .i64 0,.int .i64 0,.slice none 0 0]),7,104):=by kernel_rfl
theorem miProd:(Try.prog.info? 35).map (fun i=>(i.zero,i.size,i.bytes))=some (some (.agg #[.int .i64 0,.slice none 0 0]),2,32):=by kernel_rfl
section
variable {w W W':World}{A0:Option Addr}{n0 c0 at_:Nat}{vn vt vp:Value}
theorem MadeI.below (h:MadeI w A0 n0 c0 at_ vn vt vp W) (hb:Below W.heap.size W W'):MadeI w A0 n0 c0 at_ vn vt vp W':=
 ⟨h.bel.trans (hb.mono h.bel.size),(hb.block _ (bN h.l)).trans h.l,(hb.block _ (bN h.r)).trans h.r,(hb.block _ (bN h.s)).trans h.s,(hb.block _ (bN h.a)).trans h.a⟩
theorem MadeI.below4 (h:MadeI w A0 n0 c0 at_ vn vt vp W) (hb:Below (w.heap.size+4) W W'):MadeI w A0 n0 c0 at_ vn vt vp W':=
 ⟨h.bel.trans (hb.mono (by omega)),(hb.block _ (by omega)).trans h.l,(hb.block _ (by omega)).trans h.r,(hb.block _ (by omega)).trans h.s,(hb.block _ (by omega)).trans h.a⟩
theorem MadeI.size (h:MadeI w A0 n0 c0 at_ vn vt vp W):w.heap.size+4≤W.heap.size:=bN h.a
theorem MadeI.put0 (h:MadeI w A0 n0 c0 at_ vn vt vp W) (v:Value):MadeI w A0 n0 c0 at_ v vt vp (W.setCell ⟨w.heap.size+2,0,none⟩ v):=
 ⟨aL h.bel (by simp),blk_far h.l (by simp) _,blk_far h.r (by simp) _,blk_put h.s 0 v rfl,blk_far h.a (by simp) _⟩
theorem MadeI.put1 (h:MadeI w A0 n0 c0 at_ vn vt vp W) (v:Value):MadeI w A0 n0 c0 at_ vn v vp (W.setCell ⟨w.heap.size+2,1,none⟩ v):=
 ⟨aL h.bel (by simp),blk_far h.l (by simp) _,blk_far h.r (by simp) _,blk_put h.s 1 v rfl,blk_far h.a (by simp) _⟩
theorem MadeI.put4 (h:MadeI w A0 n0 c0 at_ vn vt vp W) (v:Value):MadeI w A0 n0 c0 at_ vn vt v (W.setCell ⟨w.heap.size+2,4,none⟩ v):=
 ⟨aL h.bel (by simp),blk_far h.l (by simp) _,blk_far h.r (by simp) _,blk_put h.s 4 v rfl,blk_far h.a (by simp) _⟩
end
theorem set5_kept (W:World) (g:Nat) (v0 v1 v2 v3 v4:Value):Kept W (((((W.setCell ⟨g,0,none⟩ v0).setCell ⟨g,1,none⟩ v1).setCell ⟨g,2,none⟩ v2).setCell ⟨g,3,none⟩ v3).setCell ⟨g,4,none⟩ v4) (fun k=>k=g):=by
 have h0:=Kept.setCell (Kept.refl W (fun k=>k=g)) (p:=⟨g,0,none⟩) (.inl rfl) v0
 have h1:=Kept.setCell h0 (p:=⟨g,1,none⟩) (.inl rfl) v1
 have h2:=Kept.setCell h1 (p:=⟨g,2,none⟩) (.inl rfl) v2
 have h3:=Kept.setCell h2 (p:=⟨g,3,none⟩) (.inl rfl) v3
 exact Kept.setCell h3 (p:=⟨g,4,none⟩) (.inl rfl) v4
theorem set5_below {w W:World}{g:Nat}(h:Below w.heap.size w W) (hg:w.heap.size≤g) (v0 v1 v2 v3 v4:Value):Below w.heap.size w (((((W.setCell ⟨g,0,none⟩ v0).setCell ⟨g,1,none⟩ v1).setCell ⟨g,2,none⟩ v2).setCell ⟨g,3,none⟩ v3).setCell ⟨g,4,none⟩ v4):=by
 have h0:=aL (j:=0) (v:=v0) h hg
 have h1:=aL (j:=1) (v:=v1) h0 hg
 have h2:=aL (j:=2) (v:=v2) h1 hg
 have h3:=aL (j:=3) (v:=v3) h2 hg
 exact aL (j:=4) (v:=v4) h3 hg
theorem name_at (i:Nat) (h:i<5):([Value.string ⟨#[97]⟩,Value.string ⟨#[98]⟩,Value.string ⟨#[99]⟩,Value.string ⟨#[100]⟩,Value.string ⟨#[101]⟩]:List Value)[i]?=some (.string (mNames.getD i ⟨#[]⟩)):=by
 match i,h with
 |0,_=>rfl
 |1,_=>rfl
 |2,_=>rfl
 |3,_=>rfl
 |4,_=>rfl
theorem text_at (i:Nat) (h:i<4):([Value.string ⟨#[120]⟩,Value.string ⟨#[121]⟩,Value.string ⟨#[122]⟩,Value.string ⟨#[119]⟩]:List Value)[i]?=some (.string (mTexts.getD i ⟨#[]⟩)):=by
 match i,h with
 |0,_=>rfl
 |1,_=>rfl
 |2,_=>rfl
 |3,_=>rfl
theorem take_next {α:Type}(xs:List α) (d:α) (i:Nat) (h:i<xs.length):xs.take i++ [xs.getD i d]=xs.take (i+1):=by
 rw [List.take_add_one,List.getD_eq_getElem?_getD,List.getElem?_eq_getElem h];rfl
set_option maxHeartbeats 4000000 in
set_option maxRecDepth 100000 in
theorem regletlaw13_Made.calls (k:Nat) (A0:Option Addr) (c0:Nat) (l0:List Int) (r1:List ByteArray) (r2:List S72) (r3 r4:Int) (r5:List S35) (w:World) (hr0:Kd.C (Kd.int .u8) w A0 l0.length l0) (hc0:l0.length≤c0) (h:regletlaw13_Made.f k l0=some (r1,r2,r3,r4,r5)):
 Calls Try.prog 13 #[.slice A0 l0.length c0] w fun e w'=>∃v0_ v1_ v2_:Value,e= .returned (.agg #[v0_,v1_,.int .i64 r3,.int .i64 r4,v2_])∧Kd.R Kd.string 9 w' w.heap.size (fun _=>True) v0_ r1∧Kd.R k72 72 w' w.heap.size (fun _=>True) v1_ r2∧Kd.S k35 35 w' w.heap.size (fun _=>True) v2_ r5∧Below w.heap.size w w':=by
 unfold regletlaw13_Made.f at h
 split at h
 case isFalse=>simp at h
 rename_i hall
 have hu:∀x∈l0,0≤x∧x≤255:=fun x hx=>of_decide_eq_true (List.all_eq_true.1 hall x hx)
 obtain⟨h1,h2⟩:=Prod.mk.inj (Option.some.inj h)
 obtain⟨h2,h3⟩:=Prod.mk.inj h2
 obtain⟨h3,h4⟩:=Prod.mk.inj h3
 obtain⟨h4,h5⟩:=Prod.mk.inj h4
 subst h1 h2 h3 h4 h5
 have HU:=aM hu
 have HR0:=aM hr0
 clear h hall hu hr0 hc0
 clear h2 h3 h4
 have hI0:MadeI w A0 l0.length c0 0 (.slice none 0 0) (.slice none 0 0) (.slice none 0 0) ((((w.alloc (.cells #[.slice A0 l0.length c0] 39)).alloc (.cells #[.slice none 0 0,.slice none 0 0,.int .i64 0,.int .i64 0,.slice none 0 0] 26)).alloc (.cells #[.slice none 0 0,.slice none 0 0,.int .i64 0,.int .i64 0,.slice none 0 0] 26)).alloc (.cells #[.int .i64 0] 3)):=by
  refine⟨aN (aN (aN (aN (Below.refl _ w) _) _) _) _,?_,?_,?_,?_⟩
  ·exact aI (aI (aI (heap_alloc_new w _) _) _) _
  ·have h:=heap_alloc_new (w.alloc (.cells #[.slice A0 l0.length c0] 39)) (.cells #[.slice none 0 0,.slice none 0 0,.int .i64 0,.int .i64 0,.slice none 0 0] 26)
   rw [World.size_alloc] at h
   exact aI (aI h _) _
  ·have h:=heap_alloc_new ((w.alloc (.cells #[.slice A0 l0.length c0] 39)).alloc (.cells #[.slice none 0 0,.slice none 0 0,.int .i64 0,.int .i64 0,.slice none 0 0] 26)) (.cells #[.slice none 0 0,.slice none 0 0,.int .i64 0,.int .i64 0,.slice none 0 0] 26)
   rw [World.size_alloc,World.size_alloc] at h
   exact aI h _
  ·have h:=heap_alloc_new (((w.alloc (.cells #[.slice A0 l0.length c0] 39)).alloc (.cells #[.slice none 0 0,.slice none 0 0,.int .i64 0,.int .i64 0,.slice none 0 0] 26)).alloc (.cells #[.slice none 0 0,.slice none 0 0,.int .i64 0,.int .i64 0,.slice none 0 0] 26)) (.cells #[.int .i64 0] 3)
   rw [World.size_alloc,World.size_alloc,World.size_alloc] at h
   exact h
 have HI0:=aM hI0
 clear hI0
 have eg:∀args w,(callFunc 29 args).run Try.prog w= .ok (.enter 29 args) w:=enters_of Try.func29 (by kernel_rfl) rfl
 have hp0:=mPick_lt HU.out 0 (n:=5) (by decide)
 have hp1:=mPick_lt HU.out 1 (n:=4) (by decide)
 have hp2:=mPick_lt HU.out 2 (n:=10) (by decide)
 obtain⟨m,em,hm1,hm5⟩:∃m:Nat,1+mPick l0 0 5=(m:Int)∧1≤m∧m≤5:=⟨(1+mPick l0 0 5).toNat,by omega,by omega,by omega⟩
 obtain⟨q,eq_,hq1,hq4⟩:∃q:Nat,1+mPick l0 1 4=(q:Int)∧1≤q∧q≤4:=⟨(1+mPick l0 1 4).toNat,by omega,by omega,by omega⟩
 obtain⟨c,ec,hc1,hc10⟩:∃c:Nat,1+mPick l0 2 10=(c:Int)∧1≤c∧c≤10:=⟨(1+mPick l0 2 10).toNat,by omega,by omega,by omega⟩
 simp only [em,eq_,ec,Int.toNat_natCast]
 have EM:=aM em
 have EQ:=aM eq_
 have EC:=aM ec
 clear em eq_ ec hp0 hp1 hp2
 go_enter Try.func13,Try.ntmps13
 go_upto_region 4 with fail
 simp only [Nat.add_assoc,Nat.reduceAdd]
 generalize ((((w.alloc (.cells #[.slice A0 l0.length c0] 39)).alloc (.cells #[.slice none 0 0,.slice none 0 0,.int .i64 0,.int .i64 0,.slice none 0 0] 26)).alloc (.cells #[.slice none 0 0,.slice none 0 0,.int .i64 0,.int .i64 0,.slice none 0 0] 26)).alloc (.cells #[.int .i64 0] 3))=W0 at HI0 ⊢
 go_cut [6,7] from 14 (fun s6 s7 wc=>s6= .int .i64 (m:Int)∧s7= .int .i64 (q:Int)∧Aside0 (MadeI w A0 l0.length c0 2 (.slice none 0 0) (.slice none 0 0) (.slice none 0 0) wc))
 case first=>
  have P1:=aM (HI0.out.calls HR0.out 5 (by decide) (by decide) HU.out)
  have hw1:IntKind.i64.wrap (1+mPick l0 0 5)=1+mPick l0 0 5:=by have:=mPick_lt HU.out 0 (n:=5) (by decide);rw [IntKind.wrap_i64];omega
  have hw2:IntKind.i64.wrap (1+mPick l0 1 4)=1+mPick l0 1 4:=by have:=mPick_lt HU.out 1 (n:=4) (by decide);rw [IntKind.wrap_i64];omega
  go_wp2_with (first
   |(go_at_fn 29;(with_reducible refine P1.out.mono ?_);rintro e w1 ⟨rfl,HI1,hk1⟩;have P2:=aM (HI1.out.calls HR0.out 4 (by decide) (by decide) HU.out);clear P1)
   |(go_at_fn 29;(with_reducible refine P2.out.mono ?_);rintro e w2 ⟨rfl,HI2,hk2⟩;clear P2))
  go_meet
  case rel=>exact⟨congrArg _ EM.out,congrArg _ EQ.out,HI2⟩
 case rest=>
  obtain⟨rfl,rfl,HI2⟩:=hcut
  obtain⟨w2,ew2⟩:∃w2:World,w2=wc:=⟨_,rfl⟩
  subst ew2
  clear HI0
  have M5:=aM hm5
  have Q4:=aM hq4
  have C10:=aM hc10
  have M1:=aM hm1
  have Q1:=aM hq1
  have C1:=aM hc1
  clear hm5 hq4 hc10 hm1 hq1 hc1
  go_upto_region 5 with fail
  iterate 7 (first|go_values|go_skip|go_guarded|go_step|go_upon|go_back|(simp only [Int.not_lt,Int.not_le] at *;go_simp))
  go_cut [8] from 14 (fun s8 wc=>∃vn:Value,Aside0 (MadeI w A0 l0.length c0 2 vn (.slice none 0 0) (.slice none 0 0) wc)∧Aside0 (Kd.R Kd.string 9 wc (w.heap.size+4) (fun k=>w.heap.size+4≤k) vn (mNames.take m)))
  case first=>
   go_wp2
   go_loopg [8] m (fun kq v8 wr=>∃(i:Nat) (vn:Value),v8= .int .i64 i∧i≤m∧m - i≤kq∧Aside0 (MadeI w A0 l0.length c0 2 vn (.slice none 0 0) (.slice none 0 0) wr)∧Aside0 (Kd.R Kd.string 9 wr (w.heap.size+4) (fun k=>w.heap.size+4≤k) vn (mNames.take i)))
   case atStart=>exact⟨0,.slice none 0 0,rfl,by omega,by omega,HI2,⟨Kd.R_nil _ _ _ _ _⟩⟩
   case round=>
    clear HI2
    obtain⟨i,vn,rfl,hi,hm,HI,HN⟩:=hrel
    by_cases hlt:i<m
    ·have d0:decide (i<m)=true:=decide_eq_true hlt
     have d1:(i<m)=True:=eq_true hlt
     have HLT:=aM hlt
     have HM:=aM hm
     have p0:(0≤(i:Int))=True:=eq_true (by omega)
     have p1:((i:Int)<5)=True:=eq_true (by have:=M5.out;omega)
     have hwr:IntKind.i64.wrap ((i:Int)+1)=(i:Int)+1:=by rw [IntKind.wrap_i64];have:=M5.out;omega
     have H1:=aM (HI.out.below (aO (Below.refl _ wr)))
     have H2:=aM (H1.out.below (aN (Below.refl _ wr.drew) (.cells #[.string ⟨#[97]⟩,.string ⟨#[98]⟩,.string ⟨#[99]⟩,.string ⟨#[100]⟩,.string ⟨#[101]⟩] 9)))
     obtain⟨nm,enm⟩:∃nm:ByteArray,nm=mNames.getD i ⟨#[]⟩:=⟨_,rfl⟩
     have c8:([Value.string ⟨#[97]⟩,Value.string ⟨#[98]⟩,Value.string ⟨#[99]⟩,Value.string ⟨#[100]⟩,Value.string ⟨#[101]⟩]:List Value)[i]?=some (.string nm):=by rw [enm];exact name_at i (by have:=M5.out;omega)
     have ENM:=aM enm
     clear enm
     have HS2:=aM H2.out.size
     clear hlt hm hi
     go_wp2
     refine start_ (n:=10) (S:=fun w'=>w'.cell? ⟨w.heap.size+2,0,none⟩=some vn) (ds:= [9]) #[F,F,F,F,F,F,F,F,F,F] (by kernel_rfl) rfl rfl ((aG HI.out.s 0).trans rfl) (fun hHeld=>?_)
     refine pure_ (i:=0) (N:=some 25) (v:=?_) (a':=?_) #[T,F,F,F,F,F,F,F,F,F] rfl rfl (by kernel_rfl) (fun _ _ _ h=>h) (Or.inl ⟨by rfl,?_⟩) ?_ ?_
     rotate_left;(intro w';go_simp;with_reducible rfl);rotate_left;(simp only [pq];rfl)
     refine pure_ (i:=3) (N:=some 28) (v:=?_) (a':=?_) #[T,F,F,T,F,F,F,F,F,F] rfl rfl (by kernel_rfl) (fun _ _ _ h=>h) (Or.inl ⟨by rfl,?_⟩) ?_ ?_
     rotate_left;(intro w';go_simp;with_reducible rfl);rotate_left;(simp only [pq];rfl)
     refine take_ (i:=1) (N:=some 26) (v:=?_) (a':=?_) #[T,T,F,T,F,F,F,F,F,F] rfl rfl (by kernel_rfl) (fun _ _ _ h=>h) (Or.inl ⟨by rfl,?_⟩) hHeld ?_ ?_
     rotate_left
     ·intro w' s0
      go_simp
      with_reducible rfl
     rotate_left
     ·simp only [pq]
      rfl
     refine one_ (i:=2) (N:=some 27) #[T,T,T,T,F,F,F,F,F,F] rfl rfl (by kernel_rfl) (by decide) (fun K hK=>?_)
     refine value_ (w1:=?_) (v:=?_) (by rfl) rfl ?_ ?_
     rotate_left 2
     ·go_simp
      constructor
      ·rfl
      ·rfl
     refine hK.out _ _ ((aG H2.out.s 0).trans rfl) (fun hHeld=>?_)
     clear hK K
     refine norm_ (a':=?_) ?_ ?_
     rotate_left
     ·show Act.put _ (some 27) _=_
      simp only [pq]
      rfl
     refine pure_ (i:=4) (N:=some 29) (v:=?_) (a':=?_) #[T,T,T,T,T,F,F,F,F,F] rfl rfl (by kernel_rfl) (fun _ _ _ h=>h) (Or.inl ⟨by rfl,?_⟩) ?_ ?_
     rotate_left;(intro w';go_simp;with_reducible rfl);rotate_left;(simp only [pq];rfl)
     refine one_ (i:=5) (N:=some 30) #[T,T,T,T,T,T,F,F,F,F] rfl rfl (by kernel_rfl) (by decide) (fun K hK=>?_)
     refine value_ (w1:=?_) (v:=?_) (by rfl) rfl ?_ ?_
     rotate_left 2
     ·go_simp
      constructor
      ·rfl
      ·rfl
     refine hK.out _ _ (hHeld) (fun hHeld=>?_)
     clear hK K
     refine norm_ (a':=?_) ?_ ?_
     rotate_left
     ·show Act.put _ (some 30) _=_
      simp only [pq]
      rfl
     refine one_ (i:=6) (N:=some 31) #[T,T,T,T,T,T,T,F,F,F] rfl rfl (by kernel_rfl) (by decide) (fun K hK=>?_)
     refine value_ (w1:=?_) (v:=?_) (by rfl) rfl ?_ ?_
     rotate_left 2
     ·go_simp
      constructor
      ·rfl
      ·rfl
     refine hK.out _ _ ((aG (H2.out.below (aN (Below.refl _ _) _)).s 0).trans rfl) (fun hHeld=>?_)
     clear hK K
     refine norm_ (a':=?_) ?_ ?_
     rotate_left
     ·show Act.put _ (some 31) _=_
      simp only [pq]
      rfl
     refine one_ (i:=7) (N:=some 32) #[T,T,T,T,T,T,T,T,F,F] rfl rfl (by kernel_rfl) (by decide) (fun K hK=>?_)
     refine Kd.R_append_step Kd.string (w0:=wr.drew.alloc (.cells #[.string ⟨#[97]⟩,.string ⟨#[98]⟩,.string ⟨#[99]⟩,.string ⟨#[100]⟩,.string ⟨#[101]⟩] 9)) (w.heap.size+4) (by rfl) (.tmp 26) (.tmp 31) 22 9 (.string ⟨#[]⟩) 16 rfl Try.underlying22 miStr rfl (by decide) (by omega) vn (mNames.take i) nm [.string nm] (fun k=>w.heap.size+4≤k) (fun _=>False) rfl (by rw [World.size_alloc];rfl) rfl (fun _ hk=>hk.elim) (fun k hk=>Nat.le_trans HS2.out hk) (aA (aC HN.out) _) (Below.refl _ _) HS2.out (by have:=M5.out;have:=HLT.out;have:=List.length_take_le i mNames;omega) ?_
     intro v1 w1 ho hb hg hat
     obtain⟨An,ln,cn,rfl⟩:∃An ln cn,v1= .slice An ln cn:=by obtain⟨An,cn,e⟩:=Kd.R_slice ho;exact⟨An,_,cn,e⟩
     rw [ENM.out,take_next mNames ⟨#[]⟩ i (by have:=M5.out;have:=HLT.out;show i<5;omega)] at ho
     have H3:=aM (H2.out.below4 hb)
     have HN3:=aM ho
     have f3:=aH H3.out.s 0
     clear ho hb hg hat
     refine hK.out _ _ ((aG H3.out.s 0).trans rfl) (fun hHeld=>?_)
     clear hK K
     refine norm_ (a':=?_) ?_ ?_
     rotate_left
     ·show Act.put _ (some 32) _=_
      simp only [pq]
      rfl
     refine pure_ (i:=8) (N:=some 33) (v:=?_) (a':=?_) #[T,T,T,T,T,T,T,T,T,F] rfl rfl (by kernel_rfl) (fun _ _ _ h=>h) (Or.inl ⟨by rfl,?_⟩) ?_ ?_
     rotate_left;(intro w';go_simp;with_reducible rfl);rotate_left;(simp only [pq];rfl)
     refine last_ (i:=9) (N:=none) #[T,T,T,T,T,T,T,T,T,T] rfl rfl (by kernel_rfl) (by decide) (fun K hK=>?_)
     refine skip_ (w1:=?_) (by rfl) rfl ?_ ?_
     rotate_left
     ·go_simp
      rfl
     refine hK.out _ _ ?_
     clear hK K
     refine done_ (by kernel_rfl) ?_
     go_wp2
     go_roundg (m - (i+1))
     case measure=>have:=HM.out;have:=HLT.out;omega
     case rel=>exact⟨i+1,_,rfl,by have:=HLT.out;omega,Nat.le_refl _,⟨H3.out.put0 _⟩,⟨Kd.R_kept HN3.out (Kept.setCell (Kept.refl _ (fun k=>k=w.heap.size+2)) (.inl rfl) _) (fun k hk=>by omega)⟩⟩
    ·obtain rfl:i=m:=by omega
     have d0:decide ((i:Int)<(i:Int))=false:=decide_eq_false (by omega)
     clear hlt
     go_wp2
     go_meet
     case rel=>exact⟨vn,HI,HN⟩
  case rest=>
   obtain⟨vn,HI3,HN3⟩:=hcut
   obtain⟨w3,ew3⟩:∃w3:World,w3=wc:=⟨_,rfl⟩
   subst ew3
   clear HI2
   have HB3:=aM HI3.out.size
   have HN3b:Aside0 (Kd.R Kd.string 9 w3 (w.heap.size+4) (fun k=>w.heap.size+4≤k∧k<w3.heap.size) vn (mNames.take m)):=⟨Kd.R_mono (Kd.R_bound HN3.out) (fun k hk=>⟨hk.2.1,hk.2.2.1⟩)⟩
   clear HN3
   go_upto_region 9 with fail
   iterate 7 (first|go_values|go_skip|go_guarded|go_step|go_upon|go_back|(simp only [Int.not_lt,Int.not_le] at *;go_simp))
   go_cut [9] from 14 (fun s9 wc=>∃vt:Value,Aside0 (MadeI w A0 l0.length c0 2 vn vt (.slice none 0 0) wc)∧Aside0 (Kept w3 wc (fun k=>k<w.heap.size+4∨w3.heap.size≤k))∧Aside0 (Kd.R k72 72 wc (w.heap.size+4) (fun k=>w3.heap.size≤k) vt ((mTexts.map mTok).take q)))
   case first=>
    go_wp2
    go_loopg [9] q (fun kq v9 wr=>∃(i:Nat) (vt:Value),v9= .int .i64 i∧i≤q∧q - i≤kq∧Aside0 (MadeI w A0 l0.length c0 2 vn vt (.slice none 0 0) wr)∧Aside0 (Kept w3 wr (fun k=>k<w.heap.size+4∨w3.heap.size≤k))∧Aside0 (Kd.R k72 72 wr (w.heap.size+4) (fun k=>w3.heap.size≤k) vt ((mTexts.map mTok).take i)))
    case atStart=>exact⟨0,.slice none 0 0,rfl,by omega,by omega,HI3,⟨Kept.refl _ _⟩,⟨Kd.R_nil _ _ _ _ _⟩⟩
    case round=>
     clear HI3
     obtain⟨i,vt,rfl,hi,hm,HI,HK,HT⟩:=hrel
     by_cases hlt:i<q
     ·have d0:decide (i<q)=true:=decide_eq_true hlt
      have d1:(i<q)=True:=eq_true hlt
      have HLT:=aM hlt
      have HM:=aM hm
      have p0:(0≤(i:Int))=True:=eq_true (by omega)
      have p1:((i:Int)<4)=True:=eq_true (by have:=Q4.out;omega)
      have hwr:IntKind.i64.wrap ((i:Int)+1)=(i:Int)+1:=by rw [IntKind.wrap_i64];have:=Q4.out;omega
      have H1:=aM (HI.out.below (aO (Below.refl _ wr)))
      have H2:=aM (H1.out.below (aN (Below.refl _ wr.drew) (.cells #[.string ⟨#[120]⟩,.string ⟨#[121]⟩,.string ⟨#[122]⟩,.string ⟨#[119]⟩] 9)))
      have HK2:Aside0 (Kept w3 (wr.drew.alloc (.cells #[.string ⟨#[120]⟩,.string ⟨#[121]⟩,.string ⟨#[122]⟩,.string ⟨#[119]⟩] 9)) (fun k=>k<w.heap.size+4∨w3.heap.size≤k)):=⟨Kept.alloc (Kept.drew HK.out) _⟩
      obtain⟨tx,etx⟩:∃tx:ByteArray,tx=mTexts.getD i ⟨#[]⟩:=⟨_,rfl⟩
      have c8:([Value.string ⟨#[120]⟩,Value.string ⟨#[121]⟩,Value.string ⟨#[122]⟩,Value.string ⟨#[119]⟩]:List Value)[i]?=some (.string tx):=by rw [etx];exact text_at i (by have:=Q4.out;omega)
      have ETX:Aside0 (mTok tx=(mTexts.map mTok).getD i (mTok ⟨#[]⟩)):=⟨by rw [etx,List.getD_eq_getElem?_getD,List.getD_eq_getElem?_getD,List.getElem?_map,List.getElem?_eq_getElem (show i<mTexts.length by have:=Q4.out;show i<4;omega)];rfl⟩
      have HS2:=aM H2.out.size
      have HZ2:Aside0 (w3.heap.size≤(wr.drew.alloc (.cells #[.string ⟨#[120]⟩,.string ⟨#[121]⟩,.string ⟨#[122]⟩,.string ⟨#[119]⟩] 9)).heap.size):=⟨HK2.out.1⟩
      clear hlt hm hi etx
      go_wp2
      refine start_ (n:=12) (S:=fun w'=>w'.cell? ⟨w.heap.size+2,1,none⟩=some vt) (ds:= [11]) #[F,F,F,F,F,F,F,F,F,F,F,F] (by kernel_rfl) rfl rfl ((aG HI.out.s 1).trans rfl) (fun hHeld=>?_)
      refine pure_ (i:=0) (N:=some 39) (v:=?_) (a':=?_) #[T,F,F,F,F,F,F,F,F,F,F,F] rfl rfl (by kernel_rfl) (fun _ _ _ h=>h) (Or.inl ⟨by rfl,?_⟩) ?_ ?_
      rotate_left;(intro w';go_simp;with_reducible rfl);rotate_left;(simp only [pq];rfl)
      refine pure_ (i:=3) (N:=some 42) (v:=?_) (a':=?_) #[T,F,F,T,F,F,F,F,F,F,F,F] rfl rfl (by kernel_rfl) (fun _ _ _ h=>h) (Or.inl ⟨by rfl,?_⟩) ?_ ?_
      rotate_left;(intro w';go_simp;with_reducible rfl);rotate_left;(simp only [pq];rfl)
      refine take_ (i:=1) (N:=some 40) (v:=?_) (a':=?_) #[T,T,F,T,F,F,F,F,F,F,F,F] rfl rfl (by kernel_rfl) (fun _ _ _ h=>h) (Or.inl ⟨by rfl,?_⟩) hHeld ?_ ?_
      rotate_left
      ·intro w' s0
       go_simp
       with_reducible rfl
      rotate_left
      ·simp only [pq]
       rfl
      refine one_ (i:=2) (N:=some 41) #[T,T,T,T,F,F,F,F,F,F,F,F] rfl rfl (by kernel_rfl) (by decide) (fun K hK=>?_)
      refine value_ (w1:=?_) (v:=?_) (by rfl) rfl ?_ ?_
      rotate_left 2
      ·go_simp
       constructor
       ·rfl
       ·rfl
      refine hK.out _ _ ((aG H2.out.s 1).trans rfl) (fun hHeld=>?_)
      clear hK K
      refine norm_ (a':=?_) ?_ ?_
      rotate_left
      ·show Act.put _ (some 41) _=_
       simp only [pq]
       rfl
      refine pure_ (i:=4) (N:=some 43) (v:=?_) (a':=?_) #[T,T,T,T,T,F,F,F,F,F,F,F] rfl rfl (by kernel_rfl) (fun _ _ _ h=>h) (Or.inl ⟨by rfl,?_⟩) ?_ ?_
      rotate_left;(intro w';go_simp;with_reducible rfl);rotate_left;(simp only [pq];rfl)
      refine one_ (i:=5) (N:=some 44) #[T,T,T,T,T,T,F,F,F,F,F,F] rfl rfl (by kernel_rfl) (by decide) (fun K hK=>?_)
      refine value_ (w1:=?_) (v:=?_) (by rfl) rfl ?_ ?_
      rotate_left 2
      ·go_simp
       constructor
       ·rfl
       ·rfl
      refine hK.out _ _ (hHeld) (fun hHeld=>?_)
      clear hK K
      refine norm_ (a':=?_) ?_ ?_
      rotate_left
      ·show Act.put _ (some 44) _=_
       simp only [pq]
       rfl
      refine pure_ (i:=6) (N:=some 45) (v:=?_) (a':=?_) #[T,T,T,T,T,T,T,F,F,F,F,F] rfl rfl (by kernel_rfl) (fun _ _ _ h=>h) (Or.inl ⟨by rfl,?_⟩) ?_ ?_
      rotate_left;(intro w';go_simp;with_reducible rfl);rotate_left;(simp only [pq];rfl)
      refine pure_ (i:=7) (N:=some 46) (v:=?_) (a':=?_) #[T,T,T,T,T,T,T,T,F,F,F,F] rfl rfl (by kernel_rfl) (fun _ _ _ h=>h) (Or.inl ⟨by rfl,?_⟩) ?_ ?_
      rotate_left;(intro w';go_simp;with_reducible rfl);rotate_left;(simp only [pq];rfl)
      refine one_ (i:=8) (N:=some 47) #[T,T,T,T,T,T,T,T,T,F,F,F] rfl rfl (by kernel_rfl) (by decide) (fun K hK=>?_)
      refine value_ (w1:=?_) (v:=?_) (by rfl) rfl ?_ ?_
      rotate_left 2
      ·go_simp
       constructor
       ·rfl
       ·rfl
      refine hK.out _ _ ((aG (H2.out.below (aN (Below.refl _ _) _)).s 1).trans rfl) (fun hHeld=>?_)
      clear hK K
      refine norm_ (a':=?_) ?_ ?_
      rotate_left
      ·show Act.put _ (some 47) _=_
       simp only [pq]
       rfl
      refine one_ (i:=9) (N:=some 48) #[T,T,T,T,T,T,T,T,T,T,F,F] rfl rfl (by kernel_rfl) (by decide) (fun K hK=>?_)
      refine Kd.R_append_step k72 (w0:=wr.drew.alloc (.cells #[.string ⟨#[120]⟩,.string ⟨#[121]⟩,.string ⟨#[122]⟩,.string ⟨#[119]⟩] 9)) (w.heap.size+4) (by rfl) (.tmp 40) (.tmp 47) 23 72 (.agg #[.string ⟨#[]⟩,.int .i64 0,.string ⟨#[]⟩,.slice none 0 0,.int .i64 0,.int .i64 0,.slice none 0 0]) 104 rfl Try.underlying23 miTok rfl (by decide) (by omega) vt ((mTexts.map mTok).take i) (mTok tx) [.string ⟨#[]⟩,.int .i64 5,.string tx,.slice none 0 0,.int .i64 0,.int .i64 0,.slice none 0 0] (fun k=>w3.heap.size≤k) (fun _=>False) rfl (by rw [World.size_alloc];rfl) (k72_mkM _ _ _ (mTok tx) (Kd.R_nil _ _ _ _ _) (Kd.R_nil _ _ _ _ _)) (fun _ hk=>hk.elim) (fun k hk=>Nat.le_trans HZ2.out hk) (aA (aC HT.out) _) (Below.refl _ _) HS2.out (by have:=Q4.out;have:=HLT.out;have:=List.length_take_le i (mTexts.map mTok);omega) ?_
      intro v1 w1 ho hb hg hat
      obtain⟨An,ln,cn,rfl⟩:∃An ln cn,v1= .slice An ln cn:=by obtain⟨An,cn,e⟩:=Kd.R_slice ho;exact⟨An,_,cn,e⟩
      rw [ETX.out,take_next (mTexts.map mTok) (mTok ⟨#[]⟩) i (by have:=Q4.out;have:=HLT.out;show i<4;omega)] at ho
      have H3:=aM (H2.out.below4 hb)
      have HK3:=aM (Kept.of_grown hg HK2.out (fun k hk=> .inl (.inr (HT.out.1 k hk))))
      have HT3:=aM ho
      have f3:=aH H3.out.s 1
      clear ho hb hg hat
      refine hK.out _ _ ((aG H3.out.s 1).trans rfl) (fun hHeld=>?_)
      clear hK K
      refine norm_ (a':=?_) ?_ ?_
      rotate_left
      ·show Act.put _ (some 48) _=_
       simp only [pq]
       rfl
      refine pure_ (i:=10) (N:=some 49) (v:=?_) (a':=?_) #[T,T,T,T,T,T,T,T,T,T,T,F] rfl rfl (by kernel_rfl) (fun _ _ _ h=>h) (Or.inl ⟨by rfl,?_⟩) ?_ ?_
      rotate_left;(intro w';go_simp;with_reducible rfl);rotate_left;(simp only [pq];rfl)
      refine last_ (i:=11) (N:=none) #[T,T,T,T,T,T,T,T,T,T,T,T] rfl rfl (by kernel_rfl) (by decide) (fun K hK=>?_)
      refine skip_ (w1:=?_) (by rfl) rfl ?_ ?_
      rotate_left
      ·go_simp
       rfl
      refine hK.out _ _ ?_
      clear hK K
      refine done_ (by kernel_rfl) ?_
      go_wp2
      go_roundg (q - (i+1))
      case measure=>have:=HM.out;have:=HLT.out;omega
      case rel=>exact⟨i+1,_,rfl,by have:=HLT.out;omega,Nat.le_refl _,⟨H3.out.put1 _⟩,⟨Kept.setCell HK3.out (.inl (.inl (by simp))) _⟩,⟨Kd.R_kept HT3.out (Kept.setCell (Kept.refl _ (fun k=>k=w.heap.size+2)) (.inl rfl) _) (fun k hk=>by have:=HB3.out;omega)⟩⟩
     ·obtain rfl:i=q:=by omega
      clear hlt
      go_wp2
      go_meet
      case rel=>exact⟨vt,HI,HK,HT⟩
   case rest=>
    obtain⟨vt,HI4,HK4,HT4⟩:=hcut
    obtain⟨w4,ew4⟩:∃w4:World,w4=wc:=⟨_,rfl⟩
    subst ew4
    clear HI3
    have HN4:=aM (Kd.R_kept HN3b.out HK4.out (fun k hk h=>by omega))
    clear HN3b
    go_upto_region 13 with fail
    have P3:=aM (HI4.out.calls HR0.out 10 (by decide) (by decide) HU.out)
    have hw3:IntKind.i64.wrap (1+mPick l0 2 10)=1+mPick l0 2 10:=by have:=EC.out;have:=C10.out;rw [IntKind.wrap_i64];omega
    go_cut [10] from 14 (fun s10 wc=>s10= .int .i64 (c:Int)∧Aside0 (MadeI w A0 l0.length c0 3 vn vt (.slice none 0 0) wc)∧Aside0 (Kept w4 wc (fun k=>k<w.heap.size+4∨w4.heap.size≤k)))
    case first=>
     go_wp2_with (first
      |(go_at_fn 29;(with_reducible refine P3.out.mono ?_);rintro e w5 ⟨rfl,HI5,HK5⟩;clear P3))
     go_meet
     case rel=>exact⟨congrArg _ EC.out,HI5,⟨Kept.mono HK5.out (fun k hk=> .inl (by omega))⟩⟩
    case rest=>
     obtain⟨rfl,HI5,HK5⟩:=hcut
     obtain⟨w5,ew5⟩:∃w5:World,w5=wc:=⟨_,rfl⟩
     subst ew5
     clear P3 hw3 HI4
     have HS4:Aside0 (w.heap.size+4≤w4.heap.size):=⟨by have:=HK4.out.1;have:=HB3.out;omega⟩
     go_wp2
     go_loopg [10,11,12] c (fun kq v10 v11 v12 wr=>∃(i at_:Nat) (vp:Value) (acc:List S35),v10= .int .i64 (i:Int)∧i≤kq∧Aside0 (acc.length+i=c)∧Aside0 (at_+8 * i≤3+8 * c)∧Aside0 (mProds l0 m q i at_ acc=mProds l0 m q c 3 [])∧Aside0 (MadeI w A0 l0.length c0 at_ vn vt vp wr)∧Aside0 (Kept w4 wr (fun k=>k<w.heap.size+4∨w4.heap.size≤k))∧Aside0 (Kd.S k35 35 wr (w.heap.size+4) (fun k=>w4.heap.size≤k) vp acc))
     case atStart=>exact⟨c,3,.slice none 0 0,[],rfl,by omega,⟨by simp⟩,⟨by omega⟩,⟨rfl⟩,HI5,HK5,⟨Kd.S_nil _ _ _ _ _⟩⟩
     case round=>
      clear HI5 HK5
      obtain⟨i,at_,vp,acc,rfl,hi,HL,HAT,HM,HI,HK,HP⟩:=hrel
      cases i with
      |zero=>
       obtain⟨An,ln,kn,rfl⟩:∃An ln kn,vn= .slice An ln kn:=by obtain⟨An,cn,e⟩:=Kd.R_slice HN4.out;exact⟨An,_,cn,e⟩
       obtain⟨At,lt,kt,rfl⟩:∃At lt kt,vt= .slice At lt kt:=by obtain⟨An,cn,e⟩:=Kd.R_slice HT4.out;exact⟨An,_,cn,e⟩
       obtain⟨Ap,lp,kp,rfl⟩:∃Ap lp kp,vp= .slice Ap lp kp:=by obtain⟨An,cn,e⟩:=Kd.S_slice HP.out;exact⟨An,_,cn,e⟩
       obtain⟨q0,q1,q2,q3,q4⟩:wr.cell? ⟨w.heap.size+2,0,none⟩=some (.slice An ln kn)∧wr.cell? ⟨w.heap.size+2,1,none⟩=some (.slice At lt kt)∧wr.cell? ⟨w.heap.size+2,2,none⟩=some (.int .i64 0)∧wr.cell? ⟨w.heap.size+2,3,none⟩=some (.int .i64 0)∧wr.cell? ⟨w.heap.size+2,4,none⟩=some (.slice Ap lp kp):=⟨(aG HI.out.s 0).trans rfl,(aG HI.out.s 1).trans rfl,(aG HI.out.s 2).trans rfl,(aG HI.out.s 3).trans rfl,(aG HI.out.s 4).trans rfl⟩
       obtain⟨q5,q6,q7,q8,q9⟩:wr.cell? ⟨w.heap.size+1,0,none⟩=some (.slice none 0 0)∧wr.cell? ⟨w.heap.size+1,1,none⟩=some (.slice none 0 0)∧wr.cell? ⟨w.heap.size+1,2,none⟩=some (.int .i64 0)∧wr.cell? ⟨w.heap.size+1,3,none⟩=some (.int .i64 0)∧wr.cell? ⟨w.heap.size+1,4,none⟩=some (.slice none 0 0):=⟨(aG HI.out.r 0).trans rfl,(aG HI.out.r 1).trans rfl,(aG HI.out.r 2).trans rfl,(aG HI.out.r 3).trans rfl,(aG HI.out.r 4).trans rfl⟩
       have f5:=aH HI.out.r 0
       have f6:=aH HI.out.r 1
       have f7:=aH HI.out.r 2
       have f8:=aH HI.out.r 3
       have f9:=aH HI.out.r 4
       go_wp2
       refine bodyPost_ret (results_cell_row rfl _ _ (w.heap.size+1) 26 #[.slice An ln kn,.slice At lt kt,.int .i64 0,.int .i64 0,.slice Ap lp kp] (0,0) _ rfl (by refine blk_put (cs:=#[.slice An ln kn,.slice At lt kt,.int .i64 0,.int .i64 0,.slice none 0 0]) ?_ 4 _ rfl;refine blk_put (cs:=#[.slice An ln kn,.slice At lt kt,.int .i64 0,.int .i64 0,.slice none 0 0]) ?_ 3 _ rfl;refine blk_put (cs:=#[.slice An ln kn,.slice At lt kt,.int .i64 0,.int .i64 0,.slice none 0 0]) ?_ 2 _ rfl;refine blk_put (cs:=#[.slice An ln kn,.slice none 0 0,.int .i64 0,.int .i64 0,.slice none 0 0]) ?_ 1 _ rfl;refine blk_put (cs:=#[.slice none 0 0,.slice none 0 0,.int .i64 0,.int .i64 0,.slice none 0 0]) ?_ 0 _ rfl;exact HI.out.r) Try.underlying26 rfl (by kernel_rfl)) rfl ?_
       have hS34:w3.heap.size≤w4.heap.size:=HK4.out.1
       refine⟨_,_,_,rfl,?_,?_,?_,?_⟩
       ·exact bL (Kd.R_mono (Kd.R_kept (Kd.R_kept HN4.out HK.out (fun k hk h=>by have:=HS4.out;omega)) (set5_kept wr _ _ _ _ _ _) (fun k hk h=>by omega)) (fun _ _=>trivial)) (by omega)
       ·exact bL (Kd.R_mono (Kd.R_kept (Kd.R_kept (Kd.R_mono (ok':=fun k=>w3.heap.size≤k∧k<w4.heap.size) (Kd.R_bound HT4.out) (fun k hk=>⟨hk.1,hk.2.2.1⟩)) HK.out (fun k hk h=>by have:=HB3.out;omega)) (set5_kept wr _ _ _ _ _ _) (fun k hk h=>by have:=HB3.out;omega)) (fun _ _=>trivial)) (by omega)
       ·have hp:=HM.out
        rw [mProds] at hp
        rw [←hp]
        exact Kd.S_lower (Kd.S_mono (Kd.S_kept HP.out (set5_kept wr _ _ _ _ _ _) (fun k hk h=>by have:=HS4.out;omega)) (fun _ _=>trivial)) (by omega)
       ·exact set5_below HI.out.bel (by omega) _ _ _ _ _
      |succ i=>
       have d0:decide (((i+1:Nat):Int)>0)=true:=decide_eq_true (by omega)
       have d0b:(0<((i:Int)+1))=True:=eq_true (by omega)
       have P6:=aM (HI.out.calls HR0.out (m:Int) (by have:=M1.out;omega) (by have:=HAT.out;have:=C10.out;omega) HU.out)
       have hpn:=mPick_lt HU.out (at_+1) (n:=4) (by decide)
       obtain⟨cn,ecn,hcn⟩:∃cn:Nat,mPick l0 (at_+1) 4=(cn:Int)∧cn≤3:=⟨(mPick l0 (at_+1) 4).toNat,by omega,by omega⟩
       have HATB:Aside0 (at_+8 * (i+1)≤83):=⟨by have:=HAT.out;have:=C10.out;omega⟩
       have HCN:=aM hcn
       have ECN:=aM ecn
       clear hpn hcn ecn
       go_wp2_with (first
        |(go_at_fn 29;(with_reducible refine P6.out.mono ?_);rintro e w6 ⟨rfl,HI6,HK6⟩;clear P6;have HI7:=aM (HI6.out.below (aN (Below.refl _ w6) (.cells #[.int .i64 (mPick l0 at_ (m:Int)),.slice none 0 0] 35)));have P7:=aM (HI7.out.calls HR0.out 4 (by decide) (by have:=HATB.out;omega) HU.out);rw [ECN.out] at P7)
        |(go_at_fn 29;(with_reducible refine P7.out.mono ?_);rintro e w7 ⟨rfl,HI8,HK8⟩;clear P7))
       have HB8:=aM (blk_kept (heap_alloc_new w6 (.cells #[.int .i64 (mPick l0 at_ (m:Int)),.slice none 0 0] 35)) HK8.out (fun h=>by have:=HI6.out.size;omega))
       have HSZ6:Aside0 (wr.heap.size≤w6.heap.size∧w.heap.size+4≤wr.heap.size∧w4.heap.size≤wr.heap.size):=⟨HK6.out.1,HI.out.size,HK.out.1⟩
       have HK9:Aside0 (Kept wr w7 (fun k=>k<w.heap.size+4∨wr.heap.size≤k)):=⟨Kept.then_ (Kept.alloc (Kept.mono HK6.out (fun k hk=> .inl (by omega))) (.cells #[.int .i64 (mPick l0 at_ (m:Int)),.slice none 0 0] 35)) HK8.out (fun k hk=> .inl (.inl (by omega)))⟩
       clear HI7 HI6 HK6 HK8
       have HQI:=aM hi
       have hwi:IntKind.i64.wrap (((i+1:Nat):Int) - 1)=(i:Int):=by rw [IntKind.wrap_i64];have:=HL.out;have:=C10.out;omega
       clear hi
       obtain⟨wo,ewo⟩:∃wo:World,wo=wr:=⟨_,rfl⟩
       subst ewo
       go_loopg [12] cn (fun kq v12 wr=>∃(j a2:Nat) (vr:Value) (ar:List S43),v12= .int .i64 (j:Int)∧j≤kq∧Aside0 (ar.length+j=cn)∧Aside0 (a2+2 * j≤at_+2+2 * cn)∧Aside0 (mRight l0 m q j a2 ar=mRight l0 m q cn (at_+2) [])∧Aside0 (MadeI w A0 l0.length c0 a2 vn vt vp wr)∧Aside0 (wr.heap[w6.heap.size]?=some (.cells #[.int .i64 (mPick l0 at_ (m:Int)),vr] 35 (0,0)))∧Aside0 (Kept wo wr (fun k=>k<w.heap.size+4∨wo.heap.size≤k))∧Aside0 (Kd.R k43 43 wr (w.heap.size+4) (fun k=>w6.heap.size<k) vr ar))
       case atStart=>exact⟨cn,at_+2,.slice none 0 0,[],rfl,by omega,⟨by simp⟩,⟨by omega⟩,⟨rfl⟩,HI8,HB8,HK9,⟨Kd.R_nil _ _ _ _ _⟩⟩
       case round=>
        clear HI8 HB8 HK9
        obtain⟨j,a2,vr,ar,rfl,hj,HJL,HA2,HMR,HI8,HB8,HK9,HR8⟩:=hrel
        cases j with
        |zero=>
         have b0:wr.cell? ⟨w6.heap.size,0,none⟩=some (.int .i64 (mPick l0 at_ (m:Int))):=(aG HB8.out 0).trans rfl
         have b1:wr.cell? ⟨w6.heap.size,1,none⟩=some vr:=(aG HB8.out 1).trans rfl
         have q4:wr.cell? ⟨w.heap.size+2,4,none⟩=some vp:=(aG HI8.out.s 4).trans rfl
         have HPB:=aM (Kd.S_kept (Kd.S_mono (ok':=fun k=>w4.heap.size≤k∧k<wo.heap.size) (Kd.S_bound HP.out) (fun k hk=>⟨hk.1,hk.2.2.1⟩)) HK9.out (fun k hk h=>by have:=HS4.out;omega))
         have HKw:=aM (Kept.then_ HK.out HK9.out (fun k hk=>hk.elim (fun h=> .inl (.inl h)) (fun h=> .inl (.inr (by have:=HSZ6.out;omega)))))
         have HSi:=aM HI8.out.size
         have HSw:Aside0 (w4.heap.size≤wr.heap.size):=⟨HKw.out.1⟩
         have HACC:Aside0 (acc.length≤10):=⟨by have:=HL.out;have:=C10.out;omega⟩
         go_wp2_with (first
          |((with_reducible refine gate_builtin (b:= .append) (xs:=#[.tmp 89,.tmp 91]) rfl ?_);at_builtin;refine Kd.S_append k35 (w0:=wr) (w.heap.size+4) rfl (.tmp 89) (.tmp 91) 24 35 (.agg #[.int .i64 0,.slice none 0 0]) 32 rfl Try.underlying24 miProd rfl (by decide) (by omega) vp acc (⟨mPick l0 at_ (m:Int),ar⟩:S35) [.int .i64 (mPick l0 at_ (m:Int)),vr] (fun k=>w4.heap.size≤k) (fun k=>w6.heap.size<k) rfl rfl (k35_mkM _ _ _ (⟨mPick l0 at_ (m:Int),ar⟩:S35) HR8.out) (fun k hk=>⟨by have:=HSZ6.out;omega,fun e=>by have:=(Kd.S_R HPB.out).1 k e.symm;have:=HSZ6.out;omega⟩) (fun k hk=>Nat.le_trans HSw.out hk) (Kd.S_mono HPB.out (fun k hk=>⟨hk.1,by have:=HSZ6.out;omega⟩)) (Below.refl _ _) HSi.out (by have:=HACC.out;omega) ?_;intro v1 w10 ho hb hg hat;obtain⟨Ap,lp,kp,rfl⟩:∃An ln cn,v1= .slice An ln cn:=(by obtain⟨An,cn,e⟩:=Kd.S_slice ho;exact⟨An,_,cn,e⟩);have HI12:=aM (HI8.out.below4 hb);have HK12:=aM (Kept.of_grown hg HKw.out (fun k hk=> .inl (.inr ((Kd.S_R HPB.out).1 k hk).1)));have HS12:=aM ho;have f4:=aH HI12.out.s 4;have q4':w10.cell? ⟨w.heap.size+2,4,none⟩=some vp:=(aG HI12.out.s 4).trans rfl;clear ho hb hg hat q4 b0 b1))
         go_roundg i
         case measure=>have:=HQI.out;omega
         case rel=>exact⟨i,a2,_,acc++ [⟨mPick l0 at_ (m:Int),ar⟩],congrArg (Value.int .i64) (by unfold wrap64;have:=HACC.out;have:=HL.out;have:=C10.out;omega),Nat.le_refl _,⟨by have:=HL.out;simp;omega⟩,⟨by have:=HAT.out;have:=HA2.out;have:=HCN.out;omega⟩,⟨by have h:=HM.out;rw [mProds,ECN.out,Int.toNat_natCast,←HMR.out,mRight] at h;exact h⟩,⟨HI12.out.put4 _⟩,⟨Kept.setCell HK12.out (.inl (.inl (by simp))) _⟩,⟨Kd.S_kept HS12.out (Kept.setCell (Kept.refl _ (fun k=>k=w.heap.size+2)) (.inl rfl) _) (fun k hk h=>by have:=HS4.out;omega)⟩⟩
        |succ j=>
         have d2:(0<((j:Int)+1))=True:=eq_true (by omega)
         have P8:=aM (HI8.out.calls HR0.out 2 (by decide) (by have:=HATB.out;have:=HA2.out;have:=HCN.out;omega) HU.out)
         have HJ:=aM hj
         clear hj
         by_cases hz:mPick l0 a2 2=0
         ·rw [hz] at P8
          go_wp2_with (first
           |(go_at_fn 29;(with_reducible refine P8.out.mono ?_);rintro e w8 ⟨rfl,HI10,HK10⟩;clear P8))
          have HZ:=aM hz
          clear hz
          have HI10d:=aM (HI10.out.below (aO (Below.refl _ w8)))
          have P9:=aM (HI10d.out.calls HR0.out (q:Int) (by have:=Q1.out;omega) (by have:=HATB.out;have:=HA2.out;have:=HCN.out;omega) HU.out)
          obtain⟨x,ex⟩:∃x:Int,x=mPick l0 (a2+1) (q:Int):=⟨_,rfl⟩
          rw [←ex] at P9
          have EX:=aM ex
          have HB10:=aM (blk_kept HB8.out HK10.out (fun h=>by have:=HSZ6.out;omega))
          have HR10:=aM (Kd.R_kept HR8.out HK10.out (fun k hk h=>by have:=HSZ6.out;omega))
          have HK12:=aM (Kept.then_ HK9.out HK10.out (fun k hk=> .inl (.inl (by omega))))
          have HARL:Aside0 (ar.length≤3):=⟨by have:=HJL.out;have:=HCN.out;omega⟩
          clear ex
          refine start_ (n:=10) (S:=fun w'=>w'.cell? ⟨w6.heap.size,1,none⟩=some vr) (ds:= [9]) #[F,F,F,F,F,F,F,F,F,F] (by kernel_rfl) rfl rfl ((aG HB10.out 1).trans rfl) (fun hHeld=>?_)
          refine pure_ (i:=0) (N:=some 70) (v:=?_) (a':=?_) #[T,F,F,F,F,F,F,F,F,F] rfl rfl (by kernel_rfl) (fun _ _ _ h=>h) (Or.inl ⟨by rfl,?_⟩) ?_ ?_
          rotate_left;(intro w';go_simp;with_reducible rfl);rotate_left;(simp only [pq];rfl)
          refine pure_ (i:=2) (N:=some 72) (v:=?_) (a':=?_) #[T,F,T,F,F,F,F,F,F,F] rfl rfl (by kernel_rfl) (fun _ _ _ h=>h) (Or.inl ⟨by rfl,?_⟩) ?_ ?_
          rotate_left;(intro w';go_simp;with_reducible rfl);rotate_left;(simp only [pq];rfl)
          refine pure_ (i:=3) (N:=some 73) (v:=?_) (a':=?_) #[T,F,T,T,F,F,F,F,F,F] rfl rfl (by kernel_rfl) (fun _ _ _ h=>h) (Or.inl ⟨by rfl,?_⟩) ?_ ?_
          rotate_left;(intro w';go_simp;with_reducible rfl);rotate_left;(simp only [pq];rfl)
          refine take_ (i:=1) (N:=some 71) (v:=?_) (a':=?_) #[T,T,T,T,F,F,F,F,F,F] rfl rfl (by kernel_rfl) (fun _ _ _ h=>h) (Or.inl ⟨by rfl,?_⟩) hHeld ?_ ?_
          rotate_left
          ·intro w' s0
           go_simp
           with_reducible rfl
          rotate_left
          ·simp only [pq]
           rfl
          refine one_ (i:=4) (N:=some 74) #[T,T,T,T,T,F,F,F,F,F] rfl rfl (by kernel_rfl) (by decide) (fun K hK=>?_)
          refine call_ 29 #[.int .i64 (q:Int),.pointer (some ⟨w.heap.size+3,0,none⟩),.pointer (some ⟨w.heap.size,0,none⟩)] (by rfl) rfl (by unfold execOp;simp [resolve,Deferred.ofValue,invoke,Act.eval,eg]) ?_
          with_reducible refine P9.out.mono ?_
          rintro e w9 ⟨rfl,HI11,HK11⟩
          refine⟨_,rfl,?_⟩
          have HB11:=aM (blk_kept (W:=w8.drew) HB10.out HK11.out (fun h=>by have:=HSZ6.out;omega))
          have HR11:=aM (Kd.R_kept (aC HR10.out) HK11.out (fun k hk h=>by have:=HSZ6.out;omega))
          have HK13:=aM (Kept.then_ (Kept.drew HK12.out) HK11.out (fun k hk=> .inl (.inl (by omega))))
          have HS11:=aM HI11.out.size
          have HL11:Aside0 (w6.heap.size<w9.heap.size):=⟨bN HB11.out⟩
          refine hK.out _ _ ((aG HB11.out 1).trans rfl) (fun hHeld=>?_)
          clear hK K
          refine norm_ (a':=?_) ?_ ?_
          rotate_left
          ·show Act.put _ (some 74) _=_
           simp only [pq]
           rfl
          refine pure_ (i:=5) (N:=some 75) (v:=?_) (a':=?_) #[T,T,T,T,T,T,F,F,F,F] rfl rfl (by kernel_rfl) (fun _ _ _ h=>h) (Or.inl ⟨by rfl,?_⟩) ?_ ?_
          rotate_left;(intro w';go_simp;with_reducible rfl);rotate_left;(simp only [pq];rfl)
          refine one_ (i:=6) (N:=some 76) #[T,T,T,T,T,T,T,F,F,F] rfl rfl (by kernel_rfl) (by decide) (fun K hK=>?_)
          refine value_ (w1:=?_) (v:=?_) (by rfl) rfl ?_ ?_
          rotate_left 2
          ·go_simp
           constructor
           ·rfl
           ·rfl
          refine hK.out _ _ ((aG (aI HB11.out _) 1).trans rfl) (fun hHeld=>?_)
          clear hK K
          refine norm_ (a':=?_) ?_ ?_
          rotate_left
          ·show Act.put _ (some 76) _=_
           simp only [pq]
           rfl
          refine one_ (i:=7) (N:=some 77) #[T,T,T,T,T,T,T,T,F,F] rfl rfl (by kernel_rfl) (by decide) (fun K hK=>?_)
          refine Kd.R_append_step k43 (w0:=w9) (w.heap.size+4) (by rfl) (.tmp 71) (.tmp 76) 29 43 (.agg #[.bool false,.int .i64 0]) 16 rfl Try.underlying29 miSym rfl (by decide) (by omega) vr ar (⟨true,x⟩:S43) [.bool true,.int .i64 x] (fun k=>w6.heap.size<k) (fun _=>False) rfl rfl (k43_mkM _ _ _ (⟨true,x⟩:S43)) (fun _ hk=>hk.elim) (fun k hk=>Nat.lt_of_lt_of_le HL11.out hk) HR11.out (Below.refl _ _) HS11.out (by have:=HARL.out;omega) ?_
          intro v1 w1 ho hb hg hat
          obtain⟨An,ln,kn,rfl⟩:∃An ln cn,v1= .slice An ln cn:=by obtain⟨An,cn,e⟩:=Kd.R_slice ho;exact⟨An,_,cn,e⟩
          have HI12:=aM (HI11.out.below4 hb)
          have HB12:=aM (blk_grown HB11.out hg (fun e=>Nat.lt_irrefl _ (HR11.out.1 _ e.symm)))
          have HK14:=aM (Kept.of_grown hg HK13.out (fun k hk=> .inl (.inr (by have:=HR11.out.1 k hk;have:=HSZ6.out;omega))))
          have HR12:=aM ho
          have f3:=aH HB12.out 1
          clear ho hb hg hat
          refine hK.out _ _ ((aG HB12.out 1).trans rfl) (fun hHeld=>?_)
          clear hK K
          refine norm_ (a':=?_) ?_ ?_
          rotate_left
          ·show Act.put _ (some 77) _=_
           simp only [pq]
           rfl
          refine pure_ (i:=8) (N:=some 78) (v:=?_) (a':=?_) #[T,T,T,T,T,T,T,T,T,F] rfl rfl (by kernel_rfl) (fun _ _ _ h=>h) (Or.inl ⟨by rfl,?_⟩) ?_ ?_
          rotate_left;(intro w';go_simp;with_reducible rfl);rotate_left;(simp only [pq];rfl)
          refine last_ (i:=9) (N:=none) #[T,T,T,T,T,T,T,T,T,T] rfl rfl (by kernel_rfl) (by decide) (fun K hK=>?_)
          refine skip_ (w1:=?_) (by rfl) rfl ?_ ?_
          rotate_left
          ·go_simp
           rfl
          refine hK.out _ _ ?_
          clear hK K
          refine done_ (by kernel_rfl) ?_
          go_wp2
          go_roundg j
          case measure=>have:=HJ.out;omega
          case rel=>exact⟨j,a2+2,_,ar++ [⟨true,x⟩],congrArg (Value.int .i64) (by unfold wrap64;have:=HJL.out;have:=HCN.out;omega),Nat.le_refl _,⟨by have:=HJL.out;simp;omega⟩,⟨by have:=HA2.out;omega⟩,⟨by have h:=HMR.out;rw [mRight,if_pos HZ.out,←EX.out] at h;exact h⟩,⟨HI12.out.below4 ((Below.refl _ _).setCell (show w.heap.size+4≤w6.heap.size by have:=HSZ6.out;omega) _)⟩,⟨blk_put HB12.out 1 _ rfl⟩,⟨Kept.setCell HK14.out (.inl (.inr (show wo.heap.size≤w6.heap.size from HSZ6.out.1))) _⟩,⟨Kd.R_kept HR12.out (Kept.setCell (Kept.refl _ (fun k=>k=w6.heap.size)) (.inl rfl) _) (fun k hk h=>by omega)⟩⟩
         ·have hzd:(mPick l0 a2 2=0)=False:=eq_false hz
          go_wp2_with (first
           |(go_at_fn 29;(with_reducible refine P8.out.mono ?_);rintro e w8 ⟨rfl,HI10,HK10⟩;clear P8))
          have HZ:=aM hz
          clear hz
          have HI10d:=aM (HI10.out.below (aO (Below.refl _ w8)))
          have P9:=aM (HI10d.out.calls HR0.out (m:Int) (by have:=M1.out;omega) (by have:=HATB.out;have:=HA2.out;have:=HCN.out;omega) HU.out)
          obtain⟨x,ex⟩:∃x:Int,x=mPick l0 (a2+1) (m:Int):=⟨_,rfl⟩
          rw [←ex] at P9
          have EX:=aM ex
          have HB10:=aM (blk_kept HB8.out HK10.out (fun h=>by have:=HSZ6.out;omega))
          have HR10:=aM (Kd.R_kept HR8.out HK10.out (fun k hk h=>by have:=HSZ6.out;omega))
          have HK12:=aM (Kept.then_ HK9.out HK10.out (fun k hk=> .inl (.inl (by omega))))
          have HARL:Aside0 (ar.length≤3):=⟨by have:=HJL.out;have:=HCN.out;omega⟩
          clear ex
          refine start_ (n:=10) (S:=fun w'=>w'.cell? ⟨w6.heap.size,1,none⟩=some vr) (ds:= [9]) #[F,F,F,F,F,F,F,F,F,F] (by kernel_rfl) rfl rfl ((aG HB10.out 1).trans rfl) (fun hHeld=>?_)
          refine pure_ (i:=0) (N:=some 79) (v:=?_) (a':=?_) #[T,F,F,F,F,F,F,F,F,F] rfl rfl (by kernel_rfl) (fun _ _ _ h=>h) (Or.inl ⟨by rfl,?_⟩) ?_ ?_
          rotate_left;(intro w';go_simp;with_reducible rfl);rotate_left;(simp only [pq];rfl)
          refine pure_ (i:=2) (N:=some 81) (v:=?_) (a':=?_) #[T,F,T,F,F,F,F,F,F,F] rfl rfl (by kernel_rfl) (fun _ _ _ h=>h) (Or.inl ⟨by rfl,?_⟩) ?_ ?_
          rotate_left;(intro w';go_simp;with_reducible rfl);rotate_left;(simp only [pq];rfl)
          refine pure_ (i:=3) (N:=some 82) (v:=?_) (a':=?_) #[T,F,T,T,F,F,F,F,F,F] rfl rfl (by kernel_rfl) (fun _ _ _ h=>h) (Or.inl ⟨by rfl,?_⟩) ?_ ?_
          rotate_left;(intro w';go_simp;with_reducible rfl);rotate_left;(simp only [pq];rfl)
          refine take_ (i:=1) (N:=some 80) (v:=?_) (a':=?_) #[T,T,T,T,F,F,F,F,F,F] rfl rfl (by kernel_rfl) (fun _ _ _ h=>h) (Or.inl ⟨by rfl,?_⟩) hHeld ?_ ?_
          rotate_left
          ·intro w' s0
           go_simp
           with_reducible rfl
          rotate_left
          ·simp only [pq]
           rfl
          refine one_ (i:=4) (N:=some 83) #[T,T,T,T,T,F,F,F,F,F] rfl rfl (by kernel_rfl) (by decide) (fun K hK=>?_)
          refine call_ 29 #[.int .i64 (m:Int),.pointer (some ⟨w.heap.size+3,0,none⟩),.pointer (some ⟨w.heap.size,0,none⟩)] (by rfl) rfl (by unfold execOp;simp [resolve,Deferred.ofValue,invoke,Act.eval,eg]) ?_
          with_reducible refine P9.out.mono ?_
          rintro e w9 ⟨rfl,HI11,HK11⟩
          refine⟨_,rfl,?_⟩
          have HB11:=aM (blk_kept (W:=w8.drew) HB10.out HK11.out (fun h=>by have:=HSZ6.out;omega))
          have HR11:=aM (Kd.R_kept (aC HR10.out) HK11.out (fun k hk h=>by have:=HSZ6.out;omega))
          have HK13:=aM (Kept.then_ (Kept.drew HK12.out) HK11.out (fun k hk=> .inl (.inl (by omega))))
          have HS11:=aM HI11.out.size
          have HL11:Aside0 (w6.heap.size<w9.heap.size):=⟨bN HB11.out⟩
          refine hK.out _ _ ((aG HB11.out 1).trans rfl) (fun hHeld=>?_)
          clear hK K
          refine norm_ (a':=?_) ?_ ?_
          rotate_left
          ·show Act.put _ (some 83) _=_
           simp only [pq]
           rfl
          refine pure_ (i:=5) (N:=some 84) (v:=?_) (a':=?_) #[T,T,T,T,T,T,F,F,F,F] rfl rfl (by kernel_rfl) (fun _ _ _ h=>h) (Or.inl ⟨by rfl,?_⟩) ?_ ?_
          rotate_left;(intro w';go_simp;with_reducible rfl);rotate_left;(simp only [pq];rfl)
          refine one_ (i:=6) (N:=some 85) #[T,T,T,T,T,T,T,F,F,F] rfl rfl (by kernel_rfl) (by decide) (fun K hK=>?_)
          refine value_ (w1:=?_) (v:=?_) (by rfl) rfl ?_ ?_
          rotate_left 2
          ·go_simp
           constructor
           ·rfl
           ·rfl
          refine hK.out _ _ ((aG (aI HB11.out _) 1).trans rfl) (fun hHeld=>?_)
          clear hK K
          refine norm_ (a':=?_) ?_ ?_
          rotate_left
          ·show Act.put _ (some 85) _=_
           simp only [pq]
           rfl
          refine one_ (i:=7) (N:=some 86) #[T,T,T,T,T,T,T,T,F,F] rfl rfl (by kernel_rfl) (by decide) (fun K hK=>?_)
          refine Kd.R_append_step k43 (w0:=w9) (w.heap.size+4) (by rfl) (.tmp 80) (.tmp 85) 29 43 (.agg #[.bool false,.int .i64 0]) 16 rfl Try.underlying29 miSym rfl (by decide) (by omega) vr ar (⟨false,x⟩:S43) [.bool false,.int .i64 x] (fun k=>w6.heap.size<k) (fun _=>False) rfl rfl (k43_mkM _ _ _ (⟨false,x⟩:S43)) (fun _ hk=>hk.elim) (fun k hk=>Nat.lt_of_lt_of_le HL11.out hk) HR11.out (Below.refl _ _) HS11.out (by have:=HARL.out;omega) ?_
          intro v1 w1 ho hb hg hat
          obtain⟨An,ln,kn,rfl⟩:∃An ln cn,v1= .slice An ln cn:=by obtain⟨An,cn,e⟩:=Kd.R_slice ho;exact⟨An,_,cn,e⟩
          have HI12:=aM (HI11.out.below4 hb)
          have HB12:=aM (blk_grown HB11.out hg (fun e=>Nat.lt_irrefl _ (HR11.out.1 _ e.symm)))
          have HK14:=aM (Kept.of_grown hg HK13.out (fun k hk=> .inl (.inr (by have:=HR11.out.1 k hk;have:=HSZ6.out;omega))))
          have HR12:=aM ho
          have f3:=aH HB12.out 1
          clear ho hb hg hat
          refine hK.out _ _ ((aG HB12.out 1).trans rfl) (fun hHeld=>?_)
          clear hK K
          refine norm_ (a':=?_) ?_ ?_
          rotate_left
          ·show Act.put _ (some 86) _=_
           simp only [pq]
           rfl
          refine pure_ (i:=8) (N:=some 87) (v:=?_) (a':=?_) #[T,T,T,T,T,T,T,T,T,F] rfl rfl (by kernel_rfl) (fun _ _ _ h=>h) (Or.inl ⟨by rfl,?_⟩) ?_ ?_
          rotate_left;(intro w';go_simp;with_reducible rfl);rotate_left;(simp only [pq];rfl)
          refine last_ (i:=9) (N:=none) #[T,T,T,T,T,T,T,T,T,T] rfl rfl (by kernel_rfl) (by decide) (fun K hK=>?_)
          refine skip_ (w1:=?_) (by rfl) rfl ?_ ?_
          rotate_left
          ·go_simp
           rfl
          refine hK.out _ _ ?_
          clear hK K
          refine done_ (by kernel_rfl) ?_
          go_wp2
          go_roundg j
          case measure=>have:=HJ.out;omega
          case rel=>exact⟨j,a2+2,_,ar++ [⟨false,x⟩],congrArg (Value.int .i64) (by unfold wrap64;have:=HJL.out;have:=HCN.out;omega),Nat.le_refl _,⟨by have:=HJL.out;simp;omega⟩,⟨by have:=HA2.out;omega⟩,⟨by have h:=HMR.out;rw [mRight,if_neg HZ.out,←EX.out] at h;exact h⟩,⟨HI12.out.below4 ((Below.refl _ _).setCell (show w.heap.size+4≤w6.heap.size by have:=HSZ6.out;omega) _)⟩,⟨blk_put HB12.out 1 _ rfl⟩,⟨Kept.setCell HK14.out (.inl (.inr (show wo.heap.size≤w6.heap.size from HSZ6.out.1))) _⟩,⟨Kd.R_kept HR12.out (Kept.setCell (Kept.refl _ (fun k=>k=w6.heap.size)) (.inl rfl) _) (fun k hk h=>by omega)⟩⟩
end Go.Proofs.Ytapjfnfengefpaa.P
end
