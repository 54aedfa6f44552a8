/- Packed texts of this claim: the walks of the functions, and their plain laws; see the claim's last text. -/
import Derived.WalkMore
import Derived.Deep.AppendLies
import Derived.Deep.Cut
import Derived.Deep.CutRange
import Derived.Shelf.Abstract
import Derived.Laws.BitsLemmas
import Derived.Test.YtfdcfihcfegekaaKPredictAny4
section
namespace Go.Proofs.Ytfdcfihcfegekaa.P
open Go.RowKit Go.Proofs.YtfdcfihcfegekaaW.PrintWords Go.Proofs.YtfdcfihcfegekaaW.PrintLast Go.Proofs.YtfdcfihcfegekaaW.PrintMore Go.Proofs.Ytfdcfihcfegekaa.R
set_option linter.unusedVariables false
set_option linter.unusedSimpArgs false
def prStep (b : List (List Bool)) (r look i : Nat) (p : S30) (st : Int × List (S50)) : Int × List (S50) :=
  if p.f0 = (r : Int) ∧ (b.getD i []).getD look false = true then (if st.1 < 0 then ((i : Int),st.2) else (st.1,st.2 ++ [⟨(r : Int),(look : Int),st.1,(i : Int)⟩])) else st
def prIn (b : List (List Bool)) (r look : Nat) : Nat → List (S30) → Int × List (S50) → Int × List (S50)
  | _,[],st => st
  | i,p :: ps,st => prIn b r look (i + 1) ps (prStep b r look i p st)
def prRow (b : List (List Bool)) (ps : List (S30)) (r : Nat) : Nat → Nat → List Int × List (S50) → List Int × List (S50)
  | 0,_,st => st
  | n + 1,look,st => prRow b ps r n (look + 1) (st.1.set look (prIn b r look 0 ps (st.1.getD look 0,st.2)).1,(prIn b r look 0 ps (st.1.getD look 0,st.2)).2)
def prAll (b : List (List Bool)) (ps : List (S30)) : Nat → Nat → List (List Int) × List (S50) → List (List Int) × List (S50)
  | 0,_,st => st
  | n + 1,r,st => prAll b ps n (r + 1) (st.1.set r (prRow b ps r (st.1.getD r []).length 0 (st.1.getD r [],st.2)).1,(prRow b ps r (st.1.getD r []).length 0 (st.1.getD r [],st.2)).2)
theorem prStep_le (b : List (List Bool)) (r look i : Nat) (p : S30) (st : Int × List (S50)) : st.2.length ≤ (prStep b r look i p st).2.length:=by
 unfold prStep;split
 · split <;> simp
 · exact Nat.le_refl _
theorem prIn_le (b : List (List Bool)) (r look : Nat) : ∀ (ps : List (S30)) (i : Nat) (st : Int × List (S50)),st.2.length ≤ (prIn b r look i ps st).2.length
  | [],_,_ => Nat.le_refl _
  | p :: ps,i,st => Nat.le_trans (prStep_le b r look i p st) (prIn_le b r look ps (i + 1) _)
theorem prRow_le (b : List (List Bool)) (ps : List (S30)) (r : Nat) : ∀ (n look : Nat) (st : List Int × List (S50)),st.2.length ≤ (prRow b ps r n look st).2.length
  | 0,_,_ => Nat.le_refl _
  | n + 1,look,st => Nat.le_trans (prIn_le b r look ps 0 (st.1.getD look 0,st.2)) (prRow_le b ps r n (look + 1) (st.1.set look (prIn b r look 0 ps (st.1.getD look 0,st.2)).1,(prIn b r look 0 ps (st.1.getD look 0,st.2)).2))
theorem prAll_le (b : List (List Bool)) (ps : List (S30)) : ∀ (n r : Nat) (st : List (List Int) × List (S50)),st.2.length ≤ (prAll b ps n r st).2.length
  | 0,_,_ => Nat.le_refl _
  | n + 1,r,st => Nat.le_trans (prRow_le b ps r (st.1.getD r []).length 0 (st.1.getD r [],st.2)) (prAll_le b ps n (r + 1) (st.1.set r (prRow b ps r (st.1.getD r []).length 0 (st.1.getD r [],st.2)).1,(prRow b ps r (st.1.getD r []).length 0 (st.1.getD r [],st.2)).2))
theorem prIn_drop (b : List (List Bool)) (r look i : Nat) (ps : List (S30)) (hi : i < ps.length) (st : Int × List (S50)) : prIn b r look i (ps.drop i) st = prIn b r look (i + 1) (ps.drop (i + 1)) (prStep b r look i ps[i] st) := by
 rw [List.drop_eq_getElem_cons hi];rfl
def prOk (b : List (List Bool)) (ps : List (S30)) (out : List (List Int)) : Bool:=decide (ps.length = b.length) && out.all (fun row => decide (row.length ≤ 1000000) && b.all (fun x => decide (row.length ≤ x.length)))
theorem prOk_get {b : List (List Bool)} {ps : List (S30)} {out : List (List Int)} (h : prOk b ps out = true) {r : Nat} (hr : r < out.length) {i : Nat} (hi : i < ps.length) : i < b.length ∧ (out.getD r []).length ≤ 1000000 ∧ (out.getD r []).length ≤ (b.getD i []).length:=by
 unfold prOk at h
 simp only [Bool.and_eq_true,decide_eq_true_eq,List.all_eq_true] at h
 have hb : i < b.length:=by omega
 rw [List.getD_eq_getElem?_getD,List.getElem?_eq_getElem hr,List.getD_eq_getElem?_getD,List.getElem?_eq_getElem hb]
 have:=h.2 _ (List.getElem_mem hr)
 exact ⟨hb,this.1,this.2 _ (List.getElem_mem hb)⟩
theorem prOk_row {b : List (List Bool)} {ps : List (S30)} {out : List (List Int)} (h : prOk b ps out = true) {r : Nat} (hr : r < out.length) : (out.getD r []).length ≤ 1000000:=by
 unfold prOk at h
 simp only [Bool.and_eq_true,decide_eq_true_eq,List.all_eq_true] at h
 rw [List.getD_eq_getElem?_getD,List.getElem?_eq_getElem hr]
 exact (h.2 _ (List.getElem_mem hr)).1
theorem set_set {α : Type} (l : List α) (i : Nat) (x y : α) : (l.set i x).set i y = l.set i y:=by simp
theorem get_set {α : Type} {l : List α} {i : Nat} (x d : α) (h : i < l.length) : (l.set i x).getD i d = x:=by
 rw [List.getD_eq_getElem?_getD,List.getElem?_set_self h];rfl
theorem set_get {α : Type} (l : List α) (i : Nat) (d : α) (h : i < l.length) : l.set i (l.getD i d) = l:=by
 rw [List.getD_eq_getElem?_getD,List.getElem?_eq_getElem h];simp
theorem lens_set {m : List (List Int)} {L : Nat → Nat} (h : ∀ i,(m.getD i []).length = L i) {r : Nat} {row : List Int} (hr : row.length = L r) (i : Nat) : ((m.set r row).getD i []).length = L i:=by
 by_cases hi : r = i
 rotate_left
 · rw [List.getD_eq_getElem?_getD,List.getElem?_set_ne hi,← List.getD_eq_getElem?_getD];exact h i
 subst hi
 by_cases hl : r < m.length
 rotate_left
 · rw [List.set_eq_of_length_le (by omega)];exact h r
 rw [get_set _ _ hl];exact hr
def predict_Predict.f (k : Nat) (l0_0 : List ByteArray) (l0_1 : List (S61)) (a0_2 : Int) (a0_3 : Int) (l0_4 : List (S30)) : Option (List (List Int) × List (S50)) :=
  (firsts_Right.f l0_0 l0_1 a0_2 a0_3 l0_4).bind fun rt => if rt = true then (predict_chosen.f k l0_0 l0_1 a0_2 a0_3 l0_4).bind fun b => (predict_rows.f k l0_0 l0_1 a0_2 a0_3 l0_4).bind fun out => if prOk b l0_4 out = true ∧ l0_4.length ≤ 1000000 ∧ out.length ≤ 1000000 ∧ (prAll b l0_4 out.length 0 (out,[])).2.length ≤ 1000000 then some (prAll b l0_4 out.length 0 (out,[])) else none else some ([],[])
set_option maxHeartbeats 4000000 in
set_option maxRecDepth 100000 in
theorem predict_Predict.calls (k : Nat) (A0_0 : Option Addr) (c0_0 : Nat) (l0_0 : List ByteArray) (A0_1 : Option Addr) (c0_1 : Nat) (l0_1 : List (S61)) (a0_2 : Int) (a0_3 : Int) (A0_4 : Option Addr) (c0_4 : Nat) (l0_4 : List (S30)) (r1 : List (List Int)) (r2 : List (S50)) (w : World) (hr0_0 : Kd.C Kd.string w A0_0 l0_0.length l0_0) (hc0_0 : l0_0.length ≤ c0_0) (hr0_1 : Kd.C k61 w A0_1 l0_1.length l0_1) (hc0_1 : l0_1.length ≤ c0_1) (hr0_4 : Kd.C k30 w A0_4 l0_4.length l0_4) (hc0_4 : l0_4.length ≤ c0_4) (h : predict_Predict.f k l0_0 l0_1 a0_2 a0_3 l0_4 = some (r1,r2)) :
    Calls Try.prog 13 #[.agg #[.slice A0_0 l0_0.length c0_0,.slice A0_1 l0_1.length c0_1,.int .i64 a0_2,.int .i64 a0_3,.slice A0_4 l0_4.length c0_4]] w fun e w' => ∃ v0_ v1_ : Value,e = .returned (.tuple #[v0_,v1_]) ∧ Kd.S (Kd.slice 3 (Kd.int .i64)) 43 w' w.heap.size (fun _ => True) v0_ r1 ∧ Kd.R k50 50 w' w.heap.size (fun _ => True) v1_ r2 ∧ Below w.heap.size w w' := by
 obtain ⟨rt,hrt,h2⟩ := Option.bind_eq_some_iff.1 h
 have HRT:=Aside0.mk hrt
 clear h hrt
 have HA1 : Aside0 (Below w.heap.size w (w.alloc (.cells #[.slice A0_0 l0_0.length c0_0,.slice A0_1 l0_1.length c0_1,.int .i64 a0_2,.int .i64 a0_3,.slice A0_4 l0_4.length c0_4] 26))) := ⟨(Below.refl _ w).alloc (Nat.le_refl _) _⟩
 have HC : Aside0 (∀ W,Below (w.heap.size + 1) (w.alloc (.cells #[.slice A0_0 l0_0.length c0_0,.slice A0_1 l0_1.length c0_1,.int .i64 a0_2,.int .i64 a0_3,.slice A0_4 l0_4.length c0_4] 26)) W → W.cell? ⟨w.heap.size,0,none⟩ = some (.slice A0_0 l0_0.length c0_0) ∧ W.cell? ⟨w.heap.size,1,none⟩ = some (.slice A0_1 l0_1.length c0_1) ∧ W.cell? ⟨w.heap.size,2,none⟩ = some (.int .i64 a0_2) ∧ W.cell? ⟨w.heap.size,3,none⟩ = some (.int .i64 a0_3) ∧ W.cell? ⟨w.heap.size,4,none⟩ = some (.slice A0_4 l0_4.length c0_4)) := ⟨fun W hW => ⟨(hW.cell (p:=⟨w.heap.size,0,none⟩) (by simp)).trans (by simp),(hW.cell (p:=⟨w.heap.size,1,none⟩) (by simp)).trans (by simp),(hW.cell (p:=⟨w.heap.size,2,none⟩) (by simp)).trans (by simp),(hW.cell (p:=⟨w.heap.size,3,none⟩) (by simp)).trans (by simp),(hW.cell (p:=⟨w.heap.size,4,none⟩) (by simp)).trans (by simp)⟩⟩
 cases rt with
 | false =>
  rw [if_neg (by simp)] at h2
  obtain ⟨rfl,rfl⟩ := Prod.mk.inj (Option.some.inj h2)
  clear h2
  go_enter Try.func13,Try.ntmps13
  go_wp2_with (go_at_call 22;(with_reducible refine (firsts_Right.calls A0_0 c0_0 l0_0 A0_1 c0_1 l0_1 a0_2 a0_3 A0_4 c0_4 l0_4 false _ (Kd.C_below hr0_0 HA1.out) hc0_0 (Kd.C_below hr0_1 HA1.out) hc0_1 (Kd.C_below hr0_4 HA1.out) hc0_4 HRT.out).mono ?_);rintro e w1 ⟨rfl,hb1⟩)
  go_ret2
  exact ⟨_,_,rfl,Kd.S_nil _ _ _ _ _,Kd.R_nil _ _ _ _ _,HA1.out.trans (hb1.mono (by simp))⟩
 | true =>
  rw [if_pos rfl] at h2
  obtain ⟨b,hb,h3⟩ := Option.bind_eq_some_iff.1 h2
  obtain ⟨out,hout,h4⟩ := Option.bind_eq_some_iff.1 h3
  split at h4
  case isFalse => cases h4
  rename_i hg
  have hfin:=Option.some.inj h4
  clear h2 h3 h4
  obtain ⟨hok,hps,hon,hbad⟩ := hg
  have HB:=Aside0.mk hb
  have HOUT:=Aside0.mk hout
  have HOK:=Aside0.mk (fun (r : Nat) (hr : r < out.length) (i : Nat) (hi : i < l0_4.length) => prOk_get hok hr hi)
  have HROW:=Aside0.mk (fun (r : Nat) (hr : r < out.length) => prOk_row hok hr)
  have HPS:=Aside0.mk hps
  have HON:=Aside0.mk hon
  have HFIN:=Aside0.mk hfin
  have HBAD : Aside0 (r2.length ≤ 1000000) := ⟨by rw [hfin] at hbad;exact hbad⟩
  have HR0:=Aside0.mk hr0_0
  have HR1:=Aside0.mk hr0_1
  have HR4:=Aside0.mk hr0_4
  have HK0:=Aside0.mk (And.intro hc0_0 (And.intro hc0_1 hc0_4))
  have P1:=Aside0.mk (firsts_Right.calls A0_0 c0_0 l0_0 A0_1 c0_1 l0_1 a0_2 a0_3 A0_4 c0_4 l0_4 true _ (Kd.C_below hr0_0 HA1.out) hc0_0 (Kd.C_below hr0_1 HA1.out) hc0_1 (Kd.C_below hr0_4 HA1.out) hc0_4 HRT.out)
  have P2 : Aside0 (∀ W,Below w.heap.size w W → Calls Try.prog 23 #[.agg #[.slice A0_0 l0_0.length c0_0,.slice A0_1 l0_1.length c0_1,.int .i64 a0_2,.int .i64 a0_3,.slice A0_4 l0_4.length c0_4]] W fun e w' => ∃ v0_ : Value,e = .returned (v0_) ∧ Kd.S (Kd.slice 4 Kd.bool) 65 w' W.heap.size (fun _ => True) v0_ b ∧ Below W.heap.size W w') := ⟨fun W hW => predict_chosen.calls k A0_0 c0_0 l0_0 A0_1 c0_1 l0_1 a0_2 a0_3 A0_4 c0_4 l0_4 b W (Kd.C_below HR0.out hW) HK0.out.1 (Kd.C_below HR1.out hW) HK0.out.2.1 (Kd.C_below HR4.out hW) HK0.out.2.2 HB.out⟩
  have P3 : Aside0 (∀ W,Below w.heap.size w W → Calls Try.prog 24 #[.agg #[.slice A0_0 l0_0.length c0_0,.slice A0_1 l0_1.length c0_1,.int .i64 a0_2,.int .i64 a0_3,.slice A0_4 l0_4.length c0_4]] W fun e w' => ∃ v0_ : Value,e = .returned (v0_) ∧ Kd.S (Kd.slice 3 (Kd.int .i64)) 43 w' W.heap.size (fun _ => True) v0_ out ∧ Below W.heap.size W w') := ⟨fun W hW => predict_rows.calls k A0_0 c0_0 l0_0 A0_1 c0_1 l0_1 a0_2 a0_3 A0_4 c0_4 l0_4 out W (Kd.C_below HR0.out hW) HK0.out.1 (Kd.C_below HR1.out hW) HK0.out.2.1 (Kd.C_below HR4.out hW) HK0.out.2.2 HOUT.out⟩
  clear hb hout hok hps hon hfin hbad hr0_0 hr0_1 hr0_4 hc0_0 hc0_1 hc0_4
  go_enter Try.func13,Try.ntmps13
  go_upto_region 5 with (first
    | (go_at_call 22;(with_reducible refine P1.out.mono ?_);rintro e w1 ⟨rfl,hb1⟩;have HB1:=Aside0.mk hb1;obtain ⟨q0,q1,q2,q3,q4⟩ := HC.out w1 (hb1.mono (by simp));clear P1 hb1)
    | (go_at_call 23;(with_reducible refine (P2.out _ (HA1.out.trans (HB1.out.mono HA1.out.size))).mono ?_);rintro e w2 ⟨v2,rfl,hS2,hb2⟩;have HS2:=Aside0.mk hS2;have HB12:=Aside0.mk hb2;have HB2 : Aside0 (Below w.heap.size w w2) := ⟨(HA1.out.trans (HB1.out.mono HA1.out.size)).trans (hb2.mono (HA1.out.trans (HB1.out.mono HA1.out.size)).size)⟩;have HA2 : Aside0 (Below (w.heap.size + 1) (w.alloc (.cells #[.slice A0_0 l0_0.length c0_0,.slice A0_1 l0_1.length c0_1,.int .i64 a0_2,.int .i64 a0_3,.slice A0_4 l0_4.length c0_4] 26)) w2) := ⟨(HB1.out.mono (by simp)).trans (hb2.mono (by have:=HB1.out.size;simp at this;omega))⟩;clear q0 q1 q2 q3 q4;obtain ⟨q0,q1,q2,q3,q4⟩ := HC.out w2 HA2.out;clear P2 hS2 hb2)
    | (go_at_call 24;(with_reducible refine (P3.out _ HB2.out).mono ?_);rintro e w3 ⟨v3,rfl,hS3,hb3⟩;have HS3:=Aside0.mk hS3;have HB3:=Aside0.mk hb3;clear P3 hS3 hb3))
  obtain ⟨Ab,cb,rfl⟩ := Kd.S_slice HS2.out
  obtain ⟨Ao,co,rfl⟩ := Kd.S_slice HS3.out
  have CB : Aside0 (∀ W,Below w2.heap.size w2 W → Kd.C (Kd.slice 4 Kd.bool) W Ab b.length b) := ⟨fun W hW => Kd.C_below (Kd.S_reads' HS2.out).2.2 hW⟩
  have CP : Aside0 (∀ W,Below w2.heap.size w2 W → Kd.C k30 W A0_4 l0_4.length l0_4) := ⟨fun W hW => Kd.C_below HR4.out (HB2.out.trans (hW.mono HB2.out.size))⟩
  have HQ : Aside0 (∀ W,Below w2.heap.size w2 W → W.cell? ⟨w.heap.size,4,none⟩ = some (.slice A0_4 l0_4.length c0_4)) := ⟨fun W hW => (HC.out W (HA2.out.trans (hW.mono (by have:=HA2.out.size;simp at this;omega)))).2.2.2.2⟩
  clear q0 q1 q2 q3 q4 HS2 HC HA2 HB12 HB1 HA1 HB HOUT HR0 HR1 HR4 HK0 HRT
  have HLO:=(Kd.S_reads' HS3.out).2.1
  have HLO:=Aside0.mk HLO
  have HBASE:=Aside0.mk HB2.out.size
  go_wp2
  go_loopg [3,19] out.length (fun kq v3 v19 wr => ∃ (r : Nat) (m : List (List Int)) (bad : List (S50)),v19 = .int .i64 (r : Int) ∧ r ≤ out.length ∧ out.length - r ≤ kq ∧ Aside0 (prAll b l0_4 (out.length - r) r (m,bad) = (r1,r2)) ∧ Aside0 (m.length = out.length ∧ ∀ i,(m.getD i []).length = (out.getD i []).length) ∧ Aside0 (Kd.S (Kd.slice 3 (Kd.int .i64)) 43 wr w2.heap.size (fun _ => True) (.slice Ao out.length co) m) ∧ Aside0 (Kd.R k50 50 wr w2.heap.size (fun _ => True) v3 bad) ∧ Aside0 (Below w2.heap.size w2 wr))
  case atStart => exact ⟨0,out,[],rfl,by omega,by omega,HFIN,⟨rfl,fun _ => rfl⟩,HS3,⟨Kd.R_nil _ _ _ _ _⟩,HB3⟩
  case round =>
   obtain ⟨r,m,bad,rfl,hr,hkq,HF,HM,HS,HRB,HBR⟩ := hrel
   have hwr : IntKind.i64.wrap ((r : Int) + 1) = (r : Int) + 1:=by rw [IntKind.wrap_i64];have:=HON.out;omega
   by_cases hlt : r < out.length
   · have d0 : decide ((r : Int) < (out.length : Int)) = true:=decide_eq_true (by omega)
     have d1 : decide (r < out.length) = true:=decide_eq_true hlt
     obtain ⟨ado,A6,c6,rfl,hc6,hl6,hC6⟩ := at_rows (Kd.S_reads' HS.out).2.2 (r : Int) (by omega) (by have:=HM.out.1;omega)
     rw [Int.toNat_natCast,HM.out.2 r] at hc6
     have HLT:=Aside0.mk hlt
     have HKQ:=Aside0.mk hkq
     have HC6:=Aside0.mk hc6
     have p0 : (0 ≤ (r : Int)) = True:=eq_true (by omega)
     have p1 : ((r : Int) < (out.length : Int)) = True:=eq_true (by omega)
     have p2 : (r < out.length) = True:=eq_true hlt
     clear hlt hkq hl6 hC6 hr
     obtain ⟨nr,enr⟩ : ∃ nr,nr = (out.getD r []).length:=⟨_,rfl⟩
     have hnr : nr ≤ 1000000:=by rw [enr];exact HROW.out r HLT.out
     have HNR:=Aside0.mk hnr
     have hlens:=HM.out.2
     have HLEN : Aside0 (m.length = out.length ∧ ∀ i,(m.getD i []).length = (out.getD i []).length) := ⟨HM.out⟩
     have HBROW : Aside0 (∀ i,i < l0_4.length → i < b.length ∧ nr ≤ (b.getD i []).length) := ⟨fun i hi => ⟨(HOK.out r HLT.out i hi).1,by rw [enr];exact (HOK.out r HLT.out i hi).2.2⟩⟩
     have HMR : Aside0 ((m.getD r []).length = nr) := ⟨by rw [enr];exact HM.out.2 r⟩
     rw [← enr] at hc6 HC6
     have HENR:=Aside0.mk enr
     have h1 : prAll b l0_4 (out.length - (r + 1)) (r + 1) (m.set r (prRow b l0_4 r nr 0 (m.getD r [],bad)).1,(prRow b l0_4 r nr 0 (m.getD r [],bad)).2) = (r1,r2) := by
      have h:=HF.out
      rw [show out.length - r = out.length - (r + 1) + 1 by have:=HLT.out;omega] at h
      rw [← HMR.out]
      exact h
     obtain ⟨K1,eK1⟩ : ∃ K : List Int × List (S50) → Prop,K = fun x => prAll b l0_4 (out.length - (r + 1)) (r + 1) (m.set r x.1,x.2) = (r1,r2) := ⟨_,rfl⟩
     have HK1 : Aside0 (K1 (prRow b l0_4 r nr 0 (m.getD r [],bad))) := ⟨by rw [eK1];exact h1⟩
     have HB1 : Aside0 (∀ x,K1 x → x.2.length ≤ 1000000) := ⟨fun x hx => by rw [eK1] at hx;have h:=prAll_le b l0_4 (out.length - (r + 1)) (r + 1) (m.set r x.1,x.2);rw [hx] at h;exact Nat.le_trans h HBAD.out⟩
     have EK1:=Aside0.mk eK1
     have HS0 : Aside0 (Kd.S (Kd.slice 3 (Kd.int .i64)) 43 wr w2.heap.size (fun _ => True) (.slice (some ado) out.length co) (m.set r (m.getD r []))) := ⟨by rw [set_get _ _ _ (by have:=HLEN.out.1;have:=HLT.out;omega)];exact HS.out⟩
     clear h1 eK1 enr hnr hlens
     go_wp2
     go_loopg [3,26] nr (fun kq v3 v26 wr => ∃ (look : Nat) (row : List Int) (bad : List (S50)),v26 = .int .i64 (look : Int) ∧ look ≤ nr ∧ nr - look ≤ kq ∧ Aside0 (K1 (prRow b l0_4 r (nr - look) look (row,bad))) ∧ Aside0 (row.length = nr) ∧ Aside0 (Kd.S (Kd.slice 3 (Kd.int .i64)) 43 wr w2.heap.size (fun _ => True) (.slice (some ado) out.length co) (m.set r row)) ∧ Aside0 (Kd.R k50 50 wr w2.heap.size (fun _ => True) v3 bad) ∧ Aside0 (Below w2.heap.size w2 wr) ∧ Aside0 (wr.cell? (ado.add r) = some (.slice A6 nr c6)))
     case atStart => exact ⟨0,m.getD r [],bad,rfl,by omega,by omega,HK1,HMR,HS0,HRB,HBR,HC6⟩
     case round =>
      clear HS HRB HBR HC6 HS0 HK1
      obtain ⟨look,row,bad,rfl,hlk,hkq,HK1,HRL,HS,HRB,HBR,HC6⟩ := hrel
      have hwl : IntKind.i64.wrap ((look : Int) + 1) = (look : Int) + 1:=by rw [IntKind.wrap_i64];have:=HNR.out;omega
      by_cases hlt2 : look < nr
      · have d2 : decide ((look : Int) < (nr : Int)) = true:=decide_eq_true (by omega)
        have d3 : decide (look < nr) = true:=decide_eq_true hlt2
        have HLT2:=Aside0.mk hlt2
        have HKQ2:=Aside0.mk hkq
        clear hlt2 hkq hlk
        obtain ⟨K2,eK2⟩ : ∃ K : Int × List (S50) → Prop,K = fun y => K1 (prRow b l0_4 r (nr - (look + 1)) (look + 1) (row.set look y.1,y.2)) := ⟨_,rfl⟩
        have HK2 : Aside0 (K2 (prIn b r look 0 l0_4 (row.getD look 0,bad))) := ⟨by
         rw [eK2]
         have h:=HK1.out
         rw [show nr - look = nr - (look + 1) + 1 by have:=HLT2.out;omega] at h
         exact h⟩
        have HB2' : Aside0 (∀ y,K2 y → y.2.length ≤ 1000000) := ⟨fun y hy => by rw [eK2] at hy;exact Nat.le_trans (prRow_le b l0_4 r (nr - (look + 1)) (look + 1) (row.set look y.1,y.2)) (HB1.out _ hy)⟩
        have EK2:=Aside0.mk eK2
        have HS0 : Aside0 (Kd.S (Kd.slice 3 (Kd.int .i64)) 43 wr w2.heap.size (fun _ => True) (.slice (some ado) out.length co) (m.set r (row.set look (row.getD look 0)))) := ⟨by rw [set_get _ _ _ (by have:=HRL.out;have:=HLT2.out;omega)];exact HS.out⟩
        have k0 : (0 ≤ (look : Int)) = True:=eq_true (by omega)
        have k1 : ((look : Int) < (nr : Int)) = True:=eq_true (by have:=HLT2.out;omega)
        have k2 : (look < nr) = True:=eq_true HLT2.out
        clear eK2
        obtain ⟨q4⟩ := Aside0.mk (HQ.out wr HBR.out)
        go_wp2
        go_step3
        go_wp2
        go_step3
        go_wp2
        go_loopg [3,32] l0_4.length (fun kq v3 v32 wr => ∃ (i : Nat) (x : Int) (bad : List (S50)),v32 = .int .i64 (i : Int) ∧ i ≤ l0_4.length ∧ l0_4.length - i ≤ kq ∧ Aside0 (K2 (prIn b r look i (l0_4.drop i) (x,bad))) ∧ Aside0 (Kd.S (Kd.slice 3 (Kd.int .i64)) 43 wr w2.heap.size (fun _ => True) (.slice (some ado) out.length co) (m.set r (row.set look x))) ∧ Aside0 (Kd.R k50 50 wr w2.heap.size (fun _ => True) v3 bad) ∧ Aside0 (Below w2.heap.size w2 wr) ∧ Aside0 (wr.cell? (ado.add r) = some (.slice A6 nr c6)))
        case atStart => exact ⟨0,row.getD look 0,bad,rfl,by omega,by omega,HK2,HS0,HRB,HBR,HC6⟩
        case round =>
         clear HS HRB HBR HC6 HS0 HK2 q4
         obtain ⟨i,x,bad,rfl,hii,hkq,HK2,HS,HRB,HBR,HC6⟩ := hrel
         have hwi : IntKind.i64.wrap ((i : Int) + 1) = (i : Int) + 1:=by rw [IntKind.wrap_i64];have:=HPS.out;omega
         by_cases hlt3 : i < l0_4.length
         · have d4 : decide ((i : Int) < (l0_4.length : Int)) = true:=decide_eq_true (by omega)
           have d5 : decide (i < l0_4.length) = true:=decide_eq_true hlt3
           have HLT3:=Aside0.mk hlt3
           have HKQ3:=Aside0.mk hkq
           have i0 : (0 ≤ (i : Int)) = True:=eq_true (by omega)
           have i1 : ((i : Int) < (l0_4.length : Int)) = True:=eq_true (by omega)
           have i2 : (i < l0_4.length) = True:=eq_true hlt3
           clear hlt3 hkq hii
           obtain ⟨hib,hnb⟩ := HBROW.out i HLT3.out
           have j0 : ((i : Int) < (b.length : Int)) = True:=eq_true (by omega)
           have j1 : (i < b.length) = True:=eq_true hib
           have hlk:=HLT2.out
           have j2 : ((look : Int) < ((b.getD i []).length : Int)) = True:=eq_true (by omega)
           have j3 : (look < (b.getD i []).length) = True:=eq_true (by omega)
           obtain ⟨adp,A9,c9,eap,e0,e1,_,hC9⟩ := at_T30 (CP.out wr HBR.out) (i : Int) (by omega) (by have:=HLT3.out;omega)
           rw [Int.toNat_natCast] at e0 e1
           have hrdp : rd_T30 l0_4 (i : Int) = l0_4[i]'HLT3.out:=by simp [rd_T30,HLT3.out]
           rw [hrdp] at e0 e1
           have HSTEP : Aside0 (prIn b r look i (l0_4.drop i) (x,bad) = prIn b r look (i + 1) (l0_4.drop (i + 1)) (prStep b r look i (l0_4[i]'HLT3.out) (x,bad))) := ⟨prIn_drop b r look i l0_4 HLT3.out (x,bad)⟩
           clear hC9 hrdp
           generalize l0_4[i]'HLT3.out = p at e0 e1 HSTEP
           obtain ⟨left,right⟩ := p
           simp only at e0 e1
           cases eap
           go_upto_region 15 with fail
           have HPB : Aside0 ((wr.alloc (.cells #[.int .i64 left,.slice A9 right.length c9] 30)).heap[wr.heap.size]? = some (.cells #[.int .i64 left,.slice A9 right.length c9] 30 (0,0))) := ⟨heap_alloc_new wr _⟩
           have hb5 : Below wr.heap.size wr (wr.alloc (.cells #[.int .i64 left,.slice A9 right.length c9] 30)) := below_alloc (Below.refl _ _) _
           have HBR5 : Aside0 (Below w2.heap.size w2 (wr.alloc (.cells #[.int .i64 left,.slice A9 right.length c9] 30))) := ⟨HBR.out.trans (hb5.mono HBR.out.size)⟩
           have HS5:=Aside0.mk (Kd.S_below HS.out hb5)
           have HRB5:=Aside0.mk (Kd.R_below HRB.out hb5)
           have HC65:=Aside0.mk (pw_cell_below hb5 HC6.out)
           generalize wr.alloc (.cells #[.int .i64 left,.slice A9 right.length c9] 30) = w5 at HPB hb5 HBR5 HS5 HRB5 HC65 ⊢
           generalize wr.heap.size = PB at HPB ⊢
           clear hb5 HS HRB HBR HC6 e0 e1
           obtain ⟨gq,gv,cv,eg,hcg,_,hcx,hfx,hgb,hgl,hgne,hgt,hset⟩ := S_cell HS5.out r look (by rw [List.length_set];have:=HLEN.out.1;have:=HLT.out;omega) (by rw [get_set _ _ (by have:=HLEN.out.1;have:=HLT.out;omega),List.length_set,HRL.out];exact hlk)
           have hml : r < m.length:=by have:=HLEN.out.1;have:=HLT.out;omega
           have hrl : look < row.length:=by rw [HRL.out];exact hlk
           simp only [get_set _ _ hml,List.length_set,HRL.out,get_set _ _ hrl,set_set] at hcg hcx hset
           have HADO : Aside0 (ado = ⟨gq,0,none⟩) := ⟨Option.some.inj eg⟩
           clear eg
           have hc6' : w5.cell? ⟨gq,r,none⟩ = some (.slice A6 nr c6) := by rw [← add_plain,← HADO.out];exact HC65.out
           rw [hc6'] at hcg
           injection hcg with hcg
           injection hcg with hA6 _ hc6e
           subst hA6 hc6e
           obtain ⟨adb,Ar,cr,eab,hcb,_,hCr⟩ := at_rows (CB.out w5 HBR5.out) (i : Int) (by omega) (by omega)
           rw [Int.toNat_natCast] at hcb hCr
           obtain ⟨adr,ear,hcy⟩ := Kd.at_bool hCr (look : Int) (by omega) (by omega)
           rw [Int.toNat_natCast,show rdOf false (b.getD i []) (look : Int) = (b.getD i []).getD look false by simp [rdOf]] at hcy
           cases eab;cases ear
           clear hCr hib hnb hml hrl hc6'
           have HSET:=Aside0.mk hset
           have HGV:=Aside0.mk (And.intro hgb (And.intro hgl hgne))
           generalize hy : (b.getD i []).getD look false = y at hcy HSTEP
           generalize (b.getD i []).length = nb at *
           have HSTP : Aside0 (prStep b r look i ⟨left,right⟩ (x,bad) = if left = (r : Int) ∧ y = true then (if x < 0 then ((i : Int),bad) else (x,bad ++ [⟨(r : Int),(look : Int),x,(i : Int)⟩])) else (x,bad)) := ⟨by rw [prStep,hy]⟩
           obtain ⟨cellsT,hgt⟩ := hgt;have HGT:=Aside0.mk hgt
           clear hset hgb hgl hgne hgt hy hlk
           have hpb0:=(blk_cell HPB.out 0).trans (show (#[Value.int .i64 left,.slice A9 right.length c9])[0]? = some (.int .i64 left) from rfl)
           have l0 : (0 ≤ (look : Int)) = True:=k0
           by_cases hl : left = (r : Int)
           · subst hl
             have y1 : ((r : Int) == (r : Int)) = true:=by simp
             have y2 : ((r : Int) != (r : Int)) = false:=by simp
             cases y with
             | false =>
              have HNX : Aside0 (K2 (prIn b r look (i + 1) (l0_4.drop (i + 1)) (x,bad))) := ⟨by have h:=HK2.out;rw [HSTEP.out,HSTP.out,if_neg (by simp)] at h;exact h⟩
              go_wp2
              go_roundg (l0_4.length - (i + 1))
              case measure => have:=HKQ3.out;have:=HLT3.out;omega
              case rel => exact ⟨i + 1,x,bad,rfl,by have:=HLT3.out;omega,Nat.le_refl _,HNX,HS5,HRB5,HBR5,HC65⟩
             | true =>
              by_cases hx : x < 0
              · have x1 : decide (x < 0) = true:=decide_eq_true hx
                have HNX : Aside0 (K2 (prIn b r look (i + 1) (l0_4.drop (i + 1)) ((i : Int),bad))) := ⟨by have h:=HK2.out;rw [HSTEP.out,HSTP.out,if_pos ⟨rfl,rfl⟩,if_pos hx] at h;exact h⟩
                clear hx
                go_wp2
                go_roundg (l0_4.length - (i + 1))
                case measure => have:=HKQ3.out;have:=HLT3.out;omega
                case rel => exact ⟨i + 1,(i : Int),bad,rfl,by have:=HLT3.out;omega,Nat.le_refl _,HNX,⟨HSET.out (i : Int)⟩,⟨Kd.R_set HRB5.out HGT.out (by decide) look _⟩,⟨below_set HBR5.out HGV.out.1⟩,⟨by rw [HADO.out,add_plain,cell_far (by show gq ≠ gv;exact (Ne.symm HGV.out.2.2)),← add_plain,← HADO.out];exact HC65.out⟩⟩
              · have x1 : decide (x < 0) = false:=decide_eq_false hx
                have HNX : Aside0 (K2 (prIn b r look (i + 1) (l0_4.drop (i + 1)) (x,bad ++ [⟨(r : Int),(look : Int),x,(i : Int)⟩]))) := ⟨by have h:=HK2.out;rw [HSTEP.out,HSTP.out,if_pos ⟨rfl,rfl⟩,if_neg hx] at h;exact h⟩
                have HLB : Aside0 (bad.length + 1 ≤ 1000000) := ⟨by
                 have h1:=HB2'.out _ HNX.out
                 have h2:=prIn_le b r look (l0_4.drop (i + 1)) (i + 1) (x,bad ++ [⟨(r : Int),(look : Int),x,(i : Int)⟩])
                 simp only [List.length_append,List.length_cons,List.length_nil] at h2
                 omega⟩
                clear hx
                go_wp2_with (first | ((with_reducible refine gate_builtin (b := .append) (xs:=#[.tmp 37,.tmp 46]) rfl ?_);at_builtin;refine Kd.R_append k50 (w0:=w2) w2.heap.size rfl (.tmp 37) (.tmp 46) 37 50 (.agg #[(.int .i64 0),(.int .i64 0),(.int .i64 0),(.int .i64 0)]) 32 rfl Try.underlying37 info50 rfl (by decide) (by omega) u3 bad (⟨(r : Int),(look : Int),x,(i : Int)⟩ : S50) [.int .i64 (r : Int),.int .i64 (look : Int),.int .i64 x,.int .i64 (i : Int)] (fun _ => True) (fun _ => False) rfl rfl ?aP (fun _ hk => hk.elim) ?aF ?aO ?aB ?aS ?aL ?_;(case aP => exact k50_mkM _ _ _ (⟨(r : Int),(look : Int),x,(i : Int)⟩ : S50));(case aB => exact HBR5.out);(case aF => exact (fun _ _ => trivial));(case aO => exact HRB5.out);(case aS => exact HBR5.out.size);(case aL => have:=HLB.out;omega);intro v6 w6 ho hb hg hat;have HO6:=Aside0.mk ho;have HB6:=Aside0.mk hb;have HS6:=Aside0.mk (Kd.S_over' HS5.out (Kd.R_typed HRB5.out) (by decide) hg);have HG6:=Aside0.mk hg;clear ho hb hg hat))
                have HC66 : Aside0 (w6.cell? (ado.add r) = some (.slice (some ⟨gv,0,none⟩) nr c6)) := ⟨by
                 obtain ⟨gs,cps,es,_,_,cellsS,hbs⟩ := Kd.S_form HS5.out (by rw [List.length_set];have:=HLEN.out.1;have:=HLT.out;omega)
                 have hgs : ado.block = gs:=by injection es with es;injection es with es;rw [es]
                 have hne : u3.ownBlock ≠ some ado.block:=fun e => by
                  obtain ⟨c2,h2⟩ := Kd.R_typed HRB5.out ado.block e
                  rw [hgs,hbs] at h2
                  injection h2 with h2
                  injection h2 with _ h2
                  exact absurd h2 (by decide)
                 rw [(World.grownBy.cell_far HG6.out (ado.add r) (by rw [add_block,hgs];exact (blk_lt hbs)) (by rw [add_block];exact Ne.symm hne))]
                 exact HC65.out⟩
                go_roundg (l0_4.length - (i + 1))
                case measure => have:=HKQ3.out;have:=HLT3.out;omega
                case rel => exact ⟨i + 1,x,_,rfl,by have:=HLT3.out;omega,Nat.le_refl _,HNX,HS6,HO6,HB6,HC66⟩
           · have y1 : (left == (r : Int)) = false:=by simp [hl]
             have y2 : (left != (r : Int)) = true:=by simp [hl]
             have y3 : decide (left = (r : Int)) = false:=decide_eq_false hl
             have y4 : (left = (r : Int)) = False:=eq_false hl
             have HNX : Aside0 (K2 (prIn b r look (i + 1) (l0_4.drop (i + 1)) (x,bad))) := ⟨by have h:=HK2.out;rw [HSTEP.out,HSTP.out,if_neg (fun h2 => hl h2.1)] at h;exact h⟩
             clear hl
             go_wp2
             go_roundg (l0_4.length - (i + 1))
             case measure => have:=HKQ3.out;have:=HLT3.out;omega
             case rel => exact ⟨i + 1,x,bad,rfl,by have:=HLT3.out;omega,Nat.le_refl _,HNX,HS5,HRB5,HBR5,HC65⟩
         · obtain rfl : i = l0_4.length:=by omega
           have d4 : decide ((l0_4.length : Int) < (l0_4.length : Int)) = false:=decide_eq_false (by omega)
           have d5 : decide (l0_4.length < l0_4.length) = false:=decide_eq_false (by omega)
           go_wp2
           go_roundg (nr - (look + 1))
           case measure => have:=HKQ2.out;have:=HLT2.out;omega
           case rel => exact ⟨look + 1,row.set look x,bad,rfl,by have:=HLT2.out;omega,Nat.le_refl _,⟨by have h:=HK2.out;rw [List.drop_length,EK2.out] at h;exact h⟩,⟨by rw [List.length_set];exact HRL.out⟩,HS,HRB,HBR,HC6⟩
      · obtain rfl : look = nr:=by omega
        have d2 : decide ((look : Int) < (look : Int)) = false:=decide_eq_false (by omega)
        have d3 : decide (look < look) = false:=decide_eq_false (by omega)
        go_wp2
        go_roundg (out.length - (r + 1))
        case measure => have:=HKQ.out;have:=HLT.out;omega
        case rel => exact ⟨r + 1,m.set r row,bad,rfl,by have:=HLT.out;omega,Nat.le_refl _,⟨by have h:=HK1.out;rw [Nat.sub_self,EK1.out] at h;exact h⟩,⟨by rw [List.length_set];exact HLEN.out.1,lens_set HLEN.out.2 (by rw [HRL.out,HENR.out])⟩,HS,HRB,HBR⟩
   · obtain rfl : r = out.length:=by omega
     have d0 : decide ((out.length : Int) < (out.length : Int)) = false:=decide_eq_false (by omega)
     go_wp2
     go_ret2
     have hfin:=HF.out
     rw [Nat.sub_self] at hfin
     simp only [prAll] at hfin
     obtain ⟨rfl,rfl⟩ := Prod.mk.inj hfin
     exact ⟨_,_,rfl,Kd.S_lower HS.out HBASE.out,Kd.R_lower HRB.out HBASE.out,HB2.out.trans (HBR.out.mono HB2.out.size)⟩
end Go.Proofs.Ytfdcfihcfegekaa.P
end

section
namespace Go.Proofs.Ytfdcfihcfegekaa.P
open Go.RowKit Go.Proofs.YtfdcfihcfegekaaW.PrintWords Go.Proofs.YtfdcfihcfegekaaW.PrintLast Go.Proofs.YtfdcfihcfegekaaW.PrintMore
attribute [local go_sem] max2_int min2_int max_two min_two max_three min_three max_four min_four   -- for this text's walks alone
set_option linter.unusedVariables false
set_option linter.unusedSimpArgs false
attribute [local go_sem high] eqA50
def regletlaw14_awake.f (k : Nat)  : Option (Bool) := (some (([(⟨#[97]⟩ : ByteArray)] : List ByteArray) : List ByteArray)).bind fun y188 => (if 1 ≤ 2706490160679 then ((some (List.replicate 1 z61 : List (S61))).bind fun y191 => ((some (([(⟨0,(([(⟨true,0⟩ : S53),(⟨false,0⟩ : S53)] : List (S53)))⟩ : S30),(⟨0,([] : List (S53))⟩ : S30)] : List (S30)) : List (S30))).bind fun y197 => ((predict_Predict.f k y188 y191 0 0 y197).bind fun bt201 => (if y197.length < 4398046511104 then ((predict_Predict.f k y188 y191 0 0 (y197 ++ [(⟨0,([] : List (S53))⟩ : S30)])).bind fun bt210 => (if (bt201.2.length : Int) = 0 then ((regletref13_SameLists.f k bt201.1 (([(([0,1] : List Int))] : List (List Int)))).bind fun t222 => (if t222 = true then (if (bt210.2.length : Int) = 1 then (if 0 < (bt210.2.length : Int) then (some (((rd_T50 bt210.2 0).f0) == 0 && (((rd_T50 bt210.2 0).f1) == 1 && (((rd_T50 bt210.2 0).f2) == 1 && (((rd_T50 bt210.2 0).f3) == 2))))) else (none)) else (none)) else (none))) else (none))) else (none))))) else (none))
set_option maxHeartbeats 8000000 in
set_option maxRecDepth 100000 in
theorem regletlaw14_awake.calls (k : Nat)  (r : Bool) (w : World) (h : regletlaw14_awake.f k  = some r) :
    Calls Try.prog 9 #[] w fun e w' => e = .returned (.bool r) ∧ Below w.heap.size w w' := by
 have hu53:=Try.underlying53
 have hu30:=Try.underlying30
 have hu26:=Try.underlying26
 have hu50:=Try.underlying50
 have HB:=Aside0.mk (Below.refl w.heap.size w)
 have H : ((some (([(⟨#[97]⟩ : ByteArray)] : List ByteArray) : List ByteArray)).bind fun y188 => (if 1 ≤ 2706490160679 then ((some (List.replicate 1 z61 : List (S61))).bind fun y191 => ((some (([(⟨0,(([(⟨true,0⟩ : S53),(⟨false,0⟩ : S53)] : List (S53)))⟩ : S30),(⟨0,([] : List (S53))⟩ : S30)] : List (S30)) : List (S30))).bind fun y197 => ((predict_Predict.f k y188 y191 0 0 y197).bind fun bt201 => (if y197.length < 4398046511104 then ((predict_Predict.f k y188 y191 0 0 (y197 ++ [(⟨0,([] : List (S53))⟩ : S30)])).bind fun bt210 => (if (bt201.2.length : Int) = 0 then ((regletref13_SameLists.f k bt201.1 (([(([0,1] : List Int))] : List (List Int)))).bind fun t222 => (if t222 = true then (if (bt210.2.length : Int) = 1 then (if 0 < (bt210.2.length : Int) then (some (((rd_T50 bt210.2 0).f0) == 0 && (((rd_T50 bt210.2 0).f1) == 1 && (((rd_T50 bt210.2 0).f2) == 1 && (((rd_T50 bt210.2 0).f3) == 2))))) else (none)) else (none)) else (none))) else (none))) else (none))))) else (none))) = some r:=h
 clear h
 obtain ⟨y188,hy188⟩ : ∃ y_ : List ByteArray,y_ = (([(⟨#[97]⟩ : ByteArray)] : List ByteArray)) := ⟨_,rfl⟩
 replace H : (if 1 ≤ 2706490160679 then ((some (List.replicate 1 z61 : List (S61))).bind fun y191 => ((some (([(⟨0,(([(⟨true,0⟩ : S53),(⟨false,0⟩ : S53)] : List (S53)))⟩ : S30),(⟨0,([] : List (S53))⟩ : S30)] : List (S30)) : List (S30))).bind fun y197 => ((predict_Predict.f k y188 y191 0 0 y197).bind fun bt201 => (if y197.length < 4398046511104 then ((predict_Predict.f k y188 y191 0 0 (y197 ++ [(⟨0,([] : List (S53))⟩ : S30)])).bind fun bt210 => (if (bt201.2.length : Int) = 0 then ((regletref13_SameLists.f k bt201.1 (([(([0,1] : List Int))] : List (List Int)))).bind fun t222 => (if t222 = true then (if (bt210.2.length : Int) = 1 then (if 0 < (bt210.2.length : Int) then (some (((rd_T50 bt210.2 0).f0) == 0 && (((rd_T50 bt210.2 0).f1) == 1 && (((rd_T50 bt210.2 0).f2) == 1 && (((rd_T50 bt210.2 0).f3) == 2))))) else (none)) else (none)) else (none))) else (none))) else (none))))) else (none)) = some r:=by first | (rw [hy188];with_reducible exact H) | (have H2_:=(Option.bind_some _ _).symm.trans H;rw [hy188];with_reducible exact H2_) | (have H2_:=(Option.bind_some _ _).symm.trans H;with_reducible exact H2_) | with_reducible exact H | (rw [hy188];exact H) | exact H
 have Ny188:=Aside0.mk hy188
 clear hy188
 by_cases c1 : 1 ≤ 2706490160679
 rotate_left
 · rw [if_neg c1] at H
   exact absurd H (by simp)
 rw [if_pos c1] at H
 have c1b0:=eq_true c1
 have c1b1 : decide (1 ≤ 2706490160679) = true:=decide_eq_true c1
 clear c1
 obtain ⟨y191,hy191⟩ : ∃ y_ : List (S61),y_ = (List.replicate 1 z61) := ⟨_,rfl⟩
 replace H : ((some (([(⟨0,(([(⟨true,0⟩ : S53),(⟨false,0⟩ : S53)] : List (S53)))⟩ : S30),(⟨0,([] : List (S53))⟩ : S30)] : List (S30)) : List (S30))).bind fun y197 => ((predict_Predict.f k y188 y191 0 0 y197).bind fun bt201 => (if y197.length < 4398046511104 then ((predict_Predict.f k y188 y191 0 0 (y197 ++ [(⟨0,([] : List (S53))⟩ : S30)])).bind fun bt210 => (if (bt201.2.length : Int) = 0 then ((regletref13_SameLists.f k bt201.1 (([(([0,1] : List Int))] : List (List Int)))).bind fun t222 => (if t222 = true then (if (bt210.2.length : Int) = 1 then (if 0 < (bt210.2.length : Int) then (some (((rd_T50 bt210.2 0).f0) == 0 && (((rd_T50 bt210.2 0).f1) == 1 && (((rd_T50 bt210.2 0).f2) == 1 && (((rd_T50 bt210.2 0).f3) == 2))))) else (none)) else (none)) else (none))) else (none))) else (none)))) = some r:=by first | (rw [hy191];with_reducible exact H) | (have H2_:=(Option.bind_some _ _).symm.trans H;rw [hy191];with_reducible exact H2_) | (have H2_:=(Option.bind_some _ _).symm.trans H;with_reducible exact H2_) | with_reducible exact H | (rw [hy191];exact H) | exact H
 have Ny191:=Aside0.mk hy191
 clear hy191
 obtain ⟨y194,hy194⟩ : ∃ y_ : List (S53),y_ = (([(⟨true,0⟩ : S53),(⟨false,0⟩ : S53)] : List (S53))) := ⟨_,rfl⟩
 replace H : ((some (([(⟨0,y194⟩ : S30),(⟨0,([] : List (S53))⟩ : S30)] : List (S30)) : List (S30))).bind fun y197 => ((predict_Predict.f k y188 y191 0 0 y197).bind fun bt201 => (if y197.length < 4398046511104 then ((predict_Predict.f k y188 y191 0 0 (y197 ++ [(⟨0,([] : List (S53))⟩ : S30)])).bind fun bt210 => (if (bt201.2.length : Int) = 0 then ((regletref13_SameLists.f k bt201.1 (([(([0,1] : List Int))] : List (List Int)))).bind fun t222 => (if t222 = true then (if (bt210.2.length : Int) = 1 then (if 0 < (bt210.2.length : Int) then (some (((rd_T50 bt210.2 0).f0) == 0 && (((rd_T50 bt210.2 0).f1) == 1 && (((rd_T50 bt210.2 0).f2) == 1 && (((rd_T50 bt210.2 0).f3) == 2))))) else (none)) else (none)) else (none))) else (none))) else (none)))) = some r:=by first | (rw [hy194];with_reducible exact H) | (have H2_:=(Option.bind_some _ _).symm.trans H;rw [hy194];with_reducible exact H2_) | (have H2_:=(Option.bind_some _ _).symm.trans H;with_reducible exact H2_) | with_reducible exact H | (rw [hy194];exact H) | exact H
 have Ny194:=Aside0.mk hy194
 clear hy194
 obtain ⟨y197,hy197⟩ : ∃ y_ : List (S30),y_ = (([(⟨0,y194⟩ : S30),(⟨0,([] : List (S53))⟩ : S30)] : List (S30))) := ⟨_,rfl⟩
 replace H : ((predict_Predict.f k y188 y191 0 0 y197).bind fun bt201 => (if y197.length < 4398046511104 then ((predict_Predict.f k y188 y191 0 0 (y197 ++ [(⟨0,([] : List (S53))⟩ : S30)])).bind fun bt210 => (if (bt201.2.length : Int) = 0 then ((regletref13_SameLists.f k bt201.1 (([(([0,1] : List Int))] : List (List Int)))).bind fun t222 => (if t222 = true then (if (bt210.2.length : Int) = 1 then (if 0 < (bt210.2.length : Int) then (some (((rd_T50 bt210.2 0).f0) == 0 && (((rd_T50 bt210.2 0).f1) == 1 && (((rd_T50 bt210.2 0).f2) == 1 && (((rd_T50 bt210.2 0).f3) == 2))))) else (none)) else (none)) else (none))) else (none))) else (none))) = some r:=by first | (rw [hy197];with_reducible exact H) | (have H2_:=(Option.bind_some _ _).symm.trans H;rw [hy197];with_reducible exact H2_) | (have H2_:=(Option.bind_some _ _).symm.trans H;with_reducible exact H2_) | with_reducible exact H | (rw [hy197];exact H) | exact H
 have Ny197:=Aside0.mk hy197
 clear hy197
 replace H:=Option.bind_eq_some_iff.mp H
 obtain ⟨⟨t201,t204⟩,A20,H⟩ := H
 replace H : (if y197.length < 4398046511104 then ((predict_Predict.f k y188 y191 0 0 (y197 ++ [(⟨0,([] : List (S53))⟩ : S30)])).bind fun bt210 => (if (t204.length : Int) = 0 then ((regletref13_SameLists.f k t201 (([(([0,1] : List Int))] : List (List Int)))).bind fun t222 => (if t222 = true then (if (bt210.2.length : Int) = 1 then (if 0 < (bt210.2.length : Int) then (some (((rd_T50 bt210.2 0).f0) == 0 && (((rd_T50 bt210.2 0).f1) == 1 && (((rd_T50 bt210.2 0).f2) == 1 && (((rd_T50 bt210.2 0).f3) == 2))))) else (none)) else (none)) else (none))) else (none))) else (none)) = some r:=H
 have A2:=Aside0.mk A20
 clear A20
 by_cases c3 : y197.length < 4398046511104
 rotate_left
 · rw [if_neg c3] at H
   exact absurd H (by simp)
 rw [if_pos c3] at H
 have LMc3:=Aside0.mk c3
 clear c3
 obtain ⟨y207,hy207⟩ : ∃ y_ : List (S30),y_ = (y197 ++ [(⟨0,([] : List (S53))⟩ : S30)]) := ⟨_,rfl⟩
 replace H : ((predict_Predict.f k y188 y191 0 0 y207).bind fun bt210 => (if (t204.length : Int) = 0 then ((regletref13_SameLists.f k t201 (([(([0,1] : List Int))] : List (List Int)))).bind fun t222 => (if t222 = true then (if (bt210.2.length : Int) = 1 then (if 0 < (bt210.2.length : Int) then (some (((rd_T50 bt210.2 0).f0) == 0 && (((rd_T50 bt210.2 0).f1) == 1 && (((rd_T50 bt210.2 0).f2) == 1 && (((rd_T50 bt210.2 0).f3) == 2))))) else (none)) else (none)) else (none))) else (none))) = some r:=by first | (rw [hy207];with_reducible exact H) | (have H2_:=(Option.bind_some _ _).symm.trans H;rw [hy207];with_reducible exact H2_) | (have H2_:=(Option.bind_some _ _).symm.trans H;with_reducible exact H2_) | with_reducible exact H | (rw [hy207];exact H) | exact H
 have Ny207:=Aside0.mk hy207
 clear hy207
 replace H:=Option.bind_eq_some_iff.mp H
 obtain ⟨⟨t210,t213⟩,A40,H⟩ := H
 replace H : (if (t204.length : Int) = 0 then ((regletref13_SameLists.f k t201 (([(([0,1] : List Int))] : List (List Int)))).bind fun t222 => (if t222 = true then (if (t213.length : Int) = 1 then (if 0 < (t213.length : Int) then (some (((rd_T50 t213 0).f0) == 0 && (((rd_T50 t213 0).f1) == 1 && (((rd_T50 t213 0).f2) == 1 && (((rd_T50 t213 0).f3) == 2))))) else (none)) else (none)) else (none))) else (none)) = some r:=H
 have A4:=Aside0.mk A40
 clear A40
 by_cases c5 : (t204.length : Int) = 0
 rotate_left
 · rw [if_neg c5] at H
   exact absurd H (by simp)
 rw [if_pos c5] at H
 have c5b0 : ((t204.length : Int) == 0) = true:=beq_iff_eq.mpr c5
 have c5b1 : ((t204.length : Int) != 0) = false:=bne_eq_false_iff_eq.mpr c5
 clear c5
 obtain ⟨y216,hy216⟩ : ∃ y_ : List Int,y_ = (([0,1] : List Int)) := ⟨_,rfl⟩
 replace H : ((regletref13_SameLists.f k t201 (([y216] : List (List Int)))).bind fun t222 => (if t222 = true then (if (t213.length : Int) = 1 then (if 0 < (t213.length : Int) then (some (((rd_T50 t213 0).f0) == 0 && (((rd_T50 t213 0).f1) == 1 && (((rd_T50 t213 0).f2) == 1 && (((rd_T50 t213 0).f3) == 2))))) else (none)) else (none)) else (none))) = some r:=by first | (rw [hy216];with_reducible exact H) | (have H2_:=(Option.bind_some _ _).symm.trans H;rw [hy216];with_reducible exact H2_) | (have H2_:=(Option.bind_some _ _).symm.trans H;with_reducible exact H2_) | with_reducible exact H | (rw [hy216];exact H) | exact H
 have Ny216:=Aside0.mk hy216
 clear hy216
 obtain ⟨y219,hy219⟩ : ∃ y_ : List (List Int),y_ = (([y216] : List (List Int))) := ⟨_,rfl⟩
 replace H : ((regletref13_SameLists.f k t201 y219).bind fun t222 => (if t222 = true then (if (t213.length : Int) = 1 then (if 0 < (t213.length : Int) then (some (((rd_T50 t213 0).f0) == 0 && (((rd_T50 t213 0).f1) == 1 && (((rd_T50 t213 0).f2) == 1 && (((rd_T50 t213 0).f3) == 2))))) else (none)) else (none)) else (none))) = some r:=by first | (rw [hy219];with_reducible exact H) | (have H2_:=(Option.bind_some _ _).symm.trans H;rw [hy219];with_reducible exact H2_) | (have H2_:=(Option.bind_some _ _).symm.trans H;with_reducible exact H2_) | with_reducible exact H | (rw [hy219];exact H) | exact H
 have Ny219:=Aside0.mk hy219
 clear hy219
 replace H:=Option.bind_eq_some_iff.mp H
 obtain ⟨t222,A60,H⟩ := H
 replace H : (if t222 = true then (if (t213.length : Int) = 1 then (if 0 < (t213.length : Int) then (some (((rd_T50 t213 0).f0) == 0 && (((rd_T50 t213 0).f1) == 1 && (((rd_T50 t213 0).f2) == 1 && (((rd_T50 t213 0).f3) == 2))))) else (none)) else (none)) else (none)) = some r:=H
 have A6:=Aside0.mk A60
 clear A60
 by_cases c7 : t222 = true
 · subst c7
   have H1 : (if (t213.length : Int) = 1 then (if 0 < (t213.length : Int) then (some (((rd_T50 t213 0).f0) == 0 && (((rd_T50 t213 0).f1) == 1 && (((rd_T50 t213 0).f2) == 1 && (((rd_T50 t213 0).f3) == 2))))) else (none)) else (none)) = some r:=by rw [if_pos rfl] at H;exact H
   clear H
   have H:=H1
   clear H1
   by_cases c8 : (t213.length : Int) = 1
   rotate_left
   · rw [if_neg c8] at H
     exact absurd H (by simp)
   rw [if_pos c8] at H
   have c8b0 : ((t213.length : Int) == 1) = true:=beq_iff_eq.mpr c8
   have c8b1 : ((t213.length : Int) != 1) = false:=bne_eq_false_iff_eq.mpr c8
   clear c8
   by_cases c9 : 0 < (t213.length : Int)
   rotate_left
   · rw [if_neg c9] at H
     exact absurd H (by simp)
   rw [if_pos c9] at H
   have c9b0 : decide (0 < (t213.length : Int)) = true:=decide_eq_true c9
   have c9b1 : decide (0 < t213.length) = true:=decide_eq_true (by omega)
   clear c9
   obtain rfl:=Option.some.inj H
   go_enter Try.func9,Try.ntmps9
   go_wp2_with (first | ((with_reducible refine gate_dst (N:=6) rfl ?_);(try (refine gate_guard (by rfl) ?_;dsimp only));refine Kd.R_lit Kd.string _ 9 ?hg (N:=6) ?hd (xs:=([(⟨#[97]⟩ : ByteArray)] : List ByteArray)) (inner := [.string (⟨#[97]⟩ : ByteArray)]) (ok:=fun _ => True) (okp:=fun _ => True) ?hr ?hp (fun _ hk => hk) trivial (Below.refl _ _) (Nat.le_refl _) (by simp) ?_;(case hd => rfl);(case hg => rfl);(case hr => first | (go_simp;done) | (go_simp;rfl));(case hp => exact (Reps.one (show Kd.M Kd.string _ _ _ (⟨#[97]⟩ : ByteArray) [.string (⟨#[97]⟩ : ByteArray)] from rfl) (Reps.none _ _)));intro v189 w10 ho11 hb hg_ hnew_;clear hg_ hnew_;(first | rw [← Ny188.out] at ho11 | (simp only [Int.reduceToNat] at ho11;rw [← Ny188.out] at ho11));have n0_:=Aside0.mk (Kd.R_lower ho11 (below_size (by repeat (first | (with_reducible first | exact HB.out | apply below_alloc | apply pw_below_drewN | apply below_drew1) | exact HB.out))));have n1_:=Aside0.mk (below_step (by repeat (first | (with_reducible first | exact HB.out | apply below_alloc | apply pw_below_drewN | apply below_drew1) | exact HB.out)) hb);clear HB;have HO190:=n0_;have HB:=n1_;clear n0_ n1_;clear hb ho11) | ((with_reducible refine gate_dst (N:=7) rfl ?_);(try (refine gate_guard (by rfl) ?_;dsimp only));refine Kd.N_make k61 _ 61 rfl (N' := 7) rfl 23 _ _ rfl 1 rfl rfl Try.underlying23 (.agg #[(.string ⟨#[]⟩),(.int .i64 0),(.string ⟨#[]⟩),(.slice none 0 0),(.int .i64 0),(.int .i64 0),(.slice none 0 0)]) 104 info61 rfl (by decide) (by omega) z61 (ok:=fun k_ => w10.heap.size ≤ k_) (okp:=fun _ => False) (k61_mkF _ _ z61 (Nat.le_refl _) (Kd.F_nil _ _ _) (Nat.le_refl _) (Kd.F_nil _ _ _)) (fun _ hk => hk.elim) (Nat.le_refl _) (by omega) (by omega) (Below.refl _ _) (Nat.le_refl _) ?_;intro v192 w12 ho13 hb hg_ hnew_;clear hg_ hnew_;(first | rw [← Ny191.out] at ho13 | (simp only [Int.reduceToNat] at ho13;rw [← Ny191.out] at ho13));have n0_:=Aside0.mk (Kd.R_below (by (with_reducible repeat (first | apply Kd.R_alloc | apply Kd.R_drewN | apply Kd.R_drew));exact HO190.out) hb);have n1_:=Aside0.mk (Kd.N_lower (Kd.N_mono (ok' := fun k_ => some k_ ≠ (v189 : Value).ownBlock) ho13 (fun k_ hk_ => (Kd.fresh' (Kd.R_lt (by (with_reducible repeat (first | apply Kd.R_alloc | apply Kd.R_drewN | apply Kd.R_drew));exact HO190.out)) k_ hk_))) (below_size (by repeat (first | (with_reducible first | exact HB.out | apply below_alloc | apply pw_below_drewN | apply below_drew1) | exact HB.out))));have n2_:=Aside0.mk (below_step (by repeat (first | (with_reducible first | exact HB.out | apply below_alloc | apply pw_below_drewN | apply below_drew1) | exact HB.out)) hb);clear HO190;clear HB;have HO190:=n0_;have HO193:=n1_;have HB:=n2_;clear n0_ n1_ n2_;clear hb ho13) | ((with_reducible refine gate_dst (N:=10) rfl ?_);(try (refine gate_guard (by rfl) ?_;dsimp only));refine Kd.R_lit k53 _ 53 ?hg (N:=10) ?hd (xs:=([(⟨true,0⟩ : S53),(⟨false,0⟩ : S53)] : List (S53))) (inner := [.bool true,.int .i64 0,.bool false,.int .i64 0]) (ok:=fun _ => True) (okp:=fun _ => True) ?hr ?hp (fun _ hk => hk) trivial (Below.refl _ _) (Nat.le_refl _) (by simp) ?_;(case hd => rfl);(case hg => rfl);(case hr => first | (go_simp;done) | (go_simp;rfl));(case hp => exact (Reps.c2 (show Kd.M k53 _ _ _ (⟨true,0⟩ : S53) [.bool true,.int .i64 0] from (k53_mkM _ _ _ (⟨true,0⟩ : S53) )) (Reps.c2 (show Kd.M k53 _ _ _ (⟨false,0⟩ : S53) [.bool false,.int .i64 0] from (k53_mkM _ _ _ (⟨false,0⟩ : S53) )) (Reps.none _ _))));intro v195 w14 ho15 hb hg_ hnew_;clear hg_ hnew_;(first | rw [← Ny194.out] at ho15 | (simp only [Int.reduceToNat] at ho15;rw [← Ny194.out] at ho15));have n0_:=Aside0.mk (Kd.R_below (by (with_reducible repeat (first | apply Kd.R_alloc | apply Kd.R_drewN | apply Kd.R_drew));exact HO190.out) hb);have n1_:=Aside0.mk (Kd.N_elder' (by (with_reducible repeat (first | apply Kd.N_alloc | apply Kd.N_drewN | apply Kd.N_drew));exact HO193.out) (Kd.R_base ho15) hb);have n2_:=Aside0.mk (Kd.R_lower ho15 (below_size (by repeat (first | (with_reducible first | exact HB.out | apply below_alloc | apply pw_below_drewN | apply below_drew1) | exact HB.out))));have n3_:=Aside0.mk (below_step (by repeat (first | (with_reducible first | exact HB.out | apply below_alloc | apply pw_below_drewN | apply below_drew1) | exact HB.out)) hb);clear HO190;clear HO193;clear HB;have HO190:=n0_;have HO193:=n1_;have HO196:=n2_;have HB:=n3_;clear n0_ n1_ n2_ n3_;clear hb ho15;obtain ⟨Ao16,co16,eo16⟩ := Kd.R_slice HO196.out;subst eo16) | ((with_reducible refine gate_dst (N:=13) rfl ?_);(try (refine gate_guard (by rfl) ?_;dsimp only));refine Kd.N_lit k30 _ 30 ?hg (N' := 13) ?hd (xs:=([(⟨0,y194⟩ : S30),(⟨0,([] : List (S53))⟩ : S30)] : List (S30))) (inner := [.int .i64 0,.slice Ao16 y194.length co16,.int .i64 0,.slice none 0 0]) (ok:=(fun k_ => some k_ ≠ (v189 : Value).ownBlock ∧ some k_ ≠ (v192 : Value).ownBlock)) (okp:=(fun k_ => some k_ ≠ (v189 : Value).ownBlock ∧ some k_ ≠ (v192 : Value).ownBlock)) ?hr ?hp (fun _ hk => hk) ((show ∀ k_,w14.heap.size ≤ k_ → (fun k_ => some k_ ≠ (v189 : Value).ownBlock ∧ some k_ ≠ (v192 : Value).ownBlock) k_ from fun k_ hk => ⟨Kd.fresh' (Kd.R_lt (by (with_reducible repeat (first | apply Kd.R_alloc | apply Kd.R_drewN | apply Kd.R_drew));exact HO190.out)) k_ hk,Kd.fresh' (Kd.N_lt (by (with_reducible repeat (first | apply Kd.N_alloc | apply Kd.N_drewN | apply Kd.N_drew));exact HO193.out)) k_ hk⟩) _ (Nat.le_refl _)) (Below.refl _ _) (Nat.le_refl _) (by simp) ?_;(case hd => rfl);(case hg => rfl);(case hr => first | (go_simp;done) | (go_simp;rfl));(case hp => exact (Reps.c2 (show Kd.FK k30 _ _ (⟨0,y194⟩ : S30) [.int .i64 0,.slice Ao16 y194.length co16] from (k30_mkF _ _ (⟨0,y194⟩ : S30) (Kd.R_reads' (Kd.R_mono (ok' := (fun k_ => some k_ ≠ (v189 : Value).ownBlock ∧ some k_ ≠ (v192 : Value).ownBlock)) (Kd.R_apart' (Kd.R_apart' (HO196.out) (Kd.R_typed HO190.out) (by decide)) (Kd.N_typed HO193.out) (by decide)) (fun k_ hk => ⟨hk.1.2,hk.2⟩))).2.1 (Kd.R_F (Kd.R_mono (ok' := (fun k_ => some k_ ≠ (v189 : Value).ownBlock ∧ some k_ ≠ (v192 : Value).ownBlock)) (Kd.R_apart' (Kd.R_apart' (HO196.out) (Kd.R_typed HO190.out) (by decide)) (Kd.N_typed HO193.out) (by decide)) (fun k_ hk => ⟨hk.1.2,hk.2⟩))))) (Reps.c2 (show Kd.FK k30 _ _ (⟨0,([] : List (S53))⟩ : S30) [.int .i64 0,.slice none 0 0] from (k30_mkF _ _ (⟨0,([] : List (S53))⟩ : S30) (Nat.le_refl _) (Kd.F_nil _ _ _))) (Reps.none _ _))));intro v198 w17 ho18 hb hg_ hnew_;clear hg_ hnew_;(first | rw [← Ny197.out] at ho18 | (simp only [Int.reduceToNat] at ho18;rw [← Ny197.out] at ho18));have n0_:=Aside0.mk (Kd.R_below (by (with_reducible repeat (first | apply Kd.R_alloc | apply Kd.R_drewN | apply Kd.R_drew));exact HO190.out) hb);have n1_:=Aside0.mk (Kd.N_elder' (by (with_reducible repeat (first | apply Kd.N_alloc | apply Kd.N_drewN | apply Kd.N_drew));exact HO193.out) (Kd.N_base ho18) hb);have n2_:=Aside0.mk (Kd.N_lower ho18 (below_size (by repeat (first | (with_reducible first | exact HB.out | apply below_alloc | apply pw_below_drewN | apply below_drew1) | exact HB.out))));have n3_:=Aside0.mk (below_step (by repeat (first | (with_reducible first | exact HB.out | apply below_alloc | apply pw_below_drewN | apply below_drew1) | exact HB.out)) hb);clear HO190;clear HO193;clear HB;clear HO196;have HO190:=n0_;have HO193:=n1_;have HO199:=n2_;have HB:=n3_;clear n0_ n1_ n2_ n3_;clear hb ho18;obtain ⟨Ao19,co19,eo19⟩ := Kd.N_slice HO199.out;subst eo19;obtain ⟨Ao20,co20,eo20⟩ := Kd.N_slice HO193.out;subst eo20;obtain ⟨Ao21,co21,eo21⟩ := Kd.R_slice HO190.out;subst eo21) | ((with_reducible refine gate_dst (N:=1) rfl ?_);(try (refine gate_guard (by rfl) ?_;dsimp only));refine box_event ?hg (N:=1) ?hd (cs:=#[.slice none 0 0,.slice none 0 0,.int .i64 0,.int .i64 0,.slice none 0 0]) (t:=26) ?hr ?_;(case hd => rfl);(case hg => rfl);(case hr => first | (go_simp;done) | (go_simp;rfl));intro gb200 hg w22 hbox hb;have n0_:=Aside0.mk (Kd.R_below (by (with_reducible repeat (first | apply Kd.R_alloc | apply Kd.R_drewN | apply Kd.R_drew));exact HO190.out) hb);have n1_:=Aside0.mk (Kd.N_below (Kd.N_elderB (by (with_reducible repeat (first | apply Kd.N_alloc | apply Kd.N_drewN | apply Kd.N_drew));exact HO193.out) gb200 (Nat.le_of_eq hg.symm)) hb);have n2_:=Aside0.mk (Kd.N_below (Kd.N_elderB (by (with_reducible repeat (first | apply Kd.N_alloc | apply Kd.N_drewN | apply Kd.N_drew));exact HO199.out) gb200 (Nat.le_of_eq hg.symm)) hb);have n3_:=Aside0.mk (below_step (by repeat (first | (with_reducible first | exact HB.out | apply below_alloc | apply pw_below_drewN | apply below_drew1) | exact HB.out)) hb);have n4_:=Aside0.mk (hbox);have n5_:=Aside0.mk ((by rw [hg];exact (below_size (by repeat (first | (with_reducible first | exact HB.out | apply below_alloc | apply pw_below_drewN | apply below_drew1) | exact HB.out))) : w.heap.size ≤ gb200));have n6_:=Aside0.mk ((by rw [hg];exact (below_size (by repeat (first | (with_reducible first | exact HB.out | apply below_alloc | apply pw_below_drewN | apply below_drew1) | exact HB.out))) : w.heap.size ≤ gb200));clear HO190;clear HO193;clear HO199;clear HB;have HO190:=n0_;have HO193:=n1_;have HO199:=n2_;have HB:=n3_;have BK200:=n4_;have GW200:=n5_;have GE200:=n6_;clear n0_ n1_ n2_ n3_ n4_ n5_ n6_;clear hb hbox hg;have hcz23_0 : w22.cell? ⟨gb200,0,none⟩ = some (.slice none 0 0) := (blk_cell BK200.out 0).trans rfl;have hcz23_1 : w22.cell? ⟨gb200,1,none⟩ = some (.slice none 0 0) := (blk_cell BK200.out 1).trans rfl;have hcz23_2 : w22.cell? ⟨gb200,2,none⟩ = some (.int .i64 0) := (blk_cell BK200.out 2).trans rfl;have hcz23_3 : w22.cell? ⟨gb200,3,none⟩ = some (.int .i64 0) := (blk_cell BK200.out 3).trans rfl;have hcz23_4 : w22.cell? ⟨gb200,4,none⟩ = some (.slice none 0 0) := (blk_cell BK200.out 4).trans rfl;have hfz23_0:=blk_frozen BK200.out 0;have hfz23_1:=blk_frozen BK200.out 1;have hfz23_2:=blk_frozen BK200.out 2;have hfz23_3:=blk_frozen BK200.out 3;have hfz23_4:=blk_frozen BK200.out 4) | ((with_reducible refine gate_callee (f:=13) rfl ?_);refine goesL_ (some 17) rfl rfl Try.func13 (by kernel_rfl) rfl #[.agg #[.slice Ao21 y188.length co21,.slice Ao20 y191.length co20,.int .i64 0,.int .i64 0,.slice Ao19 y197.length co19]] rfl (by (try simp only [List.map_toArray,List.map_cons,List.map_nil]);first | done | rfl | (simp only [List.length_drop,List.length_take];rfl)) ?_;(with_reducible refine (predict_Predict.calls k _ _ y188 _ _ y191 0 0 _ _ y197 t201 t204 _ ?side1 ?side2 ?side3 ?side4 ?side5 ?side6 A2.out).mono ?_);(case side1 => refine (Kd.R_reads' (e:=9) (base:=w.heap.size) (ok:=fun k_ => True) (n:=y188.length) (c:=co21) ?_).2.2;exact (by (with_reducible repeat (first | apply Kd.R_alloc | apply Kd.R_drewN | apply Kd.R_drew));exact (Kd.R_mono (Kd.R_far (p:=⟨gb200,4,none⟩) (Kd.R_far (p:=⟨gb200,3,none⟩) (Kd.R_far (p:=⟨gb200,2,none⟩) (Kd.R_far (p:=⟨gb200,1,none⟩) (Kd.R_far (p:=⟨gb200,0,none⟩) (Kd.R_types HO190.out BK200.out (by decide)) (fun _ hk => hk.2) (.slice Ao21 y188.length co21)) (fun _ hk => hk.2) (.slice Ao20 y191.length co20)) (fun _ hk => hk.2) (.int .i64 0)) (fun _ hk => hk.2) (.int .i64 0)) (fun _ hk => hk.2) (.slice Ao19 y197.length co19)) (fun _ h_ => h_.1))));(case side2 => exact (Kd.R_reads' HO190.out).2.1);(case side3 => exact (Kd.N_reads' (Kd.N_mono (Kd.N_far (p:=⟨gb200,4,none⟩) (Kd.N_far (p:=⟨gb200,3,none⟩) (Kd.N_far (p:=⟨gb200,2,none⟩) (Kd.N_far (p:=⟨gb200,1,none⟩) (Kd.N_far (p:=⟨gb200,0,none⟩) (Kd.N_mono HO193.out (fun k_ hk => (⟨hk,hk.2⟩ : _ ∧ k_ ≠ gb200))) (fun _ hk => hk.2) (.slice Ao21 y188.length co21)) (fun _ hk => hk.2) (.slice Ao20 y191.length co20)) (fun _ hk => hk.2) (.int .i64 0)) (fun _ hk => hk.2) (.int .i64 0)) (fun _ hk => hk.2) (.slice Ao19 y197.length co19)) (fun _ h_ => h_.1))).2.2);(case side4 => exact (Kd.N_reads' HO193.out).2.1);(case side5 => refine (Kd.N_reads' (e:=30) (base:=w.heap.size) (ok:=fun k_ => ((some k_ ≠ (.slice Ao21 y188.length co21 : Value).ownBlock ∧ some k_ ≠ (.slice Ao20 y191.length co20 : Value).ownBlock) ∧ k_ ≠ gb200)) (n:=y197.length) (c:=co19) ?_).2.2;exact (by (with_reducible repeat (first | apply Kd.N_alloc | apply Kd.N_drewN | apply Kd.N_drew));exact (Kd.N_mono (Kd.N_far (p:=⟨gb200,4,none⟩) (Kd.N_far (p:=⟨gb200,3,none⟩) (Kd.N_far (p:=⟨gb200,2,none⟩) (Kd.N_far (p:=⟨gb200,1,none⟩) (Kd.N_far (p:=⟨gb200,0,none⟩) (Kd.N_mono HO199.out (fun k_ hk => (⟨hk,hk.2⟩ : _ ∧ k_ ≠ gb200))) (fun _ hk => hk.2) (.slice Ao21 y188.length co21)) (fun _ hk => hk.2) (.slice Ao20 y191.length co20)) (fun _ hk => hk.2) (.int .i64 0)) (fun _ hk => hk.2) (.int .i64 0)) (fun _ hk => hk.2) (.slice Ao19 y197.length co19)) (fun _ h_ => h_.1))));(case side6 => exact (Kd.N_reads' HO199.out).2.1);rintro e w24 ⟨v202,v205,rfl,ho0,ho1,hb⟩;refine ⟨_,rfl,?_⟩;have n0_:=Aside0.mk (Kd.R_below (by (with_reducible repeat (first | apply Kd.R_alloc | apply Kd.R_drewN | apply Kd.R_drew));exact (Kd.R_mono (Kd.R_far (p:=⟨gb200,4,none⟩) (Kd.R_far (p:=⟨gb200,3,none⟩) (Kd.R_far (p:=⟨gb200,2,none⟩) (Kd.R_far (p:=⟨gb200,1,none⟩) (Kd.R_far (p:=⟨gb200,0,none⟩) (Kd.R_types HO190.out BK200.out (by decide)) (fun _ hk => hk.2) (.slice Ao21 y188.length co21)) (fun _ hk => hk.2) (.slice Ao20 y191.length co20)) (fun _ hk => hk.2) (.int .i64 0)) (fun _ hk => hk.2) (.int .i64 0)) (fun _ hk => hk.2) (.slice Ao19 y197.length co19)) (fun _ h_ => h_.1))) hb);have n1_:=Aside0.mk (Kd.N_mono (Kd.N_told (Kd.N_told (Kd.N_old (by (with_reducible repeat (first | apply Kd.N_alloc | apply Kd.N_drewN | apply Kd.N_drew));exact (Kd.N_mono (Kd.N_far (p:=⟨gb200,4,none⟩) (Kd.N_far (p:=⟨gb200,3,none⟩) (Kd.N_far (p:=⟨gb200,2,none⟩) (Kd.N_far (p:=⟨gb200,1,none⟩) (Kd.N_far (p:=⟨gb200,0,none⟩) (Kd.N_mono HO193.out (fun k_ hk => (⟨hk,hk.2⟩ : _ ∧ k_ ≠ gb200))) (fun _ hk => hk.2) (.slice Ao21 y188.length co21)) (fun _ hk => hk.2) (.slice Ao20 y191.length co20)) (fun _ hk => hk.2) (.int .i64 0)) (fun _ hk => hk.2) (.int .i64 0)) (fun _ hk => hk.2) (.slice Ao19 y197.length co19)) (fun _ h_ => h_.1))) hb) (Kd.N_base (Kd.S_N ho0))) (Kd.R_base ho1)) (fun _ h_ => h_.1));have n2_:=Aside0.mk (Kd.N_mono (Kd.N_told (Kd.N_told (Kd.N_old (by (with_reducible repeat (first | apply Kd.N_alloc | apply Kd.N_drewN | apply Kd.N_drew));exact (Kd.N_mono (Kd.N_far (p:=⟨gb200,4,none⟩) (Kd.N_far (p:=⟨gb200,3,none⟩) (Kd.N_far (p:=⟨gb200,2,none⟩) (Kd.N_far (p:=⟨gb200,1,none⟩) (Kd.N_far (p:=⟨gb200,0,none⟩) (Kd.N_mono HO199.out (fun k_ hk => (⟨hk,hk.2⟩ : _ ∧ k_ ≠ gb200))) (fun _ hk => hk.2) (.slice Ao21 y188.length co21)) (fun _ hk => hk.2) (.slice Ao20 y191.length co20)) (fun _ hk => hk.2) (.int .i64 0)) (fun _ hk => hk.2) (.int .i64 0)) (fun _ hk => hk.2) (.slice Ao19 y197.length co19)) (fun _ h_ => h_.1))) hb) (Kd.N_base (Kd.S_N ho0))) (Kd.R_base ho1)) (fun _ h_ => h_.1));have n3_:=Aside0.mk (Kd.N_lower (Kd.N_mono (ok' := fun k_ => some k_ ≠ (v205 : Value).ownBlock ∧ some k_ ≠ (.slice Ao21 y188.length co21 : Value).ownBlock ∧ some k_ ≠ (.slice Ao20 y191.length co20 : Value).ownBlock ∧ some k_ ≠ (.slice Ao19 y197.length co19 : Value).ownBlock ∧ k_ ≠ gb200) (Kd.S_N (Kd.S_bound (Kd.S_apart' ho0 (Kd.R_typed ho1) (by decide)))) (fun k_ hk_ => ⟨hk_.1.2,(Kd.fresh' (Kd.R_lt (by (with_reducible repeat (first | apply Kd.R_alloc | apply Kd.R_drewN | apply Kd.R_drew));exact (Kd.R_mono (Kd.R_far (p:=⟨gb200,4,none⟩) (Kd.R_far (p:=⟨gb200,3,none⟩) (Kd.R_far (p:=⟨gb200,2,none⟩) (Kd.R_far (p:=⟨gb200,1,none⟩) (Kd.R_far (p:=⟨gb200,0,none⟩) (Kd.R_types HO190.out BK200.out (by decide)) (fun _ hk => hk.2) (.slice Ao21 y188.length co21)) (fun _ hk => hk.2) (.slice Ao20 y191.length co20)) (fun _ hk => hk.2) (.int .i64 0)) (fun _ hk => hk.2) (.int .i64 0)) (fun _ hk => hk.2) (.slice Ao19 y197.length co19)) (fun _ h_ => h_.1)))) k_ hk_.2.1),(Kd.fresh' (Kd.N_lt (by (with_reducible repeat (first | apply Kd.N_alloc | apply Kd.N_drewN | apply Kd.N_drew));exact (Kd.N_mono (Kd.N_far (p:=⟨gb200,4,none⟩) (Kd.N_far (p:=⟨gb200,3,none⟩) (Kd.N_far (p:=⟨gb200,2,none⟩) (Kd.N_far (p:=⟨gb200,1,none⟩) (Kd.N_far (p:=⟨gb200,0,none⟩) (Kd.N_mono HO193.out (fun k_ hk => (⟨hk,hk.2⟩ : _ ∧ k_ ≠ gb200))) (fun _ hk => hk.2) (.slice Ao21 y188.length co21)) (fun _ hk => hk.2) (.slice Ao20 y191.length co20)) (fun _ hk => hk.2) (.int .i64 0)) (fun _ hk => hk.2) (.int .i64 0)) (fun _ hk => hk.2) (.slice Ao19 y197.length co19)) (fun _ h_ => h_.1)))) k_ hk_.2.1),(Kd.fresh' (Kd.N_lt (by (with_reducible repeat (first | apply Kd.N_alloc | apply Kd.N_drewN | apply Kd.N_drew));exact (Kd.N_mono (Kd.N_far (p:=⟨gb200,4,none⟩) (Kd.N_far (p:=⟨gb200,3,none⟩) (Kd.N_far (p:=⟨gb200,2,none⟩) (Kd.N_far (p:=⟨gb200,1,none⟩) (Kd.N_far (p:=⟨gb200,0,none⟩) (Kd.N_mono HO199.out (fun k_ hk => (⟨hk,hk.2⟩ : _ ∧ k_ ≠ gb200))) (fun _ hk => hk.2) (.slice Ao21 y188.length co21)) (fun _ hk => hk.2) (.slice Ao20 y191.length co20)) (fun _ hk => hk.2) (.int .i64 0)) (fun _ hk => hk.2) (.int .i64 0)) (fun _ hk => hk.2) (.slice Ao19 y197.length co19)) (fun _ h_ => h_.1)))) k_ hk_.2.1),(Kd.freshB (g:=gb200) (o := .cells #[.slice Ao21 y188.length co21,.slice Ao20 y191.length co20,.int .i64 0,.int .i64 0,.slice Ao19 y197.length co19] 26 (0,0)) (by (with_reducible repeat (first | refine blk_drewN ?_ _ | refine blk_drew ?_ | refine blk_alloc ?_ _));refine blk_put (cs:=#[.slice Ao21 y188.length co21,.slice Ao20 y191.length co20,.int .i64 0,.int .i64 0,.slice none 0 0]) ?_ 4 _ rfl;(with_reducible repeat (first | refine blk_drewN ?_ _ | refine blk_drew ?_ | refine blk_alloc ?_ _));refine blk_put (cs:=#[.slice Ao21 y188.length co21,.slice Ao20 y191.length co20,.int .i64 0,.int .i64 0,.slice none 0 0]) ?_ 3 _ rfl;(with_reducible repeat (first | refine blk_drewN ?_ _ | refine blk_drew ?_ | refine blk_alloc ?_ _));refine blk_put (cs:=#[.slice Ao21 y188.length co21,.slice Ao20 y191.length co20,.int .i64 0,.int .i64 0,.slice none 0 0]) ?_ 2 _ rfl;(with_reducible repeat (first | refine blk_drewN ?_ _ | refine blk_drew ?_ | refine blk_alloc ?_ _));refine blk_put (cs:=#[.slice Ao21 y188.length co21,.slice none 0 0,.int .i64 0,.int .i64 0,.slice none 0 0]) ?_ 1 _ rfl;(with_reducible repeat (first | refine blk_drewN ?_ _ | refine blk_drew ?_ | refine blk_alloc ?_ _));refine blk_put (cs:=#[.slice none 0 0,.slice none 0 0,.int .i64 0,.int .i64 0,.slice none 0 0]) ?_ 0 _ rfl;(with_reducible repeat (first | refine blk_drewN ?_ _ | refine blk_drew ?_ | refine blk_alloc ?_ _));exact BK200.out) k_ hk_.2.1)⟩)) (below_size (by repeat (first | (with_reducible first | exact HB.out | apply below_alloc | apply pw_below_drewN | apply below_drew1 | refine below_set ?_ GE200.out) | exact HB.out))));have n4_:=Aside0.mk (Kd.R_lower ho1 (below_size (by repeat (first | (with_reducible first | exact HB.out | apply below_alloc | apply pw_below_drewN | apply below_drew1 | refine below_set ?_ GE200.out) | exact HB.out))));have n5_:=Aside0.mk (blk_below (g:=gb200) (o := .cells #[.slice Ao21 y188.length co21,.slice Ao20 y191.length co20,.int .i64 0,.int .i64 0,.slice Ao19 y197.length co19] 26 (0,0)) (by (with_reducible repeat (first | refine blk_drewN ?_ _ | refine blk_drew ?_ | refine blk_alloc ?_ _));refine blk_put (cs:=#[.slice Ao21 y188.length co21,.slice Ao20 y191.length co20,.int .i64 0,.int .i64 0,.slice none 0 0]) ?_ 4 _ rfl;(with_reducible repeat (first | refine blk_drewN ?_ _ | refine blk_drew ?_ | refine blk_alloc ?_ _));refine blk_put (cs:=#[.slice Ao21 y188.length co21,.slice Ao20 y191.length co20,.int .i64 0,.int .i64 0,.slice none 0 0]) ?_ 3 _ rfl;(with_reducible repeat (first | refine blk_drewN ?_ _ | refine blk_drew ?_ | refine blk_alloc ?_ _));refine blk_put (cs:=#[.slice Ao21 y188.length co21,.slice Ao20 y191.length co20,.int .i64 0,.int .i64 0,.slice none 0 0]) ?_ 2 _ rfl;(with_reducible repeat (first | refine blk_drewN ?_ _ | refine blk_drew ?_ | refine blk_alloc ?_ _));refine blk_put (cs:=#[.slice Ao21 y188.length co21,.slice none 0 0,.int .i64 0,.int .i64 0,.slice none 0 0]) ?_ 1 _ rfl;(with_reducible repeat (first | refine blk_drewN ?_ _ | refine blk_drew ?_ | refine blk_alloc ?_ _));refine blk_put (cs:=#[.slice none 0 0,.slice none 0 0,.int .i64 0,.int .i64 0,.slice none 0 0]) ?_ 0 _ rfl;(with_reducible repeat (first | refine blk_drewN ?_ _ | refine blk_drew ?_ | refine blk_alloc ?_ _));exact BK200.out) hb);have n6_:=Aside0.mk (below_step (by repeat (first | (with_reducible first | exact HB.out | apply below_alloc | apply pw_below_drewN | apply below_drew1 | refine below_set ?_ GE200.out) | exact HB.out)) hb);clear HO190;clear HO193;clear HO199;clear BK200;clear HB;have HO190:=n0_;have HO193:=n1_;have HO199:=n2_;have HO203:=n3_;have HO206:=n4_;have BK200:=n5_;have HB:=n6_;clear n0_ n1_ n2_ n3_ n4_ n5_ n6_;(try clear hb);(try clear hb2);(try clear hk);(try clear hi);(try clear ho0);(try clear ho1);have hcz25_0 : w24.cell? ⟨gb200,0,none⟩ = some (.slice Ao21 y188.length co21) := (blk_cell BK200.out 0).trans rfl;have hcz25_1 : w24.cell? ⟨gb200,1,none⟩ = some (.slice Ao20 y191.length co20) := (blk_cell BK200.out 1).trans rfl;have hcz25_2 : w24.cell? ⟨gb200,2,none⟩ = some (.int .i64 0) := (blk_cell BK200.out 2).trans rfl;have hcz25_3 : w24.cell? ⟨gb200,3,none⟩ = some (.int .i64 0) := (blk_cell BK200.out 3).trans rfl;have hcz25_4 : w24.cell? ⟨gb200,4,none⟩ = some (.slice Ao19 y197.length co19) := (blk_cell BK200.out 4).trans rfl;have hfz25_0:=blk_frozen BK200.out 0;have hfz25_1:=blk_frozen BK200.out 1;have hfz25_2:=blk_frozen BK200.out 2;have hfz25_3:=blk_frozen BK200.out 3;have hfz25_4:=blk_frozen BK200.out 4) | ((with_reducible refine gate_builtin (b := .append) (xs:=#[.tmp 21,.tmp 23]) rfl ?_);(try (refine gate_guard (by rfl) ?_;dsimp only));at_builtin;refine Kd.N_append k30 (w0:=w) w.heap.size rfl (.tmp 21) (.tmp 23) 24 30 (.agg #[(.int .i64 0),(.slice none 0 0)]) 32 rfl Try.underlying24 info30 rfl (by decide) (by omega) (.slice Ao19 y197.length co19) y197 (⟨0,([] : List (S53))⟩ : S30) [.int .i64 0,.slice none 0 0] (fun k_ => some k_ ≠ (.slice Ao21 y188.length co21 : Value).ownBlock ∧ some k_ ≠ (.slice Ao20 y191.length co20 : Value).ownBlock ∧ some k_ ≠ (v202 : Value).ownBlock ∧ some k_ ≠ (v205 : Value).ownBlock ∧ k_ ≠ gb200) (fun k_ => ((fun k_ => some k_ ≠ (.slice Ao21 y188.length co21 : Value).ownBlock ∧ some k_ ≠ (.slice Ao20 y191.length co20 : Value).ownBlock ∧ some k_ ≠ (v202 : Value).ownBlock ∧ some k_ ≠ (v205 : Value).ownBlock ∧ k_ ≠ gb200)) k_ ∧ some k_ ≠ (.slice Ao19 y197.length co19 : Value).ownBlock) rfl rfl ?aP (fun _ hk => hk) ?aF ?aO ?aB ?aS ?aL ?_;(case aP => exact (k30_mkF _ _ (⟨0,([] : List (S53))⟩ : S30) (Nat.le_refl _) (Kd.F_nil _ _ _)));(case aB => exact (by repeat (first | (with_reducible first | exact HB.out | apply below_alloc | apply pw_below_drewN | apply below_drew1 | refine below_set ?_ GE200.out) | exact HB.out)));(case aF => exact (fun k_ hk => ⟨Kd.fresh' (Kd.R_lt (by (with_reducible repeat (first | apply Kd.R_alloc | apply Kd.R_drewN | apply Kd.R_drew));exact HO190.out)) k_ hk,Kd.fresh' (Kd.N_lt (by (with_reducible repeat (first | apply Kd.N_alloc | apply Kd.N_drewN | apply Kd.N_drew));exact HO193.out)) k_ hk,Kd.fresh' (Kd.N_lt (by (with_reducible repeat (first | apply Kd.N_alloc | apply Kd.N_drewN | apply Kd.N_drew));exact HO203.out)) k_ hk,Kd.fresh' (Kd.R_lt (by (with_reducible repeat (first | apply Kd.R_alloc | apply Kd.R_drewN | apply Kd.R_drew));exact HO206.out)) k_ hk,Kd.freshB (g:=gb200) (o := .cells #[.slice Ao21 y188.length co21,.slice Ao20 y191.length co20,.int .i64 0,.int .i64 0,.slice Ao19 y197.length co19] 26 (0,0)) (by (with_reducible repeat (first | refine blk_drewN ?_ _ | refine blk_drew ?_ | refine blk_alloc ?_ _));exact BK200.out) k_ hk⟩));(case aO => exact (by (with_reducible repeat (first | apply Kd.N_alloc | apply Kd.N_drewN | apply Kd.N_drew));exact Kd.N_mono HO199.out (fun _ hk => ⟨hk.1.1.1.1,⟨hk.1.1.1.2,⟨hk.1.2,⟨hk.2,hk.1.1.2⟩⟩⟩⟩)));(case aS => exact (below_size (by repeat (first | (with_reducible first | exact HB.out | apply below_alloc | apply pw_below_drewN | apply below_drew1 | refine below_set ?_ GE200.out) | exact HB.out))));(case aL => have:=LMc3.out;omega);intro v208 w26 ho hb hg hat;rw [← Ny207.out] at ho;have n0_:=Aside0.mk (Kd.R_over' (by (with_reducible repeat (first | apply Kd.R_alloc | apply Kd.R_drewN | apply Kd.R_drew));exact HO190.out) (Kd.N_typed (by (with_reducible repeat (first | apply Kd.N_alloc | apply Kd.N_drewN | apply Kd.N_drew));exact HO199.out)) (by decide) hg);have n1_:=Aside0.mk (Kd.N_afterv (ok:=(fun k_ => some k_ ≠ (.slice Ao21 y188.length co21 : Value).ownBlock ∧ some k_ ≠ (v202 : Value).ownBlock ∧ some k_ ≠ (v205 : Value).ownBlock ∧ k_ ≠ gb200)) (by (with_reducible repeat (first | apply Kd.N_alloc | apply Kd.N_drewN | apply Kd.N_drew));exact Kd.N_mono HO193.out (fun _ hk => ⟨⟨hk.1.1.1.1.1,⟨hk.1.2,⟨hk.2,hk.1.1.2⟩⟩⟩,hk.1.1.1.2⟩)) hg hat);have n2_:=Aside0.mk (blk_grown (g:=gb200) (o := .cells #[.slice Ao21 y188.length co21,.slice Ao20 y191.length co20,.int .i64 0,.int .i64 0,.slice Ao19 y197.length co19] 26 (0,0)) (by (with_reducible repeat (first | refine blk_drewN ?_ _ | refine blk_drew ?_ | refine blk_alloc ?_ _));exact BK200.out) hg (Kd.N_ne HO199.out BK200.out (by decide)));have n3_:=Aside0.mk (Kd.N_afterv (ok:=(fun k_ => some k_ ≠ (.slice Ao21 y188.length co21 : Value).ownBlock ∧ some k_ ≠ (.slice Ao20 y191.length co20 : Value).ownBlock ∧ some k_ ≠ (v205 : Value).ownBlock ∧ k_ ≠ gb200)) (by (with_reducible repeat (first | apply Kd.N_alloc | apply Kd.N_drewN | apply Kd.N_drew));exact Kd.N_mono HO203.out (fun _ hk => ⟨⟨hk.2.1,⟨hk.2.2.1,⟨hk.1,hk.2.2.2.2⟩⟩⟩,hk.2.2.2.1⟩)) hg hat);have n4_:=Aside0.mk (Kd.R_over' (by (with_reducible repeat (first | apply Kd.R_alloc | apply Kd.R_drewN | apply Kd.R_drew));exact HO206.out) (Kd.N_typed (by (with_reducible repeat (first | apply Kd.N_alloc | apply Kd.N_drewN | apply Kd.N_drew));exact HO199.out)) (by decide) hg);have n5_:=Aside0.mk (hb);have n6_:=Aside0.mk (ho);clear HO190;clear HO193;clear BK200;clear HO203;clear HO206;clear HB;clear HO199;have HO190:=n0_;have HO193:=n1_;have BK200:=n2_;have HO203:=n3_;have HO206:=n4_;have HB:=n5_;have HO209:=n6_;clear n0_ n1_ n2_ n3_ n4_ n5_ n6_;clear ho hb hg hat;obtain ⟨Ao27,co27,eo27⟩ := Kd.N_slice HO209.out;subst eo27;have hcz28_0 : w26.cell? ⟨gb200,0,none⟩ = some (.slice Ao21 y188.length co21) := (blk_cell BK200.out 0).trans rfl;have hcz28_1 : w26.cell? ⟨gb200,1,none⟩ = some (.slice Ao20 y191.length co20) := (blk_cell BK200.out 1).trans rfl;have hcz28_2 : w26.cell? ⟨gb200,2,none⟩ = some (.int .i64 0) := (blk_cell BK200.out 2).trans rfl;have hcz28_3 : w26.cell? ⟨gb200,3,none⟩ = some (.int .i64 0) := (blk_cell BK200.out 3).trans rfl;have hcz28_4 : w26.cell? ⟨gb200,4,none⟩ = some (.slice Ao19 y197.length co19) := (blk_cell BK200.out 4).trans rfl;have hfz28_0:=blk_frozen BK200.out 0;have hfz28_1:=blk_frozen BK200.out 1;have hfz28_2:=blk_frozen BK200.out 2;have hfz28_3:=blk_frozen BK200.out 3;have hfz28_4:=blk_frozen BK200.out 4) | ((with_reducible refine gate_callee (f:=13) rfl ?_);refine goesL_ (some 28) rfl rfl Try.func13 (by kernel_rfl) rfl #[.agg #[.slice Ao21 y188.length co21,.slice Ao20 y191.length co20,.int .i64 0,.int .i64 0,.slice Ao27 y207.length co27]] rfl (by (try simp only [List.map_toArray,List.map_cons,List.map_nil]);first | done | rfl | (simp only [List.length_drop,List.length_take];rfl)) ?_;(with_reducible refine (predict_Predict.calls k _ _ y188 _ _ y191 0 0 _ _ y207 t210 t213 _ ?side1 ?side2 ?side3 ?side4 ?side5 ?side6 A4.out).mono ?_);(case side1 => refine (Kd.R_reads' (e:=9) (base:=w.heap.size) (ok:=fun k_ => True) (n:=y188.length) (c:=co21) ?_).2.2;exact (by (with_reducible repeat (first | apply Kd.R_alloc | apply Kd.R_drewN | apply Kd.R_drew));exact (Kd.R_mono (Kd.R_far (p:=⟨gb200,4,none⟩) (Kd.R_types HO190.out BK200.out (by decide)) (fun _ hk => hk.2) (.slice Ao27 y207.length co27)) (fun _ h_ => h_.1))));(case side2 => exact (Kd.R_reads' HO190.out).2.1);(case side3 => refine (Kd.N_reads' (e:=61) (base:=w.heap.size) (ok:=fun k_ => ((some k_ ≠ (.slice Ao21 y188.length co21 : Value).ownBlock ∧ (some k_ ≠ (v202 : Value).ownBlock ∧ (some k_ ≠ (v205 : Value).ownBlock ∧ k_ ≠ gb200))) ∧ some k_ ≠ (.slice Ao27 y207.length co27 : Value).ownBlock)) (n:=y191.length) (c:=co20) ?_).2.2;exact (by (with_reducible repeat (first | apply Kd.N_alloc | apply Kd.N_drewN | apply Kd.N_drew));exact (Kd.N_mono (Kd.N_far (p:=⟨gb200,4,none⟩) (Kd.N_mono HO193.out (fun k_ hk => (⟨hk,hk.1.2.2.2⟩ : _ ∧ k_ ≠ gb200))) (fun _ hk => hk.2) (.slice Ao27 y207.length co27)) (fun _ h_ => h_.1))));(case side4 => exact (Kd.N_reads' HO193.out).2.1);(case side5 => refine (Kd.N_reads' (e:=30) (base:=w.heap.size) (ok:=fun k_ => (some k_ ≠ (.slice Ao21 y188.length co21 : Value).ownBlock ∧ (some k_ ≠ (.slice Ao20 y191.length co20 : Value).ownBlock ∧ (some k_ ≠ (v202 : Value).ownBlock ∧ (some k_ ≠ (v205 : Value).ownBlock ∧ k_ ≠ gb200))))) (n:=y207.length) (c:=co27) ?_).2.2;exact (by (with_reducible repeat (first | apply Kd.N_alloc | apply Kd.N_drewN | apply Kd.N_drew));exact (Kd.N_mono (Kd.N_far (p:=⟨gb200,4,none⟩) (Kd.N_mono HO209.out (fun k_ hk => (⟨hk,hk.2.2.2.2⟩ : _ ∧ k_ ≠ gb200))) (fun _ hk => hk.2) (.slice Ao27 y207.length co27)) (fun _ h_ => h_.1))));(case side6 => exact (Kd.N_reads' HO209.out).2.1);rintro e w29 ⟨v211,v214,rfl,ho0,ho1,hb⟩;refine ⟨_,rfl,?_⟩;have n0_:=Aside0.mk (Kd.R_below (by (with_reducible repeat (first | apply Kd.R_alloc | apply Kd.R_drewN | apply Kd.R_drew));exact (Kd.R_mono (Kd.R_far (p:=⟨gb200,4,none⟩) (Kd.R_types HO190.out BK200.out (by decide)) (fun _ hk => hk.2) (.slice Ao27 y207.length co27)) (fun _ h_ => h_.1))) hb);have n1_:=Aside0.mk (Kd.N_mono (Kd.N_told (Kd.N_told (Kd.N_old (by (with_reducible repeat (first | apply Kd.N_alloc | apply Kd.N_drewN | apply Kd.N_drew));exact (Kd.N_mono (Kd.N_far (p:=⟨gb200,4,none⟩) (Kd.N_mono HO193.out (fun k_ hk => (⟨hk,hk.1.2.2.2⟩ : _ ∧ k_ ≠ gb200))) (fun _ hk => hk.2) (.slice Ao27 y207.length co27)) (fun _ h_ => h_.1))) hb) (Kd.N_base (Kd.S_N ho0))) (Kd.R_base ho1)) (fun _ h_ => h_.1));have n2_:=Aside0.mk (Kd.N_mono (Kd.N_told (Kd.N_told (Kd.N_old (by (with_reducible repeat (first | apply Kd.N_alloc | apply Kd.N_drewN | apply Kd.N_drew));exact (Kd.N_mono (Kd.N_far (p:=⟨gb200,4,none⟩) (Kd.N_mono HO203.out (fun k_ hk => (⟨hk,hk.1.2.2.2⟩ : _ ∧ k_ ≠ gb200))) (fun _ hk => hk.2) (.slice Ao27 y207.length co27)) (fun _ h_ => h_.1))) hb) (Kd.N_base (Kd.S_N ho0))) (Kd.R_base ho1)) (fun _ h_ => h_.1));have n3_:=Aside0.mk (Kd.R_elder' (by (with_reducible repeat (first | apply Kd.R_alloc | apply Kd.R_drewN | apply Kd.R_drew));exact (Kd.R_mono (Kd.R_far (p:=⟨gb200,4,none⟩) (Kd.R_types HO206.out BK200.out (by decide)) (fun _ hk => hk.2) (.slice Ao27 y207.length co27)) (fun _ h_ => h_.1))) (Kd.R_base ho1) hb);have n4_:=Aside0.mk (Kd.N_mono (Kd.N_told (Kd.N_told (Kd.N_old (by (with_reducible repeat (first | apply Kd.N_alloc | apply Kd.N_drewN | apply Kd.N_drew));exact (Kd.N_mono (Kd.N_far (p:=⟨gb200,4,none⟩) (Kd.N_mono HO209.out (fun k_ hk => (⟨hk,hk.2.2.2.2⟩ : _ ∧ k_ ≠ gb200))) (fun _ hk => hk.2) (.slice Ao27 y207.length co27)) (fun _ h_ => h_.1))) hb) (Kd.N_base (Kd.S_N ho0))) (Kd.R_base ho1)) (fun _ h_ => h_.1));have n5_:=Aside0.mk (Kd.N_lower (Kd.N_mono (ok' := fun k_ => some k_ ≠ (v214 : Value).ownBlock ∧ some k_ ≠ (.slice Ao21 y188.length co21 : Value).ownBlock ∧ some k_ ≠ (.slice Ao20 y191.length co20 : Value).ownBlock ∧ some k_ ≠ (v202 : Value).ownBlock ∧ some k_ ≠ (v205 : Value).ownBlock ∧ some k_ ≠ (.slice Ao27 y207.length co27 : Value).ownBlock ∧ k_ ≠ gb200) (Kd.S_N (Kd.S_bound (Kd.S_apart' ho0 (Kd.R_typed ho1) (by decide)))) (fun k_ hk_ => ⟨hk_.1.2,(Kd.fresh' (Kd.R_lt (by (with_reducible repeat (first | apply Kd.R_alloc | apply Kd.R_drewN | apply Kd.R_drew));exact (Kd.R_mono (Kd.R_far (p:=⟨gb200,4,none⟩) (Kd.R_types HO190.out BK200.out (by decide)) (fun _ hk => hk.2) (.slice Ao27 y207.length co27)) (fun _ h_ => h_.1)))) k_ hk_.2.1),(Kd.fresh' (Kd.N_lt (by (with_reducible repeat (first | apply Kd.N_alloc | apply Kd.N_drewN | apply Kd.N_drew));exact (Kd.N_mono (Kd.N_far (p:=⟨gb200,4,none⟩) (Kd.N_mono HO193.out (fun k_ hk => (⟨hk,hk.1.2.2.2⟩ : _ ∧ k_ ≠ gb200))) (fun _ hk => hk.2) (.slice Ao27 y207.length co27)) (fun _ h_ => h_.1)))) k_ hk_.2.1),(Kd.fresh' (Kd.N_lt (by (with_reducible repeat (first | apply Kd.N_alloc | apply Kd.N_drewN | apply Kd.N_drew));exact (Kd.N_mono (Kd.N_far (p:=⟨gb200,4,none⟩) (Kd.N_mono HO203.out (fun k_ hk => (⟨hk,hk.1.2.2.2⟩ : _ ∧ k_ ≠ gb200))) (fun _ hk => hk.2) (.slice Ao27 y207.length co27)) (fun _ h_ => h_.1)))) k_ hk_.2.1),(Kd.fresh' (Kd.R_lt (by (with_reducible repeat (first | apply Kd.R_alloc | apply Kd.R_drewN | apply Kd.R_drew));exact (Kd.R_mono (Kd.R_far (p:=⟨gb200,4,none⟩) (Kd.R_types HO206.out BK200.out (by decide)) (fun _ hk => hk.2) (.slice Ao27 y207.length co27)) (fun _ h_ => h_.1)))) k_ hk_.2.1),(Kd.fresh' (Kd.N_lt (by (with_reducible repeat (first | apply Kd.N_alloc | apply Kd.N_drewN | apply Kd.N_drew));exact (Kd.N_mono (Kd.N_far (p:=⟨gb200,4,none⟩) (Kd.N_mono HO209.out (fun k_ hk => (⟨hk,hk.2.2.2.2⟩ : _ ∧ k_ ≠ gb200))) (fun _ hk => hk.2) (.slice Ao27 y207.length co27)) (fun _ h_ => h_.1)))) k_ hk_.2.1),(Kd.freshB (g:=gb200) (o := .cells #[.slice Ao21 y188.length co21,.slice Ao20 y191.length co20,.int .i64 0,.int .i64 0,.slice Ao27 y207.length co27] 26 (0,0)) (by (with_reducible repeat (first | refine blk_drewN ?_ _ | refine blk_drew ?_ | refine blk_alloc ?_ _));refine blk_put (cs:=#[.slice Ao21 y188.length co21,.slice Ao20 y191.length co20,.int .i64 0,.int .i64 0,.slice Ao19 y197.length co19]) ?_ 4 _ rfl;(with_reducible repeat (first | refine blk_drewN ?_ _ | refine blk_drew ?_ | refine blk_alloc ?_ _));exact BK200.out) k_ hk_.2.1)⟩)) (below_size (by repeat (first | (with_reducible first | exact HB.out | apply below_alloc | apply pw_below_drewN | apply below_drew1 | refine below_set ?_ GE200.out) | exact HB.out))));have n6_:=Aside0.mk (Kd.R_lower (Kd.R_new' ho1 (Kd.R_lt (by (with_reducible repeat (first | apply Kd.R_alloc | apply Kd.R_drewN | apply Kd.R_drew));exact (Kd.R_mono (Kd.R_far (p:=⟨gb200,4,none⟩) (Kd.R_types HO206.out BK200.out (by decide)) (fun _ hk => hk.2) (.slice Ao27 y207.length co27)) (fun _ h_ => h_.1))))) (below_size (by repeat (first | (with_reducible first | exact HB.out | apply below_alloc | apply pw_below_drewN | apply below_drew1 | refine below_set ?_ GE200.out) | exact HB.out))));have n7_:=Aside0.mk (blk_below (g:=gb200) (o := .cells #[.slice Ao21 y188.length co21,.slice Ao20 y191.length co20,.int .i64 0,.int .i64 0,.slice Ao27 y207.length co27] 26 (0,0)) (by (with_reducible repeat (first | refine blk_drewN ?_ _ | refine blk_drew ?_ | refine blk_alloc ?_ _));refine blk_put (cs:=#[.slice Ao21 y188.length co21,.slice Ao20 y191.length co20,.int .i64 0,.int .i64 0,.slice Ao19 y197.length co19]) ?_ 4 _ rfl;(with_reducible repeat (first | refine blk_drewN ?_ _ | refine blk_drew ?_ | refine blk_alloc ?_ _));exact BK200.out) hb);have n8_:=Aside0.mk (below_step (by repeat (first | (with_reducible first | exact HB.out | apply below_alloc | apply pw_below_drewN | apply below_drew1 | refine below_set ?_ GE200.out) | exact HB.out)) hb);clear HO190;clear HO193;clear HO203;clear HO206;clear HO209;clear BK200;clear HB;have HO190:=n0_;have HO193:=n1_;have HO203:=n2_;have HO206:=n3_;have HO209:=n4_;have HO212:=n5_;have HO215:=n6_;have BK200:=n7_;have HB:=n8_;clear n0_ n1_ n2_ n3_ n4_ n5_ n6_ n7_ n8_;(try clear hb);(try clear hb2);(try clear hk);(try clear hi);(try clear ho0);(try clear ho1);obtain ⟨Ao30,co30,eo30⟩ := Kd.R_slice HO206.out;subst eo30) | ((with_reducible refine gate_dst (N:=36) rfl ?_);(try (refine gate_guard (by rfl) ?_;dsimp only));refine Kd.R_lit (Kd.int .i64) _ 3 ?hg (N:=36) ?hd (xs:=([0,1] : List Int)) (inner := [.int .i64 0,.int .i64 1]) (ok:=fun _ => True) (okp:=fun _ => True) ?hr ?hp (fun _ hk => hk) trivial (Below.refl _ _) (Nat.le_refl _) (by simp) ?_;(case hd => rfl);(case hg => rfl);(case hr => first | (go_simp;done) | (go_simp;rfl));(case hp => exact (Reps.one (show Kd.M (Kd.int .i64) _ _ _ 0 [.int .i64 0] from rfl) (Reps.one (show Kd.M (Kd.int .i64) _ _ _ 1 [.int .i64 1] from rfl) (Reps.none _ _))));intro v217 w31 ho32 hb hg_ hnew_;clear hg_ hnew_;(first | rw [← Ny216.out] at ho32 | (simp only [Int.reduceToNat] at ho32;rw [← Ny216.out] at ho32));have n0_:=Aside0.mk (Kd.R_below (by (with_reducible repeat (first | apply Kd.R_alloc | apply Kd.R_drewN | apply Kd.R_drew));exact HO190.out) hb);have n1_:=Aside0.mk (Kd.N_elder' (by (with_reducible repeat (first | apply Kd.N_alloc | apply Kd.N_drewN | apply Kd.N_drew));exact HO193.out) (Kd.R_base ho32) hb);have n2_:=Aside0.mk (Kd.N_elder' (by (with_reducible repeat (first | apply Kd.N_alloc | apply Kd.N_drewN | apply Kd.N_drew));exact HO203.out) (Kd.R_base ho32) hb);have n3_:=Aside0.mk (Kd.R_below (by (with_reducible repeat (first | apply Kd.R_alloc | apply Kd.R_drewN | apply Kd.R_drew));exact HO206.out) hb);have n4_:=Aside0.mk (Kd.N_elder' (by (with_reducible repeat (first | apply Kd.N_alloc | apply Kd.N_drewN | apply Kd.N_drew));exact HO209.out) (Kd.R_base ho32) hb);have n5_:=Aside0.mk (Kd.N_elder' (by (with_reducible repeat (first | apply Kd.N_alloc | apply Kd.N_drewN | apply Kd.N_drew));exact HO212.out) (Kd.R_base ho32) hb);have n6_:=Aside0.mk (Kd.R_below (by (with_reducible repeat (first | apply Kd.R_alloc | apply Kd.R_drewN | apply Kd.R_drew));exact HO215.out) hb);have n7_:=Aside0.mk (Kd.R_lower ho32 (below_size (by repeat (first | (with_reducible first | exact HB.out | apply below_alloc | apply pw_below_drewN | apply below_drew1 | refine below_set ?_ GE200.out) | exact HB.out))));have n8_:=Aside0.mk (blk_below (g:=gb200) (o := .cells #[.slice Ao21 y188.length co21,.slice Ao20 y191.length co20,.int .i64 0,.int .i64 0,.slice Ao27 y207.length co27] 26 (0,0)) (by (with_reducible repeat (first | refine blk_drewN ?_ _ | refine blk_drew ?_ | refine blk_alloc ?_ _));exact BK200.out) hb);have n9_:=Aside0.mk (below_step (by repeat (first | (with_reducible first | exact HB.out | apply below_alloc | apply pw_below_drewN | apply below_drew1 | refine below_set ?_ GE200.out) | exact HB.out)) hb);clear HO190;clear HO193;clear HO203;clear HO206;clear HO209;clear HO212;clear HO215;clear BK200;clear HB;have HO190:=n0_;have HO193:=n1_;have HO203:=n2_;have HO206:=n3_;have HO209:=n4_;have HO212:=n5_;have HO215:=n6_;have HO218:=n7_;have BK200:=n8_;have HB:=n9_;clear n0_ n1_ n2_ n3_ n4_ n5_ n6_ n7_ n8_ n9_;clear hb ho32;obtain ⟨Ao33,co33,eo33⟩ := Kd.R_slice HO218.out;subst eo33) | ((with_reducible refine gate_dst (N:=37) rfl ?_);(try (refine gate_guard (by rfl) ?_;dsimp only));refine Kd.N_lit (Kd.slice 3 (Kd.int .i64)) _ 43 ?hg (N' := 37) ?hd (xs:=([y216] : List (List Int))) (inner := [.slice Ao33 y216.length co33]) (ok:=(fun k_ => some k_ ≠ (.slice Ao21 y188.length co21 : Value).ownBlock ∧ some k_ ≠ (.slice Ao20 y191.length co20 : Value).ownBlock ∧ some k_ ≠ (v202 : Value).ownBlock ∧ some k_ ≠ (.slice Ao30 t204.length co30 : Value).ownBlock ∧ some k_ ≠ (.slice Ao27 y207.length co27 : Value).ownBlock ∧ some k_ ≠ (v211 : Value).ownBlock ∧ some k_ ≠ (v214 : Value).ownBlock ∧ k_ ≠ gb200)) (okp:=(fun k_ => some k_ ≠ (.slice Ao21 y188.length co21 : Value).ownBlock ∧ some k_ ≠ (.slice Ao20 y191.length co20 : Value).ownBlock ∧ some k_ ≠ (v202 : Value).ownBlock ∧ some k_ ≠ (.slice Ao30 t204.length co30 : Value).ownBlock ∧ some k_ ≠ (.slice Ao27 y207.length co27 : Value).ownBlock ∧ some k_ ≠ (v211 : Value).ownBlock ∧ some k_ ≠ (v214 : Value).ownBlock ∧ k_ ≠ gb200)) ?hr ?hp (fun _ hk => hk) ((show ∀ k_,w31.heap.size ≤ k_ → (fun k_ => some k_ ≠ (.slice Ao21 y188.length co21 : Value).ownBlock ∧ some k_ ≠ (.slice Ao20 y191.length co20 : Value).ownBlock ∧ some k_ ≠ (v202 : Value).ownBlock ∧ some k_ ≠ (.slice Ao30 t204.length co30 : Value).ownBlock ∧ some k_ ≠ (.slice Ao27 y207.length co27 : Value).ownBlock ∧ some k_ ≠ (v211 : Value).ownBlock ∧ some k_ ≠ (v214 : Value).ownBlock ∧ k_ ≠ gb200) k_ from fun k_ hk => ⟨Kd.fresh' (Kd.R_lt (by (with_reducible repeat (first | apply Kd.R_alloc | apply Kd.R_drewN | apply Kd.R_drew));exact HO190.out)) k_ hk,Kd.fresh' (Kd.N_lt (by (with_reducible repeat (first | apply Kd.N_alloc | apply Kd.N_drewN | apply Kd.N_drew));exact HO193.out)) k_ hk,Kd.fresh' (Kd.N_lt (by (with_reducible repeat (first | apply Kd.N_alloc | apply Kd.N_drewN | apply Kd.N_drew));exact HO203.out)) k_ hk,Kd.fresh' (Kd.R_lt (by (with_reducible repeat (first | apply Kd.R_alloc | apply Kd.R_drewN | apply Kd.R_drew));exact HO206.out)) k_ hk,Kd.fresh' (Kd.N_lt (by (with_reducible repeat (first | apply Kd.N_alloc | apply Kd.N_drewN | apply Kd.N_drew));exact HO209.out)) k_ hk,Kd.fresh' (Kd.N_lt (by (with_reducible repeat (first | apply Kd.N_alloc | apply Kd.N_drewN | apply Kd.N_drew));exact HO212.out)) k_ hk,Kd.fresh' (Kd.R_lt (by (with_reducible repeat (first | apply Kd.R_alloc | apply Kd.R_drewN | apply Kd.R_drew));exact HO215.out)) k_ hk,Kd.freshB (g:=gb200) (o := .cells #[.slice Ao21 y188.length co21,.slice Ao20 y191.length co20,.int .i64 0,.int .i64 0,.slice Ao27 y207.length co27] 26 (0,0)) (by (with_reducible repeat (first | refine blk_drewN ?_ _ | refine blk_drew ?_ | refine blk_alloc ?_ _));exact BK200.out) k_ hk⟩) _ (Nat.le_refl _)) (Below.refl _ _) (Nat.le_refl _) (by simp) ?_;(case hd => rfl);(case hg => rfl);(case hr => first | (go_simp;done) | (go_simp;rfl));(case hp => exact (Reps.one (show Kd.FK (Kd.slice 3 (Kd.int .i64)) _ _ y216 [.slice Ao33 y216.length co33] from (Kd.FK_slice_mk (Kd.R_reads' (Kd.R_mono (ok' := (fun k_ => some k_ ≠ (.slice Ao21 y188.length co21 : Value).ownBlock ∧ some k_ ≠ (.slice Ao20 y191.length co20 : Value).ownBlock ∧ some k_ ≠ (v202 : Value).ownBlock ∧ some k_ ≠ (.slice Ao30 t204.length co30 : Value).ownBlock ∧ some k_ ≠ (.slice Ao27 y207.length co27 : Value).ownBlock ∧ some k_ ≠ (v211 : Value).ownBlock ∧ some k_ ≠ (v214 : Value).ownBlock ∧ k_ ≠ gb200)) (Kd.R_types (Kd.R_apart' (Kd.R_apart' (Kd.R_apart' (Kd.R_apart' (Kd.R_apart' (Kd.R_apart' (Kd.R_apart' (HO218.out) (Kd.R_typed HO190.out) (by decide)) (Kd.N_typed HO193.out) (by decide)) (Kd.N_typed HO203.out) (by decide)) (Kd.R_typed HO206.out) (by decide)) (Kd.N_typed HO209.out) (by decide)) (Kd.N_typed HO212.out) (by decide)) (Kd.R_typed HO215.out) (by decide)) BK200.out (by decide)) (fun k_ hk => ⟨hk.1.1.1.1.1.1.1.2,⟨hk.1.1.1.1.1.1.2,⟨hk.1.1.1.1.1.2,⟨hk.1.1.1.1.2,⟨hk.1.1.1.2,⟨hk.1.1.2,⟨hk.1.2,hk.2⟩⟩⟩⟩⟩⟩⟩))).2.1 (Kd.R_F (Kd.R_mono (ok' := (fun k_ => some k_ ≠ (.slice Ao21 y188.length co21 : Value).ownBlock ∧ some k_ ≠ (.slice Ao20 y191.length co20 : Value).ownBlock ∧ some k_ ≠ (v202 : Value).ownBlock ∧ some k_ ≠ (.slice Ao30 t204.length co30 : Value).ownBlock ∧ some k_ ≠ (.slice Ao27 y207.length co27 : Value).ownBlock ∧ some k_ ≠ (v211 : Value).ownBlock ∧ some k_ ≠ (v214 : Value).ownBlock ∧ k_ ≠ gb200)) (Kd.R_types (Kd.R_apart' (Kd.R_apart' (Kd.R_apart' (Kd.R_apart' (Kd.R_apart' (Kd.R_apart' (Kd.R_apart' (HO218.out) (Kd.R_typed HO190.out) (by decide)) (Kd.N_typed HO193.out) (by decide)) (Kd.N_typed HO203.out) (by decide)) (Kd.R_typed HO206.out) (by decide)) (Kd.N_typed HO209.out) (by decide)) (Kd.N_typed HO212.out) (by decide)) (Kd.R_typed HO215.out) (by decide)) BK200.out (by decide)) (fun k_ hk => ⟨hk.1.1.1.1.1.1.1.2,⟨hk.1.1.1.1.1.1.2,⟨hk.1.1.1.1.1.2,⟨hk.1.1.1.1.2,⟨hk.1.1.1.2,⟨hk.1.1.2,⟨hk.1.2,hk.2⟩⟩⟩⟩⟩⟩⟩))))) (Reps.none _ _)));intro v220 w34 ho35 hb hg_ hnew_;clear hg_ hnew_;(first | rw [← Ny219.out] at ho35 | (simp only [Int.reduceToNat] at ho35;rw [← Ny219.out] at ho35));have n0_:=Aside0.mk (Kd.R_below (by (with_reducible repeat (first | apply Kd.R_alloc | apply Kd.R_drewN | apply Kd.R_drew));exact HO190.out) hb);have n1_:=Aside0.mk (Kd.N_elder' (by (with_reducible repeat (first | apply Kd.N_alloc | apply Kd.N_drewN | apply Kd.N_drew));exact HO193.out) (Kd.N_base ho35) hb);have n2_:=Aside0.mk (Kd.N_elder' (by (with_reducible repeat (first | apply Kd.N_alloc | apply Kd.N_drewN | apply Kd.N_drew));exact HO203.out) (Kd.N_base ho35) hb);have n3_:=Aside0.mk (Kd.R_below (by (with_reducible repeat (first | apply Kd.R_alloc | apply Kd.R_drewN | apply Kd.R_drew));exact HO206.out) hb);have n4_:=Aside0.mk (Kd.N_elder' (by (with_reducible repeat (first | apply Kd.N_alloc | apply Kd.N_drewN | apply Kd.N_drew));exact HO209.out) (Kd.N_base ho35) hb);have n5_:=Aside0.mk (Kd.N_elder' (by (with_reducible repeat (first | apply Kd.N_alloc | apply Kd.N_drewN | apply Kd.N_drew));exact HO212.out) (Kd.N_base ho35) hb);have n6_:=Aside0.mk (Kd.R_below (by (with_reducible repeat (first | apply Kd.R_alloc | apply Kd.R_drewN | apply Kd.R_drew));exact HO215.out) hb);have n7_:=Aside0.mk (Kd.N_lower ho35 (below_size (by repeat (first | (with_reducible first | exact HB.out | apply below_alloc | apply pw_below_drewN | apply below_drew1 | refine below_set ?_ GE200.out) | exact HB.out))));have n8_:=Aside0.mk (blk_below (g:=gb200) (o := .cells #[.slice Ao21 y188.length co21,.slice Ao20 y191.length co20,.int .i64 0,.int .i64 0,.slice Ao27 y207.length co27] 26 (0,0)) (by (with_reducible repeat (first | refine blk_drewN ?_ _ | refine blk_drew ?_ | refine blk_alloc ?_ _));exact BK200.out) hb);have n9_:=Aside0.mk (below_step (by repeat (first | (with_reducible first | exact HB.out | apply below_alloc | apply pw_below_drewN | apply below_drew1 | refine below_set ?_ GE200.out) | exact HB.out)) hb);clear HO190;clear HO193;clear HO203;clear HO206;clear HO209;clear HO212;clear HO215;clear BK200;clear HB;clear HO218;have HO190:=n0_;have HO193:=n1_;have HO203:=n2_;have HO206:=n3_;have HO209:=n4_;have HO212:=n5_;have HO215:=n6_;have HO221:=n7_;have BK200:=n8_;have HB:=n9_;clear n0_ n1_ n2_ n3_ n4_ n5_ n6_ n7_ n8_ n9_;clear hb ho35;obtain ⟨Ao36,co36,eo36⟩ := Kd.N_slice HO203.out;subst eo36;obtain ⟨Ao37,co37,eo37⟩ := Kd.N_slice HO221.out;subst eo37) | (go_at_call 18;(with_reducible refine (regletref13_SameLists.calls k _ _ t201 _ _ y219 true _ ?side1 ?side2 ?side3 ?side4 A6.out).mono ?_);(case side1 => repeat (first | exact (Kd.N_reads' HO203.out).2.2 | (with_reducible refine Kd.C_alloc ?_ _) | (with_reducible refine Kd.C_drewN ?_ _) | (with_reducible refine Kd.C_drew ?_)));(case side2 => exact (Kd.N_reads' HO203.out).2.1);(case side3 => repeat (first | exact (Kd.N_reads' HO221.out).2.2 | (with_reducible refine Kd.C_alloc ?_ _) | (with_reducible refine Kd.C_drewN ?_ _) | (with_reducible refine Kd.C_drew ?_)));(case side4 => exact (Kd.N_reads' HO221.out).2.1);rintro e w' ⟨rfl,⟨nd,rfl⟩⟩;obtain ⟨Ao38,co38,eo38⟩ := Kd.R_slice HO215.out;subst eo38;have p223 : 0 ≤ (0 : Int) := (by omega);have q223 : 0 < (t213.length : Int) := of_decide_eq_true (by first | (with_reducible assumption) | assumption);obtain ⟨ad223,e223,hx223_0,hx223_1,hx223_2,hx223_3⟩ := at_T50 (Kd.R_reads' HO215.out).2.2 0 p223 q223;cases e223;have qi223 : (0 < t213.length) = True:=eq_true (by omega);(try rw [show ((0 : Int)).toNat = 0 from rfl] at hx223_0);(try rw [show 0 * 4 = 0 from rfl] at hx223_0);(try rw [Addr.add_zero'] at hx223_0);(try rw [show ((0 : Int)).toNat = 0 from rfl] at hx223_1);(try rw [show 0 * 4 = 0 from rfl] at hx223_1);(try rw [Addr.add_zero'] at hx223_1);(try rw [show ((0 : Int)).toNat = 0 from rfl] at hx223_2);(try rw [show 0 * 4 = 0 from rfl] at hx223_2);(try rw [Addr.add_zero'] at hx223_2);(try rw [show ((0 : Int)).toNat = 0 from rfl] at hx223_3);(try rw [show 0 * 4 = 0 from rfl] at hx223_3);(try rw [Addr.add_zero'] at hx223_3);replace p223:=eq_true p223;replace q223:=eq_true q223))
   go_ret
   exact ⟨by first | rfl | (simp [errW_none,errW_some] <;> rfl) | (simp [*,errW_none,errW_some] <;> rfl),by repeat (first | (with_reducible first | exact HB.out | apply below_alloc | apply pw_below_drewN | apply below_drew1 | refine below_set ?_ GE200.out) | exact HB.out)⟩
 · replace c7:=Bool.eq_false_iff.mpr c7
   subst c7
   have H1 : (none) = some r:=by rw [if_neg (show ¬ (false = true) by decide)] at H;exact H
   clear H
   have H:=H1
   clear H1
   exact absurd H (by simp)
attribute [local go_sem] max2_int min2_int max_two min_two max_three min_three max_four min_four   -- for this text's walks alone
set_option linter.unusedVariables false
set_option linter.unusedSimpArgs false
def regletlaw14_same.f (k : Nat) (l0_0 : List ByteArray) (l0_1 : List (S61)) (a0_2 : Int) (a0_3 : Int) (l0_4 : List (S30)) : Option (Bool) := (predict_Predict.f k l0_0 l0_1 a0_2 a0_3 l0_4).bind fun bt328 => ((regletref14_Predict.f k l0_0 l0_1 a0_2 a0_3 l0_4).bind fun bt334 => ((regletref13_SameLists.f k bt328.1 bt334.1).bind fun t340 => (if t340 = true then ((regletref14_SameClashes.f k bt328.2 bt334.2).bind fun t341 => (some t341)) else (none))))
set_option maxHeartbeats 8000000 in
set_option maxRecDepth 100000 in
theorem regletlaw14_same.calls (k : Nat) (A0_0 : Option Addr) (c0_0 : Nat) (l0_0 : List ByteArray) (A0_1 : Option Addr) (c0_1 : Nat) (l0_1 : List (S61)) (a0_2 : Int) (a0_3 : Int) (A0_4 : Option Addr) (c0_4 : Nat) (l0_4 : List (S30)) (r : Bool) (w : World) (hr0_0 : Kd.C Kd.string w A0_0 l0_0.length l0_0) (hc0_0 : l0_0.length ≤ c0_0) (hr0_1 : Kd.C k61 w A0_1 l0_1.length l0_1) (hc0_1 : l0_1.length ≤ c0_1) (hr0_4 : Kd.C k30 w A0_4 l0_4.length l0_4) (hc0_4 : l0_4.length ≤ c0_4) (h : regletlaw14_same.f k l0_0 l0_1 a0_2 a0_3 l0_4 = some r) :
    Calls Try.prog 10 #[.agg #[.slice A0_0 l0_0.length c0_0,.slice A0_1 l0_1.length c0_1,.int .i64 a0_2,.int .i64 a0_3,.slice A0_4 l0_4.length c0_4]] w fun e w' => e = .returned (.bool r) ∧ Below w.heap.size w w' := by
 have hu26:=Try.underlying26
 have HR0_0:=Aside0.mk hr0_0
 have HC0_0:=Aside0.mk hc0_0
 clear hr0_0 hc0_0
 have HR0_1:=Aside0.mk hr0_1
 have HC0_1:=Aside0.mk hc0_1
 clear hr0_1 hc0_1
 have HR0_4:=Aside0.mk hr0_4
 have HC0_4:=Aside0.mk hc0_4
 clear hr0_4 hc0_4
 have HB:=Aside0.mk (Below.refl w.heap.size w)
 have H : ((predict_Predict.f k l0_0 l0_1 a0_2 a0_3 l0_4).bind fun bt328 => ((regletref14_Predict.f k l0_0 l0_1 a0_2 a0_3 l0_4).bind fun bt334 => ((regletref13_SameLists.f k bt328.1 bt334.1).bind fun t340 => (if t340 = true then ((regletref14_SameClashes.f k bt328.2 bt334.2).bind fun t341 => (some t341)) else (none))))) = some r:=h
 clear h
 replace H:=Option.bind_eq_some_iff.mp H
 obtain ⟨⟨t328,t331⟩,A20,H⟩ := H
 replace H : ((regletref14_Predict.f k l0_0 l0_1 a0_2 a0_3 l0_4).bind fun bt334 => ((regletref13_SameLists.f k t328 bt334.1).bind fun t340 => (if t340 = true then ((regletref14_SameClashes.f k t331 bt334.2).bind fun t341 => (some t341)) else (none)))) = some r:=H
 have A2:=Aside0.mk A20
 clear A20
 replace H:=Option.bind_eq_some_iff.mp H
 obtain ⟨⟨t334,t337⟩,A30,H⟩ := H
 replace H : ((regletref13_SameLists.f k t328 t334).bind fun t340 => (if t340 = true then ((regletref14_SameClashes.f k t331 t337).bind fun t341 => (some t341)) else (none))) = some r:=H
 have A3:=Aside0.mk A30
 clear A30
 replace H:=Option.bind_eq_some_iff.mp H
 obtain ⟨t340,A40,H⟩ := H
 replace H : (if t340 = true then ((regletref14_SameClashes.f k t331 t337).bind fun t341 => (some t341)) else (none)) = some r:=H
 have A4:=Aside0.mk A40
 clear A40
 by_cases c5 : t340 = true
 · subst c5
   have H1 : ((regletref14_SameClashes.f k t331 t337).bind fun t341 => (some t341)) = some r:=by rw [if_pos rfl] at H;exact H
   clear H
   have H:=H1
   clear H1
   replace H:=Option.bind_eq_some_iff.mp H
   obtain ⟨t341,A60,H⟩ := H
   replace H : (some t341) = some r:=H
   have A6:=Aside0.mk A60
   clear A60
   obtain rfl:=Option.some.inj H
   go_enter Try.func10,Try.ntmps10
   go_wp2_with (first | ((with_reducible refine gate_dst (N:=1) rfl ?_);refine box_event ?hg (N:=1) ?hd (cs:=#[.slice A0_0 l0_0.length c0_0,.slice A0_1 l0_1.length c0_1,.int .i64 a0_2,.int .i64 a0_3,.slice A0_4 l0_4.length c0_4]) (t:=26) ?hr ?_;(case hd => rfl);(case hg => rfl);(case hr => first | (go_simp;done) | (go_simp;rfl));intro gb327 hg w7 hbox hb;have n0_:=Aside0.mk (below_step (by repeat (first | (with_reducible first | exact HB.out | apply below_alloc | apply pw_below_drewN | apply below_drew1) | exact HB.out)) hb);have n1_:=Aside0.mk (hbox);have n2_:=Aside0.mk ((by rw [hg];exact (below_size (by repeat (first | (with_reducible first | exact HB.out | apply below_alloc | apply pw_below_drewN | apply below_drew1) | exact HB.out))) : w.heap.size ≤ gb327));have n3_:=Aside0.mk ((by rw [hg];exact (below_size (by repeat (first | (with_reducible first | exact HB.out | apply below_alloc | apply pw_below_drewN | apply below_drew1) | exact HB.out))) : w.heap.size ≤ gb327));clear HB;have HB:=n0_;have BK327:=n1_;have GW327:=n2_;have GE327:=n3_;clear n0_ n1_ n2_ n3_;clear hb hbox hg;have hcz8_0 : w7.cell? ⟨gb327,0,none⟩ = some (.slice A0_0 l0_0.length c0_0) := (blk_cell BK327.out 0).trans rfl;have hcz8_1 : w7.cell? ⟨gb327,1,none⟩ = some (.slice A0_1 l0_1.length c0_1) := (blk_cell BK327.out 1).trans rfl;have hcz8_2 : w7.cell? ⟨gb327,2,none⟩ = some (.int .i64 a0_2) := (blk_cell BK327.out 2).trans rfl;have hcz8_3 : w7.cell? ⟨gb327,3,none⟩ = some (.int .i64 a0_3) := (blk_cell BK327.out 3).trans rfl;have hcz8_4 : w7.cell? ⟨gb327,4,none⟩ = some (.slice A0_4 l0_4.length c0_4) := (blk_cell BK327.out 4).trans rfl;have hfz8_0:=blk_frozen BK327.out 0;have hfz8_1:=blk_frozen BK327.out 1;have hfz8_2:=blk_frozen BK327.out 2;have hfz8_3:=blk_frozen BK327.out 3;have hfz8_4:=blk_frozen BK327.out 4) | ((with_reducible refine gate_callee (f:=13) rfl ?_);refine goesL_ (some 9) rfl rfl Try.func13 (by kernel_rfl) rfl #[.agg #[.slice A0_0 l0_0.length c0_0,.slice A0_1 l0_1.length c0_1,.int .i64 a0_2,.int .i64 a0_3,.slice A0_4 l0_4.length c0_4]] rfl (by (try simp only [List.map_toArray,List.map_cons,List.map_nil]);first | done | rfl | (simp only [List.length_drop,List.length_take];rfl)) ?_;(with_reducible refine (predict_Predict.calls k _ _ l0_0 _ _ l0_1 a0_2 a0_3 _ _ l0_4 t328 t331 _ ?side1 ?side2 ?side3 ?side4 ?side5 ?side6 A2.out).mono ?_);(case side1 => repeat (first | exact (Kd.C_below HR0_0.out HB.out) | (with_reducible refine Kd.C_alloc ?_ _) | (with_reducible refine Kd.C_drewN ?_ _) | (with_reducible refine Kd.C_drew ?_)));(case side2 => exact HC0_0.out);(case side3 => repeat (first | exact (Kd.C_below HR0_1.out HB.out) | (with_reducible refine Kd.C_alloc ?_ _) | (with_reducible refine Kd.C_drewN ?_ _) | (with_reducible refine Kd.C_drew ?_)));(case side4 => exact HC0_1.out);(case side5 => repeat (first | exact (Kd.C_below HR0_4.out HB.out) | (with_reducible refine Kd.C_alloc ?_ _) | (with_reducible refine Kd.C_drewN ?_ _) | (with_reducible refine Kd.C_drew ?_)));(case side6 => exact HC0_4.out);rintro e w9 ⟨v329,v332,rfl,ho0,ho1,hb⟩;refine ⟨_,rfl,?_⟩;have n0_:=Aside0.mk (Kd.S_lower ho0 (below_size (by repeat (first | (with_reducible first | exact HB.out | apply below_alloc | apply pw_below_drewN | apply below_drew1 | refine below_set ?_ GE327.out) | exact HB.out))));have n1_:=Aside0.mk (Kd.R_lower ho1 (below_size (by repeat (first | (with_reducible first | exact HB.out | apply below_alloc | apply pw_below_drewN | apply below_drew1 | refine below_set ?_ GE327.out) | exact HB.out))));have n2_:=Aside0.mk (blk_below (g:=gb327) (o := .cells #[.slice A0_0 l0_0.length c0_0,.slice A0_1 l0_1.length c0_1,.int .i64 a0_2,.int .i64 a0_3,.slice A0_4 l0_4.length c0_4] 26 (0,0)) (by (with_reducible repeat (first | refine blk_drewN ?_ _ | refine blk_drew ?_ | refine blk_alloc ?_ _));exact BK327.out) hb);have n3_:=Aside0.mk (below_step (by repeat (first | (with_reducible first | exact HB.out | apply below_alloc | apply pw_below_drewN | apply below_drew1 | refine below_set ?_ GE327.out) | exact HB.out)) hb);clear BK327;clear HB;have HO330:=n0_;have HO333:=n1_;have BK327:=n2_;have HB:=n3_;clear n0_ n1_ n2_ n3_;(try clear hb);(try clear hb2);(try clear hk);(try clear hi);(try clear ho0);(try clear ho1);have hcz10_0 : w9.cell? ⟨gb327,0,none⟩ = some (.slice A0_0 l0_0.length c0_0) := (blk_cell BK327.out 0).trans rfl;have hcz10_1 : w9.cell? ⟨gb327,1,none⟩ = some (.slice A0_1 l0_1.length c0_1) := (blk_cell BK327.out 1).trans rfl;have hcz10_2 : w9.cell? ⟨gb327,2,none⟩ = some (.int .i64 a0_2) := (blk_cell BK327.out 2).trans rfl;have hcz10_3 : w9.cell? ⟨gb327,3,none⟩ = some (.int .i64 a0_3) := (blk_cell BK327.out 3).trans rfl;have hcz10_4 : w9.cell? ⟨gb327,4,none⟩ = some (.slice A0_4 l0_4.length c0_4) := (blk_cell BK327.out 4).trans rfl;have hfz10_0:=blk_frozen BK327.out 0;have hfz10_1:=blk_frozen BK327.out 1;have hfz10_2:=blk_frozen BK327.out 2;have hfz10_3:=blk_frozen BK327.out 3;have hfz10_4:=blk_frozen BK327.out 4) | ((with_reducible refine gate_callee (f:=19) rfl ?_);refine goesL_ (some 14) rfl rfl Try.func19 (by kernel_rfl) rfl #[.agg #[.slice A0_0 l0_0.length c0_0,.slice A0_1 l0_1.length c0_1,.int .i64 a0_2,.int .i64 a0_3,.slice A0_4 l0_4.length c0_4]] rfl (by (try simp only [List.map_toArray,List.map_cons,List.map_nil]);first | done | rfl | (simp only [List.length_drop,List.length_take];rfl)) ?_;(with_reducible refine (regletref14_Predict.calls k _ _ l0_0 _ _ l0_1 a0_2 a0_3 _ _ l0_4 t334 t337 _ ?side1 ?side2 ?side3 ?side4 ?side5 ?side6 A3.out).mono ?_);(case side1 => repeat (first | exact (Kd.C_below HR0_0.out HB.out) | (with_reducible refine Kd.C_alloc ?_ _) | (with_reducible refine Kd.C_drewN ?_ _) | (with_reducible refine Kd.C_drew ?_)));(case side2 => exact HC0_0.out);(case side3 => repeat (first | exact (Kd.C_below HR0_1.out HB.out) | (with_reducible refine Kd.C_alloc ?_ _) | (with_reducible refine Kd.C_drewN ?_ _) | (with_reducible refine Kd.C_drew ?_)));(case side4 => exact HC0_1.out);(case side5 => repeat (first | exact (Kd.C_below HR0_4.out HB.out) | (with_reducible refine Kd.C_alloc ?_ _) | (with_reducible refine Kd.C_drewN ?_ _) | (with_reducible refine Kd.C_drew ?_)));(case side6 => exact HC0_4.out);rintro e w11 ⟨v335,v338,rfl,ho0,ho1,hb⟩;refine ⟨_,rfl,?_⟩;have n0_:=Aside0.mk (Kd.S_elder' (by (with_reducible repeat (first | apply Kd.S_alloc | apply Kd.S_drewN | apply Kd.S_drew));exact HO330.out) (Kd.S_base ho0) hb);have n1_:=Aside0.mk (Kd.R_elder' (by (with_reducible repeat (first | apply Kd.R_alloc | apply Kd.R_drewN | apply Kd.R_drew));exact HO333.out) (Kd.R_base ho1) hb);have n2_:=Aside0.mk (Kd.S_lower (Kd.S_new' ho0 (Kd.S_lt (by (with_reducible repeat (first | apply Kd.S_alloc | apply Kd.S_drewN | apply Kd.S_drew));exact HO330.out))) (below_size (by repeat (first | (with_reducible first | exact HB.out | apply below_alloc | apply pw_below_drewN | apply below_drew1 | refine below_set ?_ GE327.out) | exact HB.out))));have n3_:=Aside0.mk (Kd.R_lower (Kd.R_new' ho1 (Kd.R_lt (by (with_reducible repeat (first | apply Kd.R_alloc | apply Kd.R_drewN | apply Kd.R_drew));exact HO333.out))) (below_size (by repeat (first | (with_reducible first | exact HB.out | apply below_alloc | apply pw_below_drewN | apply below_drew1 | refine below_set ?_ GE327.out) | exact HB.out))));have n4_:=Aside0.mk (blk_below (g:=gb327) (o := .cells #[.slice A0_0 l0_0.length c0_0,.slice A0_1 l0_1.length c0_1,.int .i64 a0_2,.int .i64 a0_3,.slice A0_4 l0_4.length c0_4] 26 (0,0)) (by (with_reducible repeat (first | refine blk_drewN ?_ _ | refine blk_drew ?_ | refine blk_alloc ?_ _));exact BK327.out) hb);have n5_:=Aside0.mk (below_step (by repeat (first | (with_reducible first | exact HB.out | apply below_alloc | apply pw_below_drewN | apply below_drew1 | refine below_set ?_ GE327.out) | exact HB.out)) hb);clear HO330;clear HO333;clear BK327;clear HB;have HO330:=n0_;have HO333:=n1_;have HO336:=n2_;have HO339:=n3_;have BK327:=n4_;have HB:=n5_;clear n0_ n1_ n2_ n3_ n4_ n5_;(try clear hb);(try clear hb2);(try clear hk);(try clear hi);(try clear ho0);(try clear ho1);obtain ⟨Ao12,co12,eo12⟩ := Kd.S_slice HO330.out;subst eo12;obtain ⟨Ao13,co13,eo13⟩ := Kd.S_slice HO336.out;subst eo13) | ((with_reducible refine gate_callee (f:=18) rfl ?_);refine goesL_ (some 19) rfl rfl Try.func18 (by kernel_rfl) rfl #[.slice Ao12 t328.length co12,.slice Ao13 t334.length co13] rfl (by (try simp only [List.map_toArray,List.map_cons,List.map_nil]);first | done | rfl | (simp only [List.length_drop,List.length_take];rfl)) ?_;(with_reducible refine (regletref13_SameLists.calls k _ _ t328 _ _ t334 true _ ?side1 ?side2 ?side3 ?side4 A4.out).mono ?_);(case side1 => repeat (first | exact (Kd.S_reads' HO330.out).2.2 | (with_reducible refine Kd.C_alloc ?_ _) | (with_reducible refine Kd.C_drewN ?_ _) | (with_reducible refine Kd.C_drew ?_)));(case side2 => exact (Kd.S_reads' HO330.out).2.1);(case side3 => repeat (first | exact (Kd.S_reads' HO336.out).2.2 | (with_reducible refine Kd.C_alloc ?_ _) | (with_reducible refine Kd.C_drewN ?_ _) | (with_reducible refine Kd.C_drew ?_)));(case side4 => exact (Kd.S_reads' HO336.out).2.1);rintro e w' ⟨rfl,⟨nd,rfl⟩⟩;refine ⟨_,rfl,?_⟩;obtain ⟨Ao14,co14,eo14⟩ := Kd.R_slice HO333.out;subst eo14;obtain ⟨Ao15,co15,eo15⟩ := Kd.R_slice HO339.out;subst eo15) | (go_at_call 20;(with_reducible refine (regletref14_SameClashes.calls k _ _ t331 _ _ t337 t341 _ ?side1 ?side2 ?side3 ?side4 A6.out).mono ?_);(case side1 => repeat (first | exact (Kd.R_reads' HO333.out).2.2 | (with_reducible refine Kd.C_alloc ?_ _) | (with_reducible refine Kd.C_drewN ?_ _) | (with_reducible refine Kd.C_drew ?_)));(case side2 => exact (Kd.R_reads' HO333.out).2.1);(case side3 => repeat (first | exact (Kd.R_reads' HO339.out).2.2 | (with_reducible refine Kd.C_alloc ?_ _) | (with_reducible refine Kd.C_drewN ?_ _) | (with_reducible refine Kd.C_drew ?_)));(case side4 => exact (Kd.R_reads' HO339.out).2.1);rintro e w' ⟨rfl,⟨nd,rfl⟩⟩))
   go_ret
   exact ⟨by first | rfl | (simp [errW_none,errW_some] <;> rfl) | (simp [*,errW_none,errW_some] <;> rfl),by repeat (first | (with_reducible first | exact HB.out | apply below_alloc | apply pw_below_drewN | apply below_drew1 | refine below_set ?_ GE327.out) | exact HB.out)⟩
 · replace c5:=Bool.eq_false_iff.mpr c5
   subst c5
   have H1 : (none) = some r:=by rw [if_neg (show ¬ (false = true) by decide)] at H;exact H
   clear H
   have H:=H1
   clear H1
   exact absurd H (by simp)
def regletlaw14_PredictAny.l0 : Nat → Int → List ByteArray → List (S61) → Int → Int → List (S30) → Option (Bool)
  | 0,_,_,_,_,_,_ => none
  | k + 1,x3,x343000,x343001,x343002,x343003,x343004 => if x3 < (x343004.length : Int) then (if 0 ≤ x3 then (if (((rd_T30 x343004 x3).f1).length : Int) > 10 then ((regletlaw14_awake.f k).bind fun t345 => (some t345)) else (regletlaw14_PredictAny.l0 k (wrap64 (x3 + 1)) x343000 x343001 x343002 x343003 x343004)) else (none)) else ((regletlaw14_awake.f k).bind fun t346 => (if t346 = true then ((regletlaw14_same.f k x343000 x343001 x343002 x343003 x343004).bind fun t347 => (some t347)) else (some false)))
def regletlaw14_PredictAny.f (k : Nat) (l0_0 : List ByteArray) (l0_1 : List (S61)) (a0_2 : Int) (a0_3 : Int) (l0_4 : List (S30)) : Option (Bool) := if (wrap64 ((wrap64 ((l0_0.length : Int) + (l0_1.length : Int))) + (l0_4.length : Int))) > 30 then ((regletlaw14_awake.f k).bind fun t343 => (some t343)) else (regletlaw14_PredictAny.l0 k 0 l0_0 l0_1 a0_2 a0_3 l0_4)
set_option maxHeartbeats 8000000 in
set_option maxRecDepth 100000 in
theorem regletlaw14_PredictAny.calls (k : Nat) (A0_0 : Option Addr) (c0_0 : Nat) (l0_0 : List ByteArray) (A0_1 : Option Addr) (c0_1 : Nat) (l0_1 : List (S61)) (a0_2 : Int) (a0_3 : Int) (A0_4 : Option Addr) (c0_4 : Nat) (l0_4 : List (S30)) (r : Bool) (w : World) (hr0_0 : Kd.C Kd.string w A0_0 l0_0.length l0_0) (hc0_0 : l0_0.length ≤ c0_0) (hr0_1 : Kd.C k61 w A0_1 l0_1.length l0_1) (hc0_1 : l0_1.length ≤ c0_1) (hr0_4 : Kd.C k30 w A0_4 l0_4.length l0_4) (hc0_4 : l0_4.length ≤ c0_4) (h : regletlaw14_PredictAny.f k l0_0 l0_1 a0_2 a0_3 l0_4 = some r) :
    Calls Try.prog 3 #[.agg #[.slice A0_0 l0_0.length c0_0,.slice A0_1 l0_1.length c0_1,.int .i64 a0_2,.int .i64 a0_3,.slice A0_4 l0_4.length c0_4]] w fun e w' => e = .returned (.bool r) ∧ Below w.heap.size w w' := by
 have hu26:=Try.underlying26
 have HR0_0:=Aside0.mk hr0_0
 have HC0_0:=Aside0.mk hc0_0
 clear hr0_0 hc0_0
 have HR0_1:=Aside0.mk hr0_1
 have HC0_1:=Aside0.mk hc0_1
 clear hr0_1 hc0_1
 have HR0_4:=Aside0.mk hr0_4
 have HC0_4:=Aside0.mk hc0_4
 clear hr0_4 hc0_4
 have HB:=Aside0.mk (Below.refl w.heap.size w)
 have H : (if (wrap64 ((wrap64 ((l0_0.length : Int) + (l0_1.length : Int))) + (l0_4.length : Int))) > 30 then ((regletlaw14_awake.f k).bind fun t343 => (some t343)) else (regletlaw14_PredictAny.l0 k 0 l0_0 l0_1 a0_2 a0_3 l0_4)) = some r:=h
 clear h
 by_cases c2 : (wrap64 ((wrap64 ((l0_0.length : Int) + (l0_1.length : Int))) + (l0_4.length : Int))) > 30
 · rw [if_pos c2] at H
   have c2b0 : decide (30 < (wrap64 ((wrap64 ((l0_0.length : Int) + (l0_1.length : Int))) + (l0_4.length : Int)))) = true:=decide_eq_true c2
   clear c2
   replace H:=Option.bind_eq_some_iff.mp H
   obtain ⟨t343,A30,H⟩ := H
   replace H : (some t343) = some r:=H
   have A3:=Aside0.mk A30
   clear A30
   obtain rfl:=Option.some.inj H
   go_enter Try.func3,Try.ntmps3
   go_wp2_with (first | ((with_reducible refine gate_dst (N:=1) rfl ?_);refine box_event ?hg (N:=1) ?hd (cs:=#[.slice A0_0 l0_0.length c0_0,.slice A0_1 l0_1.length c0_1,.int .i64 a0_2,.int .i64 a0_3,.slice A0_4 l0_4.length c0_4]) (t:=26) ?hr ?_;(case hd => rfl);(case hg => rfl);(case hr => first | (go_simp;done) | (go_simp;rfl));intro gb342 hg w4 hbox hb;have n0_:=Aside0.mk (below_step (by repeat (first | (with_reducible first | exact HB.out | apply below_alloc | apply pw_below_drewN | apply below_drew1) | exact HB.out)) hb);have n1_:=Aside0.mk (hbox);have n2_:=Aside0.mk ((by rw [hg];exact (below_size (by repeat (first | (with_reducible first | exact HB.out | apply below_alloc | apply pw_below_drewN | apply below_drew1) | exact HB.out))) : w.heap.size ≤ gb342));have n3_:=Aside0.mk ((by rw [hg];exact (below_size (by repeat (first | (with_reducible first | exact HB.out | apply below_alloc | apply pw_below_drewN | apply below_drew1) | exact HB.out))) : w.heap.size ≤ gb342));clear HB;have HB:=n0_;have BK342:=n1_;have GW342:=n2_;have GE342:=n3_;clear n0_ n1_ n2_ n3_;clear hb hbox hg;have hcz5_0 : w4.cell? ⟨gb342,0,none⟩ = some (.slice A0_0 l0_0.length c0_0) := (blk_cell BK342.out 0).trans rfl;have hcz5_1 : w4.cell? ⟨gb342,1,none⟩ = some (.slice A0_1 l0_1.length c0_1) := (blk_cell BK342.out 1).trans rfl;have hcz5_2 : w4.cell? ⟨gb342,2,none⟩ = some (.int .i64 a0_2) := (blk_cell BK342.out 2).trans rfl;have hcz5_3 : w4.cell? ⟨gb342,3,none⟩ = some (.int .i64 a0_3) := (blk_cell BK342.out 3).trans rfl;have hcz5_4 : w4.cell? ⟨gb342,4,none⟩ = some (.slice A0_4 l0_4.length c0_4) := (blk_cell BK342.out 4).trans rfl;have hfz5_0:=blk_frozen BK342.out 0;have hfz5_1:=blk_frozen BK342.out 1;have hfz5_2:=blk_frozen BK342.out 2;have hfz5_3:=blk_frozen BK342.out 3;have hfz5_4:=blk_frozen BK342.out 4) | ((with_reducible refine gate_callee (f:=9) rfl ?_);refine goesL_ (some 16) rfl rfl Try.func9 (by kernel_rfl) rfl #[] rfl (by (try simp only [List.map_toArray,List.map_cons,List.map_nil]);first | done | rfl | (simp only [List.length_drop,List.length_take];rfl)) ?_;(with_reducible refine (regletlaw14_awake.calls k  t343 _ A3.out).mono ?_);rintro e w6 ⟨rfl,hb⟩;refine ⟨_,rfl,?_⟩;have n0_:=Aside0.mk (blk_below (g:=gb342) (o := .cells #[.slice A0_0 l0_0.length c0_0,.slice A0_1 l0_1.length c0_1,.int .i64 a0_2,.int .i64 a0_3,.slice A0_4 l0_4.length c0_4] 26 (0,0)) (by (with_reducible repeat (first | refine blk_drewN ?_ _ | refine blk_drew ?_ | refine blk_alloc ?_ _));exact BK342.out) hb);have n1_:=Aside0.mk (below_step (by repeat (first | (with_reducible first | exact HB.out | apply below_alloc | apply pw_below_drewN | apply below_drew1 | refine below_set ?_ GE342.out) | exact HB.out)) hb);clear BK342;clear HB;have BK342:=n0_;have HB:=n1_;clear n0_ n1_;(try clear hb);(try clear hb2);(try clear hk);(try clear hi)))
   go_ret
   exact ⟨by first | rfl | (simp [errW_none,errW_some] <;> rfl) | (simp [*,errW_none,errW_some] <;> rfl),by repeat (first | (with_reducible first | exact HB.out | apply below_alloc | apply pw_below_drewN | apply below_drew1 | refine below_set ?_ GE342.out) | exact HB.out)⟩
 · rw [if_neg c2] at H
   have c2b0 : decide (30 < (wrap64 ((wrap64 ((l0_0.length : Int) + (l0_1.length : Int))) + (l0_4.length : Int)))) = false:=decide_eq_false c2
   clear c2
   have H' := Aside0.mk H
   clear H
   go_enter Try.func3,Try.ntmps3
   go_wp2_with (first | ((with_reducible refine gate_dst (N:=1) rfl ?_);refine box_event ?hg (N:=1) ?hd (cs:=#[.slice A0_0 l0_0.length c0_0,.slice A0_1 l0_1.length c0_1,.int .i64 a0_2,.int .i64 a0_3,.slice A0_4 l0_4.length c0_4]) (t:=26) ?hr ?_;(case hd => rfl);(case hg => rfl);(case hr => first | (go_simp;done) | (go_simp;rfl));intro gb342 hg w7 hbox hb;have n0_:=Aside0.mk (below_step (by repeat (first | (with_reducible first | exact HB.out | apply below_alloc | apply pw_below_drewN | apply below_drew1) | exact HB.out)) hb);have n1_:=Aside0.mk (hbox);have n2_:=Aside0.mk ((by rw [hg];exact (below_size (by repeat (first | (with_reducible first | exact HB.out | apply below_alloc | apply pw_below_drewN | apply below_drew1) | exact HB.out))) : w.heap.size ≤ gb342));have n3_:=Aside0.mk ((by rw [hg];exact (below_size (by repeat (first | (with_reducible first | exact HB.out | apply below_alloc | apply pw_below_drewN | apply below_drew1) | exact HB.out))) : w.heap.size ≤ gb342));clear HB;have HB:=n0_;have BK342:=n1_;have GW342:=n2_;have GE342:=n3_;clear n0_ n1_ n2_ n3_;clear hb hbox hg;have hcz8_0 : w7.cell? ⟨gb342,0,none⟩ = some (.slice A0_0 l0_0.length c0_0) := (blk_cell BK342.out 0).trans rfl;have hcz8_1 : w7.cell? ⟨gb342,1,none⟩ = some (.slice A0_1 l0_1.length c0_1) := (blk_cell BK342.out 1).trans rfl;have hcz8_2 : w7.cell? ⟨gb342,2,none⟩ = some (.int .i64 a0_2) := (blk_cell BK342.out 2).trans rfl;have hcz8_3 : w7.cell? ⟨gb342,3,none⟩ = some (.int .i64 a0_3) := (blk_cell BK342.out 3).trans rfl;have hcz8_4 : w7.cell? ⟨gb342,4,none⟩ = some (.slice A0_4 l0_4.length c0_4) := (blk_cell BK342.out 4).trans rfl;have hfz8_0:=blk_frozen BK342.out 0;have hfz8_1:=blk_frozen BK342.out 1;have hfz8_2:=blk_frozen BK342.out 2;have hfz8_3:=blk_frozen BK342.out 3;have hfz8_4:=blk_frozen BK342.out 4))
   go_loopg [3] k (fun kq v3 w' => ∃ (x3_1 : Int),v3 = .int .i64 x3_1 ∧ Aside0 (regletlaw14_PredictAny.l0 kq x3_1 l0_0 l0_1 a0_2 a0_3 l0_4 = some r) ∧ Aside0 (kq ≤ k) ∧ Aside0 (w'.heap[gb342]? = some (.cells #[(.slice A0_0 l0_0.length c0_0),(.slice A0_1 l0_1.length c0_1),.int .i64 a0_2,.int .i64 a0_3,(.slice A0_4 l0_4.length c0_4)] 26 (0,0))) ∧ Aside0 (Below w.heap.size w w'))
   case atStart => exact ⟨(0),(by first | rfl | (simp;done) | (simp [*];done)),H',⟨Nat.le_refl _⟩,⟨by (with_reducible repeat (first | refine blk_drewN ?_ _ | refine blk_drew ?_ | refine blk_alloc ?_ _));exact BK342.out⟩,⟨by repeat (first | (with_reducible first | exact HB.out | apply below_alloc | apply pw_below_drewN | apply below_drew1 | refine below_set ?_ GE342.out) | exact HB.out)⟩⟩
   case round =>
    clear H'
    (try clear c2);(try clear c2b0);(try clear p2);(try clear c3);(try clear p6);(try clear hcz5_0);(try clear hcz5_1);(try clear hcz5_2);(try clear hcz5_3);(try clear hcz5_4);(try clear hcz8_0);(try clear hcz8_1);(try clear hcz8_2);(try clear hcz8_3);(try clear hcz8_4);(try clear hfz5_0);(try clear hfz5_1);(try clear hfz5_2);(try clear hfz5_3);(try clear hfz5_4);(try clear hfz8_0);(try clear hfz8_1);(try clear hfz8_2)
    (try clear hfz8_3);(try clear hfz8_4)
    obtain ⟨x3_1,rfl,HA,HK1,BK342,HB⟩ := hrel
    cases gk with
    | zero => exact absurd HA.out (by simp [regletlaw14_PredictAny.l0])
    | succ k1 =>
     have H:=HA.out
     clear HA
     simp only [regletlaw14_PredictAny.l0] at H
     by_cases c9 : x3_1 < (l0_4.length : Int)
     · rw [if_pos c9] at H
       have c9b0 : decide (x3_1 < (l0_4.length : Int)) = true:=decide_eq_true c9
       clear c9
       by_cases c10 : 0 ≤ x3_1
       rotate_left
       · rw [if_neg c10] at H
         exact absurd H (by simp)
       rw [if_pos c10] at H
       have c10b0 : decide (0 ≤ x3_1) = true:=decide_eq_true c10
       clear c10
       by_cases c11 : (((rd_T30 l0_4 x3_1).f1).length : Int) > 10
       · rw [if_pos c11] at H
         have c11b0 : decide (10 < (((rd_T30 l0_4 x3_1).f1).length : Int)) = true:=decide_eq_true c11
         have c11b1 : decide (10 < ((rd_T30 l0_4 x3_1).f1).length) = true:=decide_eq_true (by omega)
         clear c11
         replace H:=Option.bind_eq_some_iff.mp H
         obtain ⟨t345,A120,H⟩ := H
         replace H : (some t345) = some r:=H
         have A12:=Aside0.mk A120
         clear A120
         obtain rfl:=Option.some.inj H
         have hcz13_0 : wr.cell? ⟨gb342,0,none⟩ = some (.slice A0_0 l0_0.length c0_0) := (blk_cell BK342.out 0).trans rfl
         have hcz13_1 : wr.cell? ⟨gb342,1,none⟩ = some (.slice A0_1 l0_1.length c0_1) := (blk_cell BK342.out 1).trans rfl
         have hcz13_2 : wr.cell? ⟨gb342,2,none⟩ = some (.int .i64 a0_2) := (blk_cell BK342.out 2).trans rfl
         have hcz13_3 : wr.cell? ⟨gb342,3,none⟩ = some (.int .i64 a0_3) := (blk_cell BK342.out 3).trans rfl
         have hcz13_4 : wr.cell? ⟨gb342,4,none⟩ = some (.slice A0_4 l0_4.length c0_4) := (blk_cell BK342.out 4).trans rfl
         have hfz13_0:=blk_frozen BK342.out 0
         have hfz13_1:=blk_frozen BK342.out 1
         have hfz13_2:=blk_frozen BK342.out 2
         have hfz13_3:=blk_frozen BK342.out 3
         have hfz13_4:=blk_frozen BK342.out 4
         have p344 : 0 ≤ (x3_1 : Int) := of_decide_eq_true (by first | (with_reducible assumption) | assumption)
         have q344 : x3_1 < (l0_4.length : Int) := of_decide_eq_true (by first | (with_reducible assumption) | assumption)
         obtain ⟨ad344,A344_1,c344_1,e344,hx344_0,hx344_1,hl344_1,hi344_1⟩ := at_T30 HR0_4.out x3_1 p344 q344
         cases e344
         replace hx344_0:=(HB.out.cell (World.block_lt_of_cell? w _ hx344_0)).trans hx344_0
         replace hx344_1:=(HB.out.cell (World.block_lt_of_cell? w _ hx344_1)).trans hx344_1
         have HR344_1:=Aside0.mk hi344_1
         have HC344_1:=Aside0.mk hl344_1
         clear hi344_1 hl344_1
         replace p344:=eq_true p344
         replace q344:=eq_true q344
         go_wp2_with (first | ((with_reducible refine gate_callee (f:=9) rfl ?_);refine goesL_ (some 32) rfl rfl Try.func9 (by kernel_rfl) rfl #[] rfl (by (try simp only [List.map_toArray,List.map_cons,List.map_nil]);first | done | rfl | (simp only [List.length_drop,List.length_take];rfl)) ?_;(with_reducible refine (regletlaw14_awake.calls k1  t345 _ A12.out).mono ?_);rintro e w14 ⟨rfl,hb⟩;refine ⟨_,rfl,?_⟩;have n0_:=Aside0.mk (blk_below (g:=gb342) (o := .cells #[.slice A0_0 l0_0.length c0_0,.slice A0_1 l0_1.length c0_1,.int .i64 a0_2,.int .i64 a0_3,.slice (some ad344) l0_4.length c0_4] 26 (0,0)) (by (with_reducible repeat (first | refine blk_drewN ?_ _ | refine blk_drew ?_ | refine blk_alloc ?_ _));exact BK342.out) hb);have n1_:=Aside0.mk (below_step (by repeat (first | (with_reducible first | exact HB.out | apply below_alloc | apply pw_below_drewN | apply below_drew1 | refine below_set ?_ GE342.out) | exact HB.out)) hb);clear BK342;clear HB;have BK342:=n0_;have HB:=n1_;clear n0_ n1_;(try clear hb);(try clear hb2);(try clear hk);(try clear hi)))
         go_ret
         exact ⟨by first | rfl | (simp [errW_none,errW_some] <;> rfl) | (simp [*,errW_none,errW_some] <;> rfl),by repeat (first | (with_reducible first | exact HB.out | apply below_alloc | apply pw_below_drewN | apply below_drew1 | refine below_set ?_ GE342.out) | exact HB.out)⟩
       · rw [if_neg c11] at H
         have c11b0 : decide (10 < (((rd_T30 l0_4 x3_1).f1).length : Int)) = false:=decide_eq_false c11
         have c11b1 : decide (10 < ((rd_T30 l0_4 x3_1).f1).length) = false:=decide_eq_false (by omega)
         clear c11
         have H' := Aside0.mk H
         clear H
         have hcz15_0 : wr.cell? ⟨gb342,0,none⟩ = some (.slice A0_0 l0_0.length c0_0) := (blk_cell BK342.out 0).trans rfl
         have hcz15_1 : wr.cell? ⟨gb342,1,none⟩ = some (.slice A0_1 l0_1.length c0_1) := (blk_cell BK342.out 1).trans rfl
         have hcz15_2 : wr.cell? ⟨gb342,2,none⟩ = some (.int .i64 a0_2) := (blk_cell BK342.out 2).trans rfl
         have hcz15_3 : wr.cell? ⟨gb342,3,none⟩ = some (.int .i64 a0_3) := (blk_cell BK342.out 3).trans rfl
         have hcz15_4 : wr.cell? ⟨gb342,4,none⟩ = some (.slice A0_4 l0_4.length c0_4) := (blk_cell BK342.out 4).trans rfl
         have hfz15_0:=blk_frozen BK342.out 0
         have hfz15_1:=blk_frozen BK342.out 1
         have hfz15_2:=blk_frozen BK342.out 2
         have hfz15_3:=blk_frozen BK342.out 3
         have hfz15_4:=blk_frozen BK342.out 4
         have p344 : 0 ≤ (x3_1 : Int) := of_decide_eq_true (by first | (with_reducible assumption) | assumption)
         have q344 : x3_1 < (l0_4.length : Int) := of_decide_eq_true (by first | (with_reducible assumption) | assumption)
         obtain ⟨ad344,A344_1,c344_1,e344,hx344_0,hx344_1,hl344_1,hi344_1⟩ := at_T30 HR0_4.out x3_1 p344 q344
         cases e344
         replace hx344_0:=(HB.out.cell (World.block_lt_of_cell? w _ hx344_0)).trans hx344_0
         replace hx344_1:=(HB.out.cell (World.block_lt_of_cell? w _ hx344_1)).trans hx344_1
         have HR344_1:=Aside0.mk hi344_1
         have HC344_1:=Aside0.mk hl344_1
         clear hi344_1 hl344_1
         replace p344:=eq_true p344
         replace q344:=eq_true q344
         go_wp2
         go_roundg k1
         case measure => have:=HK1.out;omega
         case rel => exact ⟨(wrap64 (x3_1 + 1)),(by first | rfl | (simp;done) | (simp [*];done)),H',⟨by have:=HK1.out;omega⟩,⟨by (with_reducible repeat (first | refine blk_drewN ?_ _ | refine blk_drew ?_ | refine blk_alloc ?_ _));exact BK342.out⟩,⟨by repeat (first | (with_reducible first | exact HB.out | apply below_alloc | apply pw_below_drewN | apply below_drew1 | refine below_set ?_ GE342.out) | exact HB.out)⟩⟩
     · rw [if_neg c9] at H
       have c9b0 : decide (x3_1 < (l0_4.length : Int)) = false:=decide_eq_false c9
       clear c9
       replace H:=Option.bind_eq_some_iff.mp H
       obtain ⟨t346,A160,H⟩ := H
       replace H : (if t346 = true then ((regletlaw14_same.f k1 l0_0 l0_1 a0_2 a0_3 l0_4).bind fun t347 => (some t347)) else (some false)) = some r:=H
       have A16:=Aside0.mk A160
       clear A160
       by_cases c17 : t346 = true
       · subst c17
         have H1 : ((regletlaw14_same.f k1 l0_0 l0_1 a0_2 a0_3 l0_4).bind fun t347 => (some t347)) = some r:=by rw [if_pos rfl] at H;exact H
         clear H
         have H:=H1
         clear H1
         replace H:=Option.bind_eq_some_iff.mp H
         obtain ⟨t347,A180,H⟩ := H
         replace H : (some t347) = some r:=H
         have A18:=Aside0.mk A180
         clear A180
         obtain rfl:=Option.some.inj H
         have hcz19_0 : wr.cell? ⟨gb342,0,none⟩ = some (.slice A0_0 l0_0.length c0_0) := (blk_cell BK342.out 0).trans rfl
         have hcz19_1 : wr.cell? ⟨gb342,1,none⟩ = some (.slice A0_1 l0_1.length c0_1) := (blk_cell BK342.out 1).trans rfl
         have hcz19_2 : wr.cell? ⟨gb342,2,none⟩ = some (.int .i64 a0_2) := (blk_cell BK342.out 2).trans rfl
         have hcz19_3 : wr.cell? ⟨gb342,3,none⟩ = some (.int .i64 a0_3) := (blk_cell BK342.out 3).trans rfl
         have hcz19_4 : wr.cell? ⟨gb342,4,none⟩ = some (.slice A0_4 l0_4.length c0_4) := (blk_cell BK342.out 4).trans rfl
         have hfz19_0:=blk_frozen BK342.out 0
         have hfz19_1:=blk_frozen BK342.out 1
         have hfz19_2:=blk_frozen BK342.out 2
         have hfz19_3:=blk_frozen BK342.out 3
         have hfz19_4:=blk_frozen BK342.out 4
         go_wp2_with (first | ((with_reducible refine gate_callee (f:=9) rfl ?_);refine goesL_ (some 33) rfl rfl Try.func9 (by kernel_rfl) rfl #[] rfl (by (try simp only [List.map_toArray,List.map_cons,List.map_nil]);first | done | rfl | (simp only [List.length_drop,List.length_take];rfl)) ?_;(with_reducible refine (regletlaw14_awake.calls k1  true _ A16.out).mono ?_);rintro e w20 ⟨rfl,hb⟩;refine ⟨_,rfl,?_⟩;have n0_:=Aside0.mk (blk_below (g:=gb342) (o := .cells #[.slice A0_0 l0_0.length c0_0,.slice A0_1 l0_1.length c0_1,.int .i64 a0_2,.int .i64 a0_3,.slice A0_4 l0_4.length c0_4] 26 (0,0)) (by (with_reducible repeat (first | refine blk_drewN ?_ _ | refine blk_drew ?_ | refine blk_alloc ?_ _));exact BK342.out) hb);have n1_:=Aside0.mk (below_step (by repeat (first | (with_reducible first | exact HB.out | apply below_alloc | apply pw_below_drewN | apply below_drew1 | refine below_set ?_ GE342.out) | exact HB.out)) hb);clear BK342;clear HB;have BK342:=n0_;have HB:=n1_;clear n0_ n1_;(try clear hb);(try clear hb2);(try clear hk);(try clear hi);have hcz21_0 : w20.cell? ⟨gb342,0,none⟩ = some (.slice A0_0 l0_0.length c0_0) := (blk_cell BK342.out 0).trans rfl;have hcz21_1 : w20.cell? ⟨gb342,1,none⟩ = some (.slice A0_1 l0_1.length c0_1) := (blk_cell BK342.out 1).trans rfl;have hcz21_2 : w20.cell? ⟨gb342,2,none⟩ = some (.int .i64 a0_2) := (blk_cell BK342.out 2).trans rfl;have hcz21_3 : w20.cell? ⟨gb342,3,none⟩ = some (.int .i64 a0_3) := (blk_cell BK342.out 3).trans rfl;have hcz21_4 : w20.cell? ⟨gb342,4,none⟩ = some (.slice A0_4 l0_4.length c0_4) := (blk_cell BK342.out 4).trans rfl;have hfz21_0:=blk_frozen BK342.out 0;have hfz21_1:=blk_frozen BK342.out 1;have hfz21_2:=blk_frozen BK342.out 2;have hfz21_3:=blk_frozen BK342.out 3;have hfz21_4:=blk_frozen BK342.out 4) | (go_at_call 10;(with_reducible refine (regletlaw14_same.calls k1 _ _ l0_0 _ _ l0_1 a0_2 a0_3 _ _ l0_4 t347 _ ?side1 ?side2 ?side3 ?side4 ?side5 ?side6 A18.out).mono ?_);(case side1 => repeat (first | exact (Kd.C_below HR0_0.out HB.out) | (with_reducible refine Kd.C_alloc ?_ _) | (with_reducible refine Kd.C_drewN ?_ _) | (with_reducible refine Kd.C_drew ?_)));(case side2 => exact HC0_0.out);(case side3 => repeat (first | exact (Kd.C_below HR0_1.out HB.out) | (with_reducible refine Kd.C_alloc ?_ _) | (with_reducible refine Kd.C_drewN ?_ _) | (with_reducible refine Kd.C_drew ?_)));(case side4 => exact HC0_1.out);(case side5 => repeat (first | exact (Kd.C_below HR0_4.out HB.out) | (with_reducible refine Kd.C_alloc ?_ _) | (with_reducible refine Kd.C_drewN ?_ _) | (with_reducible refine Kd.C_drew ?_)));(case side6 => exact HC0_4.out);rintro e w22 ⟨rfl,hb⟩;have n0_:=Aside0.mk (blk_below (g:=gb342) (o := .cells #[.slice A0_0 l0_0.length c0_0,.slice A0_1 l0_1.length c0_1,.int .i64 a0_2,.int .i64 a0_3,.slice A0_4 l0_4.length c0_4] 26 (0,0)) (by (with_reducible repeat (first | refine blk_drewN ?_ _ | refine blk_drew ?_ | refine blk_alloc ?_ _));exact BK342.out) hb);have n1_:=Aside0.mk (below_step (by repeat (first | (with_reducible first | exact HB.out | apply below_alloc | apply pw_below_drewN | apply below_drew1 | refine below_set ?_ GE342.out) | exact HB.out)) hb);clear BK342;clear HB;have BK342:=n0_;have HB:=n1_;clear n0_ n1_;(try clear hb);(try clear hb2);(try clear hk);(try clear hi)))
         go_ret
         exact ⟨by first | rfl | (simp [errW_none,errW_some] <;> rfl) | (simp [*,errW_none,errW_some] <;> rfl),by repeat (first | (with_reducible first | exact HB.out | apply below_alloc | apply pw_below_drewN | apply below_drew1 | refine below_set ?_ GE342.out) | exact HB.out)⟩
       · replace c17:=Bool.eq_false_iff.mpr c17
         subst c17
         have H1 : (some false) = some r:=by rw [if_neg (show ¬ (false = true) by decide)] at H;exact H
         clear H
         have H:=H1
         clear H1
         obtain rfl:=Option.some.inj H
         have hcz23_0 : wr.cell? ⟨gb342,0,none⟩ = some (.slice A0_0 l0_0.length c0_0) := (blk_cell BK342.out 0).trans rfl
         have hcz23_1 : wr.cell? ⟨gb342,1,none⟩ = some (.slice A0_1 l0_1.length c0_1) := (blk_cell BK342.out 1).trans rfl
         have hcz23_2 : wr.cell? ⟨gb342,2,none⟩ = some (.int .i64 a0_2) := (blk_cell BK342.out 2).trans rfl
         have hcz23_3 : wr.cell? ⟨gb342,3,none⟩ = some (.int .i64 a0_3) := (blk_cell BK342.out 3).trans rfl
         have hcz23_4 : wr.cell? ⟨gb342,4,none⟩ = some (.slice A0_4 l0_4.length c0_4) := (blk_cell BK342.out 4).trans rfl
         have hfz23_0:=blk_frozen BK342.out 0
         have hfz23_1:=blk_frozen BK342.out 1
         have hfz23_2:=blk_frozen BK342.out 2
         have hfz23_3:=blk_frozen BK342.out 3
         have hfz23_4:=blk_frozen BK342.out 4
         go_wp2_with (first | ((with_reducible refine gate_callee (f:=9) rfl ?_);refine goesL_ (some 33) rfl rfl Try.func9 (by kernel_rfl) rfl #[] rfl (by (try simp only [List.map_toArray,List.map_cons,List.map_nil]);first | done | rfl | (simp only [List.length_drop,List.length_take];rfl)) ?_;(with_reducible refine (regletlaw14_awake.calls k1  false _ A16.out).mono ?_);rintro e w24 ⟨rfl,hb⟩;refine ⟨_,rfl,?_⟩;have n0_:=Aside0.mk (blk_below (g:=gb342) (o := .cells #[.slice A0_0 l0_0.length c0_0,.slice A0_1 l0_1.length c0_1,.int .i64 a0_2,.int .i64 a0_3,.slice A0_4 l0_4.length c0_4] 26 (0,0)) (by (with_reducible repeat (first | refine blk_drewN ?_ _ | refine blk_drew ?_ | refine blk_alloc ?_ _));exact BK342.out) hb);have n1_:=Aside0.mk (below_step (by repeat (first | (with_reducible first | exact HB.out | apply below_alloc | apply pw_below_drewN | apply below_drew1 | refine below_set ?_ GE342.out) | exact HB.out)) hb);clear BK342;clear HB;have BK342:=n0_;have HB:=n1_;clear n0_ n1_;(try clear hb);(try clear hb2);(try clear hk);(try clear hi)))
         go_ret
         exact ⟨by first | rfl | (simp [errW_none,errW_some] <;> rfl) | (simp [*,errW_none,errW_some] <;> rfl),by repeat (first | (with_reducible first | exact HB.out | apply below_alloc | apply pw_below_drewN | apply below_drew1 | refine below_set ?_ GE342.out) | exact HB.out)⟩
end Go.Proofs.Ytfdcfihcfegekaa.P
end

section
namespace Go.Proofs.Ytfdcfihcfegekaa.H
open Go.RowKit Go.Proofs.YtfdcfihcfegekaaW.PrintWords Go.Proofs.YtfdcfihcfegekaaW.PrintLast Go.Proofs.YtfdcfihcfegekaaW.PrintMore
theorem Ev.pos {α : Type} {c : Prop} [Decidable c] {f g : Nat → Option α} {r : α} (h : c) (k : Ev f r) : Ev (fun n => if c then f n else g n) r :=
  Ev.congr (fun _ => if_pos h) k
theorem Ev.neg {α : Type} {c : Prop} [Decidable c] {f g : Nat → Option α} {r : α} (h : ¬ c) (k : Ev g r) : Ev (fun n => if c then f n else g n) r :=
  Ev.congr (fun _ => if_neg h) k
theorem Ev.some {α : Type} {r s : α} (h : r = s) : Ev (fun _ => Option.some r) s:=h ▸ Ev.now r
theorem Ev.some' {α : Type} {g : Option α} {r : α} (h : g = Option.some r) : Ev (fun _ => g) r:=⟨0,fun _ _ => h⟩
theorem Ev.bind0 {α β : Type} {g : Option α} {f : Nat → α → Option β} {a : α} {r : β} (h : g = Option.some a) (k : Ev (fun n => f n a) r) : Ev (fun n => g.bind (f n)) r :=
  Ev.congr (fun _ => by rw [h];rfl) k
theorem Ev.val {α : Type} {g : Nat → Option α} {r s : α} (h : Ev g r) (e : r = s) : Ev g s:=e ▸ h
theorem wrap64_id {x : Int} (h0 : -9223372036854775808 ≤ x) (h1 : x ≤ 9223372036854775807) : wrap64 x = x:=by
 unfold wrap64;omega
end Go.Proofs.Ytfdcfihcfegekaa.H
end

section
namespace Go.Proofs.Ytfdcfihcfegekaa.M
open Go.RowKit Go.Proofs.YtfdcfihcfegekaaW.PrintWords Go.Proofs.YtfdcfihcfegekaaW.PrintLast Go.Proofs.YtfdcfihcfegekaaW.PrintMore Go.Proofs.Ytfdcfihcfegekaa.P Go.Proofs.Ytfdcfihcfegekaa.H
set_option linter.unusedVariables false
set_option linter.unusedSimpArgs false
abbrev Sym:=S53
abbrev Prod:=S30
abbrev Tok:=S61
theorem rdOf_mid {α : Type} (d : α) (p : List α) (x : α) (a : List α) (n : Int) (h : n = p.length) : rdOf d (p ++ x :: a) n = x:=by
 subst h;simp [rdOf]
theorem getD_mid {α : Type} (d : α) (p : List α) (x : α) (a : List α) (n : Int) (h : n = p.length) : (p ++ x :: a).getD n.toNat d = x:=by
 subst h;simp
theorem set_mid {α : Type} (p : List α) (x v : α) (a : List α) (n : Int) (h : n = p.length) : (p ++ x :: a).set n.toNat v = p ++ v :: a:=by
 subst h;simp
theorem wrap_next {α : Type} (p : List α) (v : α) (h : p.length ≤ 1000000) : wrap64 ((p.length : Int) + 1) = ((p ++ [v]).length : Int) := by
 rw [wrap64_id (by omega) (by omega)];simp
def orL (a b : List Bool) : List Bool:=List.zipWith (· || ·) a b
def moreL : List Bool → List Bool → Bool
  | x :: a,y :: b => (y && !x) || moreL a b
  | _,_ => false
theorem orL_length {a b : List Bool} (h : a.length = b.length) : (orL a b).length = a.length:=by simp [orL,h]
theorem add_l0_ev : ∀ (a b pre preb : List Bool) (g : Bool),a.length = b.length → pre.length = preb.length → pre.length + a.length ≤ 1000000 → Ev (fun k => firsts_set_add.l0 k (pre ++ a) g (preb ++ b) ((preb ++ b).length : Int) (pre.length : Int)) (g || moreL a b,pre ++ orL a b)
  | [],[],pre,preb,g,_,h2,_ => by
    refine Ev.step (fun k => by rw [firsts_set_add.l0]) (Ev.neg (by simp [h2]) (Ev.some (by simp [moreL,orL])))
  | x :: a,y :: b,pre,preb,g,h1,h2,h3 => by
    have h1' : a.length = b.length:=by simpa using h1
    simp only [List.length_cons] at h3
    have ih:=fun g v => add_l0_ev a b (pre ++ [v]) (preb ++ [y]) g h1' (by simp [h2]) (by simp;omega)
    simp only [← wrap_next pre _ (show pre.length ≤ 1000000 by omega),List.append_assoc,List.singleton_append] at ih
    refine Ev.step (fun k => by rw [firsts_set_add.l0]) ?_
    refine Ev.pos (by simp;omega) (Ev.pos (by omega) (Ev.pos (by simp;omega) ?_))
    rw [rdOf_mid _ preb y b _ (by rw [h2]),rdOf_mid _ pre x a _ rfl]
    cases y
    · refine Ev.neg (by simp) (Ev.val (ih g x) ?_)
      simp [moreL,orL]
    · refine Ev.pos rfl (Ev.pos (by simp;omega) ?_)
      cases x
      · refine Ev.neg (by simp) ?_
        rw [set_mid _ _ _ _ _ rfl]
        refine Ev.val (ih true true) ?_
        simp [moreL,orL]
      · refine Ev.pos rfl (Ev.val (ih g true) ?_)
        simp [moreL,orL]
theorem add_ev (a b : List Bool) (h1 : a.length = b.length) (h2 : a.length ≤ 1000000) : Ev (fun k => firsts_set_add.f k a b) (moreL a b,orL a b) := by
 exact Ev.congr (fun k => by rw [firsts_set_add.f]) (by simpa using add_l0_ev a b [] [] false h1 rfl (by simpa using h2) : Ev (fun k => firsts_set_add.l0 k a false b (b.length : Int) 0) _)
theorem join_l0_ev : ∀ (a b pre preb : List Bool) (g : Bool),a.length = b.length → pre.length = preb.length → pre.length + a.length ≤ 1000000 → Ev (fun k => regletref13_join.l0 k (pre ++ a) (preb ++ b) g (pre.length : Int)) (g || moreL a b,pre ++ orL a b)
  | [],[],pre,preb,g,_,h2,_ => by
    refine Ev.step (fun k => by rw [regletref13_join.l0]) (Ev.neg (by simp) (Ev.some (by simp [moreL,orL])))
  | x :: a,y :: b,pre,preb,g,h1,h2,h3 => by
    have h1' : a.length = b.length:=by simpa using h1
    simp only [List.length_cons] at h3
    have ih:=fun g v => join_l0_ev a b (pre ++ [v]) (preb ++ [y]) g h1' (by simp [h2]) (by simp;omega)
    simp only [← wrap_next pre _ (show pre.length ≤ 1000000 by omega),List.append_assoc,List.singleton_append] at ih
    refine Ev.step (fun k => by rw [regletref13_join.l0]) ?_
    refine Ev.pos (by simp;omega) ?_
    rw [rdOf_mid _ preb y b _ (by rw [h2]),rdOf_mid _ pre x a _ rfl]
    simp only [set_mid _ _ _ _ _ rfl]
    cases g
    · refine Ev.neg (by simp) (Ev.pos (by omega) (Ev.pos (by simp;omega) ?_))
      cases y <;> cases x
      · exact Ev.neg (by simp) (Ev.neg (by simp) (Ev.val (ih _ _) (by simp [moreL,orL])))
      · exact Ev.neg (by simp) (Ev.pos rfl (Ev.val (ih _ _) (by simp [moreL,orL])))
      · exact Ev.pos rfl (Ev.neg (by simp) (Ev.val (ih _ _) (by simp [moreL,orL])))
      · exact Ev.pos rfl (Ev.pos rfl (Ev.val (ih _ _) (by simp [moreL,orL])))
    · refine Ev.pos rfl (Ev.pos (by omega) ?_)
      cases x
      · exact Ev.neg (by simp) (Ev.pos (by simp;omega) (Ev.val (ih _ _) (by simp [moreL,orL])))
      · exact Ev.pos rfl (Ev.val (ih _ _) (by simp [moreL,orL]))
theorem join_ev (a b : List Bool) (h1 : a.length = b.length) (h2 : a.length ≤ 1000000) : Ev (fun k => regletref13_join.f k a b) (moreL a b,orL a b) := by
 exact Ev.congr (fun k => by rw [regletref13_join.f]) (by simpa using join_l0_ev a b [] [] false h1 rfl (by simpa using h2) : Ev (fun k => regletref13_join.l0 k a b false 0) _)
def idx : Nat → List Bool → List Int
  | _,[] => []
  | n,x :: a => if x = true then (n : Int) :: idx (n + 1) a else idx (n + 1) a
theorem idx_length : ∀ (n : Nat) (a : List Bool),(idx n a).length ≤ a.length
  | _,[] => by simp [idx]
  | n,x :: a => by have:=idx_length (n + 1) a;unfold idx;split <;> simp <;> omega
theorem rising_l0_ev : ∀ (a pre : List Bool) (out : List Int),out.length ≤ pre.length → pre.length + a.length ≤ 1000000 → Ev (fun k => firsts_set_rising.l0 k out (pre ++ a) ((pre ++ a).length : Int) (pre.length : Int)) (out ++ idx pre.length a)
  | [],pre,out,_,_ => by
    refine Ev.step (fun k => by rw [firsts_set_rising.l0]) (Ev.neg (by simp) (Ev.some (by simp [idx])))
  | x :: a,pre,out,h2,h3 => by
    simp only [List.length_cons] at h3
    have ih:=fun out h => rising_l0_ev a (pre ++ [x]) out h (by simp;omega)
    simp only [← wrap_next pre _ (show pre.length ≤ 1000000 by omega),List.append_assoc,List.singleton_append] at ih
    refine Ev.step (fun k => by rw [firsts_set_rising.l0]) ?_
    refine Ev.pos (by simp;omega) (Ev.pos (by omega) (Ev.pos (by simp;omega) ?_))
    rw [rdOf_mid _ pre x a _ rfl]
    cases x
    · exact Ev.neg (by simp) (Ev.val (ih out (by simp;omega)) (by simp [idx]))
    · exact Ev.pos rfl (Ev.pos (by omega) (Ev.val (ih _ (by simp;omega)) (by simp [idx])))
theorem rising_ev (a : List Bool) (h2 : a.length ≤ 1000000) : Ev (fun k => firsts_set_rising.f k a) (idx 0 a) := by
 exact Ev.congr (fun k => by rw [firsts_set_rising.f]) (by simpa using rising_l0_ev a [] [] (by simp) (by simpa using h2) : Ev (fun k => firsts_set_rising.l0 k [] a (a.length : Int) 0) _)
theorem list_l0_ev : ∀ (a pre : List Bool) (out : List Int),out.length ≤ pre.length → pre.length + a.length ≤ 1000000 → Ev (fun k => regletref13_list.l0 k (pre ++ a) out (pre.length : Int)) (out ++ idx pre.length a)
  | [],pre,out,_,_ => by
    refine Ev.step (fun k => by rw [regletref13_list.l0]) (Ev.neg (by simp) (Ev.some (by simp [idx])))
  | x :: a,pre,out,h2,h3 => by
    simp only [List.length_cons] at h3
    have ih:=fun out h => list_l0_ev a (pre ++ [x]) out h (by simp;omega)
    simp only [← wrap_next pre _ (show pre.length ≤ 1000000 by omega),List.append_assoc,List.singleton_append] at ih
    refine Ev.step (fun k => by rw [regletref13_list.l0]) ?_
    refine Ev.pos (by simp;omega) (Ev.pos (by omega) ?_)
    rw [rdOf_mid _ pre x a _ rfl]
    cases x
    · exact Ev.neg (by simp) (Ev.val (ih out (by simp;omega)) (by simp [idx]))
    · exact Ev.pos rfl (Ev.pos (by omega) (Ev.val (ih _ (by simp;omega)) (by simp [idx])))
theorem list_ev (a : List Bool) (h2 : a.length ≤ 1000000) : Ev (fun k => regletref13_list.f k a) (idx 0 a) := by
 exact Ev.congr (fun k => by rw [regletref13_list.f]) (by simpa using list_l0_ev a [] [] (by simp) (by simpa using h2) : Ev (fun k => regletref13_list.l0 k a [] 0) _)
def idxs (m : List (List Bool)) : List (List Int) := m.map (idx 0)
theorem all_l0_ev : ∀ (m pre : List (List Bool)) (out : List (List Int)),out.length = pre.length → pre.length + m.length ≤ 1000000 → (∀ r ∈ m,r.length ≤ 1000000) → Ev (fun k => firsts_all.l0 k (out ++ List.replicate m.length []) (pre ++ m) ((pre ++ m).length : Int) (pre.length : Int)) (out ++ idxs m)
  | [],pre,out,_,_,_ => by
    refine Ev.step (fun k => by rw [firsts_all.l0]) (Ev.neg (by simp) (Ev.some (by simp [idxs])))
  | r :: m,pre,out,h2,h3,h4 => by
    simp only [List.length_cons] at h3
    have ih:=all_l0_ev m (pre ++ [r]) (out ++ [idx 0 r]) (by simp [h2]) (by simp;omega) (fun r hr => h4 r (List.mem_cons_of_mem _ hr))
    simp only [← wrap_next pre _ (show pre.length ≤ 1000000 by omega),List.append_assoc,List.singleton_append] at ih
    refine Ev.step (fun k => by rw [firsts_all.l0]) ?_
    refine Ev.pos (by simp;omega) (Ev.pos (by omega) (Ev.pos (by simp;omega) ?_))
    refine Ev.bind (a:=idx 0 r) (Ev.congr (fun k => congrArg (firsts_set_rising.f k) (getD_mid _ pre r m _ rfl)) (rising_ev r (h4 r List.mem_cons_self))) (Ev.pos (by simp;omega) ?_)
    simp only [List.length_cons,List.replicate_succ]
    rw [set_mid _ _ _ _ _ (by rw [h2])]
    exact Ev.val ih (by simp [idxs])
theorem all_ev (m : List (List Bool)) (h2 : m.length ≤ 1000000) (h4 : ∀ r ∈ m,r.length ≤ 1000000) : Ev (fun k => firsts_all.f k m) (idxs m) := by
 refine Ev.congr (fun k => by rw [firsts_all.f]) (Ev.pos (by omega) (Ev.pos (by omega) ?_))
 rw [Int.toNat_natCast]
 simpa using all_l0_ev m [] [] rfl (by simpa using h2) h4
theorem lists_l0_ev : ∀ (m pre : List (List Bool)) (out : List (List Int)),out.length = pre.length → pre.length + m.length ≤ 1000000 → (∀ r ∈ m,r.length ≤ 1000000) → Ev (fun k => regletref13_lists.l0 k (pre ++ m) out (pre.length : Int)) (out ++ idxs m)
  | [],pre,out,_,_,_ => by
    refine Ev.step (fun k => by rw [regletref13_lists.l0]) (Ev.neg (by simp) (Ev.some (by simp [idxs])))
  | r :: m,pre,out,h2,h3,h4 => by
    simp only [List.length_cons] at h3
    have ih:=lists_l0_ev m (pre ++ [r]) (out ++ [idx 0 r]) (by simp [h2]) (by simp;omega) (fun r hr => h4 r (List.mem_cons_of_mem _ hr))
    simp only [← wrap_next pre _ (show pre.length ≤ 1000000 by omega),List.append_assoc,List.singleton_append] at ih
    refine Ev.step (fun k => by rw [regletref13_lists.l0]) ?_
    refine Ev.pos (by simp;omega) (Ev.pos (by omega) ?_)
    refine Ev.bind (a:=idx 0 r) (Ev.congr (fun k => congrArg (regletref13_list.f k) (getD_mid _ pre r m _ rfl)) (list_ev r (h4 r List.mem_cons_self))) (Ev.pos (by omega) ?_)
    exact Ev.val ih (by simp [idxs])
theorem lists_ev (m : List (List Bool)) (h2 : m.length ≤ 1000000) (h4 : ∀ r ∈ m,r.length ≤ 1000000) : Ev (fun k => regletref13_lists.f k m) (idxs m) := by
 exact Ev.congr (fun k => by rw [regletref13_lists.f]) (by simpa using lists_l0_ev m [] [] rfl (by simpa using h2) h4 : Ev (fun k => regletref13_lists.l0 k m [] 0) _)
theorem sameInts_l0_ev : ∀ (a pre : List Int),pre.length + a.length ≤ 1000000 → Ev (fun k => regletref13_SameInts.l0 k (pre ++ a) (pre ++ a) (pre.length : Int)) true
  | [],pre,_ => Ev.step (fun k => by rw [regletref13_SameInts.l0]) (Ev.neg (by simp) (Ev.some rfl))
  | x :: a,pre,h3 => by
    simp only [List.length_cons] at h3
    have ih:=sameInts_l0_ev a (pre ++ [x]) (by simp;omega)
    simp only [← wrap_next pre _ (show pre.length ≤ 1000000 by omega),List.append_assoc,List.singleton_append] at ih
    exact Ev.step (fun k => by rw [regletref13_SameInts.l0]) (Ev.pos (by simp;omega) (Ev.pos (by omega) (Ev.pos (by simp;omega) (Ev.pos rfl ih))))
theorem sameInts_ev (a : List Int) (h : a.length ≤ 1000000) : Ev (fun k => regletref13_SameInts.f k a a) true :=
  Ev.congr (fun k => by rw [regletref13_SameInts.f,if_pos rfl]) (by simpa using sameInts_l0_ev a [] (by simpa using h) : Ev (fun k => regletref13_SameInts.l0 k a a 0) _)
theorem sameLists_l0_ev : ∀ (a pre : List (List Int)),pre.length + a.length ≤ 1000000 → (∀ r ∈ a,r.length ≤ 1000000) → Ev (fun k => regletref13_SameLists.l0 k (pre ++ a) (pre ++ a) (pre.length : Int)) true
  | [],pre,_,_ => Ev.step (fun k => by rw [regletref13_SameLists.l0]) (Ev.neg (by simp) (Ev.some rfl))
  | x :: a,pre,h3,h4 => by
    simp only [List.length_cons] at h3
    have ih:=sameLists_l0_ev a (pre ++ [x]) (by simp;omega) (fun r hr => h4 r (List.mem_cons_of_mem _ hr))
    simp only [← wrap_next pre _ (show pre.length ≤ 1000000 by omega),List.append_assoc,List.singleton_append] at ih
    refine Ev.step (fun k => by rw [regletref13_SameLists.l0]) (Ev.pos (by simp;omega) (Ev.pos (by omega) (Ev.pos (by simp;omega) ?_)))
    exact Ev.bind (a:=true) (Ev.congr (fun k => congr (congrArg (regletref13_SameInts.f k) (getD_mid _ pre x a _ rfl)) (getD_mid _ pre x a _ rfl)) (sameInts_ev x (h4 x List.mem_cons_self))) (Ev.pos rfl ih)
theorem sameLists_ev (a : List (List Int)) (h : a.length ≤ 1000000) (h4 : ∀ r ∈ a,r.length ≤ 1000000) : Ev (fun k => regletref13_SameLists.f k a a) true :=
  Ev.congr (fun k => by rw [regletref13_SameLists.f,if_pos rfl]) (by simpa using sameLists_l0_ev a [] (by simpa using h) h4 : Ev (fun k => regletref13_SameLists.l0 k a a 0) _)
def Sh (nn nt : Nat) (m : List (List Bool)) : Prop:=m.length = nn ∧ ∀ r ∈ m,r.length = nt + 1
theorem Sh.get {nn nt : Nat} {m : List (List Bool)} (h : Sh nn nt m) {i : Nat} (hi : i < nn) : (m.getD i []).length = nt + 1:=by
 have hi' : i < m.length:=by rw [h.1];exact hi
 rw [List.getD_eq_getElem?_getD,List.getElem?_eq_getElem hi']
 exact h.2 _ (List.getElem_mem hi')
theorem Sh.set {nn nt : Nat} {m : List (List Bool)} (h : Sh nn nt m) (i : Nat) {r : List Bool} (hr : r.length = nt + 1) : Sh nn nt (m.set i r) :=
  ⟨by rw [List.length_set];exact h.1,fun r' hr' => by
    rcases List.mem_or_eq_of_mem_set hr' with h1 | rfl
    · exact h.2 _ h1
    · exact hr⟩
def bg (em : List Bool) (first : List (List Bool)) : List Sym → List Bool → List Bool × Bool
  | [],out => (out,true)
  | x :: l,out => if x.f0 = true then (out.set x.f1.toNat true,false) else
      if em.getD x.f1.toNat false = true then bg em first l (orL out (first.getD x.f1.toNat [])) else (orL out (first.getD x.f1.toNat []),false)
theorem bg_length (em : List Bool) {first : List (List Bool)} {nn nt : Nat} (hs : Sh nn nt first) : ∀ (l : List Sym) (out : List Bool),l.all (okSym nn nt) = true → out.length = nt + 1 → (bg em first l out).1.length = nt + 1
  | [],out,_,h => h
  | x :: l,out,hl,h => by
    simp only [List.all_cons,Bool.and_eq_true] at hl
    unfold bg
    split
    · simpa using h
    · rename_i hx
      have hn : x.f1.toNat < nn:=by
        have:=hl.1
        simp only [okSym,hx,if_neg,Bool.and_eq_true,decide_eq_true_eq] at this
        simp at this
        omega
      have ho : (orL out (first.getD x.f1.toNat [])).length = nt + 1:=by rw [orL_length (by rw [h,hs.get hn]),h]
      split
      · exact bg_length em hs l _ hl.2 ho
      · exact ho
theorem okSym_tok {nn nt : Nat} {x : Sym} (h : okSym nn nt x = true) (hx : x.f0 = true) : 0 ≤ x.f1 ∧ x.f1 < (nt : Int) := by
 simp only [okSym,hx,if_pos,Bool.and_eq_true,decide_eq_true_eq] at h;exact h
theorem okSym_rule {nn nt : Nat} {x : Sym} (h : okSym nn nt x = true) (hx : x.f0 = false) : 0 ≤ x.f1 ∧ x.f1 < (nn : Int) := by
 simp [okSym,hx] at h;exact h
theorem begins_l0_ev {nn nt : Nat} {em : List Bool} {first : List (List Bool)} (hs : Sh nn nt first) (he : em.length = nn) (hnt : nt ≤ 1000) : ∀ (l pre : List Sym) (out : List Bool),l.all (okSym nn nt) = true → out.length = nt + 1 → pre.length + l.length ≤ 1000000 → Ev (fun k => begins_l0 em first (pre ++ l) k out (pre.length : Int)) (bg em first l out)
  | [],pre,out,_,_,_ => Ev.step (fun k => by rw [begins_l0]) (Ev.neg (by simp) (Ev.some (by simp [bg])))
  | x :: l,pre,out,hl,ho,h3 => by
    simp only [List.all_cons,Bool.and_eq_true] at hl
    simp only [List.length_cons] at h3
    have ih:=fun out ho => begins_l0_ev hs he hnt l (pre ++ [x]) out hl.2 ho (by simp;omega)
    simp only [← wrap_next pre _ (show pre.length ≤ 1000000 by omega),List.append_assoc,List.singleton_append] at ih
    have e : rd_T53 (pre ++ x :: l) (pre.length : Int) = x:=getD_mid _ pre x l _ rfl
    refine Ev.step (fun k => by rw [begins_l0]) ?_
    rw [e]
    refine Ev.pos (by simp;omega) (Ev.pos (by omega) ?_)
    cases hx : x.f0 with
    | true =>
      have hb:=okSym_tok hl.1 hx
      exact Ev.pos rfl (Ev.pos hb.1 (Ev.pos (by omega) (Ev.some (by simp [bg,hx]))))
    | false =>
      have hb:=okSym_rule hl.1 hx
      have hr:=hs.get (i:=x.f1.toNat) (by omega)
      have hs1:=hs.1
      refine Ev.neg (by simp) (Ev.pos hb.1 (Ev.pos (by omega) (Ev.bind (add_ev out _ (by rw [ho,hr]) (by omega)) (Ev.pos (by omega) ?_))))
      have e2 : rdOf false em x.f1 = em.getD x.f1.toNat false:=rfl
      rw [e2]
      cases hem : em.getD x.f1.toNat false with
      | true => exact Ev.pos rfl (Ev.val (ih _ (by rw [orL_length (by rw [ho,hr]),ho])) (by rw [bg,hx,if_neg (by simp),hem,if_pos rfl]))
      | false => exact Ev.neg (by simp) (Ev.some (by rw [bg,hx,if_neg (by simp),hem,if_neg (by simp)]))
def none0 (nt : Nat) : List Bool:=List.replicate (nt + 1) false
theorem begins_ev {nn nt : Nat} {em : List Bool} {first : List (List Bool)} (hs : Sh nn nt first) (he : em.length = nn) (hnt : nt ≤ 1000) (l : List Sym) (hl : l.all (okSym nn nt) = true) (h3 : l.length ≤ 1000000) : Ev (fun k => begins_f k nt em first l) (bg em first l (none0 nt)) := by
 have h:=begins_l0_ev hs he hnt l [] (List.replicate (nt + 1) false) hl (by simp) (by simpa using h3)
 exact Ev.congr (fun k => by rw [begins_f,if_pos (by omega)]) (by simpa [none0] using h)
theorem refBegins_l0_ev {nn nt : Nat} {em : List Bool} {first : List (List Bool)} (hs : Sh nn nt first) (he : em.length = nn) (hnt : nt ≤ 1000) : ∀ (l pre : List Sym) (out : List Bool),l.all (okSym nn nt) = true → out.length = nt + 1 → pre.length + l.length ≤ 1000000 → Ev (fun k => regletref13_begins.l0 k (pre ++ l) first em out (pre.length : Int)) (bg em first l out)
  | [],pre,out,_,_,_ => Ev.step (fun k => by rw [regletref13_begins.l0]) (Ev.neg (by simp) (Ev.some (by simp [bg])))
  | x :: l,pre,out,hl,ho,h3 => by
    simp only [List.all_cons,Bool.and_eq_true] at hl
    simp only [List.length_cons] at h3
    have ih:=fun out ho => refBegins_l0_ev hs he hnt l (pre ++ [x]) out hl.2 ho (by simp;omega)
    simp only [← wrap_next pre _ (show pre.length ≤ 1000000 by omega),List.append_assoc,List.singleton_append] at ih
    have e : rd_T53 (pre ++ x :: l) (pre.length : Int) = x:=getD_mid _ pre x l _ rfl
    refine Ev.step (fun k => by rw [regletref13_begins.l0]) ?_
    rw [e]
    refine Ev.pos (by simp;omega) (Ev.pos (by omega) ?_)
    cases hx : x.f0 with
    | true =>
      have hb:=okSym_tok hl.1 hx
      exact Ev.pos rfl (Ev.pos hb.1 (Ev.pos (by omega) (Ev.some (by simp [bg,hx]))))
    | false =>
      have hb:=okSym_rule hl.1 hx
      have hr:=hs.get (i:=x.f1.toNat) (by omega)
      have hs1:=hs.1
      refine Ev.neg (by simp) (Ev.pos hb.1 (Ev.pos (by omega) (Ev.bind (join_ev out (first.getD x.f1.toNat []) (by rw [ho,hr]) (by omega)) (Ev.pos (by omega) ?_))))
      have e2 : rdOf false em x.f1 = em.getD x.f1.toNat false:=rfl
      rw [e2]
      cases hem : em.getD x.f1.toNat false with
      | true => exact Ev.pos rfl (Ev.val (ih _ (by rw [orL_length (by rw [ho,hr]),ho])) (by rw [bg,hx,if_neg (by simp),hem,if_pos rfl]))
      | false => exact Ev.neg (by simp) (Ev.some (by rw [bg,hx,if_neg (by simp),hem,if_neg (by simp)]))
theorem refBegins_ev {nn : Nat} (l0 : List ByteArray) (l1 : List Tok) (a2 a3 : Int) (l4 : List Prod) {em : List Bool} {first : List (List Bool)} (hs : Sh nn l1.length first) (he : em.length = nn) (hnt : l1.length ≤ 1000) (l : List Sym) (hl : l.all (okSym nn l1.length) = true) (h3 : l.length ≤ 1000000) : Ev (fun k => regletref13_begins.f k l0 l1 a2 a3 l4 l first em) (bg em first l (none0 l1.length)) := by
 have h:=refBegins_l0_ev hs he hnt l [] (List.replicate (l1.length + 1) false) hl (by simp) (by simpa using h3)
 have e : wrap64 ((l1.length : Int) + 1) = ((l1.length + 1 : Nat) : Int) := by rw [wrap64_id (by omega) (by omega)];simp
 refine Ev.congr (fun k => by rw [regletref13_begins.f,e,if_pos (by omega),if_pos (by omega),Int.toNat_natCast]) (by simpa [none0] using h)
def gIn {σ : Type} (stp : σ → Prod → Bool × σ) : List Prod → Bool → σ → Bool × σ
  | [],ag,st => (ag,st)
  | p :: ps,ag,st => gIn stp ps ((stp st p).1 || ag) (stp st p).2
def gOut {σ : Type} (stp : σ → Prod → Bool × σ) (ps : List Prod) : Nat → σ → σ
  | 0,st => (gIn stp ps false st).2
  | n + 1,st => if (gIn stp ps false st).1 = true then gOut stp ps n (gIn stp ps false st).2 else (gIn stp ps false st).2
def Good {σ : Type} (I : σ → Prop) (μ : σ → Nat) (stp : σ → Prod → Bool × σ) (ps : List Prod) : Prop :=
  ∀ st p,I st → p ∈ ps → I (stp st p).2 ∧ μ (stp st p).2 ≤ μ st ∧ ((stp st p).1 = true → μ (stp st p).2 < μ st)
theorem gIn_good {σ : Type} {I : σ → Prop} {μ : σ → Nat} {stp : σ → Prod → Bool × σ} : ∀ {ps : List Prod},Good I μ stp ps → ∀ (ag : Bool) (st : σ),I st → I (gIn stp ps ag st).2 ∧ μ (gIn stp ps ag st).2 ≤ μ st ∧ ((gIn stp ps ag st).1 = true → ag = true ∨ μ (gIn stp ps ag st).2 < μ st)
  | [],_,ag,st,h => ⟨h,Nat.le_refl _,fun h => .inl h⟩
  | p :: ps,hg,ag,st,h => by
    obtain ⟨h1,h2,h3⟩ := hg st p h List.mem_cons_self
    obtain ⟨h4,h5,h6⟩ := gIn_good (fun st p hI hp => hg st p hI (List.mem_cons_of_mem _ hp)) ((stp st p).1 || ag) _ h1
    refine ⟨h4,Nat.le_trans h5 h2,fun h => ?_⟩
    rcases h6 h with h7 | h7
    · rcases (Bool.or_eq_true _ _).mp h7 with h8 | h8
      · exact .inr (Nat.lt_of_le_of_lt h5 (h3 h8))
      · exact .inl h8
    · exact .inr (Nat.lt_of_lt_of_le h7 h2)
theorem gOut_I {σ : Type} {I : σ → Prop} {μ : σ → Nat} {stp : σ → Prod → Bool × σ} {ps : List Prod} (hg : Good I μ stp ps) : ∀ (n : Nat) (st : σ),I st → I (gOut stp ps n st)
  | 0,st,h => (gIn_good hg false st h).1
  | n + 1,st,h => by
    unfold gOut
    split
    · exact gOut_I hg n _ (gIn_good hg false st h).1
    · exact (gIn_good hg false st h).1
theorem growIn_ev {σ : Type} {I : σ → Prop} {μ : σ → Nat} {stp : σ → Prod → Bool × σ} {f : Nat → σ → Prod → Option (Bool × σ)} : ∀ {ps : List Prod},Good I μ stp ps → (∀ st p,I st → p ∈ ps → Ev (fun k => f k st p) (stp st p)) → ∀ (ag : Bool) (st : σ),I st → Ev (fun k => growIn (f k) ps ag st) (gIn stp ps ag st)
  | [],_,_,ag,st,_ => Ev.congr (fun k => by rw [growIn]) (Ev.some (by rw [gIn]))
  | p :: ps,hg,hf,ag,st,h => by
    refine Ev.congr (fun k => by rw [growIn]) (Ev.bind (hf st p h List.mem_cons_self) ?_)
    exact Ev.val (growIn_ev (fun st p hI hp => hg st p hI (List.mem_cons_of_mem _ hp)) (fun st p hI hp => hf st p hI (List.mem_cons_of_mem _ hp)) _ _ (hg st p h List.mem_cons_self).1) (by rw [gIn])
theorem out_ev {σ : Type} {I : σ → Prop} {μ : σ → Nat} {stp : σ → Prod → Bool × σ} {ps : List Prod} (hg : Good I μ stp ps) (g : Nat → Nat → σ → Option σ) (b : Nat → σ → Option (Bool × σ)) (hb : ∀ st,I st → Ev (fun k => b k st) (gIn stp ps false st))
    (hgs : ∀ kk k st,g kk (k + 1) st = (b kk st).bind fun r => if r.1 = true then g kk k r.2 else some r.2) : ∀ (n : Nat) (st : σ),I st → μ st ≤ n → ∃ K,∀ kk,K ≤ kk → ∀ k,K ≤ k → g kk k st = some (gOut stp ps n st)
  | n,st,h,hn => by
    obtain ⟨K1,hK1⟩ := hb st h
    obtain ⟨h1,h2,h3⟩ := gIn_good hg false st h
    cases hr : (gIn stp ps false st).1 with
    | false =>
      refine ⟨K1 + 1,fun kk hkk k hk => ?_⟩
      obtain ⟨k',rfl⟩ : ∃ k',k = k' + 1:=⟨k - 1,by omega⟩
      rw [hgs,show b kk st = _ from hK1 kk (by omega)]
      simp only [Option.bind_some,hr]
      cases n <;> simp [gOut,hr]
    | true =>
      have hlt : μ (gIn stp ps false st).2 < μ st:=(h3 hr).resolve_left (by simp)
      cases n with
      | zero => omega
      | succ n =>
        obtain ⟨K2,hK2⟩ := out_ev hg g b hb hgs n _ h1 (by omega)
        refine ⟨max K1 K2 + 1,fun kk hkk k hk => ?_⟩
        obtain ⟨k',rfl⟩ : ∃ k',k = k' + 1:=⟨k - 1,by omega⟩
        rw [hgs,show b kk st = _ from hK1 kk (by omega)]
        simp only [Option.bind_some,hr,if_true]
        rw [hK2 kk (by omega) k' (by omega),gOut,if_pos hr]
theorem growOut_ev {σ : Type} {I : σ → Prop} {μ : σ → Nat} {stp : σ → Prod → Bool × σ} {ps : List Prod} (hg : Good I μ stp ps) (f : Nat → σ → Prod → Option (Bool × σ)) (hf : ∀ st p,I st → p ∈ ps → Ev (fun k => f k st p) (stp st p)) (n : Nat) (st : σ) (h : I st) (hn : μ st ≤ n) : Ev (fun k => growOut (f k) ps k st) (gOut stp ps n st) := by
 obtain ⟨K,hK⟩ := out_ev hg (fun kk k st => growOut (f kk) ps k st) (fun kk st => growIn (f kk) ps false st) (fun st h => growIn_ev hg hf false st h) (fun kk k st => by rw [growOut]) n st h hn
 exact ⟨K,fun k hk => hK k hk k hk⟩
def cf : List Bool → Nat
  | [] => 0
  | x :: a => (if x = true then 0 else 1) + cf a
theorem cf_orL : ∀ (a b : List Bool),a.length = b.length → cf (orL a b) ≤ cf a ∧ (moreL a b = true → cf (orL a b) < cf a)
  | [],[],_ => by simp [orL,cf,moreL]
  | x :: a,y :: b,h => by
    obtain ⟨h1,h2⟩ := cf_orL a b (by simpa using h)
    have e : orL (x :: a) (y :: b) = (x || y) :: orL a b:=rfl
    rw [e]
    cases x <;> cases y <;> simp [cf,moreL] <;> first | exact ⟨h1,h2⟩ | (refine ⟨by omega,fun h => ?_⟩;have:=h2 h;omega) | omega
theorem cf_set : ∀ (a : List Bool) (i : Nat),i < a.length → a.getD i false = false → cf (a.set i true) < cf a
  | x :: a,0,_,h => by
    have : x = false:=by simpa using h
    subst this;simp [cf]
  | x :: a,i + 1,hi,h => by
    have:=cf_set a i (by simpa using hi) (by simpa using h)
    simp only [List.set_cons_succ,cf];omega
def cfs : List (List Bool) → Nat
  | [] => 0
  | r :: m => cf r + cfs m
theorem cfs_set : ∀ (m : List (List Bool)) (i : Nat) (r : List Bool),i < m.length → cf r ≤ cf (m.getD i []) → cfs (m.set i r) ≤ cfs m ∧ (cf r < cf (m.getD i []) → cfs (m.set i r) < cfs m)
  | x :: m,0,r,_,h => by
    simp only [List.getD_cons_zero,List.set_cons_zero,cfs] at h ⊢
    omega
  | x :: m,i + 1,r,hi,h => by
    have:=cfs_set m i r (by simpa using hi) (by simpa using h)
    simp only [List.getD_cons_succ,List.set_cons_succ,cfs] at h ⊢
    omega
def Small (ps : List Prod) : Prop:=ps.length ≤ 1000000 ∧ ∀ p ∈ ps,p.f1.length ≤ 1000000
theorem firstsRight_val (l0 : List ByteArray) (l1 : List Tok) (a2 a3 : Int) (l4 : List Prod) (h : Small l4) : firsts_Right.f l0 l1 a2 a3 l4 = some (l4.all (okProd l0.length l1.length)) := by
 unfold firsts_Right.f
 rw [if_pos ⟨by have:=h.1;omega,by rw [List.all_eq_true];intro p hp;have:=h.2 p hp;exact decide_eq_true (by omega)⟩]
theorem refRight_l1_ev (l0 : List ByteArray) (l1 : List Tok) (a2 a3 : Int) (l4 : List Prod) (x3 left : Int) (r : Bool) : ∀ (l pre : List Sym),pre.length + l.length ≤ 1000000 → (l.all (okSym l0.length l1.length) = true → Ev (fun k => regletref13_Right.l0 k (wrap64 (x3 + 1)) l0 l1 a2 a3 l4) r) → (l.all (okSym l0.length l1.length) = false → r = false) → Ev (fun k => regletref13_Right.l1 k x3 (pre.length : Int) l0 l1 a2 a3 l4 left (pre ++ l)) r
  | [],pre,_,h1,_ => Ev.step (fun k => by rw [regletref13_Right.l1]) (Ev.neg (by simp) (h1 rfl))
  | x :: l,pre,h3,h1,h2 => by
    simp only [List.length_cons] at h3
    have ih:=refRight_l1_ev l0 l1 a2 a3 l4 x3 left r l (pre ++ [x]) (by simp;omega)
    simp only [← wrap_next pre _ (show pre.length ≤ 1000000 by omega),List.append_assoc,List.singleton_append] at ih
    have e : rd_T53 (pre ++ x :: l) (pre.length : Int) = x:=getD_mid _ pre x l _ rfl
    refine Ev.step (fun k => by rw [regletref13_Right.l1]) ?_
    rw [e]
    refine Ev.pos (by simp;omega) (Ev.pos (by omega) ?_)
    cases hx : x.f0 with
    | true =>
      refine Ev.pos rfl ?_
      by_cases h0 : x.f1 < 0
      · exact Ev.pos h0 (Ev.some (h2 (by simp [okSym,hx];omega)).symm)
      · refine Ev.neg h0 ?_
        by_cases h5 : x.f1 ≥ (l1.length : Int)
        · exact Ev.pos h5 (Ev.some (h2 (by simp [okSym,hx];omega)).symm)
        · refine Ev.neg h5 (ih (fun h => h1 ?_) (fun h => h2 ?_))
          · simp [okSym,hx, -List.all_eq_true] ;exact ⟨by omega,h⟩
          · rw [List.all_cons,h,Bool.and_false]
    | false =>
      refine Ev.neg (by simp) ?_
      by_cases h0 : x.f1 < 0
      · exact Ev.pos h0 (Ev.some (h2 (by simp [okSym,hx];omega)).symm)
      · refine Ev.neg h0 ?_
        by_cases h5 : x.f1 ≥ (l0.length : Int)
        · exact Ev.pos h5 (Ev.some (h2 (by simp [okSym,hx];omega)).symm)
        · refine Ev.neg h5 (ih (fun h => h1 ?_) (fun h => h2 ?_))
          · simp [okSym,hx, -List.all_eq_true] ;exact ⟨by omega,h⟩
          · rw [List.all_cons,h,Bool.and_false]
theorem refRight_l0_ev (l0 : List ByteArray) (l1 : List Tok) (a2 a3 : Int) : ∀ (qs pre : List Prod),pre.length + qs.length ≤ 1000000 → (∀ p ∈ qs,p.f1.length ≤ 1000000) → Ev (fun k => regletref13_Right.l0 k (pre.length : Int) l0 l1 a2 a3 (pre ++ qs)) (qs.all (okProd l0.length l1.length))
  | [],pre,_,_ => Ev.step (fun k => by rw [regletref13_Right.l0]) (Ev.neg (by simp) (Ev.some (by simp)))
  | p :: qs,pre,h3,h4 => by
    simp only [List.length_cons] at h3
    have ih:=refRight_l0_ev l0 l1 a2 a3 qs (pre ++ [p]) (by simp;omega) (fun p hp => h4 p (List.mem_cons_of_mem _ hp))
    simp only [← wrap_next pre _ (show pre.length ≤ 1000000 by omega),List.append_assoc,List.singleton_append] at ih
    have e : rd_T30 (pre ++ p :: qs) (pre.length : Int) = p:=getD_mid _ pre p qs _ rfl
    refine Ev.step (fun k => by rw [regletref13_Right.l0]) ?_
    rw [e]
    refine Ev.pos (by simp;omega) (Ev.pos (by omega) ?_)
    by_cases h0 : p.f0 < 0
    · refine Ev.pos h0 (Ev.step (fun k => by rw [regletref13_Right.j1]) (Ev.pos rfl (Ev.some ?_)))
      simp [okProd];omega
    · refine Ev.neg h0 (Ev.step (fun k => by rw [regletref13_Right.j1]) ?_)
      by_cases h5 : p.f0 ≥ (l0.length : Int)
      · refine Ev.pos (decide_eq_true h5) (Ev.some ?_)
        simp [okProd];omega
      · refine Ev.neg (by simpa using h5) ?_
        have h:=refRight_l1_ev l0 l1 a2 a3 (pre ++ p :: qs) (pre.length : Int) p.f0 ((p :: qs).all (okProd l0.length l1.length)) p.f1 [] (by have:=h4 p List.mem_cons_self;simpa using this) (fun h => Ev.val ih (by
            have : okProd l0.length l1.length p = true:=by simp only [okProd,h,Bool.and_true,Bool.and_eq_true,decide_eq_true_eq];omega
            rw [List.all_cons,this,Bool.true_and])) (fun h => by
            have : okProd l0.length l1.length p = false:=by simp only [okProd,h,Bool.and_false]
            rw [List.all_cons,this,Bool.false_and])
        simpa only [List.nil_append,List.length_nil,Int.natCast_zero] using h
theorem refRight_ev (l0 : List ByteArray) (l1 : List Tok) (a2 a3 : Int) (l4 : List Prod) (h : Small l4) : Ev (fun k => regletref13_Right.f k l0 l1 a2 a3 l4) (l4.all (okProd l0.length l1.length)) :=
  Ev.congr (fun k => by rw [regletref13_Right.f]) (by simpa only [List.nil_append,List.length_nil,Int.natCast_zero] using refRight_l0_ev l0 l1 a2 a3 l4 [] (by have:=h.1;simpa using this) h.2)
def cNew (token : Bool) (out : List Bool) (p : Prod) : Bool := !(p.f1.any (oddP token out)) && !(out.getD p.f0.toNat false)
def cStep (token : Bool) (out : List Bool) (p : Prod) : Bool × List Bool:=(cNew token out p,if cNew token out p = true then out.set p.f0.toNat true else out)
theorem closedStep_val (token : Bool) (out : List Bool) (p : Prod) : closedStep token out p = some (cStep token out p) := by
 have e : rdOf false out p.f0 = out.getD p.f0.toNat false:=rfl
 unfold closedStep cStep cNew
 rw [e]
 cases out.getD p.f0.toNat false <;> cases p.f1.any (oddP token out) <;> rfl
theorem okProd_left {nn nt : Nat} {p : Prod} (h : okProd nn nt p = true) : 0 ≤ p.f0 ∧ p.f0 < (nn : Int) := by
 simp only [okProd,Bool.and_eq_true,decide_eq_true_eq] at h;exact h.1
theorem okProd_right {nn nt : Nat} {p : Prod} (h : okProd nn nt p = true) : p.f1.all (okSym nn nt) = true:=by
 simp only [okProd,Bool.and_eq_true,decide_eq_true_eq] at h;exact h.2
theorem cStep_good (nn nt : Nat) (token : Bool) {ps : List Prod} (hps : ps.all (okProd nn nt) = true) : Good (fun out : List Bool => out.length = nn) cf (cStep token) ps:=by
 intro st p hI hp
 have hl:=okProd_left (List.all_eq_true.1 hps p hp)
 unfold cStep
 simp only
 cases hc : cNew token st p with
 | false => simp [hI]
 | true =>
  have h0 : st.getD p.f0.toNat false = false:=by
   simp only [cNew,Bool.and_eq_true,Bool.not_eq_true'] at hc;exact hc.2
  have h:=cf_set st p.f0.toNat (by omega) h0
  simp only [if_true]
  exact ⟨by simpa using hI,Nat.le_of_lt h,fun _ => h⟩
def clo (token : Bool) (nn : Nat) (ps : List Prod) : List Bool:=gOut (cStep token) ps (cf (List.replicate nn false)) (List.replicate nn false)
theorem clo_length (nn nt : Nat) (token : Bool) {ps : List Prod} (hps : ps.all (okProd nn nt) = true) : (clo token nn ps).length = nn :=
  gOut_I (cStep_good nn nt token hps) _ _ (by simp)
theorem closed_ev (l0 : List ByteArray) (l1 : List Tok) (a2 a3 : Int) (l4 : List Prod) (h : Small l4) (hn : l0.length ≤ 1000000) (token : Bool) : Ev (fun k => firsts_closed.f k l0 l1 a2 a3 l4 token) (if l4.all (okProd l0.length l1.length) = true then clo token l0.length l4 else []) := by
 refine Ev.congr (fun k => by rw [firsts_closed.f]) (Ev.bind0 (firstsRight_val l0 l1 a2 a3 l4 h) ?_)
 cases hr : l4.all (okProd l0.length l1.length) with
 | false => exact Ev.neg (by simp) (Ev.some (by simp))
 | true =>
  rw [if_pos rfl]
  refine Ev.pos rfl (Ev.pos (by omega) ?_)
  exact growOut_ev (cStep_good l0.length l1.length token hr) (fun _ => closedStep token) (fun st p _ _ => Ev.some' (closedStep_val token st p)) _ _ (by simp) (Nat.le_refl _)
theorem any_step (token : Bool) (out : List Bool) (x : Sym) (l : List Sym) (is : Bool) : (is && !((x :: l).any (oddP token out))) = ((is && !(oddP token out x)) && !(l.any (oddP token out))) := by
 cases is <;> simp
theorem empty_ev (l0 : List ByteArray) (l1 : List Tok) (a2 a3 : Int) (l4 : List Prod) (h : Small l4) (hn : l0.length ≤ 1000000) : Ev (fun k => firsts_Empty.f k l0 l1 a2 a3 l4) (if l4.all (okProd l0.length l1.length) = true then clo false l0.length l4 else []) :=
  Ev.congr (fun k => by rw [firsts_Empty.f]) (Ev.bind (closed_ev l0 l1 a2 a3 l4 h hn false) (Ev.some rfl))
theorem refEmpty_l2_ev (l0 : List ByteArray) (l1 : List Tok) (a2 a3 : Int) (l4 : List Prod) (out : List Bool) (more : Bool) (x5 left : Int) (hl0 : 0 ≤ left) (hl1 : left < (out.length : Int)) (h50 : 0 ≤ x5) (h51 : x5 < (l4.length : Int)) (r : List Bool) : ∀ (l pre : List Sym) (is : Bool),rd_T30 l4 x5 = ⟨left,pre ++ l⟩ → l.all (okSym out.length l1.length) = true → pre.length + l.length ≤ 1000000 →
    Ev (fun k => regletref13_Empty.l1 k (if ((is && !(l.any (oddP false out))) && !(out.getD left.toNat false)) = true then out.set left.toNat true else out) (((is && !(l.any (oddP false out))) && !(out.getD left.toNat false)) || more) (wrap64 (x5 + 1)) l0 l1 a2 a3 l4) r → Ev (fun k => regletref13_Empty.l2 k out more x5 is (pre.length : Int) l0 l1 a2 a3 l4) r
  | [],pre,is,e,_,_,hk => by
    refine Ev.step (fun k => by rw [regletref13_Empty.l2]) ?_
    rw [e]
    have e2 : rdOf false out left = out.getD left.toNat false:=rfl
    refine Ev.pos h50 (Ev.pos h51 (Ev.neg (by simp) ?_))
    rw [e2]
    cases is with
    | false => exact Ev.neg (by simp) (by simpa using hk)
    | true =>
      refine Ev.pos rfl (Ev.pos hl0 (Ev.pos hl1 ?_))
      cases ho : out.getD left.toNat false with
      | true => exact Ev.pos rfl (by rw [ho] at hk;simpa using hk)
      | false => exact Ev.neg (by simp) (by rw [ho] at hk;simpa using hk)
  | x :: l,pre,is,e,hok,h3,hk => by
    simp only [List.length_cons] at h3
    simp only [List.all_cons,Bool.and_eq_true] at hok
    have ih:=fun is => refEmpty_l2_ev l0 l1 a2 a3 l4 out more x5 left hl0 hl1 h50 h51 r l (pre ++ [x]) is (by rw [List.append_assoc];exact e) hok.2 (by simp;omega)
    simp only [← wrap_next pre _ (show pre.length ≤ 1000000 by omega)] at ih
    rw [any_step] at hk
    have e1 : rd_T53 (pre ++ x :: l) (pre.length : Int) = x:=getD_mid _ pre x l _ rfl
    refine Ev.step (fun k => by rw [regletref13_Empty.l2]) ?_
    rw [e]
    simp only [e1]
    refine Ev.pos h50 (Ev.pos h51 (Ev.pos (by simp;omega) (Ev.pos (by omega) ?_)))
    cases is with
    | false => exact Ev.neg (by simp) (ih false (by rw [Bool.false_and] at hk;exact hk))
    | true =>
      refine Ev.pos rfl ?_
      have hb:=hok.1
      cases hx : x.f0 with
      | true =>
        have ho : oddP false out x = true:=by simp [oddP,hx]
        rw [ho] at hk
        exact Ev.pos rfl (ih false hk)
      | false =>
        have hb:=okSym_rule hok.1 hx
        have ho : (true && !oddP false out x) = rdOf false out x.f1:=by simp [oddP,hx]
        rw [ho] at hk
        exact Ev.neg (by simp) (Ev.pos hb.1 (Ev.pos hb.2 (ih _ hk)))
theorem refEmpty_l1_ev (l0 : List ByteArray) (l1 : List Tok) (a2 a3 : Int) (r : List Bool) : ∀ (qs pre : List Prod) (out : List Bool) (more : Bool),out.length = l0.length → qs.all (okProd l0.length l1.length) = true → pre.length + qs.length ≤ 1000000 → (∀ p ∈ qs,p.f1.length ≤ 1000000) → Ev (fun k => regletref13_Empty.l0 k (gIn (cStep false) qs more out).2 (gIn (cStep false) qs more out).1 l0 l1 a2 a3 (pre ++ qs)) r → Ev (fun k => regletref13_Empty.l1 k out more (pre.length : Int) l0 l1 a2 a3 (pre ++ qs)) r
  | [],pre,out,more,_,_,_,_,hk => Ev.step (fun k => by rw [regletref13_Empty.l1]) (Ev.neg (by simp) (by simpa [gIn] using hk))
  | p :: qs,pre,out,more,ho,hok,h3,h4,hk => by
    simp only [List.length_cons] at h3
    simp only [List.all_cons,Bool.and_eq_true] at hok
    have ih:=fun out more ho => refEmpty_l1_ev l0 l1 a2 a3 r qs (pre ++ [p]) out more ho hok.2 (by simp;omega) (fun p hp => h4 p (List.mem_cons_of_mem _ hp))
    simp only [← wrap_next pre _ (show pre.length ≤ 1000000 by omega),List.append_assoc,List.singleton_append] at ih
    refine Ev.step (fun k => by rw [regletref13_Empty.l1]) (Ev.pos (by simp;omega) ?_)
    have hl:=okProd_left hok.1
    have e : rd_T30 (pre ++ p :: qs) (pre.length : Int) = ⟨p.f0,[] ++ p.f1⟩ := getD_mid _ pre p qs _ rfl
    have h:=refEmpty_l2_ev l0 l1 a2 a3 (pre ++ p :: qs) out more (pre.length : Int) p.f0 hl.1 (by omega) (by omega) (by simp;omega) r p.f1 [] true e (by rw [ho];exact okProd_right hok.1) (by have:=h4 p List.mem_cons_self;simpa using this)
    refine h ?_
    rw [gIn] at hk
    have hlen : (cStep false out p).2.length = l0.length:=by unfold cStep;simp only;split <;> simp [ho]
    have h2:=ih _ _ hlen hk
    have e2 : ((true && !(p.f1.any (oddP false out))) && !(out.getD p.f0.toNat false)) = cNew false out p:=by simp [cNew]
    rw [e2]
    exact h2
theorem refEmpty_l0_ev (l0 : List ByteArray) (l1 : List Tok) (a2 a3 : Int) (l4 : List Prod) (hs : Small l4) (hok : l4.all (okProd l0.length l1.length) = true) : ∀ (n : Nat) (out : List Bool),out.length = l0.length → cf out ≤ n → Ev (fun k => regletref13_Empty.l0 k out true l0 l1 a2 a3 l4) (gOut (cStep false) l4 n out)
  | n,out,ho,hn => by
    obtain ⟨h1,h2,h3⟩ := gIn_good (cStep_good l0.length l1.length false hok) false out ho
    refine Ev.step (fun k => by rw [regletref13_Empty.l0]) (Ev.pos rfl ?_)
    have h:=refEmpty_l1_ev l0 l1 a2 a3 (gOut (cStep false) l4 n out) l4 [] out false ho hok (by have:=hs.1;simpa using this) hs.2
    simp only [List.nil_append,List.length_nil,Int.natCast_zero] at h
    refine h ?_
    cases hr : (gIn (cStep false) l4 false out).1 with
    | false =>
      refine Ev.step (fun k => by rw [regletref13_Empty.l0]) (Ev.neg (by simp) (Ev.some ?_))
      cases n <;> simp [gOut,hr]
    | true =>
      have hlt:=(h3 hr).resolve_left (by simp)
      cases n with
      | zero => omega
      | succ n =>
        refine Ev.val (refEmpty_l0_ev l0 l1 a2 a3 l4 hs hok n _ h1 (by omega)) ?_
        rw [gOut,if_pos hr]
theorem refEmpty_ev (l0 : List ByteArray) (l1 : List Tok) (a2 a3 : Int) (l4 : List Prod) (h : Small l4) (hn : l0.length ≤ 1000000) : Ev (fun k => regletref13_Empty.f k l0 l1 a2 a3 l4) (if l4.all (okProd l0.length l1.length) = true then clo false l0.length l4 else []) := by
 refine Ev.congr (fun k => by rw [regletref13_Empty.f]) (Ev.bind (refRight_ev l0 l1 a2 a3 l4 h) ?_)
 cases hr : l4.all (okProd l0.length l1.length) with
 | false => exact Ev.neg (by simp) (Ev.some (by simp))
 | true =>
  rw [if_pos rfl]
  refine Ev.pos rfl (Ev.pos (by omega) (Ev.pos (by omega) ?_))
  rw [Int.toNat_natCast]
  exact refEmpty_l0_ev l0 l1 a2 a3 l4 h hr _ _ (by simp) (Nat.le_refl _)
def rows0 (nn nt : Nat) : List (List Bool) := List.replicate nn (none0 nt)
theorem rows0_sh (nn nt : Nat) : Sh nn nt (rows0 nn nt) := ⟨by simp [rows0],fun r hr => by rw [List.eq_of_mem_replicate hr];simp [none0]⟩
theorem marks_l0_ev (l0 : List ByteArray) (l1 : List Tok) (a2 a3 : Int) (l4 : List Prod) (h0 : l0.length ≤ 1000000) (h1 : l1.length ≤ 1000000) : ∀ (n : Nat) (out : List (List Bool)),out.length + n = l0.length → Ev (fun k => regletref13_marks.l0 k out (out.length : Int) l0 l1 a2 a3 l4) (out ++ rows0 n l1.length)
  | 0,out,h => Ev.step (fun k => by rw [regletref13_marks.l0]) (Ev.neg (by omega) (Ev.some (by simp [rows0])))
  | n + 1,out,h => by
    have ih:=marks_l0_ev l0 l1 a2 a3 l4 h0 h1 n (out ++ [none0 l1.length]) (by simp;omega)
    rw [← wrap_next out _ (show out.length ≤ 1000000 by omega)] at ih
    have e : wrap64 ((l1.length : Int) + 1) = ((l1.length + 1 : Nat) : Int) := by rw [wrap64_id (by omega) (by omega)];simp
    refine Ev.step (fun k => by rw [regletref13_marks.l0,e]) (Ev.pos (by omega) (Ev.pos (by omega) (Ev.pos (by omega) (Ev.pos (by omega) ?_))))
    rw [Int.toNat_natCast]
    exact Ev.val ih (by simp [rows0,List.replicate_succ])
theorem marks_ev (l0 : List ByteArray) (l1 : List Tok) (a2 a3 : Int) (l4 : List Prod) (h0 : l0.length ≤ 1000000) (h1 : l1.length ≤ 1000000) : Ev (fun k => regletref13_marks.f k l0 l1 a2 a3 l4) (rows0 l0.length l1.length) :=
  Ev.congr (fun k => by rw [regletref13_marks.f]) (by simpa using marks_l0_ev l0 l1 a2 a3 l4 h0 h1 l0.length [] (by simp))
def sStep (nt : Nat) (em : List Bool) (m : List (List Bool)) (p : Prod) : Bool × List (List Bool) :=
  (moreL (m.getD p.f0.toNat []) (bg em m p.f1 (none0 nt)).1,m.set p.f0.toNat (orL (m.getD p.f0.toNat []) (bg em m p.f1 (none0 nt)).1))
theorem none0_length (nt : Nat) : (none0 nt).length = nt + 1:=by simp [none0]
theorem row_step {nn nt : Nat} {m : List (List Bool)} (hs : Sh nn nt m) {i : Nat} (hi : i < nn) {b : List Bool} (hb : b.length = nt + 1) : Sh nn nt (m.set i (orL (m.getD i []) b)) ∧ cfs (m.set i (orL (m.getD i []) b)) ≤ cfs m ∧ (moreL (m.getD i []) b = true → cfs (m.set i (orL (m.getD i []) b)) < cfs m) := by
 have hr:=hs.get hi
 have h1:=cf_orL (m.getD i []) b (by rw [hr,hb])
 have h2:=cfs_set m i (orL (m.getD i []) b) (by rw [hs.1];exact hi) h1.1
 exact ⟨hs.set i (by rw [orL_length (by rw [hr,hb]),hr]),h2.1,fun h => h2.2 (h1.2 h)⟩
theorem sStep_good {nn nt : Nat} (em : List Bool) {ps : List Prod} (hps : ps.all (okProd nn nt) = true) : Good (Sh nn nt) cfs (sStep nt em) ps:=by
 intro st p hI hp
 have hok:=List.all_eq_true.1 hps p hp
 have hl:=okProd_left hok
 exact row_step hI (by omega) (bg_length em hI p.f1 _ (okProd_right hok) (none0_length nt))
def fst (nn nt : Nat) (em : List Bool) (ps : List Prod) : List (List Bool) := gOut (sStep nt em) ps (cfs (rows0 nn nt)) (rows0 nn nt)
theorem fst_sh (nn nt : Nat) (em : List Bool) {ps : List Prod} (hps : ps.all (okProd nn nt) = true) : Sh nn nt (fst nn nt em ps) :=
  gOut_I (sStep_good em hps) _ _ (rows0_sh nn nt)
theorem studiedStep_ev {nn nt : Nat} {em : List Bool} (he : em.length = nn) (hnt : nt ≤ 1000) {m : List (List Bool)} (hs : Sh nn nt m) {p : Prod} (hok : okProd nn nt p = true) (h3 : p.f1.length ≤ 1000000) : Ev (fun k => studiedStep k nt em m p) (sStep nt em m p) := by
 have hl:=okProd_left hok
 have hs1:=hs.1
 have hb:=bg_length em hs p.f1 _ (okProd_right hok) (none0_length nt)
 have hr:=hs.get (i:=p.f0.toNat) (by omega)
 refine Ev.congr (fun k => by rw [studiedStep]) (Ev.bind (begins_ev hs he hnt p.f1 (okProd_right hok) h3) ?_)
 refine Ev.pos hl.1 (Ev.pos (by omega) ?_)
 exact Ev.bind (add_ev (m.getD p.f0.toNat []) (bg em m p.f1 (none0 nt)).1 (by rw [hr,hb]) (by omega)) (Ev.some rfl)
theorem studied_ev (l0 : List ByteArray) (l1 : List Tok) (a2 a3 : Int) (l4 : List Prod) (h : Small l4) (h0 : l0.length ≤ 1000000) (h1 : l1.length ≤ 1000) (hok : l4.all (okProd l0.length l1.length) = true) : Ev (fun k => studied_f k l0 l1 a2 a3 l4) (clo false l0.length l4,fst l0.length l1.length (clo false l0.length l4) l4) := by
 refine Ev.congr (fun k => by rw [studied_f,if_pos ⟨by omega,by omega,by have:=h.1;omega⟩]) (Ev.bind (Ev.val (empty_ev l0 l1 a2 a3 l4 h h0) (if_pos hok)) ?_)
 have he:=clo_length l0.length l1.length false hok
 refine Ev.bind (growOut_ev (sStep_good _ hok) (fun k => studiedStep k l1.length (clo false l0.length l4)) (fun st p hI hp => studiedStep_ev he h1 hI (List.all_eq_true.1 hok p hp) (h.2 p hp)) _ _ (rows0_sh l0.length l1.length) (Nat.le_refl _)) (Ev.some rfl)
theorem refFirst_l1_ev (l0 : List ByteArray) (l1 : List Tok) (a2 a3 : Int) (em : List Bool) (he : em.length = l0.length) (h1 : l1.length ≤ 1000) : ∀ (qs pre : List Prod) (m : List (List Bool)) (more : Bool),Sh l0.length l1.length m → qs.all (okProd l0.length l1.length) = true → pre.length + qs.length ≤ 1000000 → (∀ p ∈ qs,p.f1.length ≤ 1000000) → Ev (fun k => regletref13_first.l1 l0 l1 a2 a3 (pre ++ qs) k m em more (pre.length : Int)) (gIn (sStep l1.length em) qs more m)
  | [],pre,m,more,_,_,_,_ => Ev.step (fun k => by rw [regletref13_first.l1]) (Ev.neg (by simp) (Ev.some (by simp [gIn])))
  | p :: qs,pre,m,more,hs,hok,h3,h4 => by
    simp only [List.length_cons] at h3
    simp only [List.all_cons,Bool.and_eq_true] at hok
    have ih:=fun m more hs => refFirst_l1_ev l0 l1 a2 a3 em he h1 qs (pre ++ [p]) m more hs hok.2 (by simp;omega) (fun p hp => h4 p (List.mem_cons_of_mem _ hp))
    simp only [← wrap_next pre _ (show pre.length ≤ 1000000 by omega),List.append_assoc,List.singleton_append] at ih
    have hl:=okProd_left hok.1
    have hs1:=hs.1
    have hb:=bg_length em hs p.f1 _ (okProd_right hok.1) (none0_length l1.length)
    have hr:=hs.get (i:=p.f0.toNat) (by omega)
    have hg:=(sStep_good em (ps := [p]) (by simp [hok.1])) m p hs (by simp)
    have e : rd_T30 (pre ++ p :: qs) (pre.length : Int) = p:=getD_mid _ pre p qs _ rfl
    refine Ev.step (fun k => by rw [regletref13_first.l1]) ?_
    rw [e]
    refine Ev.pos (by simp;omega) (Ev.pos (by omega) (Ev.bind (refBegins_ev l0 l1 a2 a3 _ hs he h1 p.f1 (okProd_right hok.1) (h4 p List.mem_cons_self)) (Ev.pos hl.1 (Ev.pos (by omega) (Ev.bind (join_ev (m.getD p.f0.toNat []) (bg em m p.f1 (none0 l1.length)).1 (by rw [hr,hb]) (by omega)) ?_)))))
    refine Ev.val (ih _ _ hg.1) ?_
    rw [gIn]
    congr 1
    show (if (sStep l1.length em m p).1 = true then true else more) = _
    cases (sStep l1.length em m p).1 <;> rfl
theorem refFirst_l0_ev (l0 : List ByteArray) (l1 : List Tok) (a2 a3 : Int) (l4 : List Prod) (h : Small l4) (em : List Bool) (he : em.length = l0.length) (h1 : l1.length ≤ 1000) (hok : l4.all (okProd l0.length l1.length) = true) : ∀ (n : Nat) (m : List (List Bool)),Sh l0.length l1.length m → cfs m ≤ n → Ev (fun k => regletref13_first.l0 l0 l1 a2 a3 l4 k m em true) (gOut (sStep l1.length em) l4 n m)
  | n,m,hs,hn => by
    obtain ⟨g1,g2,g3⟩ := gIn_good (sStep_good em hok) false m hs
    have h5:=refFirst_l1_ev l0 l1 a2 a3 em he h1 l4 [] m false hs hok (by have:=h.1;simpa using this) h.2
    simp only [List.nil_append,List.length_nil,Int.natCast_zero] at h5
    refine Ev.step (fun k => by rw [regletref13_first.l0]) (Ev.pos rfl (Ev.bind h5 ?_))
    cases hr : (gIn (sStep l1.length em) l4 false m).1 with
    | false =>
      refine Ev.step (fun k => by rw [regletref13_first.l0]) (Ev.neg (by simp) (Ev.some ?_))
      cases n <;> simp [gOut,hr]
    | true =>
      have hlt:=(g3 hr).resolve_left (by simp)
      cases n with
      | zero => omega
      | succ n =>
        refine Ev.val (refFirst_l0_ev l0 l1 a2 a3 l4 h em he h1 hok n _ g1 (by omega)) ?_
        rw [gOut,if_pos hr]
theorem refFirst_ev (l0 : List ByteArray) (l1 : List Tok) (a2 a3 : Int) (l4 : List Prod) (h : Small l4) (h0 : l0.length ≤ 1000000) (h1 : l1.length ≤ 1000) (hok : l4.all (okProd l0.length l1.length) = true) : Ev (fun k => regletref13_first.f k l0 l1 a2 a3 l4) (fst l0.length l1.length (clo false l0.length l4) l4) := by
 refine Ev.congr (fun k => by rw [regletref13_first.f]) (Ev.bind (marks_ev l0 l1 a2 a3 l4 h0 (by omega)) (Ev.bind (Ev.val (refEmpty_ev l0 l1 a2 a3 l4 h h0) (if_pos hok)) ?_))
 exact refFirst_l0_ev l0 l1 a2 a3 l4 h _ (clo_length l0.length l1.length false hok) h1 hok _ _ (rows0_sh l0.length l1.length) (Nat.le_refl _)
theorem or_self : ∀ a : List Bool,orL a a = a
  | [] => rfl
  | x :: a => by show (x || x) :: orL a a = x :: a;rw [or_self a,Bool.or_self]
theorem more_self : ∀ a : List Bool,moreL a a = false
  | [] => rfl
  | x :: a => by show ((x && !x) || moreL a a) = false;rw [more_self a];cases x <;> rfl
theorem or_three : ∀ (a b c : List Bool),a.length = b.length → b.length = c.length → orL a (orL b c) = orL (orL a b) c ∧ moreL a (orL b c) = (moreL (orL a b) c || moreL a b)
  | [],[],[],_,_ => ⟨rfl,rfl⟩
  | x :: a,y :: b,z :: c,h1,h2 => by
    obtain ⟨h3,h4⟩ := or_three a b c (by simpa using h1) (by simpa using h2)
    constructor
    · show (x || (y || z)) :: orL a (orL b c) = (x || y || z) :: orL (orL a b) c
      rw [h3,Bool.or_assoc]
    · show (((y || z) && !x) || moreL a (orL b c)) = (((z && !(x || y)) || moreL (orL a b) c) || ((y && !x) || moreL a b))
      rw [h4]
      cases x <;> cases y <;> cases z <;> simp
theorem or_back : ∀ (a b : List Bool),a.length = b.length → orL a (orL b a) = orL a b ∧ moreL a (orL b a) = moreL a b
  | [],[],_ => ⟨rfl,rfl⟩
  | x :: a,y :: b,h1 => by
    obtain ⟨h3,h4⟩ := or_back a b (by simpa using h1)
    constructor
    · show (x || (y || x)) :: orL a (orL b a) = (x || y) :: orL a b
      rw [h3];cases x <;> cases y <;> rfl
    · show (((y || x) && !x) || moreL a (orL b a)) = ((y && !x) || moreL a b)
      rw [h4];cases x <;> cases y <;> rfl
def fAdd (nt : Nat) (em : List Bool) (first : List (List Bool)) (left : Nat) (ys : List Sym) (out : List (List Bool)) : List Bool :=
  if (bg em first ys (none0 nt)).2 = true then orL (bg em first ys (none0 nt)).1 (out.getD left []) else (bg em first ys (none0 nt)).1
def fIn (nt : Nat) (em : List Bool) (first : List (List Bool)) (left : Nat) : List Sym → Bool → List (List Bool) → Bool × List (List Bool)
  | [],g,out => (g,out)
  | y :: ys,g,out => if y.f0 = true then fIn nt em first left ys g out else
    fIn nt em first left ys (moreL (out.getD y.f1.toNat []) (fAdd nt em first left ys out) || g) (out.set y.f1.toNat (orL (out.getD y.f1.toNat []) (fAdd nt em first left ys out)))
def fStep (nt : Nat) (em : List Bool) (first : List (List Bool)) (out : List (List Bool)) (p : Prod) : Bool × List (List Bool) := fIn nt em first p.f0.toNat p.f1 false out
theorem fAdd_length {nn nt : Nat} (em : List Bool) {first out : List (List Bool)} (hf : Sh nn nt first) (hs : Sh nn nt out) {left : Nat} (hl : left < nn) {ys : List Sym} (hok : ys.all (okSym nn nt) = true) : (fAdd nt em first left ys out).length = nt + 1:=by
 have hb:=bg_length em hf ys _ hok (none0_length nt)
 unfold fAdd
 split
 · rw [orL_length (by rw [hb,hs.get hl]),hb]
 · exact hb
theorem fIn_good {nn nt : Nat} (em : List Bool) {first : List (List Bool)} (hf : Sh nn nt first) {left : Nat} (hl : left < nn) : ∀ (ys : List Sym) (g : Bool) (out : List (List Bool)),ys.all (okSym nn nt) = true → Sh nn nt out → Sh nn nt (fIn nt em first left ys g out).2 ∧ cfs (fIn nt em first left ys g out).2 ≤ cfs out ∧ ((fIn nt em first left ys g out).1 = true → g = true ∨ cfs (fIn nt em first left ys g out).2 < cfs out)
  | [],g,out,_,hs => ⟨hs,Nat.le_refl _,fun h => .inl h⟩
  | y :: ys,g,out,hok,hs => by
    simp only [List.all_cons,Bool.and_eq_true] at hok
    unfold fIn
    cases hy : y.f0 with
    | true => rw [if_pos rfl];exact fIn_good em hf hl ys g out hok.2 hs
    | false =>
      rw [if_neg (by simp)]
      have hb:=okSym_rule hok.1 hy
      obtain ⟨h1,h2,h3⟩ := row_step hs (i:=y.f1.toNat) (by omega) (fAdd_length em hf hs hl hok.2)
      obtain ⟨h4,h5,h6⟩ := fIn_good em hf hl ys (moreL (out.getD y.f1.toNat []) (fAdd nt em first left ys out) || g) _ hok.2 h1
      refine ⟨h4,Nat.le_trans h5 h2,fun h => ?_⟩
      rcases h6 h with h7 | h7
      · rcases (Bool.or_eq_true _ _).mp h7 with h8 | h8
        · exact .inr (Nat.lt_of_le_of_lt h5 (h3 h8))
        · exact .inl h8
      · exact .inr (Nat.lt_of_lt_of_le h7 h2)
theorem fStep_good {nn nt : Nat} (em : List Bool) {first : List (List Bool)} (hf : Sh nn nt first) {ps : List Prod} (hps : ps.all (okProd nn nt) = true) : Good (Sh nn nt) cfs (fStep nt em first) ps:=by
 intro st p hI hp
 have hok:=List.all_eq_true.1 hps p hp
 have hl:=okProd_left hok
 obtain ⟨h1,h2,h3⟩ := fIn_good em hf (left:=p.f0.toNat) (by omega) p.f1 false st (okProd_right hok) hI
 exact ⟨h1,h2,fun h => (h3 h).resolve_left (by simp)⟩
theorem followAdd_ev {nn nt : Nat} (hnt : nt ≤ 1000) {out : List (List Bool)} (hs : Sh nn nt out) {n : Int} (h0 : 0 ≤ n) (h1 : n < (nn : Int)) {l : List Bool} (hl : l.length = nt + 1) : Ev (fun k => followAdd k n l out) (moreL (out.getD n.toNat []) l,out.set n.toNat (orL (out.getD n.toNat []) l)) := by
 have hr:=hs.get (i:=n.toNat) (by omega)
 have hs1:=hs.1
 exact Ev.congr (fun k => by rw [followAdd]) (Ev.pos h0 (Ev.pos (by omega) (Ev.bind (add_ev _ _ (by rw [hr,hl]) (by omega)) (Ev.some rfl))))
theorem followIn_ev {nn nt : Nat} {em : List Bool} (he : em.length = nn) (hnt : nt ≤ 1000) {first : List (List Bool)} (hf : Sh nn nt first) {left : Int} (hl0 : 0 ≤ left) (hl1 : left < (nn : Int)) : ∀ (ys : List Sym) (g : Bool) (out : List (List Bool)),ys.all (okSym nn nt) = true → ys.length ≤ 1000000 → Sh nn nt out → Ev (fun k => followIn k nt em first left ys g out) (fIn nt em first left.toNat ys g out)
  | [],g,out,_,_,hs => Ev.congr (fun k => by rw [followIn]) (Ev.some (by rw [fIn]))
  | y :: ys,g,out,hok,h3,hs => by
    simp only [List.all_cons,Bool.and_eq_true] at hok
    simp only [List.length_cons] at h3
    refine Ev.congr (fun k => by rw [followIn]) ?_
    unfold fIn
    cases hy : y.f0 with
    | true => rw [if_pos rfl];exact Ev.pos rfl (followIn_ev he hnt hf hl0 hl1 ys g out hok.2 (by omega) hs)
    | false =>
      rw [if_neg (by simp)]
      have hb:=okSym_rule hok.1 hy
      have hbl:=bg_length em hf ys _ hok.2 (none0_length nt)
      have hn : y.f1.toNat < nn:=by omega
      have hrow:=hs.get hn
      obtain ⟨h1,_,_⟩ := row_step hs hn hbl
      obtain ⟨h1a,_,_⟩ := row_step hs hn (fAdd_length em hf hs (left:=left.toNat) (by omega) hok.2)
      refine Ev.neg (by simp) (Ev.bind (begins_ev hf he hnt ys hok.2 (by omega)) (Ev.bind (followAdd_ev hnt hs hb.1 hb.2 hbl) ?_))
      cases hem : (bg em first ys (none0 nt)).2 with
      | false =>
        have e : fAdd nt em first left.toNat ys out = (bg em first ys (none0 nt)).1:=by rw [fAdd,hem,if_neg (by simp)]
        rw [e] at h1a ⊢
        exact Ev.neg (by simp) (followIn_ev he hnt hf hl0 hl1 ys _ _ hok.2 (by omega) h1a)
      | true =>
        have e : fAdd nt em first left.toNat ys out = orL (bg em first ys (none0 nt)).1 (out.getD left.toNat []) := by rw [fAdd,hem,if_pos rfl]
        rw [e] at h1a ⊢
        have hs1:=h1.1
        have hlr:=hs.get (i:=left.toNat) (by omega)
        have hlr2:=h1.get (i:=left.toNat) (by omega)
        refine Ev.pos rfl (Ev.pos hl0 (Ev.pos (by simp only;rw [hs1];exact hl1) (Ev.bind (followAdd_ev hnt h1 hb.1 hb.2 hlr2) ?_)))
        have hrow2 : (out.set y.f1.toNat (orL (out.getD y.f1.toNat []) (bg em first ys (none0 nt)).1)).getD y.f1.toNat [] = orL (out.getD y.f1.toNat []) (bg em first ys (none0 nt)).1:=by
          rw [List.getD_eq_getElem?_getD,List.getElem?_set_self (by rw [hs.1];exact hn)];rfl
        by_cases hyl : y.f1.toNat = left.toNat
        · rw [← hyl] at h1a ⊢
          dsimp only
          rw [hrow2,or_self,more_self,List.set_set]
          obtain ⟨e1,e2⟩ := or_back (out.getD y.f1.toNat []) (bg em first ys (none0 nt)).1 (by rw [hrow,hbl])
          rw [e1] at h1a ⊢
          rw [e2]
          have hres:=followIn_ev he hnt hf hl0 hl1 ys (moreL (out.getD y.f1.toNat []) (bg em first ys (none0 nt)).1 || g) _ hok.2 (by omega) h1a
          rw [← hyl] at hres
          rw [Bool.false_or]
          exact hres
        · have hl2 : (out.set y.f1.toNat (orL (out.getD y.f1.toNat []) (bg em first ys (none0 nt)).1)).getD left.toNat [] = out.getD left.toNat [] := by
            rw [List.getD_eq_getElem?_getD,List.getElem?_set_ne hyl,List.getD_eq_getElem?_getD]
          dsimp only
          rw [hrow2,hl2,List.set_set]
          obtain ⟨e1,e2⟩ := or_three (out.getD y.f1.toNat []) (bg em first ys (none0 nt)).1 (out.getD left.toNat []) (by rw [hrow,hbl]) (by rw [hlr,hbl])
          rw [e1] at h1a ⊢
          rw [e2,Bool.or_assoc]
          exact followIn_ev he hnt hf hl0 hl1 ys _ _ hok.2 (by omega) h1a
def fol0 (nn nt : Nat) : List (List Bool) := if 0 < nn then (rows0 nn nt).set 0 ((none0 nt).set nt true) else []
theorem fol0_sh (nn nt : Nat) : Sh nn nt (fol0 nn nt) := by
 unfold fol0
 split
 · exact (rows0_sh nn nt).set 0 (by simp [none0_length])
 · obtain rfl : nn = 0:=by omega
   exact ⟨rfl,fun r hr => by simp at hr⟩
def fol (nn nt : Nat) (em : List Bool) (first : List (List Bool)) (ps : List Prod) : List (List Bool) := gOut (fStep nt em first) ps (cfs (fol0 nn nt)) (fol0 nn nt)
theorem fol_sh {nn nt : Nat} (em : List Bool) {first : List (List Bool)} (hf : Sh nn nt first) {ps : List Prod} (hps : ps.all (okProd nn nt) = true) : Sh nn nt (fol nn nt em first ps) :=
  gOut_I (fStep_good em hf hps) _ _ (fol0_sh nn nt)
theorem refFollowIn_ev (l0 : List ByteArray) (l1 : List Tok) (a2 a3 : Int) (l4 : List Prod) {em : List Bool} (he : em.length = l0.length) (hnt : l1.length ≤ 1000) {first : List (List Bool)} (hf : Sh l0.length l1.length first) {left : Int} (hl0 : 0 ≤ left) (hl1 : left < (l0.length : Int)) : ∀ (ys : List Sym) (g : Bool) (out : List (List Bool)),ys.all (okSym l0.length l1.length) = true → ys.length ≤ 1000000 → Sh l0.length l1.length out → Ev (fun k => rFollowIn k l0 l1 a2 a3 l4 first em left ys g out) (fIn l1.length em first left.toNat ys g out)
  | [],g,out,_,_,hs => Ev.congr (fun k => by rw [rFollowIn]) (Ev.some (by rw [fIn]))
  | y :: ys,g,out,hok,h3,hs => by
    simp only [List.all_cons,Bool.and_eq_true] at hok
    simp only [List.length_cons] at h3
    refine Ev.congr (fun k => by rw [rFollowIn]) ?_
    unfold fIn
    cases hy : y.f0 with
    | true => rw [if_pos rfl];exact Ev.pos rfl (refFollowIn_ev l0 l1 a2 a3 l4 he hnt hf hl0 hl1 ys g out hok.2 (by omega) hs)
    | false =>
      rw [if_neg (by simp)]
      have hb:=okSym_rule hok.1 hy
      have hbl:=bg_length em hf ys _ hok.2 (none0_length l1.length)
      have hn : y.f1.toNat < l0.length:=by omega
      have hrow:=hs.get hn
      have hs1:=hs.1
      have hfl:=fAdd_length em hf hs (left:=left.toNat) (by omega) hok.2
      obtain ⟨h1a,_,_⟩ := row_step hs hn hfl
      have hlr:=hs.get (i:=left.toNat) (by omega)
      refine Ev.neg (by simp) (Ev.bind (refBegins_ev l0 l1 a2 a3 l4 hf he hnt ys hok.2 (by omega)) ?_)
      refine Ev.bind (a:=fAdd l1.length em first left.toNat ys out) ?_ ?_
      · refine Ev.congr (fun k => by rw [rJoinFrom]) ?_
        unfold fAdd
        cases hem : (bg em first ys (none0 l1.length)).2 with
        | false => exact Ev.neg (by simp) (Ev.some (by simp))
        | true =>
          refine Ev.pos rfl (Ev.pos hl0 (Ev.pos (by omega) ?_))
          exact Ev.bind (join_ev _ _ (by rw [hbl,hlr]) (by omega)) (Ev.some (by simp))
      · refine Ev.bind (a:=(moreL (out.getD y.f1.toNat []) (fAdd l1.length em first left.toNat ys out),out.set y.f1.toNat (orL (out.getD y.f1.toNat []) (fAdd l1.length em first left.toNat ys out)))) ?_ ?_
        · refine Ev.congr (fun k => by rw [rJoinRow]) (Ev.pos hb.1 (Ev.pos (by omega) ?_))
          exact Ev.bind (join_ev _ _ (by rw [hrow,hfl]) (by omega)) (Ev.some rfl)
        · refine Ev.val (refFollowIn_ev l0 l1 a2 a3 l4 he hnt hf hl0 hl1 ys _ _ hok.2 (by omega) h1a) ?_
          congr 1
          cases moreL (out.getD y.f1.toNat []) (fAdd l1.length em first left.toNat ys out) <;> rfl
theorem fIn_more (nt : Nat) (em : List Bool) (first : List (List Bool)) (left : Nat) : ∀ (ys : List Sym) (g : Bool) (out : List (List Bool)),fIn nt em first left ys g out = ((fIn nt em first left ys false out).1 || g,(fIn nt em first left ys false out).2)
  | [],g,out => by simp [fIn]
  | y :: ys,g,out => by
    unfold fIn
    split
    · exact fIn_more nt em first left ys g out
    · rw [fIn_more nt em first left ys (_ || g),fIn_more nt em first left ys (_ || false)]
      simp [Bool.or_assoc]
theorem refFollowPs_ev (l0 : List ByteArray) (l1 : List Tok) (a2 a3 : Int) (l4 : List Prod) {em : List Bool} (he : em.length = l0.length) (hnt : l1.length ≤ 1000) {first : List (List Bool)} (hf : Sh l0.length l1.length first) : ∀ (qs : List Prod) (g : Bool) (out : List (List Bool)),qs.all (okProd l0.length l1.length) = true → (∀ p ∈ qs,p.f1.length ≤ 1000000) → Sh l0.length l1.length out → Ev (fun k => rFollowPs k l0 l1 a2 a3 l4 first em qs g out) (gIn (fStep l1.length em first) qs g out)
  | [],g,out,_,_,hs => Ev.congr (fun k => by rw [rFollowPs]) (Ev.some (by rw [gIn]))
  | p :: qs,g,out,hok,h3,hs => by
    simp only [List.all_cons,Bool.and_eq_true] at hok
    have hl:=okProd_left hok.1
    have hg:=fIn_good em hf (left:=p.f0.toNat) (by omega) p.f1 g out (okProd_right hok.1) hs
    refine Ev.congr (fun k => by rw [rFollowPs]) (Ev.bind (refFollowIn_ev l0 l1 a2 a3 l4 he hnt hf hl.1 hl.2 p.f1 g out (okProd_right hok.1) (h3 p List.mem_cons_self) hs) ?_)
    refine Ev.val (refFollowPs_ev l0 l1 a2 a3 l4 he hnt hf qs _ _ hok.2 (fun p hp => h3 p (List.mem_cons_of_mem _ hp)) hg.1) ?_
    rw [gIn,fStep,fIn_more]
theorem refFollowOut_ev (l0 : List ByteArray) (l1 : List Tok) (a2 a3 : Int) (l4 : List Prod) (h : Small l4) {em : List Bool} (he : em.length = l0.length) (hnt : l1.length ≤ 1000) {first : List (List Bool)} (hf : Sh l0.length l1.length first) (hok : l4.all (okProd l0.length l1.length) = true) : ∀ (n : Nat) (out : List (List Bool)),Sh l0.length l1.length out → cfs out ≤ n → ∃ K,∀ kk,K ≤ kk → ∀ k,K ≤ k → rFollowOut kk l0 l1 a2 a3 l4 first em k out true = some (gOut (fStep l1.length em first) l4 n out)
  | n,out,hs,hn => by
    obtain ⟨g1,g2,g3⟩ := gIn_good (fStep_good em hf hok) false out hs
    obtain ⟨K1,hK1⟩ := refFollowPs_ev l0 l1 a2 a3 l4 he hnt hf l4 false out hok h.2 hs
    have hK1' : ∀ k,K1 ≤ k → rFollowPs k l0 l1 a2 a3 l4 first em l4 false out = some (gIn (fStep l1.length em first) l4 false out) := hK1
    cases hr : (gIn (fStep l1.length em first) l4 false out).1 with
    | false =>
      refine ⟨K1 + 2,fun kk hkk k hk => ?_⟩
      obtain ⟨k',rfl⟩ : ∃ k',k = k' + 2:=⟨k - 2,by omega⟩
      rw [rFollowOut,if_pos rfl,hK1' kk (by omega)]
      simp only [Option.bind_some,hr]
      rw [rFollowOut,if_neg (by simp)]
      cases n <;> simp [gOut,hr]
    | true =>
      have hlt:=(g3 hr).resolve_left (by simp)
      cases n with
      | zero => omega
      | succ n =>
        obtain ⟨K2,hK2⟩ := refFollowOut_ev l0 l1 a2 a3 l4 h he hnt hf hok n _ g1 (by omega)
        refine ⟨max K1 K2 + 1,fun kk hkk k hk => ?_⟩
        obtain ⟨k',rfl⟩ : ∃ k',k = k' + 1:=⟨k - 1,by omega⟩
        rw [rFollowOut,if_pos rfl,hK1' kk (by omega)]
        simp only [Option.bind_some,hr]
        rw [hK2 kk (by omega) k' (by omega),gOut,if_pos hr]
theorem Sh.small {nn nt : Nat} {m : List (List Bool)} (h : Sh nn nt m) (h1 : nt ≤ 1000) : ∀ r ∈ m,r.length ≤ 1000000:=fun r hr => by rw [h.2 r hr];omega
section
variable (l0 : List ByteArray) (l1 : List Tok) (a2 a3 : Int) (l4 : List Prod)
def dFollow (nn nt : Nat) (ps : List Prod) : List (List Int) := if ps.all (okProd nn nt) = true then idxs (fol nn nt (clo false nn ps) (fst nn nt (clo false nn ps) ps) ps) else []
def dOf (nn nt : Nat) (ps : List Prod) (l : List Sym) : List Int × Bool:=if ps.all (okProd nn nt) = true ∧ nn ≠ 0 ∧ l.all (okSym nn nt) = true then
  (idx 0 (bg (clo false nn ps) (fst nn nt (clo false nn ps) ps) l (none0 nt)).1,(bg (clo false nn ps) (fst nn nt (clo false nn ps) ps) l (none0 nt)).2) else ([],false)
variable (h : Small l4) (h0 : l0.length ≤ 1000000) (h1 : l1.length ≤ 1000)
include h h0 h1
theorem follow_ev : Ev (fun k => firsts_Follow.f k l0 l1 a2 a3 l4) (dFollow l0.length l1.length l4) := by
 refine Ev.congr (fun k => by rw [firsts_Follow.f]) (Ev.bind0 (firstsRight_val l0 l1 a2 a3 l4 h) ?_)
 unfold dFollow
 cases hr : l4.all (okProd l0.length l1.length) with
 | false => exact Ev.neg (by simp) (Ev.some (by simp))
 | true =>
  have hs:=fst_sh l0.length l1.length (clo false l0.length l4) hr
  have hs2:=fol_sh (clo false l0.length l4) hs hr
  have he:=clo_length l0.length l1.length false hr
  rw [if_pos rfl]
  refine Ev.pos rfl (Ev.bind (studied_ev l0 l1 a2 a3 l4 h h0 h1 hr) ?_)
  refine Ev.bind (growOut_ev (fStep_good _ hs hr) (fun k => followStep k l1.length (clo false l0.length l4) (fst l0.length l1.length (clo false l0.length l4) l4)) (fun st p hI hp => ?_) (cfs (fol0 l0.length l1.length)) (fol0 l0.length l1.length) (fol0_sh _ _) (Nat.le_refl _)) (all_ev _ (by have:=hs2.1;exact Nat.le_trans (Nat.le_of_eq this) h0) (hs2.small h1))
  have hok:=List.all_eq_true.1 hr p hp
  have hl:=okProd_left hok
  exact Ev.congr (fun k => by rw [followStep]) (followIn_ev he h1 hs hl.1 hl.2 p.f1 false st (okProd_right hok) (h.2 p hp) hI)
theorem refFollow_ev : Ev (fun k => regletref13_Follow.f k l0 l1 a2 a3 l4) (dFollow l0.length l1.length l4) := by
 refine Ev.congr (fun k => by rw [regletref13_Follow.f,if_pos ⟨by have:=h.1;omega,by rw [List.all_eq_true];intro p hp;have:=h.2 p hp;exact decide_eq_true (by omega)⟩]) (Ev.bind (refRight_ev l0 l1 a2 a3 l4 h) ?_)
 unfold dFollow
 cases hr : l4.all (okProd l0.length l1.length) with
 | false => exact Ev.neg (by simp) (Ev.some (by simp))
 | true =>
  have hs:=fst_sh l0.length l1.length (clo false l0.length l4) hr
  have hs2:=fol_sh (clo false l0.length l4) hs hr
  have he:=clo_length l0.length l1.length false hr
  rw [if_pos rfl]
  refine Ev.pos rfl (Ev.bind (marks_ev l0 l1 a2 a3 l4 h0 (by omega)) (Ev.bind (refFirst_ev l0 l1 a2 a3 l4 h h0 h1 hr) (Ev.bind (Ev.val (refEmpty_ev l0 l1 a2 a3 l4 h h0) (if_pos hr)) (Ev.bind (a:=fol0 l0.length l1.length) ?_ (Ev.bind (a:=fol l0.length l1.length (clo false l0.length l4) (fst l0.length l1.length (clo false l0.length l4) l4) l4) ?_ (lists_ev _ (by have:=hs2.1;exact Nat.le_trans (Nat.le_of_eq this) h0) (hs2.small h1)))))))
  · refine Ev.some' ?_
    unfold rFollow0 fol0
    by_cases hn : 0 < l0.length
    rotate_left
    · rw [if_neg (by rw [(rows0_sh _ _).1];exact hn),if_neg hn]
      have : l0.length = 0:=by omega
      rw [this];rfl
    have hrow : (rows0 l0.length l1.length).getD 0 [] = none0 l1.length:=by
     obtain ⟨n,hn'⟩ : ∃ n,l0.length = n + 1:=⟨l0.length - 1,by omega⟩
     rw [hn',rows0,List.replicate_succ];rfl
    rw [if_pos (by rw [(rows0_sh _ _).1];exact hn),hrow,if_pos (by rw [none0_length];omega),if_pos hn]
  · obtain ⟨K,hK⟩ := refFollowOut_ev l0 l1 a2 a3 l4 h he h1 hs hr (cfs (fol0 l0.length l1.length)) (fol0 l0.length l1.length) (fol0_sh _ _) (Nat.le_refl _)
    exact ⟨K,fun k hk => hK k hk k hk⟩
theorem of_ev (l : List Sym) (hl : l.length ≤ 1000000) : Ev (fun k => firsts_Of.f k l0 l1 a2 a3 l4 l) (dOf l0.length l1.length l4 l) := by
 refine Ev.congr (fun k => by rw [firsts_Of.f]) (Ev.bind0 (firstsRight_val l0 l1 a2 a3 l4 h) ?_)
 unfold dOf
 cases hr : l4.all (okProd l0.length l1.length) with
 | false => exact Ev.neg (by simp) (Ev.some (by simp))
 | true =>
  refine Ev.pos rfl (Ev.bind0 (a:=l.all (okSym l0.length l1.length)) (by rw [firsts_symbols.f,if_pos (by omega)]) ?_)
  cases hs : l.all (okSym l0.length l1.length) with
  | false => exact Ev.neg (by simp) (Ev.some (by simp))
  | true =>
   refine Ev.pos rfl ?_
   by_cases hn : (l0.length : Int) = 0
   · exact Ev.pos hn (Ev.some (if_neg (fun hc => hc.2.1 (Int.ofNat_eq_zero.1 hn))).symm)
   refine Ev.neg hn (Ev.bind (studied_ev l0 l1 a2 a3 l4 h h0 h1 hr) ?_)
   have hsh:=fst_sh l0.length l1.length (clo false l0.length l4) hr
   have hb:=bg_length (clo false l0.length l4) hsh l _ hs (none0_length l1.length)
   refine Ev.bind (begins_ev hsh (clo_length l0.length l1.length false hr) h1 l hs hl) (Ev.bind (rising_ev _ (by rw [hb];omega)) (Ev.some ?_))
   have hc : true = true ∧ l0.length ≠ 0 ∧ true = true:=⟨rfl,by omega,rfl⟩
   rw [if_pos hc]
theorem refOf_ev (l : List Sym) (hl : l.length ≤ 1000000) : Ev (fun k => regletref13_Of.f k l0 l1 a2 a3 l4 l) (dOf l0.length l1.length l4 l) := by
 refine Ev.congr (fun k => by rw [regletref13_Of.f]) (Ev.bind (refRight_ev l0 l1 a2 a3 l4 h) ?_)
 unfold dOf
 cases hr : l4.all (okProd l0.length l1.length) with
 | false => exact Ev.neg (by simp) (Ev.some (by simp))
 | true =>
  refine Ev.pos rfl ?_
  by_cases hn : (l0.length : Int) = 0
  · exact Ev.pos hn (Ev.some (if_neg (fun hc => hc.2.1 (Int.ofNat_eq_zero.1 hn))).symm)
  refine Ev.neg hn (Ev.bind (Ev.val (refRight_ev l0 l1 a2 a3 [⟨0,l⟩] ⟨by simp,by simpa using hl⟩) (s:=l.all (okSym l0.length l1.length)) ?_) ?_)
  · simp [okProd];intro _;omega
  cases hs : l.all (okSym l0.length l1.length) with
  | false => exact Ev.neg (by simp) (Ev.some (by simp))
  | true =>
   have hsh:=fst_sh l0.length l1.length (clo false l0.length l4) hr
   have hb:=bg_length (clo false l0.length l4) hsh l _ hs (none0_length l1.length)
   refine Ev.pos rfl (Ev.bind (refFirst_ev l0 l1 a2 a3 l4 h h0 h1 hr) (Ev.bind (Ev.val (refEmpty_ev l0 l1 a2 a3 l4 h h0) (if_pos hr)) ?_))
   refine Ev.bind (refBegins_ev l0 l1 a2 a3 l4 hsh (clo_length l0.length l1.length false hr) h1 l hs hl) (Ev.bind (list_ev _ (by rw [hb];omega)) (Ev.some ?_))
   have hc : true = true ∧ l0.length ≠ 0 ∧ true = true:=⟨rfl,by omega,rfl⟩
   rw [if_pos hc]
end
abbrev Clash:=S50
def markOn (l : List Int) (row : List Bool) : List Bool:=l.foldl (fun row t => row.set t.toNat true) row
theorem markOn_length : ∀ (l : List Int) (row : List Bool),(markOn l row).length = row.length
  | [],_ => rfl
  | t :: l,row => by rw [markOn,List.foldl_cons,← markOn,markOn_length l];simp
theorem markOn_getD : ∀ (l : List Int) (row : List Bool),(∀ t ∈ l,0 ≤ t ∧ t.toNat < row.length) → ∀ look : Nat,(markOn l row).getD look false = (row.getD look false || decide ((look : Int) ∈ l))
  | [],_,_,_ => by simp [markOn]
  | t :: l,row,h,look => by
    obtain ⟨h0,h1⟩ := h t List.mem_cons_self
    rw [markOn,List.foldl_cons,← markOn,markOn_getD l _ (fun x hx => by rw [List.length_set];exact h x (List.mem_cons_of_mem _ hx)) look]
    by_cases he : t.toNat = look
    · subst he
      rw [get_set _ _ h1]
      have : ((t.toNat : Nat) : Int) = t:=by omega
      simp [this]
    · rw [List.getD_eq_getElem?_getD,List.getElem?_set_ne he,← List.getD_eq_getElem?_getD]
      have : ¬ (look : Int) = t:=by omega
      simp [this]
theorem idx_range : ∀ (a : List Bool) (n : Nat),∀ x ∈ idx n a,(n : Int) ≤ x ∧ x < ((n + a.length : Nat) : Int)
  | [],_,x,hx => by simp [idx] at hx
  | b :: a,n,x,hx => by
    have ih:=idx_range a (n + 1)
    unfold idx at hx
    split at hx
    · rcases List.mem_cons.1 hx with rfl | h
      · simp;omega
      · have:=ih x h;simp at this ⊢;omega
    · have:=ih x hx;simp at this ⊢;omega
theorem chosen_l1_ev {x3 : List (List Int)} {x18 : List Prod} {x19 x20 : Int} {l0 : List ByteArray} {l1 : List Tok} {a2 a3 : Int} {l4 : List Prod} {R : List (List Bool)} (i : Nat) : ∀ (a pre : List Int) (out : List (List Bool)),(∀ t ∈ a,0 ≤ t ∧ t.toNat < (out.getD i []).length) → i < out.length → pre.length + a.length ≤ 1000000 → Ev (fun k => predict_chosen.l0 k x3 (out.set i (markOn a (out.getD i []))) x18 x19 (wrap64 (x20 + 1)) l0 l1 a2 a3 l4) R → Ev (fun k => predict_chosen.l1 k x3 out (i : Int) x18 x19 x20 (pre ++ a) ((pre ++ a).length : Int) (pre.length : Int) l0 l1 a2 a3 l4) R
  | [],pre,out,_,hi,_,hk => Ev.step (fun k => by rw [predict_chosen.l1]) (Ev.neg (by simp) (by rw [markOn,List.foldl_nil,set_get _ _ _ hi] at hk;exact hk))
  | t :: a,pre,out,h,hi,h3,hk => by
    simp only [List.length_cons] at h3
    obtain ⟨h0,h1⟩ := h t List.mem_cons_self
    have ih:=chosen_l1_ev (x3:=x3) (x18:=x18) (x19:=x19) (x20:=x20) (l0:=l0) (l1:=l1) (a2:=a2) (a3:=a3) (l4:=l4) (R:=R) i a (pre ++ [t]) (out.set i ((out.getD i []).set t.toNat true)) (by rw [get_set _ _ hi];intro x hx;rw [List.length_set];exact h x (List.mem_cons_of_mem _ hx)) (by rw [List.length_set];exact hi) (by simp;omega) (by rw [get_set _ _ hi,set_set];exact hk)
    simp only [← wrap_next pre _ (show pre.length ≤ 1000000 by omega),List.append_assoc,List.singleton_append] at ih
    refine Ev.step (fun k => by rw [predict_chosen.l1]) (Ev.pos (by simp;omega) (Ev.pos (by omega) (Ev.pos (by simp;omega) (Ev.pos (by omega) (Ev.pos (by omega) ?_)))))
    rw [show rd (pre ++ t :: a) (pre.length : Int) = t from getD_mid _ pre t a _ rfl,show rd_L13 out (i : Int) = out.getD i [] from by rw [rd_L13,Int.toNat_natCast]]
    exact Ev.pos h0 (Ev.pos (by omega) (by rw [Int.toNat_natCast];exact ih))
section
variable (l0 : List ByteArray) (l1 : List Tok) (a2 a3 : Int) (l4 : List Prod)
def sel (nn nt : Nat) (ps : List Prod) (p : Prod) : List Int:=(dOf nn nt ps p.f1).1 ++ (if (dOf nn nt ps p.f1).2 = true then (dFollow nn nt ps).getD p.f0.toNat [] else [])
def chRow (nn nt : Nat) (ps : List Prod) (p : Prod) : List Bool:=markOn (sel nn nt ps p) (none0 nt)
theorem of_range {nn nt : Nat} {ps : List Prod} (hps : ps.all (okProd nn nt) = true) (l : List Sym) : (dOf nn nt ps l).1.length ≤ nt + 1 ∧ ∀ x ∈ (dOf nn nt ps l).1,0 ≤ x ∧ x < ((nt + 1 : Nat) : Int) := by
 unfold dOf
 split
 · rename_i hc
   have hb:=bg_length (clo false nn ps) (fst_sh nn nt (clo false nn ps) hps) l _ hc.2.2 (none0_length nt)
   refine ⟨by have:=idx_length 0 (bg (clo false nn ps) (fst nn nt (clo false nn ps) ps) l (none0 nt)).1;simp only;omega,fun x hx => ?_⟩
   have:=idx_range _ 0 x hx
   rw [hb] at this
   simpa using this
 · simp
theorem follow_range {nn nt : Nat} {ps : List Prod} (hps : ps.all (okProd nn nt) = true) : (dFollow nn nt ps).length = nn ∧ ∀ i,((dFollow nn nt ps).getD i []).length ≤ nt + 1 ∧ ∀ x ∈ (dFollow nn nt ps).getD i [],0 ≤ x ∧ x < ((nt + 1 : Nat) : Int) := by
 unfold dFollow
 rw [if_pos hps]
 have hs:=fol_sh (clo false nn ps) (fst_sh nn nt (clo false nn ps) hps) hps
 refine ⟨by rw [idxs,List.length_map,hs.1],fun i => ?_⟩
 by_cases hi : i < nn
 rotate_left
 · rw [List.getD_eq_getElem?_getD,List.getElem?_eq_none (by rw [idxs,List.length_map,hs.1];omega)]
   simp
 have e : (idxs (fol nn nt (clo false nn ps) (fst nn nt (clo false nn ps) ps) ps)).getD i [] = idx 0 ((fol nn nt (clo false nn ps) (fst nn nt (clo false nn ps) ps) ps).getD i []) := by
  have hlt : i < (fol nn nt (clo false nn ps) (fst nn nt (clo false nn ps) ps) ps).length:=by rw [hs.1];exact hi
  rw [idxs,List.getD_eq_getElem?_getD,List.getElem?_map,List.getD_eq_getElem?_getD,List.getElem?_eq_getElem hlt];rfl
 rw [e]
 have hl:=hs.get hi
 refine ⟨by have:=idx_length 0 ((fol nn nt (clo false nn ps) (fst nn nt (clo false nn ps) ps) ps).getD i []);omega,fun x hx => ?_⟩
 have:=idx_range _ 0 x hx
 rw [hl] at this
 simpa using this
theorem sel_range {nn nt : Nat} {ps : List Prod} (hps : ps.all (okProd nn nt) = true) (p : Prod) : (sel nn nt ps p).length ≤ 2 * (nt + 1) ∧ ∀ x ∈ sel nn nt ps p,0 ≤ x ∧ x < ((nt + 1 : Nat) : Int) := by
 have h1:=of_range hps p.f1
 have h2:=(follow_range hps).2 p.f0.toNat
 unfold sel
 refine ⟨?_,fun x hx => ?_⟩
 · rw [List.length_append]
   split
   · omega
   · simp;omega
 · rcases List.mem_append.1 hx with h | h
   · exact h1.2 x h
   · split at h
     · exact h2.2 x h
     · simp at h
theorem chRow_getD {nn nt : Nat} {ps : List Prod} (hps : ps.all (okProd nn nt) = true) (p : Prod) (look : Nat) : (chRow nn nt ps p).getD look false = decide ((look : Int) ∈ sel nn nt ps p) := by
 rw [chRow,markOn_getD _ _ (fun t ht => by have:=(sel_range hps p).2 t ht;rw [none0_length];omega)]
 simp [none0,List.getElem?_replicate]
 intro h
 by_cases hl : look < nt + 1
 rotate_left
 · rw [if_neg hl] at h;simp at h
 rw [if_pos hl] at h;simp at h
theorem chRow_length (nn nt : Nat) (ps : List Prod) (p : Prod) : (chRow nn nt ps p).length = nt + 1:=by rw [chRow,markOn_length,none0_length]
variable {l0 l1 a2 a3 l4}
theorem chosen_l0_ev (h : Small l4) (h0 : l0.length ≤ 1000000) (h1 : l1.length ≤ 1000) (hok : l4.all (okProd l0.length l1.length) = true) : ∀ (qs pre : List Prod) (out : List (List Bool)),pre ++ qs = l4 → out.length = pre.length → Ev (fun k => predict_chosen.l0 k (dFollow l0.length l1.length l4) (out ++ List.replicate qs.length []) l4 (l4.length : Int) (pre.length : Int) l0 l1 a2 a3 l4) (out ++ qs.map (chRow l0.length l1.length l4))
  | [],pre,out,e,ho => by
    refine Ev.step (fun k => by rw [predict_chosen.l0]) (Ev.neg (by rw [← e];simp) (Ev.some (by simp)))
  | p :: qs,pre,out,e,ho => by
    have hlen : l4.length = pre.length + (qs.length + 1) := by rw [← e];simp
    have hp0 : pre.length ≤ 1000000:=by have:=h.1;omega
    have hmem : p ∈ l4:=by rw [← e];simp
    have hokp:=List.all_eq_true.1 hok p hmem
    have hl:=okProd_left hokp
    have hrd : rd_T30 l4 (pre.length : Int) = p:=by rw [← e];exact getD_mid _ pre p qs _ rfl
    have ih:=chosen_l0_ev h h0 h1 hok qs (pre ++ [p]) (out ++ [chRow l0.length l1.length l4 p]) (by rw [← e];simp) (by simp [ho])
    rw [← wrap_next pre _ hp0] at ih
    have hw : wrap64 ((l1.length : Int) + 1) = ((l1.length + 1 : Nat) : Int) := by rw [wrap64_id (by omega) (by omega)];omega
    have hset : ∀ v : List Bool,(out ++ List.replicate (qs.length + 1) []).set pre.length v = out ++ v :: List.replicate qs.length [] := fun v => by
      rw [List.replicate_succ,← ho];simp
    have hsel : sel l0.length l1.length l4 p = (dOf l0.length l1.length l4 p.f1).1 ++ (if (dOf l0.length l1.length l4 p.f1).2 = true then (dFollow l0.length l1.length l4).getD p.f0.toNat [] else []) := rfl
    have hfin : ∀ l : List Int,l = sel l0.length l1.length l4 p → Ev (fun k => predict_chosen.j1 k (dFollow l0.length l1.length l4) (out ++ none0 l1.length :: List.replicate qs.length []) (pre.length : Int) l l4 (l4.length : Int) (pre.length : Int) l0 l1 a2 a3 l4) (out ++ (p :: qs).map (chRow l0.length l1.length l4)) := fun l el => by
      subst el
      have hr:=sel_range hok p
      refine Ev.step (fun k => by rw [predict_chosen.j1]) ?_
      have hg : (out ++ none0 l1.length :: List.replicate qs.length []).getD pre.length [] = none0 l1.length:=by rw [← ho];simp
      have hx:=chosen_l1_ev (x3:=dFollow l0.length l1.length l4) (x18:=l4) (x19:=(l4.length : Int)) (x20:=(pre.length : Int)) (l0:=l0) (l1:=l1) (a2:=a2) (a3:=a3) (l4:=l4) (R:=out ++ (p :: qs).map (chRow l0.length l1.length l4)) pre.length (sel l0.length l1.length l4 p) [] (out ++ none0 l1.length :: List.replicate qs.length []) (fun t ht => by have:=hr.2 t ht;rw [hg,none0_length];omega) (by simp [ho]) (by have:=hr.1;simp;omega) (by
        rw [hg,show (out ++ none0 l1.length :: List.replicate qs.length []).set pre.length (markOn (sel l0.length l1.length l4 p) (none0 l1.length)) = (out ++ [chRow l0.length l1.length l4 p]) ++ List.replicate qs.length [] from by rw [← ho];simp [chRow]]
        exact Ev.val ih (by simp))
      exact hx
    refine Ev.step (fun k => by rw [predict_chosen.l0]) (Ev.pos (by omega) (Ev.pos (by omega) (Ev.pos (by omega) ?_)))
    rw [hw]
    refine Ev.pos (by omega) (Ev.pos (by omega) (Ev.pos (by simp;omega) (Ev.bind0 (a:=out ++ none0 l1.length :: List.replicate qs.length []) (by rw [Int.toNat_natCast,Int.toNat_natCast,List.length_cons,hset];rfl) ?_)))
    rw [hrd]
    refine Ev.bind (of_ev l0 l1 a2 a3 l4 h h0 h1 p.f1 (h.2 p hmem)) ?_
    have hfl:=follow_range hok
    by_cases he : (dOf l0.length l1.length l4 p.f1).2 = true
    · refine Ev.pos he (Ev.pos hl.1 (Ev.pos (by rw [hfl.1];exact hl.2) (Ev.pos ?_ (hfin _ (by rw [hsel,if_pos he];rfl)))))
      have h2:=(of_range hok p.f1).1
      have h3:=(hfl.2 p.f0.toNat).1
      have h4 : (rd_L3 (dFollow l0.length l1.length l4) p.f0).length ≤ l1.length + 1:=h3
      omega
    · exact Ev.neg he (hfin _ (by rw [hsel,if_neg he,List.append_nil]))
theorem chosen_ev (h : Small l4) (h0 : l0.length ≤ 1000000) (h1 : l1.length ≤ 1000) (hok : l4.all (okProd l0.length l1.length) = true) : Ev (fun k => predict_chosen.f k l0 l1 a2 a3 l4) (l4.map (chRow l0.length l1.length l4)) := by
 refine Ev.congr (fun k => by rw [predict_chosen.f]) (Ev.bind (follow_ev l0 l1 a2 a3 l4 h h0 h1) ?_)
 refine Ev.pos (by omega) (Ev.pos (by have:=h.1;omega) ?_)
 have hx:=chosen_l0_ev (a2:=a2) (a3:=a3) h h0 h1 hok l4 [] [] rfl rfl
 rw [Int.toNat_natCast]
 simpa using hx
theorem rows_l1_ev {x12 : Int} {x11 : Int} {R : List (List Int)} (r : Nat) : ∀ (n m : Nat) (out : List (List Int)),r < out.length → m + n ≤ 1000000 → out.getD r [] = List.replicate m (-1) ++ List.replicate n 0 → Ev (fun k => predict_rows.l0 k (out.set r (List.replicate (m + n) (-1))) x11 (wrap64 (x12 + 1)) l0 l1 a2 a3 l4) R → Ev (fun k => predict_rows.l1 k out (r : Int) x11 x12 ((m + n : Nat) : Int) (m : Int) l0 l1 a2 a3 l4) R
  | 0,m,out,hr,_,e,hk => Ev.step (fun k => by rw [predict_rows.l1]) (Ev.neg (by omega) (by
      rw [show out.set r (List.replicate (m + 0) (-1)) = out from by
        have:=set_get out r [] hr
        rw [e] at this
        simpa using this] at hk
      exact hk))
  | n + 1,m,out,hr,h3,e,hk => by
    have hg : rd_L3 out (r : Int) = out.getD r [] := by rw [rd_L3,Int.toNat_natCast]
    have ih:=rows_l1_ev (x12:=x12) (x11:=x11) (R:=R) r n (m + 1) (out.set r (List.replicate (m + 1) (-1) ++ List.replicate n 0)) (by rw [List.length_set];exact hr) (by omega) (get_set _ _ hr) (by rw [set_set,show m + 1 + n = m + (n + 1) by omega];exact hk)
    refine Ev.step (fun k => by rw [predict_rows.l1]) (Ev.pos (by omega) (Ev.pos (by omega) (Ev.pos (by omega) (Ev.pos (by omega) (Ev.pos (by rw [hg,e];simp;omega) ?_)))))
    have hs : (out.getD r []).set m (-1) = List.replicate (m + 1) (-1) ++ List.replicate n 0:=by
      rw [e,List.replicate_succ,List.replicate_succ',List.append_assoc]
      simp
    rw [hg,Int.toNat_natCast,Int.toNat_natCast,hs,show wrap64 ((m : Int) + 1) = ((m + 1 : Nat) : Int) from by rw [wrap64_id (by omega) (by omega)];omega,show m + (n + 1) = m + 1 + n by omega]
    exact ih
theorem rows_l0_ev (h1 : l1.length ≤ 1000) : ∀ (n : Nat) (out : List (List Int)),out.length + n ≤ 1000000 → Ev (fun k => predict_rows.l0 k (out ++ List.replicate n []) ((out.length + n : Nat) : Int) (out.length : Int) l0 l1 a2 a3 l4) (out ++ List.replicate n (List.replicate (l1.length + 1) (-1)))
  | 0,out,_ => Ev.step (fun k => by rw [predict_rows.l0]) (Ev.neg (by omega) (Ev.some (by simp)))
  | n + 1,out,h3 => by
    have hw : wrap64 ((l1.length : Int) + 1) = ((l1.length + 1 : Nat) : Int) := by rw [wrap64_id (by omega) (by omega)];omega
    have ih:=rows_l0_ev h1 n (out ++ [List.replicate (l1.length + 1) (-1)]) (by simp;omega)
    rw [← wrap_next out _ (by omega)] at ih
    have hset : ∀ v w : List Int,(out ++ w :: List.replicate n []).set out.length v = out ++ v :: List.replicate n [] := fun v w => by simp
    refine Ev.step (fun k => by rw [predict_rows.l0]) (Ev.pos (by omega) ?_)
    rw [hw]
    refine Ev.pos (by omega) (Ev.pos (by omega) (Ev.pos (by omega) (Ev.pos (by simp;omega) (Ev.bind0 (a:=out ++ List.replicate (l1.length + 1) 0 :: List.replicate n []) (by rw [Int.toNat_natCast,Int.toNat_natCast,List.replicate_succ,hset]) ?_))))
    have hg : (out ++ List.replicate (l1.length + 1) 0 :: List.replicate n []).getD out.length [] = List.replicate (l1.length + 1) (0 : Int) := by simp
    have hx:=rows_l1_ev (l0:=l0) (l1:=l1) (a2:=a2) (a3:=a3) (l4:=l4) (x12:=(out.length : Int)) (x11:=((out.length + (n + 1) : Nat) : Int)) (R:=out ++ List.replicate (n + 1) (List.replicate (l1.length + 1) (-1))) out.length (l1.length + 1) 0 (out ++ List.replicate (l1.length + 1) 0 :: List.replicate n []) (by simp) (by omega) (by rw [hg];simp) (by
      rw [hset,Nat.zero_add]
      have e : out.length + (n + 1) = (out ++ [List.replicate (l1.length + 1) (-1)]).length + n:=by simp;omega
      rw [e]
      refine Ev.val (Ev.congr (fun k => ?_) ih) (by simp [List.replicate_succ])
      rw [List.append_assoc,List.singleton_append])
    rw [show rd_L3 (out ++ List.replicate (l1.length + 1) 0 :: List.replicate n []) (out.length : Int) = List.replicate (l1.length + 1) 0 from by rw [rd_L3,Int.toNat_natCast];exact hg,List.length_replicate]
    simpa using hx
theorem rows_ev (h0 : l0.length ≤ 1000000) (h1 : l1.length ≤ 1000) : Ev (fun k => predict_rows.f k l0 l1 a2 a3 l4) (List.replicate l0.length (List.replicate (l1.length + 1) (-1))) := by
 refine Ev.congr (fun k => by rw [predict_rows.f]) (Ev.pos (by omega) (Ev.pos (by omega) (Ev.bind0 (a:=List.replicate l0.length []) (by rw [Int.toNat_natCast]) ?_)))
 have hx:=rows_l0_ev (l0:=l0) (a2:=a2) (a3:=a3) (l4:=l4) h1 l0.length [] (by simpa using h0)
 simpa using hx
end
theorem has14_l0_ev (n : Int) : ∀ (a pre : List Int),pre.length + a.length ≤ 1000000 → Ev (fun k => regletref14_has.l0 k (pre ++ a) n (pre.length : Int)) (decide (n ∈ a))
  | [],pre,_ => Ev.step (fun k => by rw [regletref14_has.l0]) (Ev.neg (by simp) (Ev.some (by simp)))
  | x :: a,pre,h3 => by
    simp only [List.length_cons] at h3
    have ih:=has14_l0_ev n a (pre ++ [x]) (by simp;omega)
    simp only [← wrap_next pre _ (show pre.length ≤ 1000000 by omega),List.append_assoc,List.singleton_append] at ih
    refine Ev.step (fun k => by rw [regletref14_has.l0]) (Ev.pos (by simp;omega) (Ev.pos (by omega) ?_))
    rw [show rd (pre ++ x :: a) (pre.length : Int) = x from getD_mid _ pre x a _ rfl]
    by_cases h : x = n
    · exact Ev.pos h (Ev.some (by simp [h]))
    · exact Ev.neg h (Ev.val ih (by simp [Ne.symm h]))
theorem has14_ev (a : List Int) (n : Int) (h : a.length ≤ 1000000) : Ev (fun k => regletref14_has.f k a n) (decide (n ∈ a)) :=
  Ev.congr (fun k => by rw [regletref14_has.f]) (by simpa using has14_l0_ev n a [] (by simpa using h))
def pRow (b : List (List Bool)) (ps : List Prod) (r : Nat) : Nat → Nat → List Clash → List Int × List Clash
  | 0,_,bad => ([],bad)
  | n + 1,look,bad => ((prIn b r look 0 ps (-1,bad)).1 :: (pRow b ps r n (look + 1) (prIn b r look 0 ps (-1,bad)).2).1,(pRow b ps r n (look + 1) (prIn b r look 0 ps (-1,bad)).2).2)
def pAll (b : List (List Bool)) (ps : List Prod) (w : Nat) : Nat → Nat → List Clash → List (List Int) × List Clash
  | 0,_,bad => ([],bad)
  | n + 1,r,bad => ((pRow b ps r w 0 bad).1 :: (pAll b ps w n (r + 1) (pRow b ps r w 0 bad).2).1,(pAll b ps w n (r + 1) (pRow b ps r w 0 bad).2).2)
theorem prRow_pRow (b : List (List Bool)) (ps : List Prod) (r : Nat) : ∀ (n : Nat) (pre : List Int) (bad : List Clash),prRow b ps r n pre.length (pre ++ List.replicate n (-1),bad) = (pre ++ (pRow b ps r n pre.length bad).1,(pRow b ps r n pre.length bad).2)
  | 0,pre,bad => by simp [prRow,pRow]
  | n + 1,pre,bad => by
    have hg : (pre ++ List.replicate (n + 1) (-1)).getD pre.length 0 = (-1 : Int) := by rw [List.replicate_succ];simp
    have hs : ∀ v,(pre ++ List.replicate (n + 1) (-1)).set pre.length v = (pre ++ [v]) ++ List.replicate n (-1) := fun v => by rw [List.replicate_succ];simp
    have ih:=prRow_pRow b ps r n (pre ++ [(prIn b r pre.length 0 ps (-1,bad)).1]) (prIn b r pre.length 0 ps (-1,bad)).2
    rw [prRow,hg,hs,pRow]
    rw [List.length_append,List.length_singleton] at ih
    rw [ih,List.append_assoc];rfl
theorem prAll_pAll (b : List (List Bool)) (ps : List Prod) (w : Nat) : ∀ (n : Nat) (pre : List (List Int)) (bad : List Clash),prAll b ps n pre.length (pre ++ List.replicate n (List.replicate w (-1)),bad) = (pre ++ (pAll b ps w n pre.length bad).1,(pAll b ps w n pre.length bad).2)
  | 0,pre,bad => by simp [prAll,pAll]
  | n + 1,pre,bad => by
    have hg : (pre ++ List.replicate (n + 1) (List.replicate w (-1))).getD pre.length [] = List.replicate w (-1 : Int) := by rw [List.replicate_succ];simp
    have hs : ∀ v,(pre ++ List.replicate (n + 1) (List.replicate w (-1))).set pre.length v = (pre ++ [v]) ++ List.replicate n (List.replicate w (-1)) := fun v => by rw [List.replicate_succ];simp
    have hr:=prRow_pRow b ps pre.length w [] bad
    simp only [List.nil_append,List.length_nil] at hr
    have ih:=prAll_pAll b ps w n (pre ++ [(pRow b ps pre.length w 0 bad).1]) (pRow b ps pre.length w 0 bad).2
    rw [prAll,hg,hs,pAll,List.length_replicate,hr]
    rw [List.length_append,List.length_singleton] at ih
    simp only
    rw [ih,List.append_assoc];rfl
theorem prIn_max (b : List (List Bool)) (r look : Nat) : ∀ (ps : List Prod) (i : Nat) (st : Int × List Clash),(prIn b r look i ps st).2.length ≤ st.2.length + ps.length
  | [],_,_ => Nat.le_refl _
  | p :: ps,i,st => by
    have:=prIn_max b r look ps (i + 1) (prStep b r look i p st)
    have : (prStep b r look i p st).2.length ≤ st.2.length + 1:=by
      unfold prStep;split
      · split <;> simp
      · simp
    rw [prIn,List.length_cons];omega
theorem pRow_max (b : List (List Bool)) (ps : List Prod) (r : Nat) : ∀ (n look : Nat) (bad : List Clash),(pRow b ps r n look bad).1.length = n ∧ (pRow b ps r n look bad).2.length ≤ bad.length + n * ps.length
  | 0,_,_ => by simp [pRow]
  | n + 1,look,bad => by
    have h1:=pRow_max b ps r n (look + 1) (prIn b r look 0 ps (-1,bad)).2
    have h2:=prIn_max b r look ps 0 (-1,bad)
    rw [pRow,Nat.succ_mul]
    simp only [List.length_cons] at h2 ⊢
    exact ⟨by rw [h1.1],by omega⟩
theorem pAll_max (b : List (List Bool)) (ps : List Prod) (w : Nat) : ∀ (n r : Nat) (bad : List Clash),(pAll b ps w n r bad).1.length = n ∧ (∀ x ∈ (pAll b ps w n r bad).1,x.length = w) ∧ (pAll b ps w n r bad).2.length ≤ bad.length + n * (w * ps.length)
  | 0,_,_ => by simp [pAll]
  | n + 1,r,bad => by
    have h1:=pAll_max b ps w n (r + 1) (pRow b ps r w 0 bad).2
    have h2:=pRow_max b ps r w 0 bad
    rw [pAll,Nat.succ_mul]
    refine ⟨by simp only [List.length_cons];rw [h1.1],fun x hx => ?_,by simp only;omega⟩
    rcases List.mem_cons.1 hx with rfl | h
    · exact h2.1
    · exact h1.2.1 x h
section
variable {l0 : List ByteArray} {l1 : List Tok} {a2 a3 : Int} {l4 : List Prod} {b : List (List Bool)} {all : List (List Int)}
theorem ref_l3_ev (h : Small l4) (hb : ∀ (i look : Nat),i < l4.length → (b.getD i []).getD look false = decide ((look : Int) ∈ all.getD i [])) (ha : all.length = l4.length) (hs : ∀ i,(all.getD i []).length ≤ 1000000) (r look : Nat) {x9 : List (List Int)} {x12 : List Int} (h12 : x12.length ≤ 1000000) {R : List (List Int) × List Clash} : ∀ (qs pre : List Prod) (st : Int × List Clash),pre ++ qs = l4 → st.2.length + qs.length ≤ 1000000 →
    Ev (fun k => regletref14_Predict.l2 k all x9 (prIn b r look pre.length qs st).2 (r : Int) (x12 ++ [(prIn b r look pre.length qs st).1]) (wrap64 ((look : Int) + 1)) l0 l1 a2 a3 l4) R → Ev (fun k => regletref14_Predict.l3 k all x9 st.2 (r : Int) x12 (look : Int) st.1 (pre.length : Int) l0 l1 a2 a3 l4) R
  | [],pre,st,e,_,hk => by
    have hz : ¬ (pre.length : Int) < (l4.length : Int) := by rw [← e];simp
    refine Ev.step (fun k => by rw [regletref14_Predict.l3]) (Ev.neg hz (Ev.pos (by omega) ?_))
    exact hk
  | p :: qs,pre,st,e,hm,hk => by
    have hlen : l4.length = pre.length + (qs.length + 1) := by rw [← e];simp
    have hp0 : pre.length ≤ 1000000:=by have:=h.1;omega
    simp only [List.length_cons] at hm
    have hrd : rd_T30 l4 (pre.length : Int) = p:=by rw [← e];exact getD_mid _ pre p qs _ rfl
    have hst : (prStep b r look pre.length p st).2.length ≤ st.2.length + 1:=by
      unfold prStep;split
      · split <;> simp
      · simp
    have ih:=ref_l3_ev h hb ha hs r look (x9:=x9) h12 (R:=R) qs (pre ++ [p]) (prStep b r look pre.length p st) (by rw [← e];simp) (by omega) (by rw [List.length_append,List.length_singleton];exact hk)
    rw [← wrap_next pre _ hp0] at ih
    refine Ev.step (fun k => by rw [regletref14_Predict.l3]) (Ev.pos (by omega) (Ev.pos (by omega) ?_))
    rw [hrd]
    by_cases hl : p.f0 = (r : Int)
    · refine Ev.pos hl (Ev.pos (by omega) ?_)
      rw [show rd_L3 all (pre.length : Int) = all.getD pre.length [] from by rw [rd_L3,Int.toNat_natCast]]
      refine Ev.bind (has14_ev _ _ (hs _)) (Ev.step (fun k => by rw [regletref14_Predict.j4]) ?_)
      have hbb:=hb pre.length look (by omega)
      by_cases hh : (look : Int) ∈ all.getD pre.length []
      · rw [decide_eq_true hh] at hbb ⊢
        refine Ev.neg (by simp) ?_
        by_cases hx : st.1 < 0
        · refine Ev.pos hx ?_
          rw [prStep,if_pos ⟨hl,hbb⟩,if_pos hx] at ih
          exact ih
        · refine Ev.neg hx (Ev.pos (by omega) ?_)
          rw [prStep,if_pos ⟨hl,hbb⟩,if_neg hx] at ih
          exact ih
      · rw [decide_eq_false hh] at hbb ⊢
        refine Ev.pos (by simp) ?_
        rw [prStep,if_neg (by rw [hbb];simp)] at ih
        exact ih
    · refine Ev.neg hl (Ev.step (fun k => by rw [regletref14_Predict.j4]) (Ev.pos rfl ?_))
      rw [prStep,if_neg (fun hc => hl hc.1)] at ih
      exact ih
theorem ref_l2_ev (h : Small l4) (h1 : l1.length ≤ 1000) (hb : ∀ (i look : Nat),i < l4.length → (b.getD i []).getD look false = decide ((look : Int) ∈ all.getD i [])) (ha : all.length = l4.length) (hs : ∀ i,(all.getD i []).length ≤ 1000000) (r : Nat) {x9 : List (List Int)} (h9 : x9.length ≤ 1000000) {R : List (List Int) × List Clash} : ∀ (n : Nat) (row : List Int) (bad : List Clash),row.length + n = l1.length + 1 → bad.length + n * l4.length ≤ 900000 → l4.length ≤ 100000 →
    Ev (fun k => regletref14_Predict.l1 k all (x9 ++ [row ++ (pRow b l4 r n row.length bad).1]) (pRow b l4 r n row.length bad).2 (wrap64 ((r : Int) + 1)) l0 l1 a2 a3 l4) R → Ev (fun k => regletref14_Predict.l2 k all x9 bad (r : Int) row (row.length : Int) l0 l1 a2 a3 l4) R
  | 0,row,bad,e,_,_,hk => Ev.step (fun k => by rw [regletref14_Predict.l2]) (Ev.neg (by omega) (Ev.pos (by omega) (by simpa [pRow] using hk)))
  | n + 1,row,bad,e,hm,h4,hk => by
    rw [Nat.succ_mul] at hm
    have hx:=prIn_max b r row.length l4 0 (-1,bad)
    simp only at hx
    have ih:=ref_l2_ev h h1 hb ha hs r (x9:=x9) h9 (R:=R) n (row ++ [(prIn b r row.length 0 l4 (-1,bad)).1]) (prIn b r row.length 0 l4 (-1,bad)).2 (by simp;omega) (by omega) h4 (by
      rw [List.length_append,List.length_singleton,List.append_assoc]
      exact hk)
    rw [← wrap_next row _ (by omega)] at ih
    refine Ev.step (fun k => by rw [regletref14_Predict.l2]) (Ev.pos (by omega) ?_)
    have h3:=ref_l3_ev (l0:=l0) (l1:=l1) (a2:=a2) (a3:=a3) (l4:=l4) (b:=b) (all:=all) h hb ha hs r row.length (x9:=x9) (x12:=row) (by omega) (R:=R) l4 [] (-1,bad) rfl (by simp only;omega) ih
    exact h3
theorem ref_l1_ev (h : Small l4) (h0 : l0.length ≤ 1000) (h1 : l1.length ≤ 1000) (hb : ∀ (i look : Nat),i < l4.length → (b.getD i []).getD look false = decide ((look : Int) ∈ all.getD i [])) (ha : all.length = l4.length) (hs : ∀ i,(all.getD i []).length ≤ 1000000) : ∀ (n : Nat) (out : List (List Int)) (bad : List Clash),out.length + n = l0.length → bad.length + n * ((l1.length + 1) * l4.length) ≤ 900000 → l4.length ≤ 100000 →
    Ev (fun k => regletref14_Predict.l1 k all out bad (out.length : Int) l0 l1 a2 a3 l4) (out ++ (pAll b l4 (l1.length + 1) n out.length bad).1,(pAll b l4 (l1.length + 1) n out.length bad).2)
  | 0,out,bad,e,_,_ => Ev.step (fun k => by rw [regletref14_Predict.l1]) (Ev.neg (by omega) (Ev.some (by simp [pAll])))
  | n + 1,out,bad,e,hm,h4 => by
    rw [Nat.succ_mul] at hm
    have hx:=pRow_max b l4 out.length (l1.length + 1) 0 bad
    have ih:=ref_l1_ev h h0 h1 hb ha hs n (out ++ [(pRow b l4 out.length (l1.length + 1) 0 bad).1]) (pRow b l4 out.length (l1.length + 1) 0 bad).2 (by simp;omega) (by omega) h4
    rw [← wrap_next out _ (by omega)] at ih
    refine Ev.step (fun k => by rw [regletref14_Predict.l1]) (Ev.pos (by omega) ?_)
    have h2:=ref_l2_ev (l0:=l0) (a2:=a2) (a3:=a3) h h1 hb ha hs out.length (x9:=out) (by omega) (R:=(out ++ (pAll b l4 (l1.length + 1) (n + 1) out.length bad).1,(pAll b l4 (l1.length + 1) (n + 1) out.length bad).2)) (l1.length + 1) [] bad (by simp) (by omega) h4 (by
      refine Ev.val ih ?_
      rw [List.length_append,List.length_singleton,List.append_assoc]
      rfl)
    exact h2
theorem ref_l0_ev (h : Small l4) (h0 : l0.length ≤ 1000) (h1 : l1.length ≤ 1000) (hok : l4.all (okProd l0.length l1.length) = true) {R : List (List Int) × List Clash} : ∀ (qs pre : List Prod),pre ++ qs = l4 →
    Ev (fun k => regletref14_Predict.l1 k (l4.map (sel l0.length l1.length l4)) [] [] 0 l0 l1 a2 a3 l4) R → Ev (fun k => regletref14_Predict.l0 k (pre.map (sel l0.length l1.length l4)) (dFollow l0.length l1.length l4) (pre.length : Int) l0 l1 a2 a3 l4) R
  | [],pre,e,hk => Ev.step (fun k => by rw [regletref14_Predict.l0]) (Ev.neg (by rw [← e];simp) (by rw [← e] at hk ⊢;simpa using hk))
  | p :: qs,pre,e,hk => by
    have hlen : l4.length = pre.length + (qs.length + 1) := by rw [← e];simp
    have hp0 : pre.length ≤ 1000000:=by have:=h.1;omega
    have hmem : p ∈ l4:=by rw [← e];simp
    have hokp:=List.all_eq_true.1 hok p hmem
    have hl:=okProd_left hokp
    have hrd : rd_T30 l4 (pre.length : Int) = p:=by rw [← e];exact getD_mid _ pre p qs _ rfl
    have ih:=ref_l0_ev h h0 h1 hok (R:=R) qs (pre ++ [p]) (by rw [← e];simp) hk
    rw [← wrap_next pre _ hp0,List.map_append,List.map_cons,List.map_nil] at ih
    refine Ev.step (fun k => by rw [regletref14_Predict.l0]) (Ev.pos (by omega) (Ev.pos (by omega) ?_))
    rw [hrd]
    refine Ev.bind (refOf_ev l0 l1 a2 a3 l4 h (by omega) h1 p.f1 (h.2 p hmem)) ?_
    have hfl:=follow_range hok
    have hsel : sel l0.length l1.length l4 p = (dOf l0.length l1.length l4 p.f1).1 ++ (if (dOf l0.length l1.length l4 p.f1).2 = true then (dFollow l0.length l1.length l4).getD p.f0.toNat [] else []) := rfl
    by_cases he : (dOf l0.length l1.length l4 p.f1).2 = true
    · refine Ev.pos he (Ev.pos hl.1 (Ev.pos (by rw [hfl.1];exact hl.2) (Ev.pos ?_ (Ev.pos (by simp;omega) ?_))))
      · have h2:=(of_range hok p.f1).1
        have h4 : (rd_L3 (dFollow l0.length l1.length l4) p.f0).length ≤ l1.length + 1:=(hfl.2 p.f0.toNat).1
        omega
      · rw [hsel,if_pos he] at ih
        exact ih
    · refine Ev.neg he (Ev.pos (by simp;omega) ?_)
      rw [hsel,if_neg he,List.append_nil] at ih
      exact ih
end
section
variable (l0 : List ByteArray) (l1 : List Tok) (a2 a3 : Int) (l4 : List Prod)
def dPredict (nn nt : Nat) (ps : List Prod) : List (List Int) × List Clash:=if ps.all (okProd nn nt) = true then pAll (ps.map (chRow nn nt ps)) ps (nt + 1) nn 0 [] else ([],[])
variable (h : Small l4) (h0 : l0.length ≤ 30) (h1 : l1.length ≤ 30) (h4 : l4.length ≤ 30)
include h h0 h1 h4
set_option linter.unusedSectionVars false in
theorem bad_bound (b : List (List Bool)) : (pAll b l4 (l1.length + 1) l0.length 0 []).2.length ≤ 100000:=by
 have h2:=(pAll_max b l4 (l1.length + 1) l0.length 0 []).2.2
 have h3 : l0.length * ((l1.length + 1) * l4.length) ≤ 30 * (31 * 30) := Nat.mul_le_mul h0 (Nat.mul_le_mul (by omega) h4)
 simp only [List.length_nil] at h2
 omega
theorem predict_ev : Ev (fun k => predict_Predict.f k l0 l1 a2 a3 l4) (dPredict l0.length l1.length l4) := by
 refine Ev.congr (fun k => by rw [predict_Predict.f]) (Ev.bind0 (firstsRight_val l0 l1 a2 a3 l4 h) ?_)
 unfold dPredict
 cases hr : l4.all (okProd l0.length l1.length) with
 | false => exact Ev.neg (by simp) (Ev.some (by simp))
 | true =>
  refine Ev.pos rfl (Ev.bind (chosen_ev h (by omega) (by omega) hr) (Ev.bind (rows_ev (by omega) (by omega)) ?_))
  have hp:=prAll_pAll (l4.map (chRow l0.length l1.length l4)) l4 (l1.length + 1) l0.length [] []
  simp only [List.nil_append,List.length_nil] at hp
  rw [List.length_replicate,hp]
  refine Ev.pos ⟨?_,h.1,by omega,by have:=bad_bound l0 l1 l4 h h0 h1 h4 (l4.map (chRow l0.length l1.length l4));simp only;omega⟩ (Ev.some (if_pos rfl).symm)
  unfold prOk
  simp only [Bool.and_eq_true,decide_eq_true_eq,List.all_eq_true]
  refine ⟨by simp,fun row hrow => ?_⟩
  rw [List.eq_of_mem_replicate hrow,List.length_replicate]
  refine ⟨by omega,fun x hx => ?_⟩
  obtain ⟨p,_,rfl⟩ := List.mem_map.1 hx
  rw [chRow_length]
  omega
theorem refPredict_ev : Ev (fun k => regletref14_Predict.f k l0 l1 a2 a3 l4) (dPredict l0.length l1.length l4) := by
 refine Ev.congr (fun k => by rw [regletref14_Predict.f]) (Ev.bind (refRight_ev l0 l1 a2 a3 l4 h) ?_)
 unfold dPredict
 cases hr : l4.all (okProd l0.length l1.length) with
 | false => exact Ev.neg (by simp) (Ev.some (by simp))
 | true =>
  refine Ev.pos rfl (Ev.bind (refFollow_ev l0 l1 a2 a3 l4 h (by omega) (by omega)) ?_)
  have hx:=ref_l1_ev (l0:=l0) (l1:=l1) (a2:=a2) (a3:=a3) (l4:=l4) (b:=l4.map (chRow l0.length l1.length l4)) (all:=l4.map (sel l0.length l1.length l4)) h (by omega) (by omega) (fun i look hi => ?_) (by simp) (fun i => ?_) l0.length [] [] (by simp) (by
   have h3 : l0.length * ((l1.length + 1) * l4.length) ≤ 30 * (31 * 30) := Nat.mul_le_mul h0 (Nat.mul_le_mul (by omega) h4)
   simp only [List.length_nil];omega) (by omega)
  · refine Ev.val (ref_l0_ev (a2:=a2) (a3:=a3) h (by omega) (by omega) hr l4 [] rfl hx) (by simp)
  · have e1 : (l4.map (chRow l0.length l1.length l4)).getD i [] = chRow l0.length l1.length l4 l4[i] := by rw [List.getD_eq_getElem?_getD,List.getElem?_map,List.getElem?_eq_getElem hi];rfl
    have e2 : (l4.map (sel l0.length l1.length l4)).getD i [] = sel l0.length l1.length l4 l4[i] := by rw [List.getD_eq_getElem?_getD,List.getElem?_map,List.getElem?_eq_getElem hi];rfl
    rw [e1,e2]
    exact chRow_getD hr _ look
  · by_cases hi : i < l4.length
    rotate_left
    · rw [List.getD_eq_getElem?_getD,List.getElem?_map,List.getElem?_eq_none (by omega)]
      simp
    rw [List.getD_eq_getElem?_getD,List.getElem?_map,List.getElem?_eq_getElem hi]
    have:=(sel_range hr (l4[i])).1
    simp only [Option.map_some,Option.getD_some]
    omega
end
theorem sameClashes_l0_ev : ∀ (a pre : List Clash),pre.length + a.length ≤ 1000000 → Ev (fun k => regletref14_SameClashes.l0 k (pre ++ a) (pre ++ a) (pre.length : Int)) true
  | [],pre,_ => Ev.step (fun k => by rw [regletref14_SameClashes.l0]) (Ev.neg (by simp) (Ev.some rfl))
  | x :: a,pre,h3 => by
    simp only [List.length_cons] at h3
    have ih:=sameClashes_l0_ev a (pre ++ [x]) (by simp;omega)
    simp only [← wrap_next pre _ (show pre.length ≤ 1000000 by omega),List.append_assoc,List.singleton_append] at ih
    exact Ev.step (fun k => by rw [regletref14_SameClashes.l0]) (Ev.pos (by simp;omega) (Ev.pos (by omega) (Ev.pos (by simp;omega) (Ev.neg (by simp) ih))))
theorem sameClashes_ev (a : List Clash) (h : a.length ≤ 1000000) : Ev (fun k => regletref14_SameClashes.f k a a) true :=
  Ev.congr (fun k => by rw [regletref14_SameClashes.f,if_pos rfl]) (by simpa using sameClashes_l0_ev a [] (by simpa using h) : Ev (fun k => regletref14_SameClashes.l0 k a a 0) _)
section
variable {ns : List ByteArray} {R : List ByteArray × List Tok × Int × Int × List Prod}
end
theorem awake14_ev : Ev (fun k => regletlaw14_awake.f k) true:=by
 have e1 : dPredict 1 1 [⟨0,[⟨true,0⟩,⟨false,0⟩]⟩,⟨0,[]⟩] = ([[0,1]],[]) := by kernel_rfl
 have e2 : dPredict 1 1 [⟨0,[⟨true,0⟩,⟨false,0⟩]⟩,⟨0,[]⟩,⟨0,[]⟩] = ([[0,1]],[⟨0,1,1,2⟩]) := by kernel_rfl
 unfold regletlaw14_awake.f
 simp only [Option.bind_some]
 refine Ev.pos (by decide) ?_
 refine Ev.bind (Ev.val (predict_ev [⟨#[97]⟩] (List.replicate 1 z61) 0 0 [⟨0,[⟨true,0⟩,⟨false,0⟩]⟩,⟨0,[]⟩] ⟨by simp,by simp⟩ (by simp) (by simp) (by simp)) e1) (Ev.pos (by simp) ?_)
 refine Ev.bind (Ev.val (predict_ev [⟨#[97]⟩] (List.replicate 1 z61) 0 0 [⟨0,[⟨true,0⟩,⟨false,0⟩]⟩,⟨0,[]⟩,⟨0,[]⟩] ⟨by simp,by simp⟩ (by simp) (by simp) (by simp)) e2) (Ev.pos rfl ?_)
 exact Ev.bind (sameLists_ev [[0,1]] (by simp) (by simp)) (Ev.pos rfl (Ev.pos rfl (Ev.pos (by decide) (Ev.some rfl))))
theorem same14_ev (l0 : List ByteArray) (l1 : List Tok) (a2 a3 : Int) (l4 : List Prod) (h : Small l4) (h0 : l0.length ≤ 30) (h1 : l1.length ≤ 30) (h4 : l4.length ≤ 30) : Ev (fun k => regletlaw14_same.f k l0 l1 a2 a3 l4) true:=by
 refine Ev.congr (fun k => by rw [regletlaw14_same.f]) (Ev.bind (predict_ev l0 l1 a2 a3 l4 h h0 h1 h4) (Ev.bind (refPredict_ev l0 l1 a2 a3 l4 h h0 h1 h4) ?_))
 have hsz : (dPredict l0.length l1.length l4).1.length ≤ 1000000 ∧ (∀ r ∈ (dPredict l0.length l1.length l4).1,r.length ≤ 1000000) ∧ (dPredict l0.length l1.length l4).2.length ≤ 1000000:=by
  unfold dPredict
  cases hr : l4.all (okProd l0.length l1.length) with
  | false => simp
  | true =>
   rw [if_pos rfl]
   have hx:=pAll_max (l4.map (chRow l0.length l1.length l4)) l4 (l1.length + 1) l0.length 0 []
   have hb:=bad_bound l0 l1 l4 h h0 h1 h4 (l4.map (chRow l0.length l1.length l4))
   exact ⟨by rw [hx.1];omega,fun r hr => by rw [hx.2.1 r hr];omega,by omega⟩
 exact Ev.bind (sameLists_ev _ hsz.1 hsz.2.1) (Ev.pos rfl (Ev.bind (sameClashes_ev _ hsz.2.2) (Ev.some rfl)))
end Go.Proofs.Ytfdcfihcfegekaa.M
end

section
namespace Go.Proofs.Ytfdcfihcfegekaa.Pure
open Go.RowKit Go.Proofs.Ytfdcfihcfegekaa.P Go.Proofs.YtfdcfihcfegekaaW.PrintWords Go.Proofs.YtfdcfihcfegekaaW.PrintLast Go.Proofs.YtfdcfihcfegekaaW.PrintMore Go.Proofs.Ytfdcfihcfegekaa.H Go.Proofs.Ytfdcfihcfegekaa.M Go.Proofs.Ytfdcfihcfegekaa.Open
theorem szl_len : ∀ (ps : List S30),ps.length ≤ szL (fun p : S30 => p.f1.length + 1) ps
  | [] => Nat.zero_le _
  | p :: ps => by have:=szl_len ps;simp only [szL,List.length_cons];omega
theorem any_l0_ev (l0 : List ByteArray) (l1 : List S61) (a2 a3 : Int) (all : List S30) (h0 : l0.length ≤ 30) (h1 : l1.length ≤ 30) (h4 : all.length ≤ 30) : ∀ (qs pre : List S30),pre ++ qs = all → (∀ p ∈ pre,p.f1.length ≤ 10) → Ev (fun k => regletlaw14_PredictAny.l0 k (pre.length : Int) l0 l1 a2 a3 all) true
  | [],pre,e,hp => by
    rw [List.append_nil] at e
    subst e
    refine Ev.step (fun k => by rw [regletlaw14_PredictAny.l0]) (Ev.neg (by simp) ?_)
    exact Ev.bind awake14_ev (Ev.pos rfl (Ev.bind (same14_ev l0 l1 a2 a3 pre ⟨by omega,fun p h => by have:=hp p h;omega⟩ h0 h1 h4) (Ev.some rfl)))
  | p :: qs,pre,e,hp => by
    have hl : pre.length + (qs.length + 1) = all.length:=by rw [← e];simp
    have er : rd_T30 all (pre.length : Int) = p:=by rw [← e];exact getD_mid _ pre p qs _ rfl
    refine Ev.step (fun k => by rw [regletlaw14_PredictAny.l0]) (Ev.pos (by omega) (Ev.pos (by omega) ?_))
    rw [er]
    by_cases hs : (p.f1.length : Int) > 10
    · exact Ev.pos hs (Ev.bind awake14_ev (Ev.some rfl))
    · have ih:=any_l0_ev l0 l1 a2 a3 all h0 h1 h4 qs (pre ++ [p]) (by rw [List.append_assoc];exact e) (fun q hq => by
        rcases List.mem_append.1 hq with h | h
        · exact hp q h
        · rw [List.mem_singleton.1 h];omega)
      have e1 : wrap64 ((pre.length : Int) + 1) = ((pre ++ [p]).length : Int) := by rw [wrap64_id (by omega) (by omega)];simp
      rw [← e1] at ih
      exact Ev.neg hs ih
theorem PredictAny (l0 : List ByteArray) (l1 : List S61) (a2 a3 : Int) (l4 : List S30) (h : l0.length + l1.length + szL (fun p : S30 => p.f1.length + 1) l4 ≤ 1048576) : ∃ k,regletlaw14_PredictAny.f k l0 l1 a2 a3 l4 = some true:=by
 have hl:=szl_len l4
 apply Ev.rounds
 unfold regletlaw14_PredictAny.f
 have e1 : wrap64 ((l0.length : Int) + (l1.length : Int)) = (l0.length : Int) + (l1.length : Int) := wrap64_id (by omega) (by omega)
 have e2 : wrap64 ((l0.length : Int) + (l1.length : Int) + (l4.length : Int)) = (l0.length : Int) + (l1.length : Int) + (l4.length : Int) := wrap64_id (by omega) (by omega)
 rw [e1,e2]
 by_cases hs : (l0.length : Int) + (l1.length : Int) + (l4.length : Int) > 30
 rotate_left
 · exact Ev.neg hs (any_l0_ev l0 l1 a2 a3 l4 (by omega) (by omega) (by omega) l4 [] rfl (fun _ h => by cases h))
 exact Ev.pos hs (Ev.bind awake14_ev (Ev.some rfl))
end Go.Proofs.Ytfdcfihcfegekaa.Pure
end
