/- Packed texts of this claim: the walks of the functions, and their plain laws; see the claim's last text. -/
import Derived.Deep.Cut
import Derived.Deep.RegionHeld3
import Derived.Test.YtfdcfihcfegekaaKPredictClashes4
section
namespace Go.Proofs.Ytfdcfihcfegekaa.P
open Go.RowKit Go.Proofs.YtfdcfihcfegekaaW.PrintWords Go.Proofs.YtfdcfihcfegekaaW.PrintLast Go.Proofs.YtfdcfihcfegekaaW.PrintMore Go.Proofs.Ytfdcfihcfegekaa.R
set_option linter.unusedVariables false
set_option linter.unusedSimpArgs false
def rJoinRow (k : Nat) (n : Int) (m : List Bool) (out : List (List Bool)) : Option (Bool × List (List Bool)) :=
  if 0 ≤ n then if n < (out.length : Int) then (regletref13_join.f k (out.getD n.toNat []) m).bind fun b => some (b.1,out.set n.toNat b.2) else none else none
def rJoinFrom (k : Nat) (left : Int) (m : List Bool) (e : Bool) (out : List (List Bool)) : Option (List Bool) :=
  if e = true then if 0 ≤ left then if left < (out.length : Int) then (regletref13_join.f k m (out.getD left.toNat [])).bind fun b => some b.2 else none else none else some m
def rFollowIn (k : Nat) (l0_0 : List ByteArray) (l0_1 : List (S61)) (a0_2 : Int) (a0_3 : Int) (l0_4 : List (S30)) (f : List (List Bool)) (em : List Bool) (left : Int) : List (S53) → Bool → List (List Bool) → Option (Bool × List (List Bool))
  | [],more,out => some (more,out)
  | y :: ys,more,out => if y.f0 = true then rFollowIn k l0_0 l0_1 a0_2 a0_3 l0_4 f em left ys more out else
    (regletref13_begins.f k l0_0 l0_1 a0_2 a0_3 l0_4 ys f em).bind fun l => (rJoinFrom k left l.1 l.2 out).bind fun m => (rJoinRow k y.f1 m out).bind fun b => rFollowIn k l0_0 l0_1 a0_2 a0_3 l0_4 f em left ys (if b.1 = true then true else more) b.2
def rFollowPs (k : Nat) (l0_0 : List ByteArray) (l0_1 : List (S61)) (a0_2 : Int) (a0_3 : Int) (l0_4 : List (S30)) (f : List (List Bool)) (em : List Bool) : List (S30) → Bool → List (List Bool) → Option (Bool × List (List Bool))
  | [],more,out => some (more,out)
  | p :: ps,more,out => (rFollowIn k l0_0 l0_1 a0_2 a0_3 l0_4 f em p.f0 p.f1 more out).bind fun b => rFollowPs k l0_0 l0_1 a0_2 a0_3 l0_4 f em ps b.1 b.2
def rFollowOut (kk : Nat) (l0_0 : List ByteArray) (l0_1 : List (S61)) (a0_2 : Int) (a0_3 : Int) (l0_4 : List (S30)) (f : List (List Bool)) (em : List Bool) : Nat → List (List Bool) → Bool → Option (List (List Bool))
  | 0,_,_ => none
  | k + 1,out,more => if more = true then (rFollowPs kk l0_0 l0_1 a0_2 a0_3 l0_4 f em l0_4 false out).bind fun b => rFollowOut kk l0_0 l0_1 a0_2 a0_3 l0_4 f em k b.2 b.1 else some out
def rFollow0 (nt : Nat) (out : List (List Bool)) : Option (List (List Bool)) :=
  if 0 < out.length then if nt < (out.getD 0 []).length then some (out.set 0 ((out.getD 0 []).set nt true)) else none else some out
def regletref13_Follow.f (k : Nat) (l0_0 : List ByteArray) (l0_1 : List (S61)) (a0_2 : Int) (a0_3 : Int) (l0_4 : List (S30)) : Option (List (List Int)) :=
  if l0_4.length ≤ 9223372036854775807 ∧ l0_4.all (fun p => decide (p.f1.length ≤ 9223372036854775807)) = true then
  (regletref13_Right.f k l0_0 l0_1 a0_2 a0_3 l0_4).bind fun r => if r = true then (regletref13_marks.f k l0_0 l0_1 a0_2 a0_3 l0_4).bind fun out => (regletref13_first.f k l0_0 l0_1 a0_2 a0_3 l0_4).bind fun f => (regletref13_Empty.f k l0_0 l0_1 a0_2 a0_3 l0_4).bind fun em => (rFollow0 l0_1.length out).bind fun out0 => (rFollowOut k l0_0 l0_1 a0_2 a0_3 l0_4 f em k out0 true).bind fun o => regletref13_lists.f k o else some []
  else none
structure RFollowI (w w5 : World) (lo hi : Nat) (Ao : Option Addr) (co N : Nat) (out : List (List Bool)) (W : World) : Prop where
  bel : Below w.heap.size w W
  r : Kd.S (Kd.slice 4 Kd.bool) 65 W w.heap.size (fun k => lo ≤ k ∧ k < hi) (.slice Ao N co) out
  k : Kept w5 W (fun k => lo ≤ k ∧ k < hi)
  h : hi ≤ W.heap.size
section
variable {w w5 : World} {lo hi : Nat} {Ao : Option Addr} {co N : Nat} {out out' : List (List Bool)} {W W' : World}
theorem RFollowI.below (h : RFollowI w w5 lo hi Ao co N out W) (hb : Below W.heap.size W W') : RFollowI w w5 lo hi Ao co N out W' :=
  ⟨h.bel.trans (hb.mono h.bel.size),Kd.S_below h.r hb,h.k.below hb,Nat.le_trans h.h hb.size⟩
end
set_option maxHeartbeats 1000000 in
theorem rjoin_from (k : Nat) (w w5 W : World) (lo hi : Nat) (Ao : Option Addr) (co N : Nat) (out : List (List Bool)) (HI : RFollowI w w5 lo hi Ao co N out W) (left : Int) (hl0 : 0 ≤ left) (hl1 : left < (out.length : Int)) (m m' : List Bool) (b : Bool) (B : Nat) (hB : w5.heap.size ≤ B) (hhi : hi ≤ w5.heap.size) (hBW : B ≤ W.heap.size) (A2 : Option Addr) (c2 : Nat) (hm : Kd.R Kd.bool 4 W w.heap.size (fun k => B ≤ k) (.slice A2 m.length c2) m) (h : regletref13_join.f k m (out.getD left.toNat []) = some (b,m')) :
    ∃ (go : Nat) (A4 : Option Addr) (c4 m4 : Nat),Ao = some ⟨go,0,none⟩ ∧ W.cell? ⟨go,left.toNat,none⟩ = some (.slice A4 m4 c4) ∧
      Calls Try.prog 30 #[.slice A2 m.length c2,.slice A4 m4 c4] W fun e w' => e = .returned (.bool b) ∧ Aside0 (RFollowI w w5 lo hi Ao co N out w') ∧ Aside0 (Kd.R Kd.bool 4 w' w.heap.size (fun k => B ≤ k) (.slice A2 m.length c2) m') ∧ Aside0 (Kept W w' (fun k => B ≤ k)) := by
 obtain ⟨go,vr,P,eA,hcell,hRow,hP,hback⟩ := S_row rfl HI.r left hl0 hl1
 obtain ⟨A4,c4,rfl⟩ := Kd.R_slice hRow
 refine ⟨go,A4,c4,_,eA,hcell,?_⟩
 refine (regletref13_join.calls k (fun k => B ≤ k) _ m A4 c4 (out.getD left.toNat []) b m' w W HI.bel hm (Kd.C_kept_own hRow (fun k hk hh => by have:=(hP k hk).1.2;omega)) (Kd.R_reads' hRow).2.1 h).mono ?_
 rintro e w3 ⟨rfl,hR3,hb3,hk3⟩
 refine ⟨rfl,⟨⟨hb3,Kd.S_kept HI.r hk3 (fun k h1 h2 => by omega),HI.k.then_ hk3 (fun k h2 => .inr (Nat.le_trans hB h2)),Nat.le_trans HI.h hk3.1⟩⟩,⟨Kd.R_mono hR3 (fun k hk => hk.elim id (fun h2 => Nat.le_trans hBW h2))⟩,⟨hk3⟩⟩
set_option maxHeartbeats 1000000 in
theorem rjoin_row (k : Nat) (w w5 W : World) (lo hi : Nat) (Ao : Option Addr) (co N : Nat) (out out' : List (List Bool)) (HI : RFollowI w w5 lo hi Ao co N out W) (n : Int) (m : List Bool) (n2 : Nat) (b : Bool) (B : Nat) (hhi : hi ≤ B) (A2 : Option Addr) (c2 : Nat) (hm : Kd.R Kd.bool 4 W w.heap.size (fun k => B ≤ k) (.slice A2 n2 c2) m) (h : rJoinRow k n m out = some (b,out')) :
    ∃ (go : Nat) (A4 : Option Addr) (c4 m4 : Nat),0 ≤ n ∧ n < (out.length : Int) ∧ Ao = some ⟨go,0,none⟩ ∧ W.cell? ⟨go,n.toNat,none⟩ = some (.slice A4 m4 c4) ∧ out'.length = out.length ∧
      Calls Try.prog 30 #[.slice A4 m4 c4,.slice A2 n2 c2] W fun e w' => e = .returned (.bool b) ∧ Aside0 (RFollowI w w5 lo hi Ao co N out' w') ∧ Aside0 (Kept W w' (fun k => lo ≤ k ∧ k < hi)) := by
 unfold rJoinRow at h
 split at h
 case isFalse => simp at h
 rename_i h0
 split at h
 case isFalse => simp at h
 rename_i h1
 obtain ⟨⟨ab,ar⟩,had,h2⟩ := Option.bind_eq_some_iff.1 h
 obtain ⟨rfl,rfl⟩ := Prod.mk.inj (Option.some.inj h2)
 have hn2:=(Kd.R_reads' hm).1
 subst hn2
 obtain ⟨go,vr,P,eA,hcell,hRow,hP,hback⟩ := S_row rfl HI.r n h0 h1
 obtain ⟨A4,c4,rfl⟩ := Kd.R_slice hRow
 refine ⟨go,A4,c4,_,h0,h1,eA,hcell,by simp,?_⟩
 refine (regletref13_join.calls k P _ _ A2 c2 m ab ar w W HI.bel hRow (Kd.C_kept_own hm (fun k hk hp => by have:=(hP k hp).1.2;omega)) (Kd.R_reads' hm).2.1 had).mono ?_
 rintro e w3 ⟨rfl,hR3,hb3,hk3⟩
 exact ⟨rfl,⟨⟨hb3,hback w3 _ ar hk3 hR3,HI.k.then_ hk3 (fun k h2 => .inl (hP k h2).1),Nat.le_trans HI.h hk3.1⟩⟩,⟨Kept.mono hk3 (fun k hk => (hP k hk).1)⟩⟩
theorem infoSymR : (Try.prog.info? 53).map (fun i => (i.zero,i.size,i.bytes)) = some (some (.agg #[.bool false,.int .i64 0]),2,16) := by kernel_rfl
set_option maxHeartbeats 4000000 in
set_option maxRecDepth 100000 in
theorem regletref13_Follow.calls (k : Nat) (A0_0 : Option Addr) (c0_0 : Nat) (l0_0 : List ByteArray) (A0_1 : Option Addr) (c0_1 : Nat) (l0_1 : List (S61)) (a0_2 : Int) (a0_3 : Int) (A0_4 : Option Addr) (c0_4 : Nat) (l0_4 : List (S30)) (r : List (List Int)) (w : World) (hr0_0 : Kd.C Kd.string w A0_0 l0_0.length l0_0) (hc0_0 : l0_0.length ≤ c0_0) (hr0_1 : Kd.C k61 w A0_1 l0_1.length l0_1) (hc0_1 : l0_1.length ≤ c0_1) (hr0_4 : Kd.C k30 w A0_4 l0_4.length l0_4) (hc0_4 : l0_4.length ≤ c0_4) (h : regletref13_Follow.f k l0_0 l0_1 a0_2 a0_3 l0_4 = some r) :
    Calls Try.prog 16 #[.agg #[.slice A0_0 l0_0.length c0_0,.slice A0_1 l0_1.length c0_1,.int .i64 a0_2,.int .i64 a0_3,.slice A0_4 l0_4.length c0_4]] w fun e w' => ∃ v0_ : Value,e = .returned (v0_) ∧ Kd.S (Kd.slice 3 (Kd.int .i64)) 43 w' w.heap.size (fun _ => True) v0_ r ∧ Below w.heap.size w w' := by
 unfold regletref13_Follow.f at h
 split at h
 case isFalse => simp at h
 rename_i hsz
 have HSZ:=Aside0.mk hsz
 clear hsz
 obtain ⟨rt,hrt,h2⟩ := Option.bind_eq_some_iff.1 h
 have HRT:=Aside0.mk hrt
 clear h hrt
 have HA1 : Aside0 (Below w.heap.size w (w.alloc (.cells #[.slice A0_0 l0_0.length c0_0,.slice A0_1 l0_1.length c0_1,.int .i64 a0_2,.int .i64 a0_3,.slice A0_4 l0_4.length c0_4] 26))) := ⟨(Below.refl _ w).alloc (Nat.le_refl _) _⟩
 have HC : Aside0 (∀ W,Below (w.heap.size + 1) (w.alloc (.cells #[.slice A0_0 l0_0.length c0_0,.slice A0_1 l0_1.length c0_1,.int .i64 a0_2,.int .i64 a0_3,.slice A0_4 l0_4.length c0_4] 26)) W → W.cell? ⟨w.heap.size,0,none⟩ = some (.slice A0_0 l0_0.length c0_0) ∧ W.cell? ⟨w.heap.size,1,none⟩ = some (.slice A0_1 l0_1.length c0_1) ∧ W.cell? ⟨w.heap.size,2,none⟩ = some (.int .i64 a0_2) ∧ W.cell? ⟨w.heap.size,3,none⟩ = some (.int .i64 a0_3) ∧ W.cell? ⟨w.heap.size,4,none⟩ = some (.slice A0_4 l0_4.length c0_4)) := ⟨fun W hW => ⟨(hW.cell (p:=⟨w.heap.size,0,none⟩) (by simp)).trans (by simp),(hW.cell (p:=⟨w.heap.size,1,none⟩) (by simp)).trans (by simp),(hW.cell (p:=⟨w.heap.size,2,none⟩) (by simp)).trans (by simp),(hW.cell (p:=⟨w.heap.size,3,none⟩) (by simp)).trans (by simp),(hW.cell (p:=⟨w.heap.size,4,none⟩) (by simp)).trans (by simp)⟩⟩
 cases rt with
 | false =>
  rw [if_neg (by simp)] at h2
  obtain rfl:=Option.some.inj h2
  clear h2
  go_enter Try.func16,Try.ntmps16
  go_wp2_with (go_at_call 25;(with_reducible refine (regletref13_Right.calls k A0_0 c0_0 l0_0 A0_1 c0_1 l0_1 a0_2 a0_3 A0_4 c0_4 l0_4 false _ (Kd.C_below hr0_0 HA1.out) hc0_0 (Kd.C_below hr0_1 HA1.out) hc0_1 (Kd.C_below hr0_4 HA1.out) hc0_4 HRT.out).mono ?_);rintro e w1 ⟨rfl,hb1⟩)
  go_ret
  exact ⟨_,rfl,Kd.S_nil _ _ _ _ _,HA1.out.trans (hb1.mono (by simp))⟩
 | true =>
  rw [if_pos rfl] at h2
  obtain ⟨m0,hm0,h3⟩ := Option.bind_eq_some_iff.1 h2
  obtain ⟨f,hf,h4⟩ := Option.bind_eq_some_iff.1 h3
  obtain ⟨em,he,h5⟩ := Option.bind_eq_some_iff.1 h4
  obtain ⟨out0,ho0,h6⟩ := Option.bind_eq_some_iff.1 h5
  obtain ⟨out,hout,hlists⟩ := Option.bind_eq_some_iff.1 h6
  have HM0:=Aside0.mk hm0
  have HF:=Aside0.mk hf
  have HE:=Aside0.mk he
  have HO0:=Aside0.mk ho0
  have HOUT:=Aside0.mk hout
  have HL:=Aside0.mk hlists
  clear h2 h3 h4 h5 h6 hm0 hf he ho0 hout hlists
  have HFC : Aside0 (∀ W : World,Below w.heap.size w W → Calls Try.prog 27 #[.agg #[.slice A0_0 l0_0.length c0_0,.slice A0_1 l0_1.length c0_1,.int .i64 a0_2,.int .i64 a0_3,.slice A0_4 l0_4.length c0_4]] W fun e w' => ∃ v0_ : Value,e = .returned (v0_) ∧ Kd.S (Kd.slice 4 Kd.bool) 65 w' W.heap.size (fun _ => True) v0_ f ∧ Below W.heap.size W w') := ⟨fun W hb => regletref13_first.calls k A0_0 c0_0 l0_0 A0_1 c0_1 l0_1 a0_2 a0_3 A0_4 c0_4 l0_4 f W (Kd.C_below hr0_0 hb) hc0_0 (Kd.C_below hr0_1 hb) hc0_1 (Kd.C_below hr0_4 hb) hc0_4 HF.out⟩
  have HEC : Aside0 (∀ W : World,Below w.heap.size w W → Calls Try.prog 28 #[.agg #[.slice A0_0 l0_0.length c0_0,.slice A0_1 l0_1.length c0_1,.int .i64 a0_2,.int .i64 a0_3,.slice A0_4 l0_4.length c0_4]] W fun e w' => ∃ v0_ : Value,e = .returned (v0_) ∧ Kd.R Kd.bool 4 w' W.heap.size (fun _ => True) v0_ em ∧ Below W.heap.size W w') := ⟨fun W hb => regletref13_Empty.calls k A0_0 c0_0 l0_0 A0_1 c0_1 l0_1 a0_2 a0_3 A0_4 c0_4 l0_4 em W (Kd.C_below hr0_0 hb) hc0_0 (Kd.C_below hr0_1 hb) hc0_1 (Kd.C_below hr0_4 hb) hc0_4 HE.out⟩
  go_enter Try.func16,Try.ntmps16
  go_upto_region 4 with (first
    | (go_at_call 25;(with_reducible refine (regletref13_Right.calls k A0_0 c0_0 l0_0 A0_1 c0_1 l0_1 a0_2 a0_3 A0_4 c0_4 l0_4 true _ (Kd.C_below hr0_0 HA1.out) hc0_0 (Kd.C_below hr0_1 HA1.out) hc0_1 (Kd.C_below hr0_4 HA1.out) hc0_4 HRT.out).mono ?_);rintro e w1 ⟨rfl,hb1⟩;have HB1 : Aside0 (Below (w.heap.size + 1) (w.alloc (.cells #[.slice A0_0 l0_0.length c0_0,.slice A0_1 l0_1.length c0_1,.int .i64 a0_2,.int .i64 a0_3,.slice A0_4 l0_4.length c0_4] 26)) w1) := ⟨hb1.mono (by simp)⟩;have HB01 : Aside0 (Below w.heap.size w w1) := ⟨HA1.out.trans (hb1.mono (by simp))⟩;clear hb1;obtain ⟨q0,q1,q2,q3,q4⟩ := HC.out w1 HB1.out)
    | (go_at_call 26;(with_reducible refine (regletref13_marks.calls k A0_0 c0_0 l0_0 A0_1 c0_1 l0_1 a0_2 a0_3 A0_4 c0_4 l0_4 m0 _ (Kd.C_below hr0_0 HB01.out) hc0_0 (Kd.C_below hr0_1 HB01.out) hc0_1 (Kd.C_below hr0_4 HB01.out) hc0_4 HM0.out).mono ?_);rintro e w3 ⟨v3,rfl,hS3,hb3⟩;obtain ⟨Ao,co,rfl⟩ := Kd.S_slice hS3;have HB3 : Aside0 (Below (w.heap.size + 1) (w.alloc (.cells #[.slice A0_0 l0_0.length c0_0,.slice A0_1 l0_1.length c0_1,.int .i64 a0_2,.int .i64 a0_3,.slice A0_4 l0_4.length c0_4] 26)) w3) := ⟨HB1.out.trans (hb3.mono (by have:=HB1.out.size;simpa using this))⟩;have HB03 : Aside0 (Below w.heap.size w w3) := ⟨HB01.out.trans (hb3.mono HB01.out.size)⟩;have HS3 : Aside0 (Kd.S (Kd.slice 4 Kd.bool) 65 w3 w.heap.size (fun k => w1.heap.size ≤ k ∧ k < w3.heap.size) (.slice Ao m0.length co) m0) := ⟨Kd.S_lower (Kd.S_mono (Kd.S_bound hS3) (fun k hk => ⟨hk.2.1,hk.2.2.1⟩)) HB01.out.size⟩;have SZ3 : Aside0 (w.heap.size < w1.heap.size ∧ w1.heap.size ≤ w3.heap.size) := ⟨by have:=HB1.out.size;simp at this;omega,hb3.size⟩;clear hS3 hb3 q0 q1 q2 q3 q4;obtain ⟨q0,q1,q2,q3,q4⟩ := HC.out w3 HB3.out))
  go_cut [4,5] from 12 (fun s4 s5 wc => ∃ Af cf Ae ce,s4 = .slice Af f.length cf ∧ s5 = .slice Ae em.length ce ∧ Aside0 (Below w3.heap.size w3 wc) ∧ Aside0 (Kd.S (Kd.slice 4 Kd.bool) 65 wc w.heap.size (fun k => w3.heap.size ≤ k) (.slice Af f.length cf) f) ∧ Aside0 (Kd.R Kd.bool 4 wc w.heap.size (fun k => w3.heap.size ≤ k) (.slice Ae em.length ce) em))
  case first =>
   have HC3 : Aside0 (∀ W,Below w3.heap.size w3 W → W.cell? ⟨w.heap.size,0,none⟩ = some (.slice A0_0 l0_0.length c0_0) ∧ W.cell? ⟨w.heap.size,1,none⟩ = some (.slice A0_1 l0_1.length c0_1) ∧ W.cell? ⟨w.heap.size,2,none⟩ = some (.int .i64 a0_2) ∧ W.cell? ⟨w.heap.size,3,none⟩ = some (.int .i64 a0_3) ∧ W.cell? ⟨w.heap.size,4,none⟩ = some (.slice A0_4 l0_4.length c0_4)) := ⟨fun W hW => HC.out W (HB3.out.trans (hW.mono (by have:=HB3.out.size;simpa using this)))⟩
   go_region_held3 (fun W => W.cell? ⟨w.heap.size,0,none⟩ = some (.slice A0_0 l0_0.length c0_0) ∧ W.cell? ⟨w.heap.size,1,none⟩ = some (.slice A0_1 l0_1.length c0_1) ∧ W.cell? ⟨w.heap.size,2,none⟩ = some (.int .i64 a0_2) ∧ W.cell? ⟨w.heap.size,3,none⟩ = some (.int .i64 a0_3) ∧ W.cell? ⟨w.heap.size,4,none⟩ = some (.slice A0_4 l0_4.length c0_4))
     (first | exact HC3.out _ H3L.out | exact HC3.out _ KB1.out | exact HC3.out _ (show Below w3.heap.size w3 w3.drew from below_drew1 (Below.refl _ w3)) | go_keep)
     (first
       | (go_at_call 27;(with_reducible refine (HFC.out w3.drew (below_drew1 HB03.out)).mono ?_);rintro e wf ⟨vf,rfl,hSf,hbf⟩;obtain ⟨Af,cf,rfl⟩ := Kd.S_slice hSf;have HSF:=Aside0.mk (Kd.S_bound hSf);have H3F : Aside0 (Below w3.heap.size w3 wf) := ⟨((show Below w3.heap.size w3 w3.drew from below_drew1 (Below.refl _ w3))).trans (hbf.mono ((show Below w3.heap.size w3 w3.drew from below_drew1 (Below.refl _ w3))).size)⟩;have KB1:=H3F;clear hSf hbf q0 q1 q2 q3 q4)
       | (go_at_call 27;(with_reducible refine (HFC.out we (HB03.out.trans (H3E.out.mono HB03.out.size))).mono ?_);rintro e wf ⟨vf,rfl,hSf,hbf⟩;obtain ⟨Af,cf,rfl⟩ := Kd.S_slice hSf;have HSF:=Aside0.mk (Kd.S_bound hSf);have H3L : Aside0 (Below w3.heap.size w3 wf) := ⟨(H3E.out).trans (hbf.mono (H3E.out).size)⟩;have CF : Aside0 (Kd.S (Kd.slice 4 Kd.bool) 65 wf w.heap.size (fun k => w3.heap.size ≤ k) (.slice Af f.length cf) f) := ⟨Kd.S_lower (Kd.S_mono HSF.out (fun k hk => Nat.le_trans (H3E.out).size hk.2.1)) (Nat.le_trans HB03.out.size (H3E.out).size)⟩;have CE : Aside0 (Kd.R Kd.bool 4 wf w.heap.size (fun k => w3.heap.size ≤ k) (.slice Ae em.length ce) em) := ⟨Kd.R_lower (Kd.R_mono (Kd.R_below HRE.out hbf) (fun k hk => hk.2.1)) HB03.out.size⟩;clear hSf hbf)
       | (go_at_call 28;(with_reducible refine (HEC.out w3.drew (below_drew1 HB03.out)).mono ?_);rintro e we ⟨ve,rfl,hRe,hbe⟩;obtain ⟨Ae,ce,rfl⟩ := Kd.R_slice hRe;have HRE:=Aside0.mk (Kd.R_bound hRe);have H3E : Aside0 (Below w3.heap.size w3 we) := ⟨((show Below w3.heap.size w3 w3.drew from below_drew1 (Below.refl _ w3))).trans (hbe.mono ((show Below w3.heap.size w3 w3.drew from below_drew1 (Below.refl _ w3))).size)⟩;have KB1:=H3E;clear hRe hbe q0 q1 q2 q3 q4)
       | (go_at_call 28;(with_reducible refine (HEC.out wf (HB03.out.trans (H3F.out.mono HB03.out.size))).mono ?_);rintro e we ⟨ve,rfl,hRe,hbe⟩;obtain ⟨Ae,ce,rfl⟩ := Kd.R_slice hRe;have HRE:=Aside0.mk (Kd.R_bound hRe);have H3L : Aside0 (Below w3.heap.size w3 we) := ⟨(H3F.out).trans (hbe.mono (H3F.out).size)⟩;have CE : Aside0 (Kd.R Kd.bool 4 we w.heap.size (fun k => w3.heap.size ≤ k) (.slice Ae em.length ce) em) := ⟨Kd.R_lower (Kd.R_mono HRE.out (fun k hk => Nat.le_trans (H3F.out).size hk.2.1)) (Nat.le_trans HB03.out.size (H3F.out).size)⟩;have CF : Aside0 (Kd.S (Kd.slice 4 Kd.bool) 65 we w.heap.size (fun k => w3.heap.size ≤ k) (.slice Af f.length cf) f) := ⟨Kd.S_lower (Kd.S_mono (Kd.S_below HSF.out hbe) (fun k hk => hk.2.1)) HB03.out.size⟩;clear hRe hbe))
   all_goals
     go_wp2_with fail
     go_meet
     case rel => exact ⟨Af,cf,Ae,ce,rfl,rfl,H3L,CF,CE⟩
  case rest =>
   obtain ⟨Af,cf,Ae,ce,rfl,rfl,H35,CF,CE⟩ := hcut
   obtain ⟨w5,ew5⟩ : ∃ w5 : World,w5 = wc:=⟨_,rfl⟩
   subst ew5
   have HI0 : Aside0 (RFollowI w w5 w1.heap.size w3.heap.size Ao co m0.length m0 w5) := ⟨⟨HB03.out.trans (H35.out.mono HB03.out.size),Kd.S_below HS3.out H35.out,Kept.refl _ _,H35.out.size⟩⟩
   have HC5 : Aside0 (∀ W,Kept w5 W (fun k => w1.heap.size ≤ k ∧ k < w3.heap.size) → W.cell? ⟨w.heap.size,0,none⟩ = some (.slice A0_0 l0_0.length c0_0) ∧ W.cell? ⟨w.heap.size,1,none⟩ = some (.slice A0_1 l0_1.length c0_1) ∧ W.cell? ⟨w.heap.size,2,none⟩ = some (.int .i64 a0_2) ∧ W.cell? ⟨w.heap.size,3,none⟩ = some (.int .i64 a0_3) ∧ W.cell? ⟨w.heap.size,4,none⟩ = some (.slice A0_4 l0_4.length c0_4)) := ⟨fun W hk => by
    obtain ⟨a0,a1,a2,a3,a4⟩ := HC.out w5 (HB3.out.trans (H35.out.mono (by have:=HB3.out.size;simpa using this)))
    have hn : ¬ (w1.heap.size ≤ w.heap.size ∧ w.heap.size < w3.heap.size) := by have:=SZ3.out;omega
    exact ⟨cell_kept a0 hk hn,cell_kept a1 hk hn,cell_kept a2 hk hn,cell_kept a3 hk hn,cell_kept a4 hk hn⟩⟩
   have H35S : Aside0 (w3.heap.size ≤ w5.heap.size) := ⟨H35.out.size⟩
   clear HA1 HM0 HF HE HFC HEC q0 q1 q2 q3 q4
   go_upto_if 23 with fail
   go_cut [] from 12 (fun w6 => Aside0 (RFollowI w w5 w1.heap.size w3.heap.size Ao co m0.length out0 w6))
   case first =>
    by_cases hpos : 0 < m0.length
    · have hg : decide (0 < m0.length) = true:=decide_eq_true hpos
      rw [hg]
      have H0:=HO0.out
      unfold rFollow0 at H0
      rw [if_pos hpos] at H0
      split at H0
      case isFalse => simp at H0
      rename_i hnt
      obtain rfl:=Option.some.inj H0
      obtain ⟨go,vr,P,eA,hcell,hRow,hP,hback⟩ := S_row rfl HI0.out.r 0 (by omega) (by omega)
      cases eA
      rw [show (0 : Int).toNat = 0 from rfl] at hRow hcell hback
      obtain ⟨gr,c7,hv,_,_,_⟩ := Kd.R_form hRow (by omega)
      subst hv
      obtain ⟨hx,hf⟩ := Kd.R_celln false hRow (l0_1.length : Int) (by omega) (by omega)
      have hput:=Kd.R_putg hRow (l0_1.length : Int) true
      rw [Int.toNat_natCast] at hx hf hput
      have hPgr : P gr:=hRow.1 gr (by simp [Value.ownBlock])
      have HGR:=Aside0.mk (hP gr hPgr)
      have hKs : Kept w5 (w5.setCell ⟨gr,l0_1.length,none⟩ (.bool true)) P:=Kept.setCell (Kept.refl _ _) (.inl hPgr) _
      have hS6:=hback _ P _ hKs hput.1
      have HFS : Aside0 (RFollowI w w5 w1.heap.size w3.heap.size (some ⟨go,0,none⟩) co m0.length (m0.set 0 ((m0.getD 0 []).set l0_1.length true)) (w5.setCell ⟨gr,l0_1.length,none⟩ (.bool true))) := ⟨⟨below_set HI0.out.bel (show w.heap.size ≤ gr from by have:=HGR.out.1.1;have:=SZ3.out;omega),hS6,Kept.mono hKs (fun k hk => (hP k hk).1),by simpa using HI0.out.h⟩⟩
      have hne1 : go ≠ gr:=fun e => HGR.out.2 e.symm
      have hne3 : w.heap.size ≠ gr:=by have:=HGR.out.1.1;have:=SZ3.out;omega
      obtain ⟨q0,q1,q2,q3,q4⟩ := HC5.out w5 (Kept.refl _ _)
      have KEND:=Aside0.mk (show _ ∧ _ from ⟨cell_kept q1 (Kept.drew (Kept.setCell (Kept.refl w5 (fun k => k = gr)) (p:=⟨gr,l0_1.length,none⟩) (.inl rfl) (.bool true))) hne3,cell_kept hcell (Kept.drew (Kept.setCell (Kept.refl w5 (fun k => k = gr)) (p:=⟨gr,l0_1.length,none⟩) (.inl rfl) (.bool true))) hne1⟩)
      generalize hlr : (m0.getD 0 []).length = lr at hcell hnt KEND
      have p1 : ((l0_1.length : Int) < (lr : Int)) = True:=eq_true (by omega)
      have p2 : (0 ≤ (l0_1.length : Int)) = True:=eq_true (by omega)
      have p3 : ((0 : Int) < (m0.length : Int)) = True:=eq_true (by omega)
      have p4 : (0 < m0.length) = True:=eq_true hpos
      have p5 : (l0_1.length < lr) = True:=eq_true hnt
      clear hRow hback hput hPgr hKs hS6 hP hpos H0 hnt hlr
      go_upto_region 6 with fail
      go_region_held3 (fun W => W.cell? ⟨w.heap.size,1,none⟩ = some (.slice A0_1 l0_1.length c0_1) ∧ W.cell? ⟨go,0,none⟩ = some (.slice (some ⟨gr,0,none⟩) lr c7))
        (first | exact KEND.out | go_keep)
        (fail)
      go_wp2_with fail
      go_meet
      case rel => exact ⟨HFS.out.below (below_drew1 (Below.refl _ _))⟩
    · have hg : decide (0 < m0.length) = false:=decide_eq_false hpos
      rw [hg]
      have H0:=HO0.out
      unfold rFollow0 at H0
      rw [if_neg hpos] at H0
      obtain rfl:=Option.some.inj H0
      clear H0
      go_wp2_with fail
      go_meet
      case rel => exact HI0
   case rest =>
    obtain ⟨w6,ew6⟩ : ∃ w6 : World,w6 = wc:=⟨_,rfl⟩
    subst ew6
    have HI6:=hcut
    have HOUT:=HOUT
    clear hcut HI0 HS3 HO0 HRT H35
    go_wp2
    go_loopg [6] k (fun kq v6 wr => ∃ (more : Bool) (out' : List (List Bool)),v6 = .bool more ∧ Aside0 (rFollowOut k l0_0 l0_1 a0_2 a0_3 l0_4 f em kq out' more = some out) ∧ Aside0 (RFollowI w w5 w1.heap.size w3.heap.size Ao co m0.length out' wr))
    case atStart => exact ⟨true,out0,rfl,HOUT,HI6⟩
    case round =>
     clear HOUT HI6
     obtain ⟨more,out',rfl,HA,HI⟩ := hrel
     cases gk with
     | zero => exact absurd HA.out (by simp [rFollowOut])
     | succ k1 =>
      have H:=HA.out
      clear HA
      simp only [rFollowOut] at H
      cases more with
      | false =>
       obtain rfl:=Option.some.inj (by simpa using H)
       clear H
       have hN:=(Kd.S_reads' HI.out.r).1
       rw [hN]
       go_wp2_with (go_at_call 31;(with_reducible refine (regletref13_lists.calls k Ao co out' r _ (by have:=(Kd.S_reads' HI.out.r).2.2;exact this) (by have:=(Kd.S_reads' HI.out.r).2.1;omega) HL.out).mono ?_);rintro e w8 ⟨v8,rfl,hS8,hb8⟩;have HS8:=Aside0.mk hS8;have HB8:=Aside0.mk hb8;clear hS8 hb8)
       go_ret
       exact ⟨_,rfl,Kd.S_lower HS8.out HI.out.bel.size,HI.out.bel.trans (HB8.out.mono HI.out.bel.size)⟩
      | true =>
       rw [if_pos rfl] at H
       obtain ⟨⟨mr,outr⟩,h1,h2⟩ := Option.bind_eq_some_iff.1 H
       clear H
       have H1:=Aside0.mk h1
       have H2:=Aside0.mk h2
       clear h1 h2
       go_wp2
       obtain ⟨wo,ewo⟩ : ∃ wo : World,wo = wr:=⟨_,rfl⟩
       subst ewo
       go_loopg [6,7] l0_4.length (fun kq v6 v7 wr => ∃ (more : Bool) (i : Nat) (out' : List (List Bool)),v6 = .bool more ∧ v7 = .int .i64 i ∧ i ≤ l0_4.length ∧ l0_4.length - i ≤ kq ∧ Aside0 (rFollowPs k l0_0 l0_1 a0_2 a0_3 l0_4 f em (l0_4.drop i) more out' = some (mr,outr)) ∧ Aside0 (RFollowI w w5 w1.heap.size w3.heap.size Ao co m0.length out' wr))
       case atStart => exact ⟨false,0,out',rfl,rfl,by omega,by omega,⟨by simpa using H1.out⟩,HI⟩
       case round =>
        clear H1 HI
        obtain ⟨more,i,out',rfl,rfl,hi,hm,HA,HI⟩ := hrel
        obtain ⟨q0,q1,q2,q3,q4⟩ := HC5.out wr HI.out.k
        by_cases hlt : i < l0_4.length
        · have hltz : (i : Int) < (l0_4.length : Int) := by omega
          have d0 : decide ((i : Int) < (l0_4.length : Int)) = true:=decide_eq_true hltz
          have H:=HA.out
          rw [List.drop_eq_getElem_cons hlt] at H
          simp only [rFollowPs] at H
          obtain ⟨⟨mi,outi⟩,h1,h3⟩ := Option.bind_eq_some_iff.1 H
          clear H HA
          obtain ⟨ad,A5,c5,ead,e0,e1,hle5,hC5⟩ := at_T30 hr0_4 (i : Int) (by omega) hltz
          have hlen:=of_decide_eq_true (List.all_eq_true.1 HSZ.out.2 (l0_4[i]) (List.getElem_mem hlt))
          have hrd : rd_T30 l0_4 (i : Int) = l0_4[i] := by simp [rd_T30,hlt]
          rw [hrd] at e0 e1 hle5 hC5
          rw [Int.toNat_natCast] at e0 e1
          have B0:=World.block_lt_of_cell? w _ e0
          have B1:=World.block_lt_of_cell? w _ e1
          have hp : ∃ p,p = l0_4[i] := ⟨_,rfl⟩
          obtain ⟨p,hp⟩ := hp
          rw [← hp] at h1 e0 e1 hle5 hC5 hlen
          obtain ⟨left,right⟩ := p
          clear hp hrd
          simp only at h1 e0 e1 hle5 hC5 hlen
          have AT : Aside0 (∀ W : World,Below w.heap.size w W → W.cell? (ad.add (i * 2)) = some (.int .i64 left) ∧ W.cell? ⟨(ad.add (i * 2)).block,(ad.add (i * 2)).off + 1,none⟩ = some (.slice A5 right.length c5)) := ⟨fun W hb => ⟨(hb.cell B0).trans e0,(hb.cell B1).trans e1⟩⟩
          have HCR:=Aside0.mk hC5
          have HH1:=Aside0.mk h1
          have HH3:=Aside0.mk h3
          have HLT:=Aside0.mk hlt
          have HM:=Aside0.mk hm
          have HLEN:=Aside0.mk hlen
          have HCAP:=Aside0.mk hle5
          have p0 : (0 ≤ (i : Int)) = True:=eq_true (by omega)
          have p1:=eq_true hltz
          clear h1 h3 hC5 e0 e1 B0 B1 hlt hm hi hltz hlen hle5
          obtain ⟨f0,f1⟩ := AT.out wr HI.out.bel
          cases ead
          go_wp2
          go_loopg [6,9] right.length (fun kq v6 v9 wr => ∃ (more : Bool) (j : Nat) (out' : List (List Bool)),v6 = .bool more ∧ v9 = .int .i64 j ∧ j ≤ right.length ∧ right.length - j ≤ kq ∧ Aside0 (rFollowIn k l0_0 l0_1 a0_2 a0_3 l0_4 f em left (right.drop j) more out' = some (mi,outi)) ∧ Aside0 (RFollowI w w5 w1.heap.size w3.heap.size Ao co m0.length out' wr))
          case atStart => exact ⟨more,0,out',rfl,rfl,by omega,by omega,⟨by simpa using HH1.out⟩,HI⟩
          case round =>
           clear HH1 HI f0 f1 q0 q1 q2 q3 q4
           obtain ⟨more,j,out',rfl,rfl,hj,hm,HA,HI⟩ := hrel
           obtain ⟨q0,q1,q2,q3,q4⟩ := HC5.out wr HI.out.k
           by_cases hlt : j < right.length
           · have hltz : (j : Int) < (right.length : Int) := by omega
             have d1 : decide ((j : Int) < (right.length : Int)) = true:=decide_eq_true hltz
             have H:=HA.out
             rw [List.drop_eq_getElem_cons hlt] at H
             simp only [rFollowIn] at H
             obtain ⟨ad5,ea5,e0,e1⟩ := at_T53 HCR.out (j : Int) (by omega) hltz
             cases ea5
             have hrd : rd_T53 right (j : Int) = right[j] := by simp [rd_T53,hlt]
             rw [hrd] at e0 e1
             rw [Int.toNat_natCast] at e0 e1
             generalize right[j] = y at H e0 e1
             obtain ⟨tk,n⟩ := y
             simp only at H e0 e1
             have B0:=World.block_lt_of_cell? w _ e0
             have B1:=World.block_lt_of_cell? w _ e1
             have AT5 : Aside0 (∀ W : World,Below w.heap.size w W → W.cell? (ad5.add (j * 2)) = some (.bool tk) ∧ W.cell? ⟨(ad5.add (j * 2)).block,(ad5.add (j * 2)).off + 1,none⟩ = some (.int .i64 n)) := ⟨fun W hb => ⟨(hb.cell B0).trans e0,(hb.cell B1).trans e1⟩⟩
             have p2 : (0 ≤ (j : Int)) = True:=eq_true (by omega)
             have p3:=eq_true hltz
             have HLT5:=Aside0.mk hlt
             have HM5:=Aside0.mk hm
             clear hlt hltz hj hm hrd HA e0 e1 B0 B1
             obtain ⟨f0,f1⟩ := AT5.out wr HI.out.bel
             cases tk with
             | true =>
              rw [if_pos rfl] at H
              have HN:=Aside0.mk H
              clear H
              go_wp2
              go_roundg (right.length - (j + 1))
              case measure => have:=HM5.out;have:=HLT5.out;omega
              case rel => exact ⟨more,j + 1,out',rfl,congrArg (Value.int .i64) (by unfold wrap64;have:=HLT5.out;have:=HLEN.out;omega),by have:=HLT5.out;omega,Nat.le_refl _,HN,HI⟩
             | false =>
              rw [if_neg (by simp)] at H
              obtain ⟨⟨m1,me⟩,hbg,H2⟩ := Option.bind_eq_some_iff.1 H
              obtain ⟨m2,hjf,H3⟩ := Option.bind_eq_some_iff.1 H2
              obtain ⟨⟨mb,out1⟩,hjr,HN⟩ := Option.bind_eq_some_iff.1 H3
              clear H H2 H3
              simp only at hbg hjf hjr HN
              have HNX:=Aside0.mk HN
              have HJR:=Aside0.mk hjr
              clear HN hjr
              have hwr : IntKind.i64.wrap ((j : Int) + 1) = (j : Int) + 1:=by rw [IntKind.wrap_i64];have:=HLT5.out;have:=HLEN.out;omega
              obtain ⟨i0,hi0,_,hsz,_⟩ := info_parts infoSymR
              have hcut:=cut_from (P:=Try.prog) 28 53 .i64 Try.underlying28 hi0 2 hsz (some ad5) right.length c5 ((j : Int) + 1) (by omega) (by have:=HLT5.out;omega)
              rw [show ((j : Int) + 1).toNat = j + 1 by omega,← List.length_drop] at hcut
              have HCY : Aside0 (∀ W',Below w.heap.size w W' → Kd.C k53 W' (if c5 = j + 1 then some ad5 else (some ad5).map (·.add ((j + 1) * 2))) (right.drop (j + 1)).length (right.drop (j + 1))) := ⟨fun W' hk => Kd.C_drop (Kd.C_below HCR.out hk) HLT5.out HCAP.out⟩
              generalize (if c5 = j + 1 then some ad5 else (some ad5).map (·.add ((j + 1) * 2))) = A' at hcut HCY
              have hbw : Below w.heap.size w wr.drew:=below_drew1 HI.out.bel
              have hcon:=regletref13_begins.calls k A0_0 c0_0 l0_0 A0_1 c0_1 l0_1 a0_2 a0_3 (some ad) c0_4 l0_4 A' (c5 - (j + 1)) (right.drop (j + 1)) Af cf f Ae ce em m1 me wr.drew (Kd.C_below hr0_0 hbw) hc0_0 (Kd.C_below hr0_1 hbw) hc0_1 (Kd.C_below hr0_4 hbw) hc0_4 (HCY.out _ hbw) (by rw [List.length_drop];have:=HCAP.out;omega) (Kd.C_kept_own (S:=fun k => w1.heap.size ≤ k ∧ k < w3.heap.size) (Kd.S_R CF.out) (fun k hk h2 => by have:=hk;omega) _ (Kept.drew HI.out.k)) (Kd.S_reads' CF.out).2.1 (Kd.C_kept_own (S:=fun k => w1.heap.size ≤ k ∧ k < w3.heap.size) CE.out (fun k hk h2 => by have:=hk;omega) _ (Kept.drew HI.out.k)) (Kd.R_reads' CE.out).2.1 hbg
              rw [List.length_drop] at hcon
              have HCON:=Aside0.mk hcon
              clear hcon hbg hi0 hsz hbw
              have KEEP : Aside0 (∀ W : World,Below wr.heap.size wr W → W.cell? ⟨w.heap.size,0,none⟩ = some (.slice A0_0 l0_0.length c0_0) ∧ W.cell? ⟨w.heap.size,1,none⟩ = some (.slice A0_1 l0_1.length c0_1) ∧ W.cell? ⟨w.heap.size,2,none⟩ = some (.int .i64 a0_2) ∧ W.cell? ⟨w.heap.size,3,none⟩ = some (.int .i64 a0_3) ∧ W.cell? ⟨w.heap.size,4,none⟩ = some (.slice (some ad) l0_4.length c0_4)) := ⟨fun W hb => HC5.out W (HI.out.k.below hb)⟩
              have HJF:=Aside0.mk hjf
              clear hjf
              go_wp2
              go_region_held3 (fun W => W.cell? ⟨w.heap.size,0,none⟩ = some (.slice A0_0 l0_0.length c0_0) ∧ W.cell? ⟨w.heap.size,1,none⟩ = some (.slice A0_1 l0_1.length c0_1) ∧ W.cell? ⟨w.heap.size,2,none⟩ = some (.int .i64 a0_2) ∧ W.cell? ⟨w.heap.size,3,none⟩ = some (.int .i64 a0_3) ∧ W.cell? ⟨w.heap.size,4,none⟩ = some (.slice (some ad) l0_4.length c0_4))
                (first | go_keep | exact KEEP.out _ KB.out)
                (first | (go_at_call 29;(with_reducible refine HCON.out.mono ?_);rintro e w2 ⟨v2,rfl,hR2,hb2⟩;obtain ⟨A2,c2,rfl⟩ := Kd.R_slice hR2;have HR2:=Aside0.mk hR2;have KB : Aside0 (Below wr.heap.size wr w2) := ⟨(below_drew1 (Below.refl _ _)).trans hb2⟩;clear hR2 hb2 q0 q1 q2 q3 q4))
              have HI2:=Aside0.mk (HI.out.below KB.out)
              have HR3 : Aside0 (Kd.R Kd.bool 4 w2 w.heap.size (fun k => wr.heap.size ≤ k) (.slice A2 m1.length c2) m1) := ⟨Kd.R_lower (Kd.R_mono (Kd.R_bound HR2.out) (fun k hk => hk.2.1)) (show w.heap.size ≤ wr.heap.size from HI.out.bel.size)⟩
              have HHI : Aside0 (w3.heap.size ≤ wr.heap.size) := ⟨HI.out.h⟩
              have HBW : Aside0 (wr.heap.size ≤ w2.heap.size) := ⟨KB.out.size⟩
              have HKS : Aside0 (w5.heap.size ≤ wr.heap.size) := ⟨HI.out.k.1⟩
              have HJF0:=HJF.out
              have LEN : Aside0 ((m0.length : Int) = (out'.length : Int)) := ⟨by have:=(Kd.S_reads' HI.out.r).1;omega⟩
              clear HCON HR2 hcut HCY f0 f1
              cases me with
              | false =>
               unfold rJoinFrom at HJF0
               rw [if_neg (by simp)] at HJF0
               obtain rfl:=Option.some.inj HJF0
               clear HJF0 HJF
               obtain ⟨go,A4,c4,m4,hn0,hn1,eAo,hcell,hlen1,hcon⟩ := rjoin_row k w w5 w2 w1.heap.size w3.heap.size Ao co m0.length out' out1 HI2.out n m1 m1.length mb wr.heap.size HHI.out A2 c2 HR3.out HJR.out
               cases eAo
               have HCON2:=Aside0.mk hcon
               have p6:=eq_true hn0
               have p7 : (n < (m0.length : Int)) = True:=eq_true (by rw [LEN.out];exact hn1)
               have y2:=(AT5.out w2 HI2.out.bel).2
               clear hcon hn0 hn1
               cases mb
               all_goals
                 go_wp2_with (go_at_call 30;(with_reducible refine HCON2.out.mono ?_);rintro e w4 ⟨rfl,hI4,hK4⟩)
                 go_roundg (right.length - (j + 1))
                 case measure => have:=HM5.out;have:=HLT5.out;omega
                 case rel => exact ⟨_,j + 1,out1,rfl,congrArg (Value.int .i64) (by first | rfl | (unfold wrap64;have:=HLT5.out;have:=HLEN.out;omega)),by have:=HLT5.out;omega,Nat.le_refl _,HNX,hI4⟩
              | true =>
               unfold rJoinFrom at HJF0
               rw [if_pos rfl] at HJF0
               split at HJF0
               case isFalse => simp at HJF0
               rename_i hl0
               split at HJF0
               case isFalse => simp at HJF0
               rename_i hl1
               obtain ⟨⟨jb,jm⟩,hjj,HJ2⟩ := Option.bind_eq_some_iff.1 HJF0
               obtain rfl:=Option.some.inj HJ2
               simp only at HJR HNX hjj
               obtain ⟨go,A4,c4,m4,eAo,hcell,hcon⟩ := rjoin_from k w w5 w2 w1.heap.size w3.heap.size Ao co m0.length out' HI2.out left hl0 hl1 m1 jm jb wr.heap.size HKS.out H35S.out HBW.out A2 c2 HR3.out hjj
               cases eAo
               have HCON:=Aside0.mk hcon
               have p8:=eq_true hl0
               have p9 : (left < (m0.length : Int)) = True:=eq_true (by rw [LEN.out];exact hl1)
               obtain ⟨x0,_⟩ := AT.out w2 HI2.out.bel
               obtain ⟨q0,q1,q2,q3,q4⟩ := HC5.out w2 HI2.out.k
               clear hcon hl0 hl1 HJF0 HJ2 hjj HJF q0 q1 q2 q3
               go_upto_region 21 with (go_at_call 30;(with_reducible refine HCON.out.mono ?_);rintro e w6 ⟨rfl,HI6,HR6,HK6⟩)
               clear hcell x0 q4
               obtain ⟨go2,A7,c7,m7,hn0,hn1,eAo,hcell,hlen1,hcon⟩ := rjoin_row k w w5 w6 w1.heap.size w3.heap.size (some ⟨go,0,none⟩) co m0.length out' out1 HI6.out n jm m1.length mb wr.heap.size HHI.out A2 c2 HR6.out HJR.out
               obtain rfl : go = go2:=by injection eAo with eAo;injection eAo
               have HCON2:=Aside0.mk hcon
               have p6:=eq_true hn0
               have p7 : (n < (m0.length : Int)) = True:=eq_true (by rw [LEN.out];exact hn1)
               have y2:=(AT5.out w6 HI6.out.bel).2
               clear hcon hn0 hn1
               cases mb
               all_goals
                 go_wp2_with (go_at_call 30;(with_reducible refine HCON2.out.mono ?_);rintro e w4 ⟨rfl,hI4,hK4⟩)
                 go_roundg (right.length - (j + 1))
                 case measure => have:=HM5.out;have:=HLT5.out;omega
                 case rel => exact ⟨_,j + 1,out1,rfl,congrArg (Value.int .i64) (by first | rfl | (unfold wrap64;have:=HLT5.out;have:=HLEN.out;omega)),by have:=HLT5.out;omega,Nat.le_refl _,HNX,hI4⟩
           · have hir : j = right.length:=by omega
             subst hir
             have d1 : decide ((right.length : Int) < (right.length : Int)) = false:=decide_eq_false (by omega)
             have H:=HA.out
             rw [List.drop_length] at H
             simp only [rFollowIn] at H
             obtain ⟨rfl,rfl⟩ := Prod.mk.inj (Option.some.inj H)
             clear H HA
             go_wp2
             go_roundg (l0_4.length - (i + 1))
             case measure => have:=HM.out;have:=HLT.out;omega
             case rel => exact ⟨_,i + 1,_,rfl,congrArg (Value.int .i64) (by unfold wrap64;have:=HLT.out;have:=HSZ.out.1;omega),by have:=HLT.out;omega,Nat.le_refl _,HH3,HI⟩
        · have hir : i = l0_4.length:=by omega
          subst hir
          have d0 : decide ((l0_4.length : Int) < (l0_4.length : Int)) = false:=decide_eq_false (by omega)
          have H:=HA.out
          rw [List.drop_length] at H
          simp only [rFollowPs] at H
          obtain ⟨rfl,rfl⟩ := Prod.mk.inj (Option.some.inj H)
          clear H HA
          go_wp2
          go_roundg k1
          case measure => omega
          case rel => exact ⟨_,_,rfl,H2,HI⟩
end Go.Proofs.Ytfdcfihcfegekaa.P
end
