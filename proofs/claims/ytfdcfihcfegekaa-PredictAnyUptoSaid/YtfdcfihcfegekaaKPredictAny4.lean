/- Packed texts of this claim: the walks of the functions, and their plain laws; see the claim's last text. -/
import Derived.Below
import Derived.WalkKit
import Derived.Deep.LoopGhost
import Derived.Shelf.Abstract
import Derived.Deep.QuietTactic
import Derived.BigQuiet
import Derived.Deep.RegionHeld3
import Derived.WalkSpells
import Derived.Deep.Cut
import Derived.Test.YtfdcfihcfegekaaKPredictAny3
section
namespace Go.Proofs.Ytfdcfihcfegekaa.P
open Go.RowKit Go.Proofs.YtfdcfihcfegekaaW.PrintWords Go.Proofs.YtfdcfihcfegekaaW.PrintLast Go.Proofs.YtfdcfihcfegekaaW.PrintMore
set_option linter.unusedVariables false
set_option linter.unusedSimpArgs false
def okSym (nn nt : Nat) (x : S53) : Bool:=decide (0 ≤ x.f1) && (if x.f0 = true then decide (x.f1 < (nt : Int)) else decide (x.f1 < (nn : Int)))
def okProd (nn nt : Nat) (x : S30) : Bool:=decide (0 ≤ x.f0) && decide (x.f0 < (nn : Int)) && x.f1.all (okSym nn nt)
theorem symbols1_any (x : S53) (B : Nat) (W : World) (A0 A1 : Option Addr) (n0 n1 c0 c1 : Nat)
    (h0 : W.cell? ⟨B,0,none⟩ = some (.slice A0 n0 c0)) (h1 : W.cell? ⟨B,1,none⟩ = some (.slice A1 n1 c1)) (hB : B < W.heap.size) :
    Calls Try.prog 42 #[.agg #[.bool x.f0,.int .i64 x.f1],.pointer (some ⟨B,0,none⟩)] W fun e w' => e = .returned (.bool (!okSym n0 n1 x)) ∧ Below W.heap.size W w' := by
 have hne : B ≠ W.heap.size:=by omega
 obtain ⟨b,n⟩ := x
 unfold okSym
 by_cases c0 : n < 0
 · have d0 : decide (n < 0) = true:=decide_eq_true c0
   have d1 : decide (0 ≤ n) = false:=decide_eq_false (by omega)
   cases b <;> (go_enter Try.func42,Try.ntmps42;go_wp2;go_ret;exact ⟨rfl,(Below.refl _ W).alloc (Nat.le_refl _) _⟩)
 have d0 : decide (n < 0) = false:=decide_eq_false c0
 have d1 : decide (0 ≤ n) = true:=decide_eq_true (by omega)
 cases b with
 | true =>
  by_cases c2 : (n1 : Int) ≤ n
  · have d2 : decide ((n1 : Int) ≤ n) = true:=decide_eq_true c2
    have d3 : decide (n < (n1 : Int)) = false:=decide_eq_false (by omega)
    go_enter Try.func42,Try.ntmps42
    go_wp2
    go_ret
    exact ⟨rfl,(Below.refl _ W).alloc (Nat.le_refl _) _⟩
  · have d2 : decide ((n1 : Int) ≤ n) = false:=decide_eq_false c2
    have d3 : decide (n < (n1 : Int)) = true:=decide_eq_true (by omega)
    go_enter Try.func42,Try.ntmps42
    go_wp2
    go_ret
    exact ⟨rfl,(Below.refl _ W).alloc (Nat.le_refl _) _⟩
 | false =>
  by_cases c2 : (n0 : Int) ≤ n
  · have d2 : decide ((n0 : Int) ≤ n) = true:=decide_eq_true c2
    have d3 : decide (n < (n0 : Int)) = false:=decide_eq_false (by omega)
    go_enter Try.func42,Try.ntmps42
    go_wp2
    go_ret
    exact ⟨rfl,(Below.refl _ W).alloc (Nat.le_refl _) _⟩
  · have d2 : decide ((n0 : Int) ≤ n) = false:=decide_eq_false c2
    have d3 : decide (n < (n0 : Int)) = true:=decide_eq_true (by omega)
    go_enter Try.func42,Try.ntmps42
    go_wp2
    go_ret
    exact ⟨rfl,(Below.refl _ W).alloc (Nat.le_refl _) _⟩
theorem indexSym_any (p : S53 → Bool) (g : Nat) (lb : Array Value) (eg : ∀ args w,(callFunc g args).run Try.prog w = .ok (.enter g args) w) (A : Option Addr) (c : Nat) (zs : List S53) (w : World)
    (hr : Kd.C k53 w A zs.length zs) (hbig : zs.length ≤ 9223372036854775807) (hp : ∀ (W : World) (x : S53),x ∈ zs → Below w.heap.size w W → Calls Try.prog g (#[.agg #[.bool x.f0,.int .i64 x.f1]] ++ lb) W fun e w' => e = .returned (.bool (p x)) ∧ Below w.heap.size w w') :
    Calls Try.prog 51 #[.slice A zs.length c,.func (.func g) #[] lb] w fun e w' => (∃ n : Int,e = .returned (.int .i64 n) ∧ Aside0 (decide (0 ≤ n) = zs.any p)) ∧ Below w.heap.size w w' := by
 go_enter Try.func51,Try.ntmps51
 go_wp2
 go_loopg [5,8] zs.length (fun gg _ s8 wr => ∃ kk : Nat,kk ≤ zs.length ∧ zs.length - kk ≤ gg ∧ s8 = .int .i64 kk ∧ Aside0 (Below w.heap.size w wr) ∧ Aside0 ((zs.take kk).any p = false))
 case atStart => exact ⟨0,Nat.zero_le _,by omega,rfl,⟨Below.refl _ w⟩,⟨by simp⟩⟩
 case round =>
  obtain ⟨kk,hkk,hg,rfl,BW,PA⟩ := hrel
  by_cases hlt : kk < zs.length
  · have hltz : (kk : Int) < (zs.length : Int) := by omega
    have hrd : rd_T53 zs (kk : Int) = zs[kk] := by simp [rd_T53,hlt]
    obtain ⟨ad,e,l0,l1⟩ := at_T53 (Kd.C_below hr BW.out) (kk : Int) (by omega) (by omega)
    have hcall:=hp wr zs[kk] (List.getElem_mem hlt) BW.out
    rw [hrd,Int.toNat_natCast] at l0 l1
    subst e
    have PB : Aside0 ((zs.take (kk + 1)).any p = p zs[kk]) := ⟨by rw [List.take_succ_eq_append_getElem hlt,List.any_append,PA.out];simp⟩
    have PC : Aside0 (zs.any p = (p zs[kk] || (zs.drop (kk + 1)).any p)) := ⟨by
     conv => lhs;rw [← List.take_append_drop (kk + 1) zs]
     rw [List.any_append,PB.out]⟩
    clear hp hr hrd
    generalize zs[kk] = y at l0 l1 hcall PB PC
    cases hq : p y with
    | true =>
     rw [hq] at hcall
     have PD : Aside0 (zs.any p = true) := ⟨by rw [PC.out,hq];simp⟩
     clear PA PB PC hq
     go_wp2_with (go_at_fn g;refine hcall.mono ?_;rintro e w' ⟨rfl,hb'⟩)
     go_ret
     exact ⟨⟨_,rfl,⟨by rw [PD.out];simp⟩⟩,hb'⟩
    | false =>
     rw [hq] at hcall
     have PD : Aside0 ((zs.take (kk + 1)).any p = false) := ⟨by rw [PB.out,hq]⟩
     clear PA PB PC hq
     go_wp2_with (go_at_fn g;refine hcall.mono ?_;rintro e w' ⟨rfl,hb'⟩)
     go_roundg (zs.length - (kk + 1))
     case measure => omega
     case rel => exact ⟨kk + 1,by omega,by omega,by go_num,⟨hb'⟩,PD⟩
  · have hltz : ¬ (kk : Int) < (zs.length : Int) := by omega
    have : kk = zs.length:=by omega
    subst this
    have PD : Aside0 (zs.any p = false) := ⟨by have:=PA.out;rwa [List.take_length] at this⟩
    clear PA hp hr
    go_wp2
    go_ret
    exact ⟨⟨-1,rfl,⟨by rw [PD.out];simp⟩⟩,BW.out⟩
theorem containsSym_any (p : S53 → Bool) (g : Nat) (lb : Array Value) (eg : ∀ args w,(callFunc g args).run Try.prog w = .ok (.enter g args) w) (A : Option Addr) (c : Nat) (zs : List S53) (w : World)
    (hr : Kd.C k53 w A zs.length zs) (hbig : zs.length ≤ 9223372036854775807) (hp : ∀ (W : World) (x : S53),x ∈ zs → Below w.heap.size w W → Calls Try.prog g (#[.agg #[.bool x.f0,.int .i64 x.f1]] ++ lb) W fun e w' => e = .returned (.bool (p x)) ∧ Below w.heap.size w w') :
    Calls Try.prog 41 #[.slice A zs.length c,.func (.func g) #[] lb] w fun e w' => e = .returned (.bool (zs.any p)) ∧ Below w.heap.size w w' := by
 have hcon:=indexSym_any p g lb eg A c zs w hr hbig hp
 have e6 : ∀ args w,(callFunc 51 args).run Try.prog w = .ok (.enter 51 args) w:=enters_of Try.func51 (by kernel_rfl) rfl
 clear hp hr
 go_enter Try.func41,Try.ntmps41
 go_wp2_with (go_at_fn 51;refine hcon.mono ?_;rintro e w' ⟨⟨nn_,rfl,hn_⟩,hb'⟩)
 go_ret
 exact ⟨by rw [← hn_.out];rfl,hb'⟩
theorem any_not {α : Type} (p : α → Bool) (l : List α) : (!l.any fun x => !p x) = l.all p:=by
 induction l with
 | nil => rfl
 | cons a l ih => simp only [List.any_cons,List.all_cons,← ih];cases p a <;> simp
def firsts_symbols.f (l0_0 : List ByteArray) (l0_1 : List (S61)) (a0_2 : Int) (a0_3 : Int) (l0_4 : List (S30)) (l1 : List (S53)) : Option Bool:=if l1.length ≤ 9223372036854775807 then some (l1.all (okSym l0_0.length l0_1.length)) else none
theorem firsts_symbols.calls (A0_0 : Option Addr) (c0_0 : Nat) (l0_0 : List ByteArray) (A0_1 : Option Addr) (c0_1 : Nat) (l0_1 : List (S61)) (a0_2 : Int) (a0_3 : Int) (A0_4 : Option Addr) (c0_4 : Nat) (l0_4 : List (S30)) (A1 : Option Addr) (c1 : Nat) (l1 : List (S53)) (r : Bool) (w : World)
    (hr0_0 : Kd.C Kd.string w A0_0 l0_0.length l0_0) (hc0_0 : l0_0.length ≤ c0_0) (hr0_1 : Kd.C k61 w A0_1 l0_1.length l0_1) (hc0_1 : l0_1.length ≤ c0_1) (hr0_4 : Kd.C k30 w A0_4 l0_4.length l0_4) (hc0_4 : l0_4.length ≤ c0_4) (hr1 : Kd.C k53 w A1 l1.length l1) (hc1 : l1.length ≤ c1)
    (h : firsts_symbols.f l0_0 l0_1 a0_2 a0_3 l0_4 l1 = some r) :
    Calls Try.prog 37 #[.agg #[.slice A0_0 l0_0.length c0_0,.slice A0_1 l0_1.length c0_1,.int .i64 a0_2,.int .i64 a0_3,.slice A0_4 l0_4.length c0_4],.slice A1 l1.length c1] w fun e w' => e = .returned (.bool r) ∧ Below w.heap.size w w' := by
 unfold firsts_symbols.f at h
 split at h
 case isFalse => simp at h
 rename_i hbig
 obtain rfl:=Option.some.inj h
 clear h
 have eg : ∀ args w,(callFunc 42 args).run Try.prog w = .ok (.enter 42 args) w:=enters_of Try.func42 (by kernel_rfl) rfl
 have e6 : ∀ args w,(callFunc 41 args).run Try.prog w = .ok (.enter 41 args) w:=enters_of Try.func41 (by kernel_rfl) rfl
 have HW : Aside0 (Below w.heap.size w (w.alloc (.cells #[.slice A0_0 l0_0.length c0_0,.slice A0_1 l0_1.length c0_1,.int .i64 a0_2,.int .i64 a0_3,.slice A0_4 l0_4.length c0_4] 26))) := ⟨(Below.refl _ w).alloc (Nat.le_refl _) _⟩
 have hcon:=containsSym_any (fun x => !okSym l0_0.length l0_1.length x) 42 #[.pointer (some ⟨w.heap.size,0,none⟩)] eg A1 c1 l1 (w.alloc (.cells #[.slice A0_0 l0_0.length c0_0,.slice A0_1 l0_1.length c0_1,.int .i64 a0_2,.int .i64 a0_3,.slice A0_4 l0_4.length c0_4] 26)) (Kd.C_below hr1 HW.out) hbig (fun W x _ hb => by
  have hlt : w.heap.size < (w.alloc (.cells #[.slice A0_0 l0_0.length c0_0,.slice A0_1 l0_1.length c0_1,.int .i64 a0_2,.int .i64 a0_3,.slice A0_4 l0_4.length c0_4] 26)).heap.size:=by simp
  refine (symbols1_any x w.heap.size W A0_0 A0_1 l0_0.length l0_1.length c0_0 c0_1 ?_ ?_ (Nat.lt_of_lt_of_le hlt hb.size)).mono ?_
  · exact (hb.cell (p:=⟨w.heap.size,0,none⟩) hlt).trans (by simp)
  · exact (hb.cell (p:=⟨w.heap.size,1,none⟩) hlt).trans (by simp)
  · rintro e w' ⟨he,hb'⟩
    exact ⟨he,hb.trans (hb'.mono hb.size)⟩)
 clear hr0_0 hr0_1 hr0_4 hr1
 rw [← any_not]
 generalize (l1.any fun x => !okSym l0_0.length l0_1.length x) = rr at hcon ⊢
 go_enter Try.func37,Try.ntmps37
 go_wp2_with (go_at_fn 41;refine hcon.mono ?_;rintro e w' ⟨rfl,hb'⟩)
 go_ret
 exact ⟨rfl,HW.out.trans (hb'.mono (by simp))⟩
theorem indexProd_any (p : S30 → Bool) (g : Nat) (lb : Array Value) (eg : ∀ args w,(callFunc g args).run Try.prog w = .ok (.enter g args) w) (A : Option Addr) (c : Nat) (zs : List S30) (w : World)
    (hr : Kd.C k30 w A zs.length zs) (hbig : zs.length ≤ 9223372036854775807) (hp : ∀ (W : World) (x : S30) (A1 : Option Addr) (c1 : Nat),x ∈ zs → Below w.heap.size w W → x.f1.length ≤ c1 → Kd.C k53 W A1 x.f1.length x.f1 → Calls Try.prog g (#[.agg #[.int .i64 x.f0,.slice A1 x.f1.length c1]] ++ lb) W fun e w' => e = .returned (.bool (p x)) ∧ Below w.heap.size w w') :
    Calls Try.prog 40 #[.slice A zs.length c,.func (.func g) #[] lb] w fun e w' => (∃ n : Int,e = .returned (.int .i64 n) ∧ Aside0 (decide (0 ≤ n) = zs.any p)) ∧ Below w.heap.size w w' := by
 go_enter Try.func40,Try.ntmps40
 go_wp2
 go_loopg [5,8] zs.length (fun gg _ s8 wr => ∃ kk : Nat,kk ≤ zs.length ∧ zs.length - kk ≤ gg ∧ s8 = .int .i64 kk ∧ Aside0 (Below w.heap.size w wr) ∧ Aside0 ((zs.take kk).any p = false))
 case atStart => exact ⟨0,Nat.zero_le _,by omega,rfl,⟨Below.refl _ w⟩,⟨by simp⟩⟩
 case round =>
  obtain ⟨kk,hkk,hg,rfl,BW,PA⟩ := hrel
  by_cases hlt : kk < zs.length
  · have hltz : (kk : Int) < (zs.length : Int) := by omega
    have hrd : rd_T30 zs (kk : Int) = zs[kk] := by simp [rd_T30,hlt]
    obtain ⟨ad,A1,c1,e,l0,l1,hle1,hC1⟩ := at_T30 (Kd.C_below hr BW.out) (kk : Int) (by omega) (by omega)
    have hcall:=hp wr zs[kk] A1 c1 (List.getElem_mem hlt) BW.out (by rw [← hrd];exact hle1) (by rw [← hrd];exact hC1)
    rw [hrd,Int.toNat_natCast] at l0 l1
    subst e
    have PB : Aside0 ((zs.take (kk + 1)).any p = p zs[kk]) := ⟨by rw [List.take_succ_eq_append_getElem hlt,List.any_append,PA.out];simp⟩
    have PC : Aside0 (zs.any p = (p zs[kk] || (zs.drop (kk + 1)).any p)) := ⟨by
     conv => lhs;rw [← List.take_append_drop (kk + 1) zs]
     rw [List.any_append,PB.out]⟩
    clear hp hr hrd hle1 hC1
    generalize zs[kk] = y at l0 l1 hcall PB PC
    cases hq : p y with
    | true =>
     rw [hq] at hcall
     have PD : Aside0 (zs.any p = true) := ⟨by rw [PC.out,hq];simp⟩
     clear PA PB PC hq
     go_wp2_with (go_at_fn g;refine hcall.mono ?_;rintro e w' ⟨rfl,hb'⟩)
     go_ret
     exact ⟨⟨_,rfl,⟨by rw [PD.out];simp⟩⟩,hb'⟩
    | false =>
     rw [hq] at hcall
     have PD : Aside0 ((zs.take (kk + 1)).any p = false) := ⟨by rw [PB.out,hq]⟩
     clear PA PB PC hq
     go_wp2_with (go_at_fn g;refine hcall.mono ?_;rintro e w' ⟨rfl,hb'⟩)
     go_roundg (zs.length - (kk + 1))
     case measure => omega
     case rel => exact ⟨kk + 1,by omega,by omega,by go_num,⟨hb'⟩,PD⟩
  · have hltz : ¬ (kk : Int) < (zs.length : Int) := by omega
    have : kk = zs.length:=by omega
    subst this
    have PD : Aside0 (zs.any p = false) := ⟨by have:=PA.out;rwa [List.take_length] at this⟩
    clear PA hp hr
    go_wp2
    go_ret
    exact ⟨⟨-1,rfl,⟨by rw [PD.out];simp⟩⟩,BW.out⟩
theorem containsProd_any (p : S30 → Bool) (g : Nat) (lb : Array Value) (eg : ∀ args w,(callFunc g args).run Try.prog w = .ok (.enter g args) w) (A : Option Addr) (c : Nat) (zs : List S30) (w : World)
    (hr : Kd.C k30 w A zs.length zs) (hbig : zs.length ≤ 9223372036854775807) (hp : ∀ (W : World) (x : S30) (A1 : Option Addr) (c1 : Nat),x ∈ zs → Below w.heap.size w W → x.f1.length ≤ c1 → Kd.C k53 W A1 x.f1.length x.f1 → Calls Try.prog g (#[.agg #[.int .i64 x.f0,.slice A1 x.f1.length c1]] ++ lb) W fun e w' => e = .returned (.bool (p x)) ∧ Below w.heap.size w w') :
    Calls Try.prog 35 #[.slice A zs.length c,.func (.func g) #[] lb] w fun e w' => e = .returned (.bool (zs.any p)) ∧ Below w.heap.size w w' := by
 have hcon:=indexProd_any p g lb eg A c zs w hr hbig hp
 have e6 : ∀ args w,(callFunc 40 args).run Try.prog w = .ok (.enter 40 args) w:=enters_of Try.func40 (by kernel_rfl) rfl
 clear hp hr
 go_enter Try.func35,Try.ntmps35
 go_wp2_with (go_at_fn 40;refine hcon.mono ?_;rintro e w' ⟨⟨nn_,rfl,hn_⟩,hb'⟩)
 go_ret
 exact ⟨by rw [← hn_.out];rfl,hb'⟩
theorem Right1_any (x : S30) (A1 : Option Addr) (c1 : Nat) (B : Nat) (W : World) (A0_0 : Option Addr) (c0_0 : Nat) (l0_0 : List ByteArray) (A0_1 : Option Addr) (c0_1 : Nat) (l0_1 : List (S61)) (a0_2 : Int) (a0_3 : Int) (A0_4 : Option Addr) (c0_4 : Nat) (l0_4 : List (S30))
    (hr0_0 : Kd.C Kd.string W A0_0 l0_0.length l0_0) (hc0_0 : l0_0.length ≤ c0_0) (hr0_1 : Kd.C k61 W A0_1 l0_1.length l0_1) (hc0_1 : l0_1.length ≤ c0_1) (hr0_4 : Kd.C k30 W A0_4 l0_4.length l0_4) (hc0_4 : l0_4.length ≤ c0_4)
    (hb : W.heap[B]? = some (.cells #[.slice A0_0 l0_0.length c0_0,.slice A0_1 l0_1.length c0_1,.int .i64 a0_2,.int .i64 a0_3,.slice A0_4 l0_4.length c0_4] 26 (0,0)))
    (hle : x.f1.length ≤ c1) (hbig : x.f1.length ≤ 9223372036854775807) (hC : Kd.C k53 W A1 x.f1.length x.f1) :
    Calls Try.prog 36 #[.agg #[.int .i64 x.f0,.slice A1 x.f1.length c1],.pointer (some ⟨B,0,none⟩)] W fun e w' => e = .returned (.bool (!okProd l0_0.length l0_1.length x)) ∧ Below W.heap.size W w' := by
 have hB:=blk_lt hb
 have hne : B ≠ W.heap.size:=by omega
 have q0 : W.cell? ⟨B,0,none⟩ = some (.slice A0_0 l0_0.length c0_0) := (blk_cell hb 0).trans rfl
 have q1 : W.cell? ⟨B,1,none⟩ = some (.slice A0_1 l0_1.length c0_1) := (blk_cell hb 1).trans rfl
 have q2 : W.cell? ⟨B,2,none⟩ = some (.int .i64 a0_2) := (blk_cell hb 2).trans rfl
 have q3 : W.cell? ⟨B,3,none⟩ = some (.int .i64 a0_3) := (blk_cell hb 3).trans rfl
 have q4 : W.cell? ⟨B,4,none⟩ = some (.slice A0_4 l0_4.length c0_4) := (blk_cell hb 4).trans rfl
 clear hb
 obtain ⟨n,l⟩ := x
 simp only at hle hbig hC ⊢
 have hcon:=firsts_symbols.calls A0_0 c0_0 l0_0 A0_1 c0_1 l0_1 a0_2 a0_3 A0_4 c0_4 l0_4 A1 c1 l (l.all (okSym l0_0.length l0_1.length)) (W.alloc (.cells #[.int .i64 n,.slice A1 l.length c1] 30))
   (Kd.C_below hr0_0 ((Below.refl _ W).alloc (Nat.le_refl _) _)) hc0_0 (Kd.C_below hr0_1 ((Below.refl _ W).alloc (Nat.le_refl _) _)) hc0_1 (Kd.C_below hr0_4 ((Below.refl _ W).alloc (Nat.le_refl _) _)) hc0_4 (Kd.C_below hC ((Below.refl _ W).alloc (Nat.le_refl _) _)) hle (by unfold firsts_symbols.f;rw [if_pos hbig])
 unfold okProd
 generalize l.all (okSym l0_0.length l0_1.length) = rr at hcon ⊢
 clear hr0_0 hr0_1 hr0_4 hC
 by_cases d0 : n < 0
 · have e0 : decide (n < 0) = true:=decide_eq_true d0
   have e1 : decide (0 ≤ n) = false:=decide_eq_false (by omega)
   go_enter Try.func36,Try.ntmps36
   go_wp2
   go_ret
   exact ⟨by first | rfl | (rw [e1];rfl),(Below.refl _ W).alloc (Nat.le_refl _) _⟩
 · have e0 : decide (n < 0) = false:=decide_eq_false d0
   have e1 : decide (0 ≤ n) = true:=decide_eq_true (by omega)
   by_cases d2 : (l0_0.length : Int) ≤ n
   · have e2 : decide ((l0_0.length : Int) ≤ n) = true:=decide_eq_true d2
     have e3 : decide (n < (l0_0.length : Int)) = false:=decide_eq_false (by omega)
     go_enter Try.func36,Try.ntmps36
     go_wp2
     go_ret
     exact ⟨by first | rfl | (rw [e1,e3];rfl),(Below.refl _ W).alloc (Nat.le_refl _) _⟩
   · have e2 : decide ((l0_0.length : Int) ≤ n) = false:=decide_eq_false d2
     have e3 : decide (n < (l0_0.length : Int)) = true:=decide_eq_true (by omega)
     go_enter Try.func36,Try.ntmps36
     go_wp2_with (go_at_call 37;refine hcon.mono ?_;rintro e w' ⟨rfl,hb'⟩)
     go_ret
     exact ⟨by first | (rw [e1,e3];simp;done) | simp,((Below.refl _ W).alloc (Nat.le_refl _) _).trans (hb'.mono (by simp))⟩
def firsts_Right.f (l0_0 : List ByteArray) (l0_1 : List (S61)) (a0_2 : Int) (a0_3 : Int) (l0_4 : List (S30)) : Option Bool:=if l0_4.length ≤ 9223372036854775807 ∧ l0_4.all (fun p => decide (p.f1.length ≤ 9223372036854775807)) = true then some (l0_4.all (okProd l0_0.length l0_1.length)) else none
theorem firsts_Right.calls (A0_0 : Option Addr) (c0_0 : Nat) (l0_0 : List ByteArray) (A0_1 : Option Addr) (c0_1 : Nat) (l0_1 : List (S61)) (a0_2 : Int) (a0_3 : Int) (A0_4 : Option Addr) (c0_4 : Nat) (l0_4 : List (S30)) (r : Bool) (w : World)
    (hr0_0 : Kd.C Kd.string w A0_0 l0_0.length l0_0) (hc0_0 : l0_0.length ≤ c0_0) (hr0_1 : Kd.C k61 w A0_1 l0_1.length l0_1) (hc0_1 : l0_1.length ≤ c0_1) (hr0_4 : Kd.C k30 w A0_4 l0_4.length l0_4) (hc0_4 : l0_4.length ≤ c0_4)
    (h : firsts_Right.f l0_0 l0_1 a0_2 a0_3 l0_4 = some r) :
    Calls Try.prog 22 #[.agg #[.slice A0_0 l0_0.length c0_0,.slice A0_1 l0_1.length c0_1,.int .i64 a0_2,.int .i64 a0_3,.slice A0_4 l0_4.length c0_4]] w fun e w' => e = .returned (.bool r) ∧ Below w.heap.size w w' := by
 unfold firsts_Right.f at h
 split at h
 case isFalse => simp at h
 rename_i hbig
 obtain ⟨hbig,hrow⟩ := hbig
 obtain rfl:=Option.some.inj h
 clear h
 have eg : ∀ args w,(callFunc 36 args).run Try.prog w = .ok (.enter 36 args) w:=enters_of Try.func36 (by kernel_rfl) rfl
 have e6 : ∀ args w,(callFunc 35 args).run Try.prog w = .ok (.enter 35 args) w:=enters_of Try.func35 (by kernel_rfl) rfl
 have HW : Aside0 (Below w.heap.size w (w.alloc (.cells #[.slice A0_0 l0_0.length c0_0,.slice A0_1 l0_1.length c0_1,.int .i64 a0_2,.int .i64 a0_3,.slice A0_4 l0_4.length c0_4] 26))) := ⟨(Below.refl _ w).alloc (Nat.le_refl _) _⟩
 have hcon:=containsProd_any (fun x => !okProd l0_0.length l0_1.length x) 36 #[.pointer (some ⟨w.heap.size,0,none⟩)] eg A0_4 c0_4 l0_4 (w.alloc (.cells #[.slice A0_0 l0_0.length c0_0,.slice A0_1 l0_1.length c0_1,.int .i64 a0_2,.int .i64 a0_3,.slice A0_4 l0_4.length c0_4] 26)) (Kd.C_below hr0_4 HW.out) hbig (fun W x A1 c1 hx hb hle hC => by
  have hlt : w.heap.size < (w.alloc (.cells #[.slice A0_0 l0_0.length c0_0,.slice A0_1 l0_1.length c0_1,.int .i64 a0_2,.int .i64 a0_3,.slice A0_4 l0_4.length c0_4] 26)).heap.size:=by simp
  have hall:=HW.out.trans (hb.mono (by simp))
  refine (Right1_any x A1 c1 w.heap.size W A0_0 c0_0 l0_0 A0_1 c0_1 l0_1 a0_2 a0_3 A0_4 c0_4 l0_4 (Kd.C_below hr0_0 hall) hc0_0 (Kd.C_below hr0_1 hall) hc0_1 (Kd.C_below hr0_4 hall) hc0_4 ((hb.block _ hlt).trans (by simpa using heap_alloc_new w _)) hle (of_decide_eq_true (List.all_eq_true.1 hrow x hx)) hC).mono ?_
  rintro e w' ⟨he,hb'⟩
  exact ⟨he,hb.trans (hb'.mono hb.size)⟩)
 clear hr0_0 hr0_1 hr0_4
 rw [← any_not]
 generalize (l0_4.any fun x => !okProd l0_0.length l0_1.length x) = rr at hcon ⊢
 go_enter Try.func22,Try.ntmps22
 go_wp2_with (go_at_fn 35;refine hcon.mono ?_;rintro e w' ⟨rfl,hb'⟩)
 go_ret
 exact ⟨rfl,HW.out.trans (hb'.mono (by simp))⟩
end Go.Proofs.Ytfdcfihcfegekaa.P
end

section
namespace Go.Proofs.Ytfdcfihcfegekaa.R
open Go.RowKit Go.Proofs.YtfdcfihcfegekaaW.PrintWords Go.Proofs.YtfdcfihcfegekaaW.PrintLast Go.Proofs.YtfdcfihcfegekaaW.PrintMore
variable {kk : IntKind} {t e : Nat} {w : World} {base n cap : Nat} {ok : Nat → Prop} {A : Option Addr} {v : Value} {m : List (List Int)}
theorem R_int_cell {g : Nat} {xs : List Int} (h : (Kd.int kk).R e w base ok (.slice (some ⟨g,0,none⟩) n cap) xs) (j : Nat) (hj : j < xs.length) :
    w.cell? ⟨g,j,none⟩ = some (.int kk (xs.getD j 0)) ∧ w.frozen? ⟨g,j,none⟩ = false ∧
      ∀ x : Int,(Kd.int kk).R e (w.setCell ⟨g,j,none⟩ (.int kk x)) base ok (.slice (some ⟨g,0,none⟩) n cap) (xs.set j x) := by
 have hn:=(Kd.R_reads' h).1
 obtain ⟨c,hcl,hM,hcc,hfr⟩ := Kd.R_elem h (0 : Int) (j : Int) (by omega) (by omega)
 have hM' : c = [.int kk (xs.getD j 0)] := hM
 subst hM'
 have h1:=hcc 0 _ rfl
 have h2:=hfr 0
 simp only [show (Kd.int kk).sz = 1 from rfl,Nat.mul_one,Nat.add_zero,Int.toNat_natCast] at h1 h2
 refine ⟨h1,h2,fun x => ?_⟩
 have h3:=(Kd.R_seg h (j : Int) (by omega) (by omega) (seg := [.int kk x]) (j:=0) hcl hcc (Nat.le_refl 1) (x' := x) (okp:=fun _ => False) (by exact rfl) (fun _ hk => hk.elim)).1
 simp only [show (Kd.int kk).sz = 1 from rfl,Nat.mul_one,Nat.add_zero,Int.toNat_natCast] at h3
 exact h3
theorem S_cell (h : Kd.S (Kd.slice t (Kd.int kk)) e w base ok (.slice A n cap) m) (i j : Nat) (hi : i < m.length) (hj : j < (m.getD i []).length) :
    ∃ g gv cv,A = some ⟨g,0,none⟩ ∧ w.cell? ⟨g,i,none⟩ = some (.slice (some ⟨gv,0,none⟩) (m.getD i []).length cv) ∧ (m.getD i []).length ≤ cv ∧ w.cell? ⟨gv,j,none⟩ = some (.int kk ((m.getD i []).getD j 0)) ∧ w.frozen? ⟨gv,j,none⟩ = false ∧ base ≤ gv ∧ gv < w.heap.size ∧ gv ≠ g ∧ (∃ cells,w.heap[gv]? = some (.cells cells t (0,0))) ∧
      ∀ x : Int,Kd.S (Kd.slice t (Kd.int kk)) e (w.setCell ⟨gv,j,none⟩ (.int kk x)) base ok (.slice A n cap) (m.set i ((m.getD i []).set j x)) := by
 obtain ⟨g,v,P,rfl,hc,hR,hP,hset⟩ := S_row rfl h (i : Int) (by omega) (by omega)
 rw [Int.toNat_natCast] at hc hR hset
 obtain ⟨gv,cv,rfl,hb,hlt,hcells⟩ := Kd.R_form hR (by omega)
 obtain ⟨h1,h2,h3⟩ := R_int_cell hR j hj
 have hPg:=hR.1 gv (by simp [Value.ownBlock])
 refine ⟨g,gv,cv,rfl,hc,(Kd.R_reads' hR).2.1,h1,h2,hb,hlt,(hP gv hPg).2,hcells,fun x => ?_⟩
 exact hset _ P _ (Kept.setCell (p:=⟨gv,j,none⟩) (Kept.refl w P) (.inl hPg) _) (h3 x)
end Go.Proofs.Ytfdcfihcfegekaa.R
end

section
namespace Go.Proofs.Ytfdcfihcfegekaa.P
open Go.RowKit Go.Proofs.YtfdcfihcfegekaaW.PrintWords Go.Proofs.YtfdcfihcfegekaaW.PrintLast Go.Proofs.YtfdcfihcfegekaaW.PrintMore Go.Proofs.Ytfdcfihcfegekaa.R
set_option linter.unusedVariables false
set_option linter.unusedSimpArgs false
def growIn {σ : Type} (stepf : σ → S30 → Option (Bool × σ)) : List S30 → Bool → σ → Option (Bool × σ)
  | [],ag,st => some (ag,st)
  | p :: ps,ag,st => (stepf st p).bind fun b => growIn stepf ps (b.1 || ag) b.2
def growOut {σ : Type} (stepf : σ → S30 → Option (Bool × σ)) (ps : List S30) : Nat → σ → Option σ
  | 0,_ => none
  | k + 1,st => (growIn stepf ps false st).bind fun b => if b.1 = true then growOut stepf ps k b.2 else some b.2
def StepOk (g : Nat) (lb : Array Value) {σ : Type} (I : σ → World → Prop) (S : Nat → Prop) (stepf : σ → S30 → Option (Bool × σ)) (ps : List S30) : Prop :=
  ∀ (W : World) (st : σ) (p : S30) (A1 : Option Addr) (c1 : Nat) (b : Bool) (st' : σ),p ∈ ps → I st W → p.f1.length ≤ c1 → (∀ W',Kept W W' S → Kd.C k53 W' A1 p.f1.length p.f1) → stepf st p = some (b,st') →
    Calls Try.prog g (#[.agg #[.int .i64 p.f0,.slice A1 p.f1.length c1]] ++ lb) W fun e w' => e = .returned (.bool b) ∧ Aside0 (I st' w') ∧ Aside0 (Kept W w' S)
theorem grow_any {σ : Type} (I : σ → World → Prop) (S : Nat → Prop) (stepf : σ → S30 → Option (Bool × σ)) (g : Nat) (lb : Array Value) (eg : ∀ args w,(callFunc g args).run Try.prog w = .ok (.enter g args) w)
    (k : Nat) (A0 A1 : Option Addr) (n0 c0 n1 c1 : Nat) (a2 a3 : Int) (A4 : Option Addr) (c4 : Nat) (l4 : List S30) (st0 st1 : σ) (w : World)
    (hI : I st0 w) (hIb : ∀ st W W',I st W → Below W.heap.size W W' → I st W') (hS : ∀ k,S k → k < w.heap.size) (hr4 : ∀ st W,I st W → ∀ W',Kept W W' S → Kd.C k30 W' A4 l4.length l4) (hbig : l4.length ≤ 9223372036854775807)
    (hstep : StepOk g lb I S stepf l4) (h : growOut stepf l4 k st0 = some st1) :
    Calls Try.prog 45 #[.agg #[.slice A0 n0 c0,.slice A1 n1 c1,.int .i64 a2,.int .i64 a3,.slice A4 l4.length c4],.func (.func g) #[] lb] w fun e w' => e = .returned (.tuple #[]) ∧ Aside0 (I st1 w') ∧ Aside0 (Kept w w' S) := by
 have HI:=Aside0.mk (hIb _ _ _ hI ((Below.refl w.heap.size w).alloc (Nat.le_refl _) (.cells #[.slice A0 n0 c0,.slice A1 n1 c1,.int .i64 a2,.int .i64 a3,.slice A4 l4.length c4] 26)))
 have HK:=Aside0.mk (Kept.alloc (Kept.refl w S) (.cells #[.slice A0 n0 c0,.slice A1 n1 c1,.int .i64 a2,.int .i64 a3,.slice A4 l4.length c4] 26))
 have HBK : Aside0 ((w.alloc (.cells #[.slice A0 n0 c0,.slice A1 n1 c1,.int .i64 a2,.int .i64 a3,.slice A4 l4.length c4] 26)).heap[w.heap.size]? = some (.cells #[.slice A0 n0 c0,.slice A1 n1 c1,.int .i64 a2,.int .i64 a3,.slice A4 l4.length c4] 26 (0,0))) := ⟨by simpa using heap_alloc_new w _⟩
 have H0:=Aside0.mk h
 have HS:=Aside0.mk hS
 have HIB:=Aside0.mk hIb
 have HR4:=Aside0.mk hr4
 have HST:=Aside0.mk hstep
 clear h hI hS hIb hr4 hstep
 go_enter Try.func45,Try.ntmps45
 go_wp2
 go_loopg [4] k (fun kq v4 wr => ∃ (st : σ) (ag : Bool),v4 = .bool ag ∧ Aside0 ((if ag = true then growOut stepf l4 kq st else some st) = some st1) ∧ Aside0 (wr.heap[w.heap.size]? = some (.cells #[.slice A0 n0 c0,.slice A1 n1 c1,.int .i64 a2,.int .i64 a3,.slice A4 l4.length c4] 26 (0,0))) ∧ Aside0 (I st wr) ∧ Aside0 (Kept w wr S))
 case atStart => exact ⟨st0,true,rfl,⟨by rw [if_pos rfl];exact H0.out⟩,HBK,HI,HK⟩
 case round =>
  clear HI HK HBK H0
  obtain ⟨st,ag,rfl,HA,HBK,HI,HK⟩ := hrel
  cases ag with
  | false =>
   obtain rfl:=Option.some.inj (by simpa using HA.out)
   clear HA
   go_wp2
   go_end0
   exact ⟨rfl,HI,HK⟩
  | true =>
   have H:=HA.out
   rw [if_pos rfl] at H
   clear HA
   cases gk with
   | zero => simp [growOut] at H
   | succ k1 =>
    simp only [growOut] at H
    obtain ⟨⟨ag2,st2⟩,h1,h2⟩ := Option.bind_eq_some_iff.1 H
    clear H
    have H1:=Aside0.mk h1
    have H2:=Aside0.mk h2
    clear h1 h2
    have q4 : wr.cell? ⟨w.heap.size,4,none⟩ = some (.slice A4 l4.length c4) := (blk_cell HBK.out 4).trans rfl
    go_wp2
    obtain ⟨wo,ewo⟩ : ∃ wo : World,wo = wr:=⟨_,rfl⟩
    subst ewo
    clear q4
    go_loopg [4,11] l4.length (fun kq v4 v11 wr => ∃ (st : σ) (ag : Bool) (i : Nat),v4 = .bool ag ∧ v11 = .int .i64 i ∧ i ≤ l4.length ∧ l4.length - i ≤ kq ∧ Aside0 (growIn stepf (l4.drop i) ag st = some (ag2,st2)) ∧ Aside0 (wr.heap[w.heap.size]? = some (.cells #[.slice A0 n0 c0,.slice A1 n1 c1,.int .i64 a2,.int .i64 a3,.slice A4 l4.length c4] 26 (0,0))) ∧ Aside0 (I st wr) ∧ Aside0 (Kept w wr S))
    case atStart => exact ⟨st,false,0,rfl,rfl,by omega,by omega,⟨by simpa using H1.out⟩,HBK,HI,HK⟩
    case round =>
     clear H1 HBK HI HK
     obtain ⟨st,ag,i,rfl,rfl,hi,hm,HA,HBK,HI,HK⟩ := hrel
     by_cases hlt : i < l4.length
     · have hltz : (i : Int) < (l4.length : Int) := by omega
       have d0 : decide ((i : Int) < (l4.length : Int)) = true:=decide_eq_true hltz
       have H:=HA.out
       rw [List.drop_eq_getElem_cons hlt] at H
       simp only [growIn] at H
       obtain ⟨⟨b,st'⟩,h1,h2⟩ := Option.bind_eq_some_iff.1 H
       clear H HA
       have HN:=Aside0.mk h2
       obtain ⟨ad,A5,c5,ead,e0,e1,hle5,hC5⟩ := at_T30 (HR4.out st wr HI.out wr (Kept.refl _ _)) (i : Int) (by omega) hltz
       cases ead
       have hC5k : ∀ W',Kept wr W' S → Kd.C k53 W' A5 (rd_T30 l4 (i : Int)).f1.length (rd_T30 l4 (i : Int)).f1:=fun W' hk => by
        obtain ⟨ad',A5',c5',ead',_,e1',_,hC5'⟩ := at_T30 (HR4.out st wr HI.out W' hk) (i : Int) (by omega) hltz
        cases ead'
        have hbl : ¬ S ad.block:=Kd.foot_neS (HR4.out st wr HI.out) (by omega) (by decide)
        have:=(cell_kept e1 hk (by unfold Addr.add;split <;> exact hbl)).symm.trans e1'
        injection this with this
        injection this with hA
        rw [hA]
        exact hC5'
       have hrd : rd_T30 l4 (i : Int) = l4[i] := by simp [rd_T30,hlt]
       rw [hrd] at e0 e1 hle5 hC5 hC5k
       rw [Int.toNat_natCast] at e0 e1
       have hmem:=List.getElem_mem hlt
       generalize l4[i] = p at h1 e0 e1 hle5 hC5 hC5k hmem
       clear hrd h2
       have p0 : (0 ≤ (i : Int)) = True:=eq_true (by omega)
       have p1:=eq_true hltz
       have HLT:=Aside0.mk hlt
       have HM:=Aside0.mk hm
       have hba : Below wr.heap.size wr (wr.alloc (.cells #[.int .i64 p.f0,.slice A5 p.f1.length c5] 30)) := (Below.refl _ wr).alloc (Nat.le_refl _) _
       have hcon:=HST.out (wr.alloc (.cells #[.int .i64 p.f0,.slice A5 p.f1.length c5] 30)) st p A5 c5 b st' hmem (HIB.out _ _ _ HI.out hba) hle5 (fun W' hk => hC5k W' ((Kept.alloc (Kept.refl wr S) _).then_ hk (fun _ h2 => .inl h2))) h1
       have HBK2 : Aside0 ((wr.alloc (.cells #[.int .i64 p.f0,.slice A5 p.f1.length c5] 30)).heap[w.heap.size]? = some (.cells #[.slice A0 n0 c0,.slice A1 n1 c1,.int .i64 a2,.int .i64 a3,.slice (some ad) l4.length c4] 26 (0,0))) := ⟨(hba.block _ (blk_lt HBK.out)).trans HBK.out⟩
       have HK2:=Aside0.mk (Kept.alloc HK.out (.cells #[.int .i64 p.f0,.slice A5 p.f1.length c5] 30))
       clear h1 hle5 hC5 hC5k hmem hlt hm hi hltz hba HBK HK HI
       cases ag
       all_goals cases b
       all_goals
         go_wp2_with (go_at_fn g;(with_reducible refine hcon.mono ?_);rintro e w3 ⟨rfl,hI3,hK3⟩)
         go_roundg (l4.length - (i + 1))
         case measure => have:=HM.out;have:=HLT.out;omega
         case rel => exact ⟨st',_,i + 1,rfl,congrArg (Value.int .i64) (by unfold wrap64;have:=HLT.out;omega),by have:=HLT.out;omega,Nat.le_refl _,HN,⟨blk_kept HBK2.out hK3.out (fun hk => by have:=HS.out _ hk;omega)⟩,hI3,⟨Kept.then_ HK2.out hK3.out (fun _ hk => .inl hk)⟩⟩
     · obtain rfl : i = l4.length:=by omega
       have d0 : decide ((l4.length : Int) < (l4.length : Int)) = false:=decide_eq_false (by omega)
       have H:=HA.out
       rw [List.drop_length] at H
       simp only [growIn] at H
       obtain ⟨rfl,rfl⟩ := Prod.mk.inj (Option.some.inj H)
       clear H HA
       go_wp2
       go_roundg k1
       case measure => omega
       case rel => exact ⟨st,ag,rfl,H2,HBK,HI,HK⟩
def oddP (token : Bool) (out : List Bool) (x : S53) : Bool:=(x.f0 && !token) || (!x.f0 && !rdOf false out x.f1)
def closedStep (token : Bool) (out : List Bool) (p : S30) : Option (Bool × List Bool) :=
  if rdOf false out p.f0 = true then some (false,out) else if p.f1.any (oddP token out) = true then some (false,out) else some (true,out.set p.f0.toNat true)
theorem bool_at {w : World} {A : Option Addr} {n : Nat} {xs : List Bool} (h : Kd.C Kd.bool w A n xs) (i : Int) (h0 : 0 ≤ i) (h1 : i < n) : ∃ ad,A = some ad ∧ w.cell? (ad.add i.toNat) = some (.bool (rdOf false xs i)) := by
 obtain ⟨ad,c,e,_,hK,hc0⟩ := Kd.C_get h false i h0 h1
 refine ⟨ad,e,?_⟩
 obtain rfl : c = [Value.bool (xs.getD i.toNat false)] := hK
 have:=hc0 0 _ rfl
 rw [show Kd.bool.sz = 1 from rfl,Nat.mul_one,Nat.add_zero] at this
 exact this
theorem odd_any (x : S53) (BT BO : Nat) (W : World) (token : Bool) (Ao : Option Addr) (co : Nat) (out : List Bool)
    (hT : W.cell? ⟨BT,0,none⟩ = some (.bool token)) (hO : W.cell? ⟨BO,0,none⟩ = some (.slice Ao out.length co)) (hR : Kd.C Kd.bool W Ao out.length out) (hx : x.f0 = false → 0 ≤ x.f1 ∧ x.f1 < out.length) :
    Calls Try.prog 56 #[.agg #[.bool x.f0,.int .i64 x.f1],.pointer (some ⟨BT,0,none⟩),.pointer (some ⟨BO,0,none⟩)] W fun e w' => e = .returned (.bool (oddP token out x)) ∧ Below W.heap.size W w' := by
 have b1:=World.block_lt_of_cell? W _ hT
 have b2:=World.block_lt_of_cell? W _ hO
 simp only at b1 b2
 have hne1 : BT ≠ W.heap.size:=by omega
 have hne2 : BO ≠ W.heap.size:=by omega
 obtain ⟨tk,n⟩ := x
 unfold oddP
 cases tk with
 | true =>
  cases token <;> (go_enter Try.func56,Try.ntmps56;go_wp2;go_ret;exact ⟨rfl,(Below.refl _ W).alloc (Nat.le_refl _) _⟩)
 | false =>
  obtain ⟨hn0,hn1⟩ := hx rfl
  simp only at hn0 hn1
  obtain ⟨ad,e,hc⟩ := bool_at hR n hn0 hn1
  cases e
  clear hx hR
  generalize rdOf false out n = ob at hc
  have hb3:=World.block_lt_of_cell? W _ hc
  have p0:=eq_true hn0
  have p1:=eq_true hn1
  clear hn0 hn1
  cases ob <;> (go_enter Try.func56,Try.ntmps56;go_wp2;go_ret;exact ⟨rfl,(Below.refl _ W).alloc (Nat.le_refl _) _⟩)
structure ClosedI (w : World) (BT BO : Nat) (token : Bool) (Ao : Option Addr) (n co : Nat) (out : List Bool) (W : World) : Prop where
  bel : Below w.heap.size w W
  t : W.cell? ⟨BT,0,none⟩ = some (.bool token)
  o : W.cell? ⟨BO,0,none⟩ = some (.slice Ao n co)
  r : Kd.R Kd.bool 4 W w.heap.size (fun k => k ≠ BT ∧ k ≠ BO) (.slice Ao n co) out
theorem ClosedI.below {w : World} {BT BO : Nat} {token : Bool} {Ao : Option Addr} {n co : Nat} {out : List Bool} {W W' : World} (h : ClosedI w BT BO token Ao n co out W) (hb : Below W.heap.size W W') (hw : w.heap.size ≤ W.heap.size) : ClosedI w BT BO token Ao n co out W' :=
  ⟨h.bel.trans (hb.mono hw),(hb.cell (p:=⟨BT,0,none⟩) (World.block_lt_of_cell? W _ h.t)).trans h.t,(hb.cell (p:=⟨BO,0,none⟩) (World.block_lt_of_cell? W _ h.o)).trans h.o,Kd.R_below h.r hb⟩
set_option maxHeartbeats 1000000 in
theorem closed1_any (w : World) (BT BO : Nat) (token : Bool) (Ao : Option Addr) (n co : Nat) (ps : List S30) (nt : Nat) (hps : ps.all (okProd n nt) = true) (hbig : ps.all (fun p => decide (p.f1.length ≤ 9223372036854775807)) = true) :
    StepOk 55 #[.pointer (some ⟨BT,0,none⟩),.pointer (some ⟨BO,0,none⟩)] (fun out W => ClosedI w BT BO token Ao n co out W) (fun k => (Value.slice Ao n co).ownBlock = some k) (closedStep token) ps:=by
 intro W out p A1 c1 b out' hp hI hle hC hst
 replace hC:=hC W (Kept.refl _ _)
 have hok:=List.all_eq_true.1 hps p hp
 have hlen:=of_decide_eq_true (List.all_eq_true.1 hbig p hp)
 clear hps hbig hp
 obtain ⟨left,right⟩ := p
 simp only [okProd,Bool.and_eq_true,decide_eq_true_eq] at hok
 obtain ⟨⟨hl0,hl1⟩,hall⟩ := hok
 simp only at hle hC hlen
 have hW:=hI.bel.size
 obtain ⟨hn,_,hCo⟩ := Kd.R_reads' hI.r
 subst hn
 obtain ⟨go,c',hv,hge,hgl,_⟩ := Kd.R_form hI.r (by omega)
 injection hv with hA hlen' hc'
 cases hA
 clear hlen' hc'
 have hgo:=hI.r.1 go (by simp [Value.ownBlock])
 obtain ⟨hcell,hfr⟩ := Kd.R_celln false (Kd.R_alloc hI.r (Obj.cells #[.int .i64 left,.slice A1 right.length c1] 30)) left hl0 hl1
 have hput:=Kd.R_putg (Kd.R_alloc hI.r (Obj.cells #[.int .i64 left,.slice A1 right.length c1] 30)) left true
 have bT:=World.block_lt_of_cell? W _ hI.t
 have bO:=World.block_lt_of_cell? W _ hI.o
 simp only at bT bO
 have HI:=Aside0.mk hI
 have HG:=Aside0.mk (And.intro hge (And.intro hgl hgo))
 have HPUT:=Aside0.mk hput
 have hT:=hI.t
 have hO:=hI.o
 have hne1 : BT ≠ W.heap.size:=by omega
 have hne2 : BO ≠ W.heap.size:=by omega
 have hne3 : go ≠ W.heap.size:=by omega
 have hne4 : BT ≠ go:=fun e => hgo.1 e.symm
 have hne5 : BO ≠ go:=fun e => hgo.2 e.symm
 have p0:=eq_true hl0
 have p1:=eq_true hl1
 have hba : Below W.heap.size W (W.alloc (Obj.cells #[.int .i64 left,.slice A1 right.length c1] 30)) := (Below.refl _ W).alloc (Nat.le_refl _) _
 have HBA:=Aside0.mk hba
 have eg : ∀ args w,(callFunc 56 args).run Try.prog w = .ok (.enter 56 args) w:=enters_of Try.func56 (by kernel_rfl) rfl
 have hcon:=containsSym_any (oddP token out) 56 #[.pointer (some ⟨BT,0,none⟩),.pointer (some ⟨BO,0,none⟩)] eg A1 c1 right (W.alloc (Obj.cells #[.int .i64 left,.slice A1 right.length c1] 30)) (Kd.C_below hC hba) hlen (fun W2 x hx hb => by
  have hb2 : Below W.heap.size W W2:=hba.trans (hb.mono (by simp))
  refine (odd_any x BT BO W2 token (some ⟨go,0,none⟩) co out ((hb2.cell (p:=⟨BT,0,none⟩) bT).trans hI.t) ((hb2.cell (p:=⟨BO,0,none⟩) bO).trans hI.o) (Kd.C_below hCo hb2) (fun h0 => ?_)).mono ?_
  · have:=List.all_eq_true.1 hall x hx
    simp only [okSym,h0,Bool.and_eq_true,decide_eq_true_eq] at this
    simpa using this
  · rintro e w' ⟨he,hb'⟩
    exact ⟨he,hb.trans (hb'.mono hb.size)⟩)
 unfold closedStep at hst
 simp only at hst
 show Calls Try.prog 55 #[.agg #[.int .i64 left,.slice A1 right.length c1],.pointer (some ⟨BT,0,none⟩),.pointer (some ⟨BO,0,none⟩)] W _
 clear hC hCo hI hput hba hgo hge hgl hall hlen hW
 generalize hob : rdOf false out left = ob at hst hcell
 change (W.alloc (Obj.cells #[.int .i64 left,.slice A1 right.length c1] 30)).cell? ⟨go,left.toNat,none⟩ = some (.bool ob) at hcell
 cases ob with
 | true =>
  obtain ⟨rfl,rfl⟩ := Prod.mk.inj (Option.some.inj hst)
  clear hst hob hcon hl0 hl1
  go_enter Try.func55,Try.ntmps55
  go_wp2
  go_ret
  exact ⟨rfl,⟨HI.out.below HBA.out HI.out.bel.size⟩,⟨Kept.of_below HBA.out _⟩⟩
 | false =>
  rw [if_neg (by simp)] at hst
  clear hob
  generalize hq : right.any (oddP token out) = q at hst hcon
  cases q with
  | true =>
   obtain ⟨rfl,rfl⟩ := Prod.mk.inj (Option.some.inj hst)
   clear hst hq hl0 hl1
   go_enter Try.func55,Try.ntmps55
   go_wp2_with (go_at_call 41;(with_reducible refine hcon.mono ?_);rintro e w3 ⟨rfl,hb3⟩;have HB3:=Aside0.mk (HBA.out.trans (hb3.mono (by simp)));clear hb3)
   go_ret
   exact ⟨rfl,⟨HI.out.below HB3.out HI.out.bel.size⟩,⟨Kept.of_below HB3.out _⟩⟩
  | false =>
   obtain ⟨rfl,rfl⟩ := Prod.mk.inj (Option.some.inj hst)
   clear hst hq hl0 hl1 HPUT
   go_enter Try.func55,Try.ntmps55
   go_wp2_with (go_at_call 41;(with_reducible refine hcon.mono ?_);rintro e w3 ⟨rfl,hb3⟩;have HB3:=Aside0.mk (HBA.out.trans (hb3.mono (by simp)));have hbx : w3.cell? ⟨W.heap.size,0,none⟩ = some (.int .i64 left) := (hb3.cell (p:=⟨W.heap.size,0,none⟩) (by simp)).trans (by simp);clear hb3 hT hO hcell hfr;have HI3:=Aside0.mk (HI.out.below HB3.out HI.out.bel.size);have hT:=HI3.out.t;have hO:=HI3.out.o;obtain ⟨hcell,hfr⟩ := Kd.R_celln false HI3.out.r left (of_eq_true p0) (of_eq_true p1);have HPUT:=Aside0.mk (Kd.R_putg HI3.out.r left true))
   go_ret
   exact ⟨rfl,⟨⟨below_set HI3.out.bel HG.out.1,cell_kept hT (Kept.setCell (Kept.refl w3 (fun k => k = go)) (.inl rfl) _) hne4,cell_kept hO (Kept.setCell (Kept.refl w3 (fun k => k = go)) (.inl rfl) _) hne5,HPUT.out.1⟩⟩,⟨Kept.setCell (Kept.of_below HB3.out _) (.inl (by simp [Value.ownBlock])) _⟩⟩
def firsts_closed.f (k : Nat) (l0_0 : List ByteArray) (l0_1 : List (S61)) (a0_2 : Int) (a0_3 : Int) (l0_4 : List (S30)) (a1 : Bool) : Option (List Bool) :=
  (firsts_Right.f l0_0 l0_1 a0_2 a0_3 l0_4).bind fun r => if r = true then if l0_0.length ≤ 281474976710656 then growOut (closedStep a1) l0_4 k (List.replicate l0_0.length false) else none else some []
set_option maxHeartbeats 1000000 in
theorem firsts_closed.calls (k : Nat) (A0_0 : Option Addr) (c0_0 : Nat) (l0_0 : List ByteArray) (A0_1 : Option Addr) (c0_1 : Nat) (l0_1 : List (S61)) (a0_2 : Int) (a0_3 : Int) (A0_4 : Option Addr) (c0_4 : Nat) (l0_4 : List (S30)) (a1 : Bool) (r : List Bool) (w : World) (hr0_0 : Kd.C Kd.string w A0_0 l0_0.length l0_0) (hc0_0 : l0_0.length ≤ c0_0) (hr0_1 : Kd.C k61 w A0_1 l0_1.length l0_1) (hc0_1 : l0_1.length ≤ c0_1) (hr0_4 : Kd.C k30 w A0_4 l0_4.length l0_4) (hc0_4 : l0_4.length ≤ c0_4) (h : firsts_closed.f k l0_0 l0_1 a0_2 a0_3 l0_4 a1 = some r) :
    Calls Try.prog 54 #[.agg #[.slice A0_0 l0_0.length c0_0,.slice A0_1 l0_1.length c0_1,.int .i64 a0_2,.int .i64 a0_3,.slice A0_4 l0_4.length c0_4],.bool a1] w fun e w' => ∃ v0_ : Value,e = .returned (v0_) ∧ Kd.R Kd.bool 4 w' w.heap.size (fun _ => True) v0_ r ∧ Below w.heap.size w w' := by
 obtain ⟨rt,hrt,h2⟩ := Option.bind_eq_some_iff.1 h
 have HRT:=Aside0.mk hrt
 have H2:=Aside0.mk h2
 clear h h2 hrt
 have HA1 : Aside0 (Below w.heap.size w ((w.alloc (.cells #[.slice A0_0 l0_0.length c0_0,.slice A0_1 l0_1.length c0_1,.int .i64 a0_2,.int .i64 a0_3,.slice A0_4 l0_4.length c0_4] 26)).alloc (.cells #[.bool a1] 4))) := ⟨below_alloc ((Below.refl _ w).alloc (Nat.le_refl _) _) _⟩
 have HC : Aside0 (∀ W,Below (w.heap.size + 2) ((w.alloc (.cells #[.slice A0_0 l0_0.length c0_0,.slice A0_1 l0_1.length c0_1,.int .i64 a0_2,.int .i64 a0_3,.slice A0_4 l0_4.length c0_4] 26)).alloc (.cells #[.bool a1] 4)) W → W.cell? ⟨w.heap.size,0,none⟩ = some (.slice A0_0 l0_0.length c0_0) ∧ W.cell? ⟨w.heap.size,1,none⟩ = some (.slice A0_1 l0_1.length c0_1) ∧ W.cell? ⟨w.heap.size,2,none⟩ = some (.int .i64 a0_2) ∧ W.cell? ⟨w.heap.size,3,none⟩ = some (.int .i64 a0_3) ∧ W.cell? ⟨w.heap.size,4,none⟩ = some (.slice A0_4 l0_4.length c0_4) ∧ W.cell? ⟨w.heap.size + 1,0,none⟩ = some (.bool a1)) := ⟨fun W hW => ⟨(hW.cell (p:=⟨w.heap.size,0,none⟩) (by simp)).trans (by simp),(hW.cell (p:=⟨w.heap.size,1,none⟩) (by simp)).trans (by simp),(hW.cell (p:=⟨w.heap.size,2,none⟩) (by simp)).trans (by simp),(hW.cell (p:=⟨w.heap.size,3,none⟩) (by simp)).trans (by simp),(hW.cell (p:=⟨w.heap.size,4,none⟩) (by simp)).trans (by simp),(hW.cell (p:=⟨w.heap.size + 1,0,none⟩) (by simp)).trans (by simp)⟩⟩
 have hu44:=Try.underlying65
 cases rt with
 | false =>
  have H3:=H2.out
  rw [if_neg (by simp)] at H3
  obtain rfl:=Option.some.inj H3
  clear H2 H3
  go_enter Try.func54,Try.ntmps54
  go_wp2_with (go_at_call 22;(with_reducible refine (firsts_Right.calls A0_0 c0_0 l0_0 A0_1 c0_1 l0_1 a0_2 a0_3 A0_4 c0_4 l0_4 false _ (Kd.C_below hr0_0 HA1.out) hc0_0 (Kd.C_below hr0_1 HA1.out) hc0_1 (Kd.C_below hr0_4 HA1.out) hc0_4 HRT.out).mono ?_);rintro e w1 ⟨rfl,hb1⟩)
  go_ret
  exact ⟨_,rfl,Kd.R_nil _ _ _ _ _,HA1.out.trans (hb1.mono (by simp;omega))⟩
 | true =>
  have H3:=H2.out
  rw [if_pos rfl] at H3
  split at H3
  case isFalse => simp at H3
  rename_i hn0
  have HG:=Aside0.mk H3
  have hall : (l0_4.all (okProd l0_0.length l0_1.length) = true) ∧ l0_4.length ≤ 9223372036854775807 ∧ l0_4.all (fun p => decide (p.f1.length ≤ 9223372036854775807)) = true:=by
   have:=HRT.out
   unfold firsts_Right.f at this
   split at this
   · rename_i hh;exact ⟨Option.some.inj this,hh.1,hh.2⟩
   · simp at this
  have HALL:=Aside0.mk hall
  have HBIG:=Aside0.mk hn0
  clear H2 H3 hall hn0
  have p0 : decide (0 ≤ (l0_0.length : Int)) = true:=decide_eq_true (by omega)
  have eg : ∀ args w,(callFunc 55 args).run Try.prog w = .ok (.enter 55 args) w:=enters_of Try.func55 (by kernel_rfl) rfl
  go_enter Try.func54,Try.ntmps54
  go_wp2_with (first
    | (go_at_call 22;(with_reducible refine (firsts_Right.calls A0_0 c0_0 l0_0 A0_1 c0_1 l0_1 a0_2 a0_3 A0_4 c0_4 l0_4 true _ (Kd.C_below hr0_0 HA1.out) hc0_0 (Kd.C_below hr0_1 HA1.out) hc0_1 (Kd.C_below hr0_4 HA1.out) hc0_4 HRT.out).mono ?_);rintro e w1 ⟨rfl,hb1⟩;have HB1:=Aside0.mk hb1;clear hb1;obtain ⟨q0,q1,q2,q3,q4,q5⟩ := HC.out w1 (HB1.out.mono (by simp)))
    | ((with_reducible refine gate_dst (N:=12) rfl ?_);(refine Kd.R_make Kd.bool _ 4 rfl (N:=12) rfl 65 _ _ rfl (l0_0.length : Int) rfl rfl Try.underlying65 (.bool false) 1 info4 rfl (by decide) (by omega) false (ok:=fun _ => True) (okp:=fun _ => True) rfl (fun _ hk => hk) trivial (by omega) (by have:=HBIG.out;simp only [Int.toNat_natCast];omega) (Below.refl _ _) (Nat.le_refl _) ?_;intro v2 w2 ho2 hb2 hg_ hnew_;clear hg_;rw [Int.toNat_natCast] at ho2;have HR2:=Aside0.mk ho2;have HB2:=Aside0.mk hb2;have HNEW:=Aside0.mk hnew_;clear ho2 hb2 hnew_ q0 q1 q2 q3 q4 q5;obtain ⟨Ao,co,eo⟩ := Kd.R_slice HR2.out;subst eo;rw [List.length_replicate] at HR2 HNEW ⊢;clear HNEW;have SZ1 : Aside0 (w.heap.size + 2 ≤ w1.heap.size) := ⟨by have:=HB1.out.size;simpa using this⟩;have HB12 : Aside0 (Below (w.heap.size + 2) ((w.alloc (.cells #[.slice A0_0 l0_0.length c0_0,.slice A0_1 l0_1.length c0_1,.int .i64 a0_2,.int .i64 a0_3,.slice A0_4 l0_4.length c0_4] 26)).alloc (.cells #[.bool a1] 4)) w2) := ⟨(HB1.out.mono (by simp)).trans (HB2.out.mono SZ1.out)⟩;obtain ⟨q0,q1,q2,q3,q4,q5⟩ := HC.out (w2.alloc (.cells #[.slice Ao l0_0.length co] 65)) (HB12.out.alloc (by have:=SZ1.out;have:=HB2.out.size;omega) _);have HI : Aside0 (ClosedI w (w.heap.size + 1) w2.heap.size a1 Ao l0_0.length co (List.replicate l0_0.length false) (w2.alloc (.cells #[.slice Ao l0_0.length co] 65))) := ⟨⟨below_alloc (HA1.out.trans (HB12.out.mono (by omega))) _,q5,by simp,Kd.R_alloc (Kd.R_mono (Kd.R_lower (Kd.R_bound HR2.out) (by have:=SZ1.out;omega)) (fun k_ hk => by have:=hk.2.1;have:=hk.2.2.1;have:=SZ1.out;omega)) _⟩⟩))
    | (go_at_call 45;(with_reducible refine (grow_any (fun out W => ClosedI w (w.heap.size + 1) w2.heap.size a1 Ao l0_0.length co out W) (fun k_ => (Value.slice Ao l0_0.length co).ownBlock = some k_) (closedStep a1) 55 _ eg k A0_0 A0_1 l0_0.length c0_0 l0_1.length c0_1 a0_2 a0_3 A0_4 c0_4 l0_4 (List.replicate l0_0.length false) r _ HI.out (fun st W W' hI hb => hI.below hb hI.bel.size) (Kd.R_lt HI.out.r) (fun st W hI => Kd.C_kept_came k30_heap hr0_4 hI.bel (fun k hk => Kd.R_base hI.r k hk)) HALL.out.2.1 (closed1_any w (w.heap.size + 1) w2.heap.size a1 Ao l0_0.length co l0_4 l0_1.length HALL.out.1 HALL.out.2.2) HG.out).mono ?_);rintro e w4 ⟨rfl,hI4,hk4⟩;clear hk4 q0 q1 q2 q3 q4 q5;have q6:=hI4.out.o))
  go_ret
  exact ⟨_,rfl,Kd.R_mono hI4.out.r (fun _ _ => trivial),hI4.out.bel⟩
end Go.Proofs.Ytfdcfihcfegekaa.P
end

section
namespace Go.Proofs.Ytfdcfihcfegekaa.P
open Go.RowKit Go.Proofs.YtfdcfihcfegekaaW.PrintWords Go.Proofs.YtfdcfihcfegekaaW.PrintLast Go.Proofs.YtfdcfihcfegekaaW.PrintMore
attribute [local go_sem] max2_int min2_int max_two min_two max_three min_three max_four min_four   -- for this text's walks alone
set_option linter.unusedVariables false
set_option linter.unusedSimpArgs false
def firsts_set_rising.l0 : Nat → List Int → List Bool → Int → Int → Option (List Int)
  | 0,_,_,_,_ => none
  | k + 1,x2,x5,x6,x7 => if x7 < x6 then (if 0 ≤ x7 then (if x7 < (x5.length : Int) then (if rdOf false x5 x7 = true then (if x2.length < 17592186044416 then (firsts_set_rising.l0 k (x2 ++ [x7]) x5 x6 (wrap64 (x7 + 1))) else (none)) else (firsts_set_rising.l0 k x2 x5 x6 (wrap64 (x7 + 1)))) else (none)) else (none)) else (some x2)
def firsts_set_rising.f (k : Nat) (l0 : List Bool) : Option (List Int) := firsts_set_rising.l0 k ([] : List Int) l0 (l0.length : Int) 0
set_option maxHeartbeats 8000000 in
set_option maxRecDepth 100000 in
theorem firsts_set_rising.calls (k : Nat) (A0 : Option Addr) (c0 : Nat) (l0 : List Bool) (r : List Int) (w : World) (hr0 : Kd.C Kd.bool w A0 l0.length l0) (hc0 : l0.length ≤ c0) (h : firsts_set_rising.f k l0 = some r) :
    Calls Try.prog 50 #[.slice A0 l0.length c0] w fun e w' => ∃ v0_ : Value,e = .returned (v0_) ∧ Kd.R (Kd.int .i64) 3 w' w.heap.size (fun _ => True) v0_ r ∧ Below w.heap.size w w' := by
 have HR0:=Aside0.mk hr0
 have HC0:=Aside0.mk hc0
 clear hr0 hc0
 have HB:=Aside0.mk (Below.refl w.heap.size w)
 have H : (firsts_set_rising.l0 k ([] : List Int) l0 (l0.length : Int) 0) = some r:=h
 clear h
 have H' := Aside0.mk H
 clear H
 go_enter Try.func50,Try.ntmps50
 go_wp2
 go_loopg [2,7] k (fun kq v2 v7 w' => ∃ (x2_1 : List Int) (x7_1 : Int),v7 = .int .i64 x7_1 ∧ Aside0 (firsts_set_rising.l0 kq x2_1 l0 (l0.length : Int) x7_1 = some r) ∧ Aside0 (kq ≤ k) ∧ Aside0 (Kd.R (Kd.int .i64) 3 w' w.heap.size (fun _ => True) v2 x2_1) ∧ Aside0 (Below w.heap.size w w'))
 case atStart => exact ⟨(([] : List Int)),(0),(by first | rfl | (simp;done) | (simp [*];done)),H',⟨Nat.le_refl _⟩,⟨by first | exact Kd.R_nil _ _ _ _ _ | exact Kd.N_nil _ _ _ _ _ | exact Kd.V_nil _ _ _ _ _ | exact Kd.Q_nil _ _ _ _ _ | exact Kd.S_nil _ _ _ _ _⟩,⟨by repeat (first | (with_reducible first | exact HB.out | apply below_alloc | apply pw_below_drewN | apply below_drew1) | exact HB.out)⟩⟩
 case round =>
  clear H'
  obtain ⟨x2_1,x7_1,rfl,HA,HK1,HO_2,HB⟩ := hrel
  cases gk with
  | zero => exact absurd HA.out (by simp [firsts_set_rising.l0])
  | succ k1 =>
   have H:=HA.out
   clear HA
   simp only [firsts_set_rising.l0] at H
   by_cases c2 : x7_1 < (l0.length : Int)
   · rw [if_pos c2] at H
     have c2b0 : decide (x7_1 < (l0.length : Int)) = true:=decide_eq_true c2
     clear c2
     by_cases c3 : 0 ≤ x7_1
     rotate_left
     · rw [if_neg c3] at H
       exact absurd H (by simp)
     rw [if_pos c3] at H
     have c3b0 : decide (0 ≤ x7_1) = true:=decide_eq_true c3
     clear c3
     by_cases c4 : x7_1 < (l0.length : Int)
     rotate_left
     · rw [if_neg c4] at H
       exact absurd H (by simp)
     rw [if_pos c4] at H
     have c4b0 : decide (x7_1 < (l0.length : Int)) = true:=decide_eq_true c4
     clear c4
     obtain ⟨bq5,hbq5⟩ : ∃ b_ : Bool,b_ = (rdOf false l0 x7_1) := ⟨_,rfl⟩
     replace H : (if bq5 = true then (if x2_1.length < 17592186044416 then (firsts_set_rising.l0 k1 (x2_1 ++ [x7_1]) l0 (l0.length : Int) (wrap64 (x7_1 + 1))) else (none)) else (firsts_set_rising.l0 k1 x2_1 l0 (l0.length : Int) (wrap64 (x7_1 + 1)))) = some r:=by rw [← hbq5] at H;exact H
     have Nbq5:=Aside0.mk hbq5
     clear hbq5
     by_cases c6 : bq5 = true
     · subst c6
       have H1 : (if x2_1.length < 17592186044416 then (firsts_set_rising.l0 k1 (x2_1 ++ [x7_1]) l0 (l0.length : Int) (wrap64 (x7_1 + 1))) else (none)) = some r:=by rw [if_pos rfl] at H;exact H
       clear H
       have H:=H1
       clear H1
       by_cases c7 : x2_1.length < 17592186044416
       rotate_left
       · rw [if_neg c7] at H
         exact absurd H (by simp)
       rw [if_pos c7] at H
       have LMc7:=Aside0.mk c7
       clear c7
       obtain ⟨y118,hy118⟩ : ∃ y_ : List Int,y_ = (x2_1 ++ [x7_1]) := ⟨_,rfl⟩
       replace H : (firsts_set_rising.l0 k1 y118 l0 (l0.length : Int) (wrap64 (x7_1 + 1))) = some r:=by first | (rw [hy118];with_reducible exact H) | (have H2_:=(Option.bind_some _ _).symm.trans H;rw [hy118];with_reducible exact H2_) | (have H2_:=(Option.bind_some _ _).symm.trans H;with_reducible exact H2_) | with_reducible exact H | (rw [hy118];exact H) | exact H
       have Ny118:=Aside0.mk hy118
       clear hy118
       have H' := Aside0.mk H
       clear H
       have p117 : 0 ≤ (x7_1 : Int) := of_decide_eq_true (by first | (with_reducible assumption) | assumption)
       have q117 : x7_1 < (l0.length : Int) := of_decide_eq_true (by first | (with_reducible assumption) | assumption)
       obtain ⟨ad117,e117,hx117_0⟩ := Kd.at_bool HR0.out x7_1 p117 q117
       (try rw [← Nbq5.out] at hx117_0)
       cases e117
       replace hx117_0:=(HB.out.cell (World.block_lt_of_cell? w _ hx117_0)).trans hx117_0
       replace p117:=eq_true p117
       replace q117:=eq_true q117
       go_wp2_with (first | ((with_reducible refine gate_builtin (b := .append) (xs:=#[.tmp 13,.tmp 15]) rfl ?_);at_builtin;refine Kd.R_append (Kd.int .i64) (w0:=w) w.heap.size rfl (.tmp 13) (.tmp 15) 43 3 (.int .i64 0) 8 rfl Try.underlying43 info3 rfl (by decide) (by omega) u2 x2_1 x7_1 [.int .i64 x7_1] (fun _ => True) (fun _ => False) rfl rfl ?aP (fun _ hk => hk.elim) ?aF ?aO ?aB ?aS ?aL ?_;(case aP => exact rfl);(case aB => exact (by repeat (first | (with_reducible first | exact HB.out | apply below_alloc | apply pw_below_drewN | apply below_drew1) | exact HB.out)));(case aF => exact (fun _ _ => trivial));(case aO => exact (by (with_reducible repeat (first | apply Kd.R_alloc | apply Kd.R_drewN | apply Kd.R_drew));exact HO_2.out));(case aS => exact (below_size (by repeat (first | (with_reducible first | exact HB.out | apply below_alloc | apply pw_below_drewN | apply below_drew1) | exact HB.out))));(case aL => have:=LMc7.out;omega);intro v119 w8 ho hb hg hat;rw [← Ny118.out] at ho;have n0_:=Aside0.mk (hb);have n1_:=Aside0.mk (ho);clear HB;clear HO_2;have HB:=n0_;have HO120:=n1_;clear n0_ n1_;clear ho hb hg hat))
       go_roundg k1
       case measure => have:=HK1.out;omega
       case rel => exact ⟨(y118),(wrap64 (x7_1 + 1)),(by first | rfl | (simp;done) | (simp [*];done)),H',⟨by have:=HK1.out;omega⟩,⟨by (with_reducible repeat (first | apply Kd.R_alloc | apply Kd.R_drewN | apply Kd.R_drew));exact HO120.out⟩,⟨by repeat (first | (with_reducible first | exact HB.out | apply below_alloc | apply pw_below_drewN | apply below_drew1) | exact HB.out)⟩⟩
     · replace c6:=Bool.eq_false_iff.mpr c6
       subst c6
       have H1 : (firsts_set_rising.l0 k1 x2_1 l0 (l0.length : Int) (wrap64 (x7_1 + 1))) = some r:=by rw [if_neg (show ¬ (false = true) by decide)] at H;exact H
       clear H
       have H:=H1
       clear H1
       have H' := Aside0.mk H
       clear H
       have p117 : 0 ≤ (x7_1 : Int) := of_decide_eq_true (by first | (with_reducible assumption) | assumption)
       have q117 : x7_1 < (l0.length : Int) := of_decide_eq_true (by first | (with_reducible assumption) | assumption)
       obtain ⟨ad117,e117,hx117_0⟩ := Kd.at_bool HR0.out x7_1 p117 q117
       (try rw [← Nbq5.out] at hx117_0)
       cases e117
       replace hx117_0:=(HB.out.cell (World.block_lt_of_cell? w _ hx117_0)).trans hx117_0
       replace p117:=eq_true p117
       replace q117:=eq_true q117
       go_wp2
       go_roundg k1
       case measure => have:=HK1.out;omega
       case rel => exact ⟨(x2_1),(wrap64 (x7_1 + 1)),(by first | rfl | (simp;done) | (simp [*];done)),H',⟨by have:=HK1.out;omega⟩,⟨by (with_reducible repeat (first | apply Kd.R_alloc | apply Kd.R_drewN | apply Kd.R_drew));exact HO_2.out⟩,⟨by repeat (first | (with_reducible first | exact HB.out | apply below_alloc | apply pw_below_drewN | apply below_drew1) | exact HB.out)⟩⟩
   · rw [if_neg c2] at H
     have c2b0 : decide (x7_1 < (l0.length : Int)) = false:=decide_eq_false c2
     clear c2
     obtain rfl:=Option.some.inj H
     go_wp2
     go_ret
     exact ⟨_,by first | rfl | (simp [errW_none,errW_some] <;> rfl) | (simp [*,errW_none,errW_some] <;> rfl),by (with_reducible repeat (first | apply Kd.R_alloc | apply Kd.R_drewN | apply Kd.R_drew));exact HO_2.out,by repeat (first | (with_reducible first | exact HB.out | apply below_alloc | apply pw_below_drewN | apply below_drew1) | exact HB.out)⟩
def firsts_all.l0 : Nat → List (List Int) → List (List Bool) → Int → Int → Option ((List (List Int)))
  | 0,_,_,_,_ => none
  | k + 1,x3,x9,x10,x11 => if x11 < x10 then (if 0 ≤ x11 then (if x11 < (x9.length : Int) then ((firsts_set_rising.f k (rd_L13 x9 x11)).bind fun t125 => (if x11 < (x3.length : Int) then (firsts_all.l0 k (x3.set (x11 : Int).toNat t125) x9 x10 (wrap64 (x11 + 1))) else (none))) else (none)) else (none)) else (some x3)
def firsts_all.f (k : Nat) (l0 : List (List Bool)) : Option ((List (List Int))) := if 0 ≤ (l0.length : Int) then (if ((l0.length : Int) : Int).toNat ≤ 11728124029610 then (firsts_all.l0 k (List.replicate ((l0.length : Int) : Int).toNat []) l0 (l0.length : Int) 0) else (none)) else (none)
set_option maxHeartbeats 8000000 in
set_option maxRecDepth 100000 in
theorem firsts_all.calls (k : Nat) (A0 : Option Addr) (c0 : Nat) (l0 : List (List Bool)) (r : List (List Int)) (w : World) (hr0 : Kd.C (Kd.slice 4 Kd.bool) w A0 l0.length l0) (hc0 : l0.length ≤ c0) (h : firsts_all.f k l0 = some r) :
    Calls Try.prog 49 #[.slice A0 l0.length c0] w fun e w' => ∃ v0_ : Value,e = .returned (v0_) ∧ Kd.S (Kd.slice 3 (Kd.int .i64)) 43 w' w.heap.size (fun _ => True) v0_ r ∧ Below w.heap.size w w' := by
 have HR0:=Aside0.mk hr0
 have HC0:=Aside0.mk hc0
 clear hr0 hc0
 have HB:=Aside0.mk (Below.refl w.heap.size w)
 have H : (if 0 ≤ (l0.length : Int) then (if ((l0.length : Int) : Int).toNat ≤ 11728124029610 then (firsts_all.l0 k (List.replicate ((l0.length : Int) : Int).toNat []) l0 (l0.length : Int) 0) else (none)) else (none)) = some r:=h
 clear h
 by_cases c2 : 0 ≤ (l0.length : Int)
 rotate_left
 · rw [if_neg c2] at H
   exact absurd H (by simp)
 rw [if_pos c2] at H
 have c2b0:=eq_true c2
 have c2b1 : decide (0 ≤ (l0.length : Int)) = true:=decide_eq_true c2
 clear c2
 by_cases c3 : ((l0.length : Int) : Int).toNat ≤ 11728124029610
 rotate_left
 · rw [if_neg c3] at H
   exact absurd H (by simp)
 rw [if_pos c3] at H
 have c3b0:=eq_true c3
 have c3b1 : decide (((l0.length : Int) : Int).toNat ≤ 11728124029610) = true:=decide_eq_true c3
 clear c3
 obtain ⟨y121,hy121⟩ : ∃ y_ : List (List Int),y_ = (List.replicate ((l0.length : Int) : Int).toNat []) := ⟨_,rfl⟩
 replace H : (firsts_all.l0 k y121 l0 (l0.length : Int) 0) = some r:=by first | (rw [hy121];with_reducible exact H) | (have H2_:=(Option.bind_some _ _).symm.trans H;rw [hy121];with_reducible exact H2_) | (have H2_:=(Option.bind_some _ _).symm.trans H;with_reducible exact H2_) | with_reducible exact H | (rw [hy121];exact H) | exact H
 have Ny121:=Aside0.mk hy121
 clear hy121
 have H' := Aside0.mk H
 clear H
 go_enter Try.func49,Try.ntmps49
 go_wp2_with (first | ((with_reducible refine gate_dst (N:=8) rfl ?_);refine Kd.S_make (Kd.slice 3 (Kd.int .i64)) _ 43 rfl (N:=8) rfl 35 _ _ rfl (l0.length : Int) rfl rfl Try.underlying35 (.slice none 0 0) 24 info43 rfl (by decide) (by omega) [] (ok:=fun _ => True) (okp:=fun _ => True) ⟨_,rfl,Kd.R_nil _ _ _ _ _⟩ (fun _ hk => hk) trivial (of_decide_eq_true (by first | (with_reducible assumption) | assumption)) (Nat.le_trans (Nat.mul_le_mul_right _ (of_decide_eq_true (by first | (with_reducible assumption) | assumption) : (l0.length : Int).toNat ≤ 11728124029610)) (by omega)) (Below.refl _ _) (Nat.le_refl _) ?_;intro v122 w4 ho5 hb hg_ hnew_;clear hg_ hnew_;(first | rw [← Ny121.out] at ho5 | (simp only [Int.reduceToNat] at ho5;rw [← Ny121.out] at ho5));have n0_:=Aside0.mk (Kd.S_lower ho5 (below_size (by repeat (first | (with_reducible first | exact HB.out | apply below_alloc | apply pw_below_drewN | apply below_drew1) | exact HB.out))));have n1_:=Aside0.mk (below_step (by repeat (first | (with_reducible first | exact HB.out | apply below_alloc | apply pw_below_drewN | apply below_drew1) | exact HB.out)) hb);clear HB;have HO123:=n0_;have HB:=n1_;clear n0_ n1_;clear hb ho5))
 go_loopg [11] k (fun kq v11 w' => ∃ (x3_1 : List (List Int)) (x11_1 : Int),v11 = .int .i64 x11_1 ∧ Aside0 (firsts_all.l0 kq x3_1 l0 (l0.length : Int) x11_1 = some r) ∧ Aside0 (kq ≤ k) ∧ Aside0 (Kd.S (Kd.slice 3 (Kd.int .i64)) 43 w' w.heap.size (fun _ => True) v122 x3_1) ∧ Aside0 (Below w.heap.size w w'))
 case atStart => exact ⟨(y121),(0),(by first | rfl | (simp;done) | (simp [*];done)),H',⟨Nat.le_refl _⟩,⟨by (with_reducible repeat (first | apply Kd.S_alloc | apply Kd.S_drewN | apply Kd.S_drew));exact HO123.out⟩,⟨by repeat (first | (with_reducible first | exact HB.out | apply below_alloc | apply pw_below_drewN | apply below_drew1) | exact HB.out)⟩⟩
 case round =>
  clear H'
  (try clear c2);(try clear c2b0);(try clear c2b1);(try clear p2);(try clear c3);(try clear c3b0);(try clear c3b1);(try clear c4)
  obtain ⟨x3_1,x11_1,rfl,HA,HK1,HO_3,HB⟩ := hrel
  cases gk with
  | zero => exact absurd HA.out (by simp [firsts_all.l0])
  | succ k1 =>
   have H:=HA.out
   clear HA
   simp only [firsts_all.l0] at H
   by_cases c6 : x11_1 < (l0.length : Int)
   · rw [if_pos c6] at H
     have c6b0 : decide (x11_1 < (l0.length : Int)) = true:=decide_eq_true c6
     clear c6
     by_cases c7 : 0 ≤ x11_1
     rotate_left
     · rw [if_neg c7] at H
       exact absurd H (by simp)
     rw [if_pos c7] at H
     have c7b0 : decide (0 ≤ x11_1) = true:=decide_eq_true c7
     clear c7
     by_cases c8 : x11_1 < (l0.length : Int)
     rotate_left
     · rw [if_neg c8] at H
       exact absurd H (by simp)
     rw [if_pos c8] at H
     have c8b0 : decide (x11_1 < (l0.length : Int)) = true:=decide_eq_true c8
     clear c8
     replace H:=Option.bind_eq_some_iff.mp H
     obtain ⟨t125,A90,H⟩ := H
     replace H : (if x11_1 < (x3_1.length : Int) then (firsts_all.l0 k1 (x3_1.set (x11_1 : Int).toNat t125) l0 (l0.length : Int) (wrap64 (x11_1 + 1))) else (none)) = some r:=H
     have A9:=Aside0.mk A90
     clear A90
     by_cases c10 : x11_1 < (x3_1.length : Int)
     rotate_left
     · rw [if_neg c10] at H
       exact absurd H (by simp)
     rw [if_pos c10] at H
     have c10b0 : decide (x11_1 < (x3_1.length : Int)) = true:=decide_eq_true c10
     clear c10
     obtain ⟨y128,hy128⟩ : ∃ y_ : List (List Int),y_ = (x3_1.set (x11_1 : Int).toNat t125) := ⟨_,rfl⟩
     replace H : (firsts_all.l0 k1 y128 l0 (l0.length : Int) (wrap64 (x11_1 + 1))) = some r:=by first | (rw [hy128];with_reducible exact H) | (have H2_:=(Option.bind_some _ _).symm.trans H;rw [hy128];with_reducible exact H2_) | (have H2_:=(Option.bind_some _ _).symm.trans H;with_reducible exact H2_) | with_reducible exact H | (rw [hy128];exact H) | exact H
     have Ny128:=Aside0.mk hy128
     clear hy128
     have H' := Aside0.mk H
     clear H
     have p124 : 0 ≤ (x11_1 : Int) := of_decide_eq_true (by first | (with_reducible assumption) | assumption)
     have q124 : x11_1 < (l0.length : Int) := of_decide_eq_true (by first | (with_reducible assumption) | assumption)
     obtain ⟨ad124,A124_0,c124_0,e124,hx124_0,hl124_0,hi124_0⟩ := at_L13 HR0.out x11_1 p124 q124
     cases e124
     replace hx124_0:=(HB.out.cell (World.block_lt_of_cell? w _ hx124_0)).trans hx124_0
     have HR124_0:=Aside0.mk hi124_0
     have HC124_0:=Aside0.mk hl124_0
     clear hi124_0 hl124_0
     replace p124:=eq_true p124
     replace q124:=eq_true q124
     go_wp2_with (first | ((with_reducible refine gate_callee (f:=50) rfl ?_);refine goesL_ (some 19) rfl rfl Try.func50 (by kernel_rfl) rfl #[.slice A124_0 (rd_L13 l0 x11_1).length c124_0] rfl (by (try simp only [List.map_toArray,List.map_cons,List.map_nil]);first | done | rfl | (simp only [List.length_drop,List.length_take];rfl)) ?_;(with_reducible refine (firsts_set_rising.calls k1 _ _ (rd_L13 l0 x11_1) t125 _ ?side1 ?side2 A9.out).mono ?_);(case side1 => repeat (first | exact (Kd.C_below HR124_0.out HB.out) | (with_reducible refine Kd.C_alloc ?_ _) | (with_reducible refine Kd.C_drewN ?_ _) | (with_reducible refine Kd.C_drew ?_)));(case side2 => exact HC124_0.out);rintro e w12 ⟨v126,rfl,ho0,hb⟩;refine ⟨_,rfl,?_⟩;have n0_:=Aside0.mk (Kd.S_elder' (by (with_reducible repeat (first | apply Kd.S_alloc | apply Kd.S_drewN | apply Kd.S_drew));exact HO_3.out) (Kd.R_base ho0) hb);have n1_:=Aside0.mk (Kd.R_lower ho0 (below_size (by repeat (first | (with_reducible first | exact HB.out | apply below_alloc | apply pw_below_drewN | apply below_drew1) | exact HB.out))));have n2_:=Aside0.mk (below_step (by repeat (first | (with_reducible first | exact HB.out | apply below_alloc | apply pw_below_drewN | apply below_drew1) | exact HB.out)) hb);clear HO_3;clear HB;have HO_3:=n0_;have HO127:=n1_;have HB:=n2_;clear n0_ n1_ n2_;(try clear hb);(try clear hb2);(try clear hk);(try clear hi);(try clear ho0);have p11 : 0 ≤ (x11_1 : Int) := of_decide_eq_true (by first | (with_reducible assumption) | assumption);have q11 : (x11_1 : Int) < ((x3_1.length : Int) : Int) := of_decide_eq_true (by first | (with_reducible assumption) | assumption);obtain ⟨go11,co11,eo11,gb11,gl11,cl11,HG11⟩ := Kd.S_form HO_3.out (by omega);(first | cases eo11 | (injection eo11 with ea_ en_ ec_;(first | subst ea_ | (injection ea_ with ea_;subst ea_));subst ec_;clear en_));have GB11:=Aside0.mk gb11;have GG11:=Aside0.mk HG11;clear gb11 gl11 HG11;obtain ⟨_,ce11,hcl11,hM11,hcc11,hfr11,_,_⟩ := Kd.S_elem HO_3.out [] (x11_1 : Int) p11 q11;obtain ⟨ve11_0,rfl,ge11_0⟩ := hM11;have hx11_0:=hcc11 0 _ rfl;have hf11_0:=hfr11 0;(try simp only [show ((Kd.slice 3 (Kd.int .i64))).sz = 1 from rfl,Nat.mul_one,Nat.add_zero] at hx11_0);(try simp only [show ((Kd.slice 3 (Kd.int .i64))).sz = 1 from rfl,Nat.mul_one,Nat.add_zero] at hf11_0);clear hcl11 hcc11 hfr11;(try clear hM11);replace p11:=eq_true p11;replace q11:=eq_true q11;have n_:=Aside0.mk (Kd.S_mono (ok' := (fun k_ => some k_ ≠ (v126 : Value).ownBlock)) HO_3.out (fun k_ hk => hk.2));clear HO_3;have HO_3:=n_;clear n_;have HX13:=Aside0.mk (show Kd.S (Kd.slice 3 (Kd.int .i64)) 43 w12 w.heap.size (fun k_ => ((fun _ => True)) k_ ∧ ¬ ((fun k_ => some k_ = (v126 : Value).ownBlock)) k_) (.slice (some ⟨go11,0,none⟩) x3_1.length co11) x3_1 from (by (with_reducible repeat (first | apply Kd.S_alloc | apply Kd.S_drewN | apply Kd.S_drew));exact Kd.S_mono HO_3.out (fun k_ hk => ⟨trivial,fun e_ => hk e_⟩)));obtain ⟨oki13,ce13,hcl13,hM13,hcc13,hfr13,hoki13,hH13⟩ := Kd.S_elem HX13.out [] (x11_1 : Int) (of_decide_eq_true (by first | (with_reducible assumption) | assumption)) (by have h_ : (x11_1 : Int) < ((x3_1.length : Int) : Int) := of_decide_eq_true (by first | (with_reducible assumption) | assumption);first | exact h_ | (have e_:=(Kd.S_reads' HO_3.out).1;omega) | simpa using h_);obtain ⟨ve13_0,rfl,ge13_0⟩ := hM13;have HP13:=Kd.S_seg hH13 (of_decide_eq_true (by first | (with_reducible assumption) | assumption)) (by have h_ : (x11_1 : Int) < ((x3_1.length : Int) : Int) := of_decide_eq_true (by first | (with_reducible assumption) | assumption);first | exact h_ | (have e_:=(Kd.S_reads' HO_3.out).1;omega) | simpa using h_) (seg := [v126]) (j:=0) (show 1 ≤ 1 from by decide) (x' := t125) (Kd.M_row (Kd.R_mono (Kd.R_tight rfl (Kd.R_mono (ok' := fun k_ => ((fun _ => True)) k_ ∧ k_ ≠ go11) (Kd.R_apart' (HO127.out) (Kd.S_typed HO_3.out) (by decide)) (fun k_ hk => ⟨trivial,fun e_ => (hk.2) (by rw [e_];rfl)⟩))) (fun _ h_ => Or.inr (h_)))) (fun _ hk => hk) (fun k_ hk_ => ((Kd.R_mono (ok' := fun k_ => ((fun _ => True)) k_ ∧ k_ ≠ go11) (Kd.R_apart' (HO127.out) (Kd.S_typed HO_3.out) (by decide)) (fun k_ hk => ⟨trivial,fun e_ => (hk.2) (by rw [e_];rfl)⟩))).1 k_ hk_.symm);have hx13_0:=hcc13 0 _ rfl;(try simp only [show ((Kd.slice 3 (Kd.int .i64))).sz = 1 from rfl,Nat.mul_one,Nat.add_zero] at hx13_0);have hf13_0:=hfr13 0;(try simp only [show ((Kd.slice 3 (Kd.int .i64))).sz = 1 from rfl,Nat.mul_one,Nat.add_zero] at hf13_0);clear hcl13 hcc13 hfr13;(try clear hM13);clear hoki13 hH13;(try simp only [show ((Kd.slice 3 (Kd.int .i64))).sz = 1 from rfl,Nat.mul_one,Nat.add_zero] at HP13)) | ((with_reducible refine gate_store (t:=43) (p:=20) rfl ?_);refine store_event (t:=43) (p:=20) (v:=?vo_w14) (w1:=(w12.setCell ⟨go11,(x11_1 : Int).toNat,none⟩ (v126))) ?hg ?ho ?hn ?hr ?_;(case ho => rfl);(case hg => rfl);(case hn => rfl);(case hr => first | (go_simp;done) | (go_simp;rfl) | (obtain ⟨A_,c_,e_⟩ := Kd.R_slice HO127.out;rw [e_];first | (go_simp;done) | (go_simp;rfl)));intro w14 hw;have hg : w12.grownBy w14 (some go11) := (by rw [hw];exact HP13.2);have hp_ : Kd.S (Kd.slice 3 (Kd.int .i64)) 43 w14 w.heap.size (fun _ => True) (.slice (some ⟨go11,0,none⟩) x3_1.length co11) y128:=(by rw [hw,Ny128.out];exact HP13.1);clear HP13;have n0_:=Aside0.mk (hp_);have n1_:=Aside0.mk ((by rw [hw];exact below_set (HB.out) GB11.out : Below w.heap.size w w14));clear HO_3;clear HB;clear HO127;have HO_3:=n0_;have HB:=n1_;clear n0_ n1_;clear hg hw hp_))
     go_roundg k1
     case measure => have:=HK1.out;omega
     case rel => exact ⟨(y128),(wrap64 (x11_1 + 1)),(by first | rfl | (simp;done) | (simp [*];done)),H',⟨by have:=HK1.out;omega⟩,⟨by (with_reducible repeat (first | apply Kd.S_alloc | apply Kd.S_drewN | apply Kd.S_drew));exact HO_3.out⟩,⟨by repeat (first | (with_reducible first | exact HB.out | apply below_alloc | apply pw_below_drewN | apply below_drew1) | exact HB.out)⟩⟩
   · rw [if_neg c6] at H
     have c6b0 : decide (x11_1 < (l0.length : Int)) = false:=decide_eq_false c6
     clear c6
     obtain rfl:=Option.some.inj H
     go_wp2
     go_ret
     exact ⟨_,by first | rfl | (simp [errW_none,errW_some] <;> rfl) | (simp [*,errW_none,errW_some] <;> rfl),by (with_reducible repeat (first | apply Kd.S_alloc | apply Kd.S_drewN | apply Kd.S_drew));exact HO_3.out,by repeat (first | (with_reducible first | exact HB.out | apply below_alloc | apply pw_below_drewN | apply below_drew1) | exact HB.out)⟩
def firsts_set_add.l0 : Nat → List Bool → Bool → List Bool → Int → Int → Option (Bool × List Bool)
  | 0,_,_,_,_,_ => none
  | k + 1,x0,x4,x7,x8,x9 => if x9 < x8 then (if 0 ≤ x9 then (if x9 < (x7.length : Int) then (if rdOf false x7 x9 = true then (if x9 < (x0.length : Int) then (if rdOf false x0 x9 = true then (firsts_set_add.l0 k x0 x4 x7 x8 (wrap64 (x9 + 1))) else (firsts_set_add.l0 k (x0.set (x9 : Int).toNat true) true x7 x8 (wrap64 (x9 + 1)))) else (none)) else (firsts_set_add.l0 k x0 x4 x7 x8 (wrap64 (x9 + 1)))) else (none)) else (none)) else (some (x4,x0))
def firsts_set_add.f (k : Nat) (l0 : List Bool) (l1 : List Bool) : Option (Bool × List Bool) := firsts_set_add.l0 k l0 false l1 (l1.length : Int) 0
set_option maxHeartbeats 8000000 in
set_option maxRecDepth 100000 in
theorem firsts_set_add.calls (k : Nat) (P0_ : Nat → Prop) (u9000_ : Value) (l0 : List Bool) (A1 : Option Addr) (c1 : Nat) (l1 : List Bool) (r1 : Bool) (r2 : List Bool) (w0 w : World) (hB : Below w0.heap.size w0 w) (ho0 : Kd.R Kd.bool 4 w w0.heap.size P0_ u9000_ l0) (hr1 : ∀ W_,Kept w W_ (fun k_ => P0_ k_) → Kd.C Kd.bool W_ A1 l1.length l1) (hc1 : l1.length ≤ c1) (h : firsts_set_add.f k l0 l1 = some (r1,r2)) :
    Calls Try.prog 48 #[u9000_,.slice A1 l1.length c1] w fun e w' => e = .returned (.bool r1) ∧ Kd.R Kd.bool 4 w' w0.heap.size (fun k_ => (P0_ k_ ∨ w.heap.size ≤ k_)) u9000_ r2 ∧ Below w0.heap.size w0 w' ∧ Kept w w' (fun k_ => P0_ k_) := by
 have HO0:=Aside0.mk (show Kd.R Kd.bool 4 w w0.heap.size (fun k_ => (P0_ k_ ∨ w.heap.size ≤ k_)) u9000_ l0 from Kd.R_mono ho0 (fun k_ hk => (.inl hk)))
 have HR1:=Aside0.mk hr1
 have HC1:=Aside0.mk hc1
 clear hr1 hc1
 have HK:=Aside0.mk (Kept.refl w (fun k_ => P0_ k_))
 have HW0:=Aside0.mk hB.size
 have HB:=Aside0.mk hB
 clear hB
 have H : (firsts_set_add.l0 k l0 false l1 (l1.length : Int) 0) = some (r1,r2) := h
 clear h
 have H' := Aside0.mk H
 clear H
 go_enter Try.func48,Try.ntmps48
 go_wp2
 go_loopg [4,9] k (fun kq v4 v9 w' => ∃ (x0_1 : List Bool) (x4_1 : Bool) (x9_1 : Int),v4 = .bool x4_1 ∧ v9 = .int .i64 x9_1 ∧ Aside0 (firsts_set_add.l0 kq x0_1 x4_1 l1 (l1.length : Int) x9_1 = some (r1,r2)) ∧ Aside0 (kq ≤ k) ∧ Aside0 (Kd.R Kd.bool 4 w' w0.heap.size (fun k_ => (P0_ k_ ∨ w.heap.size ≤ k_)) u9000_ x0_1) ∧ Aside0 (Kept w w' (fun k_ => P0_ k_)) ∧ Aside0 (Below w0.heap.size w0 w'))
 case atStart => exact ⟨(l0),(false),(0),(by first | rfl | (simp;done) | (simp [*];done)),(by first | rfl | (simp;done) | (simp [*];done)),H',⟨Nat.le_refl _⟩,⟨by (with_reducible repeat (first | apply Kd.R_alloc | apply Kd.R_drewN | apply Kd.R_drew));exact HO0.out⟩,⟨by repeat (first | (with_reducible first | exact HK.out | apply Kept.alloc | apply Kept.drewN | apply Kept.drew) | exact HK.out)⟩,⟨by repeat (first | (with_reducible first | exact HB.out | apply below_alloc | apply pw_below_drewN | apply below_drew1) | exact HB.out)⟩⟩
 case round =>
  clear H'
  (try clear c1);(try clear p2)
  obtain ⟨x0_1,x4_1,x9_1,rfl,rfl,HA,HK1,HO_0,HK,HB⟩ := hrel
  cases gk with
  | zero => exact absurd HA.out (by simp [firsts_set_add.l0])
  | succ k1 =>
   have H:=HA.out
   clear HA
   simp only [firsts_set_add.l0] at H
   by_cases c3 : x9_1 < (l1.length : Int)
   · rw [if_pos c3] at H
     have c3b0 : decide (x9_1 < (l1.length : Int)) = true:=decide_eq_true c3
     clear c3
     by_cases c4 : 0 ≤ x9_1
     rotate_left
     · rw [if_neg c4] at H
       exact absurd H (by simp)
     rw [if_pos c4] at H
     have c4b0 : decide (0 ≤ x9_1) = true:=decide_eq_true c4
     clear c4
     by_cases c5 : x9_1 < (l1.length : Int)
     rotate_left
     · rw [if_neg c5] at H
       exact absurd H (by simp)
     rw [if_pos c5] at H
     have c5b0 : decide (x9_1 < (l1.length : Int)) = true:=decide_eq_true c5
     clear c5
     obtain ⟨bq6,hbq6⟩ : ∃ b_ : Bool,b_ = (rdOf false l1 x9_1) := ⟨_,rfl⟩
     replace H : (if bq6 = true then (if x9_1 < (x0_1.length : Int) then (if rdOf false x0_1 x9_1 = true then (firsts_set_add.l0 k1 x0_1 x4_1 l1 (l1.length : Int) (wrap64 (x9_1 + 1))) else (firsts_set_add.l0 k1 (x0_1.set (x9_1 : Int).toNat true) true l1 (l1.length : Int) (wrap64 (x9_1 + 1)))) else (none)) else (firsts_set_add.l0 k1 x0_1 x4_1 l1 (l1.length : Int) (wrap64 (x9_1 + 1)))) = some (r1,r2) := by rw [← hbq6] at H;exact H
     have Nbq6:=Aside0.mk hbq6
     clear hbq6
     by_cases c7 : bq6 = true
     · subst c7
       have H1 : (if x9_1 < (x0_1.length : Int) then (if rdOf false x0_1 x9_1 = true then (firsts_set_add.l0 k1 x0_1 x4_1 l1 (l1.length : Int) (wrap64 (x9_1 + 1))) else (firsts_set_add.l0 k1 (x0_1.set (x9_1 : Int).toNat true) true l1 (l1.length : Int) (wrap64 (x9_1 + 1)))) else (none)) = some (r1,r2) := by rw [if_pos rfl] at H;exact H
       clear H
       have H:=H1
       clear H1
       by_cases c8 : x9_1 < (x0_1.length : Int)
       rotate_left
       · rw [if_neg c8] at H
         exact absurd H (by simp)
       rw [if_pos c8] at H
       have c8b0 : decide (x9_1 < (x0_1.length : Int)) = true:=decide_eq_true c8
       clear c8
       obtain ⟨bq9,hbq9⟩ : ∃ b_ : Bool,b_ = (rdOf false x0_1 x9_1) := ⟨_,rfl⟩
       replace H : (if bq9 = true then (firsts_set_add.l0 k1 x0_1 x4_1 l1 (l1.length : Int) (wrap64 (x9_1 + 1))) else (firsts_set_add.l0 k1 (x0_1.set (x9_1 : Int).toNat true) true l1 (l1.length : Int) (wrap64 (x9_1 + 1)))) = some (r1,r2) := by rw [← hbq9] at H;exact H
       have Nbq9:=Aside0.mk hbq9
       clear hbq9
       by_cases c10 : bq9 = true
       · subst c10
         have H1 : (firsts_set_add.l0 k1 x0_1 x4_1 l1 (l1.length : Int) (wrap64 (x9_1 + 1))) = some (r1,r2) := by rw [if_pos rfl] at H;exact H
         clear H
         have H:=H1
         clear H1
         have H' := Aside0.mk H
         clear H
         have p129 : 0 ≤ (x9_1 : Int) := of_decide_eq_true (by first | (with_reducible assumption) | assumption)
         have q129 : x9_1 < (l1.length : Int) := of_decide_eq_true (by first | (with_reducible assumption) | assumption)
         obtain ⟨ad129,e129,hx129_0⟩ := Kd.at_bool (Kd.C_kept_now HR1.out HK.out) x9_1 p129 q129
         (try rw [← Nbq6.out] at hx129_0)
         (try rw [← Nbq9.out] at hx129_0)
         cases e129
         replace p129:=eq_true p129
         replace q129:=eq_true q129
         obtain ⟨Ao11,co11,eo11⟩ := Kd.R_slice HO_0.out
         subst eo11
         have p130 : 0 ≤ (x9_1 : Int) := of_decide_eq_true (by first | (with_reducible assumption) | assumption)
         have q130 : x9_1 < (x0_1.length : Int) := of_decide_eq_true (by first | (with_reducible assumption) | assumption)
         obtain ⟨ad130,e130,hx130_0⟩ := Kd.at_bool (Kd.R_reads' HO_0.out).2.2 x9_1 p130 q130
         (try rw [← Nbq6.out] at hx130_0)
         (try rw [← Nbq9.out] at hx130_0)
         cases e130
         replace p130:=eq_true p130
         replace q130:=eq_true q130
         go_wp2
         go_roundg k1
         case measure => have:=HK1.out;omega
         case rel => exact ⟨(x0_1),(x4_1),(wrap64 (x9_1 + 1)),(by first | rfl | (simp;done) | (simp [*];done)),(by first | rfl | (simp;done) | (simp [*];done)),H',⟨by have:=HK1.out;omega⟩,⟨by (with_reducible repeat (first | apply Kd.R_alloc | apply Kd.R_drewN | apply Kd.R_drew));exact HO_0.out⟩,⟨by repeat (first | (with_reducible first | exact HK.out | apply Kept.alloc | apply Kept.drewN | apply Kept.drew) | exact HK.out)⟩,⟨by repeat (first | (with_reducible first | exact HB.out | apply below_alloc | apply pw_below_drewN | apply below_drew1) | exact HB.out)⟩⟩
       · replace c10:=Bool.eq_false_iff.mpr c10
         subst c10
         have H1 : (firsts_set_add.l0 k1 (x0_1.set (x9_1 : Int).toNat true) true l1 (l1.length : Int) (wrap64 (x9_1 + 1))) = some (r1,r2) := by rw [if_neg (show ¬ (false = true) by decide)] at H;exact H
         clear H
         have H:=H1
         clear H1
         obtain ⟨y131,hy131⟩ : ∃ y_ : List Bool,y_ = (x0_1.set (x9_1 : Int).toNat true) := ⟨_,rfl⟩
         replace H : (firsts_set_add.l0 k1 y131 true l1 (l1.length : Int) (wrap64 (x9_1 + 1))) = some (r1,r2) := by first | (rw [hy131];with_reducible exact H) | (have H2_:=(Option.bind_some _ _).symm.trans H;rw [hy131];with_reducible exact H2_) | (have H2_:=(Option.bind_some _ _).symm.trans H;with_reducible exact H2_) | with_reducible exact H | (rw [hy131];exact H) | exact H
         have Ny131:=Aside0.mk hy131
         clear hy131
         have H' := Aside0.mk H
         clear H
         have p129 : 0 ≤ (x9_1 : Int) := of_decide_eq_true (by first | (with_reducible assumption) | assumption)
         have q129 : x9_1 < (l1.length : Int) := of_decide_eq_true (by first | (with_reducible assumption) | assumption)
         obtain ⟨ad129,e129,hx129_0⟩ := Kd.at_bool (Kd.C_kept_now HR1.out HK.out) x9_1 p129 q129
         (try rw [← Nbq6.out] at hx129_0)
         (try rw [← Nbq9.out] at hx129_0)
         cases e129
         replace p129:=eq_true p129
         replace q129:=eq_true q129
         obtain ⟨Ao13,co13,eo13⟩ := Kd.R_slice HO_0.out
         subst eo13
         have p130 : 0 ≤ (x9_1 : Int) := of_decide_eq_true (by first | (with_reducible assumption) | assumption)
         have q130 : x9_1 < (x0_1.length : Int) := of_decide_eq_true (by first | (with_reducible assumption) | assumption)
         obtain ⟨ad130,e130,hx130_0⟩ := Kd.at_bool (Kd.R_reads' HO_0.out).2.2 x9_1 p130 q130
         (try rw [← Nbq6.out] at hx130_0)
         (try rw [← Nbq9.out] at hx130_0)
         cases e130
         replace p130:=eq_true p130
         replace q130:=eq_true q130
         have p12 : 0 ≤ (x9_1 : Int) := of_decide_eq_true (by first | (with_reducible assumption) | assumption)
         have q12 : (x9_1 : Int) < ((x0_1.length : Int) : Int) := of_decide_eq_true (by first | (with_reducible assumption) | assumption)
         obtain ⟨go12,co12,eo12,gb12,gl12,cl12,HG12⟩ := Kd.R_form HO_0.out (by omega)
         (first | cases eo12 | (injection eo12 with ea_ en_ ec_;(first | subst ea_ | (injection ea_ with ea_;subst ea_));subst ec_;clear en_))
         have GB12:=Aside0.mk gb12
         have GG12:=Aside0.mk HG12
         clear gb12 gl12 HG12
         have HMgo12:=Aside0.mk (show (P0_ go12 ∨ w.heap.size ≤ go12) from (HO_0.out.1 _ rfl))
         (first | simp only [add_plain] at hx130_0 | skip)
         obtain ⟨hx12_0,hf12_0⟩ := Kd.R_celln false HO_0.out (x9_1 : Int) p12 q12
         replace p12:=eq_true p12
         replace q12:=eq_true q12
         have HP14:=Kd.R_putg HO_0.out (x9_1 : Int) true
         go_wp2_with (first | ((with_reducible refine gate_store (t:=4) (p:=24) rfl ?_);refine store_event (t:=4) (p:=24) (v:=?vo_w15) (w1:=(wr.setCell ⟨go12,(x9_1 : Int).toNat,none⟩ (.bool true))) ?hg ?ho ?hn ?hr ?_;(case ho => rfl);(case hg => rfl);(case hn => rfl);(case hr => first | (go_simp;done) | (go_simp;rfl));intro w15 hw;have hg : wr.grownBy w15 (some go12) := (by rw [hw];exact HP14.2);have hp_ : Kd.R Kd.bool 4 w15 w0.heap.size (fun k_ => (P0_ k_ ∨ w.heap.size ≤ k_)) (.slice (some ⟨go12,0,none⟩) x0_1.length co13) y131:=(by rw [hw,Ny131.out];exact HP14.1);clear HP14;have n0_:=Aside0.mk (hp_);have n1_:=Aside0.mk ((by rw [hw];exact below_set (HB.out) GB12.out : Below w0.heap.size w0 w15));have n2_:=Aside0.mk (Kept.of_grown (S:=(fun k_ => P0_ k_)) hg (by repeat (first | (with_reducible first | exact HK.out | apply Kept.alloc | apply Kept.drewN | apply Kept.drew) | exact HK.out)) (fun k_ e_ => (HO_0.out.1 k_ e_)));clear HO_0;clear HB;clear HK;have HO_0:=n0_;have HB:=n1_;have HK:=n2_;clear n0_ n1_ n2_;clear hg hw hp_))
         go_roundg k1
         case measure => have:=HK1.out;omega
         case rel => exact ⟨(y131),(true),(wrap64 (x9_1 + 1)),(by first | rfl | (simp;done) | (simp [*];done)),(by first | rfl | (simp;done) | (simp [*];done)),H',⟨by have:=HK1.out;omega⟩,⟨by (with_reducible repeat (first | apply Kd.R_alloc | apply Kd.R_drewN | apply Kd.R_drew));exact HO_0.out⟩,⟨by repeat (first | (with_reducible first | exact HK.out | apply Kept.alloc | apply Kept.drewN | apply Kept.drew) | exact HK.out)⟩,⟨by repeat (first | (with_reducible first | exact HB.out | apply below_alloc | apply pw_below_drewN | apply below_drew1) | exact HB.out)⟩⟩
     · replace c7:=Bool.eq_false_iff.mpr c7
       subst c7
       have H1 : (firsts_set_add.l0 k1 x0_1 x4_1 l1 (l1.length : Int) (wrap64 (x9_1 + 1))) = some (r1,r2) := by rw [if_neg (show ¬ (false = true) by decide)] at H;exact H
       clear H
       have H:=H1
       clear H1
       have H' := Aside0.mk H
       clear H
       have p129 : 0 ≤ (x9_1 : Int) := of_decide_eq_true (by first | (with_reducible assumption) | assumption)
       have q129 : x9_1 < (l1.length : Int) := of_decide_eq_true (by first | (with_reducible assumption) | assumption)
       obtain ⟨ad129,e129,hx129_0⟩ := Kd.at_bool (Kd.C_kept_now HR1.out HK.out) x9_1 p129 q129
       (try rw [← Nbq6.out] at hx129_0)
       cases e129
       replace p129:=eq_true p129
       replace q129:=eq_true q129
       go_wp2
       go_roundg k1
       case measure => have:=HK1.out;omega
       case rel => exact ⟨(x0_1),(x4_1),(wrap64 (x9_1 + 1)),(by first | rfl | (simp;done) | (simp [*];done)),(by first | rfl | (simp;done) | (simp [*];done)),H',⟨by have:=HK1.out;omega⟩,⟨by (with_reducible repeat (first | apply Kd.R_alloc | apply Kd.R_drewN | apply Kd.R_drew));exact HO_0.out⟩,⟨by repeat (first | (with_reducible first | exact HK.out | apply Kept.alloc | apply Kept.drewN | apply Kept.drew) | exact HK.out)⟩,⟨by repeat (first | (with_reducible first | exact HB.out | apply below_alloc | apply pw_below_drewN | apply below_drew1) | exact HB.out)⟩⟩
   · rw [if_neg c3] at H
     have c3b0 : decide (x9_1 < (l1.length : Int)) = false:=decide_eq_false c3
     clear c3
     simp only [Option.some.injEq,Prod.mk.injEq] at H
     obtain ⟨rfl,rfl⟩ := H
     go_wp2
     go_ret
     exact ⟨by first | rfl | (simp [errW_none,errW_some] <;> rfl) | (simp [*,errW_none,errW_some] <;> rfl),by (with_reducible repeat (first | apply Kd.R_alloc | apply Kd.R_drewN | apply Kd.R_drew));exact HO_0.out,by repeat (first | (with_reducible first | exact HB.out | apply below_alloc | apply pw_below_drewN | apply below_drew1) | exact HB.out),by repeat (first | (with_reducible first | exact HK.out | apply Kept.alloc | apply Kept.drewN | apply Kept.drew) | exact HK.out)⟩
end Go.Proofs.Ytfdcfihcfegekaa.P
end

section
namespace Go.Proofs.Ytfdcfihcfegekaa.P
open Go.RowKit Go.Proofs.YtfdcfihcfegekaaW.PrintWords Go.Proofs.YtfdcfihcfegekaaW.PrintLast Go.Proofs.YtfdcfihcfegekaaW.PrintMore Go.Proofs.Ytfdcfihcfegekaa.R
set_option linter.unusedVariables false
set_option linter.unusedSimpArgs false
theorem replicate_split {α : Type} (n j : Nat) (h : j < n) (x y : α) : (List.replicate j x ++ List.replicate (n - j) y).set j x = List.replicate (j + 1) x ++ List.replicate (n - (j + 1)) y:=by
 rw [List.set_append_right _ _ (by simp)]
 simp only [List.length_replicate,Nat.sub_self]
 obtain ⟨d,hd⟩ : ∃ d,n - j = d + 1:=⟨n - j - 1,by omega⟩
 rw [hd,List.replicate_succ,List.set_cons_zero,show n - (j + 1) = d by omega,List.replicate_succ']
 simp
theorem sets_any (g : Nat) (w : World) (A0 A1 : Option Addr) (n0 n1 c0 c1 : Nat) (h0 : w.cell? ⟨g,0,none⟩ = some (.slice A0 n0 c0)) (h1 : w.cell? ⟨g,1,none⟩ = some (.slice A1 n1 c1)) (hn0 : n0 ≤ 11728124029610) (hn1 : n1 < 281474976710656) :
    Calls Try.prog 44 #[.pointer (some ⟨g,0,none⟩)] w fun e w' => ∃ v0_ : Value,e = .returned (v0_) ∧ Kd.S (Kd.slice 4 Kd.bool) 84 w' w.heap.size (fun _ => True) v0_ (List.replicate n0 (List.replicate (n1 + 1) false)) ∧ Below w.heap.size w w' := by
 have hg:=World.block_lt_of_cell? w _ h0
 simp only at hg
 have HC : Aside0 (∀ W : World,Below w.heap.size w W → W.cell? ⟨g,0,none⟩ = some (.slice A0 n0 c0) ∧ W.cell? ⟨g,1,none⟩ = some (.slice A1 n1 c1)) := ⟨fun W hW => ⟨(hW.cell (p:=⟨g,0,none⟩) hg).trans h0,(hW.cell (p:=⟨g,1,none⟩) hg).trans h1⟩⟩
 have hu64:=Try.underlying82
 have hu71:=Try.underlying84
 have d0 : decide (0 ≤ (n0 : Int)) = true:=decide_eq_true (by omega)
 go_enter Try.func44,Try.ntmps44
 go_wp2_with ((with_reducible refine gate_dst (N:=11) rfl ?_);refine Kd.S_make (Kd.slice 4 Kd.bool) _ 84 rfl (N:=11) rfl 82 _ _ rfl (n0 : Int) rfl rfl Try.underlying82 (.slice none 0 0) 24 info84 rfl (by decide) (by omega) [] (ok:=fun _ => True) (okp:=fun _ => True) ⟨_,rfl,Kd.R_nil _ _ _ _ _⟩ (fun _ hk => hk) trivial (by omega) (by simp only [Int.toNat_natCast];omega) (Below.refl _ _) (Nat.le_refl _) ?_;intro v1 w1 ho hb hg_ hnew_;clear hg_ hnew_;rw [Int.toNat_natCast] at ho;have HO:=Aside0.mk ho;have HB:=Aside0.mk hb;clear ho hb h0 h1;obtain ⟨Ao,co,eo⟩ := Kd.S_slice HO.out;subst eo)
 simp only [List.length_replicate] at HO ⊢
 go_loopg [14] n0 (fun kq v14 wr => ∃ j : Nat,v14 = .int .i64 j ∧ j ≤ n0 ∧ n0 - j ≤ kq ∧ Aside0 (Kd.S (Kd.slice 4 Kd.bool) 84 wr w.heap.size (fun _ => True) (.slice Ao n0 co) (List.replicate j (List.replicate (n1 + 1) false) ++ List.replicate (n0 - j) [])) ∧ Aside0 (Below w.heap.size w wr))
 case atStart => exact ⟨0,rfl,by omega,by omega,⟨by simpa using HO.out⟩,HB⟩
 case round =>
  clear HO HB
  obtain ⟨j,rfl,hj,hm,HS,HB⟩ := hrel
  by_cases hlt : j < n0
  · have hltz : (j : Int) < (n0 : Int) := by omega
    have d1 : decide ((j : Int) < (n0 : Int)) = true:=decide_eq_true hltz
    obtain ⟨q0,q1⟩ := HC.out wr HB.out
    have HL:=Aside0.mk hlt
    have HM:=Aside0.mk hm
    have hlen : (List.replicate j (List.replicate (n1 + 1) false) ++ List.replicate (n0 - j) []).length = n0:=by simp;omega
    have HSP : Aside0 (∃ go,Ao = some ⟨go,0,none⟩ ∧ w.heap.size ≤ go) := ⟨by
     obtain ⟨g',c',hv,hge,_⟩ := Kd.S_form HS.out (by omega)
     injection hv with hA hn hc
     exact ⟨g',hA,hge⟩⟩
    obtain ⟨go,eA,hge⟩ := HSP.out
    cases eA
    clear HSP
    have HLEN:=Aside0.mk hlen
    have HGE:=Aside0.mk hge
    clear hlen hge hlt hm
    have p0 : (0 ≤ (j : Int)) = True:=eq_true (by omega)
    have p1 : ((j : Int) < (n0 : Int)) = True:=eq_true hltz
    have htn : ((n1 : Int) + 1).toNat = n1 + 1:=by omega
    have hbnd : ((n1 : Int) + 1).toNat * 1 ≤ 281474976710656:=by omega
    have HTN:=Aside0.mk htn
    clear htn
    go_wp2_with (first
      | ((with_reducible refine gate_dst (N:=26) rfl ?_);refine Kd.R_make Kd.bool _ 4 rfl (N:=26) rfl 84 _ _ rfl ((n1 : Int) + 1) rfl rfl Try.underlying84 (.bool false) 1 info4 rfl (by decide) (by omega) false (ok:=fun _ => True) (okp:=fun _ => True) rfl (fun _ hk => hk) trivial (by omega) hbnd (Below.refl _ _) (Nat.le_refl _) ?_;intro v2 w2 ho2 hb2 hg_ hnew_;clear hg_;rw [HTN.out] at ho2;have HR2:=Aside0.mk ho2;have HB2:=Aside0.mk hb2;have HNEW:=Aside0.mk hnew_;clear ho2 hb2 hnew_ q0 q1;
         have HS2:=Aside0.mk (Kd.S_mono (Kd.S_elder' HS.out (Kd.R_base HR2.out) HB2.out) (fun k_ hk => hk.2));obtain ⟨hp1,hp2,u_,hcell,hfr⟩ := S_put rfl (by decide) HS2.out (Kd.R_lower HR2.out HB.out.size) (j : Int) (by omega) (by rw [HLEN.out];exact hltz);rw [Int.toNat_natCast] at hp1 hp2 hcell hfr;have HP1:=Aside0.mk hp1;clear hp1 hp2;obtain ⟨A2,c2,rfl⟩ := Kd.R_slice HR2.out))
    go_roundg (n0 - (j + 1))
    case measure => have:=HM.out;have:=HL.out;omega
    case rel => exact ⟨j + 1,by go_num,by have:=HL.out;omega,Nat.le_refl _,⟨by rw [← replicate_split n0 j HL.out];simpa only [List.length_replicate] using HP1.out⟩,⟨below_set (HB.out.trans (HB2.out.mono HB.out.size)) HGE.out⟩⟩
  · have hltz : ¬ (j : Int) < (n0 : Int) := by omega
    have d1 : decide ((j : Int) < (n0 : Int)) = false:=decide_eq_false hltz
    obtain rfl : j = n0:=by omega
    go_wp2
    go_ret
    exact ⟨_,rfl,by simpa using HS.out,HB.out⟩
def begins_l0 (em : List Bool) (first : List (List Bool)) (l : List S53) : Nat → List Bool → Int → Option (List Bool × Bool)
  | 0,_,_ => none
  | k + 1,out,i =>
    if i < (l.length : Int) then
      if 0 ≤ i then
        if (rd_T53 l i).f0 = true then
          if 0 ≤ (rd_T53 l i).f1 then if (rd_T53 l i).f1 < (out.length : Int) then some (out.set (rd_T53 l i).f1.toNat true,false) else none else none
        else if 0 ≤ (rd_T53 l i).f1 then
          if (rd_T53 l i).f1 < (first.length : Int) then
            (firsts_set_add.f k out (first.getD (rd_T53 l i).f1.toNat [])).bind fun b =>
              if (rd_T53 l i).f1 < (em.length : Int) then
                if rdOf false em (rd_T53 l i).f1 = true then begins_l0 em first l k b.2 (wrap64 (i + 1)) else some (b.2,false)
              else none
          else none
        else none
      else none
    else some (out,true)
def begins_f (k : Nat) (nt : Nat) (em : List Bool) (first : List (List Bool)) (l : List S53) : Option (List Bool × Bool) := if nt < 281474976710656 then begins_l0 em first l k (List.replicate (nt + 1) false) 0 else none
set_option maxHeartbeats 2000000 in
theorem begins_any (k g : Nat) (w : World) (A1 A5 A6 AL : Option Addr) (n1 c1 c5 c6 cL : Nat) (em : List Bool) (first : List (List Bool)) (l : List S53) (r1 : List Bool) (r2 : Bool)
    (h1 : w.cell? ⟨g,1,none⟩ = some (.slice A1 n1 c1)) (h5 : w.cell? ⟨g,5,none⟩ = some (.slice A5 em.length c5)) (h6 : w.cell? ⟨g,6,none⟩ = some (.slice A6 first.length c6))
    (hr5 : Kd.C Kd.bool w A5 em.length em) (hr6 : Kd.C (Kd.slice 4 Kd.bool) w A6 first.length first) (hrL : Kd.C k53 w AL l.length l) (h : begins_f k n1 em first l = some (r1,r2)) :
    Calls Try.prog 47 #[.pointer (some ⟨g,0,none⟩),.slice AL l.length cL] w fun e w' => ∃ v0_ : Value,e = .returned (.tuple #[v0_,.bool r2]) ∧ Kd.R Kd.bool 4 w' w.heap.size (fun _ => True) v0_ r1 ∧ Below w.heap.size w w' := by
 unfold begins_f at h
 split at h
 case isFalse => simp at h
 rename_i hn1
 have HL:=Aside0.mk h
 have hg:=World.block_lt_of_cell? w _ h1
 simp only at hg
 have HC : Aside0 (∀ W : World,Below w.heap.size w W → W.cell? ⟨g,1,none⟩ = some (.slice A1 n1 c1) ∧ W.cell? ⟨g,5,none⟩ = some (.slice A5 em.length c5) ∧ W.cell? ⟨g,6,none⟩ = some (.slice A6 first.length c6)) := ⟨fun W hW => ⟨(hW.cell (p:=⟨g,1,none⟩) hg).trans h1,(hW.cell (p:=⟨g,5,none⟩) hg).trans h5,(hW.cell (p:=⟨g,6,none⟩) hg).trans h6⟩⟩
 have HR5:=Aside0.mk hr5
 have HR6:=Aside0.mk hr6
 have HRL:=Aside0.mk hrL
 clear h h5 h6 hr5 hr6 hrL
 have hu71:=Try.underlying84
 have htn : Aside0 (((n1 : Int) + 1).toNat = n1 + 1) := ⟨by omega⟩
 have hbnd : ((n1 : Int) + 1).toNat * 1 ≤ 281474976710656:=by omega
 go_enter Try.func47,Try.ntmps47
 go_wp2_with ((with_reducible refine gate_dst (N:=16) rfl ?_);refine Kd.R_make Kd.bool _ 4 rfl (N:=16) rfl 84 _ _ rfl ((n1 : Int) + 1) rfl rfl Try.underlying84 (.bool false) 1 info4 rfl (by decide) (by omega) false (ok:=fun _ => True) (okp:=fun _ => True) rfl (fun _ hk => hk) trivial (by omega) hbnd (Below.refl _ _) (Nat.le_refl _) ?_;intro v2 w2 ho2 hb2 hg_ hnew_;clear hg_ hnew_ h1;rw [htn.out] at ho2;have HR:=Aside0.mk ho2;have HB:=Aside0.mk hb2;clear ho2 hb2;obtain ⟨Ao,co,eo⟩ := Kd.R_slice HR.out;subst eo)
 simp only [List.length_replicate] at HR ⊢
 go_loopg [19] k (fun kq v19 wr => ∃ (out : List Bool) (i : Int),v19 = .int .i64 i ∧ Aside0 (out.length = n1 + 1) ∧ Aside0 (begins_l0 em first l kq out i = some (r1,r2)) ∧ Aside0 (kq ≤ k) ∧ Aside0 (Kd.R Kd.bool 4 wr w.heap.size (fun _ => True) (.slice Ao (n1 + 1) co) out) ∧ Aside0 (Below w.heap.size w wr))
 case atStart => exact ⟨_,0,rfl,⟨by simp⟩,HL,⟨Nat.le_refl _⟩,HR,HB⟩
 case round =>
  clear HR HB HL hbnd
  obtain ⟨out,i,rfl,LN,HA,HK,HR,HB⟩ := hrel
  cases gk with
  | zero => exact absurd HA.out (by simp [begins_l0])
  | succ k1 =>
   have H:=HA.out
   clear HA
   simp only [begins_l0] at H
   by_cases hi : i < (l.length : Int)
   · rw [if_pos hi] at H
     by_cases hi0 : 0 ≤ i
     rotate_left
     · rw [if_neg hi0] at H;exact absurd H (by simp)
     rw [if_pos hi0] at H
     have AT : Aside0 (∀ W : World,Below w.heap.size w W → ∃ ad,AL = some ad ∧ W.cell? (ad.add (i.toNat * 2)) = some (.bool (rd_T53 l i).f0) ∧ W.cell? ⟨(ad.add (i.toNat * 2)).block,(ad.add (i.toNat * 2)).off + 1,none⟩ = some (.int .i64 (rd_T53 l i).f1)) := ⟨fun W hW => at_T53 (Kd.C_below HRL.out hW) i hi0 hi⟩
     generalize rd_T53 l i = p at AT H
     obtain ⟨ad,ead,e0,e1⟩ := AT.out wr HB.out
     cases ead
     have d0 : decide (i < (l.length : Int)) = true:=decide_eq_true hi
     have p0:=eq_true hi0
     have p1:=eq_true hi
     clear hi hi0
     obtain ⟨tk,n⟩ := p
     simp only at H e0 e1
     obtain ⟨q1,q5,q6⟩ := HC.out wr HB.out
     cases tk with
     | true =>
      rw [if_pos rfl] at H
      by_cases hn0 : 0 ≤ n
      rotate_left
      · rw [if_neg hn0] at H;exact absurd H (by simp)
      rw [if_pos hn0] at H
      by_cases hnl : n < (out.length : Int)
      rotate_left
      · rw [if_neg hnl] at H;exact absurd H (by simp)
      rw [if_pos hnl] at H
      obtain ⟨rfl,rfl⟩ := Prod.mk.inj (Option.some.inj H)
      clear H
      obtain ⟨go,c',hv,hge,_⟩ := Kd.R_form HR.out (by rw [LN.out];omega)
      injection hv with hA hlen hc
      cases hA
      clear hlen hc
      have HRa:=Kd.R_alloc HR.out (Obj.cells #[.bool true,.int .i64 n] 53)
      obtain ⟨hx,hf⟩ := Kd.R_celln false HRa n hn0 (by rw [LN.out] at hnl;exact hnl)
      have HP:=Aside0.mk (Kd.R_alloc (Kd.R_putg HR.out n true).1 (Obj.cells #[.bool true,.int .i64 n] 53))
      have HGE:=Aside0.mk hge
      clear HRa hge
      have p2:=eq_true hn0
      have p3 : (n < (n1 : Int) + 1) = True:=eq_true (by rw [LN.out] at hnl;omega)
      clear hn0 hnl
      go_wp2
      go_ret2
      exact ⟨_,rfl,HP.out,below_alloc (below_set HB.out HGE.out) _⟩
     | false =>
      rw [if_neg (by simp)] at H
      by_cases hn0 : 0 ≤ n
      rotate_left
      · rw [if_neg hn0] at H;exact absurd H (by simp)
      rw [if_pos hn0] at H
      by_cases hnl : n < (first.length : Int)
      rotate_left
      · rw [if_neg hnl] at H;exact absurd H (by simp)
      rw [if_pos hnl] at H
      obtain ⟨⟨ab,ao⟩,hadd,H2⟩ := Option.bind_eq_some_iff.1 H
      clear H
      simp only at H2
      have HAD:=Aside0.mk hadd
      clear hadd
      by_cases hne : n < (em.length : Int)
      rotate_left
      · rw [if_neg hne] at H2;exact absurd H2 (by simp)
      rw [if_pos hne] at H2
      have HN:=Aside0.mk H2
      clear H2
      obtain ⟨go,c',hv,hge,hgl,_⟩ := Kd.R_form HR.out (by rw [LN.out];omega)
      injection hv with hA hlen hc
      cases hA
      clear hlen hc
      have HGE:=Aside0.mk hge
      have HGL:=Aside0.mk hgl
      obtain ⟨ad6,A7,c7,e6,hx6,hle7,hC7⟩ := at_rows HR6.out n hn0 hnl
      obtain ⟨ad5,e5,hx5⟩ : ∃ ad,A5 = some ad ∧ w.cell? (ad.add n.toNat) = some (.bool (rdOf false em n)) := by
       obtain ⟨ad,c,e,_,hK,hc0⟩ := Kd.C_get HR5.out false n hn0 hne
       refine ⟨ad,e,?_⟩
       obtain rfl : c = [Value.bool (em.getD n.toNat false)] := hK
       have:=hc0 0 _ rfl
       rw [show Kd.bool.sz = 1 from rfl,Nat.mul_one,Nat.add_zero] at this
       exact this
      cases e6
      cases e5
      generalize first.getD n.toNat [] = row at HAD hx6 hle7 hC7
      generalize rdOf false em n = eb at HN hx5
      have B6:=World.block_lt_of_cell? w _ hx6
      have B5:=World.block_lt_of_cell? w _ hx5
      have OLD : Aside0 (∀ W : World,Below w.heap.size w W → W.cell? (ad6.add n.toNat) = some (.slice A7 row.length c7) ∧ W.cell? (ad5.add n.toNat) = some (.bool eb)) := ⟨fun W hW => ⟨(hW.cell (p:=ad6.add n.toNat) B6).trans hx6,(hW.cell (p:=ad5.add n.toNat) B5).trans hx5⟩⟩
      have HBa : Aside0 (Below w.heap.size w (wr.alloc (Obj.cells #[.bool false,.int .i64 n] 53)).drew) := ⟨below_drew1 (below_alloc HB.out _)⟩
      have hcon:=firsts_set_add.calls k1 (fun k_ => k_ = go) (.slice (some ⟨go,0,none⟩) (n1 + 1) co) out A7 c7 row ab ao w (wr.alloc (Obj.cells #[.bool false,.int .i64 n] 53)).drew HBa.out (Kd.R_mono (Kd.R_tight rfl (Kd.R_drew (Kd.R_alloc HR.out _))) (fun k_ hk => by simpa [Value.ownBlock] using hk)) (Kd.C_kept_came Kd.heap_bool hC7 HBa.out (fun k_ hk => by rw [hk];exact HGE.out)) hle7 HAD.out
      clear hx6 hle7 hC7 hx5 B6 B5 HAD hge hgl
      obtain ⟨x6,x5⟩ := OLD.out wr HB.out
      have p2:=eq_true hn0
      have p3:=eq_true hnl
      have p4:=eq_true hne
      clear hn0 hnl hne
      have KEEP : Aside0 (∀ w3 : World,Below w.heap.size w w3 → Kept (wr.alloc (Obj.cells #[.bool false,.int .i64 n] 53)).drew w3 (fun k_ => k_ = go) → (w3.cell? ⟨g,5,none⟩ = some (.slice (some ad5) em.length c5) ∧ w3.cell? ⟨g,6,none⟩ = some (.slice (some ad6) first.length c6) ∧ w3.cell? ⟨wr.heap.size,1,none⟩ = some (.int .i64 n) ∧ w3.cell? (ad6.add n.toNat) = some (.slice A7 row.length c7) ∧ w3.cell? (ad5.add n.toNat) = some (.bool eb))) := ⟨fun w3 h3 hk => ⟨(HC.out w3 h3).2.1,(HC.out w3 h3).2.2,cell_kept (by simp) hk (by have:=HGL.out;simp;omega),(OLD.out w3 h3).1,(OLD.out w3 h3).2⟩⟩
      go_wp2
      go_region_held3 (fun w3 => w3.cell? ⟨g,5,none⟩ = some (.slice (some ad5) em.length c5) ∧ w3.cell? ⟨g,6,none⟩ = some (.slice (some ad6) first.length c6) ∧ w3.cell? ⟨wr.heap.size,1,none⟩ = some (.int .i64 n) ∧ w3.cell? (ad6.add n.toNat) = some (.slice A7 row.length c7) ∧ w3.cell? (ad5.add n.toNat) = some (.bool eb))
        (first | go_keep | exact KEEP.out _ HB3.out HK3.out)
        (first | (go_at_call 48;(with_reducible refine hcon.mono ?_);rintro e w3 ⟨rfl,hR3,hb3,hk3⟩;have HR3:=Aside0.mk hR3;have HB3:=Aside0.mk hb3;have HK3:=Aside0.mk hk3;clear hR3 hb3 hk3))
      obtain ⟨x5,_,y1,_,z5⟩ := KEEP.out w3 HB3.out HK3.out
      have LN2 : Aside0 (ao.length = n1 + 1) := ⟨((Kd.R_reads' HR3.out).1).symm⟩
      have HR4:=Aside0.mk (Kd.R_mono (ok' := fun _ => True) HR3.out (fun _ _ => trivial))
      clear KEEP HR3 HK3 hcon q1 q5 q6 e0 e1 x6 HR HB HBa
      cases eb with
      | true =>
       have HN2:=HN.out
       rw [if_pos rfl] at HN2
       have HN3:=Aside0.mk HN2
       clear HN HN2
       go_wp2
       go_quiet (fail)
       go_wp2
       go_roundg k1
       case measure => omega
       case rel => exact ⟨ao,_,rfl,LN2,HN3,⟨by have:=HK.out;omega⟩,⟨Kd.R_drewN HR4.out _⟩,⟨pw_below_drewN HB3.out _⟩⟩
      | false =>
       have HN2:=HN.out
       rw [if_neg (by simp)] at HN2
       obtain ⟨rfl,rfl⟩ := Prod.mk.inj (Option.some.inj HN2)
       clear HN HN2
       go_wp2
       go_quiet (fail)
       go_wp2
       go_ret2
       exact ⟨_,rfl,Kd.R_drewN HR4.out _,pw_below_drewN HB3.out _⟩
   · rw [if_neg hi] at H
     obtain ⟨rfl,rfl⟩ := Prod.mk.inj (Option.some.inj H)
     clear H
     have d0 : decide (i < (l.length : Int)) = false:=decide_eq_false hi
     clear hi
     go_wp2
     go_ret2
     exact ⟨_,rfl,HR.out,HB.out⟩
end Go.Proofs.Ytfdcfihcfegekaa.P
end

section
namespace Go.Proofs.Ytfdcfihcfegekaa.P
open Go.RowKit Go.Proofs.YtfdcfihcfegekaaW.PrintWords Go.Proofs.YtfdcfihcfegekaaW.PrintLast Go.Proofs.YtfdcfihcfegekaaW.PrintMore
attribute [local go_sem] max2_int min2_int max_two min_two max_three min_three max_four min_four   -- for this text's walks alone
set_option linter.unusedVariables false
set_option linter.unusedSimpArgs false
def firsts_Empty.f (k : Nat) (l0_0 : List ByteArray) (l0_1 : List (S61)) (a0_2 : Int) (a0_3 : Int) (l0_4 : List (S30)) : Option (List Bool) := (firsts_closed.f k l0_0 l0_1 a0_2 a0_3 l0_4 false).bind fun t109 => (some t109)
set_option maxHeartbeats 8000000 in
set_option maxRecDepth 100000 in
theorem firsts_Empty.calls (k : Nat) (A0_0 : Option Addr) (c0_0 : Nat) (l0_0 : List ByteArray) (A0_1 : Option Addr) (c0_1 : Nat) (l0_1 : List (S61)) (a0_2 : Int) (a0_3 : Int) (A0_4 : Option Addr) (c0_4 : Nat) (l0_4 : List (S30)) (r : List Bool) (w : World) (hr0_0 : Kd.C Kd.string w A0_0 l0_0.length l0_0) (hc0_0 : l0_0.length ≤ c0_0) (hr0_1 : Kd.C k61 w A0_1 l0_1.length l0_1) (hc0_1 : l0_1.length ≤ c0_1) (hr0_4 : Kd.C k30 w A0_4 l0_4.length l0_4) (hc0_4 : l0_4.length ≤ c0_4) (h : firsts_Empty.f k l0_0 l0_1 a0_2 a0_3 l0_4 = some r) :
    Calls Try.prog 52 #[.agg #[.slice A0_0 l0_0.length c0_0,.slice A0_1 l0_1.length c0_1,.int .i64 a0_2,.int .i64 a0_3,.slice A0_4 l0_4.length c0_4]] w fun e w' => ∃ v0_ : Value,e = .returned (v0_) ∧ Kd.R Kd.bool 4 w' w.heap.size (fun _ => True) v0_ r ∧ Below w.heap.size w w' := by
 have hu26:=Try.underlying26
 have HR0_0:=Aside0.mk hr0_0
 have HC0_0:=Aside0.mk hc0_0
 clear hr0_0 hc0_0
 have HR0_1:=Aside0.mk hr0_1
 have HC0_1:=Aside0.mk hc0_1
 clear hr0_1 hc0_1
 have HR0_4:=Aside0.mk hr0_4
 have HC0_4:=Aside0.mk hc0_4
 clear hr0_4 hc0_4
 have HB:=Aside0.mk (Below.refl w.heap.size w)
 have H : ((firsts_closed.f k l0_0 l0_1 a0_2 a0_3 l0_4 false).bind fun t109 => (some t109)) = some r:=h
 clear h
 replace H:=Option.bind_eq_some_iff.mp H
 obtain ⟨t109,A20,H⟩ := H
 replace H : (some t109) = some r:=H
 have A2:=Aside0.mk A20
 clear A20
 obtain rfl:=Option.some.inj H
 go_enter Try.func52,Try.ntmps52
 go_wp2_with (first | ((with_reducible refine gate_dst (N:=1) rfl ?_);refine box_event ?hg (N:=1) ?hd (cs:=#[.slice A0_0 l0_0.length c0_0,.slice A0_1 l0_1.length c0_1,.int .i64 a0_2,.int .i64 a0_3,.slice A0_4 l0_4.length c0_4]) (t:=26) ?hr ?_;(case hd => rfl);(case hg => rfl);(case hr => first | (go_simp;done) | (go_simp;rfl));intro gb108 hg w3 hbox hb;have n0_:=Aside0.mk (below_step (by repeat (first | (with_reducible first | exact HB.out | apply below_alloc | apply pw_below_drewN | apply below_drew1) | exact HB.out)) hb);have n1_:=Aside0.mk (hbox);have n2_:=Aside0.mk ((by rw [hg];exact (below_size (by repeat (first | (with_reducible first | exact HB.out | apply below_alloc | apply pw_below_drewN | apply below_drew1) | exact HB.out))) : w.heap.size ≤ gb108));have n3_:=Aside0.mk ((by rw [hg];exact (below_size (by repeat (first | (with_reducible first | exact HB.out | apply below_alloc | apply pw_below_drewN | apply below_drew1) | exact HB.out))) : w.heap.size ≤ gb108));clear HB;have HB:=n0_;have BK108:=n1_;have GW108:=n2_;have GE108:=n3_;clear n0_ n1_ n2_ n3_;clear hb hbox hg;have hcz4_0 : w3.cell? ⟨gb108,0,none⟩ = some (.slice A0_0 l0_0.length c0_0) := (blk_cell BK108.out 0).trans rfl;have hcz4_1 : w3.cell? ⟨gb108,1,none⟩ = some (.slice A0_1 l0_1.length c0_1) := (blk_cell BK108.out 1).trans rfl;have hcz4_2 : w3.cell? ⟨gb108,2,none⟩ = some (.int .i64 a0_2) := (blk_cell BK108.out 2).trans rfl;have hcz4_3 : w3.cell? ⟨gb108,3,none⟩ = some (.int .i64 a0_3) := (blk_cell BK108.out 3).trans rfl;have hcz4_4 : w3.cell? ⟨gb108,4,none⟩ = some (.slice A0_4 l0_4.length c0_4) := (blk_cell BK108.out 4).trans rfl;have hfz4_0:=blk_frozen BK108.out 0;have hfz4_1:=blk_frozen BK108.out 1;have hfz4_2:=blk_frozen BK108.out 2;have hfz4_3:=blk_frozen BK108.out 3;have hfz4_4:=blk_frozen BK108.out 4) | ((with_reducible refine gate_callee (f:=54) rfl ?_);refine goesL_ (some 4) rfl rfl Try.func54 (by kernel_rfl) rfl #[.agg #[.slice A0_0 l0_0.length c0_0,.slice A0_1 l0_1.length c0_1,.int .i64 a0_2,.int .i64 a0_3,.slice A0_4 l0_4.length c0_4],.bool false] rfl (by (try simp only [List.map_toArray,List.map_cons,List.map_nil]);first | done | rfl | (simp only [List.length_drop,List.length_take];rfl)) ?_;(with_reducible refine (firsts_closed.calls k _ _ l0_0 _ _ l0_1 a0_2 a0_3 _ _ l0_4 false t109 _ ?side1 ?side2 ?side3 ?side4 ?side5 ?side6 A2.out).mono ?_);(case side1 => repeat (first | exact (Kd.C_below HR0_0.out HB.out) | (with_reducible refine Kd.C_alloc ?_ _) | (with_reducible refine Kd.C_drewN ?_ _) | (with_reducible refine Kd.C_drew ?_)));(case side2 => exact HC0_0.out);(case side3 => repeat (first | exact (Kd.C_below HR0_1.out HB.out) | (with_reducible refine Kd.C_alloc ?_ _) | (with_reducible refine Kd.C_drewN ?_ _) | (with_reducible refine Kd.C_drew ?_)));(case side4 => exact HC0_1.out);(case side5 => repeat (first | exact (Kd.C_below HR0_4.out HB.out) | (with_reducible refine Kd.C_alloc ?_ _) | (with_reducible refine Kd.C_drewN ?_ _) | (with_reducible refine Kd.C_drew ?_)));(case side6 => exact HC0_4.out);rintro e w5 ⟨v110,rfl,ho0,hb⟩;refine ⟨_,rfl,?_⟩;have n0_:=Aside0.mk (Kd.R_lower ho0 (below_size (by repeat (first | (with_reducible first | exact HB.out | apply below_alloc | apply pw_below_drewN | apply below_drew1 | refine below_set ?_ GE108.out) | exact HB.out))));have n1_:=Aside0.mk (blk_below (g:=gb108) (o := .cells #[.slice A0_0 l0_0.length c0_0,.slice A0_1 l0_1.length c0_1,.int .i64 a0_2,.int .i64 a0_3,.slice A0_4 l0_4.length c0_4] 26 (0,0)) (by (with_reducible repeat (first | refine blk_drewN ?_ _ | refine blk_drew ?_ | refine blk_alloc ?_ _));exact BK108.out) hb);have n2_:=Aside0.mk (below_step (by repeat (first | (with_reducible first | exact HB.out | apply below_alloc | apply pw_below_drewN | apply below_drew1 | refine below_set ?_ GE108.out) | exact HB.out)) hb);clear BK108;clear HB;have HO111:=n0_;have BK108:=n1_;have HB:=n2_;clear n0_ n1_ n2_;(try clear hb);(try clear hb2);(try clear hk);(try clear hi);(try clear ho0)))
 go_ret
 exact ⟨_,by first | rfl | (simp [errW_none,errW_some] <;> rfl) | (simp [*,errW_none,errW_some] <;> rfl),by (with_reducible repeat (first | apply Kd.R_alloc | apply Kd.R_drewN | apply Kd.R_drew));exact HO111.out,by repeat (first | (with_reducible first | exact HB.out | apply below_alloc | apply pw_below_drewN | apply below_drew1 | refine below_set ?_ GE108.out) | exact HB.out)⟩
end Go.Proofs.Ytfdcfihcfegekaa.P
end

section
namespace Go.Proofs.Ytfdcfihcfegekaa.P
open Go.RowKit Go.Proofs.YtfdcfihcfegekaaW.PrintWords Go.Proofs.YtfdcfihcfegekaaW.PrintLast Go.Proofs.YtfdcfihcfegekaaW.PrintMore Go.Proofs.Ytfdcfihcfegekaa.R
set_option linter.unusedVariables false
set_option linter.unusedSimpArgs false
structure StudyAt (w : World) (G : Nat) (A0_0 : Option Addr) (n0 c0_0 : Nat) (A0_1 : Option Addr) (n1 c0_1 : Nat) (a0_2 a0_3 : Int) (A0_4 : Option Addr) (n4 c0_4 : Nat) (A5 : Option Addr) (c5 : Nat) (A6 : Option Addr) (c6 : Nat) (okE okF : Nat → Prop) (em : List Bool) (first : List (List Bool)) (W : World) : Prop where
  bel : Below w.heap.size w W
  g : W.heap[G]? = some (.cells #[.slice A0_0 n0 c0_0,.slice A0_1 n1 c0_1,.int .i64 a0_2,.int .i64 a0_3,.slice A0_4 n4 c0_4,.slice A5 em.length c5,.slice A6 n0 c6] 93 (0,0))
  ge : w.heap.size ≤ G
  re : Kd.R Kd.bool 4 W w.heap.size okE (.slice A5 em.length c5) em
  rf : Kd.S (Kd.slice 4 Kd.bool) 84 W w.heap.size okF (.slice A6 n0 c6) first
  e1 : ∀ k,okE k → k ≠ G
  f1 : ∀ k,okF k → k ≠ G ∧ ¬ okE k
theorem StudyAt.below {w : World} {G : Nat} {A0_0 : Option Addr} {n0 c0_0 : Nat} {A0_1 : Option Addr} {n1 c0_1 : Nat} {a0_2 a0_3 : Int} {A0_4 : Option Addr} {n4 c0_4 : Nat} {A5 : Option Addr} {c5 : Nat} {A6 : Option Addr} {c6 : Nat} {okE okF : Nat → Prop} {em : List Bool} {first : List (List Bool)} {W W' : World} (h : StudyAt w G A0_0 n0 c0_0 A0_1 n1 c0_1 a0_2 a0_3 A0_4 n4 c0_4 A5 c5 A6 c6 okE okF em first W) (hb : Below W.heap.size W W') : StudyAt w G A0_0 n0 c0_0 A0_1 n1 c0_1 a0_2 a0_3 A0_4 n4 c0_4 A5 c5 A6 c6 okE okF em first W' :=
  ⟨h.bel.trans (hb.mono h.bel.size),(hb.block _ (blk_lt h.g)).trans h.g,h.ge,Kd.R_below h.re hb,Kd.S_below h.rf hb,h.e1,h.f1⟩
def studiedStep (k nt : Nat) (em : List Bool) (first : List (List Bool)) (p : S30) : Option (Bool × List (List Bool)) :=
  (begins_f k nt em first p.f1).bind fun l => if 0 ≤ p.f0 then if p.f0 < (first.length : Int) then (firsts_set_add.f k (first.getD p.f0.toNat []) l.1).bind fun b => some (b.1,first.set p.f0.toNat b.2) else none else none
set_option maxHeartbeats 2000000 in
theorem studied1_any (k : Nat) (w : World) (XB G : Nat) (A0_0 : Option Addr) (n0 c0_0 : Nat) (A0_1 : Option Addr) (n1 c0_1 : Nat) (a0_2 a0_3 : Int) (A0_4 : Option Addr) (n4 c0_4 : Nat) (A5 : Option Addr) (c5 : Nat) (A6 : Option Addr) (c6 : Nat) (okE okF : Nat → Prop) (em : List Bool) (ps : List S30) (hX : ∀ k,okF k → k ≠ XB) :
    StepOk 53 #[.pointer (some ⟨XB,0,none⟩)] (fun first W => StudyAt w G A0_0 n0 c0_0 A0_1 n1 c0_1 a0_2 a0_3 A0_4 n4 c0_4 A5 c5 A6 c6 okE okF em first W ∧ W.cell? ⟨XB,0,none⟩ = some (.pointer (some ⟨G,0,none⟩))) okF (studiedStep k n1 em) ps:=by
 intro W first p A1 c1 b first' hp hI hle hC hst
 obtain ⟨hI,hx⟩ := hI
 replace hC:=hC W (Kept.refl _ _)
 obtain ⟨⟨l1,l2⟩,hbg,hst2⟩ := Option.bind_eq_some_iff.1 hst
 clear hst
 simp only at hst2
 split at hst2
 case isFalse => simp at hst2
 rename_i hl0
 split at hst2
 case isFalse => simp at hst2
 rename_i hl1
 obtain ⟨⟨ab,ar⟩,had,hst3⟩ := Option.bind_eq_some_iff.1 hst2
 clear hst2
 obtain ⟨rfl,rfl⟩ := Prod.mk.inj (Option.some.inj hst3)
 clear hst3
 obtain ⟨left,right⟩ := p
 simp only at hle hC hbg hl0 hl1 had ⊢
 have hba : Below W.heap.size W (W.alloc (Obj.cells #[.int .i64 left,.slice A1 right.length c1] 30)) := (Below.refl _ W).alloc (Nat.le_refl _) _
 have hn0:=(Kd.S_reads' hI.rf).1
 subst hn0
 have hGlt:=blk_lt hI.g
 have hXlt:=World.block_lt_of_cell? W _ hx
 simp only at hXlt
 have hgb:=(hba.block _ hGlt).trans hI.g
 have c1_:=(blk_cell hgb 1).trans (show _ = some (.slice A0_1 n1 c0_1) from rfl)
 have c5_:=(blk_cell hgb 5).trans (show _ = some (.slice A5 em.length c5) from rfl)
 have c6_:=(blk_cell hgb 6).trans (show _ = some (.slice A6 first.length c6) from rfl)
 have hcon:=begins_any k G (W.alloc (Obj.cells #[.int .i64 left,.slice A1 right.length c1] 30)) A0_1 A5 A6 A1 n1 c0_1 c5 c6 c1 em first right l1 l2 c1_ c5_ c6_ (Kd.C_below (Kd.R_reads' hI.re).2.2 hba) (Kd.C_below (Kd.S_reads' hI.rf).2.2 hba) (Kd.C_below hC hba) hbg
 have hxa:=(hba.cell (p:=⟨XB,0,none⟩) hXlt).trans hx
 have HI:=Aside0.mk hI
 have HBA:=Aside0.mk hba
 have HAD:=Aside0.mk had
 have HLL:=Aside0.mk (And.intro hl0 hl1)
 have HX:=Aside0.mk hX
 have HLT:=Aside0.mk (And.intro hGlt hXlt)
 have hneX : XB ≠ W.heap.size:=by omega
 show Calls Try.prog 53 #[.agg #[.int .i64 left,.slice A1 right.length c1],.pointer (some ⟨XB,0,none⟩)] W _
 clear hx hC hI hba c1_ c5_ c6_ hgb hbg had hX hl0 hl1 hp hGlt hXlt hle
 go_enter Try.func53,Try.ntmps53
 go_wp2_with (go_at_call 47;(with_reducible refine hcon.mono ?_);rintro e w2 ⟨v2,rfl,hR2,hb2⟩;have HR2:=Aside0.mk hR2;have HB2:=Aside0.mk hb2;clear hR2 hb2)
 obtain ⟨A2,c2,rfl⟩ := Kd.R_slice HR2.out
 have HW2 : Aside0 (Below W.heap.size W w2) := ⟨HBA.out.trans (HB2.out.mono (by simp))⟩
 have pb : w2.cell? ⟨W.heap.size,0,none⟩ = some (.int .i64 left) := (HB2.out.cell (p:=⟨W.heap.size,0,none⟩) (by simp)).trans (by simp)
 have xb : w2.cell? ⟨XB,0,none⟩ = some (.pointer (some ⟨G,0,none⟩)) := (HB2.out.cell (p:=⟨XB,0,none⟩) (by have:=HLT.out.2;simp;omega)).trans hxa
 have GB2 : Aside0 (w2.heap[G]? = some (.cells #[.slice A0_0 first.length c0_0,.slice A0_1 n1 c0_1,.int .i64 a0_2,.int .i64 a0_3,.slice A0_4 n4 c0_4,.slice A5 em.length c5,.slice A6 first.length c6] 93 (0,0))) := ⟨(HW2.out.block _ HLT.out.1).trans HI.out.g⟩
 have g6 : w2.cell? ⟨G,6,none⟩ = some (.slice A6 first.length c6) := (blk_cell GB2.out 6).trans rfl
 have HS2:=Aside0.mk (Kd.S_below (Kd.S_bound HI.out.rf) HW2.out)
 have HE2:=Aside0.mk (Kd.R_below HI.out.re HW2.out)
 obtain ⟨go,vr,P,eA,hcell,hRow,hP,hback⟩ := S_row rfl HS2.out left HLL.out.1 HLL.out.2
 cases eA
 generalize first.getD left.toNat [] = row at hRow HAD
 obtain ⟨A4,c4,rfl⟩ := Kd.R_slice hRow
 have HP:=Aside0.mk hP
 have HBK:=Aside0.mk hback
 have BL2 : Aside0 (Below w.heap.size w w2) := ⟨HI.out.bel.trans (HW2.out.mono HI.out.bel.size)⟩
 have hcon2:=firsts_set_add.calls k P _ _ A2 c2 l1 ab ar w w2.drew (below_drew1 BL2.out) (Kd.R_drew hRow) (Kd.C_kept_own (Kd.R_mono (ok' := fun k_ => W.heap.size ≤ k_) (Kd.R_bound (Kd.R_drew HR2.out)) (fun k_ hk => by have:=hk.2.1;simp at this;omega)) (fun k_ hk hp => Nat.lt_irrefl k_ (Nat.lt_of_lt_of_le (HP.out k_ hp).1.2.2.1 hk))) (Kd.R_reads' HR2.out).2.1 HAD.out
 clear hP hback hRow hcon hxa
 have p2:=eq_true HLL.out.1
 have p3:=eq_true HLL.out.2
 have KEEP : Aside0 (∀ w3 : World,Kept w2.drew w3 P → (w3.cell? ⟨W.heap.size,0,none⟩ = some (.int .i64 left) ∧ w3.cell? ⟨XB,0,none⟩ = some (.pointer (some ⟨G,0,none⟩)) ∧ w3.cell? ⟨G,6,none⟩ = some (.slice (some ⟨go,0,none⟩) first.length c6) ∧ w3.cell? ⟨go,left.toNat,none⟩ = some (.slice A4 row.length c4))) := ⟨fun w3 hk => ⟨cell_kept pb hk (fun hp => Nat.lt_irrefl _ (HP.out _ hp).1.2.2.1),cell_kept xb hk (fun hp => HX.out _ (HP.out _ hp).1.1 rfl),cell_kept g6 hk (fun hp => (HI.out.f1 _ (HP.out _ hp).1.1).1 rfl),cell_kept hcell hk (fun hp => (HP.out _ hp).2 rfl)⟩⟩
 go_region_held3 (fun w3 => w3.cell? ⟨W.heap.size,0,none⟩ = some (.int .i64 left) ∧ w3.cell? ⟨XB,0,none⟩ = some (.pointer (some ⟨G,0,none⟩)) ∧ w3.cell? ⟨G,6,none⟩ = some (.slice (some ⟨go,0,none⟩) first.length c6) ∧ w3.cell? ⟨go,left.toNat,none⟩ = some (.slice A4 row.length c4))
   (first | go_keep | exact KEEP.out _ HK3.out)
   (first | (go_at_call 48;(with_reducible refine hcon2.mono ?_);rintro e w3 ⟨rfl,hR3,hb3,hk3⟩;have HR3:=Aside0.mk hR3;have HB3:=Aside0.mk hb3;have HK3:=Aside0.mk hk3;clear hR3 hb3 hk3))
 go_wp2
 go_ret
 exact ⟨rfl,⟨⟨⟨HB3.out,blk_kept GB2.out HK3.out (fun hp => (HI.out.f1 _ (HP.out _ hp).1.1).1 rfl),HI.out.ge,Kd.R_step (Kd.R_drew HE2.out) (fun k_ hk hlt => HK3.out.2 k_ hlt (fun hp => (HI.out.f1 _ (HP.out _ hp).1.1).2 hk)),Kd.S_mono (HBK.out w3 _ ar HK3.out HR3.out) (fun k_ hk => hk.1),HI.out.e1,HI.out.f1⟩,(KEEP.out w3 HK3.out).2.1⟩⟩,⟨(Kept.of_below HW2.out okF).then_ (show Kept w2 w3 P from HK3.out) (fun k_ hp => .inl (HP.out k_ hp).1.1)⟩⟩
def studied_f (k : Nat) (l0_0 : List ByteArray) (l0_1 : List (S61)) (a0_2 : Int) (a0_3 : Int) (l0_4 : List (S30)) : Option (List Bool × List (List Bool)) :=
  if l0_0.length ≤ 11728124029610 ∧ l0_1.length < 281474976710656 ∧ l0_4.length ≤ 9223372036854775807 then (firsts_Empty.f k l0_0 l0_1 a0_2 a0_3 l0_4).bind fun em => (growOut (studiedStep k l0_1.length em) l0_4 k (List.replicate l0_0.length (List.replicate (l0_1.length + 1) false))).bind fun first => some (em,first) else none
set_option maxHeartbeats 4000000 in
theorem studied_any (k : Nat) (A0_0 : Option Addr) (c0_0 : Nat) (l0_0 : List ByteArray) (A0_1 : Option Addr) (c0_1 : Nat) (l0_1 : List (S61)) (a0_2 : Int) (a0_3 : Int) (A0_4 : Option Addr) (c0_4 : Nat) (l0_4 : List (S30)) (em : List Bool) (first : List (List Bool)) (w : World) (hr0_0 : Kd.C Kd.string w A0_0 l0_0.length l0_0) (hc0_0 : l0_0.length ≤ c0_0) (hr0_1 : Kd.C k61 w A0_1 l0_1.length l0_1) (hc0_1 : l0_1.length ≤ c0_1) (hr0_4 : Kd.C k30 w A0_4 l0_4.length l0_4) (hc0_4 : l0_4.length ≤ c0_4) (h : studied_f k l0_0 l0_1 a0_2 a0_3 l0_4 = some (em,first)) :
    Calls Try.prog 43 #[.agg #[.slice A0_0 l0_0.length c0_0,.slice A0_1 l0_1.length c0_1,.int .i64 a0_2,.int .i64 a0_3,.slice A0_4 l0_4.length c0_4]] w fun e w' => ∃ G A5 c5 A6 c6 okE okF,e = .returned (.pointer (some ⟨G,0,none⟩)) ∧ StudyAt w G A0_0 l0_0.length c0_0 A0_1 l0_1.length c0_1 a0_2 a0_3 A0_4 l0_4.length c0_4 A5 c5 A6 c6 okE okF em first w' := by
 unfold studied_f at h
 split at h
 case isFalse => simp at h
 rename_i hsz
 have HSZ:=Aside0.mk hsz
 clear hsz
 obtain ⟨em',hE,h2⟩ := Option.bind_eq_some_iff.1 h
 clear h
 obtain ⟨first',hG,h3⟩ := Option.bind_eq_some_iff.1 h2
 clear h2
 obtain ⟨rfl,rfl⟩ := Prod.mk.inj (Option.some.inj h3)
 clear h3
 have HE : Aside0 (∀ W : World,Below w.heap.size w W → Calls Try.prog 52 #[.agg #[.slice A0_0 l0_0.length c0_0,.slice A0_1 l0_1.length c0_1,.int .i64 a0_2,.int .i64 a0_3,.slice A0_4 l0_4.length c0_4]] W fun e w' => ∃ v0_ : Value,e = .returned (v0_) ∧ Kd.R Kd.bool 4 w' W.heap.size (fun _ => True) v0_ em' ∧ Below W.heap.size W w') := ⟨fun W hb => firsts_Empty.calls k A0_0 c0_0 l0_0 A0_1 c0_1 l0_1 a0_2 a0_3 A0_4 c0_4 l0_4 em' W (Kd.C_below hr0_0 hb) hc0_0 (Kd.C_below hr0_1 hb) hc0_1 (Kd.C_below hr0_4 hb) hc0_4 hE⟩
 have HG:=Aside0.mk hG
 clear hE hG
 have HB1 : Aside0 (Below w.heap.size w (w.alloc (Obj.cells #[.slice A0_0 l0_0.length c0_0,.slice A0_1 l0_1.length c0_1,.int .i64 a0_2,.int .i64 a0_3,.slice A0_4 l0_4.length c0_4] 26))) := ⟨(Below.refl _ w).alloc (Nat.le_refl _) _⟩
 have q0 : (w.alloc (Obj.cells #[.slice A0_0 l0_0.length c0_0,.slice A0_1 l0_1.length c0_1,.int .i64 a0_2,.int .i64 a0_3,.slice A0_4 l0_4.length c0_4] 26)).heap[w.heap.size]? = some (Obj.cells #[.slice A0_0 l0_0.length c0_0,.slice A0_1 l0_1.length c0_1,.int .i64 a0_2,.int .i64 a0_3,.slice A0_4 l0_4.length c0_4] 26 (0,0)) := by simpa using heap_alloc_new w _
 go_enter Try.func43,Try.ntmps43
 go_upto_region 1 with fail
 go_cut [3] from 4 (fun s3 wc => ∃ (XB G : Nat) (A5 : Option Addr) (c5 : Nat),s3 = .pointer (some ⟨XB,0,none⟩) ∧ wc.cell? ⟨XB,0,none⟩ = some (.pointer (some ⟨G,0,none⟩)) ∧ wc.heap[w.heap.size]? = some (Obj.cells #[.slice A0_0 l0_0.length c0_0,.slice A0_1 l0_1.length c0_1,.int .i64 a0_2,.int .i64 a0_3,.slice A0_4 l0_4.length c0_4] 26 (0,0)) ∧ Aside0 (wc.heap[G]? = some (.cells #[.slice A0_0 l0_0.length c0_0,.slice A0_1 l0_1.length c0_1,.int .i64 a0_2,.int .i64 a0_3,.slice A0_4 l0_4.length c0_4,.slice A5 em'.length c5,.slice none 0 0] 93 (0,0))) ∧ Aside0 (Kd.R Kd.bool 4 wc w.heap.size (fun k => k ≠ XB ∧ k ≠ G) (.slice A5 em'.length c5) em') ∧ Aside0 (Below w.heap.size w wc) ∧ Aside0 (w.heap.size < XB ∧ w.heap.size < G ∧ XB ≠ G))
 case first =>
  generalize (w.alloc (Obj.cells #[.slice A0_0 l0_0.length c0_0,.slice A0_1 l0_1.length c0_1,.int .i64 a0_2,.int .i64 a0_3,.slice A0_4 l0_4.length c0_4] 26)) = w1 at q0 HB1 ⊢
  have KEEP : Aside0 (∀ W : World,Below w1.heap.size w1 W → (W.cell? ⟨w.heap.size,0,none⟩ = some (.slice A0_0 l0_0.length c0_0) ∧ W.cell? ⟨w.heap.size,1,none⟩ = some (.slice A0_1 l0_1.length c0_1) ∧ W.cell? ⟨w.heap.size,2,none⟩ = some (.int .i64 a0_2) ∧ W.cell? ⟨w.heap.size,3,none⟩ = some (.int .i64 a0_3) ∧ W.cell? ⟨w.heap.size,4,none⟩ = some (.slice A0_4 l0_4.length c0_4))) := ⟨fun W hb => ⟨(blk_cell ((hb.block _ (blk_lt q0)).trans q0) 0).trans rfl,(blk_cell ((hb.block _ (blk_lt q0)).trans q0) 1).trans rfl,(blk_cell ((hb.block _ (blk_lt q0)).trans q0) 2).trans rfl,(blk_cell ((hb.block _ (blk_lt q0)).trans q0) 3).trans rfl,(blk_cell ((hb.block _ (blk_lt q0)).trans q0) 4).trans rfl⟩⟩
  have LT:=Aside0.mk (blk_lt q0)
  have Q0:=Aside0.mk q0
  clear q0
  obtain ⟨s0,s1,s2,s3,s4⟩ := KEEP.out w1 (Below.refl _ _)
  have XQ : Aside0 (∀ W : World,Below (w1.alloc (Obj.cells #[.pointer none] 80)).drew.heap.size (w1.alloc (Obj.cells #[.pointer none] 80)).drew W → W.heap[w1.heap.size]? = some (Obj.cells #[.pointer none] 80) ∧ Below w1.heap.size w1 W) := ⟨fun W hb => ⟨(hb.block w1.heap.size (by simp)).trans (show (w1.alloc (Obj.cells #[.pointer none] 80)).heap[w1.heap.size]? = _ from heap_alloc_new w1 _),(below_drew1 (below_alloc (Below.refl _ w1) _)).trans (hb.mono (by simp))⟩⟩
  go_region_held3 (fun W => W.cell? ⟨w.heap.size,0,none⟩ = some (.slice A0_0 l0_0.length c0_0) ∧ W.cell? ⟨w.heap.size,1,none⟩ = some (.slice A0_1 l0_1.length c0_1) ∧ W.cell? ⟨w.heap.size,2,none⟩ = some (.int .i64 a0_2) ∧ W.cell? ⟨w.heap.size,3,none⟩ = some (.int .i64 a0_3) ∧ W.cell? ⟨w.heap.size,4,none⟩ = some (.slice A0_4 l0_4.length c0_4))
    (first | go_keep | exact KEEP.out _ (by first | exact KB.out | exact below_alloc KB.out _ | exact below_alloc (below_alloc KB.out _) _ | exact below_drew1 (below_alloc (Below.refl _ w1) _) | exact below_alloc (below_set KB.out (Nat.le_refl _)) _ | (trace_state;fail)))
    (first
      | (go_at_call 52;(with_reducible refine (HE.out w1.drew (below_drew1 HB1.out)).mono ?_);rintro e w3 ⟨v3,rfl,hR3,hb3⟩;obtain ⟨A5,c5,rfl⟩ := Kd.R_slice hR3;have HR3:=Aside0.mk hR3;have KB : Aside0 (Below w1.heap.size w1 w3) := ⟨(below_drew1 (Below.refl _ w1)).trans hb3⟩;clear hR3 hb3)
      | (go_at_call 52;(with_reducible refine (HE.out (w1.alloc (Obj.cells #[.pointer none] 80)).drew (below_drew1 (below_alloc HB1.out _))).mono ?_);rintro e w3 ⟨v3,rfl,hR3,hb3⟩;obtain ⟨A5,c5,rfl⟩ := Kd.R_slice hR3;have HR3:=Aside0.mk hR3;obtain ⟨xq,hkb⟩ := XQ.out w3 hb3;have KB:=Aside0.mk hkb;have xc:=(blk_cell xq 0).trans (show _ = some (Value.pointer none) from rfl);have xf:=blk_frozen xq 0;have xl:=blk_lt xq;have XB:=Aside0.mk xq;clear hR3 hb3 hkb xq))
  · have hbel:=below_alloc (below_alloc KB.out (Obj.cells #[.slice A0_0 l0_0.length c0_0,.slice A0_1 l0_1.length c0_1,.int .i64 a0_2,.int .i64 a0_3,.slice A0_4 l0_4.length c0_4,.slice A5 em'.length c5,.slice none 0 0] 93)) (Obj.cells #[.pointer (some ⟨w3.heap.size,0,none⟩)] 80)
    go_wp2_with fail
    go_meet
    case rel =>
     refine ⟨w3.heap.size + 1,w3.heap.size,A5,c5,rfl,?_,(hbel.block _ LT.out).trans Q0.out,⟨?_⟩,⟨?_⟩,⟨HB1.out.trans (hbel.mono HB1.out.size)⟩,⟨?_⟩⟩
     · simp
     · exact (Below.heap_alloc _ _ _ (by simp)).trans (heap_alloc_new _ _)
     · exact Kd.R_lower (Kd.R_mono (Kd.R_below (Kd.R_bound HR3.out) (below_alloc (below_alloc (Below.refl _ w3) _) _)) (fun k hk => by have:=hk.2.2.1;omega)) (by have:=LT.out;simp;omega)
     · have:=LT.out;have:=KB.out.size;omega
  · have hbel:=below_alloc (below_alloc KB.out (Obj.cells #[.pointer (some ⟨w3.heap.size + 1,0,none⟩)] 80)) (Obj.cells #[.slice A0_0 l0_0.length c0_0,.slice A0_1 l0_1.length c0_1,.int .i64 a0_2,.int .i64 a0_3,.slice A0_4 l0_4.length c0_4,.slice A5 em'.length c5,.slice none 0 0] 93)
    go_wp2_with fail
    go_meet
    case rel =>
     refine ⟨w3.heap.size,w3.heap.size + 1,A5,c5,rfl,?_,(hbel.block _ LT.out).trans Q0.out,⟨?_⟩,⟨?_⟩,⟨HB1.out.trans (hbel.mono HB1.out.size)⟩,⟨?_⟩⟩
     · rw [World.cell?_alloc_lt _ _ _ (by simp)];simp
     · simpa using heap_alloc_new (w3.alloc (Obj.cells #[.pointer (some ⟨w3.heap.size + 1,0,none⟩)] 80)) (Obj.cells #[.slice A0_0 l0_0.length c0_0,.slice A0_1 l0_1.length c0_1,.int .i64 a0_2,.int .i64 a0_3,.slice A0_4 l0_4.length c0_4,.slice A5 em'.length c5,.slice none 0 0] 93)
     · exact Kd.R_lower (Kd.R_mono (Kd.R_below (Kd.R_bound HR3.out) (below_alloc (below_alloc (Below.refl _ w3) _) _)) (fun k hk => by have:=hk.2.2.1;omega)) (by have:=LT.out;simp;omega)
     · have:=LT.out;have:=KB.out.size;omega
  · have hbel:=below_alloc (below_set (j:=0) (v := .pointer (some ⟨w3.heap.size,0,none⟩)) KB.out (Nat.le_refl w1.heap.size)) (Obj.cells #[.slice A0_0 l0_0.length c0_0,.slice A0_1 l0_1.length c0_1,.int .i64 a0_2,.int .i64 a0_3,.slice A0_4 l0_4.length c0_4,.slice A5 em'.length c5,.slice none 0 0] 93)
    go_wp2_with fail
    go_meet
    case rel =>
     refine ⟨w1.heap.size,w3.heap.size,A5,c5,rfl,?_,(hbel.block _ LT.out).trans Q0.out,⟨?_⟩,⟨?_⟩,⟨HB1.out.trans (hbel.mono HB1.out.size)⟩,⟨?_⟩⟩
     · rw [World.cell?_alloc_lt _ _ _ (by simpa using blk_lt XB.out),blk_cell (blk_set XB.out 0 _) 0];rfl
     · simpa using heap_alloc_new (w3.setCell ⟨w1.heap.size,0,none⟩ (.pointer (some ⟨w3.heap.size,0,none⟩))) (Obj.cells #[.slice A0_0 l0_0.length c0_0,.slice A0_1 l0_1.length c0_1,.int .i64 a0_2,.int .i64 a0_3,.slice A0_4 l0_4.length c0_4,.slice A5 em'.length c5,.slice none 0 0] 93)
     · exact Kd.R_lower (Kd.R_mono (Kd.R_step (Kd.R_bound HR3.out) (fun k hk hlt => (Below.heap_alloc _ _ k (by simpa using hlt)).trans (Below.heap_setCell _ _ _ k (by have h1:=hk.2.1;simp at h1;simp;omega)))) (fun k hk => by have h1:=hk.2.1;have h2:=hk.2.2.1;simp at h1;omega)) (by have:=LT.out;simp;omega)
     · have:=LT.out;have:=blk_lt XB.out;omega
 case rest =>
  obtain ⟨XB,G,A5,c5,rfl,hx,hs,HG5,HR5,HBc,HNE⟩ := hcut
  have HS:=Aside0.mk hs
  have HX:=Aside0.mk hx
  have KEEP : Aside0 (∀ W : World,Below wc.heap.size wc W → (W.cell? ⟨XB,0,none⟩ = some (.pointer (some ⟨G,0,none⟩)) ∧ W.cell? ⟨G,6,none⟩ = some (.slice none 0 0) ∧ W.frozen? ⟨G,6,none⟩ = false)) := ⟨fun W hb => ⟨(hb.cell (p:=⟨XB,0,none⟩) (World.block_lt_of_cell? wc _ HX.out)).trans HX.out,(blk_cell ((hb.block _ (blk_lt HG5.out)).trans HG5.out) 6).trans rfl,blk_frozen ((hb.block _ (blk_lt HG5.out)).trans HG5.out) 6⟩⟩
  have hcon:=sets_any G wc.drew A0_0 A0_1 l0_0.length l0_1.length c0_0 c0_1 ((blk_cell HG5.out 0).trans rfl) ((blk_cell HG5.out 1).trans rfl) HSZ.out.1 HSZ.out.2.1
  have HCON:=Aside0.mk hcon
  obtain ⟨k0,k1,k2⟩ := KEEP.out wc (Below.refl _ _)
  clear hcon hs hx
  go_upto_region 2 with fail
  have hne : XB ≠ G:=HNE.out.2.2
  go_region_held3 (fun W => W.cell? ⟨XB,0,none⟩ = some (.pointer (some ⟨G,0,none⟩)))
    (first | go_keep | exact (KEEP.out _ KB.out).1 | exact cell_kept k3 (Kept.setCell (Kept.refl w3 (fun k => k = G)) (.inl rfl) _) HNE.out.2.2)
    (first
      | (go_at_call 44;(with_reducible refine HCON.out.mono ?_);rintro e w3 ⟨v3,rfl,hS3,hb3⟩;obtain ⟨A6,c6,rfl⟩ := Kd.S_slice hS3;have HS3:=Aside0.mk hS3;have KB : Aside0 (Below wc.heap.size wc w3) := ⟨(below_drew1 (Below.refl _ wc)).trans hb3⟩;obtain ⟨k3,k4,k5⟩ := KEEP.out w3 KB.out;clear k0 k1 k2 hS3 hb3))
  have HB4 : Aside0 (Below w.heap.size w (w3.setCell ⟨G,6,none⟩ (.slice A6 l0_0.length c6))) := ⟨below_set (HBc.out.trans (KB.out.mono HBc.out.size)) (Nat.le_of_lt HNE.out.2.1)⟩
  have HI : Aside0 (StudyAt w G A0_0 l0_0.length c0_0 A0_1 l0_1.length c0_1 a0_2 a0_3 A0_4 l0_4.length c0_4 A5 c5 A6 c6 (fun k => k < wc.heap.size ∧ k ≠ XB ∧ k ≠ G) (fun k => wc.heap.size ≤ k ∧ k < w3.heap.size) em' (List.replicate l0_0.length (List.replicate (l0_1.length + 1) false)) (w3.setCell ⟨G,6,none⟩ (.slice A6 l0_0.length c6)) ∧ (w3.setCell ⟨G,6,none⟩ (.slice A6 l0_0.length c6)).cell? ⟨XB,0,none⟩ = some (.pointer (some ⟨G,0,none⟩))) := by
   have hGl:=blk_lt HG5.out
   have hw3:=KB.out.size
   refine ⟨⟨HB4.out,blk_set ((KB.out.block _ hGl).trans HG5.out) 6 _,Nat.le_of_lt HNE.out.2.1,?_,?_,fun k hk => hk.2.2,fun k hk => ⟨fun e => by have h1 : wc.heap.size ≤ k:=hk.1;omega,fun h2 => by have h1 : wc.heap.size ≤ k:=hk.1;have h3 : k < wc.heap.size:=h2.1;omega⟩⟩,cell_kept k3 (Kept.setCell (Kept.refl w3 (fun k => k = G)) (.inl rfl) _) HNE.out.2.2⟩
   · exact Kd.R_mono (Kd.R_step (Kd.R_below (Kd.R_bound HR5.out) KB.out) (fun k hk hlt => Below.heap_setCell _ _ _ k hk.1.2)) (fun k hk => ⟨hk.2.2.1,hk.1⟩)
   · have hS4:=HS3.out
     rw [List.length_replicate] at hS4
     exact Kd.S_lower (Kd.S_mono (Kd.S_step (Kd.S_bound hS4) (fun k hk hlt => Below.heap_setCell _ _ _ k (by have h1 : wc.heap.size ≤ k:=hk.2.1;show k ≠ G;omega))) (fun k hk => ⟨hk.2.1,hk.2.2.1⟩)) HBc.out.size
  have HLT:=Aside0.mk (World.block_lt_of_cell? wc _ HX.out)
  have eg : ∀ args w,(callFunc 53 args).run Try.prog w = .ok (.enter 53 args) w:=enters_of Try.func53 (by kernel_rfl) rfl
  have hcon2:=grow_any (fun first W => StudyAt w G A0_0 l0_0.length c0_0 A0_1 l0_1.length c0_1 a0_2 a0_3 A0_4 l0_4.length c0_4 A5 c5 A6 c6 (fun k => k < wc.heap.size ∧ k ≠ XB ∧ k ≠ G) (fun k => wc.heap.size ≤ k ∧ k < w3.heap.size) em' first W ∧ W.cell? ⟨XB,0,none⟩ = some (.pointer (some ⟨G,0,none⟩))) (fun k => wc.heap.size ≤ k ∧ k < w3.heap.size) (studiedStep k l0_1.length em') 53 #[.pointer (some ⟨XB,0,none⟩)] eg k A0_0 A0_1 l0_0.length c0_0 l0_1.length c0_1 a0_2 a0_3 A0_4 c0_4 l0_4 (List.replicate l0_0.length (List.replicate (l0_1.length + 1) false)) first' _ HI.out (fun st W W' hI hb => ⟨hI.1.below hb,(hb.cell (p:=⟨XB,0,none⟩) (World.block_lt_of_cell? W _ hI.2)).trans hI.2⟩) (fun k hk => by simpa using hk.2) (fun st W hI => Kd.C_kept_came k30_heap hr0_4 hI.1.bel (fun k hk => Nat.le_trans HBc.out.size hk.1)) HSZ.out.2.2 (studied1_any k w XB G A0_0 l0_0.length c0_0 A0_1 l0_1.length c0_1 a0_2 a0_3 A0_4 l0_4.length c0_4 A5 c5 A6 c6 (fun k => k < wc.heap.size ∧ k ≠ XB ∧ k ≠ G) (fun k => wc.heap.size ≤ k ∧ k < w3.heap.size) em' l0_4 (fun k hk => by have h1 : wc.heap.size ≤ k:=hk.1;have h2:=HLT.out;simp only at h2;omega)) HG.out
  have GL:=Aside0.mk (blk_lt HG5.out)
  have hs4 : (w3.setCell ⟨G,6,none⟩ (.slice A6 l0_0.length c6)).heap[w.heap.size]? = some (Obj.cells #[.slice A0_0 l0_0.length c0_0,.slice A0_1 l0_1.length c0_1,.int .i64 a0_2,.int .i64 a0_3,.slice A0_4 l0_4.length c0_4] 26 (0,0)) := (Below.heap_setCell _ _ _ _ (show w.heap.size ≠ G by have:=HNE.out.2.1;omega)).trans ((KB.out.block _ (blk_lt HS.out)).trans HS.out)
  have r0:=(blk_cell hs4 0).trans (show _ = some (.slice A0_0 l0_0.length c0_0) from rfl)
  have r1:=(blk_cell hs4 1).trans (show _ = some (.slice A0_1 l0_1.length c0_1) from rfl)
  have r2:=(blk_cell hs4 2).trans (show _ = some (.int .i64 a0_2) from rfl)
  have r3:=(blk_cell hs4 3).trans (show _ = some (.int .i64 a0_3) from rfl)
  have r4:=(blk_cell hs4 4).trans (show _ = some (.slice A0_4 l0_4.length c0_4) from rfl)
  have r5:=HI.out.2
  clear hs4
  go_wp2_with (go_at_call 45;(with_reducible refine hcon2.mono ?_);rintro e w5 ⟨rfl,hI5,hK5⟩;have x5:=hI5.out.2;clear hcon2 r0 r1 r2 r3 r4 r5 k3 k4 k5 hK5)
  go_ret
  exact ⟨G,A5,c5,A6,c6,_,_,rfl,hI5.out.1⟩
def firsts_Of.f (k : Nat) (l0_0 : List ByteArray) (l0_1 : List (S61)) (a0_2 : Int) (a0_3 : Int) (l0_4 : List (S30)) (l1 : List (S53)) : Option (List Int × Bool) :=
  (firsts_Right.f l0_0 l0_1 a0_2 a0_3 l0_4).bind fun r => if r = true then (firsts_symbols.f l0_0 l0_1 a0_2 a0_3 l0_4 l1).bind fun r2 => if r2 = true then if (l0_0.length : Int) = 0 then some ([],false) else (studied_f k l0_0 l0_1 a0_2 a0_3 l0_4).bind fun x => (begins_f k l0_1.length x.1 x.2 l1).bind fun y => (firsts_set_rising.f k y.1).bind fun z => some (z,y.2) else some ([],false) else some ([],false)
set_option maxHeartbeats 4000000 in
theorem firsts_Of.calls (k : Nat) (A0_0 : Option Addr) (c0_0 : Nat) (l0_0 : List ByteArray) (A0_1 : Option Addr) (c0_1 : Nat) (l0_1 : List (S61)) (a0_2 : Int) (a0_3 : Int) (A0_4 : Option Addr) (c0_4 : Nat) (l0_4 : List (S30)) (A1 : Option Addr) (c1 : Nat) (l1 : List (S53)) (r1 : List Int) (r2 : Bool) (w : World) (hr0_0 : Kd.C Kd.string w A0_0 l0_0.length l0_0) (hc0_0 : l0_0.length ≤ c0_0) (hr0_1 : Kd.C k61 w A0_1 l0_1.length l0_1) (hc0_1 : l0_1.length ≤ c0_1) (hr0_4 : Kd.C k30 w A0_4 l0_4.length l0_4) (hc0_4 : l0_4.length ≤ c0_4) (hr1 : Kd.C k53 w A1 l1.length l1) (hc1 : l1.length ≤ c1) (h : firsts_Of.f k l0_0 l0_1 a0_2 a0_3 l0_4 l1 = some (r1,r2)) :
    Calls Try.prog 39 #[.agg #[.slice A0_0 l0_0.length c0_0,.slice A0_1 l0_1.length c0_1,.int .i64 a0_2,.int .i64 a0_3,.slice A0_4 l0_4.length c0_4],.slice A1 l1.length c1] w fun e w' => ∃ v0_ : Value,e = .returned (.tuple #[v0_,.bool r2]) ∧ Kd.R (Kd.int .i64) 3 w' w.heap.size (fun _ => True) v0_ r1 ∧ Below w.heap.size w w' := by
 obtain ⟨rt,hrt,h2⟩ := Option.bind_eq_some_iff.1 h
 have HRT:=Aside0.mk hrt
 clear h hrt
 have HA1 : Aside0 (Below w.heap.size w (w.alloc (.cells #[.slice A0_0 l0_0.length c0_0,.slice A0_1 l0_1.length c0_1,.int .i64 a0_2,.int .i64 a0_3,.slice A0_4 l0_4.length c0_4] 26))) := ⟨(Below.refl _ w).alloc (Nat.le_refl _) _⟩
 have HC : Aside0 (∀ W,Below (w.heap.size + 1) (w.alloc (.cells #[.slice A0_0 l0_0.length c0_0,.slice A0_1 l0_1.length c0_1,.int .i64 a0_2,.int .i64 a0_3,.slice A0_4 l0_4.length c0_4] 26)) W → W.cell? ⟨w.heap.size,0,none⟩ = some (.slice A0_0 l0_0.length c0_0) ∧ W.cell? ⟨w.heap.size,1,none⟩ = some (.slice A0_1 l0_1.length c0_1) ∧ W.cell? ⟨w.heap.size,2,none⟩ = some (.int .i64 a0_2) ∧ W.cell? ⟨w.heap.size,3,none⟩ = some (.int .i64 a0_3) ∧ W.cell? ⟨w.heap.size,4,none⟩ = some (.slice A0_4 l0_4.length c0_4)) := ⟨fun W hW => ⟨(hW.cell (p:=⟨w.heap.size,0,none⟩) (by simp)).trans (by simp),(hW.cell (p:=⟨w.heap.size,1,none⟩) (by simp)).trans (by simp),(hW.cell (p:=⟨w.heap.size,2,none⟩) (by simp)).trans (by simp),(hW.cell (p:=⟨w.heap.size,3,none⟩) (by simp)).trans (by simp),(hW.cell (p:=⟨w.heap.size,4,none⟩) (by simp)).trans (by simp)⟩⟩
 cases rt with
 | false =>
  rw [if_neg (by simp)] at h2
  obtain ⟨rfl,rfl⟩ := Prod.mk.inj (Option.some.inj h2)
  clear h2
  go_enter Try.func39,Try.ntmps39
  go_wp2_with (go_at_call 22;(with_reducible refine (firsts_Right.calls A0_0 c0_0 l0_0 A0_1 c0_1 l0_1 a0_2 a0_3 A0_4 c0_4 l0_4 false _ (Kd.C_below hr0_0 HA1.out) hc0_0 (Kd.C_below hr0_1 HA1.out) hc0_1 (Kd.C_below hr0_4 HA1.out) hc0_4 HRT.out).mono ?_);rintro e w1 ⟨rfl,hb1⟩)
  go_ret2
  exact ⟨_,rfl,Kd.R_nil _ _ _ _ _,HA1.out.trans (hb1.mono (by simp))⟩
 | true =>
  rw [if_pos rfl] at h2
  obtain ⟨rt2,hrt2,h3⟩ := Option.bind_eq_some_iff.1 h2
  have HRT2:=Aside0.mk hrt2
  clear h2 hrt2
  cases rt2 with
  | false =>
   rw [if_neg (by simp)] at h3
   obtain ⟨rfl,rfl⟩ := Prod.mk.inj (Option.some.inj h3)
   clear h3
   go_enter Try.func39,Try.ntmps39
   go_wp2_with (first
     | (go_at_call 22;(with_reducible refine (firsts_Right.calls A0_0 c0_0 l0_0 A0_1 c0_1 l0_1 a0_2 a0_3 A0_4 c0_4 l0_4 true _ (Kd.C_below hr0_0 HA1.out) hc0_0 (Kd.C_below hr0_1 HA1.out) hc0_1 (Kd.C_below hr0_4 HA1.out) hc0_4 HRT.out).mono ?_);rintro e w1 ⟨rfl,hb1⟩;have HB1 : Aside0 (Below (w.heap.size + 1) (w.alloc (.cells #[.slice A0_0 l0_0.length c0_0,.slice A0_1 l0_1.length c0_1,.int .i64 a0_2,.int .i64 a0_3,.slice A0_4 l0_4.length c0_4] 26)) w1) := ⟨hb1.mono (by simp)⟩;have HB01 : Aside0 (Below w.heap.size w w1) := ⟨HA1.out.trans (hb1.mono (by simp))⟩;clear hb1;obtain ⟨q0,q1,q2,q3,q4⟩ := HC.out w1 HB1.out)
     | (go_at_call 37;(with_reducible refine (firsts_symbols.calls A0_0 c0_0 l0_0 A0_1 c0_1 l0_1 a0_2 a0_3 A0_4 c0_4 l0_4 A1 c1 l1 false _ (Kd.C_below hr0_0 HB01.out) hc0_0 (Kd.C_below hr0_1 HB01.out) hc0_1 (Kd.C_below hr0_4 HB01.out) hc0_4 (Kd.C_below hr1 HB01.out) hc1 HRT2.out).mono ?_);rintro e w2 ⟨rfl,hb2⟩;have HB2:=Aside0.mk hb2;clear hb2 q0 q1 q2 q3 q4))
   go_ret2
   exact ⟨_,rfl,Kd.R_nil _ _ _ _ _,HB01.out.trans (HB2.out.mono HB01.out.size)⟩
  | true =>
   rw [if_pos rfl] at h3
   by_cases hz : (l0_0.length : Int) = 0
   · rw [if_pos hz] at h3
     obtain ⟨rfl,rfl⟩ := Prod.mk.inj (Option.some.inj h3)
     clear h3
     have hzb : ((l0_0.length : Int) == 0) = true:=beq_iff_eq.mpr hz
     go_enter Try.func39,Try.ntmps39
     go_wp2_with (first
       | (go_at_call 22;(with_reducible refine (firsts_Right.calls A0_0 c0_0 l0_0 A0_1 c0_1 l0_1 a0_2 a0_3 A0_4 c0_4 l0_4 true _ (Kd.C_below hr0_0 HA1.out) hc0_0 (Kd.C_below hr0_1 HA1.out) hc0_1 (Kd.C_below hr0_4 HA1.out) hc0_4 HRT.out).mono ?_);rintro e w1 ⟨rfl,hb1⟩;have HB1 : Aside0 (Below (w.heap.size + 1) (w.alloc (.cells #[.slice A0_0 l0_0.length c0_0,.slice A0_1 l0_1.length c0_1,.int .i64 a0_2,.int .i64 a0_3,.slice A0_4 l0_4.length c0_4] 26)) w1) := ⟨hb1.mono (by simp)⟩;have HB01 : Aside0 (Below w.heap.size w w1) := ⟨HA1.out.trans (hb1.mono (by simp))⟩;clear hb1;obtain ⟨q0,q1,q2,q3,q4⟩ := HC.out w1 HB1.out)
       | (go_at_call 37;(with_reducible refine (firsts_symbols.calls A0_0 c0_0 l0_0 A0_1 c0_1 l0_1 a0_2 a0_3 A0_4 c0_4 l0_4 A1 c1 l1 true _ (Kd.C_below hr0_0 HB01.out) hc0_0 (Kd.C_below hr0_1 HB01.out) hc0_1 (Kd.C_below hr0_4 HB01.out) hc0_4 (Kd.C_below hr1 HB01.out) hc1 HRT2.out).mono ?_);rintro e w2 ⟨rfl,hb2⟩;have HB2:=Aside0.mk hb2;clear q0 q1 q2 q3 q4;obtain ⟨q0,q1,q2,q3,q4⟩ := HC.out w2 (HB1.out.trans (HB2.out.mono (by have:=HB1.out.size;simpa using this)));clear hb2))
     go_ret2
     exact ⟨_,rfl,Kd.R_nil _ _ _ _ _,HB01.out.trans (HB2.out.mono HB01.out.size)⟩
   · rw [if_neg hz] at h3
     have hzb : ((l0_0.length : Int) == 0) = false:=beq_eq_false_iff_ne.mpr hz
     obtain ⟨⟨em,first⟩,hst,h4⟩ := Option.bind_eq_some_iff.1 h3
     obtain ⟨⟨bl,bb⟩,hbg,h5⟩ := Option.bind_eq_some_iff.1 h4
     obtain ⟨ri,hri,h6⟩ := Option.bind_eq_some_iff.1 h5
     obtain ⟨rfl,rfl⟩ := Prod.mk.inj (Option.some.inj h6)
     have HST:=Aside0.mk hst
     have HBG:=Aside0.mk hbg
     have HRI:=Aside0.mk hri
     clear h3 h4 h5 h6 hst hbg hri
     go_enter Try.func39,Try.ntmps39
     go_wp2_with (first
       | (go_at_call 22;(with_reducible refine (firsts_Right.calls A0_0 c0_0 l0_0 A0_1 c0_1 l0_1 a0_2 a0_3 A0_4 c0_4 l0_4 true _ (Kd.C_below hr0_0 HA1.out) hc0_0 (Kd.C_below hr0_1 HA1.out) hc0_1 (Kd.C_below hr0_4 HA1.out) hc0_4 HRT.out).mono ?_);rintro e w1 ⟨rfl,hb1⟩;have HB1 : Aside0 (Below (w.heap.size + 1) (w.alloc (.cells #[.slice A0_0 l0_0.length c0_0,.slice A0_1 l0_1.length c0_1,.int .i64 a0_2,.int .i64 a0_3,.slice A0_4 l0_4.length c0_4] 26)) w1) := ⟨hb1.mono (by simp)⟩;have HB01 : Aside0 (Below w.heap.size w w1) := ⟨HA1.out.trans (hb1.mono (by simp))⟩;clear hb1;obtain ⟨q0,q1,q2,q3,q4⟩ := HC.out w1 HB1.out)
       | (go_at_call 37;(with_reducible refine (firsts_symbols.calls A0_0 c0_0 l0_0 A0_1 c0_1 l0_1 a0_2 a0_3 A0_4 c0_4 l0_4 A1 c1 l1 true _ (Kd.C_below hr0_0 HB01.out) hc0_0 (Kd.C_below hr0_1 HB01.out) hc0_1 (Kd.C_below hr0_4 HB01.out) hc0_4 (Kd.C_below hr1 HB01.out) hc1 HRT2.out).mono ?_);rintro e w2 ⟨rfl,hb2⟩;have HB2:=Aside0.mk hb2;clear q0 q1 q2 q3 q4;obtain ⟨q0,q1,q2,q3,q4⟩ := HC.out w2 (HB1.out.trans (HB2.out.mono (by have:=HB1.out.size;simpa using this)));have HB02 : Aside0 (Below w.heap.size w w2) := ⟨HB01.out.trans (HB2.out.mono HB01.out.size)⟩;clear hb2)
       | (go_at_call 43;(with_reducible refine (studied_any k A0_0 c0_0 l0_0 A0_1 c0_1 l0_1 a0_2 a0_3 A0_4 c0_4 l0_4 em first _ (Kd.C_below hr0_0 HB02.out) hc0_0 (Kd.C_below hr0_1 HB02.out) hc0_1 (Kd.C_below hr0_4 HB02.out) hc0_4 HST.out).mono ?_);rintro e w3 ⟨G,A5,c5,A6,c6,okE,okF,rfl,hs2⟩;have hn:=(Kd.S_reads' hs2.rf).1;rw [hn] at hs2;have HS2:=Aside0.mk hs2;have HB03 : Aside0 (Below w.heap.size w w3) := ⟨HB02.out.trans (HS2.out.bel.mono HB02.out.size)⟩;clear hs2 hn q0 q1 q2 q3 q4)
       | (go_at_call 47;(with_reducible refine (begins_any k G _ A0_1 A5 A6 A1 l0_1.length c0_1 c5 c6 c1 em first l1 bl bb ((blk_cell HS2.out.g 1).trans rfl) ((blk_cell HS2.out.g 5).trans rfl) ((blk_cell HS2.out.g 6).trans rfl) (Kd.R_reads' HS2.out.re).2.2 (Kd.S_reads' HS2.out.rf).2.2 (Kd.C_below hr1 HB03.out) HBG.out).mono ?_);rintro e w4 ⟨v4,rfl,hR4,hb4⟩;obtain ⟨A7,c7,rfl⟩ := Kd.R_slice hR4;have HR4:=Aside0.mk hR4;have HB04 : Aside0 (Below w.heap.size w w4) := ⟨HB03.out.trans (hb4.mono HB03.out.size)⟩;clear hR4 hb4)
       | (go_at_call 50;(with_reducible refine (firsts_set_rising.calls k A7 c7 bl ri _ (Kd.R_reads' HR4.out).2.2 (Kd.R_reads' HR4.out).2.1 HRI.out).mono ?_);rintro e w5 ⟨v5,rfl,hR5,hb5⟩;have HR5:=Aside0.mk hR5;have HB5:=Aside0.mk hb5;clear hR5 hb5))
     go_ret2
     exact ⟨_,rfl,Kd.R_lower HR5.out HB04.out.size,HB04.out.trans (HB5.out.mono HB04.out.size)⟩
end Go.Proofs.Ytfdcfihcfegekaa.P
end

section
namespace Go.Proofs.Ytfdcfihcfegekaa.P
open Go.RowKit Go.Proofs.YtfdcfihcfegekaaW.PrintWords Go.Proofs.YtfdcfihcfegekaaW.PrintLast Go.Proofs.YtfdcfihcfegekaaW.PrintMore Go.Proofs.Ytfdcfihcfegekaa.R
set_option linter.unusedVariables false
set_option linter.unusedSimpArgs false
set_option maxHeartbeats 2000000 in
theorem add_self_any (k : Nat) (w : World) (A : Option Addr) (c : Nat) (l : List Bool) (r1 : Bool) (r2 : List Bool) (hr : Kd.C Kd.bool w A l.length l) (h : firsts_set_add.f k l l = some (r1,r2)) :
    Calls Try.prog 48 #[.slice A l.length c,.slice A l.length c] w fun e w' => e = .returned (.bool r1) ∧ r2 = l ∧ Below w.heap.size w w' := by
 have H' := Aside0.mk (show firsts_set_add.l0 k l false l (l.length : Int) 0 = some (r1,r2) from h)
 have HR:=Aside0.mk hr
 clear h hr
 go_enter Try.func48,Try.ntmps48
 go_wp2
 go_loopg [4,9] k (fun kq v4 v9 wr => ∃ (x9 : Int),v4 = .bool false ∧ v9 = .int .i64 x9 ∧ Aside0 (firsts_set_add.l0 kq l false l (l.length : Int) x9 = some (r1,r2)) ∧ Aside0 (Below w.heap.size w wr))
 case atStart => exact ⟨0,rfl,rfl,H',⟨Below.refl _ _⟩⟩
 case round =>
  clear H'
  obtain ⟨x9,rfl,rfl,HA,HB⟩ := hrel
  cases gk with
  | zero => exact absurd HA.out (by simp [firsts_set_add.l0])
  | succ k1 =>
   have H:=HA.out
   clear HA
   simp only [firsts_set_add.l0] at H
   by_cases c3 : x9 < (l.length : Int)
   · rw [if_pos c3] at H
     have d0 : decide (x9 < (l.length : Int)) = true:=decide_eq_true c3
     by_cases c4 : 0 ≤ x9
     rotate_left
     · rw [if_neg c4] at H
       cases H
     rw [if_pos c4,if_pos c3] at H
     obtain ⟨ad,ead,hx⟩ := Kd.at_bool (Kd.C_below HR.out HB.out) x9 c4 c3
     cases ead
     have p0:=eq_true c4
     have p1:=eq_true c3
     clear c3 c4
     generalize rdOf false l x9 = b at H hx
     cases b with
     | false =>
      rw [if_neg (by simp)] at H
      have H1:=Aside0.mk H
      clear H
      go_wp2
      go_roundg k1
      case measure => omega
      case rel => exact ⟨_,rfl,rfl,H1,HB⟩
     | true =>
      rw [if_pos rfl,if_pos (of_eq_true p1),if_pos rfl] at H
      have H1:=Aside0.mk H
      clear H
      go_wp2
      go_roundg k1
      case measure => omega
      case rel => exact ⟨_,rfl,rfl,H1,HB⟩
   · rw [if_neg c3] at H
     have d0 : decide (x9 < (l.length : Int)) = false:=decide_eq_false c3
     obtain ⟨rfl,rfl⟩ := Prod.mk.inj (Option.some.inj H)
     clear H c3
     go_wp2
     go_ret
     first | exact ⟨rfl,rfl,HB.out⟩ | exact ⟨rfl,HB.out⟩
end Go.Proofs.Ytfdcfihcfegekaa.P
end

section
namespace Go.Proofs.Ytfdcfihcfegekaa.P
open Go.RowKit Go.Proofs.YtfdcfihcfegekaaW.PrintWords Go.Proofs.YtfdcfihcfegekaaW.PrintLast Go.Proofs.YtfdcfihcfegekaaW.PrintMore Go.Proofs.Ytfdcfihcfegekaa.R
set_option linter.unusedVariables false
set_option linter.unusedSimpArgs false
def followAdd (k : Nat) (n : Int) (l : List Bool) (out : List (List Bool)) : Option (Bool × List (List Bool)) :=
  if 0 ≤ n then if n < (out.length : Int) then (firsts_set_add.f k (out.getD n.toNat []) l).bind fun b => some (b.1,out.set n.toNat b.2) else none else none
def followIn (k nt : Nat) (em : List Bool) (first : List (List Bool)) (left : Int) : List S53 → Bool → List (List Bool) → Option (Bool × List (List Bool))
  | [],g,out => some (g,out)
  | y :: ys,g,out => if y.f0 = true then followIn k nt em first left ys g out else
    (begins_f k nt em first ys).bind fun l => (followAdd k y.f1 l.1 out).bind fun b1 =>
      if l.2 = true then if 0 ≤ left then if left < (b1.2.length : Int) then (followAdd k y.f1 (b1.2.getD left.toNat []) b1.2).bind fun b2 => followIn k nt em first left ys (b2.1 || (b1.1 || g)) b2.2 else none else none
      else followIn k nt em first left ys (b1.1 || g) b1.2
def followStep (k nt : Nat) (em : List Bool) (first out : List (List Bool)) (p : S30) : Option (Bool × List (List Bool)) := followIn k nt em first p.f0 p.f1 false out
structure FollowI (w : World) (XB OB G : Nat) (A0_0 : Option Addr) (n0 : Nat) (c0_0 : Nat) (A0_1 : Option Addr) (n1 : Nat) (c0_1 : Nat) (a0_2 : Int) (a0_3 : Int) (A0_4 : Option Addr) (n4 : Nat) (c0_4 : Nat) (A5 : Option Addr) (c5 : Nat) (A6 : Option Addr) (c6 : Nat) (okE okF okO : Nat → Prop) (em : List Bool) (first : List (List Bool)) (Ao : Option Addr) (co : Nat) (out : List (List Bool)) (W : World) : Prop where
  st : StudyAt w G A0_0 n0 c0_0 A0_1 n1 c0_1 a0_2 a0_3 A0_4 n4 c0_4 A5 c5 A6 c6 okE okF em first W
  x : W.cell? ⟨XB,0,none⟩ = some (.pointer (some ⟨G,0,none⟩))
  o : W.cell? ⟨OB,0,none⟩ = some (.slice Ao out.length co)
  r : Kd.S (Kd.slice 4 Kd.bool) 84 W w.heap.size okO (.slice Ao out.length co) out
  b : ∀ k,okO k → k < W.heap.size
section
variable {w : World} {XB OB G : Nat} {A0_0 : Option Addr} {n0 : Nat} {c0_0 : Nat} {A0_1 : Option Addr} {n1 : Nat} {c0_1 : Nat} {a0_2 : Int} {a0_3 : Int} {A0_4 : Option Addr} {n4 : Nat} {c0_4 : Nat} {A5 : Option Addr} {c5 : Nat} {A6 : Option Addr} {c6 : Nat} {okE okF okO : Nat → Prop} {em : List Bool} {first : List (List Bool)} {Ao : Option Addr} {co : Nat} {out out' : List (List Bool)} {W W' : World}
theorem FollowI.below (h : FollowI w XB OB G A0_0 n0 c0_0 A0_1 n1 c0_1 a0_2 a0_3 A0_4 n4 c0_4 A5 c5 A6 c6 okE okF okO em first Ao co out W) (hb : Below W.heap.size W W') : FollowI w XB OB G A0_0 n0 c0_0 A0_1 n1 c0_1 a0_2 a0_3 A0_4 n4 c0_4 A5 c5 A6 c6 okE okF okO em first Ao co out W' :=
  ⟨h.st.below hb,(hb.cell (p:=⟨XB,0,none⟩) (World.block_lt_of_cell? W _ h.x)).trans h.x,(hb.cell (p:=⟨OB,0,none⟩) (World.block_lt_of_cell? W _ h.o)).trans h.o,Kd.S_below h.r hb,fun k hk => Nat.lt_of_lt_of_le (h.b k hk) hb.size⟩
theorem FollowI.keep {P : Nat → Prop} (D : ∀ k,okO k → k ≠ G ∧ k ≠ XB ∧ k ≠ OB ∧ ¬ okE k ∧ ¬ okF k) (h : FollowI w XB OB G A0_0 n0 c0_0 A0_1 n1 c0_1 a0_2 a0_3 A0_4 n4 c0_4 A5 c5 A6 c6 okE okF okO em first Ao co out W) (hb : Below w.heap.size w W') (hk : Kept W W' P) (hP : ∀ k,P k → okO k) (hr : Kd.S (Kd.slice 4 Kd.bool) 84 W' w.heap.size okO (.slice Ao out.length co) out') (hl : out'.length = out.length) : FollowI w XB OB G A0_0 n0 c0_0 A0_1 n1 c0_1 a0_2 a0_3 A0_4 n4 c0_4 A5 c5 A6 c6 okE okF okO em first Ao co out' W' :=
  ⟨⟨hb,blk_kept h.st.g hk (fun hp => (D _ (hP _ hp)).1 rfl),h.st.ge,Kd.R_kept h.st.re hk (fun k h1 h2 => (D k (hP k h2)).2.2.2.1 h1),Kd.S_kept h.st.rf hk (fun k h1 h2 => (D k (hP k h2)).2.2.2.2 h1),h.st.e1,h.st.f1⟩,cell_kept h.x hk (fun hp => (D _ (hP _ hp)).2.1 rfl),by rw [hl];exact cell_kept h.o hk (fun hp => (D _ (hP _ hp)).2.2.1 rfl),by rw [hl];exact hr,fun k h1 => Nat.lt_of_lt_of_le (h.b k h1) hk.1⟩
end
set_option maxHeartbeats 1000000 in
theorem add_new (k : Nat) (w W : World) (XB OB G : Nat) (A0_0 : Option Addr) (n0 : Nat) (c0_0 : Nat) (A0_1 : Option Addr) (n1 : Nat) (c0_1 : Nat) (a0_2 : Int) (a0_3 : Int) (A0_4 : Option Addr) (n4 : Nat) (c0_4 : Nat) (A5 : Option Addr) (c5 : Nat) (A6 : Option Addr) (c6 : Nat) (okE okF okO : Nat → Prop) (em : List Bool) (first out out' : List (List Bool)) (Ao : Option Addr) (co : Nat) (D : ∀ k,okO k → k ≠ G ∧ k ≠ XB ∧ k ≠ OB ∧ ¬ okE k ∧ ¬ okF k) (HI : FollowI w XB OB G A0_0 n0 c0_0 A0_1 n1 c0_1 a0_2 a0_3 A0_4 n4 c0_4 A5 c5 A6 c6 okE okF okO em first Ao co out W) (n : Int) (l : List Bool) (b : Bool) (A2 : Option Addr) (c2 : Nat) (hl : ∀ W',Kept W W' okO → Kd.C Kd.bool W' A2 l.length l) (hc2 : l.length ≤ c2) (h : followAdd k n l out = some (b,out')) :
    ∃ (go : Nat) (A4 : Option Addr) (c4 m : Nat),0 ≤ n ∧ n < (out.length : Int) ∧ Ao = some ⟨go,0,none⟩ ∧ W.cell? ⟨go,n.toNat,none⟩ = some (.slice A4 m c4) ∧ out'.length = out.length ∧
      Calls Try.prog 48 #[.slice A4 m c4,.slice A2 l.length c2] W fun e w' => e = .returned (.bool b) ∧ Aside0 (FollowI w XB OB G A0_0 n0 c0_0 A0_1 n1 c0_1 a0_2 a0_3 A0_4 n4 c0_4 A5 c5 A6 c6 okE okF okO em first Ao co out' w') ∧ Aside0 (Kept W w' (fun k => okO k ∧ k ≠ go)) := by
 unfold followAdd at h
 split at h
 case isFalse => simp at h
 rename_i h0
 split at h
 case isFalse => simp at h
 rename_i h1
 obtain ⟨⟨ab,ar⟩,had,h2⟩ := Option.bind_eq_some_iff.1 h
 obtain ⟨rfl,rfl⟩ := Prod.mk.inj (Option.some.inj h2)
 obtain ⟨go,vr,P,eA,hcell,hRow,hP,hback⟩ := S_row rfl HI.r n h0 h1
 obtain ⟨A4,c4,rfl⟩ := Kd.R_slice hRow
 refine ⟨go,A4,c4,_,h0,h1,eA,hcell,by simp,?_⟩
 refine (firsts_set_add.calls k P _ _ A2 c2 l ab ar w W HI.st.bel hRow (fun W' hk => hl W' (hk.mono (fun k hk => (hP k hk).1))) hc2 had).mono ?_
 rintro e w3 ⟨rfl,hR3,hb3,hk3⟩
 exact ⟨rfl,⟨FollowI.keep D HI hb3 hk3 (fun k hk => (hP k hk).1) (hback w3 _ ar hk3 hR3) (by simp)⟩,⟨Kept.mono hk3 (fun k hk => hP k hk)⟩⟩
set_option maxHeartbeats 1000000 in
theorem add_row (k : Nat) (w W : World) (XB OB G : Nat) (A0_0 : Option Addr) (n0 : Nat) (c0_0 : Nat) (A0_1 : Option Addr) (n1 : Nat) (c0_1 : Nat) (a0_2 : Int) (a0_3 : Int) (A0_4 : Option Addr) (n4 : Nat) (c0_4 : Nat) (A5 : Option Addr) (c5 : Nat) (A6 : Option Addr) (c6 : Nat) (okE okF okO : Nat → Prop) (em : List Bool) (first out out' : List (List Bool)) (Ao : Option Addr) (co : Nat) (D : ∀ k,okO k → k ≠ G ∧ k ≠ XB ∧ k ≠ OB ∧ ¬ okE k ∧ ¬ okF k) (HI : FollowI w XB OB G A0_0 n0 c0_0 A0_1 n1 c0_1 a0_2 a0_3 A0_4 n4 c0_4 A5 c5 A6 c6 okE okF okO em first Ao co out W) (n left : Int) (hl0 : 0 ≤ left) (hl1 : left < (out.length : Int)) (b : Bool) (h : followAdd k n (out.getD left.toNat []) out = some (b,out')) :
    ∃ (go : Nat) (A4 : Option Addr) (c4 m : Nat) (A2 : Option Addr) (c2 m2 : Nat),0 ≤ n ∧ n < (out.length : Int) ∧ Ao = some ⟨go,0,none⟩ ∧ W.cell? ⟨go,n.toNat,none⟩ = some (.slice A4 m c4) ∧ W.cell? ⟨go,left.toNat,none⟩ = some (.slice A2 m2 c2) ∧ out'.length = out.length ∧
      Calls Try.prog 48 #[.slice A4 m c4,.slice A2 m2 c2] W fun e w' => e = .returned (.bool b) ∧ Aside0 (FollowI w XB OB G A0_0 n0 c0_0 A0_1 n1 c0_1 a0_2 a0_3 A0_4 n4 c0_4 A5 c5 A6 c6 okE okF okO em first Ao co out' w') ∧ Aside0 (Kept W w' (fun k => okO k ∧ k ≠ go)) := by
 unfold followAdd at h
 split at h
 case isFalse => simp at h
 rename_i h0
 split at h
 case isFalse => simp at h
 rename_i h1
 obtain ⟨⟨ab,ar⟩,had,h2⟩ := Option.bind_eq_some_iff.1 h
 obtain ⟨rfl,rfl⟩ := Prod.mk.inj (Option.some.inj h2)
 by_cases hij : n = left
 · subst hij
   obtain ⟨go,vr,P,eA,hcell,hRow,hP,hback⟩ := S_row rfl HI.r n h0 h1
   obtain ⟨A4,c4,rfl⟩ := Kd.R_slice hRow
   refine ⟨go,A4,c4,_,A4,c4,_,h0,h1,eA,hcell,hcell,by simp,?_⟩
   refine (add_self_any k W A4 c4 (out.getD n.toNat []) ab ar (Kd.R_reads' hRow).2.2 had).mono ?_
   rintro e w3 ⟨rfl,rfl,hb3⟩
   have hset : out.set n.toNat (out.getD n.toNat []) = out:=by
    apply List.ext_getElem
    · simp
    · intro i h1 h2
      rw [List.getElem_set]
      split
      · rename_i he;subst he;simp [List.getD_eq_getElem?_getD,h2]
      · rfl
   rw [hset]
   exact ⟨rfl,⟨HI.below hb3⟩,⟨Kept.of_below hb3 _⟩⟩
 · obtain ⟨go,vr,P,A2,c2,eA,hcell,hcell2,hle2,hC2,hRow,hP,hback⟩ := S_row2 rfl HI.r n left h0 h1 hl0 hl1 hij
   obtain ⟨A4,c4,rfl⟩ := Kd.R_slice hRow
   refine ⟨go,A4,c4,_,A2,c2,_,h0,h1,eA,hcell,hcell2,by simp,?_⟩
   refine (firsts_set_add.calls k P _ _ A2 c2 (out.getD left.toNat []) ab ar w W HI.st.bel hRow hC2 hle2 had).mono ?_
   rintro e w3 ⟨rfl,hR3,hb3,hk3⟩
   exact ⟨rfl,⟨FollowI.keep D HI hb3 hk3 (fun k hk => (hP k hk).1) (hback w3 _ ar hk3 hR3) (by simp)⟩,⟨Kept.mono hk3 (fun k hk => hP k hk)⟩⟩
theorem infoSym : (Try.prog.info? 53).map (fun i => (i.zero,i.size,i.bytes)) = some (some (.agg #[.bool false,.int .i64 0]),2,16) := by kernel_rfl
set_option maxHeartbeats 4000000 in
theorem follow1_any (k : Nat) (w : World) (XB OB G : Nat) (A0_0 : Option Addr) (n0 : Nat) (c0_0 : Nat) (A0_1 : Option Addr) (n1 : Nat) (c0_1 : Nat) (a0_2 : Int) (a0_3 : Int) (A0_4 : Option Addr) (n4 : Nat) (c0_4 : Nat) (A5 : Option Addr) (c5 : Nat) (A6 : Option Addr) (c6 : Nat) (okE okF okO : Nat → Prop) (em : List Bool) (first : List (List Bool)) (Ao : Option Addr) (co : Nat) (ps : List S30) (D : ∀ k,okO k → k ≠ G ∧ k ≠ XB ∧ k ≠ OB ∧ ¬ okE k ∧ ¬ okF k) (hbig : ps.all (fun p => decide (p.f1.length ≤ 9223372036854775807)) = true) :
    StepOk 46 #[.pointer (some ⟨XB,0,none⟩),.pointer (some ⟨OB,0,none⟩)] (fun out W => FollowI w XB OB G A0_0 n0 c0_0 A0_1 n1 c0_1 a0_2 a0_3 A0_4 n4 c0_4 A5 c5 A6 c6 okE okF okO em first Ao co out W) okO (followStep k n1 em first) ps:=by
 intro w0 out0 p A1 c1 b out2 hp hI hle hC hst
 have hn0:=(Kd.S_reads' hI.st.rf).1
 subst hn0
 have hlen:=of_decide_eq_true (List.all_eq_true.1 hbig p hp)
 obtain ⟨left,right⟩ := p
 unfold followStep at hst
 simp only at hst hle hC hlen ⊢
 have HI:=Aside0.mk hI
 have H0:=Aside0.mk hst
 have HC:=Aside0.mk hC
 have HD:=Aside0.mk D
 have HLEN:=Aside0.mk hlen
 have HCAP:=Aside0.mk hle
 have hba : Below w0.heap.size w0 (w0.alloc (.cells #[.int .i64 left,.slice A1 right.length c1] 30)) := (Below.refl _ w0).alloc (Nat.le_refl _) _
 have HBP0 : Aside0 ((w0.alloc (.cells #[.int .i64 left,.slice A1 right.length c1] 30)).heap[w0.heap.size]? = some (.cells #[.int .i64 left,.slice A1 right.length c1] 30 (0,0))) := ⟨heap_alloc_new w0 _⟩
 have HI0:=Aside0.mk (HI.out.below hba)
 have HK0:=Aside0.mk (Kept.alloc (Kept.refl w0 okO) (.cells #[.int .i64 left,.slice A1 right.length c1] 30))
 have HLO : Aside0 (∀ k,okO k → k < w0.heap.size) := ⟨HI.out.b⟩
 show Calls Try.prog 46 #[.agg #[.int .i64 left,.slice A1 right.length c1],.pointer (some ⟨XB,0,none⟩),.pointer (some ⟨OB,0,none⟩)] w0 _
 clear hI hst hC hle hlen hp hbig hba D HI
 go_enter Try.func46,Try.ntmps46
 go_wp2
 go_loopg [4,12] right.length (fun kq v4 v12 wr => ∃ (i : Nat) (g : Bool) (out' : List (List Bool)),v4 = .bool g ∧ v12 = .int .i64 i ∧ i ≤ right.length ∧ right.length - i ≤ kq ∧ Aside0 (followIn k n1 em first left (right.drop i) g out' = some (b,out2)) ∧ Aside0 (FollowI w XB OB G A0_0 first.length c0_0 A0_1 n1 c0_1 a0_2 a0_3 A0_4 n4 c0_4 A5 c5 A6 c6 okE okF okO em first Ao co out' wr) ∧ Aside0 (Kept w0 wr okO) ∧ Aside0 (wr.heap[w0.heap.size]? = some (.cells #[.int .i64 left,.slice A1 right.length c1] 30 (0,0))))
 case atStart => exact ⟨0,false,out0,rfl,rfl,by omega,by omega,⟨by simpa using H0.out⟩,HI0,HK0,HBP0⟩
 case round =>
  clear H0 HI0 HK0 HBP0
  obtain ⟨i,g,out',rfl,rfl,hi,hm,HA,HI,HK,HBP⟩ := hrel
  by_cases hlt : i < right.length
  · have hltz : (i : Int) < (right.length : Int) := by omega
    have d0 : decide ((i : Int) < (right.length : Int)) = true:=decide_eq_true hltz
    have H:=HA.out
    rw [List.drop_eq_getElem_cons hlt] at H
    simp only [followIn] at H
    obtain ⟨ad,ead,e0,e1⟩ := at_T53 (HC.out wr HK.out) (i : Int) (by omega) hltz
    cases ead
    have hrd : rd_T53 right (i : Int) = right[i] := by simp [rd_T53,hlt]
    rw [hrd] at e0 e1
    rw [Int.toNat_natCast] at e0 e1
    generalize right[i] = y at H e0 e1
    obtain ⟨tk,n⟩ := y
    simp only at H e0 e1
    have p0 : (0 ≤ (i : Int)) = True:=eq_true (by omega)
    have p1:=eq_true hltz
    have HLT:=Aside0.mk hlt
    have HM:=Aside0.mk hm
    clear hlt hltz hi hm hrd HA
    cases tk with
    | true =>
     rw [if_pos rfl] at H
     have HN:=Aside0.mk H
     clear H
     have hbb : Aside0 (Below wr.heap.size wr (wr.alloc (Obj.cells #[.bool true,.int .i64 n] 53))) := ⟨(Below.refl _ wr).alloc (Nat.le_refl _) _⟩
     go_wp2
     go_roundg (right.length - (i + 1))
     case measure => have:=HM.out;have:=HLT.out;omega
     case rel => exact ⟨i + 1,g,out',rfl,congrArg (Value.int .i64) (by unfold wrap64;have:=HLT.out;have:=HLEN.out;omega),by have:=HLT.out;omega,Nat.le_refl _,HN,⟨HI.out.below hbb.out⟩,⟨Kept.alloc HK.out _⟩,⟨(hbb.out.block _ (blk_lt HBP.out)).trans HBP.out⟩⟩
    | false =>
     rw [if_neg (by simp)] at H
     obtain ⟨⟨l1,l2⟩,hbg,H2⟩ := Option.bind_eq_some_iff.1 H
     obtain ⟨⟨ab,out1⟩,had,H3⟩ := Option.bind_eq_some_iff.1 H2
     clear H H2
     simp only at hbg had H3
     have HB0 : Aside0 (Below wr.heap.size wr (wr.alloc (Obj.cells #[.bool false,.int .i64 n] 53))) := ⟨(Below.refl _ wr).alloc (Nat.le_refl _) _⟩
     have HIa:=Aside0.mk (HI.out.below HB0.out)
     have HKa:=Aside0.mk (Kept.alloc HK.out (Obj.cells #[.bool false,.int .i64 n] 53))
     have HBPa:=Aside0.mk ((HB0.out.block _ (blk_lt HBP.out)).trans HBP.out)
     have HYa:=Aside0.mk (heap_alloc_new wr (Obj.cells #[.bool false,.int .i64 n] 53))
     have hwr : IntKind.i64.wrap ((i : Int) + 1) = (i : Int) + 1:=by rw [IntKind.wrap_i64];have:=HLT.out;have:=HLEN.out;omega
     obtain ⟨i0,hi0,_,hsz,_⟩ := info_parts infoSym
     have hcut:=cut_from (P:=Try.prog) 28 53 .i64 Try.underlying28 hi0 2 hsz (some ad) right.length c1 ((i : Int) + 1) (by omega) (by have:=HLT.out;omega)
     rw [show ((i : Int) + 1).toNat = i + 1 by omega,← List.length_drop] at hcut
     have HCY : Aside0 (∀ W',Kept w0 W' okO → Kd.C k53 W' (if c1 = i + 1 then some ad else (some ad).map (·.add ((i + 1) * 2))) (right.drop (i + 1)).length (right.drop (i + 1))) := ⟨fun W' hk => Kd.C_drop (HC.out W' hk) HLT.out HCAP.out⟩
     generalize (if c1 = i + 1 then some ad else (some ad).map (·.add ((i + 1) * 2))) = A' at hcut HCY
     have HH:=Aside0.mk H3
     have HAD:=Aside0.mk had
     have hcon:=begins_any k G (wr.alloc (Obj.cells #[.bool false,.int .i64 n] 53)).drew A0_1 A5 A6 A' n1 c0_1 c5 c6 (c1 - (i + 1)) em first (right.drop (i + 1)) l1 l2 ((blk_cell HIa.out.st.g 1).trans rfl) ((blk_cell HIa.out.st.g 5).trans rfl) ((blk_cell HIa.out.st.g 6).trans rfl) (Kd.R_reads' HIa.out.st.re).2.2 (Kd.S_reads' HIa.out.st.rf).2.2 (HCY.out _ HKa.out) hbg
     rw [List.length_drop] at hcon
     have HCON:=Aside0.mk hcon
     clear hcon
     have KEEP : Aside0 (∀ W : World,Below (wr.alloc (Obj.cells #[.bool false,.int .i64 n] 53)).heap.size (wr.alloc (Obj.cells #[.bool false,.int .i64 n] 53)) W → (W.cell? ⟨XB,0,none⟩ = some (.pointer (some ⟨G,0,none⟩)) ∧ W.cell? ⟨w0.heap.size,1,none⟩ = some (.slice (some ad) right.length c1))) := ⟨fun W hb => ⟨(hb.cell (p:=⟨XB,0,none⟩) (World.block_lt_of_cell? _ _ HIa.out.x)).trans HIa.out.x,(blk_cell ((hb.block _ (blk_lt HBPa.out)).trans HBPa.out) 1).trans rfl⟩⟩
     obtain ⟨k0,k1⟩ := KEEP.out _ (Below.refl _ _)
     clear hbg had H3 hi0 hsz
     go_wp2
     go_region_held3 (fun W => W.cell? ⟨XB,0,none⟩ = some (.pointer (some ⟨G,0,none⟩)) ∧ W.cell? ⟨w0.heap.size,1,none⟩ = some (.slice (some ad) right.length c1))
       (first | go_keep | exact KEEP.out _ KB.out)
       (first | (go_at_call 47;(with_reducible refine HCON.out.mono ?_);rintro e w2 ⟨v2,rfl,hR2,hb2⟩;obtain ⟨A2,c2,rfl⟩ := Kd.R_slice hR2;have HR2:=Aside0.mk hR2;have KB : Aside0 (Below (wr.alloc (Obj.cells #[.bool false,.int .i64 n] 53)).heap.size (wr.alloc (Obj.cells #[.bool false,.int .i64 n] 53)) w2) := ⟨(below_drew1 (Below.refl _ _)).trans hb2⟩;clear hR2 hb2 k0 k1))
     have HI2:=Aside0.mk (HIa.out.below KB.out)
     have HK2:=Aside0.mk (HKa.out.below KB.out)
     have HBP2:=Aside0.mk ((KB.out.block _ (blk_lt HBPa.out)).trans HBPa.out)
     have HY2:=Aside0.mk ((KB.out.block _ (blk_lt HYa.out)).trans HYa.out)
     have HLO2 : Aside0 (∀ k,okO k → k < wr.heap.size) := ⟨fun k hk => Nat.lt_of_lt_of_le (HLO.out k hk) HK.out.1⟩
     obtain ⟨go,A4,c4,m4,hn0,hn1,eAo,hcell,hlen1,hcon⟩ := add_new k w w2 XB OB G A0_0 first.length c0_0 A0_1 n1 c0_1 a0_2 a0_3 A0_4 n4 c0_4 A5 c5 A6 c6 okE okF okO em first out' out1 Ao co HD.out HI2.out n l1 ab A2 c2 (Kd.C_kept_own (S:=okO) (ok:=fun k_ => wr.heap.size ≤ k_) (Kd.R_mono (Kd.R_bound HR2.out) (fun k_ hk => by have h1:=hk.2.1;simp at h1;omega)) (fun k_ hk hp => by have:=HLO2.out k_ hp;omega)) (Kd.R_reads' HR2.out).2.1 HAD.out
     cases eAo
     have HCON2:=Aside0.mk hcon
     have o2:=HI2.out.o
     have y2:=(blk_cell HY2.out 1).trans (show _ = some (Value.int .i64 n) from rfl)
     have p2:=eq_true hn0
     have p3:=eq_true hn1
     have HLEN1:=Aside0.mk hlen1
     clear hcon hn0 hn1 hlen1 HCON KEEP hcut
     cases l2 with
     | false =>
      have HN : Aside0 (followIn k n1 em first left (right.drop (i + 1)) (ab || g) out1 = some (b,out2)) := ⟨by have:=HH.out;rwa [if_neg (by simp)] at this⟩
      clear HH
      cases ab
      all_goals
        go_wp2_with (go_at_call 48;(with_reducible refine HCON2.out.mono ?_);rintro e w3 ⟨rfl,hI3,hK3⟩)
        go_roundg (right.length - (i + 1))
        case measure => have:=HM.out;have:=HLT.out;omega
        case rel => exact ⟨i + 1,_,out1,rfl,congrArg (Value.int .i64) (by first | rfl | (unfold wrap64;have:=HLT.out;have:=HLEN.out;omega)),by have:=HLT.out;omega,Nat.le_refl _,HN,hI3,⟨Kept.then_ HK2.out hK3.out (fun k hk => .inl hk.1)⟩,⟨blk_kept HBP2.out hK3.out (fun hk => Nat.lt_irrefl _ (HLO.out _ hk.1))⟩⟩
     | true =>
      have H4:=HH.out
      rw [if_pos rfl] at H4
      split at H4
      case isFalse => simp at H4
      rename_i hl0
      split at H4
      case isFalse => simp at H4
      rename_i hl1
      obtain ⟨⟨bb,out3⟩,had2,HN⟩ := Option.bind_eq_some_iff.1 H4
      have HN:=Aside0.mk HN
      have HAD2:=Aside0.mk had2
      have HL:=Aside0.mk (And.intro hl0 hl1)
      clear HH H4 hl0 hl1 had2
      cases ab
      all_goals
        go_wp2_with (go_at_call 48;(with_reducible refine HCON2.out.mono ?_);rintro e w3 ⟨rfl,hI3,hK3⟩)
        have HI3:=hI3
        have HK3:=hK3
        have HBP3:=Aside0.mk (blk_kept HBP2.out HK3.out (fun hk => Nat.lt_irrefl _ (HLO.out _ hk.1)))
        have HY3:=Aside0.mk (blk_kept HY2.out HK3.out (fun hk => Nat.lt_irrefl _ (HLO2.out _ hk.1)))
        obtain ⟨go2,A7,c7,m7,A8,c8,m8,_,hn1,eg2,hca,hcb,hlen3,hcon⟩ := add_row k w w3.drew XB OB G A0_0 first.length c0_0 A0_1 n1 c0_1 a0_2 a0_3 A0_4 n4 c0_4 A5 c5 A6 c6 okE okF okO em first out1 out3 (some ⟨go,0,none⟩) co HD.out (HI3.out.below (below_drew1 (Below.refl _ w3))) n left HL.out.1 HL.out.2 bb HAD2.out
        obtain rfl : go = go2:=by injection eg2 with eg2;injection eg2
        have HCON3:=Aside0.mk hcon
        have KEEP3 : Aside0 (∀ W : World,Kept w3 W (fun k => okO k ∧ k ≠ go) → (W.cell? ⟨OB,0,none⟩ = some (.slice (some ⟨go,0,none⟩) out1.length co) ∧ W.cell? ⟨wr.heap.size,1,none⟩ = some (.int .i64 n) ∧ W.cell? ⟨w0.heap.size,0,none⟩ = some (.int .i64 left) ∧ W.cell? ⟨go,n.toNat,none⟩ = some (.slice A7 m7 c7) ∧ W.cell? ⟨go,left.toNat,none⟩ = some (.slice A8 m8 c8))) := ⟨fun W hk => ⟨cell_kept HI3.out.o hk (fun hp => (HD.out _ hp.1).2.2.1 rfl),(blk_cell (blk_kept HY3.out hk (fun h => Nat.lt_irrefl _ (HLO2.out _ h.1))) 1).trans rfl,(blk_cell (blk_kept HBP3.out hk (fun h => Nat.lt_irrefl _ (HLO.out _ h.1))) 0).trans rfl,cell_kept (W:=w3) hca hk (fun hp => hp.2 rfl),cell_kept (W:=w3) hcb hk (fun hp => hp.2 rfl)⟩⟩
        obtain ⟨k3,k4,k5,k6,k7⟩ := KEEP3.out w3 (Kept.refl _ _)
        have p2:=eq_true (show 0 ≤ n by assumption)
        have p3:=eq_true hn1
        have p4:=eq_true HL.out.1
        have p5:=eq_true HL.out.2
        clear hcon hn1 hca hcb hlen3 o2 y2 hcell
        cases bb with
        | false =>
         go_region_held3 (fun W => W.cell? ⟨OB,0,none⟩ = some (.slice (some ⟨go,0,none⟩) out1.length co) ∧ W.cell? ⟨wr.heap.size,1,none⟩ = some (.int .i64 n) ∧ W.cell? ⟨w0.heap.size,0,none⟩ = some (.int .i64 left) ∧ W.cell? ⟨go,n.toNat,none⟩ = some (.slice A7 m7 c7) ∧ W.cell? ⟨go,left.toNat,none⟩ = some (.slice A8 m8 c8))
           (first | go_keep | exact KEEP3.out _ HK4.out)
           (first | (go_at_call 48;(with_reducible refine HCON3.out.mono ?_);rintro e w4 ⟨rfl,hI4,hK4⟩;have HI4:=hI4;have HK4:=hK4;clear hI4 hK4 k3 k4 k5 k6 k7))
         go_wp2
         go_roundg (right.length - (i + 1))
         case measure => have:=HM.out;have:=HLT.out;omega
         case rel => exact ⟨i + 1,_,out3,rfl,congrArg (Value.int .i64) (by first | rfl | (unfold wrap64;have:=HLT.out;have:=HLEN.out;omega)),by have:=HLT.out;omega,Nat.le_refl _,HN,HI4,⟨Kept.then_ (Kept.then_ HK2.out HK3.out (fun k hk => .inl hk.1)) (show Kept w3 w4 _ from HK4.out) (fun k hk => .inl hk.1)⟩,⟨blk_kept HBP3.out HK4.out (fun hk => Nat.lt_irrefl _ (HLO.out _ hk.1))⟩⟩
        | true =>
         refine wp_region_noPanic ?_
         refine wp_region_held_drew (S:=fun W => W.cell? ⟨OB,0,none⟩ = some (.slice (some ⟨go,0,none⟩) out1.length co) ∧ W.cell? ⟨wr.heap.size,1,none⟩ = some (.int .i64 n) ∧ W.cell? ⟨w0.heap.size,0,none⟩ = some (.int .i64 left) ∧ W.cell? ⟨go,n.toNat,none⟩ = some (.slice A7 m7 c7) ∧ W.cell? ⟨go,left.toNat,none⟩ = some (.slice A8 m8 c8)) (by kernel_rfl) ⟨k3,k4,k5,k6,k7⟩ (fun hHeld => ?_)
         refine wpAnyH_take (i:=0) (oi:=_) (v := .slice (some ⟨go,0,none⟩) out1.length co) rfl (by kernel_rfl) (by kernel_rfl) (by kernel_rfl) (fun _ _ _ h => h) (Or.inl ⟨by rfl,by intro w_ hSw;(try dsimp only at hSw);go_simp⟩) hHeld ?_
         simp only [Act.put,List.setIfInBounds_toArray,List.set_cons_zero,List.set_cons_succ]
         refine wpAnyH_take (i:=1) (oi:=_) (v := .pointer (some ⟨wr.heap.size,1,none⟩)) rfl (by kernel_rfl) (by kernel_rfl) (by kernel_rfl) (fun _ _ _ h => h) (Or.inl ⟨by rfl,by intro w_ hSw;(try dsimp only at hSw);go_simp⟩) hHeld ?_
         simp only [Act.put,List.setIfInBounds_toArray,List.set_cons_zero,List.set_cons_succ]
         refine wpAnyH_take (i:=2) (oi:=_) (v := .int .i64 n) rfl (by kernel_rfl) (by kernel_rfl) (by kernel_rfl) (fun _ _ _ h => h) (Or.inl ⟨by rfl,by intro w_ hSw;(try dsimp only at hSw);go_simp⟩) hHeld ?_
         simp only [Act.put,List.setIfInBounds_toArray,List.set_cons_zero,List.set_cons_succ]
         refine wpAnyH_take (i:=3) (oi:=_) (v := .pointer (some ⟨go,n.toNat,none⟩)) rfl (by kernel_rfl) (by kernel_rfl) (by kernel_rfl) (fun _ _ _ h => h) (Or.inl ⟨by rfl,by intro w_ hSw;(try dsimp only at hSw);go_simp⟩) hHeld ?_
         simp only [Act.put,List.setIfInBounds_toArray,List.set_cons_zero,List.set_cons_succ]
         refine wpAnyH_take (i:=4) (oi:=_) (v := .slice A7 m7 c7) rfl (by kernel_rfl) (by kernel_rfl) (by kernel_rfl) (fun _ _ _ h => h) (Or.inl ⟨by rfl,by intro w_ hSw;(try dsimp only at hSw);go_simp⟩) hHeld ?_
         simp only [Act.put,List.setIfInBounds_toArray,List.set_cons_zero,List.set_cons_succ]
         refine wpAnyH_take (i:=5) (oi:=_) (v := .slice (some ⟨go,0,none⟩) out1.length co) rfl (by kernel_rfl) (by kernel_rfl) (by kernel_rfl) (fun _ _ _ h => h) (Or.inl ⟨by rfl,by intro w_ hSw;(try dsimp only at hSw);go_simp⟩) hHeld ?_
         simp only [Act.put,List.setIfInBounds_toArray,List.set_cons_zero,List.set_cons_succ]
         refine wpAnyH_take (i:=6) (oi:=_) (v := .pointer (some ⟨w0.heap.size,0,none⟩)) rfl (by kernel_rfl) (by kernel_rfl) (by kernel_rfl) (fun _ _ _ h => h) (Or.inl ⟨by rfl,by intro w_ hSw;(try dsimp only at hSw);go_simp⟩) hHeld ?_
         simp only [Act.put,List.setIfInBounds_toArray,List.set_cons_zero,List.set_cons_succ]
         refine wpAnyH_take (i:=7) (oi:=_) (v := .int .i64 left) rfl (by kernel_rfl) (by kernel_rfl) (by kernel_rfl) (fun _ _ _ h => h) (Or.inl ⟨by rfl,by intro w_ hSw;(try dsimp only at hSw);go_simp⟩) hHeld ?_
         simp only [Act.put,List.setIfInBounds_toArray,List.set_cons_zero,List.set_cons_succ]
         refine wpAnyH_take (i:=8) (oi:=_) (v := .pointer (some ⟨go,left.toNat,none⟩)) rfl (by kernel_rfl) (by kernel_rfl) (by kernel_rfl) (fun _ _ _ h => h) (Or.inl ⟨by rfl,by intro w_ hSw;(try dsimp only at hSw);go_simp⟩) hHeld ?_
         simp only [Act.put,List.setIfInBounds_toArray,List.set_cons_zero,List.set_cons_succ]
         refine wpAnyH_take (i:=9) (oi:=_) (v := .slice A8 m8 c8) rfl (by kernel_rfl) (by kernel_rfl) (by kernel_rfl) (fun _ _ _ h => h) (Or.inl ⟨by rfl,by intro w_ hSw;(try dsimp only at hSw);go_simp⟩) hHeld ?_
         simp only [Act.put,List.setIfInBounds_toArray,List.set_cons_zero,List.set_cons_succ]
         refine wpAnyH_ready (rs := [10]) (by kernel_rfl) (by simp) ?_
         refine AllReadyH.cons (o:=_) rfl (fun K hK => ?_) AllReadyH.nil
         go_simp
         (go_at_call 48;(with_reducible refine HCON3.out.mono ?_);rintro e w4 ⟨rfl,hI4,hK4⟩;have HI4:=hI4;have HK4:=hK4;clear hI4 hK4 k3 k4 k5 k6 k7)
         refine hK.out _ _ (KEEP3.out _ HK4.out) (fun hHeld2 => ?_)
         refine wpAnyH_take (i:=11) (oi:=_) (v := .bool true) rfl (by kernel_rfl) (by kernel_rfl) (by kernel_rfl) (fun _ _ _ h => h) (Or.inl ⟨by rfl,by intro w_ hSw;(try dsimp only at hSw);go_simp⟩) hHeld2 ?_
         simp only [Act.put,List.setIfInBounds_toArray,List.set_cons_zero,List.set_cons_succ]
         refine wpAnyH_take (i:=12) (oi:=_) (v:=undef) rfl (by kernel_rfl) (by kernel_rfl) (by kernel_rfl) (fun _ _ _ h => h) (Or.inr ⟨by rfl,rfl⟩) hHeld2 ?_
         simp only [Act.put,List.setIfInBounds_toArray,List.set_cons_zero,List.set_cons_succ]
         refine wpAnyH_take (i:=13) (oi:=_) (v := .bool true) rfl (by kernel_rfl) (by kernel_rfl) (by kernel_rfl) (fun _ _ _ h => h) (Or.inl ⟨by rfl,by intro w_ hSw;(try dsimp only at hSw);go_simp⟩) hHeld2 ?_
         simp only [Act.put,List.setIfInBounds_toArray,List.set_cons_zero,List.set_cons_succ]
         refine wpAnyH_take (i:=14) (oi:=_) (v := .bool true) rfl (by kernel_rfl) (by kernel_rfl) (by kernel_rfl) (fun _ _ _ h => h) (Or.inl ⟨by rfl,by intro w_ hSw;(try dsimp only at hSw);go_simp⟩) hHeld2 ?_
         simp only [Act.put,List.setIfInBounds_toArray,List.set_cons_zero,List.set_cons_succ]
         refine wpAnyH_done (by kernel_rfl) ?_ _
         refine NoPanic.normal ?_
         go_wp2
         go_roundg (right.length - (i + 1))
         case measure => have:=HM.out;have:=HLT.out;omega
         case rel => exact ⟨i + 1,_,out3,rfl,congrArg (Value.int .i64) (by first | rfl | (unfold wrap64;have:=HLT.out;have:=HLEN.out;omega)),by have:=HLT.out;omega,Nat.le_refl _,HN,HI4,⟨Kept.then_ (Kept.then_ HK2.out HK3.out (fun k hk => .inl hk.1)) (show Kept w3 w4 _ from HK4.out) (fun k hk => .inl hk.1)⟩,⟨blk_kept HBP3.out HK4.out (fun hk => Nat.lt_irrefl _ (HLO.out _ hk.1))⟩⟩
  · have hir : i = right.length:=by omega
    have d0 : decide ((i : Int) < (right.length : Int)) = false:=decide_eq_false (by omega)
    have H:=HA.out
    rw [hir,List.drop_length] at H
    simp only [followIn] at H
    obtain ⟨rfl,rfl⟩ := Prod.mk.inj (Option.some.inj H)
    clear H HA
    go_wp2
    go_ret
    exact ⟨rfl,HI,HK⟩
section
variable {w w1 : World} {G : Nat} {A0_0 : Option Addr} {n0 : Nat} {c0_0 : Nat} {A0_1 : Option Addr} {n1 : Nat} {c0_1 : Nat} {a0_2 : Int} {a0_3 : Int} {A0_4 : Option Addr} {n4 : Nat} {c0_4 : Nat} {A5 : Option Addr} {c5 : Nat} {A6 : Option Addr} {c6 : Nat} {okE okF : Nat → Prop} {em : List Bool} {first : List (List Bool)} {Ao : Option Addr} {co : Nat} {out : List (List Bool)} {W W' : World}
theorem StudyAt.lower (h : StudyAt w1 G A0_0 n0 c0_0 A0_1 n1 c0_1 a0_2 a0_3 A0_4 n4 c0_4 A5 c5 A6 c6 okE okF em first W) (hb : Below w.heap.size w w1) : StudyAt w G A0_0 n0 c0_0 A0_1 n1 c0_1 a0_2 a0_3 A0_4 n4 c0_4 A5 c5 A6 c6 okE okF em first W :=
  ⟨hb.trans (h.bel.mono hb.size),h.g,Nat.le_trans hb.size h.ge,Kd.R_lower h.re hb.size,Kd.S_lower h.rf hb.size,h.e1,h.f1⟩
theorem StudyAt.bound (h : StudyAt w G A0_0 n0 c0_0 A0_1 n1 c0_1 a0_2 a0_3 A0_4 n4 c0_4 A5 c5 A6 c6 okE okF em first W) : StudyAt w G A0_0 n0 c0_0 A0_1 n1 c0_1 a0_2 a0_3 A0_4 n4 c0_4 A5 c5 A6 c6 (fun k => okE k ∧ k < W.heap.size) (fun k => okF k ∧ k < W.heap.size) em first W :=
  ⟨h.bel,h.g,h.ge,Kd.R_mono (Kd.R_bound h.re) (fun k hk => ⟨hk.1,hk.2.2.1⟩),Kd.S_mono (Kd.S_bound h.rf) (fun k hk => ⟨hk.1,hk.2.2.1⟩),fun k hk => h.e1 k hk.1,fun k hk => ⟨(h.f1 k hk.1).1,fun h2 => (h.f1 k hk.1).2 h2.1⟩⟩
theorem follow_start {w3 w4 : World} (h : StudyAt w1 G A0_0 n0 c0_0 A0_1 n1 c0_1 a0_2 a0_3 A0_4 n4 c0_4 A5 c5 A6 c6 okE okF em first w3) (hb : Below w.heap.size w w1) (hS : Kd.S (Kd.slice 4 Kd.bool) 84 w4 (w3.alloc (Obj.cells #[.pointer (some ⟨G,0,none⟩)] 80)).heap.size (fun _ => True) (.slice Ao out.length co) out) (hb4 : Below (w3.alloc (Obj.cells #[.pointer (some ⟨G,0,none⟩)] 80)).heap.size (w3.alloc (Obj.cells #[.pointer (some ⟨G,0,none⟩)] 80)) w4) :
    FollowI w w3.heap.size w4.heap.size G A0_0 n0 c0_0 A0_1 n1 c0_1 a0_2 a0_3 A0_4 n4 c0_4 A5 c5 A6 c6 (fun k => okE k ∧ k < w3.heap.size) (fun k => okF k ∧ k < w3.heap.size) (fun k => w3.heap.size < k ∧ k < w4.heap.size) em first Ao co out (w4.alloc (.cells #[.slice Ao out.length co] 82)) ∧ ∀ k,(w3.heap.size < k ∧ k < w4.heap.size) → k ≠ G ∧ k ≠ w3.heap.size ∧ k ≠ w4.heap.size ∧ ¬ (okE k ∧ k < w3.heap.size) ∧ ¬ (okF k ∧ k < w3.heap.size) := by
 have h0 : Below w3.heap.size w3 (w3.alloc (Obj.cells #[.pointer (some ⟨G,0,none⟩)] 80)) := (Below.refl _ w3).alloc (Nat.le_refl _) _
 have h4 : Below w3.heap.size w3 (w4.alloc (.cells #[.slice Ao out.length co] 82)) := below_alloc (h0.trans (hb4.mono h0.size)) _
 have hsz : w3.heap.size + 1 ≤ w4.heap.size:=by have:=hb4.size;simpa using this
 have hG:=blk_lt h.g
 refine ⟨⟨(h.lower hb).bound.below h4,?_,?_,?_,?_⟩,fun k hk => ⟨by omega,by omega,by omega,fun h2 => by omega,fun h2 => by omega⟩⟩
 · have : (w3.alloc (Obj.cells #[.pointer (some ⟨G,0,none⟩)] 80)).cell? ⟨w3.heap.size,0,none⟩ = some (.pointer (some ⟨G,0,none⟩)) := by simp
   exact (((below_alloc hb4 _).cell (p:=⟨w3.heap.size,0,none⟩) (by simp)).trans this)
 · simp
 · have hlow : w.heap.size ≤ (w3.alloc (Obj.cells #[.pointer (some ⟨G,0,none⟩)] 80)).heap.size:=by have:=hb.size;have:=h.bel.size;simp;omega
   exact Kd.S_mono (Kd.S_lower (Kd.S_below (Kd.S_bound hS) ((Below.refl _ w4).alloc (Nat.le_refl _) _)) hlow) (fun k hk => ⟨by have:=hk.2.1;simp at this;omega,hk.2.2.1⟩)
 · intro k hk
   have:=hk.2
   simp
   omega
end
def followOut0 (n nt : Nat) : List (List Bool) := if 0 < n then (List.replicate n (List.replicate (nt + 1) false)).set 0 ((List.replicate (nt + 1) false).set nt true) else []
def firsts_Follow.f (k : Nat) (l0_0 : List ByteArray) (l0_1 : List (S61)) (a0_2 : Int) (a0_3 : Int) (l0_4 : List (S30)) : Option (List (List Int)) :=
  (firsts_Right.f l0_0 l0_1 a0_2 a0_3 l0_4).bind fun r => if r = true then (studied_f k l0_0 l0_1 a0_2 a0_3 l0_4).bind fun x => (growOut (followStep k l0_1.length x.1 x.2) l0_4 k (followOut0 l0_0.length l0_1.length)).bind fun out => firsts_all.f k out else some []
set_option maxHeartbeats 4000000 in
theorem firsts_Follow.calls (k : Nat) (A0_0 : Option Addr) (c0_0 : Nat) (l0_0 : List ByteArray) (A0_1 : Option Addr) (c0_1 : Nat) (l0_1 : List (S61)) (a0_2 : Int) (a0_3 : Int) (A0_4 : Option Addr) (c0_4 : Nat) (l0_4 : List (S30)) (r : List (List Int)) (w : World) (hr0_0 : Kd.C Kd.string w A0_0 l0_0.length l0_0) (hc0_0 : l0_0.length ≤ c0_0) (hr0_1 : Kd.C k61 w A0_1 l0_1.length l0_1) (hc0_1 : l0_1.length ≤ c0_1) (hr0_4 : Kd.C k30 w A0_4 l0_4.length l0_4) (hc0_4 : l0_4.length ≤ c0_4) (h : firsts_Follow.f k l0_0 l0_1 a0_2 a0_3 l0_4 = some r) :
    Calls Try.prog 38 #[.agg #[.slice A0_0 l0_0.length c0_0,.slice A0_1 l0_1.length c0_1,.int .i64 a0_2,.int .i64 a0_3,.slice A0_4 l0_4.length c0_4]] w fun e w' => ∃ v0_ : Value,e = .returned (v0_) ∧ Kd.S (Kd.slice 3 (Kd.int .i64)) 43 w' w.heap.size (fun _ => True) v0_ r ∧ Below w.heap.size w w' := by
 obtain ⟨rt,hrt,h2⟩ := Option.bind_eq_some_iff.1 h
 have HRT:=Aside0.mk hrt
 clear h hrt
 have HA1 : Aside0 (Below w.heap.size w (w.alloc (.cells #[.slice A0_0 l0_0.length c0_0,.slice A0_1 l0_1.length c0_1,.int .i64 a0_2,.int .i64 a0_3,.slice A0_4 l0_4.length c0_4] 26))) := ⟨(Below.refl _ w).alloc (Nat.le_refl _) _⟩
 have HC : Aside0 (∀ W,Below (w.heap.size + 1) (w.alloc (.cells #[.slice A0_0 l0_0.length c0_0,.slice A0_1 l0_1.length c0_1,.int .i64 a0_2,.int .i64 a0_3,.slice A0_4 l0_4.length c0_4] 26)) W → W.cell? ⟨w.heap.size,0,none⟩ = some (.slice A0_0 l0_0.length c0_0) ∧ W.cell? ⟨w.heap.size,1,none⟩ = some (.slice A0_1 l0_1.length c0_1) ∧ W.cell? ⟨w.heap.size,2,none⟩ = some (.int .i64 a0_2) ∧ W.cell? ⟨w.heap.size,3,none⟩ = some (.int .i64 a0_3) ∧ W.cell? ⟨w.heap.size,4,none⟩ = some (.slice A0_4 l0_4.length c0_4)) := ⟨fun W hW => ⟨(hW.cell (p:=⟨w.heap.size,0,none⟩) (by simp)).trans (by simp),(hW.cell (p:=⟨w.heap.size,1,none⟩) (by simp)).trans (by simp),(hW.cell (p:=⟨w.heap.size,2,none⟩) (by simp)).trans (by simp),(hW.cell (p:=⟨w.heap.size,3,none⟩) (by simp)).trans (by simp),(hW.cell (p:=⟨w.heap.size,4,none⟩) (by simp)).trans (by simp)⟩⟩
 cases rt with
 | false =>
  rw [if_neg (by simp)] at h2
  obtain rfl:=Option.some.inj h2
  clear h2
  go_enter Try.func38,Try.ntmps38
  go_wp2_with (go_at_call 22;(with_reducible refine (firsts_Right.calls A0_0 c0_0 l0_0 A0_1 c0_1 l0_1 a0_2 a0_3 A0_4 c0_4 l0_4 false _ (Kd.C_below hr0_0 HA1.out) hc0_0 (Kd.C_below hr0_1 HA1.out) hc0_1 (Kd.C_below hr0_4 HA1.out) hc0_4 HRT.out).mono ?_);rintro e w1 ⟨rfl,hb1⟩)
  go_ret
  exact ⟨_,rfl,Kd.S_nil _ _ _ _ _,HA1.out.trans (hb1.mono (by simp))⟩
 | true =>
  rw [if_pos rfl] at h2
  obtain ⟨⟨em,first⟩,hst,h3⟩ := Option.bind_eq_some_iff.1 h2
  obtain ⟨out,hgr,hal⟩ := Option.bind_eq_some_iff.1 h3
  have hsz : l0_0.length ≤ 11728124029610 ∧ l0_1.length < 281474976710656 ∧ l0_4.length ≤ 9223372036854775807:=by
   unfold studied_f at hst
   split at hst
   · assumption
   · simp at hst
  have hps : l0_4.all (fun p => decide (p.f1.length ≤ 9223372036854775807)) = true:=by
   have:=HRT.out
   unfold firsts_Right.f at this
   split at this
   · rename_i hh;exact hh.2
   · simp at this
  have HST:=Aside0.mk hst
  have HGR:=Aside0.mk hgr
  have HAL:=Aside0.mk hal
  have HSZ:=Aside0.mk hsz
  have HPS:=Aside0.mk hps
  have eg : ∀ args w,(callFunc 46 args).run Try.prog w = .ok (.enter 46 args) w:=enters_of Try.func46 (by kernel_rfl) rfl
  clear h2 h3 hst hgr hal hsz hps
  by_cases hpos : 0 < l0_0.length
  · have hg : (0 < l0_0.length) = True:=eq_true hpos
    have HPOS:=Aside0.mk hpos
    clear hpos
    go_enter Try.func38,Try.ntmps38
    go_wp2_with (first
      | (go_at_call 22;(with_reducible refine (firsts_Right.calls A0_0 c0_0 l0_0 A0_1 c0_1 l0_1 a0_2 a0_3 A0_4 c0_4 l0_4 true _ (Kd.C_below hr0_0 HA1.out) hc0_0 (Kd.C_below hr0_1 HA1.out) hc0_1 (Kd.C_below hr0_4 HA1.out) hc0_4 HRT.out).mono ?_);rintro e w1 ⟨rfl,hb1⟩;have HB1 : Aside0 (Below (w.heap.size + 1) (w.alloc (.cells #[.slice A0_0 l0_0.length c0_0,.slice A0_1 l0_1.length c0_1,.int .i64 a0_2,.int .i64 a0_3,.slice A0_4 l0_4.length c0_4] 26)) w1) := ⟨hb1.mono (by simp)⟩;have HB01 : Aside0 (Below w.heap.size w w1) := ⟨HA1.out.trans (hb1.mono (by simp))⟩;clear hb1;obtain ⟨q0,q1,q2,q3,q4⟩ := HC.out w1 HB1.out)
      | (go_at_call 43;(with_reducible refine (studied_any k A0_0 c0_0 l0_0 A0_1 c0_1 l0_1 a0_2 a0_3 A0_4 c0_4 l0_4 em first _ (Kd.C_below hr0_0 HB01.out) hc0_0 (Kd.C_below hr0_1 HB01.out) hc0_1 (Kd.C_below hr0_4 HB01.out) hc0_4 HST.out).mono ?_);rintro e w3 ⟨G,A5,c5,A6,c6,okE,okF,rfl,hs2⟩;have HS2:=Aside0.mk hs2;have HB3 : Aside0 (Below (w.heap.size + 1) (w.alloc (.cells #[.slice A0_0 l0_0.length c0_0,.slice A0_1 l0_1.length c0_1,.int .i64 a0_2,.int .i64 a0_3,.slice A0_4 l0_4.length c0_4] 26)) w3) := ⟨HB1.out.trans (HS2.out.bel.mono (by have:=HB1.out.size;simpa using this))⟩;clear hs2 q0 q1 q2 q3 q4)
      | (go_at_call 44;(with_reducible refine (sets_any G _ A0_0 A0_1 l0_0.length l0_1.length c0_0 c0_1 ((blk_cell (blk_alloc HS2.out.g _) 0).trans rfl) ((blk_cell (blk_alloc HS2.out.g _) 1).trans rfl) HSZ.out.1 HSZ.out.2.1).mono ?_);rintro e w4 ⟨v4,rfl,hS4,hb4⟩;obtain ⟨Ao,co,rfl⟩ := Kd.S_slice hS4;have HF:=Aside0.mk (follow_start HS2.out HB01.out hS4 hb4);clear hS4;rw [List.length_replicate] at HF ⊢;have HB4 : Aside0 (Below (w.heap.size + 1) (w.alloc (.cells #[.slice A0_0 l0_0.length c0_0,.slice A0_1 l0_1.length c0_1,.int .i64 a0_2,.int .i64 a0_3,.slice A0_4 l0_4.length c0_4] 26)) (w4.alloc (.cells #[.slice Ao l0_0.length co] 82))) := ⟨Below.alloc (Below.alloc HB3.out (by have:=HB3.out.size;simpa using this) _ |>.trans (hb4.mono (by have:=HB3.out.size;simp at this ⊢;omega))) (by have:=HB3.out.size;have:=hb4.size;simp at *;omega) _⟩;obtain ⟨q0,q1,q2,q3,q4⟩ := HC.out _ HB4.out))
    have HFI:=Aside0.mk HF.out.1
    have HFD:=Aside0.mk HF.out.2
    clear HF
    obtain ⟨go,vr,P,eA,hcell,hRow,hP,hback⟩ := S_row rfl HFI.out.r 0 (by omega) (by rw [List.length_replicate];exact_mod_cast HPOS.out)
    cases eA
    have hgd : (List.replicate l0_0.length (List.replicate (l0_1.length + 1) false)).getD (0 : Int).toNat [] = List.replicate (l0_1.length + 1) false:=by simp [List.getD_eq_getElem?_getD,HPOS.out]
    rw [hgd] at hRow
    obtain ⟨gr,c7,hv,_,_,_⟩ := Kd.R_form hRow (by simp)
    subst hv
    rw [List.length_replicate] at hRow hcell
    obtain ⟨hx,hf⟩ := Kd.R_celln false hRow (l0_1.length : Int) (by omega) (by omega)
    have hput:=Kd.R_putg hRow (l0_1.length : Int) true
    rw [Int.toNat_natCast] at hx hf hput
    have hPgr : P gr:=hRow.1 gr (by simp [Value.ownBlock])
    have HGR2:=Aside0.mk (hP gr hPgr)
    have hKs : Kept (w4.alloc (.cells #[.slice (some ⟨go,0,none⟩) l0_0.length co] 82)) ((w4.alloc (.cells #[.slice (some ⟨go,0,none⟩) l0_0.length co] 82)).setCell ⟨gr,l0_1.length,none⟩ (.bool true)) P:=Kept.setCell (Kept.refl _ _) (.inl hPgr) _
    have hS6:=hback _ P _ hKs (by rw [List.length_replicate];exact hput.1)
    have HFS:=Aside0.mk (FollowI.keep HFD.out HFI.out (below_set HFI.out.st.bel (show w.heap.size ≤ gr from by have:=HGR2.out.1.1;have:=HS2.out.bel.size;have:=HB01.out.size;omega)) hKs (fun k hk => (hP k hk).1) (by rw [List.length_replicate] at hS6 ⊢;exact hS6) (by simp))
    have hne1 : go ≠ gr:=fun e => HGR2.out.2 e.symm
    have hne2 : w4.heap.size ≠ gr:=by have:=HGR2.out.1.2;omega
    have hne3 : w.heap.size ≠ gr:=by have:=HGR2.out.1.1;have:=HS2.out.bel.size;have:=HB01.out.size;omega
    have HB6 : Aside0 (Below (w.heap.size + 1) (w.alloc (.cells #[.slice A0_0 l0_0.length c0_0,.slice A0_1 l0_1.length c0_1,.int .i64 a0_2,.int .i64 a0_3,.slice A0_4 l0_4.length c0_4] 26)) ((w4.alloc (.cells #[.slice (some ⟨go,0,none⟩) l0_0.length co] 82)).setCell ⟨gr,l0_1.length,none⟩ (.bool true))) := ⟨HB4.out.setCell (by have:=HGR2.out.1.1;have:=HS2.out.bel.size;have:=HB01.out.size;simp only;omega) _⟩
    have LB : Aside0 (w.heap.size ≤ w3.heap.size) := ⟨Nat.le_trans HB01.out.size HS2.out.bel.size⟩
    have o5 : (w4.alloc (.cells #[.slice (some ⟨go,0,none⟩) l0_0.length co] 82)).cell? ⟨w4.heap.size,0,none⟩ = some (.slice (some ⟨go,0,none⟩) l0_0.length co) := by simp
    have hcell0 : (w4.alloc (.cells #[.slice (some ⟨go,0,none⟩) l0_0.length co] 82)).cell? ⟨go,0,none⟩ = some (.slice (some ⟨gr,0,none⟩) (l0_1.length + 1) c7) := hcell
    have KEEP : Aside0 (∀ W,Kept (w4.alloc (.cells #[.slice (some ⟨go,0,none⟩) l0_0.length co] 82)) W (fun k => k = gr) → (W.cell? ⟨w4.heap.size,0,none⟩ = some (.slice (some ⟨go,0,none⟩) l0_0.length co) ∧ W.cell? ⟨w.heap.size,1,none⟩ = some (.slice A0_1 l0_1.length c0_1) ∧ W.cell? ⟨go,0,none⟩ = some (.slice (some ⟨gr,0,none⟩) (l0_1.length + 1) c7))) := ⟨fun W hk => ⟨cell_kept o5 hk hne2,cell_kept q1 hk hne3,cell_kept hcell0 hk hne1⟩⟩
    have p1 : (((l0_1.length : Nat) : Int) < (l0_1.length : Int) + 1) = True:=eq_true (by omega)
    have p2 : (0 ≤ (l0_1.length : Int)) = True:=eq_true (by omega)
    have p3 : ((0 : Int) < (l0_0.length : Int)) = True:=eq_true (by have:=HPOS.out;omega)
    obtain ⟨w5,ew5⟩ : ∃ w5,w5 = (w4.alloc (.cells #[.slice (some ⟨go,0,none⟩) l0_0.length co] 82)) := ⟨_,rfl⟩
    rw [← ew5] at KEEP HFS HFI hx hf HB6 q0 q1 q2 q3 q4 o5 hcell0 ⊢
    clear hcell hRow hback hput hPgr hKs hS6 hgd hP ew5 HB4
    have KEND:=Aside0.mk (KEEP.out (w5.setCell ⟨gr,l0_1.length,none⟩ (.bool true)).drew (Kept.drew (Kept.setCell (Kept.refl w5 (fun k => k = gr)) (.inl rfl) _)))
    go_region_held3 (fun W => W.cell? ⟨w4.heap.size,0,none⟩ = some (.slice (some ⟨go,0,none⟩) l0_0.length co) ∧ W.cell? ⟨w.heap.size,1,none⟩ = some (.slice A0_1 l0_1.length c0_1) ∧ W.cell? ⟨go,0,none⟩ = some (.slice (some ⟨gr,0,none⟩) (l0_1.length + 1) c7))
      (first | exact KEND.out | exact KEEP.out _ (Kept.drew (Kept.refl _ _)) | go_keep)
      (fail)
    have HG0 : Aside0 (growOut (followStep k l0_1.length em first) l0_4 k ((List.replicate l0_0.length (List.replicate (l0_1.length + 1) false)).set (0 : Int).toNat ((List.replicate (l0_1.length + 1) false).set l0_1.length true)) = some out) := ⟨by have:=HGR.out;rwa [followOut0,if_pos HPOS.out] at this⟩
    obtain ⟨w6,ew6⟩ : ∃ w6,w6 = w5.setCell ⟨gr,l0_1.length,none⟩ (.bool true) := ⟨_,rfl⟩
    have r:=HC.out _ HB6.out
    rw [← ew6] at r HFS HB6 KEND ⊢
    obtain ⟨q0,q1,q2,q3,q4⟩ := r
    have HFT:=Aside0.mk (HFS.out.below (below_drew1 (Below.refl _ w6)))
    have hcon:=grow_any (fun out W => FollowI w w3.heap.size w4.heap.size G A0_0 l0_0.length c0_0 A0_1 l0_1.length c0_1 a0_2 a0_3 A0_4 l0_4.length c0_4 A5 c5 A6 c6 (fun k => okE k ∧ k < w3.heap.size) (fun k => okF k ∧ k < w3.heap.size) (fun k => w3.heap.size < k ∧ k < w4.heap.size) em first (some ⟨go,0,none⟩) co out W) (fun k => w3.heap.size < k ∧ k < w4.heap.size) (followStep k l0_1.length em first) 46 #[.pointer (some ⟨w3.heap.size,0,none⟩),.pointer (some ⟨w4.heap.size,0,none⟩)] eg k A0_0 A0_1 l0_0.length c0_0 l0_1.length c0_1 a0_2 a0_3 A0_4 c0_4 l0_4 _ out _ HFT.out (fun st W W' hI hb => hI.below hb) HFT.out.b (fun st W hI => Kd.C_kept_came k30_heap hr0_4 hI.st.bel (fun k hk => Nat.le_trans LB.out (Nat.le_of_lt hk.1))) HSZ.out.2.2 (follow1_any k w w3.heap.size w4.heap.size G A0_0 l0_0.length c0_0 A0_1 l0_1.length c0_1 a0_2 a0_3 A0_4 l0_4.length c0_4 A5 c5 A6 c6 (fun k => okE k ∧ k < w3.heap.size) (fun k => okF k ∧ k < w3.heap.size) (fun k => w3.heap.size < k ∧ k < w4.heap.size) em first (some ⟨go,0,none⟩) co l0_4 HFD.out HPS.out) HG0.out
    have HCON:=Aside0.mk hcon
    have o6:=HFT.out.o
    clear hcon hx hf o5 hcell0 ew6
    go_wp2_with (first
      | (go_at_call 45;(with_reducible refine HCON.out.mono ?_);rintro e w7 ⟨rfl,hI7,hK7⟩;have HI7:=hI7;have o7:=HI7.out.o;clear hI7 hK7)
      | (go_at_call 49;(with_reducible refine (firsts_all.calls k (some ⟨go,0,none⟩) co out r _ (Kd.S_reads' HI7.out.r).2.2 (Kd.S_reads' HI7.out.r).2.1 HAL.out).mono ?_);rintro e w8 ⟨v8,rfl,hS8,hb8⟩;have HS8:=Aside0.mk hS8;have HB8:=Aside0.mk hb8;clear hS8 hb8))
    go_ret
    exact ⟨_,rfl,Kd.S_lower HS8.out HI7.out.st.bel.size,HI7.out.st.bel.trans (HB8.out.mono HI7.out.st.bel.size)⟩
  · have hz : l0_0.length = 0:=by omega
    have hg : (0 < l0_0.length) = False:=eq_false hpos
    have HZ:=Aside0.mk hz
    clear hpos hz
    go_enter Try.func38,Try.ntmps38
    go_upto_region 7 with (first
      | (go_at_call 22;(with_reducible refine (firsts_Right.calls A0_0 c0_0 l0_0 A0_1 c0_1 l0_1 a0_2 a0_3 A0_4 c0_4 l0_4 true _ (Kd.C_below hr0_0 HA1.out) hc0_0 (Kd.C_below hr0_1 HA1.out) hc0_1 (Kd.C_below hr0_4 HA1.out) hc0_4 HRT.out).mono ?_);rintro e w1 ⟨rfl,hb1⟩;have HB1 : Aside0 (Below (w.heap.size + 1) (w.alloc (.cells #[.slice A0_0 l0_0.length c0_0,.slice A0_1 l0_1.length c0_1,.int .i64 a0_2,.int .i64 a0_3,.slice A0_4 l0_4.length c0_4] 26)) w1) := ⟨hb1.mono (by simp)⟩;have HB01 : Aside0 (Below w.heap.size w w1) := ⟨HA1.out.trans (hb1.mono (by simp))⟩;clear hb1;obtain ⟨q0,q1,q2,q3,q4⟩ := HC.out w1 HB1.out)
      | (go_at_call 43;(with_reducible refine (studied_any k A0_0 c0_0 l0_0 A0_1 c0_1 l0_1 a0_2 a0_3 A0_4 c0_4 l0_4 em first _ (Kd.C_below hr0_0 HB01.out) hc0_0 (Kd.C_below hr0_1 HB01.out) hc0_1 (Kd.C_below hr0_4 HB01.out) hc0_4 HST.out).mono ?_);rintro e w3 ⟨G,A5,c5,A6,c6,okE,okF,rfl,hs2⟩;have HS2:=Aside0.mk hs2;have HB3 : Aside0 (Below (w.heap.size + 1) (w.alloc (.cells #[.slice A0_0 l0_0.length c0_0,.slice A0_1 l0_1.length c0_1,.int .i64 a0_2,.int .i64 a0_3,.slice A0_4 l0_4.length c0_4] 26)) w3) := ⟨HB1.out.trans (HS2.out.bel.mono (by have:=HB1.out.size;simpa using this))⟩;clear hs2 q0 q1 q2 q3 q4)
      | (go_at_call 44;(with_reducible refine (sets_any G _ A0_0 A0_1 l0_0.length l0_1.length c0_0 c0_1 ((blk_cell (blk_alloc HS2.out.g _) 0).trans rfl) ((blk_cell (blk_alloc HS2.out.g _) 1).trans rfl) HSZ.out.1 HSZ.out.2.1).mono ?_);rintro e w4 ⟨v4,rfl,hS4,hb4⟩;obtain ⟨Ao,co,rfl⟩ := Kd.S_slice hS4;have HF:=Aside0.mk (follow_start HS2.out HB01.out hS4 hb4);clear hS4;rw [List.length_replicate] at HF ⊢;have HB4 : Aside0 (Below (w.heap.size + 1) (w.alloc (.cells #[.slice A0_0 l0_0.length c0_0,.slice A0_1 l0_1.length c0_1,.int .i64 a0_2,.int .i64 a0_3,.slice A0_4 l0_4.length c0_4] 26)) (w4.alloc (.cells #[.slice Ao l0_0.length co] 82))) := ⟨Below.alloc (Below.alloc HB3.out (by have:=HB3.out.size;simpa using this) _ |>.trans (hb4.mono (by have:=HB3.out.size;simp at this ⊢;omega))) (by have:=HB3.out.size;have:=hb4.size;simp at *;omega) _⟩;obtain ⟨q0,q1,q2,q3,q4⟩ := HC.out _ HB4.out))
    have HFI:=Aside0.mk HF.out.1
    have HFD:=Aside0.mk HF.out.2
    clear HF
    have LB : Aside0 (w.heap.size ≤ w3.heap.size) := ⟨Nat.le_trans HB01.out.size HS2.out.bel.size⟩
    have HG0 : Aside0 (growOut (followStep k l0_1.length em first) l0_4 k (List.replicate l0_0.length (List.replicate (l0_1.length + 1) false)) = some out) := ⟨by have:=HGR.out;rw [followOut0,if_neg (by have:=HZ.out;omega)] at this;rw [HZ.out];exact this⟩
    have hcon:=grow_any (fun out W => FollowI w w3.heap.size w4.heap.size G A0_0 l0_0.length c0_0 A0_1 l0_1.length c0_1 a0_2 a0_3 A0_4 l0_4.length c0_4 A5 c5 A6 c6 (fun k => okE k ∧ k < w3.heap.size) (fun k => okF k ∧ k < w3.heap.size) (fun k => w3.heap.size < k ∧ k < w4.heap.size) em first Ao co out W) (fun k => w3.heap.size < k ∧ k < w4.heap.size) (followStep k l0_1.length em first) 46 #[.pointer (some ⟨w3.heap.size,0,none⟩),.pointer (some ⟨w4.heap.size,0,none⟩)] eg k A0_0 A0_1 l0_0.length c0_0 l0_1.length c0_1 a0_2 a0_3 A0_4 c0_4 l0_4 _ out _ HFI.out (fun st W W' hI hb => hI.below hb) HFI.out.b (fun st W hI => Kd.C_kept_came k30_heap hr0_4 hI.st.bel (fun k hk => Nat.le_trans LB.out (Nat.le_of_lt hk.1))) HSZ.out.2.2 (follow1_any k w w3.heap.size w4.heap.size G A0_0 l0_0.length c0_0 A0_1 l0_1.length c0_1 a0_2 a0_3 A0_4 l0_4.length c0_4 A5 c5 A6 c6 (fun k => okE k ∧ k < w3.heap.size) (fun k => okF k ∧ k < w3.heap.size) (fun k => w3.heap.size < k ∧ k < w4.heap.size) em first Ao co l0_4 HFD.out HPS.out) HG0.out
    have HCON:=Aside0.mk hcon
    clear hcon
    go_wp2_with (first
      | (go_at_call 45;(with_reducible refine HCON.out.mono ?_);rintro e w7 ⟨rfl,hI7,hK7⟩;have HI7:=hI7;have o7:=HI7.out.o;clear hI7 hK7)
      | (go_at_call 49;(with_reducible refine (firsts_all.calls k Ao co out r _ (Kd.S_reads' HI7.out.r).2.2 (Kd.S_reads' HI7.out.r).2.1 HAL.out).mono ?_);rintro e w8 ⟨v8,rfl,hS8,hb8⟩;have HS8:=Aside0.mk hS8;have HB8:=Aside0.mk hb8;clear hS8 hb8))
    go_ret
    exact ⟨_,rfl,Kd.S_lower HS8.out HI7.out.st.bel.size,HI7.out.st.bel.trans (HB8.out.mono HI7.out.st.bel.size)⟩
end Go.Proofs.Ytfdcfihcfegekaa.P
end

section
namespace Go.Proofs.Ytfdcfihcfegekaa.P
open Go.RowKit Go.Proofs.YtfdcfihcfegekaaW.PrintWords Go.Proofs.YtfdcfihcfegekaaW.PrintLast Go.Proofs.YtfdcfihcfegekaaW.PrintMore
attribute [local go_sem] max2_int min2_int max_two min_two max_three min_three max_four min_four   -- for this text's walks alone
set_option linter.unusedVariables false
set_option linter.unusedSimpArgs false
mutual
def predict_chosen.l0 : Nat → List (List Int) → List (List Bool) → List (S30) → Int → Int → List ByteArray → List (S61) → Int → Int → List (S30) → Option ((List (List Bool)))
  | 0,_,_,_,_,_,_,_,_,_,_ => none
  | k + 1,x3,x4,x18,x19,x20,x143000,x143001,x143002,x143003,x143004 => if x20 < x19 then (if 0 ≤ x20 then (if x20 < (x18.length : Int) then (if 0 ≤ (wrap64 ((x143001.length : Int) + 1)) then (if (wrap64 ((x143001.length : Int) + 1) : Int).toNat ≤ 281474976710656 then (if x20 < (x4.length : Int) then ((some (x4.set (x20 : Int).toNat (List.replicate (wrap64 ((x143001.length : Int) + 1) : Int).toNat false) : List (List Bool))).bind fun y154 => ((firsts_Of.f k x143000 x143001 x143002 x143003 x143004 ((rd_T30 x18 x20).f1)).bind fun bt155 => (if bt155.2 = true then (if 0 ≤ ((rd_T30 x18 x20).f0) then (if ((rd_T30 x18 x20).f0) < (x3.length : Int) then (if bt155.1.length + (rd_L3 x3 ((rd_T30 x18 x20).f0)).length < 17592186044416 then (predict_chosen.j1 k x3 y154 x20 (bt155.1 ++ (rd_L3 x3 ((rd_T30 x18 x20).f0))) x18 x19 x20 x143000 x143001 x143002 x143003 x143004) else (none)) else (none)) else (none)) else (predict_chosen.j1 k x3 y154 x20 bt155.1 x18 x19 x20 x143000 x143001 x143002 x143003 x143004)))) else (none)) else (none)) else (none)) else (none)) else (none)) else (some x4)
def predict_chosen.j1 : Nat → List (List Int) → List (List Bool) → Int → List Int → List (S30) → Int → Int → List ByteArray → List (S61) → Int → Int → List (S30) → Option ((List (List Bool)))
  | 0,_,_,_,_,_,_,_,_,_,_,_,_ => none
  | k + 1,x3,x4,x5,x7,x18,x19,x20,x143000,x143001,x143002,x143003,x143004 => predict_chosen.l1 k x3 x4 x5 x18 x19 x20 x7 (x7.length : Int) 0 x143000 x143001 x143002 x143003 x143004
def predict_chosen.l1 : Nat → List (List Int) → List (List Bool) → Int → List (S30) → Int → Int → List Int → Int → Int → List ByteArray → List (S61) → Int → Int → List (S30) → Option ((List (List Bool)))
  | 0,_,_,_,_,_,_,_,_,_,_,_,_,_,_ => none
  | k + 1,x3,x4,x5,x18,x19,x20,x48,x49,x50,x143000,x143001,x143002,x143003,x143004 => if x50 < x49 then (if 0 ≤ x50 then (if x50 < (x48.length : Int) then (if 0 ≤ x5 then (if x5 < (x4.length : Int) then (if 0 ≤ (rd x48 x50) then (if (rd x48 x50) < ((rd_L13 x4 x5).length : Int) then (predict_chosen.l1 k x3 (x4.set (x5 : Int).toNat ((rd_L13 x4 x5).set ((rd x48 x50) : Int).toNat true)) x5 x18 x19 x20 x48 x49 (wrap64 (x50 + 1)) x143000 x143001 x143002 x143003 x143004) else (none)) else (none)) else (none)) else (none)) else (none)) else (none)) else (predict_chosen.l0 k x3 x4 x18 x19 (wrap64 (x20 + 1)) x143000 x143001 x143002 x143003 x143004)
end
def predict_chosen.f (k : Nat) (l0_0 : List ByteArray) (l0_1 : List (S61)) (a0_2 : Int) (a0_3 : Int) (l0_4 : List (S30)) : Option ((List (List Bool))) := (firsts_Follow.f k l0_0 l0_1 a0_2 a0_3 l0_4).bind fun t143 => (if 0 ≤ (l0_4.length : Int) then (if ((l0_4.length : Int) : Int).toNat ≤ 11728124029610 then (predict_chosen.l0 k t143 (List.replicate ((l0_4.length : Int) : Int).toNat []) l0_4 (l0_4.length : Int) 0 l0_0 l0_1 a0_2 a0_3 l0_4) else (none)) else (none))
set_option maxHeartbeats 8000000 in
set_option maxRecDepth 100000 in
theorem predict_chosen.calls (k : Nat) (A0_0 : Option Addr) (c0_0 : Nat) (l0_0 : List ByteArray) (A0_1 : Option Addr) (c0_1 : Nat) (l0_1 : List (S61)) (a0_2 : Int) (a0_3 : Int) (A0_4 : Option Addr) (c0_4 : Nat) (l0_4 : List (S30)) (r : List (List Bool)) (w : World) (hr0_0 : Kd.C Kd.string w A0_0 l0_0.length l0_0) (hc0_0 : l0_0.length ≤ c0_0) (hr0_1 : Kd.C k61 w A0_1 l0_1.length l0_1) (hc0_1 : l0_1.length ≤ c0_1) (hr0_4 : Kd.C k30 w A0_4 l0_4.length l0_4) (hc0_4 : l0_4.length ≤ c0_4) (h : predict_chosen.f k l0_0 l0_1 a0_2 a0_3 l0_4 = some r) :
    Calls Try.prog 23 #[.agg #[.slice A0_0 l0_0.length c0_0,.slice A0_1 l0_1.length c0_1,.int .i64 a0_2,.int .i64 a0_3,.slice A0_4 l0_4.length c0_4]] w fun e w' => ∃ v0_ : Value,e = .returned (v0_) ∧ Kd.S (Kd.slice 4 Kd.bool) 65 w' w.heap.size (fun _ => True) v0_ r ∧ Below w.heap.size w w' := by
 have hu26:=Try.underlying26
 have hu30:=Try.underlying30
 have HR0_0:=Aside0.mk hr0_0
 have HC0_0:=Aside0.mk hc0_0
 clear hr0_0 hc0_0
 have HR0_1:=Aside0.mk hr0_1
 have HC0_1:=Aside0.mk hc0_1
 clear hr0_1 hc0_1
 have HR0_4:=Aside0.mk hr0_4
 have HC0_4:=Aside0.mk hc0_4
 clear hr0_4 hc0_4
 have HB:=Aside0.mk (Below.refl w.heap.size w)
 have H : ((firsts_Follow.f k l0_0 l0_1 a0_2 a0_3 l0_4).bind fun t143 => (if 0 ≤ (l0_4.length : Int) then (if ((l0_4.length : Int) : Int).toNat ≤ 11728124029610 then (predict_chosen.l0 k t143 (List.replicate ((l0_4.length : Int) : Int).toNat []) l0_4 (l0_4.length : Int) 0 l0_0 l0_1 a0_2 a0_3 l0_4) else (none)) else (none))) = some r:=h
 clear h
 replace H:=Option.bind_eq_some_iff.mp H
 obtain ⟨t143,A20,H⟩ := H
 replace H : (if 0 ≤ (l0_4.length : Int) then (if ((l0_4.length : Int) : Int).toNat ≤ 11728124029610 then (predict_chosen.l0 k t143 (List.replicate ((l0_4.length : Int) : Int).toNat []) l0_4 (l0_4.length : Int) 0 l0_0 l0_1 a0_2 a0_3 l0_4) else (none)) else (none)) = some r:=H
 have A2:=Aside0.mk A20
 clear A20
 by_cases c3 : 0 ≤ (l0_4.length : Int)
 rotate_left
 · rw [if_neg c3] at H
   exact absurd H (by simp)
 rw [if_pos c3] at H
 have c3b0:=eq_true c3
 have c3b1 : decide (0 ≤ (l0_4.length : Int)) = true:=decide_eq_true c3
 clear c3
 by_cases c4 : ((l0_4.length : Int) : Int).toNat ≤ 11728124029610
 rotate_left
 · rw [if_neg c4] at H
   exact absurd H (by simp)
 rw [if_pos c4] at H
 have c4b0:=eq_true c4
 have c4b1 : decide (((l0_4.length : Int) : Int).toNat ≤ 11728124029610) = true:=decide_eq_true c4
 clear c4
 obtain ⟨y146,hy146⟩ : ∃ y_ : List (List Bool),y_ = (List.replicate ((l0_4.length : Int) : Int).toNat []) := ⟨_,rfl⟩
 replace H : (predict_chosen.l0 k t143 y146 l0_4 (l0_4.length : Int) 0 l0_0 l0_1 a0_2 a0_3 l0_4) = some r:=by first | (rw [hy146];with_reducible exact H) | (have H2_:=(Option.bind_some _ _).symm.trans H;rw [hy146];with_reducible exact H2_) | (have H2_:=(Option.bind_some _ _).symm.trans H;with_reducible exact H2_) | with_reducible exact H | (rw [hy146];exact H) | exact H
 have Ny146:=Aside0.mk hy146
 clear hy146
 have H' := Aside0.mk H
 clear H
 go_enter Try.func23,Try.ntmps23
 go_wp2_with (first | ((with_reducible refine gate_dst (N:=1) rfl ?_);refine box_event ?hg (N:=1) ?hd (cs:=#[.slice A0_0 l0_0.length c0_0,.slice A0_1 l0_1.length c0_1,.int .i64 a0_2,.int .i64 a0_3,.slice A0_4 l0_4.length c0_4]) (t:=26) ?hr ?_;(case hd => rfl);(case hg => rfl);(case hr => first | (go_simp;done) | (go_simp;rfl));intro gb142 hg w5 hbox hb;have n0_:=Aside0.mk (below_step (by repeat (first | (with_reducible first | exact HB.out | apply below_alloc | apply pw_below_drewN | apply below_drew1) | exact HB.out)) hb);have n1_:=Aside0.mk (hbox);have n2_:=Aside0.mk ((by rw [hg];exact (below_size (by repeat (first | (with_reducible first | exact HB.out | apply below_alloc | apply pw_below_drewN | apply below_drew1) | exact HB.out))) : w.heap.size ≤ gb142));have n3_:=Aside0.mk ((by rw [hg];exact (below_size (by repeat (first | (with_reducible first | exact HB.out | apply below_alloc | apply pw_below_drewN | apply below_drew1) | exact HB.out))) : w.heap.size ≤ gb142));clear HB;have HB:=n0_;have BK142:=n1_;have GW142:=n2_;have GE142:=n3_;clear n0_ n1_ n2_ n3_;clear hb hbox hg;have hcz6_0 : w5.cell? ⟨gb142,0,none⟩ = some (.slice A0_0 l0_0.length c0_0) := (blk_cell BK142.out 0).trans rfl;have hcz6_1 : w5.cell? ⟨gb142,1,none⟩ = some (.slice A0_1 l0_1.length c0_1) := (blk_cell BK142.out 1).trans rfl;have hcz6_2 : w5.cell? ⟨gb142,2,none⟩ = some (.int .i64 a0_2) := (blk_cell BK142.out 2).trans rfl;have hcz6_3 : w5.cell? ⟨gb142,3,none⟩ = some (.int .i64 a0_3) := (blk_cell BK142.out 3).trans rfl;have hcz6_4 : w5.cell? ⟨gb142,4,none⟩ = some (.slice A0_4 l0_4.length c0_4) := (blk_cell BK142.out 4).trans rfl;have hfz6_0:=blk_frozen BK142.out 0;have hfz6_1:=blk_frozen BK142.out 1;have hfz6_2:=blk_frozen BK142.out 2;have hfz6_3:=blk_frozen BK142.out 3;have hfz6_4:=blk_frozen BK142.out 4) | ((with_reducible refine gate_callee (f:=38) rfl ?_);refine goesL_ (some 12) rfl rfl Try.func38 (by kernel_rfl) rfl #[.agg #[.slice A0_0 l0_0.length c0_0,.slice A0_1 l0_1.length c0_1,.int .i64 a0_2,.int .i64 a0_3,.slice A0_4 l0_4.length c0_4]] rfl (by (try simp only [List.map_toArray,List.map_cons,List.map_nil]);first | done | rfl | (simp only [List.length_drop,List.length_take];rfl)) ?_;(with_reducible refine (firsts_Follow.calls k _ _ l0_0 _ _ l0_1 a0_2 a0_3 _ _ l0_4 t143 _ ?side1 ?side2 ?side3 ?side4 ?side5 ?side6 A2.out).mono ?_);(case side1 => repeat (first | exact (Kd.C_below HR0_0.out HB.out) | (with_reducible refine Kd.C_alloc ?_ _) | (with_reducible refine Kd.C_drewN ?_ _) | (with_reducible refine Kd.C_drew ?_)));(case side2 => exact HC0_0.out);(case side3 => repeat (first | exact (Kd.C_below HR0_1.out HB.out) | (with_reducible refine Kd.C_alloc ?_ _) | (with_reducible refine Kd.C_drewN ?_ _) | (with_reducible refine Kd.C_drew ?_)));(case side4 => exact HC0_1.out);(case side5 => repeat (first | exact (Kd.C_below HR0_4.out HB.out) | (with_reducible refine Kd.C_alloc ?_ _) | (with_reducible refine Kd.C_drewN ?_ _) | (with_reducible refine Kd.C_drew ?_)));(case side6 => exact HC0_4.out);rintro e w7 ⟨v144,rfl,ho0,hb⟩;refine ⟨_,rfl,?_⟩;have n0_:=Aside0.mk (Kd.S_lower ho0 (below_size (by repeat (first | (with_reducible first | exact HB.out | apply below_alloc | apply pw_below_drewN | apply below_drew1 | refine below_set ?_ GE142.out) | exact HB.out))));have n1_:=Aside0.mk (blk_below (g:=gb142) (o := .cells #[.slice A0_0 l0_0.length c0_0,.slice A0_1 l0_1.length c0_1,.int .i64 a0_2,.int .i64 a0_3,.slice A0_4 l0_4.length c0_4] 26 (0,0)) (by (with_reducible repeat (first | refine blk_drewN ?_ _ | refine blk_drew ?_ | refine blk_alloc ?_ _));exact BK142.out) hb);have n2_:=Aside0.mk (below_step (by repeat (first | (with_reducible first | exact HB.out | apply below_alloc | apply pw_below_drewN | apply below_drew1 | refine below_set ?_ GE142.out) | exact HB.out)) hb);clear BK142;clear HB;have HO145:=n0_;have BK142:=n1_;have HB:=n2_;clear n0_ n1_ n2_;(try clear hb);(try clear hb2);(try clear hk);(try clear hi);(try clear ho0);have hcz8_0 : w7.cell? ⟨gb142,0,none⟩ = some (.slice A0_0 l0_0.length c0_0) := (blk_cell BK142.out 0).trans rfl;have hcz8_1 : w7.cell? ⟨gb142,1,none⟩ = some (.slice A0_1 l0_1.length c0_1) := (blk_cell BK142.out 1).trans rfl;have hcz8_2 : w7.cell? ⟨gb142,2,none⟩ = some (.int .i64 a0_2) := (blk_cell BK142.out 2).trans rfl;have hcz8_3 : w7.cell? ⟨gb142,3,none⟩ = some (.int .i64 a0_3) := (blk_cell BK142.out 3).trans rfl;have hcz8_4 : w7.cell? ⟨gb142,4,none⟩ = some (.slice A0_4 l0_4.length c0_4) := (blk_cell BK142.out 4).trans rfl;have hfz8_0:=blk_frozen BK142.out 0;have hfz8_1:=blk_frozen BK142.out 1;have hfz8_2:=blk_frozen BK142.out 2;have hfz8_3:=blk_frozen BK142.out 3;have hfz8_4:=blk_frozen BK142.out 4) | ((with_reducible refine gate_dst (N:=16) rfl ?_);refine Kd.S_make (Kd.slice 4 Kd.bool) _ 65 rfl (N:=16) rfl 62 _ _ rfl (l0_4.length : Int) rfl rfl Try.underlying62 (.slice none 0 0) 24 info65 rfl (by decide) (by omega) [] (ok:=fun _ => True) (okp:=fun _ => True) ⟨_,rfl,Kd.R_nil _ _ _ _ _⟩ (fun _ hk => hk) trivial (of_decide_eq_true (by first | (with_reducible assumption) | assumption)) (Nat.le_trans (Nat.mul_le_mul_right _ (of_decide_eq_true (by first | (with_reducible assumption) | assumption) : (l0_4.length : Int).toNat ≤ 11728124029610)) (by omega)) (Below.refl _ _) (Nat.le_refl _) ?_;intro v147 w9 ho10 hb hg_ hnew_;clear hg_ hnew_;(first | rw [← Ny146.out] at ho10 | (simp only [Int.reduceToNat] at ho10;rw [← Ny146.out] at ho10));have n0_:=Aside0.mk (Kd.S_below (by (with_reducible repeat (first | apply Kd.S_alloc | apply Kd.S_drewN | apply Kd.S_drew));exact HO145.out) hb);have n1_:=Aside0.mk (Kd.S_lower ho10 (below_size (by repeat (first | (with_reducible first | exact HB.out | apply below_alloc | apply pw_below_drewN | apply below_drew1 | refine below_set ?_ GE142.out) | exact HB.out))));have n2_:=Aside0.mk (blk_below (g:=gb142) (o := .cells #[.slice A0_0 l0_0.length c0_0,.slice A0_1 l0_1.length c0_1,.int .i64 a0_2,.int .i64 a0_3,.slice A0_4 l0_4.length c0_4] 26 (0,0)) (by (with_reducible repeat (first | refine blk_drewN ?_ _ | refine blk_drew ?_ | refine blk_alloc ?_ _));exact BK142.out) hb);have n3_:=Aside0.mk (below_step (by repeat (first | (with_reducible first | exact HB.out | apply below_alloc | apply pw_below_drewN | apply below_drew1 | refine below_set ?_ GE142.out) | exact HB.out)) hb);clear HO145;clear BK142;clear HB;have HO145:=n0_;have HO148:=n1_;have BK142:=n2_;have HB:=n3_;clear n0_ n1_ n2_ n3_;clear hb ho10;have hcz11_0 : w9.cell? ⟨gb142,0,none⟩ = some (.slice A0_0 l0_0.length c0_0) := (blk_cell BK142.out 0).trans rfl;have hcz11_1 : w9.cell? ⟨gb142,1,none⟩ = some (.slice A0_1 l0_1.length c0_1) := (blk_cell BK142.out 1).trans rfl;have hcz11_2 : w9.cell? ⟨gb142,2,none⟩ = some (.int .i64 a0_2) := (blk_cell BK142.out 2).trans rfl;have hcz11_3 : w9.cell? ⟨gb142,3,none⟩ = some (.int .i64 a0_3) := (blk_cell BK142.out 3).trans rfl;have hcz11_4 : w9.cell? ⟨gb142,4,none⟩ = some (.slice A0_4 l0_4.length c0_4) := (blk_cell BK142.out 4).trans rfl;have hfz11_0:=blk_frozen BK142.out 0;have hfz11_1:=blk_frozen BK142.out 1;have hfz11_2:=blk_frozen BK142.out 2;have hfz11_3:=blk_frozen BK142.out 3;have hfz11_4:=blk_frozen BK142.out 4))
 go_loopg [20] k (fun kq v20 w' => ∃ (x4_1 : List (List Bool)) (x20_1 : Int),v20 = .int .i64 x20_1 ∧ Aside0 (predict_chosen.l0 kq t143 x4_1 l0_4 (l0_4.length : Int) x20_1 l0_0 l0_1 a0_2 a0_3 l0_4 = some r) ∧ Aside0 (kq ≤ k) ∧ Aside0 (Kd.S (Kd.slice 3 (Kd.int .i64)) 43 w' w.heap.size (fun _ => True) v144 t143) ∧ Aside0 (Kd.S (Kd.slice 4 Kd.bool) 65 w' w.heap.size (fun _ => True) v147 x4_1) ∧ Aside0 (w'.heap[gb142]? = some (.cells #[(.slice A0_0 l0_0.length c0_0),(.slice A0_1 l0_1.length c0_1),.int .i64 a0_2,.int .i64 a0_3,(.slice A0_4 l0_4.length c0_4)] 26 (0,0))) ∧ Aside0 (Below w.heap.size w w'))
 case atStart => exact ⟨(y146),(0),(by first | rfl | (simp;done) | (simp [*];done)),H',⟨Nat.le_refl _⟩,⟨by (with_reducible repeat (first | apply Kd.S_alloc | apply Kd.S_drewN | apply Kd.S_drew));exact HO145.out⟩,⟨by (with_reducible repeat (first | apply Kd.S_alloc | apply Kd.S_drewN | apply Kd.S_drew));exact HO148.out⟩,⟨by (with_reducible repeat (first | refine blk_drewN ?_ _ | refine blk_drew ?_ | refine blk_alloc ?_ _));exact BK142.out⟩,⟨by repeat (first | (with_reducible first | exact HB.out | apply below_alloc | apply pw_below_drewN | apply below_drew1 | refine below_set ?_ GE142.out) | exact HB.out)⟩⟩
 case round =>
  clear H'
  (try clear c2);(try clear p2);(try clear c3);(try clear c3b0);(try clear c3b1);(try clear c4);(try clear c4b0);(try clear c4b1);(try clear hcz11_0);(try clear hcz11_1);(try clear hcz11_2);(try clear hcz11_3);(try clear hcz11_4);(try clear hcz6_0);(try clear hcz6_1);(try clear hcz6_2);(try clear hcz6_3);(try clear hcz6_4);(try clear hcz8_0);(try clear hcz8_1);(try clear hcz8_2);(try clear hcz8_3);(try clear hcz8_4)
  (try clear hfz11_0);(try clear hfz11_1);(try clear hfz11_2);(try clear hfz11_3);(try clear hfz11_4);(try clear hfz6_0);(try clear hfz6_1);(try clear hfz6_2);(try clear hfz6_3);(try clear hfz6_4);(try clear hfz8_0);(try clear hfz8_1);(try clear hfz8_2);(try clear hfz8_3);(try clear hfz8_4)
  obtain ⟨x4_1,x20_1,rfl,HA,HK1,HO_3,HO_4,BK142,HB⟩ := hrel
  cases gk with
  | zero => exact absurd HA.out (by simp [predict_chosen.l0])
  | succ k1 =>
   have H:=HA.out
   clear HA
   simp only [predict_chosen.l0] at H
   by_cases c12 : x20_1 < (l0_4.length : Int)
   · rw [if_pos c12] at H
     have c12b0 : decide (x20_1 < (l0_4.length : Int)) = true:=decide_eq_true c12
     clear c12
     by_cases c13 : 0 ≤ x20_1
     rotate_left
     · rw [if_neg c13] at H
       exact absurd H (by simp)
     rw [if_pos c13] at H
     have c13b0 : decide (0 ≤ x20_1) = true:=decide_eq_true c13
     clear c13
     by_cases c14 : x20_1 < (l0_4.length : Int)
     rotate_left
     · rw [if_neg c14] at H
       exact absurd H (by simp)
     rw [if_pos c14] at H
     have c14b0 : decide (x20_1 < (l0_4.length : Int)) = true:=decide_eq_true c14
     clear c14
     obtain ⟨ji15,hji15⟩ : ∃ j_ : Int,(wrap64 ((l0_1.length : Int) + 1)) = j_:=⟨_,rfl⟩
     replace H : (if 0 ≤ (ji15) then (if (ji15 : Int).toNat ≤ 281474976710656 then (if x20_1 < (x4_1.length : Int) then ((some (x4_1.set (x20_1 : Int).toNat (List.replicate (ji15 : Int).toNat false) : List (List Bool))).bind fun y154 => ((firsts_Of.f k1 l0_0 l0_1 a0_2 a0_3 l0_4 ((rd_T30 l0_4 x20_1).f1)).bind fun bt155 => (if bt155.2 = true then (if 0 ≤ ((rd_T30 l0_4 x20_1).f0) then (if ((rd_T30 l0_4 x20_1).f0) < (t143.length : Int) then (if bt155.1.length + (rd_L3 t143 ((rd_T30 l0_4 x20_1).f0)).length < 17592186044416 then (predict_chosen.j1 k1 t143 y154 x20_1 (bt155.1 ++ (rd_L3 t143 ((rd_T30 l0_4 x20_1).f0))) l0_4 (l0_4.length : Int) x20_1 l0_0 l0_1 a0_2 a0_3 l0_4) else (none)) else (none)) else (none)) else (predict_chosen.j1 k1 t143 y154 x20_1 bt155.1 l0_4 (l0_4.length : Int) x20_1 l0_0 l0_1 a0_2 a0_3 l0_4)))) else (none)) else (none)) else (none)) = some r:=by first | (rw [hji15] at H;exact H) | (simp only [hji15] at H ⊢;exact H)
     have hji15w : (IntKind.i64.wrap ((l0_1.length : Int) + 1)) = ji15:=(i64_w _).trans hji15
     by_cases c16 : 0 ≤ (ji15)
     rotate_left
     · rw [if_neg c16] at H
       exact absurd H (by simp)
     rw [if_pos c16] at H
     have c16b0:=eq_true c16
     have c16b1 : decide (0 ≤ (ji15)) = true:=decide_eq_true c16
     clear c16
     by_cases c17 : (ji15 : Int).toNat ≤ 281474976710656
     rotate_left
     · rw [if_neg c17] at H
       exact absurd H (by simp)
     rw [if_pos c17] at H
     have c17b0:=eq_true c17
     have c17b1 : decide ((ji15 : Int).toNat ≤ 281474976710656) = true:=decide_eq_true c17
     clear c17
     obtain ⟨y151,hy151⟩ : ∃ y_ : List Bool,y_ = (List.replicate (ji15 : Int).toNat false) := ⟨_,rfl⟩
     replace H : (if x20_1 < (x4_1.length : Int) then ((some (x4_1.set (x20_1 : Int).toNat y151 : List (List Bool))).bind fun y154 => ((firsts_Of.f k1 l0_0 l0_1 a0_2 a0_3 l0_4 ((rd_T30 l0_4 x20_1).f1)).bind fun bt155 => (if bt155.2 = true then (if 0 ≤ ((rd_T30 l0_4 x20_1).f0) then (if ((rd_T30 l0_4 x20_1).f0) < (t143.length : Int) then (if bt155.1.length + (rd_L3 t143 ((rd_T30 l0_4 x20_1).f0)).length < 17592186044416 then (predict_chosen.j1 k1 t143 y154 x20_1 (bt155.1 ++ (rd_L3 t143 ((rd_T30 l0_4 x20_1).f0))) l0_4 (l0_4.length : Int) x20_1 l0_0 l0_1 a0_2 a0_3 l0_4) else (none)) else (none)) else (none)) else (predict_chosen.j1 k1 t143 y154 x20_1 bt155.1 l0_4 (l0_4.length : Int) x20_1 l0_0 l0_1 a0_2 a0_3 l0_4)))) else (none)) = some r:=by first | (rw [hy151];with_reducible exact H) | (have H2_:=(Option.bind_some _ _).symm.trans H;rw [hy151];with_reducible exact H2_) | (have H2_:=(Option.bind_some _ _).symm.trans H;with_reducible exact H2_) | with_reducible exact H | (rw [hy151];exact H) | exact H
     have Ny151:=Aside0.mk hy151
     clear hy151
     by_cases c18 : x20_1 < (x4_1.length : Int)
     rotate_left
     · rw [if_neg c18] at H
       exact absurd H (by simp)
     rw [if_pos c18] at H
     have c18b0 : decide (x20_1 < (x4_1.length : Int)) = true:=decide_eq_true c18
     clear c18
     obtain ⟨y154,hy154⟩ : ∃ y_ : List (List Bool),y_ = (x4_1.set (x20_1 : Int).toNat y151) := ⟨_,rfl⟩
     replace H : ((firsts_Of.f k1 l0_0 l0_1 a0_2 a0_3 l0_4 ((rd_T30 l0_4 x20_1).f1)).bind fun bt155 => (if bt155.2 = true then (if 0 ≤ ((rd_T30 l0_4 x20_1).f0) then (if ((rd_T30 l0_4 x20_1).f0) < (t143.length : Int) then (if bt155.1.length + (rd_L3 t143 ((rd_T30 l0_4 x20_1).f0)).length < 17592186044416 then (predict_chosen.j1 k1 t143 y154 x20_1 (bt155.1 ++ (rd_L3 t143 ((rd_T30 l0_4 x20_1).f0))) l0_4 (l0_4.length : Int) x20_1 l0_0 l0_1 a0_2 a0_3 l0_4) else (none)) else (none)) else (none)) else (predict_chosen.j1 k1 t143 y154 x20_1 bt155.1 l0_4 (l0_4.length : Int) x20_1 l0_0 l0_1 a0_2 a0_3 l0_4))) = some r:=by first | (rw [hy154];with_reducible exact H) | (have H2_:=(Option.bind_some _ _).symm.trans H;rw [hy154];with_reducible exact H2_) | (have H2_:=(Option.bind_some _ _).symm.trans H;with_reducible exact H2_) | with_reducible exact H | (rw [hy154];exact H) | exact H
     have Ny154:=Aside0.mk hy154
     clear hy154
     replace H:=Option.bind_eq_some_iff.mp H
     obtain ⟨⟨t155,t158⟩,A200,H⟩ := H
     replace H : (if t158 = true then (if 0 ≤ ((rd_T30 l0_4 x20_1).f0) then (if ((rd_T30 l0_4 x20_1).f0) < (t143.length : Int) then (if t155.length + (rd_L3 t143 ((rd_T30 l0_4 x20_1).f0)).length < 17592186044416 then (predict_chosen.j1 k1 t143 y154 x20_1 (t155 ++ (rd_L3 t143 ((rd_T30 l0_4 x20_1).f0))) l0_4 (l0_4.length : Int) x20_1 l0_0 l0_1 a0_2 a0_3 l0_4) else (none)) else (none)) else (none)) else (predict_chosen.j1 k1 t143 y154 x20_1 t155 l0_4 (l0_4.length : Int) x20_1 l0_0 l0_1 a0_2 a0_3 l0_4)) = some r:=H
     have A20:=Aside0.mk A200
     clear A200
     have HC21:=Aside0.mk H
     clear H
     have p149 : 0 ≤ (x20_1 : Int) := of_decide_eq_true (by first | (with_reducible assumption) | assumption)
     have q149 : x20_1 < (l0_4.length : Int) := of_decide_eq_true (by first | (with_reducible assumption) | assumption)
     obtain ⟨ad149,A149_1,c149_1,e149,hx149_0,hx149_1,hl149_1,hi149_1⟩ := at_T30 HR0_4.out x20_1 p149 q149
     cases e149
     replace hx149_0:=(HB.out.cell (World.block_lt_of_cell? w _ hx149_0)).trans hx149_0
     replace hx149_1:=(HB.out.cell (World.block_lt_of_cell? w _ hx149_1)).trans hx149_1
     have HR149_1:=Aside0.mk hi149_1
     have HC149_1:=Aside0.mk hl149_1
     clear hi149_1 hl149_1
     replace p149:=eq_true p149
     replace q149:=eq_true q149
     go_upto_if 40 with (first | ((with_reducible refine gate_dst (N:=6) rfl ?_);refine box_event ?hg (N:=6) ?hd (cs:=#[.int .i64 0,.slice none 0 0]) (t:=30) ?hr ?_;(case hd => rfl);(case hg => rfl);(case hr => first | (go_simp;done) | (go_simp;rfl));intro gb150 hg w22 hbox hb;have n0_:=Aside0.mk (Kd.S_below (by (with_reducible repeat (first | apply Kd.S_alloc | apply Kd.S_drewN | apply Kd.S_drew));exact HO_3.out) hb);have n1_:=Aside0.mk (Kd.S_below (by (with_reducible repeat (first | apply Kd.S_alloc | apply Kd.S_drewN | apply Kd.S_drew));exact HO_4.out) hb);have n2_:=Aside0.mk (blk_below (g:=gb142) (o := .cells #[.slice A0_0 l0_0.length c0_0,.slice A0_1 l0_1.length c0_1,.int .i64 a0_2,.int .i64 a0_3,.slice (some ad149) l0_4.length c0_4] 26 (0,0)) (by (with_reducible repeat (first | refine blk_drewN ?_ _ | refine blk_drew ?_ | refine blk_alloc ?_ _));exact BK142.out) hb);have n3_:=Aside0.mk (below_step (by repeat (first | (with_reducible first | exact HB.out | apply below_alloc | apply pw_below_drewN | apply below_drew1 | refine below_set ?_ GE142.out) | exact HB.out)) hb);have n4_:=Aside0.mk (hbox);have n5_:=Aside0.mk ((by rw [hg];exact (below_size (by repeat (first | (with_reducible first | exact HB.out | apply below_alloc | apply pw_below_drewN | apply below_drew1 | refine below_set ?_ GE142.out) | exact HB.out))) : w.heap.size ≤ gb150));have n6_:=Aside0.mk ((by rw [hg];exact (below_size (by repeat (first | (with_reducible first | exact HB.out | apply below_alloc | apply pw_below_drewN | apply below_drew1 | refine below_set ?_ GE142.out) | exact HB.out))) : w.heap.size ≤ gb150));have n7_:=Aside0.mk ((by rw [hg];exact Nat.ne_of_lt (blk_lt (g:=gb142) (o := .cells #[.slice A0_0 l0_0.length c0_0,.slice A0_1 l0_1.length c0_1,.int .i64 a0_2,.int .i64 a0_3,.slice (some ad149) l0_4.length c0_4] 26 (0,0)) (by (with_reducible repeat (first | refine blk_drewN ?_ _ | refine blk_drew ?_ | refine blk_alloc ?_ _));exact BK142.out)) : gb142 ≠ gb150));have n8_:=Aside0.mk ((by rw [hg];exact Nat.ne_of_gt (blk_lt (g:=gb142) (o := .cells #[.slice A0_0 l0_0.length c0_0,.slice A0_1 l0_1.length c0_1,.int .i64 a0_2,.int .i64 a0_3,.slice (some ad149) l0_4.length c0_4] 26 (0,0)) (by (with_reducible repeat (first | refine blk_drewN ?_ _ | refine blk_drew ?_ | refine blk_alloc ?_ _));exact BK142.out)) : gb150 ≠ gb142));clear HO_3;clear HO_4;clear BK142;clear HB;have HO_3:=n0_;have HO_4:=n1_;have BK142:=n2_;have HB:=n3_;have BK150:=n4_;have GW150:=n5_;have GE150:=n6_;have NB142_150:=n7_;have NB150_142:=n8_;clear n0_ n1_ n2_ n3_ n4_ n5_ n6_ n7_ n8_;clear hb hbox hg;have hnb23:=NB150_142.out;have hnc23:=NB142_150.out;have hcz24_0 : w22.cell? ⟨gb150,0,none⟩ = some (.int .i64 0) := (blk_cell BK150.out 0).trans rfl;have hcz24_1 : w22.cell? ⟨gb150,1,none⟩ = some (.slice none 0 0) := (blk_cell BK150.out 1).trans rfl;have hfz24_0:=blk_frozen BK150.out 0;have hfz24_1:=blk_frozen BK150.out 1;have hcz25_0 : w22.cell? ⟨gb142,0,none⟩ = some (.slice A0_0 l0_0.length c0_0) := (blk_cell BK142.out 0).trans rfl;have hcz25_1 : w22.cell? ⟨gb142,1,none⟩ = some (.slice A0_1 l0_1.length c0_1) := (blk_cell BK142.out 1).trans rfl;have hcz25_2 : w22.cell? ⟨gb142,2,none⟩ = some (.int .i64 a0_2) := (blk_cell BK142.out 2).trans rfl;have hcz25_3 : w22.cell? ⟨gb142,3,none⟩ = some (.int .i64 a0_3) := (blk_cell BK142.out 3).trans rfl;have hcz25_4 : w22.cell? ⟨gb142,4,none⟩ = some (.slice (some ad149) l0_4.length c0_4) := (blk_cell BK142.out 4).trans rfl;have hfz25_0:=blk_frozen BK142.out 0;have hfz25_1:=blk_frozen BK142.out 1;have hfz25_2:=blk_frozen BK142.out 2;have hfz25_3:=blk_frozen BK142.out 3;have hfz25_4:=blk_frozen BK142.out 4) | ((with_reducible refine gate_dst (N:=31) rfl ?_);refine Kd.R_make Kd.bool _ 4 rfl (N:=31) rfl 65 _ _ rfl ji15 rfl rfl Try.underlying65 (.bool false) 1 info4 rfl (by decide) (by omega) false (ok:=fun _ => True) (okp:=fun _ => True) rfl (fun _ hk => hk) trivial (of_decide_eq_true (by first | (with_reducible assumption) | assumption)) (Nat.le_trans (Nat.mul_le_mul_right _ (of_decide_eq_true (by first | (with_reducible assumption) | assumption) : ji15.toNat ≤ 281474976710656)) (by omega)) (Below.refl _ _) (Nat.le_refl _) ?_;intro v152 w26 ho27 hb hg_ hnew_;clear hg_ hnew_;(first | rw [← Ny151.out] at ho27 | (simp only [Int.reduceToNat] at ho27;rw [← Ny151.out] at ho27));have n0_:=Aside0.mk (Kd.S_below (by (with_reducible repeat (first | apply Kd.S_alloc | apply Kd.S_drewN | apply Kd.S_drew));exact (Kd.S_mono (Kd.S_far (p:=⟨gb150,1,none⟩) (Kd.S_far (p:=⟨gb150,0,none⟩) (Kd.S_types HO_3.out BK150.out (by decide)) (fun _ hk => hk.2) (.int .i64 ((rd_T30 l0_4 x20_1).f0))) (fun _ hk => hk.2) (.slice A149_1 ((rd_T30 l0_4 x20_1).f1).length c149_1)) (fun _ h_ => h_.1))) hb);have n1_:=Aside0.mk (Kd.S_elder' (by (with_reducible repeat (first | apply Kd.S_alloc | apply Kd.S_drewN | apply Kd.S_drew));exact (Kd.S_mono (Kd.S_far (p:=⟨gb150,1,none⟩) (Kd.S_far (p:=⟨gb150,0,none⟩) (Kd.S_types HO_4.out BK150.out (by decide)) (fun _ hk => hk.2) (.int .i64 ((rd_T30 l0_4 x20_1).f0))) (fun _ hk => hk.2) (.slice A149_1 ((rd_T30 l0_4 x20_1).f1).length c149_1)) (fun _ h_ => h_.1))) (Kd.R_base ho27) hb);have n2_:=Aside0.mk (Kd.R_lower ho27 (below_size (by repeat (first | (with_reducible first | exact HB.out | apply below_alloc | apply pw_below_drewN | apply below_drew1 | refine below_set ?_ GE142.out | refine below_set ?_ GE150.out) | exact HB.out))));have n3_:=Aside0.mk (blk_below (g:=gb142) (o := .cells #[.slice A0_0 l0_0.length c0_0,.slice A0_1 l0_1.length c0_1,.int .i64 a0_2,.int .i64 a0_3,.slice (some ad149) l0_4.length c0_4] 26 (0,0)) (by (with_reducible repeat (first | refine blk_drewN ?_ _ | refine blk_drew ?_ | refine blk_alloc ?_ _));refine blk_far ?_ NB142_150.out _;(with_reducible repeat (first | refine blk_drewN ?_ _ | refine blk_drew ?_ | refine blk_alloc ?_ _));refine blk_far ?_ NB142_150.out _;(with_reducible repeat (first | refine blk_drewN ?_ _ | refine blk_drew ?_ | refine blk_alloc ?_ _));exact BK142.out) hb);have n4_:=Aside0.mk (blk_below (g:=gb150) (o := .cells #[.int .i64 ((rd_T30 l0_4 x20_1).f0),.slice A149_1 ((rd_T30 l0_4 x20_1).f1).length c149_1] 30 (0,0)) (by (with_reducible repeat (first | refine blk_drewN ?_ _ | refine blk_drew ?_ | refine blk_alloc ?_ _));refine blk_put (cs:=#[.int .i64 ((rd_T30 l0_4 x20_1).f0),.slice none 0 0]) ?_ 1 _ rfl;(with_reducible repeat (first | refine blk_drewN ?_ _ | refine blk_drew ?_ | refine blk_alloc ?_ _));refine blk_put (cs:=#[.int .i64 0,.slice none 0 0]) ?_ 0 _ rfl;(with_reducible repeat (first | refine blk_drewN ?_ _ | refine blk_drew ?_ | refine blk_alloc ?_ _));exact BK150.out) hb);have n5_:=Aside0.mk (below_step (by repeat (first | (with_reducible first | exact HB.out | apply below_alloc | apply pw_below_drewN | apply below_drew1 | refine below_set ?_ GE142.out | refine below_set ?_ GE150.out) | exact HB.out)) hb);clear HO_3;clear HO_4;clear BK142;clear BK150;clear HB;have HO_3:=n0_;have HO_4:=n1_;have HO153:=n2_;have BK142:=n3_;have BK150:=n4_;have HB:=n5_;clear n0_ n1_ n2_ n3_ n4_ n5_;clear hb ho27;have p19 : 0 ≤ (x20_1 : Int) := of_decide_eq_true (by first | (with_reducible assumption) | assumption);have q19 : (x20_1 : Int) < ((x4_1.length : Int) : Int) := of_decide_eq_true (by first | (with_reducible assumption) | assumption);obtain ⟨go19,co19,eo19,gb19,gl19,cl19,HG19⟩ := Kd.S_form HO_4.out (by omega);(first | cases eo19 | (injection eo19 with ea_ en_ ec_;(first | subst ea_ | (injection ea_ with ea_;subst ea_));subst ec_;clear en_));have GB19:=Aside0.mk gb19;have GG19:=Aside0.mk HG19;clear gb19 gl19 HG19;obtain ⟨_,ce19,hcl19,hM19,hcc19,hfr19,_,_⟩ := Kd.S_elem HO_4.out [] (x20_1 : Int) p19 q19;obtain ⟨ve19_0,rfl,ge19_0⟩ := hM19;have hx19_0:=hcc19 0 _ rfl;have hf19_0:=hfr19 0;(try simp only [show ((Kd.slice 4 Kd.bool)).sz = 1 from rfl,Nat.mul_one,Nat.add_zero] at hx19_0);(try simp only [show ((Kd.slice 4 Kd.bool)).sz = 1 from rfl,Nat.mul_one,Nat.add_zero] at hf19_0);clear hcl19 hcc19 hfr19;(try clear hM19);replace p19:=eq_true p19;replace q19:=eq_true q19;have n_:=Aside0.mk (Kd.S_mono (ok' := (fun k_ => some k_ ≠ (v152 : Value).ownBlock)) HO_4.out (fun k_ hk => hk.2));clear HO_4;have HO_4:=n_;clear n_;have HX28:=Aside0.mk (show Kd.S (Kd.slice 4 Kd.bool) 65 w26 w.heap.size (fun k_ => ((fun _ => True)) k_ ∧ ¬ ((fun k_ => some k_ = (v152 : Value).ownBlock)) k_) (.slice (some ⟨go19,0,none⟩) x4_1.length co19) x4_1 from (by (with_reducible repeat (first | apply Kd.S_alloc | apply Kd.S_drewN | apply Kd.S_drew));exact Kd.S_mono HO_4.out (fun k_ hk => ⟨trivial,fun e_ => hk e_⟩)));obtain ⟨oki28,ce28,hcl28,hM28,hcc28,hfr28,hoki28,hH28⟩ := Kd.S_elem HX28.out [] (x20_1 : Int) (of_decide_eq_true (by first | (with_reducible assumption) | assumption)) (by have h_ : (x20_1 : Int) < ((x4_1.length : Int) : Int) := of_decide_eq_true (by first | (with_reducible assumption) | assumption);first | exact h_ | (have e_:=(Kd.S_reads' HO_4.out).1;omega) | simpa using h_);obtain ⟨ve28_0,rfl,ge28_0⟩ := hM28;have HP28:=Kd.S_seg hH28 (of_decide_eq_true (by first | (with_reducible assumption) | assumption)) (by have h_ : (x20_1 : Int) < ((x4_1.length : Int) : Int) := of_decide_eq_true (by first | (with_reducible assumption) | assumption);first | exact h_ | (have e_:=(Kd.S_reads' HO_4.out).1;omega) | simpa using h_) (seg := [v152]) (j:=0) (show 1 ≤ 1 from by decide) (x' := y151) (Kd.M_row (Kd.R_mono (Kd.R_tight rfl (Kd.R_mono (ok' := fun k_ => ((fun _ => True)) k_ ∧ k_ ≠ go19) (Kd.R_apart' (HO153.out) (Kd.S_typed HO_4.out) (by decide)) (fun k_ hk => ⟨trivial,fun e_ => (hk.2) (by rw [e_];rfl)⟩))) (fun _ h_ => Or.inr (h_)))) (fun _ hk => hk) (fun k_ hk_ => ((Kd.R_mono (ok' := fun k_ => ((fun _ => True)) k_ ∧ k_ ≠ go19) (Kd.R_apart' (HO153.out) (Kd.S_typed HO_4.out) (by decide)) (fun k_ hk => ⟨trivial,fun e_ => (hk.2) (by rw [e_];rfl)⟩))).1 k_ hk_.symm);have hx28_0:=hcc28 0 _ rfl;(try simp only [show ((Kd.slice 4 Kd.bool)).sz = 1 from rfl,Nat.mul_one,Nat.add_zero] at hx28_0);have hf28_0:=hfr28 0;(try simp only [show ((Kd.slice 4 Kd.bool)).sz = 1 from rfl,Nat.mul_one,Nat.add_zero] at hf28_0);clear hcl28 hcc28 hfr28;(try clear hM28);clear hoki28 hH28;(try simp only [show ((Kd.slice 4 Kd.bool)).sz = 1 from rfl,Nat.mul_one,Nat.add_zero] at HP28)) | ((with_reducible refine gate_store (t:=65) (p:=32) rfl ?_);refine store_event (t:=65) (p:=32) (v:=?vo_w29) (w1:=(w26.setCell ⟨go19,(x20_1 : Int).toNat,none⟩ (v152))) ?hg ?ho ?hn ?hr ?_;(case ho => rfl);(case hg => rfl);(case hn => rfl);(case hr => first | (go_simp;done) | (go_simp;rfl) | (obtain ⟨A_,c_,e_⟩ := Kd.R_slice HO153.out;rw [e_];first | (go_simp;done) | (go_simp;rfl)));intro w29 hw;have hg : w26.grownBy w29 (some go19) := (by rw [hw];exact HP28.2);have hp_ : Kd.S (Kd.slice 4 Kd.bool) 65 w29 w.heap.size (fun _ => True) (.slice (some ⟨go19,0,none⟩) x4_1.length co19) y154:=(by rw [hw,Ny154.out];exact HP28.1);clear HP28;have n0_:=Aside0.mk (Kd.S_over' (v:=(.slice (some ⟨go19,0,none⟩) x4_1.length co19)) (by (with_reducible repeat (first | apply Kd.S_alloc | apply Kd.S_drewN | apply Kd.S_drew));exact HO_3.out) (Kd.S_typed HO_4.out) (by decide) hg);have n1_:=Aside0.mk (hp_);have n2_:=Aside0.mk (blk_grown (g:=gb142) (o := .cells #[.slice A0_0 l0_0.length c0_0,.slice A0_1 l0_1.length c0_1,.int .i64 a0_2,.int .i64 a0_3,.slice (some ad149) l0_4.length c0_4] 26 (0,0)) (by (with_reducible repeat (first | refine blk_drewN ?_ _ | refine blk_drew ?_ | refine blk_alloc ?_ _));exact BK142.out) hg (Kd.S_ne HO_4.out BK142.out (by decide)));have n3_:=Aside0.mk (blk_grown (g:=gb150) (o := .cells #[.int .i64 ((rd_T30 l0_4 x20_1).f0),.slice A149_1 ((rd_T30 l0_4 x20_1).f1).length c149_1] 30 (0,0)) (by (with_reducible repeat (first | refine blk_drewN ?_ _ | refine blk_drew ?_ | refine blk_alloc ?_ _));exact BK150.out) hg (Kd.S_ne HO_4.out BK150.out (by decide)));have n4_:=Aside0.mk ((by rw [hw];exact below_set (HB.out) GB19.out : Below w.heap.size w w29));clear HO_3;clear HO_4;clear BK142;clear BK150;clear HB;clear HO153;have HO_3:=n0_;have HO_4:=n1_;have BK142:=n2_;have BK150:=n3_;have HB:=n4_;clear n0_ n1_ n2_ n3_ n4_;clear hg hw hp_;have hcz30_0 : w29.cell? ⟨gb142,0,none⟩ = some (.slice A0_0 l0_0.length c0_0) := (blk_cell BK142.out 0).trans rfl;have hcz30_1 : w29.cell? ⟨gb142,1,none⟩ = some (.slice A0_1 l0_1.length c0_1) := (blk_cell BK142.out 1).trans rfl;have hcz30_2 : w29.cell? ⟨gb142,2,none⟩ = some (.int .i64 a0_2) := (blk_cell BK142.out 2).trans rfl;have hcz30_3 : w29.cell? ⟨gb142,3,none⟩ = some (.int .i64 a0_3) := (blk_cell BK142.out 3).trans rfl;have hcz30_4 : w29.cell? ⟨gb142,4,none⟩ = some (.slice (some ad149) l0_4.length c0_4) := (blk_cell BK142.out 4).trans rfl;have hfz30_0:=blk_frozen BK142.out 0;have hfz30_1:=blk_frozen BK142.out 1;have hfz30_2:=blk_frozen BK142.out 2;have hfz30_3:=blk_frozen BK142.out 3;have hfz30_4:=blk_frozen BK142.out 4;have hcz31_0 : w29.cell? ⟨gb150,0,none⟩ = some (.int .i64 ((rd_T30 l0_4 x20_1).f0)) := (blk_cell BK150.out 0).trans rfl;have hcz31_1 : w29.cell? ⟨gb150,1,none⟩ = some (.slice A149_1 ((rd_T30 l0_4 x20_1).f1).length c149_1) := (blk_cell BK150.out 1).trans rfl;have hfz31_0:=blk_frozen BK150.out 0;have hfz31_1:=blk_frozen BK150.out 1) | ((with_reducible refine gate_callee (f:=39) rfl ?_);refine goesL_ (some 37) rfl rfl Try.func39 (by kernel_rfl) rfl #[.agg #[.slice A0_0 l0_0.length c0_0,.slice A0_1 l0_1.length c0_1,.int .i64 a0_2,.int .i64 a0_3,.slice (some ad149) l0_4.length c0_4],.slice A149_1 ((rd_T30 l0_4 x20_1).f1).length c149_1] rfl (by (try simp only [List.map_toArray,List.map_cons,List.map_nil]);first | done | rfl | (simp only [List.length_drop,List.length_take];rfl)) ?_;(with_reducible refine (firsts_Of.calls k1 _ _ l0_0 _ _ l0_1 a0_2 a0_3 _ _ l0_4 _ _ ((rd_T30 l0_4 x20_1).f1) t155 t158 _ ?side1 ?side2 ?side3 ?side4 ?side5 ?side6 ?side7 ?side8 A20.out).mono ?_);(case side1 => repeat (first | exact (Kd.C_below HR0_0.out HB.out) | (with_reducible refine Kd.C_alloc ?_ _) | (with_reducible refine Kd.C_drewN ?_ _) | (with_reducible refine Kd.C_drew ?_)));(case side2 => exact HC0_0.out);(case side3 => repeat (first | exact (Kd.C_below HR0_1.out HB.out) | (with_reducible refine Kd.C_alloc ?_ _) | (with_reducible refine Kd.C_drewN ?_ _) | (with_reducible refine Kd.C_drew ?_)));(case side4 => exact HC0_1.out);(case side5 => repeat (first | exact (Kd.C_below HR0_4.out HB.out) | (with_reducible refine Kd.C_alloc ?_ _) | (with_reducible refine Kd.C_drewN ?_ _) | (with_reducible refine Kd.C_drew ?_)));(case side6 => exact HC0_4.out);(case side7 => repeat (first | exact (Kd.C_below HR149_1.out HB.out) | (with_reducible refine Kd.C_alloc ?_ _) | (with_reducible refine Kd.C_drewN ?_ _) | (with_reducible refine Kd.C_drew ?_)));(case side8 => exact HC149_1.out);rintro e w32 ⟨v156,rfl,ho0,hb⟩;refine ⟨_,rfl,?_⟩;have n0_:=Aside0.mk (Kd.S_elder' (by (with_reducible repeat (first | apply Kd.S_alloc | apply Kd.S_drewN | apply Kd.S_drew));exact HO_3.out) (Kd.R_base ho0) hb);have n1_:=Aside0.mk (Kd.S_below (by (with_reducible repeat (first | apply Kd.S_alloc | apply Kd.S_drewN | apply Kd.S_drew));exact HO_4.out) hb);have n2_:=Aside0.mk (Kd.R_lower ho0 (below_size (by repeat (first | (with_reducible first | exact HB.out | apply below_alloc | apply pw_below_drewN | apply below_drew1 | refine below_set ?_ GE142.out | refine below_set ?_ GE150.out) | exact HB.out))));have n3_:=Aside0.mk (blk_below (g:=gb142) (o := .cells #[.slice A0_0 l0_0.length c0_0,.slice A0_1 l0_1.length c0_1,.int .i64 a0_2,.int .i64 a0_3,.slice (some ad149) l0_4.length c0_4] 26 (0,0)) (by (with_reducible repeat (first | refine blk_drewN ?_ _ | refine blk_drew ?_ | refine blk_alloc ?_ _));exact BK142.out) hb);have n4_:=Aside0.mk (blk_below (g:=gb150) (o := .cells #[.int .i64 ((rd_T30 l0_4 x20_1).f0),.slice A149_1 ((rd_T30 l0_4 x20_1).f1).length c149_1] 30 (0,0)) (by (with_reducible repeat (first | refine blk_drewN ?_ _ | refine blk_drew ?_ | refine blk_alloc ?_ _));exact BK150.out) hb);have n5_:=Aside0.mk (below_step (by repeat (first | (with_reducible first | exact HB.out | apply below_alloc | apply pw_below_drewN | apply below_drew1 | refine below_set ?_ GE142.out | refine below_set ?_ GE150.out) | exact HB.out)) hb);clear HO_3;clear HO_4;clear BK142;clear BK150;clear HB;have HO_3:=n0_;have HO_4:=n1_;have HO157:=n2_;have BK142:=n3_;have BK150:=n4_;have HB:=n5_;clear n0_ n1_ n2_ n3_ n4_ n5_;(try clear hb);(try clear hb2);(try clear hk);(try clear hi);(try clear ho0)))
     (try simp only [Act.put,List.setIfInBounds_toArray,List.set_cons_zero,List.set_cons_succ])
     go_cut [7] (fun v7 wc => ∃ (kq : Nat) (x7_20 : List Int),Aside0 (predict_chosen.j1 kq t143 y154 x20_1 x7_20 l0_4 (l0_4.length : Int) x20_1 l0_0 l0_1 a0_2 a0_3 l0_4 = some r) ∧ Aside0 (kq ≤ k1) ∧ Aside0 (Kd.S (Kd.slice 3 (Kd.int .i64)) 43 wc w.heap.size (fun k_ => some k_ ≠ (v7 : Value).ownBlock) v144 t143) ∧ Aside0 (Kd.S (Kd.slice 4 Kd.bool) 65 wc w.heap.size (fun _ => True) (.slice (some ⟨go19,0,none⟩) x4_1.length co19) y154) ∧ Aside0 (Kd.R (Kd.int .i64) 3 wc w.heap.size (fun _ => True) v7 x7_20) ∧ Aside0 (wc.heap[gb142]? = some (.cells #[(.slice A0_0 l0_0.length c0_0),(.slice A0_1 l0_1.length c0_1),.int .i64 a0_2,.int .i64 a0_3,(.slice (some ad149) l0_4.length c0_4)] 26 (0,0))) ∧ Aside0 (wc.heap[gb150]? = some (.cells #[.int .i64 ((rd_T30 l0_4 x20_1).f0),(.slice A149_1 ((rd_T30 l0_4 x20_1).f1).length c149_1)] 30 (0,0))) ∧ Aside0 (Below w.heap.size w wc))
     case first =>
      have H:=HC21.out
      clear HC21
      by_cases c33 : t158 = true
      · subst c33
        have H1 : (if 0 ≤ ((rd_T30 l0_4 x20_1).f0) then (if ((rd_T30 l0_4 x20_1).f0) < (t143.length : Int) then (if t155.length + (rd_L3 t143 ((rd_T30 l0_4 x20_1).f0)).length < 17592186044416 then (predict_chosen.j1 k1 t143 y154 x20_1 (t155 ++ (rd_L3 t143 ((rd_T30 l0_4 x20_1).f0))) l0_4 (l0_4.length : Int) x20_1 l0_0 l0_1 a0_2 a0_3 l0_4) else (none)) else (none)) else (none)) = some r:=by rw [if_pos rfl] at H;exact H
        clear H
        have H:=H1
        clear H1
        by_cases c34 : 0 ≤ ((rd_T30 l0_4 x20_1).f0)
        rotate_left
        · rw [if_neg c34] at H
          exact absurd H (by simp)
        rw [if_pos c34] at H
        have c34b0 : decide (0 ≤ ((rd_T30 l0_4 x20_1).f0)) = true:=decide_eq_true c34
        clear c34
        (first | rw [c34b0] | (simp only [i64_w,i32_w];rw [c34b0]) | skip)
        by_cases c35 : ((rd_T30 l0_4 x20_1).f0) < (t143.length : Int)
        rotate_left
        · rw [if_neg c35] at H
          exact absurd H (by simp)
        rw [if_pos c35] at H
        have c35b0 : decide (((rd_T30 l0_4 x20_1).f0) < (t143.length : Int)) = true:=decide_eq_true c35
        clear c35
        by_cases c36 : t155.length + (rd_L3 t143 ((rd_T30 l0_4 x20_1).f0)).length < 17592186044416
        rotate_left
        · rw [if_neg c36] at H
          exact absurd H (by simp)
        rw [if_pos c36] at H
        have LMc36:=Aside0.mk c36
        clear c36
        obtain ⟨y160,hy160⟩ : ∃ y_ : List Int,y_ = (t155 ++ (rd_L3 t143 ((rd_T30 l0_4 x20_1).f0))) := ⟨_,rfl⟩
        replace H : (predict_chosen.j1 k1 t143 y154 x20_1 y160 l0_4 (l0_4.length : Int) x20_1 l0_0 l0_1 a0_2 a0_3 l0_4) = some r:=by first | (rw [hy160];with_reducible exact H) | (have H2_:=(Option.bind_some _ _).symm.trans H;rw [hy160];with_reducible exact H2_) | (have H2_:=(Option.bind_some _ _).symm.trans H;with_reducible exact H2_) | with_reducible exact H | (rw [hy160];exact H) | exact H
        have Ny160:=Aside0.mk hy160
        clear hy160
        have H' := Aside0.mk H
        clear H
        have hnb37:=NB150_142.out
        have hnc37:=NB142_150.out
        have hcz38_0 : w32.cell? ⟨gb150,0,none⟩ = some (.int .i64 ((rd_T30 l0_4 x20_1).f0)) := (blk_cell BK150.out 0).trans rfl
        have hcz38_1 : w32.cell? ⟨gb150,1,none⟩ = some (.slice A149_1 ((rd_T30 l0_4 x20_1).f1).length c149_1) := (blk_cell BK150.out 1).trans rfl
        have hfz38_0:=blk_frozen BK150.out 0
        have hfz38_1:=blk_frozen BK150.out 1
        obtain ⟨Ao39,co39,eo39⟩ := Kd.S_slice HO_3.out
        subst eo39
        have p159 : 0 ≤ (((rd_T30 l0_4 x20_1).f0) : Int) := of_decide_eq_true (by first | (with_reducible assumption) | assumption)
        have q159 : ((rd_T30 l0_4 x20_1).f0) < (t143.length : Int) := of_decide_eq_true (by first | (with_reducible assumption) | assumption)
        obtain ⟨ad159,A159_0,c159_0,e159,hx159_0,hl159_0,hi159_0⟩ := at_L3 (Kd.S_reads' HO_3.out).2.2 ((rd_T30 l0_4 x20_1).f0) p159 q159
        cases e159
        obtain ⟨ce159,hce159,hMe159,hcc159⟩ := Kd.S_get HO_3.out [] ((rd_T30 l0_4 x20_1).f0) p159 (by first | exact q159 | exact of_decide_eq_true (by first | (with_reducible assumption) | assumption) | (have e_:=(Kd.S_reads' HO_3.out).1;omega))
        obtain ⟨ve159_0,rfl,ge159_0⟩ := hMe159
        have hv159_0:=hcc159 0 _ rfl
        rw [Nat.add_zero,show ((Kd.slice 3 (Kd.int .i64))).sz = 1 from rfl,Nat.mul_one] at hv159_0
        replace hv159_0:=Option.some.inj (hv159_0.symm.trans hx159_0)
        rw [hv159_0] at ge159_0
        have HL159_0:=Aside0.mk (show Kd.R (Kd.int .i64) 3 _ _ _ _ (rd_L3 t143 ((rd_T30 l0_4 x20_1).f0)) from ge159_0)
        clear hv159_0 ge159_0
        have HX159_0:=Aside0.mk hx159_0
        clear hcc159 hce159
        have HR159_0:=Aside0.mk hi159_0
        have HC159_0:=Aside0.mk hl159_0
        clear hi159_0 hl159_0
        replace p159:=eq_true p159
        replace q159:=eq_true q159
        go_wp2_with (first | ((with_reducible refine gate_builtin (b := .append) (xs:=#[.tmp 41,.tmp 46]) rfl ?_);at_builtin;refine Kd.R_append_rows (Kd.int .i64) (w0:=w) w.heap.size rfl (.tmp 41) (.tmp 46) 43 3 (.int .i64 0) 8 rfl Try.underlying43 info3 rfl (by decide) (by omega) v156 t155 (rd_L3 t143 ((rd_T30 l0_4 x20_1).f0)) _ _ _ (fun _ => True) (fun _ => False) rfl rfl ?aO ?aR (fun _ _ h => h) (fun _ h => h.elim) ?aF ?aB ?aS ?aL ?_;(case aR => repeat (first | exact (by repeat (first | (with_reducible exact HR159_0.out) | (with_reducible refine Kd.C_alloc ?_ _) | (with_reducible refine Kd.C_drewN ?_ _) | (with_reducible refine Kd.C_drew ?_) | exact HR159_0.out)) | (with_reducible refine Kd.C_alloc ?_ _) | (with_reducible refine Kd.C_drewN ?_ _) | (with_reducible refine Kd.C_drew ?_)));(case aB => exact (by repeat (first | (with_reducible first | exact HB.out | apply below_alloc | apply pw_below_drewN | apply below_drew1 | refine below_set ?_ GE142.out | refine below_set ?_ GE150.out) | exact HB.out)));(case aF => exact (fun _ _ => trivial));(case aO => exact (by (with_reducible repeat (first | apply Kd.R_alloc | apply Kd.R_drewN | apply Kd.R_drew));exact HO157.out));(case aS => exact (below_size (by repeat (first | (with_reducible first | exact HB.out | apply below_alloc | apply pw_below_drewN | apply below_drew1 | refine below_set ?_ GE142.out | refine below_set ?_ GE150.out) | exact HB.out))));(case aL => have:=LMc36.out;omega);intro v161 w40 ho hb hg hat;rw [← Ny160.out] at ho;have n0_:=Aside0.mk (Kd.S_after (ok:=(fun _ => True)) (by (with_reducible repeat (first | apply Kd.S_alloc | apply Kd.S_drewN | apply Kd.S_drew));exact HO_3.out) hg hat);have n1_:=Aside0.mk (Kd.S_over' (by (with_reducible repeat (first | apply Kd.S_alloc | apply Kd.S_drewN | apply Kd.S_drew));exact HO_4.out) (Kd.R_typed (by (with_reducible repeat (first | apply Kd.R_alloc | apply Kd.R_drewN | apply Kd.R_drew));exact HO157.out)) (by decide) hg);have n2_:=Aside0.mk (blk_grown (g:=gb142) (o := .cells #[.slice A0_0 l0_0.length c0_0,.slice A0_1 l0_1.length c0_1,.int .i64 a0_2,.int .i64 a0_3,.slice (some ad149) l0_4.length c0_4] 26 (0,0)) (by (with_reducible repeat (first | refine blk_drewN ?_ _ | refine blk_drew ?_ | refine blk_alloc ?_ _));exact BK142.out) hg (Kd.R_ne HO157.out BK142.out (by decide)));have n3_:=Aside0.mk (blk_grown (g:=gb150) (o := .cells #[.int .i64 ((rd_T30 l0_4 x20_1).f0),.slice A149_1 ((rd_T30 l0_4 x20_1).f1).length c149_1] 30 (0,0)) (by (with_reducible repeat (first | refine blk_drewN ?_ _ | refine blk_drew ?_ | refine blk_alloc ?_ _));exact BK150.out) hg (Kd.R_ne HO157.out BK150.out (by decide)));have n4_:=Aside0.mk (Kd.R_after (ok:=(fun k_ => some k_ ≠ (.slice (some ad159) t143.length co39 : Value).ownBlock)) (by (with_reducible repeat (first | apply Kd.R_alloc | apply Kd.R_drewN | apply Kd.R_drew));exact Kd.R_mono HL159_0.out (fun _ hk => ⟨hk.2,hk.1.2⟩)) hg hat);have n5_:=Aside0.mk (hb);have n6_:=Aside0.mk (ho);clear HO_3;clear HO_4;clear BK142;clear BK150;clear HL159_0;clear HB;clear HO157;have HO_3:=n0_;have HO_4:=n1_;have BK142:=n2_;have BK150:=n3_;have HL159_0:=n4_;have HB:=n5_;have HO162:=n6_;clear n0_ n1_ n2_ n3_ n4_ n5_ n6_;clear ho hb hg hat))
        go_meet
        case rel => exact ⟨_,(y160),H',⟨by have:=HK1.out;first | omega | exact Nat.le_refl _⟩,⟨by (with_reducible repeat (first | apply Kd.S_alloc | apply Kd.S_drewN | apply Kd.S_drew));exact Kd.S_mono HO_3.out (fun _ hk => hk.2)⟩,⟨by (with_reducible repeat (first | apply Kd.S_alloc | apply Kd.S_drewN | apply Kd.S_drew));exact HO_4.out⟩,⟨by (with_reducible repeat (first | apply Kd.R_alloc | apply Kd.R_drewN | apply Kd.R_drew));exact HO162.out⟩,⟨by (with_reducible repeat (first | refine blk_drewN ?_ _ | refine blk_drew ?_ | refine blk_alloc ?_ _));exact BK142.out⟩,⟨by (with_reducible repeat (first | refine blk_drewN ?_ _ | refine blk_drew ?_ | refine blk_alloc ?_ _));exact BK150.out⟩,⟨by repeat (first | (with_reducible first | exact HB.out | apply below_alloc | apply pw_below_drewN | apply below_drew1 | refine below_set ?_ GE142.out | refine below_set ?_ GE150.out) | exact HB.out)⟩⟩
      · replace c33:=Bool.eq_false_iff.mpr c33
        subst c33
        have H1 : (predict_chosen.j1 k1 t143 y154 x20_1 t155 l0_4 (l0_4.length : Int) x20_1 l0_0 l0_1 a0_2 a0_3 l0_4) = some r:=by rw [if_neg (show ¬ (false = true) by decide)] at H;exact H
        clear H
        have H:=H1
        clear H1
        have H' := Aside0.mk H
        clear H
        go_wp2
        go_meet
        case rel => exact ⟨_,(t155),H',⟨by have:=HK1.out;first | omega | exact Nat.le_refl _⟩,⟨by (with_reducible repeat (first | apply Kd.S_alloc | apply Kd.S_drewN | apply Kd.S_drew));exact Kd.S_mono HO_3.out (fun _ hk => hk.2)⟩,⟨by (with_reducible repeat (first | apply Kd.S_alloc | apply Kd.S_drewN | apply Kd.S_drew));exact HO_4.out⟩,⟨by (with_reducible repeat (first | apply Kd.R_alloc | apply Kd.R_drewN | apply Kd.R_drew));exact HO157.out⟩,⟨by (with_reducible repeat (first | refine blk_drewN ?_ _ | refine blk_drew ?_ | refine blk_alloc ?_ _));exact BK142.out⟩,⟨by (with_reducible repeat (first | refine blk_drewN ?_ _ | refine blk_drew ?_ | refine blk_alloc ?_ _));exact BK150.out⟩,⟨by repeat (first | (with_reducible first | exact HB.out | apply below_alloc | apply pw_below_drewN | apply below_drew1 | refine below_set ?_ GE142.out | refine below_set ?_ GE150.out) | exact HB.out)⟩⟩
     case rest =>
      clear HC21
      (try clear c1);(try clear p1);(try clear q1);(try clear hx1);(try clear hf1);(try clear c2);(try clear p2);(try clear hx2);(try clear hf2);(try clear c3);(try clear c3b0);(try clear c3b1);(try clear c4);(try clear c4b0);(try clear c4b1);(try clear p6);(try clear c12);(try clear c12b0);(try clear c13);(try clear c13b0);(try clear c14);(try clear c14b0);(try clear p14);(try clear q14);(try clear hx14)
      (try clear c15);(try clear p15);(try clear q15);(try clear hx15);(try clear c16);(try clear c16b0);(try clear c16b1);(try clear c17);(try clear c17b0);(try clear c17b1);(try clear c18);(try clear c18b0);(try clear c19);(try clear p19);(try clear q19);(try clear hx19);(try clear hf19);(try clear c23);(try clear c28);(try clear hx28);(try clear hf28);(try clear c33);(try clear c34);(try clear c34b0)
      (try clear c35);(try clear c35b0);(try clear c36);(try clear c37);(try clear c38);(try clear c39);(try clear hcz11_0);(try clear hcz11_1);(try clear hcz11_2);(try clear hcz11_3);(try clear hcz11_4);(try clear hcz24_0);(try clear hcz24_1);(try clear hcz25_0);(try clear hcz25_1);(try clear hcz25_2);(try clear hcz25_3);(try clear hcz25_4);(try clear hcz30_0);(try clear hcz30_1);(try clear hcz30_2);(try clear hcz30_3)
      (try clear hcz30_4);(try clear hcz31_0);(try clear hcz31_1);(try clear hcz38_0);(try clear hcz38_1);(try clear hcz6_0);(try clear hcz6_1);(try clear hcz6_2);(try clear hcz6_3);(try clear hcz6_4);(try clear hcz8_0);(try clear hcz8_1);(try clear hcz8_2);(try clear hcz8_3);(try clear hcz8_4);(try clear hfz11_0);(try clear hfz11_1);(try clear hfz11_2);(try clear hfz11_3);(try clear hfz11_4);(try clear hfz24_0)
      (try clear hfz24_1);(try clear hfz25_0);(try clear hfz25_1);(try clear hfz25_2);(try clear hfz25_3);(try clear hfz25_4);(try clear hfz30_0);(try clear hfz30_1);(try clear hfz30_2);(try clear hfz30_3);(try clear hfz30_4);(try clear hfz31_0);(try clear hfz31_1);(try clear hfz38_0);(try clear hfz38_1);(try clear hfz6_0);(try clear hfz6_1);(try clear hfz6_2);(try clear hfz6_3);(try clear hfz6_4);(try clear hfz8_0)
      (try clear hfz8_1);(try clear hfz8_2);(try clear hfz8_3);(try clear hfz8_4);(try clear hx149_0);(try clear hx149_1);(try clear hx159_0);(try clear hx19_0);(try clear hx28_0);(try clear p149);(try clear p159);(try clear p19);(try clear p2);(try clear q149);(try clear q159);(try clear q19)
      obtain ⟨kq,x7_20,HA,HJ20,HO_3,HO_4,HO_7,BK142,BK150,HB⟩ := hcut
      have hl4_20:=(Kd.S_reads' HO_4.out).1
      rw [hl4_20] at HO_4
      (try simp only [hl4_20])
      (try simp only [hl4_20] at BK142)
      (try simp only [hl4_20] at BK150)
      (try simp only [hl4_20] at HO_3)
      (try simp only [hl4_20] at HO_7)
      cases kq with
      | zero => exact absurd HA.out (by simp [predict_chosen.j1])
      | succ kj20 =>
       have H:=HA.out
       clear HA
       simp only [predict_chosen.j1] at H
       have H' := Aside0.mk H
       clear H
       obtain ⟨Ao41,co41,eo41⟩ := Kd.R_slice HO_7.out
       subst eo41
       go_wp2
       go_loopg [50] kj20 (fun kq v50 w' => ∃ (x4_3 : List (List Bool)) (x50_3 : Int),v50 = .int .i64 x50_3 ∧ Aside0 (predict_chosen.l1 kq t143 x4_3 x20_1 l0_4 (l0_4.length : Int) x20_1 x7_20 (x7_20.length : Int) x50_3 l0_0 l0_1 a0_2 a0_3 l0_4 = some r) ∧ Aside0 (kq ≤ kj20) ∧ Aside0 (Kd.S (Kd.slice 3 (Kd.int .i64)) 43 w' w.heap.size (fun k_ => some k_ ≠ ((.slice Ao41 x7_20.length co41) : Value).ownBlock) v144 t143) ∧ Aside0 (Kd.S (Kd.slice 4 Kd.bool) 65 w' w.heap.size (fun _ => True) (.slice (some ⟨go19,0,none⟩) y154.length co19) x4_3) ∧ Aside0 (Kd.R (Kd.int .i64) 3 w' w.heap.size (fun _ => True) (.slice Ao41 x7_20.length co41) x7_20) ∧ Aside0 (w'.heap[gb142]? = some (.cells #[(.slice A0_0 l0_0.length c0_0),(.slice A0_1 l0_1.length c0_1),.int .i64 a0_2,.int .i64 a0_3,(.slice (some ad149) l0_4.length c0_4)] 26 (0,0))) ∧ Aside0 (w'.heap[gb150]? = some (.cells #[.int .i64 ((rd_T30 l0_4 x20_1).f0),(.slice A149_1 ((rd_T30 l0_4 x20_1).f1).length c149_1)] 30 (0,0))) ∧ Aside0 (Below w.heap.size w w'))
       case atStart => exact ⟨(y154),(0),(by first | rfl | (simp;done) | (simp [*];done)),H',⟨Nat.le_refl _⟩,⟨by (try simp only [hl4_20]);(with_reducible repeat (first | apply Kd.S_alloc | apply Kd.S_drewN | apply Kd.S_drew));exact HO_3.out⟩,⟨by (try simp only [hl4_20]);(with_reducible repeat (first | apply Kd.S_alloc | apply Kd.S_drewN | apply Kd.S_drew));exact HO_4.out⟩,⟨by (try simp only [hl4_20]);(with_reducible repeat (first | apply Kd.R_alloc | apply Kd.R_drewN | apply Kd.R_drew));exact HO_7.out⟩,⟨by (try simp only [hl4_20]);(with_reducible repeat (first | refine blk_drewN ?_ _ | refine blk_drew ?_ | refine blk_alloc ?_ _));exact BK142.out⟩,⟨by (try simp only [hl4_20]);(with_reducible repeat (first | refine blk_drewN ?_ _ | refine blk_drew ?_ | refine blk_alloc ?_ _));exact BK150.out⟩,⟨by repeat (first | (with_reducible first | exact HB.out | apply below_alloc | apply pw_below_drewN | apply below_drew1 | refine below_set ?_ GE142.out | refine below_set ?_ GE150.out) | exact HB.out)⟩⟩
       case round =>
        clear H'
        (try clear c1);(try clear p1);(try clear q1);(try clear hx1);(try clear hf1);(try clear c2);(try clear p2);(try clear hx2);(try clear hf2);(try clear c3);(try clear c3b0);(try clear c3b1);(try clear c4);(try clear c4b0);(try clear c4b1);(try clear p6);(try clear c12);(try clear c12b0);(try clear c13);(try clear c13b0);(try clear c14);(try clear c14b0);(try clear p14);(try clear q14);(try clear hx14)
        (try clear c15);(try clear p15);(try clear q15);(try clear hx15);(try clear c16);(try clear c16b0);(try clear c16b1);(try clear c17);(try clear c17b0);(try clear c17b1);(try clear c18);(try clear c18b0);(try clear c19);(try clear p19);(try clear q19);(try clear hx19);(try clear hf19);(try clear c23);(try clear c28);(try clear hx28);(try clear hf28);(try clear c33);(try clear c34);(try clear c34b0)
        (try clear c35);(try clear c35b0);(try clear c36);(try clear c37);(try clear c38);(try clear c39);(try clear hcz11_0);(try clear hcz11_1);(try clear hcz11_2);(try clear hcz11_3);(try clear hcz11_4);(try clear hcz24_0);(try clear hcz24_1);(try clear hcz25_0);(try clear hcz25_1);(try clear hcz25_2);(try clear hcz25_3);(try clear hcz25_4);(try clear hcz30_0);(try clear hcz30_1);(try clear hcz30_2);(try clear hcz30_3)
        (try clear hcz30_4);(try clear hcz31_0);(try clear hcz31_1);(try clear hcz38_0);(try clear hcz38_1);(try clear hcz6_0);(try clear hcz6_1);(try clear hcz6_2);(try clear hcz6_3);(try clear hcz6_4);(try clear hcz8_0);(try clear hcz8_1);(try clear hcz8_2);(try clear hcz8_3);(try clear hcz8_4);(try clear hfz11_0);(try clear hfz11_1);(try clear hfz11_2);(try clear hfz11_3);(try clear hfz11_4);(try clear hfz24_0)
        (try clear hfz24_1);(try clear hfz25_0);(try clear hfz25_1);(try clear hfz25_2);(try clear hfz25_3);(try clear hfz25_4);(try clear hfz30_0);(try clear hfz30_1);(try clear hfz30_2);(try clear hfz30_3);(try clear hfz30_4);(try clear hfz31_0);(try clear hfz31_1);(try clear hfz38_0);(try clear hfz38_1);(try clear hfz6_0);(try clear hfz6_1);(try clear hfz6_2);(try clear hfz6_3);(try clear hfz6_4);(try clear hfz8_0)
        (try clear hfz8_1);(try clear hfz8_2);(try clear hfz8_3);(try clear hfz8_4);(try clear hx149_0);(try clear hx149_1);(try clear hx159_0);(try clear hx19_0);(try clear hx28_0);(try clear p1);(try clear p14);(try clear p149);(try clear p15);(try clear p159);(try clear p19);(try clear p2);(try clear p6);(try clear q1);(try clear q14);(try clear q149);(try clear q15);(try clear q159);(try clear q19)
        obtain ⟨x4_3,x50_3,rfl,HA,HK3,HO_3,HO_4,HO_48,BK142,BK150,HB⟩ := hrel
        have hl4_3:=(Kd.S_reads' HO_4.out).1
        rw [hl4_3] at HO_4
        (try simp only [hl4_3])
        (try simp only [hl4_3] at BK142)
        (try simp only [hl4_3] at BK150)
        (try simp only [hl4_3] at HO_3)
        (try simp only [hl4_3] at HO_48)
        cases gk with
        | zero => exact absurd HA.out (by simp [predict_chosen.l1])
        | succ k3 =>
         have H:=HA.out
         clear HA
         simp only [predict_chosen.l1] at H
         by_cases c42 : x50_3 < (x7_20.length : Int)
         · rw [if_pos c42] at H
           have c42b0 : decide (x50_3 < (x7_20.length : Int)) = true:=decide_eq_true c42
           (try (have c42z0:=c42b0;simp only [hl4_20,hl4_3] at c42z0))
           clear c42
           by_cases c43 : 0 ≤ x50_3
           rotate_left
           · rw [if_neg c43] at H
             exact absurd H (by simp)
           rw [if_pos c43] at H
           have c43b0 : decide (0 ≤ x50_3) = true:=decide_eq_true c43
           clear c43
           by_cases c44 : x50_3 < (x7_20.length : Int)
           rotate_left
           · rw [if_neg c44] at H
             exact absurd H (by simp)
           rw [if_pos c44] at H
           have c44b0 : decide (x50_3 < (x7_20.length : Int)) = true:=decide_eq_true c44
           (try (have c44z0:=c44b0;simp only [hl4_20,hl4_3] at c44z0))
           clear c44
           by_cases c45 : 0 ≤ x20_1
           rotate_left
           · rw [if_neg c45] at H
             exact absurd H (by simp)
           rw [if_pos c45] at H
           have c45b0 : decide (0 ≤ x20_1) = true:=decide_eq_true c45
           clear c45
           by_cases c46 : x20_1 < (x4_3.length : Int)
           rotate_left
           · rw [if_neg c46] at H
             exact absurd H (by simp)
           rw [if_pos c46] at H
           have c46b0 : decide (x20_1 < (x4_3.length : Int)) = true:=decide_eq_true c46
           (try (have c46z0:=c46b0;simp only [hl4_20,hl4_3] at c46z0))
           clear c46
           by_cases c47 : 0 ≤ (rd x7_20 x50_3)
           rotate_left
           · rw [if_neg c47] at H
             exact absurd H (by simp)
           rw [if_pos c47] at H
           have c47b0 : decide (0 ≤ (rd x7_20 x50_3)) = true:=decide_eq_true c47
           clear c47
           by_cases c48 : (rd x7_20 x50_3) < ((rd_L13 x4_3 x20_1).length : Int)
           rotate_left
           · rw [if_neg c48] at H
             exact absurd H (by simp)
           rw [if_pos c48] at H
           have c48b0 : decide ((rd x7_20 x50_3) < ((rd_L13 x4_3 x20_1).length : Int)) = true:=decide_eq_true c48
           (try (have c48z0:=c48b0;simp only [hl4_20,hl4_3] at c48z0))
           clear c48
           obtain ⟨y165,hy165⟩ : ∃ y_ : List Bool,y_ = ((rd_L13 x4_3 x20_1).set ((rd x7_20 x50_3) : Int).toNat true) := ⟨_,rfl⟩
           replace H : (predict_chosen.l1 k3 t143 (x4_3.set (x20_1 : Int).toNat y165) x20_1 l0_4 (l0_4.length : Int) x20_1 x7_20 (x7_20.length : Int) (wrap64 (x50_3 + 1)) l0_0 l0_1 a0_2 a0_3 l0_4) = some r:=by first | (rw [hy165];with_reducible exact H) | (have H2_:=(Option.bind_some _ _).symm.trans H;rw [hy165];with_reducible exact H2_) | (have H2_:=(Option.bind_some _ _).symm.trans H;with_reducible exact H2_) | with_reducible exact H | (rw [hy165];exact H) | exact H
           have Ny165:=Aside0.mk hy165
           clear hy165
           obtain ⟨y167,hy167⟩ : ∃ y_ : List (List Bool),y_ = (x4_3.set (x20_1 : Int).toNat y165) := ⟨_,rfl⟩
           replace H : (predict_chosen.l1 k3 t143 y167 x20_1 l0_4 (l0_4.length : Int) x20_1 x7_20 (x7_20.length : Int) (wrap64 (x50_3 + 1)) l0_0 l0_1 a0_2 a0_3 l0_4) = some r:=by first | (rw [hy167];with_reducible exact H) | (have H2_:=(Option.bind_some _ _).symm.trans H;rw [hy167];with_reducible exact H2_) | (have H2_:=(Option.bind_some _ _).symm.trans H;with_reducible exact H2_) | with_reducible exact H | (rw [hy167];exact H) | exact H
           have Ny167:=Aside0.mk hy167
           clear hy167
           have H' := Aside0.mk H
           clear H
           have p163 : 0 ≤ (x50_3 : Int) := of_decide_eq_true (by first | (with_reducible assumption) | assumption)
           have q163 : x50_3 < (x7_20.length : Int) := of_decide_eq_true (by first | (with_reducible assumption) | assumption)
           obtain ⟨ad163,e163,hx163_0⟩ := Kd.at_int (Kd.R_reads' HO_48.out).2.2 x50_3 p163 q163
           cases e163
           replace p163:=eq_true p163
           replace q163:=eq_true q163
           have p164 : 0 ≤ (x20_1 : Int) := of_decide_eq_true (by first | (with_reducible assumption) | assumption)
           have q164 : x20_1 < (x4_3.length : Int) := of_decide_eq_true (by first | (with_reducible assumption) | assumption)
           obtain ⟨ad164,A164_0,c164_0,e164,hx164_0,hl164_0,hi164_0⟩ := at_L13 (Kd.S_reads' HO_4.out).2.2 x20_1 p164 q164
           obtain rfl : (⟨go19,0,none⟩ : Addr) = ad164:=(by injection e164)
           obtain ⟨ce164,hce164,hMe164,hcc164⟩ := Kd.S_get HO_4.out [] x20_1 p164 (by first | exact q164 | exact of_decide_eq_true (by first | (with_reducible assumption) | assumption) | (have e_:=(Kd.S_reads' HO_4.out).1;omega))
           obtain ⟨ve164_0,rfl,ge164_0⟩ := hMe164
           have hv164_0:=hcc164 0 _ rfl
           rw [Nat.add_zero,show ((Kd.slice 4 Kd.bool)).sz = 1 from rfl,Nat.mul_one] at hv164_0
           replace hv164_0:=Option.some.inj (hv164_0.symm.trans hx164_0)
           rw [hv164_0] at ge164_0
           have HL164_0:=Aside0.mk (show Kd.R Kd.bool 4 _ _ _ _ (rd_L13 x4_3 x20_1) from ge164_0)
           clear hv164_0 ge164_0
           have HX164_0:=Aside0.mk hx164_0
           clear hcc164 hce164
           (first | simp only [add_plain] at hx164_0 | simp only [add_at] at hx164_0 | simp only [Addr.add,Nat.zero_add] at hx164_0 | skip)
           have HR164_0:=Aside0.mk hi164_0
           have HC164_0:=Aside0.mk hl164_0
           clear hi164_0 hl164_0
           replace p164:=eq_true p164
           replace q164:=eq_true q164
           have p49 : 0 ≤ ((rd x7_20 x50_3) : Int) := of_decide_eq_true (by first | (with_reducible assumption) | assumption)
           have q49 : ((rd x7_20 x50_3) : Int) < (((rd_L13 x4_3 x20_1).length : Int) : Int) := of_decide_eq_true (by first | (with_reducible assumption) | assumption)
           obtain ⟨go49,co49,eo49,gb49,gl49,cl49,HG49⟩ := Kd.R_form HL164_0.out (by omega)
           (first | cases eo49 | (injection eo49 with ea_ en_ ec_;(first | subst ea_ | (injection ea_ with ea_;subst ea_));subst ec_;clear en_))
           have GB49:=Aside0.mk gb49
           have GG49:=Aside0.mk HG49
           clear gb49 gl49 HG49
           obtain ⟨hx49_0,hf49_0⟩ := Kd.R_celln false HL164_0.out ((rd x7_20 x50_3) : Int) p49 q49
           replace p49:=eq_true p49
           replace q49:=eq_true q49
           have hq50 : (x20_1 : Int) < (x4_3.length : Int) := (by have h_ : (x20_1 : Int) < ((x4_3.length : Int) : Int) := of_decide_eq_true (by first | (with_reducible assumption) | assumption);first | exact h_ | (have e_:=(Kd.S_reads' HO_4.out).1;omega) | simpa only [List.length_set,List.length_set] using h_)
           obtain ⟨oki50,ce50,hcl50,hM50,hcc50,hok50,hbk50⟩ := Kd.S_borrow HO_4.out [] (x20_1 : Int) (of_decide_eq_true (by first | (with_reducible assumption) | assumption)) hq50
           obtain ⟨ve50_0,rfl,ge50_0⟩ := hM50
           have hv50:=hcc50 0 _ rfl
           rw [Nat.add_zero,show ((Kd.slice 4 Kd.bool)).sz = 1 from rfl,Nat.mul_one] at hv50
           replace hv50:=Option.some.inj (hv50.symm.trans HX164_0.out)
           subst hv50
           clear hcc50 hcl50
           replace ge50_0:=(show Kd.R Kd.bool 4 _ _ _ _ (rd_L13 x4_3 x20_1) from ge50_0)
           have HP50:=Kd.R_putg ge50_0 ((rd x7_20 x50_3) : Int) true
           go_wp2_with (first | ((with_reducible refine gate_store (t:=4) (p:=59) rfl ?_);refine store_event (t:=4) (p:=59) (v:=?vo_w51) (w1:=(wr.setCell ⟨go49,((rd x7_20 x50_3) : Int).toNat,none⟩ (.bool true))) ?hg ?ho ?hn ?hr ?_;(case ho => rfl);(case hg => rfl);(case hn => rfl);(case hr => first | (go_simp;done) | (go_simp;rfl));intro w51 hw;have hg : wr.grownBy w51 (some go49) := (by rw [hw];exact HP50.2);have hz_ : Kd.R Kd.bool 4 w51 w.heap.size oki50 (.slice (some ⟨go49,0,none⟩) (rd_L13 x4_3 x20_1).length c164_0) y165:=(by rw [hw,Ny165.out];exact HP50.1);have hp_ : Kd.S (Kd.slice 4 Kd.bool) 65 w51 w.heap.size (fun _ => True) (.slice (some ⟨go19,0,none⟩) x4_3.length co19) y167:=(by rw [Ny167.out];exact hbk50 hg (fun k_ e_ => by injection e_ with e_;subst e_;exact ge50_0.1 _ rfl) (Kd.M_row hz_));have hm_:=Kd.R_mono hz_ hok50;clear HP50 hbk50;have n0_:=Aside0.mk (Kd.S_over' (v:=(.slice (some ⟨go49,0,none⟩) (rd_L13 x4_3 x20_1).length c164_0)) (by (with_reducible repeat (first | apply Kd.S_alloc | apply Kd.S_drewN | apply Kd.S_drew));exact HO_3.out) (Kd.R_typed HL164_0.out) (by decide) hg);have n1_:=Aside0.mk (hp_);have n2_:=Aside0.mk (Kd.R_over' (v:=(.slice (some ⟨go49,0,none⟩) (rd_L13 x4_3 x20_1).length c164_0)) (by (with_reducible repeat (first | apply Kd.R_alloc | apply Kd.R_drewN | apply Kd.R_drew));exact HO_48.out) (Kd.R_typed HL164_0.out) (by decide) hg);have n3_:=Aside0.mk (blk_grown (g:=gb142) (o := .cells #[.slice A0_0 l0_0.length c0_0,.slice A0_1 l0_1.length c0_1,.int .i64 a0_2,.int .i64 a0_3,.slice (some ad149) l0_4.length c0_4] 26 (0,0)) (by (with_reducible repeat (first | refine blk_drewN ?_ _ | refine blk_drew ?_ | refine blk_alloc ?_ _));exact BK142.out) hg (Kd.R_ne HL164_0.out BK142.out (by decide)));have n4_:=Aside0.mk (blk_grown (g:=gb150) (o := .cells #[.int .i64 ((rd_T30 l0_4 x20_1).f0),.slice A149_1 ((rd_T30 l0_4 x20_1).f1).length c149_1] 30 (0,0)) (by (with_reducible repeat (first | refine blk_drewN ?_ _ | refine blk_drew ?_ | refine blk_alloc ?_ _));exact BK150.out) hg (Kd.R_ne HL164_0.out BK150.out (by decide)));have n5_:=Aside0.mk ((by rw [hw];exact below_set (HB.out) GB49.out : Below w.heap.size w w51));have n6_:=Aside0.mk (hm_);have n7_:=Aside0.mk ((Kd.R_reads' hm_).2.1);clear HO_3;clear HO_4;clear HO_48;clear BK142;clear BK150;clear HB;clear HL164_0;have HO_3:=n0_;have HO_4:=n1_;have HO_48:=n2_;have BK142:=n3_;have BK150:=n4_;have HB:=n5_;have HL168:=n6_;have HC166:=n7_;clear n0_ n1_ n2_ n3_ n4_ n5_ n6_ n7_;clear hg hw hp_ hz_ hm_ hok50))
           (try simp only [← hl4_3])
           go_roundg k3
           case measure => have:=HK1.out;have:=HJ20.out;have:=HK3.out;omega
           case rel => exact ⟨(y167),(wrap64 (x50_3 + 1)),(by first | rfl | (simp;done) | (simp [*];done)),H',⟨by have:=HK1.out;have:=HJ20.out;have:=HK3.out;omega⟩,⟨by (try simp only [hl4_20]);(try simp only [hl4_3]);(with_reducible repeat (first | apply Kd.S_alloc | apply Kd.S_drewN | apply Kd.S_drew));exact HO_3.out⟩,⟨by (try simp only [hl4_20]);(try simp only [hl4_3]);(with_reducible repeat (first | apply Kd.S_alloc | apply Kd.S_drewN | apply Kd.S_drew));exact HO_4.out⟩,⟨by (try simp only [hl4_20]);(try simp only [hl4_3]);(with_reducible repeat (first | apply Kd.R_alloc | apply Kd.R_drewN | apply Kd.R_drew));exact HO_48.out⟩,⟨by (try simp only [hl4_20]);(try simp only [hl4_3]);(with_reducible repeat (first | refine blk_drewN ?_ _ | refine blk_drew ?_ | refine blk_alloc ?_ _));exact BK142.out⟩,⟨by (try simp only [hl4_20]);(try simp only [hl4_3]);(with_reducible repeat (first | refine blk_drewN ?_ _ | refine blk_drew ?_ | refine blk_alloc ?_ _));exact BK150.out⟩,⟨by repeat (first | (with_reducible first | exact HB.out | apply below_alloc | apply pw_below_drewN | apply below_drew1 | refine below_set ?_ GE142.out | refine below_set ?_ GE150.out) | exact HB.out)⟩⟩
         · rw [if_neg c42] at H
           have c42b0 : decide (x50_3 < (x7_20.length : Int)) = false:=decide_eq_false c42
           (try (have c42z0:=c42b0;simp only [hl4_20,hl4_3] at c42z0))
           clear c42
           have H' := Aside0.mk H
           clear H
           go_wp2
           (try simp only [← hl4_20,← hl4_3])
           go_roundg k3
           case measure => have:=HK1.out;have:=HJ20.out;have:=HK3.out;omega
           case rel => exact ⟨(x4_3),(wrap64 (x20_1 + 1)),(by first | rfl | (simp;done) | (simp [*];done)),H',⟨by have:=HK1.out;have:=HJ20.out;have:=HK3.out;omega⟩,⟨by (try simp only [hl4_20]);(try simp only [hl4_3]);(with_reducible repeat (first | apply Kd.S_alloc | apply Kd.S_drewN | apply Kd.S_drew));exact Kd.S_mono HO_3.out (fun _ hk => trivial)⟩,⟨by (try simp only [hl4_20]);(try simp only [hl4_3]);(with_reducible repeat (first | apply Kd.S_alloc | apply Kd.S_drewN | apply Kd.S_drew));exact HO_4.out⟩,⟨by (try simp only [hl4_20]);(try simp only [hl4_3]);(with_reducible repeat (first | refine blk_drewN ?_ _ | refine blk_drew ?_ | refine blk_alloc ?_ _));exact BK142.out⟩,⟨by repeat (first | (with_reducible first | exact HB.out | apply below_alloc | apply pw_below_drewN | apply below_drew1 | refine below_set ?_ GE142.out | refine below_set ?_ GE150.out) | exact HB.out)⟩⟩
   · rw [if_neg c12] at H
     have c12b0 : decide (x20_1 < (l0_4.length : Int)) = false:=decide_eq_false c12
     clear c12
     obtain rfl:=Option.some.inj H
     go_wp2
     go_ret
     exact ⟨_,by first | rfl | (simp [errW_none,errW_some] <;> rfl) | (simp [*,errW_none,errW_some] <;> rfl),by (with_reducible repeat (first | apply Kd.S_alloc | apply Kd.S_drewN | apply Kd.S_drew));exact HO_4.out,by repeat (first | (with_reducible first | exact HB.out | apply below_alloc | apply pw_below_drewN | apply below_drew1 | refine below_set ?_ GE142.out) | exact HB.out)⟩
end Go.Proofs.Ytfdcfihcfegekaa.P
end
