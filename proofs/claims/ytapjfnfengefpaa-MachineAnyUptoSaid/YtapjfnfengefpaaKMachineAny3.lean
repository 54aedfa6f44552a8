/- Packed texts of this claim: the walks of the functions, and their plain laws; see the claim's last text. -/
import Derived.WalkMore
import Derived.Deep.RegionHeld3
import Derived.Lib.SliceRun
import Derived.Test.YtapjfnfengefpaaKMachineAny2
section
namespace Go.Proofs.Ytapjfnfengefpaa.P
open Go.RowKit Go.Proofs.YtapjfnfengefpaaW.PrintWords Go.Proofs.YtapjfnfengefpaaW.PrintLast Go.Proofs.YtapjfnfengefpaaW.PrintMore
set_option linter.unusedVariables false
set_option linter.unusedSimpArgs false
abbrev T : Bool := true
abbrev F : Bool := false
theorem pq : (∀ (a : Act) (d : Option Tmp) (v : Value), a.put d v = match d with | none => a | some i => { a with tmps := a.tmps.setIfInBounds i v }) ∧ (∀ (l : List Value) (i : Nat) (a : Value), l.toArray.setIfInBounds i a = (l.set i a).toArray) ∧ (∀ (x : Value) (l : List Value) (a : Value), (x :: l).set 0 a = a :: l) ∧ (∀ (x : Value) (l : List Value) (n : Nat) (a : Value), (x :: l).set (n + 1) a = x :: l.set n a) ∧ (∀ n, IntKind.i64.wrap n = wrap64 n) ∧ ∀ n, IntKind.i32.wrap n = wrap32 n := ⟨fun _ d _ => by cases d <;> rfl, fun _ _ _ => List.setIfInBounds_toArray .., fun _ _ _ => rfl, fun _ _ _ _ => rfl, i64_w, i32_w⟩
theorem indexInt_any (p : Int → Bool) (g : Nat) (lb : Array Value) (eg : ∀ args w,(callFunc g args).run Try.prog w = .ok (.enter g args) w) (A : Option Addr) (c : Nat) (zs : List Int) (w : World)
    (hr : Kd.C (Kd.int .i64) w A zs.length zs) (hbig : zs.length ≤ 9223372036854775807) (hp : ∀ (W : World) (x : Int),x ∈ zs → Below w.heap.size w W → Calls Try.prog g (#[.int .i64 x] ++ lb) W fun e w' => e = .returned (.bool (p x)) ∧ Below w.heap.size w w') :
    Calls Try.prog 57 #[.slice A zs.length c,.func (.func g) #[] lb] w fun e w' => (∃ n : Int,e = .returned (.int .i64 n) ∧ Aside0 (decide (0 ≤ n) = zs.any p)) ∧ Below w.heap.size w w' := by
 go_enter Try.func57,Try.ntmps57
 go_wp2
 go_loopg [5,8] zs.length (fun gg _ s8 wr => ∃ kk : Nat,kk ≤ zs.length ∧ zs.length - kk ≤ gg ∧ s8 = .int .i64 kk ∧ Aside0 (Below w.heap.size w wr) ∧ Aside0 ((zs.take kk).any p = false))
 case atStart => exact ⟨0,Nat.zero_le _,by omega,rfl,⟨Below.refl _ w⟩,⟨by simp⟩⟩
 case round =>
  obtain ⟨kk,hkk,hg,rfl,BW,PA⟩ := hrel
  by_cases hlt : kk < zs.length
  · have hltz : (kk : Int) < (zs.length : Int) := by omega
    have hrd : rd zs (kk : Int) = zs[kk] := by simp [rd,hlt]
    obtain ⟨ad,e,l0⟩ := Kd.at_int (Kd.C_below hr BW.out) (kk : Int) (by omega) (by omega)
    have hcall:=hp wr zs[kk] (List.getElem_mem hlt) BW.out
    rw [hrd,Int.toNat_natCast] at l0
    subst e
    have PB : Aside0 ((zs.take (kk + 1)).any p = p zs[kk]) := ⟨by rw [List.take_succ_eq_append_getElem hlt,List.any_append,PA.out];simp⟩
    have PC : Aside0 (zs.any p = (p zs[kk] || (zs.drop (kk + 1)).any p)) := ⟨by
     conv => lhs;rw [← List.take_append_drop (kk + 1) zs]
     rw [List.any_append,PB.out]⟩
    clear hp hr hrd
    generalize zs[kk] = y at l0 hcall PB PC
    cases hq : p y with
    | true =>
     rw [hq] at hcall
     have PD : Aside0 (zs.any p = true) := ⟨by rw [PC.out,hq];simp⟩
     clear PA PB PC hq
     go_wp2_with (go_at_fn g;refine hcall.mono ?_;rintro e w' ⟨rfl,hb'⟩)
     go_ret
     exact ⟨⟨_,rfl,⟨by rw [PD.out];simp⟩⟩,hb'⟩
    | false =>
     rw [hq] at hcall
     have PD : Aside0 ((zs.take (kk + 1)).any p = false) := ⟨by rw [PB.out,hq]⟩
     clear PA PB PC hq
     go_wp2_with (go_at_fn g;refine hcall.mono ?_;rintro e w' ⟨rfl,hb'⟩)
     go_roundg (zs.length - (kk + 1))
     case measure => omega
     case rel => exact ⟨kk + 1,by omega,by omega,by go_num,⟨hb'⟩,PD⟩
  · have hltz : ¬ (kk : Int) < (zs.length : Int) := by omega
    have : kk = zs.length:=by omega
    subst this
    have PD : Aside0 (zs.any p = false) := ⟨by have:=PA.out;rwa [List.take_length] at this⟩
    clear PA hp hr
    go_wp2
    go_ret
    exact ⟨⟨-1,rfl,⟨by rw [PD.out];simp⟩⟩,BW.out⟩
theorem containsInt_any (p : Int → Bool) (g : Nat) (lb : Array Value) (eg : ∀ args w,(callFunc g args).run Try.prog w = .ok (.enter g args) w) (A : Option Addr) (c : Nat) (zs : List Int) (w : World)
    (hr : Kd.C (Kd.int .i64) w A zs.length zs) (hbig : zs.length ≤ 9223372036854775807) (hp : ∀ (W : World) (x : Int),x ∈ zs → Below w.heap.size w W → Calls Try.prog g (#[.int .i64 x] ++ lb) W fun e w' => e = .returned (.bool (p x)) ∧ Below w.heap.size w w') :
    Calls Try.prog 41 #[.slice A zs.length c,.func (.func g) #[] lb] w fun e w' => e = .returned (.bool (zs.any p)) ∧ Below w.heap.size w w' := by
 have hcon:=indexInt_any p g lb eg A c zs w hr hbig hp
 have e6 : ∀ args w,(callFunc 57 args).run Try.prog w = .ok (.enter 57 args) w:=enters_of Try.func57 (by kernel_rfl) rfl
 clear hp hr
 go_enter Try.func41,Try.ntmps41
 go_wp2_with (go_at_fn 57;refine hcon.mono ?_;rintro e w' ⟨⟨nn_,rfl,hn_⟩,hb'⟩)
 go_ret
 exact ⟨by rw [← hn_.out];rfl,hb'⟩
def okEnt (ps : List S35) (r p : Int) : Bool:=decide (-1 ≤ p) && decide (p < (ps.length : Int)) && (decide (p < 0) || decide ((rd_T35 ps p).f0 = r))
theorem mright1_any (p r : Int) (ps : List S35) (SB RB : Nat) (W : World) (A4 : Option Addr) (c4 : Nat) (hp : Kd.C k35 W A4 ps.length ps)
    (hS : W.cell? ⟨SB,4,none⟩ = some (.slice A4 ps.length c4)) (hr : W.cell? ⟨RB,0,none⟩ = some (.int .i64 r)) :
    Calls Try.prog 40 #[.int .i64 p,.pointer (some ⟨SB,0,none⟩),.pointer (some ⟨RB,0,none⟩)] W fun e w' => e = .returned (.bool (!okEnt ps r p)) ∧ Below W.heap.size W w' := by
 have h4:=Aside0.mk hS
 have hR:=Aside0.mk hr
 unfold okEnt
 by_cases c0 : p < -1
 · have d0 : decide (p < -1) = true:=decide_eq_true c0
   have d1 : decide (-1 ≤ p) = false:=decide_eq_false (by omega)
   rw [d1]
   generalize ps.length = n4 at h4
   clear hp hS hr
   go_enter Try.func40,Try.ntmps40
   go_upto_region 1 with fail
   refine start_ (n:=24) (S:=fun w' => w'.cell? ⟨SB,4,none⟩ = some (.slice A4 n4 c4)) (ds := []) #[F,F,F,F,F,F,F,F,F,F,F,F,F,F,F,F,F,F,F,F,F,F,F,F] (by kernel_rfl) rfl rfl (h4.out) (fun hHeld => ?_)
   refine pure_ (i:=0) (N:=some 5) (v:=?_) (a' := ?_) #[T,F,F,F,F,F,F,F,F,F,F,F,F,F,F,F,F,F,F,F,F,F,F,F] rfl rfl (by kernel_rfl) (fun _ _ _ h => h) (Or.inl ⟨by rfl,?_⟩) ?_ ?_
   rotate_left;(intro w';go_simp;with_reducible rfl);rotate_left;(simp only [pq];rfl)
   refine pure_ (i:=1) (N:=some 6) (v:=?_) (a' := ?_) #[T,T,F,F,F,F,F,F,F,F,F,F,F,F,F,F,F,F,F,F,F,F,F,F] rfl rfl (by kernel_rfl) (fun _ _ _ h => h) (Or.inl ⟨by rfl,?_⟩) ?_ ?_
   rotate_left;(intro w';go_simp;with_reducible rfl);rotate_left;(simp only [pq];rfl)
   refine pure_ (i:=2) (N:=some 7) (v:=?_) (a' := ?_) #[T,T,T,F,F,F,F,F,F,F,F,F,F,F,F,F,F,F,F,F,F,F,F,F] rfl rfl (by kernel_rfl) (fun _ _ _ h => h) (Or.inl ⟨by rfl,?_⟩) ?_ ?_
   rotate_left;(intro w';go_simp;with_reducible rfl);rotate_left;(simp only [pq];rfl)
   refine pure_ (i:=3) (N:=some 8) (v:=undef) (a' := ?_) #[T,T,T,T,F,F,F,F,F,F,F,F,F,F,F,F,F,F,F,F,F,F,F,F] rfl rfl (by kernel_rfl) (fun _ _ _ h => h) (Or.inr ⟨by rfl,rfl⟩) ?_ ?_
   rotate_left
   · simp only [pq]
     rfl
   refine pure_ (i:=4) (N:=some 9) (v:=undef) (a' := ?_) #[T,T,T,T,T,F,F,F,F,F,F,F,F,F,F,F,F,F,F,F,F,F,F,F] rfl rfl (by kernel_rfl) (fun _ _ _ h => h) (Or.inr ⟨by rfl,rfl⟩) ?_ ?_
   rotate_left
   · simp only [pq]
     rfl
   refine pure_ (i:=5) (N:=some 10) (v:=undef) (a' := ?_) #[T,T,T,T,T,T,F,F,F,F,F,F,F,F,F,F,F,F,F,F,F,F,F,F] rfl rfl (by kernel_rfl) (fun _ _ _ h => h) (Or.inr ⟨by rfl,rfl⟩) ?_ ?_
   rotate_left
   · simp only [pq]
     rfl
   refine pure_ (i:=6) (N:=some 11) (v:=undef) (a' := ?_) #[T,T,T,T,T,T,T,F,F,F,F,F,F,F,F,F,F,F,F,F,F,F,F,F] rfl rfl (by kernel_rfl) (fun _ _ _ h => h) (Or.inr ⟨by rfl,rfl⟩) ?_ ?_
   rotate_left
   · simp only [pq]
     rfl
   refine pure_ (i:=7) (N:=some 12) (v:=undef) (a' := ?_) #[T,T,T,T,T,T,T,T,F,F,F,F,F,F,F,F,F,F,F,F,F,F,F,F] rfl rfl (by kernel_rfl) (fun _ _ _ h => h) (Or.inr ⟨by rfl,rfl⟩) ?_ ?_
   rotate_left
   · simp only [pq]
     rfl
   refine pure_ (i:=8) (N:=some 13) (v:=?_) (a' := ?_) #[T,T,T,T,T,T,T,T,T,F,F,F,F,F,F,F,F,F,F,F,F,F,F,F] rfl rfl (by kernel_rfl) (fun _ _ _ h => h) (Or.inl ⟨by rfl,?_⟩) ?_ ?_
   rotate_left;(intro w';go_simp;with_reducible rfl);rotate_left;(simp only [pq];rfl)
   refine pure_ (i:=9) (N:=some 14) (v:=?_) (a' := ?_) #[T,T,T,T,T,T,T,T,T,T,F,F,F,F,F,F,F,F,F,F,F,F,F,F] rfl rfl (by kernel_rfl) (fun _ _ _ h => h) (Or.inl ⟨by rfl,?_⟩) ?_ ?_
   rotate_left;(intro w';go_simp;with_reducible rfl);rotate_left;(simp only [pq];rfl)
   refine pure_ (i:=10) (N:=some 15) (v:=undef) (a' := ?_) #[T,T,T,T,T,T,T,T,T,T,T,F,F,F,F,F,F,F,F,F,F,F,F,F] rfl rfl (by kernel_rfl) (fun _ _ _ h => h) (Or.inr ⟨by rfl,rfl⟩) ?_ ?_
   rotate_left
   · simp only [pq]
     rfl
   refine pure_ (i:=11) (N:=some 16) (v:=undef) (a' := ?_) #[T,T,T,T,T,T,T,T,T,T,T,T,F,F,F,F,F,F,F,F,F,F,F,F] rfl rfl (by kernel_rfl) (fun _ _ _ h => h) (Or.inr ⟨by rfl,rfl⟩) ?_ ?_
   rotate_left
   · simp only [pq]
     rfl
   refine pure_ (i:=12) (N:=some 17) (v:=undef) (a' := ?_) #[T,T,T,T,T,T,T,T,T,T,T,T,T,F,F,F,F,F,F,F,F,F,F,F] rfl rfl (by kernel_rfl) (fun _ _ _ h => h) (Or.inr ⟨by rfl,rfl⟩) ?_ ?_
   rotate_left
   · simp only [pq]
     rfl
   refine pure_ (i:=13) (N:=some 18) (v:=undef) (a' := ?_) #[T,T,T,T,T,T,T,T,T,T,T,T,T,T,F,F,F,F,F,F,F,F,F,F] rfl rfl (by kernel_rfl) (fun _ _ _ h => h) (Or.inr ⟨by rfl,rfl⟩) ?_ ?_
   rotate_left
   · simp only [pq]
     rfl
   refine pure_ (i:=14) (N:=some 19) (v:=undef) (a' := ?_) #[T,T,T,T,T,T,T,T,T,T,T,T,T,T,T,F,F,F,F,F,F,F,F,F] rfl rfl (by kernel_rfl) (fun _ _ _ h => h) (Or.inr ⟨by rfl,rfl⟩) ?_ ?_
   rotate_left
   · simp only [pq]
     rfl
   refine pure_ (i:=15) (N:=some 20) (v:=undef) (a' := ?_) #[T,T,T,T,T,T,T,T,T,T,T,T,T,T,T,T,F,F,F,F,F,F,F,F] rfl rfl (by kernel_rfl) (fun _ _ _ h => h) (Or.inr ⟨by rfl,rfl⟩) ?_ ?_
   rotate_left
   · simp only [pq]
     rfl
   refine pure_ (i:=16) (N:=some 21) (v:=undef) (a' := ?_) #[T,T,T,T,T,T,T,T,T,T,T,T,T,T,T,T,T,F,F,F,F,F,F,F] rfl rfl (by kernel_rfl) (fun _ _ _ h => h) (Or.inr ⟨by rfl,rfl⟩) ?_ ?_
   rotate_left
   · simp only [pq]
     rfl
   refine pure_ (i:=17) (N:=some 22) (v:=undef) (a' := ?_) #[T,T,T,T,T,T,T,T,T,T,T,T,T,T,T,T,T,T,F,F,F,F,F,F] rfl rfl (by kernel_rfl) (fun _ _ _ h => h) (Or.inr ⟨by rfl,rfl⟩) ?_ ?_
   rotate_left
   · simp only [pq]
     rfl
   refine pure_ (i:=18) (N:=some 23) (v:=undef) (a' := ?_) #[T,T,T,T,T,T,T,T,T,T,T,T,T,T,T,T,T,T,T,F,F,F,F,F] rfl rfl (by kernel_rfl) (fun _ _ _ h => h) (Or.inr ⟨by rfl,rfl⟩) ?_ ?_
   rotate_left
   · simp only [pq]
     rfl
   refine pure_ (i:=19) (N:=some 24) (v:=undef) (a' := ?_) #[T,T,T,T,T,T,T,T,T,T,T,T,T,T,T,T,T,T,T,T,F,F,F,F] rfl rfl (by kernel_rfl) (fun _ _ _ h => h) (Or.inr ⟨by rfl,rfl⟩) ?_ ?_
   rotate_left
   · simp only [pq]
     rfl
   refine pure_ (i:=20) (N:=some 25) (v:=undef) (a' := ?_) #[T,T,T,T,T,T,T,T,T,T,T,T,T,T,T,T,T,T,T,T,T,F,F,F] rfl rfl (by kernel_rfl) (fun _ _ _ h => h) (Or.inr ⟨by rfl,rfl⟩) ?_ ?_
   rotate_left
   · simp only [pq]
     rfl
   refine pure_ (i:=21) (N:=some 26) (v:=undef) (a' := ?_) #[T,T,T,T,T,T,T,T,T,T,T,T,T,T,T,T,T,T,T,T,T,T,F,F] rfl rfl (by kernel_rfl) (fun _ _ _ h => h) (Or.inr ⟨by rfl,rfl⟩) ?_ ?_
   rotate_left
   · simp only [pq]
     rfl
   refine pure_ (i:=22) (N:=some 27) (v:=?_) (a' := ?_) #[T,T,T,T,T,T,T,T,T,T,T,T,T,T,T,T,T,T,T,T,T,T,T,F] rfl rfl (by kernel_rfl) (fun _ _ _ h => h) (Or.inl ⟨by rfl,?_⟩) ?_ ?_
   rotate_left;(intro w';go_simp;with_reducible rfl);rotate_left;(simp only [pq];rfl)
   refine pure_ (i:=23) (N:=some 4) (v:=?_) (a' := ?_) #[T,T,T,T,T,T,T,T,T,T,T,T,T,T,T,T,T,T,T,T,T,T,T,T] rfl rfl (by kernel_rfl) (fun _ _ _ h => h) (Or.inl ⟨by rfl,?_⟩) ?_ ?_
   rotate_left;(intro w';go_simp;with_reducible rfl);rotate_left;(simp only [pq];rfl)
   refine done_ (by kernel_rfl) ?_
   go_wp2
   go_ret
   exact ⟨rfl,below_drew1 (Below.refl _ W)⟩
 · have d0 : decide (p < -1) = false:=decide_eq_false c0
   have d1 : decide (-1 ≤ p) = true:=decide_eq_true (by omega)
   rw [d1]
   by_cases c1 : (ps.length : Int) ≤ p
   · have d2 : decide ((ps.length : Int) ≤ p) = true:=decide_eq_true c1
     have d3 : decide (p < (ps.length : Int)) = false:=decide_eq_false (by omega)
     rw [d3]
     generalize ps.length = n4 at h4 d2
     clear hp hS hr c0 c1 d3
     go_enter Try.func40,Try.ntmps40
     go_upto_region 1 with fail
     refine start_ (n:=24) (S:=fun w' => w'.cell? ⟨SB,4,none⟩ = some (.slice A4 n4 c4)) (ds := []) #[F,F,F,F,F,F,F,F,F,F,F,F,F,F,F,F,F,F,F,F,F,F,F,F] (by kernel_rfl) rfl rfl (h4.out) (fun hHeld => ?_)
     refine pure_ (i:=0) (N:=some 5) (v:=?_) (a' := ?_) #[T,F,F,F,F,F,F,F,F,F,F,F,F,F,F,F,F,F,F,F,F,F,F,F] rfl rfl (by kernel_rfl) (fun _ _ _ h => h) (Or.inl ⟨by rfl,?_⟩) ?_ ?_
     rotate_left;(intro w';go_simp;with_reducible rfl);rotate_left;(simp only [pq];rfl)
     refine pure_ (i:=1) (N:=some 6) (v:=?_) (a' := ?_) #[T,T,F,F,F,F,F,F,F,F,F,F,F,F,F,F,F,F,F,F,F,F,F,F] rfl rfl (by kernel_rfl) (fun _ _ _ h => h) (Or.inl ⟨by rfl,?_⟩) ?_ ?_
     rotate_left;(intro w';go_simp;with_reducible rfl);rotate_left;(simp only [pq];rfl)
     refine pure_ (i:=2) (N:=some 7) (v:=?_) (a' := ?_) #[T,T,T,F,F,F,F,F,F,F,F,F,F,F,F,F,F,F,F,F,F,F,F,F] rfl rfl (by kernel_rfl) (fun _ _ _ h => h) (Or.inl ⟨by rfl,?_⟩) ?_ ?_
     rotate_left;(intro w';go_simp;with_reducible rfl);rotate_left;(simp only [pq];rfl)
     refine pure_ (i:=3) (N:=some 8) (v:=?_) (a' := ?_) #[T,T,T,T,F,F,F,F,F,F,F,F,F,F,F,F,F,F,F,F,F,F,F,F] rfl rfl (by kernel_rfl) (fun _ _ _ h => h) (Or.inl ⟨by rfl,?_⟩) ?_ ?_
     rotate_left;(intro w';go_simp;with_reducible rfl);rotate_left;(simp only [pq];rfl)
     refine pure_ (i:=4) (N:=some 9) (v:=?_) (a' := ?_) #[T,T,T,T,T,F,F,F,F,F,F,F,F,F,F,F,F,F,F,F,F,F,F,F] rfl rfl (by kernel_rfl) (fun _ _ _ h => h) (Or.inl ⟨by rfl,?_⟩) ?_ ?_
     rotate_left;(intro w';go_simp;with_reducible rfl);rotate_left;(simp only [pq];rfl)
     refine take_ (i:=5) (N:=some 10) (v:=?_) (a' := ?_) #[T,T,T,T,T,T,F,F,F,F,F,F,F,F,F,F,F,F,F,F,F,F,F,F] rfl rfl (by kernel_rfl) (fun _ _ _ h => h) (Or.inl ⟨by rfl,?_⟩) hHeld ?_ ?_
     rotate_left
     · intro w' s0
       go_simp
       with_reducible rfl
     rotate_left
     · simp only [pq]
       rfl
     refine pure_ (i:=6) (N:=some 11) (v:=?_) (a' := ?_) #[T,T,T,T,T,T,T,F,F,F,F,F,F,F,F,F,F,F,F,F,F,F,F,F] rfl rfl (by kernel_rfl) (fun _ _ _ h => h) (Or.inl ⟨by rfl,?_⟩) ?_ ?_
     rotate_left;(intro w';go_simp;with_reducible rfl);rotate_left;(simp only [pq];rfl)
     refine pure_ (i:=7) (N:=some 12) (v:=?_) (a' := ?_) #[T,T,T,T,T,T,T,T,F,F,F,F,F,F,F,F,F,F,F,F,F,F,F,F] rfl rfl (by kernel_rfl) (fun _ _ _ h => h) (Or.inl ⟨by rfl,?_⟩) ?_ ?_
     rotate_left;(intro w';go_simp;with_reducible rfl);rotate_left;(simp only [pq];rfl)
     refine pure_ (i:=8) (N:=some 13) (v:=?_) (a' := ?_) #[T,T,T,T,T,T,T,T,T,F,F,F,F,F,F,F,F,F,F,F,F,F,F,F] rfl rfl (by kernel_rfl) (fun _ _ _ h => h) (Or.inl ⟨by rfl,?_⟩) ?_ ?_
     rotate_left;(intro w';go_simp;with_reducible rfl);rotate_left;(simp only [pq];rfl)
     refine pure_ (i:=9) (N:=some 14) (v:=?_) (a' := ?_) #[T,T,T,T,T,T,T,T,T,T,F,F,F,F,F,F,F,F,F,F,F,F,F,F] rfl rfl (by kernel_rfl) (fun _ _ _ h => h) (Or.inl ⟨by rfl,?_⟩) ?_ ?_
     rotate_left;(intro w';go_simp;with_reducible rfl);rotate_left;(simp only [pq];rfl)
     refine pure_ (i:=10) (N:=some 15) (v:=undef) (a' := ?_) #[T,T,T,T,T,T,T,T,T,T,T,F,F,F,F,F,F,F,F,F,F,F,F,F] rfl rfl (by kernel_rfl) (fun _ _ _ h => h) (Or.inr ⟨by rfl,rfl⟩) ?_ ?_
     rotate_left
     · simp only [pq]
       rfl
     refine pure_ (i:=11) (N:=some 16) (v:=undef) (a' := ?_) #[T,T,T,T,T,T,T,T,T,T,T,T,F,F,F,F,F,F,F,F,F,F,F,F] rfl rfl (by kernel_rfl) (fun _ _ _ h => h) (Or.inr ⟨by rfl,rfl⟩) ?_ ?_
     rotate_left
     · simp only [pq]
       rfl
     refine pure_ (i:=12) (N:=some 17) (v:=undef) (a' := ?_) #[T,T,T,T,T,T,T,T,T,T,T,T,T,F,F,F,F,F,F,F,F,F,F,F] rfl rfl (by kernel_rfl) (fun _ _ _ h => h) (Or.inr ⟨by rfl,rfl⟩) ?_ ?_
     rotate_left
     · simp only [pq]
       rfl
     refine pure_ (i:=13) (N:=some 18) (v:=undef) (a' := ?_) #[T,T,T,T,T,T,T,T,T,T,T,T,T,T,F,F,F,F,F,F,F,F,F,F] rfl rfl (by kernel_rfl) (fun _ _ _ h => h) (Or.inr ⟨by rfl,rfl⟩) ?_ ?_
     rotate_left
     · simp only [pq]
       rfl
     refine pure_ (i:=14) (N:=some 19) (v:=undef) (a' := ?_) #[T,T,T,T,T,T,T,T,T,T,T,T,T,T,T,F,F,F,F,F,F,F,F,F] rfl rfl (by kernel_rfl) (fun _ _ _ h => h) (Or.inr ⟨by rfl,rfl⟩) ?_ ?_
     rotate_left
     · simp only [pq]
       rfl
     refine pure_ (i:=15) (N:=some 20) (v:=undef) (a' := ?_) #[T,T,T,T,T,T,T,T,T,T,T,T,T,T,T,T,F,F,F,F,F,F,F,F] rfl rfl (by kernel_rfl) (fun _ _ _ h => h) (Or.inr ⟨by rfl,rfl⟩) ?_ ?_
     rotate_left
     · simp only [pq]
       rfl
     refine pure_ (i:=16) (N:=some 21) (v:=undef) (a' := ?_) #[T,T,T,T,T,T,T,T,T,T,T,T,T,T,T,T,T,F,F,F,F,F,F,F] rfl rfl (by kernel_rfl) (fun _ _ _ h => h) (Or.inr ⟨by rfl,rfl⟩) ?_ ?_
     rotate_left
     · simp only [pq]
       rfl
     refine pure_ (i:=17) (N:=some 22) (v:=undef) (a' := ?_) #[T,T,T,T,T,T,T,T,T,T,T,T,T,T,T,T,T,T,F,F,F,F,F,F] rfl rfl (by kernel_rfl) (fun _ _ _ h => h) (Or.inr ⟨by rfl,rfl⟩) ?_ ?_
     rotate_left
     · simp only [pq]
       rfl
     refine pure_ (i:=18) (N:=some 23) (v:=undef) (a' := ?_) #[T,T,T,T,T,T,T,T,T,T,T,T,T,T,T,T,T,T,T,F,F,F,F,F] rfl rfl (by kernel_rfl) (fun _ _ _ h => h) (Or.inr ⟨by rfl,rfl⟩) ?_ ?_
     rotate_left
     · simp only [pq]
       rfl
     refine pure_ (i:=19) (N:=some 24) (v:=undef) (a' := ?_) #[T,T,T,T,T,T,T,T,T,T,T,T,T,T,T,T,T,T,T,T,F,F,F,F] rfl rfl (by kernel_rfl) (fun _ _ _ h => h) (Or.inr ⟨by rfl,rfl⟩) ?_ ?_
     rotate_left
     · simp only [pq]
       rfl
     refine pure_ (i:=20) (N:=some 25) (v:=undef) (a' := ?_) #[T,T,T,T,T,T,T,T,T,T,T,T,T,T,T,T,T,T,T,T,T,F,F,F] rfl rfl (by kernel_rfl) (fun _ _ _ h => h) (Or.inr ⟨by rfl,rfl⟩) ?_ ?_
     rotate_left
     · simp only [pq]
       rfl
     refine pure_ (i:=21) (N:=some 26) (v:=undef) (a' := ?_) #[T,T,T,T,T,T,T,T,T,T,T,T,T,T,T,T,T,T,T,T,T,T,F,F] rfl rfl (by kernel_rfl) (fun _ _ _ h => h) (Or.inr ⟨by rfl,rfl⟩) ?_ ?_
     rotate_left
     · simp only [pq]
       rfl
     refine pure_ (i:=22) (N:=some 27) (v:=?_) (a' := ?_) #[T,T,T,T,T,T,T,T,T,T,T,T,T,T,T,T,T,T,T,T,T,T,T,F] rfl rfl (by kernel_rfl) (fun _ _ _ h => h) (Or.inl ⟨by rfl,?_⟩) ?_ ?_
     rotate_left;(intro w';go_simp;with_reducible rfl);rotate_left;(simp only [pq];rfl)
     refine pure_ (i:=23) (N:=some 4) (v:=?_) (a' := ?_) #[T,T,T,T,T,T,T,T,T,T,T,T,T,T,T,T,T,T,T,T,T,T,T,T] rfl rfl (by kernel_rfl) (fun _ _ _ h => h) (Or.inl ⟨by rfl,?_⟩) ?_ ?_
     rotate_left;(intro w';go_simp;with_reducible rfl);rotate_left;(simp only [pq];rfl)
     refine done_ (by kernel_rfl) ?_
     go_wp2
     go_ret
     exact ⟨rfl,below_drew1 (Below.refl _ W)⟩
   · have d2 : decide ((ps.length : Int) ≤ p) = false:=decide_eq_false c1
     have d3 : decide (p < (ps.length : Int)) = true:=decide_eq_true (by omega)
     rw [d3]
     by_cases c2 : p < 0
     · have d4 : decide (p < 0) = true:=decide_eq_true c2
       have d5 : decide (0 ≤ p) = false:=decide_eq_false (by omega)
       rw [d4]
       generalize ps.length = n4 at h4 d2
       clear hp hS hr c0 c1 d3 c2 d4
       go_enter Try.func40,Try.ntmps40
       go_upto_region 1 with fail
       refine start_ (n:=24) (S:=fun w' => w'.cell? ⟨SB,4,none⟩ = some (.slice A4 n4 c4)) (ds := []) #[F,F,F,F,F,F,F,F,F,F,F,F,F,F,F,F,F,F,F,F,F,F,F,F] (by kernel_rfl) rfl rfl (h4.out) (fun hHeld => ?_)
       refine pure_ (i:=0) (N:=some 5) (v:=?_) (a' := ?_) #[T,F,F,F,F,F,F,F,F,F,F,F,F,F,F,F,F,F,F,F,F,F,F,F] rfl rfl (by kernel_rfl) (fun _ _ _ h => h) (Or.inl ⟨by rfl,?_⟩) ?_ ?_
       rotate_left;(intro w';go_simp;with_reducible rfl);rotate_left;(simp only [pq];rfl)
       refine pure_ (i:=1) (N:=some 6) (v:=?_) (a' := ?_) #[T,T,F,F,F,F,F,F,F,F,F,F,F,F,F,F,F,F,F,F,F,F,F,F] rfl rfl (by kernel_rfl) (fun _ _ _ h => h) (Or.inl ⟨by rfl,?_⟩) ?_ ?_
       rotate_left;(intro w';go_simp;with_reducible rfl);rotate_left;(simp only [pq];rfl)
       refine pure_ (i:=2) (N:=some 7) (v:=?_) (a' := ?_) #[T,T,T,F,F,F,F,F,F,F,F,F,F,F,F,F,F,F,F,F,F,F,F,F] rfl rfl (by kernel_rfl) (fun _ _ _ h => h) (Or.inl ⟨by rfl,?_⟩) ?_ ?_
       rotate_left;(intro w';go_simp;with_reducible rfl);rotate_left;(simp only [pq];rfl)
       refine pure_ (i:=3) (N:=some 8) (v:=?_) (a' := ?_) #[T,T,T,T,F,F,F,F,F,F,F,F,F,F,F,F,F,F,F,F,F,F,F,F] rfl rfl (by kernel_rfl) (fun _ _ _ h => h) (Or.inl ⟨by rfl,?_⟩) ?_ ?_
       rotate_left;(intro w';go_simp;with_reducible rfl);rotate_left;(simp only [pq];rfl)
       refine pure_ (i:=4) (N:=some 9) (v:=?_) (a' := ?_) #[T,T,T,T,T,F,F,F,F,F,F,F,F,F,F,F,F,F,F,F,F,F,F,F] rfl rfl (by kernel_rfl) (fun _ _ _ h => h) (Or.inl ⟨by rfl,?_⟩) ?_ ?_
       rotate_left;(intro w';go_simp;with_reducible rfl);rotate_left;(simp only [pq];rfl)
       refine take_ (i:=5) (N:=some 10) (v:=?_) (a' := ?_) #[T,T,T,T,T,T,F,F,F,F,F,F,F,F,F,F,F,F,F,F,F,F,F,F] rfl rfl (by kernel_rfl) (fun _ _ _ h => h) (Or.inl ⟨by rfl,?_⟩) hHeld ?_ ?_
       rotate_left
       · intro w' s0
         go_simp
         with_reducible rfl
       rotate_left
       · simp only [pq]
         rfl
       refine pure_ (i:=6) (N:=some 11) (v:=?_) (a' := ?_) #[T,T,T,T,T,T,T,F,F,F,F,F,F,F,F,F,F,F,F,F,F,F,F,F] rfl rfl (by kernel_rfl) (fun _ _ _ h => h) (Or.inl ⟨by rfl,?_⟩) ?_ ?_
       rotate_left;(intro w';go_simp;with_reducible rfl);rotate_left;(simp only [pq];rfl)
       refine pure_ (i:=7) (N:=some 12) (v:=?_) (a' := ?_) #[T,T,T,T,T,T,T,T,F,F,F,F,F,F,F,F,F,F,F,F,F,F,F,F] rfl rfl (by kernel_rfl) (fun _ _ _ h => h) (Or.inl ⟨by rfl,?_⟩) ?_ ?_
       rotate_left;(intro w';go_simp;with_reducible rfl);rotate_left;(simp only [pq];rfl)
       refine pure_ (i:=8) (N:=some 13) (v:=?_) (a' := ?_) #[T,T,T,T,T,T,T,T,T,F,F,F,F,F,F,F,F,F,F,F,F,F,F,F] rfl rfl (by kernel_rfl) (fun _ _ _ h => h) (Or.inl ⟨by rfl,?_⟩) ?_ ?_
       rotate_left;(intro w';go_simp;with_reducible rfl);rotate_left;(simp only [pq];rfl)
       refine pure_ (i:=9) (N:=some 14) (v:=?_) (a' := ?_) #[T,T,T,T,T,T,T,T,T,T,F,F,F,F,F,F,F,F,F,F,F,F,F,F] rfl rfl (by kernel_rfl) (fun _ _ _ h => h) (Or.inl ⟨by rfl,?_⟩) ?_ ?_
       rotate_left;(intro w';go_simp;with_reducible rfl);rotate_left;(simp only [pq];rfl)
       refine pure_ (i:=10) (N:=some 15) (v:=?_) (a' := ?_) #[T,T,T,T,T,T,T,T,T,T,T,F,F,F,F,F,F,F,F,F,F,F,F,F] rfl rfl (by kernel_rfl) (fun _ _ _ h => h) (Or.inl ⟨by rfl,?_⟩) ?_ ?_
       rotate_left;(intro w';go_simp;with_reducible rfl);rotate_left;(simp only [pq];rfl)
       refine pure_ (i:=11) (N:=some 16) (v:=?_) (a' := ?_) #[T,T,T,T,T,T,T,T,T,T,T,T,F,F,F,F,F,F,F,F,F,F,F,F] rfl rfl (by kernel_rfl) (fun _ _ _ h => h) (Or.inl ⟨by rfl,?_⟩) ?_ ?_
       rotate_left;(intro w';go_simp;with_reducible rfl);rotate_left;(simp only [pq];rfl)
       refine pure_ (i:=12) (N:=some 17) (v:=?_) (a' := ?_) #[T,T,T,T,T,T,T,T,T,T,T,T,T,F,F,F,F,F,F,F,F,F,F,F] rfl rfl (by kernel_rfl) (fun _ _ _ h => h) (Or.inl ⟨by rfl,?_⟩) ?_ ?_
       rotate_left;(intro w';go_simp;with_reducible rfl);rotate_left;(simp only [pq];rfl)
       refine pure_ (i:=13) (N:=some 18) (v:=undef) (a' := ?_) #[T,T,T,T,T,T,T,T,T,T,T,T,T,T,F,F,F,F,F,F,F,F,F,F] rfl rfl (by kernel_rfl) (fun _ _ _ h => h) (Or.inr ⟨by rfl,rfl⟩) ?_ ?_
       rotate_left
       · simp only [pq]
         rfl
       refine pure_ (i:=14) (N:=some 19) (v:=undef) (a' := ?_) #[T,T,T,T,T,T,T,T,T,T,T,T,T,T,T,F,F,F,F,F,F,F,F,F] rfl rfl (by kernel_rfl) (fun _ _ _ h => h) (Or.inr ⟨by rfl,rfl⟩) ?_ ?_
       rotate_left
       · simp only [pq]
         rfl
       refine pure_ (i:=15) (N:=some 20) (v:=undef) (a' := ?_) #[T,T,T,T,T,T,T,T,T,T,T,T,T,T,T,T,F,F,F,F,F,F,F,F] rfl rfl (by kernel_rfl) (fun _ _ _ h => h) (Or.inr ⟨by rfl,rfl⟩) ?_ ?_
       rotate_left
       · simp only [pq]
         rfl
       refine pure_ (i:=16) (N:=some 21) (v:=undef) (a' := ?_) #[T,T,T,T,T,T,T,T,T,T,T,T,T,T,T,T,T,F,F,F,F,F,F,F] rfl rfl (by kernel_rfl) (fun _ _ _ h => h) (Or.inr ⟨by rfl,rfl⟩) ?_ ?_
       rotate_left
       · simp only [pq]
         rfl
       refine pure_ (i:=17) (N:=some 22) (v:=undef) (a' := ?_) #[T,T,T,T,T,T,T,T,T,T,T,T,T,T,T,T,T,T,F,F,F,F,F,F] rfl rfl (by kernel_rfl) (fun _ _ _ h => h) (Or.inr ⟨by rfl,rfl⟩) ?_ ?_
       rotate_left
       · simp only [pq]
         rfl
       refine pure_ (i:=18) (N:=some 23) (v:=undef) (a' := ?_) #[T,T,T,T,T,T,T,T,T,T,T,T,T,T,T,T,T,T,T,F,F,F,F,F] rfl rfl (by kernel_rfl) (fun _ _ _ h => h) (Or.inr ⟨by rfl,rfl⟩) ?_ ?_
       rotate_left
       · simp only [pq]
         rfl
       refine pure_ (i:=19) (N:=some 24) (v:=undef) (a' := ?_) #[T,T,T,T,T,T,T,T,T,T,T,T,T,T,T,T,T,T,T,T,F,F,F,F] rfl rfl (by kernel_rfl) (fun _ _ _ h => h) (Or.inr ⟨by rfl,rfl⟩) ?_ ?_
       rotate_left
       · simp only [pq]
         rfl
       refine pure_ (i:=20) (N:=some 25) (v:=undef) (a' := ?_) #[T,T,T,T,T,T,T,T,T,T,T,T,T,T,T,T,T,T,T,T,T,F,F,F] rfl rfl (by kernel_rfl) (fun _ _ _ h => h) (Or.inr ⟨by rfl,rfl⟩) ?_ ?_
       rotate_left
       · simp only [pq]
         rfl
       refine pure_ (i:=21) (N:=some 26) (v:=?_) (a' := ?_) #[T,T,T,T,T,T,T,T,T,T,T,T,T,T,T,T,T,T,T,T,T,T,F,F] rfl rfl (by kernel_rfl) (fun _ _ _ h => h) (Or.inl ⟨by rfl,?_⟩) ?_ ?_
       rotate_left;(intro w';go_simp;with_reducible rfl);rotate_left;(simp only [pq];rfl)
       refine pure_ (i:=22) (N:=some 27) (v:=?_) (a' := ?_) #[T,T,T,T,T,T,T,T,T,T,T,T,T,T,T,T,T,T,T,T,T,T,T,F] rfl rfl (by kernel_rfl) (fun _ _ _ h => h) (Or.inl ⟨by rfl,?_⟩) ?_ ?_
       rotate_left;(intro w';go_simp;with_reducible rfl);rotate_left;(simp only [pq];rfl)
       refine pure_ (i:=23) (N:=some 4) (v:=?_) (a' := ?_) #[T,T,T,T,T,T,T,T,T,T,T,T,T,T,T,T,T,T,T,T,T,T,T,T] rfl rfl (by kernel_rfl) (fun _ _ _ h => h) (Or.inl ⟨by rfl,?_⟩) ?_ ?_
       rotate_left;(intro w';go_simp;with_reducible rfl);rotate_left;(simp only [pq];rfl)
       refine done_ (by kernel_rfl) ?_
       go_wp2
       go_ret
       exact ⟨rfl,below_drew1 (Below.refl _ W)⟩
     · have d4 : decide (p < 0) = false:=decide_eq_false c2
       have d5 : decide (0 ≤ p) = true:=decide_eq_true (by omega)
       rw [d4]
       have b0 : (0 ≤ p) = True:=eq_true (by omega)
       have b1 : (p < (ps.length : Int)) = True:=eq_true (by omega)
       obtain ⟨ad,A1,c1_,e,e0,_,_,_⟩ := at_T35 hp p (by omega) (by omega)
       generalize (rd_T35 ps p).f0 = pl at e0 ⊢
       have E0:=Aside0.mk e0
       subst e
       generalize ps.length = n4 at h4 d2 b1
       clear hp hS hr c0 c1 d3 c2 d4 e0
       go_enter Try.func40,Try.ntmps40
       go_upto_region 1 with fail
       refine start_ (n:=24) (S:=fun w' => w'.cell? ⟨SB,4,none⟩ = some (.slice (some ad) n4 c4) ∧ w'.cell? ⟨RB,0,none⟩ = some (.int .i64 r) ∧ w'.cell? (ad.add (p.toNat * 2)) = some (.int .i64 pl)) (ds := []) #[F,F,F,F,F,F,F,F,F,F,F,F,F,F,F,F,F,F,F,F,F,F,F,F] (by kernel_rfl) rfl rfl ⟨h4.out,hR.out,E0.out⟩ (fun hHeld => ?_)
       refine pure_ (i:=0) (N:=some 5) (v:=?_) (a' := ?_) #[T,F,F,F,F,F,F,F,F,F,F,F,F,F,F,F,F,F,F,F,F,F,F,F] rfl rfl (by kernel_rfl) (fun _ _ _ h => h) (Or.inl ⟨by rfl,?_⟩) ?_ ?_
       rotate_left;(intro w';go_simp;with_reducible rfl);rotate_left;(simp only [pq];rfl)
       refine pure_ (i:=1) (N:=some 6) (v:=?_) (a' := ?_) #[T,T,F,F,F,F,F,F,F,F,F,F,F,F,F,F,F,F,F,F,F,F,F,F] rfl rfl (by kernel_rfl) (fun _ _ _ h => h) (Or.inl ⟨by rfl,?_⟩) ?_ ?_
       rotate_left;(intro w';go_simp;with_reducible rfl);rotate_left;(simp only [pq];rfl)
       refine pure_ (i:=2) (N:=some 7) (v:=?_) (a' := ?_) #[T,T,T,F,F,F,F,F,F,F,F,F,F,F,F,F,F,F,F,F,F,F,F,F] rfl rfl (by kernel_rfl) (fun _ _ _ h => h) (Or.inl ⟨by rfl,?_⟩) ?_ ?_
       rotate_left;(intro w';go_simp;with_reducible rfl);rotate_left;(simp only [pq];rfl)
       refine pure_ (i:=3) (N:=some 8) (v:=?_) (a' := ?_) #[T,T,T,T,F,F,F,F,F,F,F,F,F,F,F,F,F,F,F,F,F,F,F,F] rfl rfl (by kernel_rfl) (fun _ _ _ h => h) (Or.inl ⟨by rfl,?_⟩) ?_ ?_
       rotate_left;(intro w';go_simp;with_reducible rfl);rotate_left;(simp only [pq];rfl)
       refine pure_ (i:=4) (N:=some 9) (v:=?_) (a' := ?_) #[T,T,T,T,T,F,F,F,F,F,F,F,F,F,F,F,F,F,F,F,F,F,F,F] rfl rfl (by kernel_rfl) (fun _ _ _ h => h) (Or.inl ⟨by rfl,?_⟩) ?_ ?_
       rotate_left;(intro w';go_simp;with_reducible rfl);rotate_left;(simp only [pq];rfl)
       refine take_ (i:=5) (N:=some 10) (v:=?_) (a' := ?_) #[T,T,T,T,T,T,F,F,F,F,F,F,F,F,F,F,F,F,F,F,F,F,F,F] rfl rfl (by kernel_rfl) (fun _ _ _ h => h) (Or.inl ⟨by rfl,?_⟩) hHeld ?_ ?_
       rotate_left
       · rintro w' ⟨s0,s1,s2⟩
         go_simp
         with_reducible rfl
       rotate_left
       · simp only [pq]
         rfl
       refine pure_ (i:=6) (N:=some 11) (v:=?_) (a' := ?_) #[T,T,T,T,T,T,T,F,F,F,F,F,F,F,F,F,F,F,F,F,F,F,F,F] rfl rfl (by kernel_rfl) (fun _ _ _ h => h) (Or.inl ⟨by rfl,?_⟩) ?_ ?_
       rotate_left;(intro w';go_simp;with_reducible rfl);rotate_left;(simp only [pq];rfl)
       refine pure_ (i:=7) (N:=some 12) (v:=?_) (a' := ?_) #[T,T,T,T,T,T,T,T,F,F,F,F,F,F,F,F,F,F,F,F,F,F,F,F] rfl rfl (by kernel_rfl) (fun _ _ _ h => h) (Or.inl ⟨by rfl,?_⟩) ?_ ?_
       rotate_left;(intro w';go_simp;with_reducible rfl);rotate_left;(simp only [pq];rfl)
       refine pure_ (i:=8) (N:=some 13) (v:=?_) (a' := ?_) #[T,T,T,T,T,T,T,T,T,F,F,F,F,F,F,F,F,F,F,F,F,F,F,F] rfl rfl (by kernel_rfl) (fun _ _ _ h => h) (Or.inl ⟨by rfl,?_⟩) ?_ ?_
       rotate_left;(intro w';go_simp;with_reducible rfl);rotate_left;(simp only [pq];rfl)
       refine pure_ (i:=9) (N:=some 14) (v:=?_) (a' := ?_) #[T,T,T,T,T,T,T,T,T,T,F,F,F,F,F,F,F,F,F,F,F,F,F,F] rfl rfl (by kernel_rfl) (fun _ _ _ h => h) (Or.inl ⟨by rfl,?_⟩) ?_ ?_
       rotate_left;(intro w';go_simp;with_reducible rfl);rotate_left;(simp only [pq];rfl)
       refine pure_ (i:=10) (N:=some 15) (v:=?_) (a' := ?_) #[T,T,T,T,T,T,T,T,T,T,T,F,F,F,F,F,F,F,F,F,F,F,F,F] rfl rfl (by kernel_rfl) (fun _ _ _ h => h) (Or.inl ⟨by rfl,?_⟩) ?_ ?_
       rotate_left;(intro w';go_simp;with_reducible rfl);rotate_left;(simp only [pq];rfl)
       refine pure_ (i:=11) (N:=some 16) (v:=?_) (a' := ?_) #[T,T,T,T,T,T,T,T,T,T,T,T,F,F,F,F,F,F,F,F,F,F,F,F] rfl rfl (by kernel_rfl) (fun _ _ _ h => h) (Or.inl ⟨by rfl,?_⟩) ?_ ?_
       rotate_left;(intro w';go_simp;with_reducible rfl);rotate_left;(simp only [pq];rfl)
       refine pure_ (i:=12) (N:=some 17) (v:=?_) (a' := ?_) #[T,T,T,T,T,T,T,T,T,T,T,T,T,F,F,F,F,F,F,F,F,F,F,F] rfl rfl (by kernel_rfl) (fun _ _ _ h => h) (Or.inl ⟨by rfl,?_⟩) ?_ ?_
       rotate_left;(intro w';go_simp;with_reducible rfl);rotate_left;(simp only [pq];rfl)
       refine pure_ (i:=13) (N:=some 18) (v:=?_) (a' := ?_) #[T,T,T,T,T,T,T,T,T,T,T,T,T,T,F,F,F,F,F,F,F,F,F,F] rfl rfl (by kernel_rfl) (fun _ _ _ h => h) (Or.inl ⟨by rfl,?_⟩) ?_ ?_
       rotate_left;(intro w';go_simp;with_reducible rfl);rotate_left;(simp only [pq];rfl)
       refine pure_ (i:=15) (N:=some 20) (v:=?_) (a' := ?_) #[T,T,T,T,T,T,T,T,T,T,T,T,T,T,F,T,F,F,F,F,F,F,F,F] rfl rfl (by kernel_rfl) (fun _ _ _ h => h) (Or.inl ⟨by rfl,?_⟩) ?_ ?_
       rotate_left;(intro w';go_simp;with_reducible rfl);rotate_left;(simp only [pq];rfl)
       refine take_ (i:=14) (N:=some 19) (v:=?_) (a' := ?_) #[T,T,T,T,T,T,T,T,T,T,T,T,T,T,T,T,F,F,F,F,F,F,F,F] rfl rfl (by kernel_rfl) (fun _ _ _ h => h) (Or.inl ⟨by rfl,?_⟩) hHeld ?_ ?_
       rotate_left
       · rintro w' ⟨s0,s1,s2⟩
         go_simp
         with_reducible rfl
       rotate_left
       · simp only [pq]
         rfl
       refine pure_ (i:=16) (N:=some 21) (v:=?_) (a' := ?_) #[T,T,T,T,T,T,T,T,T,T,T,T,T,T,T,T,T,F,F,F,F,F,F,F] rfl rfl (by kernel_rfl) (fun _ _ _ h => h) (Or.inl ⟨by rfl,?_⟩) ?_ ?_
       rotate_left;(intro w';go_simp;with_reducible rfl);rotate_left;(simp only [pq];rfl)
       refine pure_ (i:=17) (N:=some 22) (v:=?_) (a' := ?_) #[T,T,T,T,T,T,T,T,T,T,T,T,T,T,T,T,T,T,F,F,F,F,F,F] rfl rfl (by kernel_rfl) (fun _ _ _ h => h) (Or.inl ⟨by rfl,?_⟩) ?_ ?_
       rotate_left;(intro w';go_simp;with_reducible rfl);rotate_left;(simp only [pq];rfl)
       refine take_ (i:=18) (N:=some 23) (v:=?_) (a' := ?_) #[T,T,T,T,T,T,T,T,T,T,T,T,T,T,T,T,T,T,T,F,F,F,F,F] rfl rfl (by kernel_rfl) (fun _ _ _ h => h) (Or.inl ⟨by rfl,?_⟩) hHeld ?_ ?_
       rotate_left
       · rintro w' ⟨s0,s1,s2⟩
         go_simp
         with_reducible rfl
       rotate_left
       · simp only [pq]
         rfl
       refine take_ (i:=19) (N:=some 24) (v:=?_) (a' := ?_) #[T,T,T,T,T,T,T,T,T,T,T,T,T,T,T,T,T,T,T,T,F,F,F,F] rfl rfl (by kernel_rfl) (fun _ _ _ h => h) (Or.inl ⟨by rfl,?_⟩) hHeld ?_ ?_
       rotate_left
       · rintro w' ⟨s0,s1,s2⟩
         go_simp
         with_reducible rfl
       rotate_left
       · simp only [pq]
         rfl
       refine pure_ (i:=20) (N:=some 25) (v:=?_) (a' := ?_) #[T,T,T,T,T,T,T,T,T,T,T,T,T,T,T,T,T,T,T,T,T,F,F,F] rfl rfl (by kernel_rfl) (fun _ _ _ h => h) (Or.inl ⟨by rfl,?_⟩) ?_ ?_
       rotate_left;(intro w';go_simp;with_reducible rfl);rotate_left;(simp only [pq];rfl)
       refine pure_ (i:=21) (N:=some 26) (v:=?_) (a' := ?_) #[T,T,T,T,T,T,T,T,T,T,T,T,T,T,T,T,T,T,T,T,T,T,F,F] rfl rfl (by kernel_rfl) (fun _ _ _ h => h) (Or.inl ⟨by rfl,?_⟩) ?_ ?_
       rotate_left;(intro w';go_simp;with_reducible rfl);rotate_left;(simp only [pq];rfl)
       refine pure_ (i:=22) (N:=some 27) (v:=?_) (a' := ?_) #[T,T,T,T,T,T,T,T,T,T,T,T,T,T,T,T,T,T,T,T,T,T,T,F] rfl rfl (by kernel_rfl) (fun _ _ _ h => h) (Or.inl ⟨by rfl,?_⟩) ?_ ?_
       rotate_left;(intro w';go_simp;with_reducible rfl);rotate_left;(simp only [pq];rfl)
       refine pure_ (i:=23) (N:=some 4) (v:=?_) (a' := ?_) #[T,T,T,T,T,T,T,T,T,T,T,T,T,T,T,T,T,T,T,T,T,T,T,T] rfl rfl (by kernel_rfl) (fun _ _ _ h => h) (Or.inl ⟨by rfl,?_⟩) ?_ ?_
       rotate_left;(intro w';go_simp;with_reducible rfl);rotate_left;(simp only [pq];rfl)
       refine done_ (by kernel_rfl) ?_
       go_wp2
       go_ret
       exact ⟨by by_cases h : pl = r <;> simp [h],below_drew1 (Below.refl _ W)⟩
def rowsOk (nt : Nat) (ps : List S35) : Nat → List (List Int) → Bool
  | _,[] => true
  | r,row :: t => decide (row.length = nt + 1) && row.all (okEnt ps (r : Int)) && rowsOk nt ps (r + 1) t
def tbRight (nn nt : Nat) (ps : List S35) (tb : List (List Int)) : Bool:=ps.all (okProd nn nt) && (!decide (nn = 0) && (decide (tb.length = nn) && rowsOk nt ps 0 tb))
theorem at_rowi {w : World} {A : Option Addr} {n : Nat} {xs : List (List Int)} (h : Kd.C (Kd.slice 3 (Kd.int .i64)) w A n xs) (i : Int) (h0 : 0 ≤ i) (h1 : i < n) : ∃ ad A0 c0,A = some ad ∧ w.cell? (ad.add i.toNat) = some (.slice A0 (xs.getD i.toNat []).length c0) ∧ (xs.getD i.toNat []).length ≤ c0 ∧ (Kd.int .i64).C w A0 (xs.getD i.toNat []).length (xs.getD i.toNat []) := by
 obtain ⟨ad,c,e,_,hK,hc0⟩ := Kd.C_get h ([] : List Int) i h0 h1
 have hc : ∀ j u,c[j]? = some u → w.cell? (ad.add (i.toNat * 1 + j)) = some u:=hc0
 obtain ⟨A0,c0,rfl,l0,g0⟩ := hK
 exact ⟨ad,A0,c0,e,by have hq:=hc 0 _ rfl;rwa [Nat.mul_one,Nat.add_zero] at hq,l0,g0⟩
theorem any_not' {α : Type} (p : α → Bool) (l : List α) : (l.any fun x => !p x) = !l.all p:=by rw [← any_not];simp
def machine_Right.f (l0_0 : List ByteArray) (l0_1 : List (S72)) (a0_2 : Int) (a0_3 : Int) (l0_4 : List (S35)) (l1 : List (List Int)) : Option Bool:=if l0_1.length ≤ 1000000000 ∧ l1.length ≤ 1000000000 ∧ l0_4.length ≤ 1000000000 ∧ l0_4.all (fun p => decide (p.f1.length ≤ 9223372036854775807)) = true ∧ l1.all (fun p => decide (p.length ≤ 9223372036854775807)) = true then some (tbRight l0_0.length l0_1.length l0_4 l1) else none
set_option maxHeartbeats 4000000 in
set_option maxRecDepth 100000 in
theorem machine_Right.calls (A0_0 : Option Addr) (c0_0 : Nat) (l0_0 : List ByteArray) (A0_1 : Option Addr) (c0_1 : Nat) (l0_1 : List (S72)) (a0_2 : Int) (a0_3 : Int) (A0_4 : Option Addr) (c0_4 : Nat) (l0_4 : List (S35)) (A1 : Option Addr) (c1 : Nat) (l1 : List (List Int)) (r : Bool) (w : World)
    (hr0_0 : Kd.C Kd.string w A0_0 l0_0.length l0_0) (hc0_0 : l0_0.length ≤ c0_0) (hr0_1 : Kd.C k72 w A0_1 l0_1.length l0_1) (hc0_1 : l0_1.length ≤ c0_1) (hr0_4 : Kd.C k35 w A0_4 l0_4.length l0_4) (hc0_4 : l0_4.length ≤ c0_4) (hr1 : Kd.C (Kd.slice 3 (Kd.int .i64)) w A1 l1.length l1) (hc1 : l1.length ≤ c1)
    (h : machine_Right.f l0_0 l0_1 a0_2 a0_3 l0_4 l1 = some r) :
    Calls Try.prog 25 #[.agg #[.slice A0_0 l0_0.length c0_0,.slice A0_1 l0_1.length c0_1,.int .i64 a0_2,.int .i64 a0_3,.slice A0_4 l0_4.length c0_4],.slice A1 l1.length c1] w fun e w' => e = .returned (.bool r) ∧ Below w.heap.size w w' := by
 unfold machine_Right.f at h
 split at h
 case isFalse => simp at h
 rename_i hbig
 obtain ⟨hb1,hb2,hb3,hb4,hb5⟩ := hbig
 obtain rfl:=Option.some.inj h
 clear h
 have HA : Aside0 (Below w.heap.size w (w.alloc (.cells #[.slice A0_0 l0_0.length c0_0,.slice A0_1 l0_1.length c0_1,.int .i64 a0_2,.int .i64 a0_3,.slice A0_4 l0_4.length c0_4] 26))) := ⟨(Below.refl _ w).alloc (Nat.le_refl _) _⟩
 have P1:=Aside0.mk (firsts_Right.calls A0_0 c0_0 l0_0 A0_1 c0_1 l0_1 a0_2 a0_3 A0_4 c0_4 l0_4 _ _ (Kd.C_below hr0_0 HA.out) hc0_0 (Kd.C_below hr0_1 HA.out) hc0_1 (Kd.C_below hr0_4 HA.out) hc0_4 (by unfold firsts_Right.f;rw [if_pos ⟨by omega,hb4⟩]))
 have HBK : Aside0 ((w.alloc (.cells #[.slice A0_0 l0_0.length c0_0,.slice A0_1 l0_1.length c0_1,.int .i64 a0_2,.int .i64 a0_3,.slice A0_4 l0_4.length c0_4] 26)).heap[w.heap.size]? = some (.cells #[.slice A0_0 l0_0.length c0_0,.slice A0_1 l0_1.length c0_1,.int .i64 a0_2,.int .i64 a0_3,.slice A0_4 l0_4.length c0_4] 26 (0,0))) := ⟨heap_alloc_new w _⟩
 have HR4:=Aside0.mk (Kd.C_below hr0_4 HA.out)
 have HR1:=Aside0.mk (Kd.C_below hr1 HA.out)
 have HBIG:=Aside0.mk (And.intro hb1 (And.intro hb2 hb3))
 have HB5:=Aside0.mk hb5
 clear hr0_0 hc0_0 hr0_1 hc0_1 hr0_4 hc0_4 hr1 hc1 hb1 hb2 hb3 hb4 hb5
 generalize hrr : tbRight l0_0.length l0_1.length l0_4 l1 = rr
 unfold tbRight at hrr
 generalize l0_4.all (okProd l0_0.length l0_1.length) = R1 at P1 hrr
 have HRR:=Aside0.mk hrr
 clear hrr
 go_enter Try.func25,Try.ntmps25
 go_upto_region 1 with fail
 generalize (w.alloc (.cells #[.slice A0_0 l0_0.length c0_0,.slice A0_1 l0_1.length c0_1,.int .i64 a0_2,.int .i64 a0_3,.slice A0_4 l0_4.length c0_4] 26)) = w1 at HA P1 HBK HR4 HR1 ⊢
 have HSB : Aside0 (w.heap.size < w1.heap.size) := ⟨blk_lt HBK.out⟩
 have HC : Aside0 (∀ W,Below w1.heap.size w1 W → W.cell? ⟨w.heap.size,0,none⟩ = some (.slice A0_0 l0_0.length c0_0) ∧ W.cell? ⟨w.heap.size,1,none⟩ = some (.slice A0_1 l0_1.length c0_1) ∧ W.cell? ⟨w.heap.size,2,none⟩ = some (.int .i64 a0_2) ∧ W.cell? ⟨w.heap.size,3,none⟩ = some (.int .i64 a0_3) ∧ W.cell? ⟨w.heap.size,4,none⟩ = some (.slice A0_4 l0_4.length c0_4)) := ⟨fun W hW => by
  have hb:=(hW.block _ (blk_lt HBK.out)).trans HBK.out
  exact ⟨(blk_cell hb 0).trans rfl,(blk_cell hb 1).trans rfl,(blk_cell hb 2).trans rfl,(blk_cell hb 3).trans rfl,(blk_cell hb 4).trans rfl⟩⟩
 obtain ⟨q0,q1,q2,q3,q4⟩ := HC.out w1 (Below.refl _ _)
 cases R1 with
 | false =>
  go_wp2_with (first | (go_at_call 39;(with_reducible refine P1.out.mono ?_);rintro e w2 ⟨rfl,hb2⟩;have HB2:=Aside0.mk hb2;clear hb2 P1 q0 q1 q2 q3 q4))
  go_ret
  exact ⟨by rw [← HRR.out];rfl,HA.out.trans (HB2.out.mono HA.out.size)⟩
 | true =>
  by_cases hn : l0_0.length = 0
  · have d0 : decide (l0_0.length = 0) = true:=decide_eq_true hn
    have d1 : ((l0_0.length : Int) == 0) = true:=by simp [hn]
    have HN:=Aside0.mk hn
    clear hn
    go_wp2_with (first | (go_at_call 39;(with_reducible refine P1.out.mono ?_);rintro e w2 ⟨rfl,hb2⟩;have HB2:=Aside0.mk hb2;clear hb2 P1 q0 q1 q2 q3 q4;obtain ⟨q0,q1,q2,q3,q4⟩ := HC.out w2 HB2.out;have hn:=HN.out))
    go_ret
    exact ⟨by rw [← HRR.out,d0];rfl,HA.out.trans (HB2.out.mono HA.out.size)⟩
  · have d0 : decide (l0_0.length = 0) = false:=decide_eq_false hn
    have d1 : ((l0_0.length : Int) == 0) = false:=by simp [hn]
    have HN:=Aside0.mk hn
    by_cases ht : l1.length = l0_0.length
    · have d2 : decide (l1.length = l0_0.length) = true:=decide_eq_true ht
      have HT:=Aside0.mk ht
      clear hn ht
      go_upto_region 3 with (first | (go_at_call 39;(with_reducible refine P1.out.mono ?_);rintro e w2 ⟨rfl,hb2⟩;have HB2:=Aside0.mk hb2;clear hb2 P1 q0 q1 q2 q3 q4;obtain ⟨q0,q1,q2,q3,q4⟩ := HC.out w2 HB2.out;have hn:=HN.out;have ht:=HT.out;have ht2 : ((l1.length : Int) != (l0_0.length : Int)) = false:=by simp [HT.out]))
      have HR1' : Aside0 ((Kd.slice 3 (Kd.int .i64)).C w1 A1 l0_0.length l1) := ⟨HT.out ▸ HR1.out⟩
      have hw1 : IntKind.i64.wrap ((l0_1.length : Int) + 1) = (l0_1.length : Int) + 1:=by rw [IntKind.wrap_i64];have:=HBIG.out.1;omega
      have HNB : Aside0 (l0_0.length ≤ 1000000000) := ⟨by have:=HBIG.out.2.1;have:=HT.out;omega⟩
      clear q0 q1 q2 q3 q4 HR1
      go_wp2
      go_loopg [5,6,7,27] l0_0.length (fun gg _ _ _ s27 wr => ∃ kk : Nat,kk ≤ l0_0.length ∧ l0_0.length - kk ≤ gg ∧ s27 = .int .i64 kk ∧ Aside0 (Below w1.heap.size w1 wr) ∧ Aside0 (rowsOk l0_1.length l0_4 0 l1 = rowsOk l0_1.length l0_4 kk (l1.drop kk)))
      case atStart => exact ⟨0,Nat.zero_le _,by omega,rfl,HB2,⟨by simp⟩⟩
      case round =>
       clear HB2
       obtain ⟨kk,hkk,hg,rfl,BW,PA⟩ := hrel
       by_cases hlt : kk < l0_0.length
       · have hltz : decide ((kk : Int) < (l0_0.length : Int)) = true:=decide_eq_true (by omega)
         have k0 : (0 ≤ (kk : Int)) = True:=eq_true (by omega)
         have k1 : ((kk : Int) < (l0_0.length : Int)) = True:=eq_true (by omega)
         have hlt1 : kk < l1.length:=by rw [HT.out];exact hlt
         obtain ⟨ad,A9,c9,e,l9,_,hC9⟩ := at_rowi (Kd.C_below HR1'.out BW.out) (kk : Int) (by omega) (by omega)
         rw [Int.toNat_natCast,show l1.getD kk [] = l1[kk] by rw [List.getD_eq_getElem?_getD,List.getElem?_eq_getElem hlt1];rfl] at l9 hC9
         have hrow : l1[kk].length ≤ 9223372036854775807:=of_decide_eq_true (List.all_eq_true.1 HB5.out _ (List.getElem_mem hlt1))
         have PB : Aside0 (rowsOk l0_1.length l0_4 0 l1 = (decide (l1[kk].length = l0_1.length + 1) && l1[kk].all (okEnt l0_4 (kk : Int)) && rowsOk l0_1.length l0_4 (kk + 1) (l1.drop (kk + 1)))) := ⟨by rw [PA.out,List.drop_eq_getElem_cons hlt1,rowsOk]⟩
         generalize l1[kk] = row at l9 hC9 hrow PB
         subst e
         have hwk : IntKind.i64.wrap ((kk : Int) + 1) = (kk : Int) + 1:=by rw [IntKind.wrap_i64];have:=HNB.out;omega
         obtain ⟨n9,hn9⟩ : ∃ n9,n9 = row.length:=⟨_,rfl⟩
         rw [← hn9] at l9
         have HN9:=Aside0.mk hn9
         have HLT:=Aside0.mk (And.intro hlt hg)
         have HC9:=Aside0.mk hC9
         have HROW:=Aside0.mk hrow
         clear hlt hlt1 hkk hg hn9 hC9 hrow PA
         go_upto_region 7 with fail
         have HB4 : Aside0 (Below w1.heap.size w1 (wr.alloc (.cells #[.int .i64 (kk : Int)] 3))) := ⟨BW.out.trans ((below_alloc (Below.refl _ wr) _).mono BW.out.size)⟩
         have HB4' : Aside0 (Below wr.heap.size wr (wr.alloc (.cells #[.int .i64 (kk : Int)] 3))) := ⟨below_alloc (Below.refl _ wr) _⟩
         have HRB : Aside0 ((wr.alloc (.cells #[.int .i64 (kk : Int)] 3)).heap[wr.heap.size]? = some (.cells #[.int .i64 (kk : Int)] 3 (0,0))) := ⟨heap_alloc_new wr _⟩
         generalize (wr.alloc (.cells #[.int .i64 (kk : Int)] 3)) = w4 at HB4 HB4' HRB ⊢
         generalize wr.heap.size = RB at HRB ⊢
         have eg : ∀ args w,(callFunc 40 args).run Try.prog w = .ok (.enter 40 args) w:=enters_of Try.func40 (by kernel_rfl) rfl
         have hcon:=containsInt_any (fun x => !okEnt l0_4 (kk : Int) x) 40 #[.pointer (some ⟨w.heap.size,0,none⟩),.pointer (some ⟨RB,0,none⟩)] eg A9 c9 row w4 (Kd.C_below HC9.out HB4'.out) HROW.out (fun W x _ hb => by
          refine (mright1_any x (kk : Int) l0_4 w.heap.size RB W A0_4 c0_4 (Kd.C_below HR4.out (HB4.out.trans (hb.mono HB4.out.size))) (HC.out W (HB4.out.trans (hb.mono HB4.out.size))).2.2.2.2 ((blk_cell (blk_below HRB.out hb) 0).trans rfl)).mono ?_
          rintro e w' ⟨he,hb'⟩
          exact ⟨he,hb.trans (hb'.mono hb.size)⟩)
         rw [any_not',← HN9.out] at hcon
         have PB' : Aside0 (rowsOk l0_1.length l0_4 0 l1 = (decide (n9 = l0_1.length + 1) && row.all (okEnt l0_4 (kk : Int)) && rowsOk l0_1.length l0_4 (kk + 1) (l1.drop (kk + 1)))) := ⟨by rw [PB.out,HN9.out]⟩
         generalize row.all (okEnt l0_4 (kk : Int)) = R2 at hcon PB'
         have P5:=Aside0.mk hcon
         obtain ⟨q0,q1,q2,q3,q4⟩ := HC.out w4 HB4.out
         clear hcon eg PB BW
         have e6 : ∀ args w,(callFunc 41 args).run Try.prog w = .ok (.enter 41 args) w:=enters_of Try.func41 (by kernel_rfl) rfl
         by_cases h9 : n9 = l0_1.length + 1
         · have e9 : ((n9 : Int) != (l0_1.length : Int) + 1) = false:=by simp [h9]
           have H9:=Aside0.mk h9
           have D9:=Aside0.mk (decide_eq_true h9)
           clear h9
           cases R2 with
           | true =>
            have PC : Aside0 (rowsOk l0_1.length l0_4 0 l1 = rowsOk l0_1.length l0_4 (kk + 1) (l1.drop (kk + 1))) := ⟨by rw [PB'.out,D9.out];simp⟩
            go_wp2_with (go_at_fn 41;refine P5.out.mono ?_;rintro e w5 ⟨rfl,hb5⟩;have HB5w:=Aside0.mk hb5;clear hb5)
            go_roundg (l0_0.length - (kk + 1))
            case measure => have:=HLT.out;omega
            case rel => exact ⟨kk + 1,by have:=HLT.out;omega,Nat.le_refl _,by push_cast;rfl,⟨HB4.out.trans (HB5w.out.mono HB4.out.size)⟩,PC⟩
           | false =>
            have PC : Aside0 (rowsOk l0_1.length l0_4 0 l1 = false) := ⟨by rw [PB'.out];simp⟩
            go_wp2_with (go_at_fn 41;refine P5.out.mono ?_;rintro e w5 ⟨rfl,hb5⟩;have HB5w:=Aside0.mk hb5;clear hb5)
            go_ret
            exact ⟨by rw [← HRR.out,d0,d2,PC.out];rfl,HA.out.trans ((HB4.out.trans (HB5w.out.mono HB4.out.size)).mono HA.out.size)⟩
         · have e9 : ((n9 : Int) != (l0_1.length : Int) + 1) = true:=by simp;omega
           have PC : Aside0 (rowsOk l0_1.length l0_4 0 l1 = false) := ⟨by rw [PB'.out,decide_eq_false h9];simp⟩
           clear h9
           go_wp2
           go_ret
           exact ⟨by rw [← HRR.out,d0,d2,PC.out];rfl,HA.out.trans (HB4.out.mono HA.out.size)⟩
       · obtain rfl : kk = l0_0.length:=by omega
         have hltz : decide ((l0_0.length : Int) < (l0_0.length : Int)) = false:=decide_eq_false (by omega)
         have PD : Aside0 (rowsOk l0_1.length l0_4 0 l1 = true) := ⟨by rw [PA.out,← HT.out,List.drop_length];rfl⟩
         clear hlt hkk hg PA
         go_wp2
         go_ret
         exact ⟨by rw [← HRR.out,d0,d2,PD.out];rfl,HA.out.trans (BW.out.mono HA.out.size)⟩
    · have d2 : decide (l1.length = l0_0.length) = false:=decide_eq_false ht
      have ht2 : ((l1.length : Int) != (l0_0.length : Int)) = true:=by simp;omega
      have HT:=Aside0.mk ht
      clear hn ht
      go_wp2_with (first | (go_at_call 39;(with_reducible refine P1.out.mono ?_);rintro e w2 ⟨rfl,hb2⟩;have HB2:=Aside0.mk hb2;clear hb2 P1 q0 q1 q2 q3 q4;obtain ⟨q0,q1,q2,q3,q4⟩ := HC.out w2 HB2.out;have hn:=HN.out;have ht:=HT.out))
      go_ret
      exact ⟨by rw [← HRR.out,d0,d2];rfl,HA.out.trans (HB2.out.mono HA.out.size)⟩
theorem awaits1_any (x : S43) (B : Nat) (W : World) (A0 A1 : Option Addr) (n0 n1 c0 c1 : Nat)
    (h0 : W.cell? ⟨B,0,none⟩ = some (.slice A0 n0 c0)) (h1 : W.cell? ⟨B,1,none⟩ = some (.slice A1 n1 c1)) (hB : B < W.heap.size) :
    Calls Try.prog 50 #[.agg #[.bool x.f0,.int .i64 x.f1],.pointer (some ⟨B,0,none⟩)] W fun e w' => e = .returned (.bool (!okSym n0 n1 x)) ∧ Below W.heap.size W w' := by
 have hne : B ≠ W.heap.size:=by omega
 obtain ⟨b,n⟩ := x
 unfold okSym
 by_cases c0 : n < 0
 · have d0 : decide (n < 0) = true:=decide_eq_true c0
   have d1 : decide (0 ≤ n) = false:=decide_eq_false (by omega)
   cases b <;> (go_enter Try.func50,Try.ntmps50;go_wp2;go_ret;exact ⟨rfl,(Below.refl _ W).alloc (Nat.le_refl _) _⟩)
 have d0 : decide (n < 0) = false:=decide_eq_false c0
 have d1 : decide (0 ≤ n) = true:=decide_eq_true (by omega)
 cases b with
 | true =>
  by_cases c2 : (n1 : Int) ≤ n
  · have d2 : decide ((n1 : Int) ≤ n) = true:=decide_eq_true c2
    have d3 : decide (n < (n1 : Int)) = false:=decide_eq_false (by omega)
    go_enter Try.func50,Try.ntmps50
    go_wp2
    go_ret
    exact ⟨rfl,(Below.refl _ W).alloc (Nat.le_refl _) _⟩
  · have d2 : decide ((n1 : Int) ≤ n) = false:=decide_eq_false c2
    have d3 : decide (n < (n1 : Int)) = true:=decide_eq_true (by omega)
    go_enter Try.func50,Try.ntmps50
    go_wp2
    go_ret
    exact ⟨rfl,(Below.refl _ W).alloc (Nat.le_refl _) _⟩
 | false =>
  by_cases c2 : (n0 : Int) ≤ n
  · have d2 : decide ((n0 : Int) ≤ n) = true:=decide_eq_true c2
    have d3 : decide (n < (n0 : Int)) = false:=decide_eq_false (by omega)
    go_enter Try.func50,Try.ntmps50
    go_wp2
    go_ret
    exact ⟨rfl,(Below.refl _ W).alloc (Nat.le_refl _) _⟩
  · have d2 : decide ((n0 : Int) ≤ n) = false:=decide_eq_false c2
    have d3 : decide (n < (n0 : Int)) = true:=decide_eq_true (by omega)
    go_enter Try.func50,Try.ntmps50
    go_wp2
    go_ret
    exact ⟨rfl,(Below.refl _ W).alloc (Nat.le_refl _) _⟩
def stAwaits (nn nt : Nat) (l : List S43) : Bool:=decide (l.length ≤ 10000) && l.all (okSym nn nt)
set_option maxRecDepth 100000 in
theorem awaits_any (A0_0 : Option Addr) (c0_0 : Nat) (l0_0 : List ByteArray) (A0_1 : Option Addr) (c0_1 : Nat) (l0_1 : List (S72)) (a0_2 : Int) (a0_3 : Int) (A0_4 : Option Addr) (c0_4 : Nat) (l0_4 : List (S35)) (A1 : Option Addr) (c1 : Nat) (l1 : List (S43)) (w : World)
    (hr1 : Kd.C k43 w A1 l1.length l1) :
    Calls Try.prog 35 #[.agg #[.slice A0_0 l0_0.length c0_0,.slice A0_1 l0_1.length c0_1,.int .i64 a0_2,.int .i64 a0_3,.slice A0_4 l0_4.length c0_4],.slice A1 l1.length c1] w fun e w' => e = .returned (.bool (stAwaits l0_0.length l0_1.length l1)) ∧ Below w.heap.size w w' := by
 have HW : Aside0 (Below w.heap.size w (w.alloc (.cells #[.slice A0_0 l0_0.length c0_0,.slice A0_1 l0_1.length c0_1,.int .i64 a0_2,.int .i64 a0_3,.slice A0_4 l0_4.length c0_4] 26))) := ⟨(Below.refl _ w).alloc (Nat.le_refl _) _⟩
 unfold stAwaits
 by_cases hl : l1.length ≤ 10000
 · have eg : ∀ args w,(callFunc 50 args).run Try.prog w = .ok (.enter 50 args) w:=enters_of Try.func50 (by kernel_rfl) rfl
   have e6 : ∀ args w,(callFunc 51 args).run Try.prog w = .ok (.enter 51 args) w:=enters_of Try.func51 (by kernel_rfl) rfl
   have hcon:=containsSym_any (fun x => !okSym l0_0.length l0_1.length x) 50 #[.pointer (some ⟨w.heap.size,0,none⟩)] eg A1 c1 l1 (w.alloc (.cells #[.slice A0_0 l0_0.length c0_0,.slice A0_1 l0_1.length c0_1,.int .i64 a0_2,.int .i64 a0_3,.slice A0_4 l0_4.length c0_4] 26)) (Kd.C_below hr1 HW.out) (by omega) (fun W x _ hb => by
    have hlt : w.heap.size < (w.alloc (.cells #[.slice A0_0 l0_0.length c0_0,.slice A0_1 l0_1.length c0_1,.int .i64 a0_2,.int .i64 a0_3,.slice A0_4 l0_4.length c0_4] 26)).heap.size:=by simp
    refine (awaits1_any x w.heap.size W A0_0 A0_1 l0_0.length l0_1.length c0_0 c0_1 ?_ ?_ (Nat.lt_of_lt_of_le hlt hb.size)).mono ?_
    · exact (hb.cell (p:=⟨w.heap.size,0,none⟩) hlt).trans (by simp)
    · exact (hb.cell (p:=⟨w.heap.size,1,none⟩) hlt).trans (by simp)
    · rintro e w' ⟨he,hb'⟩
      exact ⟨he,hb.trans (hb'.mono hb.size)⟩)
   have HD:=Aside0.mk (decide_eq_true hl)
   clear hr1
   rw [any_not'] at hcon
   generalize l1.all (okSym l0_0.length l0_1.length) = rr at hcon ⊢
   go_enter Try.func35,Try.ntmps35
   go_wp2_with (go_at_fn 51;refine hcon.mono ?_;rintro e w' ⟨rfl,hb'⟩)
   go_ret
   exact ⟨by rw [HD.out];simp,HW.out.trans (hb'.mono (by simp))⟩
 · have hd : decide (l1.length ≤ 10000) = false:=decide_eq_false hl
   rw [hd]
   clear hr1 hd
   go_enter Try.func35,Try.ntmps35
   go_wp2
   go_ret
   exact ⟨rfl,HW.out⟩
theorem R_lit0 {α : Type} (d : Kd α) (e : Nat) (W : World) (ok : Nat → Prop) (h : ok W.heap.size) : d.R e (W.alloc (.cells #[] e)) W.heap.size ok (.slice (some ⟨W.heap.size,0,none⟩) 0 0) [] := by
 refine ⟨fun k hk => ?_,[],?_,?_⟩
 · have : W.heap.size = k:=by simpa [Value.ownBlock] using hk
   subst this
   exact h
 · have h2:=World.ownsRow_lit (base:=W.heap.size) (e:=e) (size:=d.sz) W #[] 0 (Nat.le_refl _) (by decide) (by simp)
   simpa using h2
 · exact ⟨by simp,by simp⟩
set_option maxRecDepth 100000 in
theorem cloneSym_any (A : Option Addr) (c : Nat) (l : List (S43)) (w : World) (hr : Kd.C k43 w A l.length l) (hb : l.length ≤ 1000000000) :
    Calls Try.prog 37 #[.slice A l.length c] w fun e w' => ∃ v,e = .returned v ∧ Kd.R k43 43 w' w.heap.size (fun _ => True) v l ∧ Below w.heap.size w w' := by
 cases A with
 | none =>
  obtain rfl : l = [] := by
   cases l with
   | nil => rfl
   | cons x l => obtain ⟨ad,c,e,_⟩ := Kd.C_get hr x 0 (by omega) (by simp);cases e
  have heq:=Lib.run_eql_slice_nil (P:=Try.prog) w 29 43 none 0 c 0 0 Try.underlying29
  go_enter Try.func37,Try.ntmps37
  go_wp2
  go_ret
  exact ⟨_,rfl,Kd.R_nil _ _ _ _ _,Below.refl _ _⟩
 | some ad =>
  have heq:=Lib.run_eql_slice_nil (P:=Try.prog) w 29 43 (some ad) l.length c 0 0 Try.underlying29
  have HR:=Aside0.mk hr
  have HB:=Aside0.mk hb
  clear hr hb
  go_enter Try.func37,Try.ntmps37
  have HW : Aside0 (Below w.heap.size w (w.alloc (.cells #[] 43))) := ⟨below_alloc (Below.refl _ w) _⟩
  go_wp2_with (first | ((with_reducible refine gate_builtin (b := .append) (xs:=#[.tmp 5,.tmp 6]) rfl ?_);at_builtin;refine Kd.R_append_rows k43 (w0:=w) w.heap.size rfl (.tmp 5) (.tmp 6) 29 43 (.agg #[(.bool false),(.int .i64 0)]) 16 rfl Try.underlying29 info43 rfl (by decide) (by omega) _ ([] : List S43) l (some ad) l.length c (fun _ => True) (fun _ => False) rfl rfl (R_lit0 _ _ w _ trivial) (Kd.C_below HR.out HW.out) (fun _ _ h => h) (fun _ h => h.elim) (fun _ _ => trivial) HW.out HW.out.size (by have:=HB.out;simp only [List.length_nil];omega) ?_;intro v9 w9 ho hb hg hat;have HO9:=Aside0.mk ho;have HB9:=Aside0.mk hb;clear ho hb hg hat))
  go_ret
  exact ⟨_,rfl,HO9.out,HB9.out⟩
theorem miInt : (Try.prog.info? 3).map (fun i => (i.zero,i.size,i.bytes)) = some (some (.int .i64 0),1,8) := by kernel_rfl
set_option maxRecDepth 100000 in
theorem cloneInt_any (A : Option Addr) (c : Nat) (l : List (Int)) (w : World) (hr : Kd.C (Kd.int .i64) w A l.length l) (hb : l.length ≤ 1000000000) :
    Calls Try.prog 34 #[.slice A l.length c] w fun e w' => ∃ v,e = .returned v ∧ Kd.R (Kd.int .i64) 3 w' w.heap.size (fun _ => True) v l ∧ Below w.heap.size w w' := by
 cases A with
 | none =>
  obtain rfl : l = [] := by
   cases l with
   | nil => rfl
   | cons x l => obtain ⟨ad,c,e,_⟩ := Kd.C_get hr x 0 (by omega) (by simp);cases e
  have heq:=Lib.run_eql_slice_nil (P:=Try.prog) w 32 3 none 0 c 0 0 Try.underlying32
  go_enter Try.func34,Try.ntmps34
  go_wp2
  go_ret
  exact ⟨_,rfl,Kd.R_nil _ _ _ _ _,Below.refl _ _⟩
 | some ad =>
  have heq:=Lib.run_eql_slice_nil (P:=Try.prog) w 32 3 (some ad) l.length c 0 0 Try.underlying32
  have HR:=Aside0.mk hr
  have HB:=Aside0.mk hb
  clear hr hb
  go_enter Try.func34,Try.ntmps34
  have HW : Aside0 (Below w.heap.size w (w.alloc (.cells #[] 3))) := ⟨below_alloc (Below.refl _ w) _⟩
  go_wp2_with (first | ((with_reducible refine gate_builtin (b := .append) (xs:=#[.tmp 5,.tmp 6]) rfl ?_);at_builtin;refine Kd.R_append_rows (Kd.int .i64) (w0:=w) w.heap.size rfl (.tmp 5) (.tmp 6) 32 3 (.int .i64 0) 8 rfl Try.underlying32 miInt rfl (by decide) (by omega) _ ([] : List Int) l (some ad) l.length c (fun _ => True) (fun _ => False) rfl rfl (R_lit0 _ _ w _ trivial) (Kd.C_below HR.out HW.out) (fun _ _ h => h) (fun _ h => h.elim) (fun _ _ => trivial) HW.out HW.out.size (by have:=HB.out;simp only [List.length_nil];omega) ?_;intro v9 w9 ho hb hg hat;have HO9:=Aside0.mk ho;have HB9:=Aside0.mk hb;clear ho hb hg hat))
  go_ret
  exact ⟨_,rfl,HO9.out,HB9.out⟩
def slices_Clone_int_int.f (l0 : List Int) : Option (List Int) := if l0.length ≤ 1000000000 then some l0 else none
theorem slices_Clone_int_int.calls (A0 : Option Addr) (c0 : Nat) (l0 : List Int) (r : List Int) (w : World) (hr0 : Kd.C (Kd.int .i64) w A0 l0.length l0) (hc0 : l0.length ≤ c0) (h : slices_Clone_int_int.f l0 = some r) :
    Calls Try.prog 34 #[.slice A0 l0.length c0] w fun e w' => ∃ v0_ : Value,e = .returned (v0_) ∧ Kd.R (Kd.int .i64) 3 w' w.heap.size (fun _ => True) v0_ r ∧ Below w.heap.size w w' := by
 unfold slices_Clone_int_int.f at h
 split at h
 case isFalse => simp at h
 obtain rfl:=Option.some.inj h
 rename_i hl
 exact cloneInt_any A0 c0 l0 w hr0 hl
theorem prod_one (W : World) (g : Nat) (A : Option Addr) (c : Nat) (l : List S43) (hb : W.heap[g]? = some (.cells #[.int .i64 0,.slice A l.length c] 35 (0,0))) (hl : l.length ≤ c) (hC : Kd.C k43 W A l.length l) :
    Kd.C k35 W (some ⟨g,0,none⟩) [(⟨0,l⟩ : S35)].length [(⟨0,l⟩ : S35)] := by
 refine ⟨rfl,by show 1 ≤ 9223372036854775807;decide,fun _ => ⟨_,rfl,fun j p hj => ?_⟩⟩
 have hj0 : j = 0:=by
  have:=(List.getElem?_eq_some_iff.1 hj).1
  simp at this
  exact this
 subst hj0
 obtain rfl : (⟨0,l⟩ : S35) = p:=by simpa using hj
 refine ⟨[.int .i64 0,.slice A l.length c],rfl,k35_mk W (⟨0,l⟩ : S35) hl hC,fun i u hi => ?_⟩
 have hi2 : i < 2:=(List.getElem?_eq_some_iff.1 hi).1
 have e : (⟨g,0,none⟩ : Addr).add (0 * k35.sz + i) = ⟨g,i,none⟩ := by
  rw [Nat.zero_mul,Nat.zero_add,add_plain]
 rw [e,blk_cell hb i]
 match i,hi2 with
 | 0,_ => exact hi
 | 1,_ => exact hi
def regletref16_stack.f (k : Nat) (l0_0 : List ByteArray) (l0_1 : List (S72)) (a0_2 : Int) (a0_3 : Int) (l0_4 : List (S35)) (l1 : List (S43)) : Option Bool:=(regletref13_Right.f k l0_0 l0_1 a0_2 a0_3 [⟨0,l1⟩]).bind fun b => some (b && decide (l1.length ≤ 10000))
set_option maxHeartbeats 4000000 in
set_option maxRecDepth 100000 in
theorem regletref16_stack.calls (k : Nat) (A0_0 : Option Addr) (c0_0 : Nat) (l0_0 : List ByteArray) (A0_1 : Option Addr) (c0_1 : Nat) (l0_1 : List (S72)) (a0_2 : Int) (a0_3 : Int) (A0_4 : Option Addr) (c0_4 : Nat) (l0_4 : List (S35)) (A1 : Option Addr) (c1 : Nat) (l1 : List (S43)) (r : Bool) (w : World)
    (hr0_0 : Kd.C Kd.string w A0_0 l0_0.length l0_0) (hc0_0 : l0_0.length ≤ c0_0) (hr0_1 : Kd.C k72 w A0_1 l0_1.length l0_1) (hc0_1 : l0_1.length ≤ c0_1) (hr0_4 : Kd.C k35 w A0_4 l0_4.length l0_4) (hc0_4 : l0_4.length ≤ c0_4) (hr1 : Kd.C k43 w A1 l1.length l1) (hc1 : l1.length ≤ c1)
    (h : regletref16_stack.f k l0_0 l0_1 a0_2 a0_3 l0_4 l1 = some r) :
    Calls Try.prog 42 #[.agg #[.slice A0_0 l0_0.length c0_0,.slice A0_1 l0_1.length c0_1,.int .i64 a0_2,.int .i64 a0_3,.slice A0_4 l0_4.length c0_4],.slice A1 l1.length c1] w fun e w' => e = .returned (.bool r) ∧ Below w.heap.size w w' := by
 obtain ⟨b,hb,hr⟩ := Option.bind_eq_some_iff.1 h
 have HRR:=Aside0.mk (Option.some.inj hr)
 have HB:=Aside0.mk hb
 have H00:=Aside0.mk (And.intro hr0_0 hc0_0)
 have H01:=Aside0.mk (And.intro hr0_1 hc0_1)
 have H1:=Aside0.mk (And.intro hr1 hc1)
 clear h hb hr hr0_0 hc0_0 hr0_1 hc0_1 hr0_4 hc0_4 hr1 hc1
 go_enter Try.func42,Try.ntmps42
 go_upto_region 3 with fail
 have HW : Aside0 (Below w.heap.size w (((w.alloc (.cells #[.slice A0_0 l0_0.length c0_0,.slice A0_1 l0_1.length c0_1,.int .i64 a0_2,.int .i64 a0_3,.slice A0_4 l0_4.length c0_4] 26)).alloc (.cells #[.slice A0_0 l0_0.length c0_0,.slice A0_1 l0_1.length c0_1,.int .i64 a0_2,.int .i64 a0_3,.slice (some ⟨w.heap.size + 1 + 1,0,none⟩) 1 1] 26)).alloc (.cells #[.int .i64 0,.slice A1 l1.length c1] 35))) := ⟨(((Below.refl _ w).alloc (Nat.le_refl _) _).alloc (by simp) _).alloc (by simp;omega) _⟩
 have hT : (((w.alloc (.cells #[.slice A0_0 l0_0.length c0_0,.slice A0_1 l0_1.length c0_1,.int .i64 a0_2,.int .i64 a0_3,.slice A0_4 l0_4.length c0_4] 26)).alloc (.cells #[.slice A0_0 l0_0.length c0_0,.slice A0_1 l0_1.length c0_1,.int .i64 a0_2,.int .i64 a0_3,.slice (some ⟨w.heap.size + 1 + 1,0,none⟩) 1 1] 26)).alloc (.cells #[.int .i64 0,.slice A1 l1.length c1] 35)).heap[w.heap.size + 1]? = some (.cells #[.slice A0_0 l0_0.length c0_0,.slice A0_1 l0_1.length c0_1,.int .i64 a0_2,.int .i64 a0_3,.slice (some ⟨w.heap.size + 1 + 1,0,none⟩) 1 1] 26 (0,0)) := by have h:=blk_alloc (blk_new (w.alloc (.cells #[.slice A0_0 l0_0.length c0_0,.slice A0_1 l0_1.length c0_1,.int .i64 a0_2,.int .i64 a0_3,.slice A0_4 l0_4.length c0_4] 26)) (.cells #[.slice A0_0 l0_0.length c0_0,.slice A0_1 l0_1.length c0_1,.int .i64 a0_2,.int .i64 a0_3,.slice (some ⟨w.heap.size + 1 + 1,0,none⟩) 1 1] 26)) (.cells #[.int .i64 0,.slice A1 l1.length c1] 35);rw [World.size_alloc] at h;exact h
 have hP : (((w.alloc (.cells #[.slice A0_0 l0_0.length c0_0,.slice A0_1 l0_1.length c0_1,.int .i64 a0_2,.int .i64 a0_3,.slice A0_4 l0_4.length c0_4] 26)).alloc (.cells #[.slice A0_0 l0_0.length c0_0,.slice A0_1 l0_1.length c0_1,.int .i64 a0_2,.int .i64 a0_3,.slice (some ⟨w.heap.size + 1 + 1,0,none⟩) 1 1] 26)).alloc (.cells #[.int .i64 0,.slice A1 l1.length c1] 35)).heap[w.heap.size + 1 + 1]? = some (.cells #[.int .i64 0,.slice A1 l1.length c1] 35 (0,0)) := by have h:=blk_new ((w.alloc (.cells #[.slice A0_0 l0_0.length c0_0,.slice A0_1 l0_1.length c0_1,.int .i64 a0_2,.int .i64 a0_3,.slice A0_4 l0_4.length c0_4] 26)).alloc (.cells #[.slice A0_0 l0_0.length c0_0,.slice A0_1 l0_1.length c0_1,.int .i64 a0_2,.int .i64 a0_3,.slice (some ⟨w.heap.size + 1 + 1,0,none⟩) 1 1] 26)) (.cells #[.int .i64 0,.slice A1 l1.length c1] 35);rw [World.size_alloc,World.size_alloc] at h;exact h
 generalize (((w.alloc (.cells #[.slice A0_0 l0_0.length c0_0,.slice A0_1 l0_1.length c0_1,.int .i64 a0_2,.int .i64 a0_3,.slice A0_4 l0_4.length c0_4] 26)).alloc (.cells #[.slice A0_0 l0_0.length c0_0,.slice A0_1 l0_1.length c0_1,.int .i64 a0_2,.int .i64 a0_3,.slice (some ⟨w.heap.size + 1 + 1,0,none⟩) 1 1] 26)).alloc (.cells #[.int .i64 0,.slice A1 l1.length c1] 35)) = w1 at HW hT hP ⊢
 generalize w.heap.size + 1 + 1 = PB at hT hP ⊢
 generalize w.heap.size + 1 = TB at hT ⊢
 have PR : Aside0 (Calls Try.prog 30 #[.agg #[.slice A0_0 l0_0.length c0_0,.slice A0_1 l0_1.length c0_1,.int .i64 a0_2,.int .i64 a0_3,.slice (some ⟨PB,0,none⟩) 1 1]] w1 fun e w' => e = .returned (.bool b) ∧ Below w1.heap.size w1 w') := ⟨regletref13_Right.calls k A0_0 c0_0 l0_0 A0_1 c0_1 l0_1 a0_2 a0_3 (some ⟨PB,0,none⟩) 1 [(⟨0,l1⟩ : S35)] b w1 (Kd.C_below H00.out.1 HW.out) H00.out.2 (Kd.C_below H01.out.1 HW.out) H01.out.2 (prod_one w1 PB A1 c1 l1 hP H1.out.2 (Kd.C_below H1.out.1 HW.out)) (Nat.le_refl _) HB.out⟩
 have q0:=(blk_cell hT 0)
 have q1:=(blk_cell hT 1)
 have q2:=(blk_cell hT 2)
 have q3:=(blk_cell hT 3)
 have q4:=(blk_cell hT 4)
 clear hT hP
 cases b with
 | false =>
  have hr0 : r = false:=by rw [← HRR.out];rfl
  subst hr0
  go_wp2_with (first | (go_at_call 30;(with_reducible refine PR.out.mono ?_);rintro e w2 ⟨rfl,hb2⟩;have HB2 : Aside0 (Below w.heap.size w w2) := ⟨HW.out.trans (hb2.mono HW.out.size)⟩;clear hb2 PR q0 q1 q2 q3 q4))
  go_ret
  exact ⟨rfl,HB2.out⟩
 | true =>
  have hr0 : r = decide (l1.length ≤ 10000) := by rw [← HRR.out];rfl
  have HR0:=Aside0.mk hr0
  clear hr0
  go_wp2_with (first | (go_at_call 30;(with_reducible refine PR.out.mono ?_);rintro e w2 ⟨rfl,hb2⟩;have HB2 : Aside0 (Below w.heap.size w w2) := ⟨HW.out.trans (hb2.mono HW.out.size)⟩;clear hb2 PR q0 q1 q2 q3 q4))
  go_ret
  exact ⟨by rw [HR0.out];simp;omega,HB2.out⟩
end Go.Proofs.Ytapjfnfengefpaa.P
end

section
namespace Go.Proofs.Ytapjfnfengefpaa.P
open Go.RowKit Go.Proofs.YtapjfnfengefpaaW.PrintWords Go.Proofs.YtapjfnfengefpaaW.PrintLast Go.Proofs.YtapjfnfengefpaaW.PrintMore
attribute [local go_sem] max2_int min2_int max_two min_two max_three min_three max_four min_four   -- for this text's walks alone
set_option linter.unusedVariables false
set_option linter.unusedSimpArgs false
mutual
def regletref16_Feed.j0 : Nat → List (List Int) → Int → Bool → List ByteArray → List (S72) → Int → Int → List (S35) → List (S43) → Bool → Option ((List (S43)) × Bool × List Int × Int)
  | 0,_,_,_,_,_,_,_,_,_,_ => none
  | k + 1,x1,x3,x37,x230000,x230001,x230002,x230003,x230004,x231000,x231001 => if x37 = true then (some (([] : List (S43)),true,([] : List Int),1)) else (if x231001 = true then (some (([] : List (S43)),true,([] : List Int),80)) else (if ([] : List (S43)).length + x231000.length < 8796093022208 then (regletref16_Feed.l0 k x1 x3 (([] : List (S43)) ++ x231000) ([] : List Int) x230000 x230001 x230002 x230003 x230004) else (none)))
def regletref16_Feed.l0 : Nat → List (List Int) → Int → List (S43) → List Int → List ByteArray → List (S72) → Int → Int → List (S35) → Option ((List (S43)) × Bool × List Int × Int)
  | 0,_,_,_,_,_,_,_,_,_ => none
  | k + 1,x1,x3,x11,x12,x230000,x230001,x230002,x230003,x230004 => if (x11.length : Int) > 0 then (if 0 ≤ (wrap64 ((x11.length : Int) - 1)) then (if (wrap64 ((x11.length : Int) - 1)) < (x11.length : Int) then (if (wrap64 ((x11.length : Int) - 1)) ≤ (x11.length : Int) then ((some (x11.take ((wrap64 ((x11.length : Int) - 1)) : Int).toNat : List (S43))).bind fun y239 => (if (rd_T43 x11 (wrap64 ((x11.length : Int) - 1))).f0 = true then (if ((rd_T43 x11 (wrap64 ((x11.length : Int) - 1))).f1) = x3 then (some (y239,false,x12,0)) else (some (([] : List (S43)),true,x12,80))) else (if 0 ≤ ((rd_T43 x11 (wrap64 ((x11.length : Int) - 1))).f1) then (if ((rd_T43 x11 (wrap64 ((x11.length : Int) - 1))).f1) < (x1.length : Int) then (if 0 ≤ x3 then (if x3 < ((rd_L5 x1 ((rd_T43 x11 (wrap64 ((x11.length : Int) - 1))).f1)).length : Int) then (if (rd (rd_L5 x1 ((rd_T43 x11 (wrap64 ((x11.length : Int) - 1))).f1)) x3) < 0 then (some (([] : List (S43)),true,x12,80)) else (if x12.length < 17592186044416 then (if 0 ≤ (rd (rd_L5 x1 ((rd_T43 x11 (wrap64 ((x11.length : Int) - 1))).f1)) x3) then (if (rd (rd_L5 x1 ((rd_T43 x11 (wrap64 ((x11.length : Int) - 1))).f1)) x3) < (x230004.length : Int) then (regletref16_Feed.l1 k x1 x3 y239 (x12 ++ [rd (rd_L5 x1 ((rd_T43 x11 (wrap64 ((x11.length : Int) - 1))).f1)) x3]) (rd (rd_L5 x1 ((rd_T43 x11 (wrap64 ((x11.length : Int) - 1))).f1)) x3) (wrap64 ((((rd_T35 x230004 (rd (rd_L5 x1 ((rd_T43 x11 (wrap64 ((x11.length : Int) - 1))).f1)) x3)).f1).length : Int) - 1)) x230000 x230001 x230002 x230003 x230004) else (none)) else (none)) else (none))) else (none)) else (none)) else (none)) else (none)))) else (none)) else (none)) else (none)) else (if x3 < (x230001.length : Int) then (some (([] : List (S43)),true,x12,80)) else (some (([] : List (S43)),false,x12,0)))
def regletref16_Feed.l1 : Nat → List (List Int) → Int → List (S43) → List Int → Int → Int → List ByteArray → List (S72) → Int → Int → List (S35) → Option ((List (S43)) × Bool × List Int × Int)
  | 0,_,_,_,_,_,_,_,_,_,_,_ => none
  | k + 1,x1,x3,x11,x12,x14,x15,x230000,x230001,x230002,x230003,x230004 => if x15 ≥ 0 then (if 0 ≤ x14 then (if x14 < (x230004.length : Int) then (if 0 ≤ x15 then (if x15 < (((rd_T35 x230004 x14).f1).length : Int) then (if x11.length < 8796093022208 then (regletref16_Feed.l1 k x1 x3 (x11 ++ [(⟨(rd_T43 ((rd_T35 x230004 x14).f1) x15).f0,(rd_T43 ((rd_T35 x230004 x14).f1) x15).f1⟩ : S43)]) x12 x14 (wrap64 (x15 - 1)) x230000 x230001 x230002 x230003 x230004) else (none)) else (none)) else (none)) else (none)) else (none)) else (if (x11.length : Int) > 10000 then (some (([] : List (S43)),true,([] : List Int),2)) else (if (x12.length : Int) > 10000 then (some (([] : List (S43)),true,([] : List Int),2)) else (regletref16_Feed.l0 k x1 x3 x11 x12 x230000 x230001 x230002 x230003 x230004)))
end
def regletref16_Feed.f (k : Nat) (l0_0 : List ByteArray) (l0_1 : List (S72)) (a0_2 : Int) (a0_3 : Int) (l0_4 : List (S35)) (l1 : List (List Int)) (l2_0 : List (S43)) (a2_1 : Bool) (a3 : Int) : Option ((List (S43)) × Bool × List Int × Int) := (regletref16_Right.f k l0_0 l0_1 a0_2 a0_3 l0_4 l1).bind fun t232 => (if t232 = true then ((regletref16_stack.f k l0_0 l0_1 a0_2 a0_3 l0_4 l2_0).bind fun t233 => (if t233 = true then (if a3 < 0 then (regletref16_Feed.j0 k l1 a3 true l0_0 l0_1 a0_2 a0_3 l0_4 l2_0 a2_1) else (regletref16_Feed.j0 k l1 a3 (decide (a3 > (l0_1.length : Int))) l0_0 l0_1 a0_2 a0_3 l0_4 l2_0 a2_1)) else (regletref16_Feed.j0 k l1 a3 true l0_0 l0_1 a0_2 a0_3 l0_4 l2_0 a2_1))) else (regletref16_Feed.j0 k l1 a3 true l0_0 l0_1 a0_2 a0_3 l0_4 l2_0 a2_1))
set_option maxHeartbeats 8000000 in
set_option maxRecDepth 100000 in
theorem regletref16_Feed.calls (k : Nat) (A0_0 : Option Addr) (c0_0 : Nat) (l0_0 : List ByteArray) (A0_1 : Option Addr) (c0_1 : Nat) (l0_1 : List (S72)) (a0_2 : Int) (a0_3 : Int) (A0_4 : Option Addr) (c0_4 : Nat) (l0_4 : List (S35)) (A1 : Option Addr) (c1 : Nat) (l1 : List (List Int)) (A2_0 : Option Addr) (c2_0 : Nat) (l2_0 : List (S43)) (a2_1 : Bool) (a3 : Int) (r1 : List (S43)) (r2 : Bool) (r3 : List Int) (r4 : Int) (w : World) (hr0_0 : Kd.C Kd.string w A0_0 l0_0.length l0_0) (hc0_0 : l0_0.length ≤ c0_0) (hr0_1 : Kd.C k72 w A0_1 l0_1.length l0_1) (hc0_1 : l0_1.length ≤ c0_1) (hr0_4 : Kd.C k35 w A0_4 l0_4.length l0_4) (hc0_4 : l0_4.length ≤ c0_4) (hr1 : Kd.C (Kd.slice 3 (Kd.int .i64)) w A1 l1.length l1) (hc1 : l1.length ≤ c1) (hr2_0 : Kd.C k43 w A2_0 l2_0.length l2_0) (hc2_0 : l2_0.length ≤ c2_0) (h : regletref16_Feed.f k l0_0 l0_1 a0_2 a0_3 l0_4 l1 l2_0 a2_1 a3 = some (r1,r2,r3,r4)) :
    Calls Try.prog 26 #[.agg #[.slice A0_0 l0_0.length c0_0,.slice A0_1 l0_1.length c0_1,.int .i64 a0_2,.int .i64 a0_3,.slice A0_4 l0_4.length c0_4],.slice A1 l1.length c1,.agg #[.slice A2_0 l2_0.length c2_0,.bool a2_1],.int .i64 a3] w fun e w' => ∃ v0_ v2_ : Value,e = .returned (.tuple #[.agg #[v0_,.bool r2],v2_,.int .i64 r4]) ∧ Kd.R k43 43 w' w.heap.size (fun _ => True) v0_ r1 ∧ Kd.R (Kd.int .i64) 3 w' w.heap.size (fun _ => True) v2_ r3 ∧ Below w.heap.size w w' := by
 have hu26:=Try.underlying26
 have hu31:=Try.underlying31
 have hu43:=Try.underlying43
 have HR0_0:=Aside0.mk hr0_0
 have HC0_0:=Aside0.mk hc0_0
 clear hr0_0 hc0_0
 have HR0_1:=Aside0.mk hr0_1
 have HC0_1:=Aside0.mk hc0_1
 clear hr0_1 hc0_1
 have HR0_4:=Aside0.mk hr0_4
 have HC0_4:=Aside0.mk hc0_4
 clear hr0_4 hc0_4
 have HR1:=Aside0.mk hr1
 have HC1:=Aside0.mk hc1
 clear hr1 hc1
 have HR2_0:=Aside0.mk hr2_0
 have HC2_0:=Aside0.mk hc2_0
 clear hr2_0 hc2_0
 have HB:=Aside0.mk (Below.refl w.heap.size w)
 have H : ((regletref16_Right.f k l0_0 l0_1 a0_2 a0_3 l0_4 l1).bind fun t232 => (if t232 = true then ((regletref16_stack.f k l0_0 l0_1 a0_2 a0_3 l0_4 l2_0).bind fun t233 => (if t233 = true then (if a3 < 0 then (regletref16_Feed.j0 k l1 a3 true l0_0 l0_1 a0_2 a0_3 l0_4 l2_0 a2_1) else (regletref16_Feed.j0 k l1 a3 (decide (a3 > (l0_1.length : Int))) l0_0 l0_1 a0_2 a0_3 l0_4 l2_0 a2_1)) else (regletref16_Feed.j0 k l1 a3 true l0_0 l0_1 a0_2 a0_3 l0_4 l2_0 a2_1))) else (regletref16_Feed.j0 k l1 a3 true l0_0 l0_1 a0_2 a0_3 l0_4 l2_0 a2_1))) = some (r1,r2,r3,r4) := h
 clear h
 have HC5:=Aside0.mk H
 clear H
 go_enter Try.func26,Try.ntmps26
 go_upto_region 1 with (first | ((with_reducible refine gate_dst (N:=4) rfl ?_);(try (refine gate_guard (by rfl) ?_;dsimp only));refine box_event ?hg (N:=4) ?hd (cs:=#[.slice A0_0 l0_0.length c0_0,.slice A0_1 l0_1.length c0_1,.int .i64 a0_2,.int .i64 a0_3,.slice A0_4 l0_4.length c0_4]) (t:=26) ?hr ?_;(case hd => rfl);(case hg => rfl);(case hr => first | (go_simp;done) | (go_simp;rfl));intro gb229 hg w6 hbox hb;have n0_:=Aside0.mk (below_step (by repeat (first | (with_reducible first | exact HB.out | apply below_alloc | apply pw_below_drewN | apply below_drew1) | exact HB.out)) hb);have n1_:=Aside0.mk (hbox);have n2_:=Aside0.mk ((by rw [hg];exact (below_size (by repeat (first | (with_reducible first | exact HB.out | apply below_alloc | apply pw_below_drewN | apply below_drew1) | exact HB.out))) : w.heap.size ≤ gb229));have n3_:=Aside0.mk ((by rw [hg];exact (below_size (by repeat (first | (with_reducible first | exact HB.out | apply below_alloc | apply pw_below_drewN | apply below_drew1) | exact HB.out))) : w.heap.size ≤ gb229));clear HB;have HB:=n0_;have BK229:=n1_;have GW229:=n2_;have GE229:=n3_;clear n0_ n1_ n2_ n3_;clear hb hbox hg) | ((with_reducible refine gate_dst (N:=6) rfl ?_);(try (refine gate_guard (by rfl) ?_;dsimp only));refine box_event ?hg (N:=6) ?hd (cs:=#[.slice A2_0 l2_0.length c2_0,.bool a2_1]) (t:=31) ?hr ?_;(case hd => rfl);(case hg => rfl);(case hr => first | (go_simp;done) | (go_simp;rfl));intro gb230 hg w7 hbox hb;have n0_:=Aside0.mk (blk_below (g:=gb229) (o := .cells #[.slice A0_0 l0_0.length c0_0,.slice A0_1 l0_1.length c0_1,.int .i64 a0_2,.int .i64 a0_3,.slice A0_4 l0_4.length c0_4] 26 (0,0)) (by (with_reducible repeat (first | refine blk_drewN ?_ _ | refine blk_drew ?_ | refine blk_alloc ?_ _));exact BK229.out) hb);have n1_:=Aside0.mk (below_step (by repeat (first | (with_reducible first | exact HB.out | apply below_alloc | apply pw_below_drewN | apply below_drew1 | refine below_set ?_ GE229.out) | exact HB.out)) hb);have n2_:=Aside0.mk (hbox);have n3_:=Aside0.mk ((by rw [hg];exact (below_size (by repeat (first | (with_reducible first | exact HB.out | apply below_alloc | apply pw_below_drewN | apply below_drew1 | refine below_set ?_ GE229.out) | exact HB.out))) : w.heap.size ≤ gb230));have n4_:=Aside0.mk ((by rw [hg];exact (below_size (by repeat (first | (with_reducible first | exact HB.out | apply below_alloc | apply pw_below_drewN | apply below_drew1 | refine below_set ?_ GE229.out) | exact HB.out))) : w.heap.size ≤ gb230));have n5_:=Aside0.mk ((by rw [hg];exact Nat.ne_of_lt (blk_lt (g:=gb229) (o := .cells #[.slice A0_0 l0_0.length c0_0,.slice A0_1 l0_1.length c0_1,.int .i64 a0_2,.int .i64 a0_3,.slice A0_4 l0_4.length c0_4] 26 (0,0)) (by (with_reducible repeat (first | refine blk_drewN ?_ _ | refine blk_drew ?_ | refine blk_alloc ?_ _));exact BK229.out)) : gb229 ≠ gb230));have n6_:=Aside0.mk ((by rw [hg];exact Nat.ne_of_gt (blk_lt (g:=gb229) (o := .cells #[.slice A0_0 l0_0.length c0_0,.slice A0_1 l0_1.length c0_1,.int .i64 a0_2,.int .i64 a0_3,.slice A0_4 l0_4.length c0_4] 26 (0,0)) (by (with_reducible repeat (first | refine blk_drewN ?_ _ | refine blk_drew ?_ | refine blk_alloc ?_ _));exact BK229.out)) : gb230 ≠ gb229));clear BK229;clear HB;have BK229:=n0_;have HB:=n1_;have BK230:=n2_;have GW230:=n3_;have GE230:=n4_;have NB229_230:=n5_;have NB230_229:=n6_;clear n0_ n1_ n2_ n3_ n4_ n5_ n6_;clear hb hbox hg) | ((with_reducible refine gate_dst (N:=8) rfl ?_);(try (refine gate_guard (by rfl) ?_;dsimp only));refine box_event ?hg (N:=8) ?hd (cs:=#[.slice none 0 0,.bool false]) (t:=31) ?hr ?_;(case hd => rfl);(case hg => rfl);(case hr => first | (go_simp;done) | (go_simp;rfl));intro gb231 hg w8 hbox hb;have n0_:=Aside0.mk (blk_below (g:=gb229) (o := .cells #[.slice A0_0 l0_0.length c0_0,.slice A0_1 l0_1.length c0_1,.int .i64 a0_2,.int .i64 a0_3,.slice A0_4 l0_4.length c0_4] 26 (0,0)) (by (with_reducible repeat (first | refine blk_drewN ?_ _ | refine blk_drew ?_ | refine blk_alloc ?_ _));exact BK229.out) hb);have n1_:=Aside0.mk (blk_below (g:=gb230) (o := .cells #[.slice A2_0 l2_0.length c2_0,.bool a2_1] 31 (0,0)) (by (with_reducible repeat (first | refine blk_drewN ?_ _ | refine blk_drew ?_ | refine blk_alloc ?_ _));exact BK230.out) hb);have n2_:=Aside0.mk (below_step (by repeat (first | (with_reducible first | exact HB.out | apply below_alloc | apply pw_below_drewN | apply below_drew1 | refine below_set ?_ GE229.out | refine below_set ?_ GE230.out) | exact HB.out)) hb);have n3_:=Aside0.mk (hbox);have n4_:=Aside0.mk ((by rw [hg];exact (below_size (by repeat (first | (with_reducible first | exact HB.out | apply below_alloc | apply pw_below_drewN | apply below_drew1 | refine below_set ?_ GE229.out | refine below_set ?_ GE230.out) | exact HB.out))) : w.heap.size ≤ gb231));have n5_:=Aside0.mk ((by rw [hg];exact (below_size (by repeat (first | (with_reducible first | exact HB.out | apply below_alloc | apply pw_below_drewN | apply below_drew1 | refine below_set ?_ GE229.out | refine below_set ?_ GE230.out) | exact HB.out))) : w.heap.size ≤ gb231));have n6_:=Aside0.mk ((by rw [hg];exact Nat.ne_of_lt (blk_lt (g:=gb229) (o := .cells #[.slice A0_0 l0_0.length c0_0,.slice A0_1 l0_1.length c0_1,.int .i64 a0_2,.int .i64 a0_3,.slice A0_4 l0_4.length c0_4] 26 (0,0)) (by (with_reducible repeat (first | refine blk_drewN ?_ _ | refine blk_drew ?_ | refine blk_alloc ?_ _));exact BK229.out)) : gb229 ≠ gb231));have n7_:=Aside0.mk ((by rw [hg];exact Nat.ne_of_gt (blk_lt (g:=gb229) (o := .cells #[.slice A0_0 l0_0.length c0_0,.slice A0_1 l0_1.length c0_1,.int .i64 a0_2,.int .i64 a0_3,.slice A0_4 l0_4.length c0_4] 26 (0,0)) (by (with_reducible repeat (first | refine blk_drewN ?_ _ | refine blk_drew ?_ | refine blk_alloc ?_ _));exact BK229.out)) : gb231 ≠ gb229));have n8_:=Aside0.mk ((by rw [hg];exact Nat.ne_of_lt (blk_lt (g:=gb230) (o := .cells #[.slice A2_0 l2_0.length c2_0,.bool a2_1] 31 (0,0)) (by (with_reducible repeat (first | refine blk_drewN ?_ _ | refine blk_drew ?_ | refine blk_alloc ?_ _));exact BK230.out)) : gb230 ≠ gb231));have n9_:=Aside0.mk ((by rw [hg];exact Nat.ne_of_gt (blk_lt (g:=gb230) (o := .cells #[.slice A2_0 l2_0.length c2_0,.bool a2_1] 31 (0,0)) (by (with_reducible repeat (first | refine blk_drewN ?_ _ | refine blk_drew ?_ | refine blk_alloc ?_ _));exact BK230.out)) : gb231 ≠ gb230));clear BK229;clear BK230;clear HB;have BK229:=n0_;have BK230:=n1_;have HB:=n2_;have BK231:=n3_;have GW231:=n4_;have GE231:=n5_;have NB229_231:=n6_;have NB231_229:=n7_;have NB230_231:=n8_;have NB231_230:=n9_;clear n0_ n1_ n2_ n3_ n4_ n5_ n6_ n7_ n8_ n9_;clear hb hbox hg))
 (try simp only [Act.put,List.setIfInBounds_toArray,List.set_cons_zero,List.set_cons_succ])
 go_cut [37] (fun v37 wc => ∃ (kq : Nat) (x37_4 : Bool),v37 = .bool x37_4 ∧ Aside0 (regletref16_Feed.j0 kq l1 a3 x37_4 l0_0 l0_1 a0_2 a0_3 l0_4 l2_0 a2_1 = some (r1,r2,r3,r4)) ∧ Aside0 (kq ≤ k) ∧ Aside0 (wc.heap[gb229]? = some (.cells #[(.slice A0_0 l0_0.length c0_0),(.slice A0_1 l0_1.length c0_1),.int .i64 a0_2,.int .i64 a0_3,(.slice A0_4 l0_4.length c0_4)] 26 (0,0))) ∧ Aside0 (wc.heap[gb230]? = some (.cells #[(.slice A2_0 l2_0.length c2_0),.bool a2_1] 31 (0,0))) ∧ Aside0 (wc.heap[gb231]? = some (.cells #[(.slice none 0 0),.bool false] 31 (0,0))) ∧ Aside0 (Below w.heap.size w wc))
 case first =>
  have H:=HC5.out
  clear HC5
  replace H:=Option.bind_eq_some_iff.mp H
  obtain ⟨t232,A90,H⟩ := H
  replace H : (if t232 = true then ((regletref16_stack.f k l0_0 l0_1 a0_2 a0_3 l0_4 l2_0).bind fun t233 => (if t233 = true then (if a3 < 0 then (regletref16_Feed.j0 k l1 a3 true l0_0 l0_1 a0_2 a0_3 l0_4 l2_0 a2_1) else (regletref16_Feed.j0 k l1 a3 (decide (a3 > (l0_1.length : Int))) l0_0 l0_1 a0_2 a0_3 l0_4 l2_0 a2_1)) else (regletref16_Feed.j0 k l1 a3 true l0_0 l0_1 a0_2 a0_3 l0_4 l2_0 a2_1))) else (regletref16_Feed.j0 k l1 a3 true l0_0 l0_1 a0_2 a0_3 l0_4 l2_0 a2_1)) = some (r1,r2,r3,r4) := H
  have A9:=Aside0.mk A90
  clear A90
  by_cases c10 : t232 = true
  · subst c10
    have H1 : ((regletref16_stack.f k l0_0 l0_1 a0_2 a0_3 l0_4 l2_0).bind fun t233 => (if t233 = true then (if a3 < 0 then (regletref16_Feed.j0 k l1 a3 true l0_0 l0_1 a0_2 a0_3 l0_4 l2_0 a2_1) else (regletref16_Feed.j0 k l1 a3 (decide (a3 > (l0_1.length : Int))) l0_0 l0_1 a0_2 a0_3 l0_4 l2_0 a2_1)) else (regletref16_Feed.j0 k l1 a3 true l0_0 l0_1 a0_2 a0_3 l0_4 l2_0 a2_1))) = some (r1,r2,r3,r4) := by rw [if_pos rfl] at H;exact H
    clear H
    have H:=H1
    clear H1
    replace H:=Option.bind_eq_some_iff.mp H
    obtain ⟨t233,A110,H⟩ := H
    replace H : (if t233 = true then (if a3 < 0 then (regletref16_Feed.j0 k l1 a3 true l0_0 l0_1 a0_2 a0_3 l0_4 l2_0 a2_1) else (regletref16_Feed.j0 k l1 a3 (decide (a3 > (l0_1.length : Int))) l0_0 l0_1 a0_2 a0_3 l0_4 l2_0 a2_1)) else (regletref16_Feed.j0 k l1 a3 true l0_0 l0_1 a0_2 a0_3 l0_4 l2_0 a2_1)) = some (r1,r2,r3,r4) := H
    have A11:=Aside0.mk A110
    clear A110
    by_cases c12 : t233 = true
    · subst c12
      have H1 : (if a3 < 0 then (regletref16_Feed.j0 k l1 a3 true l0_0 l0_1 a0_2 a0_3 l0_4 l2_0 a2_1) else (regletref16_Feed.j0 k l1 a3 (decide (a3 > (l0_1.length : Int))) l0_0 l0_1 a0_2 a0_3 l0_4 l2_0 a2_1)) = some (r1,r2,r3,r4) := by rw [if_pos rfl] at H;exact H
      clear H
      have H:=H1
      clear H1
      by_cases c13 : a3 < 0
      · rw [if_pos c13] at H
        have c13b0 : decide (a3 < 0) = true:=decide_eq_true c13
        clear c13
        (first | rw [c13b0] | (simp only [i64_w,i32_w];rw [c13b0]) | skip)
        have H' := Aside0.mk H
        clear H
        have hnb14:=NB229_230.out
        have hnc14:=NB230_229.out
        have hnb15:=NB229_231.out
        have hnc15:=NB231_229.out
        have hcz16_0 : w8.cell? ⟨gb229,0,none⟩ = some (.slice A0_0 l0_0.length c0_0) := (blk_cell BK229.out 0).trans rfl
        have hcz16_1 : w8.cell? ⟨gb229,1,none⟩ = some (.slice A0_1 l0_1.length c0_1) := (blk_cell BK229.out 1).trans rfl
        have hcz16_2 : w8.cell? ⟨gb229,2,none⟩ = some (.int .i64 a0_2) := (blk_cell BK229.out 2).trans rfl
        have hcz16_3 : w8.cell? ⟨gb229,3,none⟩ = some (.int .i64 a0_3) := (blk_cell BK229.out 3).trans rfl
        have hcz16_4 : w8.cell? ⟨gb229,4,none⟩ = some (.slice A0_4 l0_4.length c0_4) := (blk_cell BK229.out 4).trans rfl
        have hfz16_0:=blk_frozen BK229.out 0
        have hfz16_1:=blk_frozen BK229.out 1
        have hfz16_2:=blk_frozen BK229.out 2
        have hfz16_3:=blk_frozen BK229.out 3
        have hfz16_4:=blk_frozen BK229.out 4
        go_wp2_with (first | ((with_reducible refine gate_callee (f:=27) rfl ?_);refine goesL_ (some 18) rfl rfl Try.func27 (by kernel_rfl) rfl #[.agg #[.slice A0_0 l0_0.length c0_0,.slice A0_1 l0_1.length c0_1,.int .i64 a0_2,.int .i64 a0_3,.slice A0_4 l0_4.length c0_4],.slice A1 l1.length c1] rfl (by (try simp only [List.map_toArray,List.map_cons,List.map_nil]);first | done | rfl | (simp only [List.length_drop,List.length_take];rfl)) ?_;(with_reducible refine (regletref16_Right.calls k _ _ l0_0 _ _ l0_1 a0_2 a0_3 _ _ l0_4 _ _ l1 true _ ?side1 ?side2 ?side3 ?side4 ?side5 ?side6 ?side7 ?side8 A9.out).mono ?_);(case side1 => repeat (first | exact (Kd.C_below HR0_0.out HB.out) | (with_reducible refine Kd.C_alloc ?_ _) | (with_reducible refine Kd.C_drewN ?_ _) | (with_reducible refine Kd.C_drew ?_)));(case side2 => exact HC0_0.out);(case side3 => repeat (first | exact (Kd.C_below HR0_1.out HB.out) | (with_reducible refine Kd.C_alloc ?_ _) | (with_reducible refine Kd.C_drewN ?_ _) | (with_reducible refine Kd.C_drew ?_)));(case side4 => exact HC0_1.out);(case side5 => repeat (first | exact (Kd.C_below HR0_4.out HB.out) | (with_reducible refine Kd.C_alloc ?_ _) | (with_reducible refine Kd.C_drewN ?_ _) | (with_reducible refine Kd.C_drew ?_)));(case side6 => exact HC0_4.out);(case side7 => repeat (first | exact (Kd.C_below HR1.out HB.out) | (with_reducible refine Kd.C_alloc ?_ _) | (with_reducible refine Kd.C_drewN ?_ _) | (with_reducible refine Kd.C_drew ?_)));(case side8 => exact HC1.out);rintro e w17 ⟨rfl,hb⟩;refine ⟨_,rfl,?_⟩;have n0_:=Aside0.mk (blk_below (g:=gb229) (o := .cells #[.slice A0_0 l0_0.length c0_0,.slice A0_1 l0_1.length c0_1,.int .i64 a0_2,.int .i64 a0_3,.slice A0_4 l0_4.length c0_4] 26 (0,0)) (by (with_reducible repeat (first | refine blk_drewN ?_ _ | refine blk_drew ?_ | refine blk_alloc ?_ _));exact BK229.out) hb);have n1_:=Aside0.mk (blk_below (g:=gb230) (o := .cells #[.slice A2_0 l2_0.length c2_0,.bool a2_1] 31 (0,0)) (by (with_reducible repeat (first | refine blk_drewN ?_ _ | refine blk_drew ?_ | refine blk_alloc ?_ _));exact BK230.out) hb);have n2_:=Aside0.mk (blk_below (g:=gb231) (o := .cells #[.slice none 0 0,.bool false] 31 (0,0)) (by (with_reducible repeat (first | refine blk_drewN ?_ _ | refine blk_drew ?_ | refine blk_alloc ?_ _));exact BK231.out) hb);have n3_:=Aside0.mk (below_step (by repeat (first | (with_reducible first | exact HB.out | apply below_alloc | apply pw_below_drewN | apply below_drew1 | refine below_set ?_ GE229.out | refine below_set ?_ GE230.out | refine below_set ?_ GE231.out) | exact HB.out)) hb);clear BK229;clear BK230;clear BK231;clear HB;have BK229:=n0_;have BK230:=n1_;have BK231:=n2_;have HB:=n3_;clear n0_ n1_ n2_ n3_;(try clear hb);(try clear hb2);(try clear hk);(try clear hi);have hcz18_0 : w17.cell? ⟨gb229,0,none⟩ = some (.slice A0_0 l0_0.length c0_0) := (blk_cell BK229.out 0).trans rfl;have hcz18_1 : w17.cell? ⟨gb229,1,none⟩ = some (.slice A0_1 l0_1.length c0_1) := (blk_cell BK229.out 1).trans rfl;have hcz18_2 : w17.cell? ⟨gb229,2,none⟩ = some (.int .i64 a0_2) := (blk_cell BK229.out 2).trans rfl;have hcz18_3 : w17.cell? ⟨gb229,3,none⟩ = some (.int .i64 a0_3) := (blk_cell BK229.out 3).trans rfl;have hcz18_4 : w17.cell? ⟨gb229,4,none⟩ = some (.slice A0_4 l0_4.length c0_4) := (blk_cell BK229.out 4).trans rfl;have hfz18_0:=blk_frozen BK229.out 0;have hfz18_1:=blk_frozen BK229.out 1;have hfz18_2:=blk_frozen BK229.out 2;have hfz18_3:=blk_frozen BK229.out 3;have hfz18_4:=blk_frozen BK229.out 4;have hnb19:=NB230_231.out;have hnc19:=NB231_230.out;have hcz20_0 : w17.cell? ⟨gb230,0,none⟩ = some (.slice A2_0 l2_0.length c2_0) := (blk_cell BK230.out 0).trans rfl;have hcz20_1 : w17.cell? ⟨gb230,1,none⟩ = some (.bool a2_1) := (blk_cell BK230.out 1).trans rfl;have hfz20_0:=blk_frozen BK230.out 0;have hfz20_1:=blk_frozen BK230.out 1) | (go_at_call 42;(with_reducible refine (regletref16_stack.calls k _ _ l0_0 _ _ l0_1 a0_2 a0_3 _ _ l0_4 _ _ l2_0 true _ ?side1 ?side2 ?side3 ?side4 ?side5 ?side6 ?side7 ?side8 A11.out).mono ?_);(case side1 => repeat (first | exact (Kd.C_below HR0_0.out HB.out) | (with_reducible refine Kd.C_alloc ?_ _) | (with_reducible refine Kd.C_drewN ?_ _) | (with_reducible refine Kd.C_drew ?_)));(case side2 => exact HC0_0.out);(case side3 => repeat (first | exact (Kd.C_below HR0_1.out HB.out) | (with_reducible refine Kd.C_alloc ?_ _) | (with_reducible refine Kd.C_drewN ?_ _) | (with_reducible refine Kd.C_drew ?_)));(case side4 => exact HC0_1.out);(case side5 => repeat (first | exact (Kd.C_below HR0_4.out HB.out) | (with_reducible refine Kd.C_alloc ?_ _) | (with_reducible refine Kd.C_drewN ?_ _) | (with_reducible refine Kd.C_drew ?_)));(case side6 => exact HC0_4.out);(case side7 => repeat (first | exact (Kd.C_below HR2_0.out HB.out) | (with_reducible refine Kd.C_alloc ?_ _) | (with_reducible refine Kd.C_drewN ?_ _) | (with_reducible refine Kd.C_drew ?_)));(case side8 => exact HC2_0.out);rintro e w21 ⟨rfl,hb⟩;have n0_:=Aside0.mk (blk_below (g:=gb229) (o := .cells #[.slice A0_0 l0_0.length c0_0,.slice A0_1 l0_1.length c0_1,.int .i64 a0_2,.int .i64 a0_3,.slice A0_4 l0_4.length c0_4] 26 (0,0)) (by (with_reducible repeat (first | refine blk_drewN ?_ _ | refine blk_drew ?_ | refine blk_alloc ?_ _));exact BK229.out) hb);have n1_:=Aside0.mk (blk_below (g:=gb230) (o := .cells #[.slice A2_0 l2_0.length c2_0,.bool a2_1] 31 (0,0)) (by (with_reducible repeat (first | refine blk_drewN ?_ _ | refine blk_drew ?_ | refine blk_alloc ?_ _));exact BK230.out) hb);have n2_:=Aside0.mk (blk_below (g:=gb231) (o := .cells #[.slice none 0 0,.bool false] 31 (0,0)) (by (with_reducible repeat (first | refine blk_drewN ?_ _ | refine blk_drew ?_ | refine blk_alloc ?_ _));exact BK231.out) hb);have n3_:=Aside0.mk (below_step (by repeat (first | (with_reducible first | exact HB.out | apply below_alloc | apply pw_below_drewN | apply below_drew1 | refine below_set ?_ GE229.out | refine below_set ?_ GE230.out | refine below_set ?_ GE231.out) | exact HB.out)) hb);clear BK229;clear BK230;clear BK231;clear HB;have BK229:=n0_;have BK230:=n1_;have BK231:=n2_;have HB:=n3_;clear n0_ n1_ n2_ n3_;(try clear hb);(try clear hb2);(try clear hk);(try clear hi)))
        go_meet
        case rel => exact ⟨_,(true),(by first | rfl | (simp;done) | (simp [*];done)),H',⟨by first | omega | exact Nat.le_refl _⟩,⟨by (with_reducible repeat (first | refine blk_drewN ?_ _ | refine blk_drew ?_ | refine blk_alloc ?_ _));exact BK229.out⟩,⟨by (with_reducible repeat (first | refine blk_drewN ?_ _ | refine blk_drew ?_ | refine blk_alloc ?_ _));exact BK230.out⟩,⟨by (with_reducible repeat (first | refine blk_drewN ?_ _ | refine blk_drew ?_ | refine blk_alloc ?_ _));exact BK231.out⟩,⟨by repeat (first | (with_reducible first | exact HB.out | apply below_alloc | apply pw_below_drewN | apply below_drew1 | refine below_set ?_ GE229.out | refine below_set ?_ GE230.out | refine below_set ?_ GE231.out) | exact HB.out)⟩⟩
      · rw [if_neg c13] at H
        have c13b0 : decide (a3 < 0) = false:=decide_eq_false c13
        clear c13
        (first | rw [c13b0] | (simp only [i64_w,i32_w];rw [c13b0]) | skip)
        have H' := Aside0.mk H
        clear H
        have hnb22:=NB229_230.out
        have hnc22:=NB230_229.out
        have hnb23:=NB229_231.out
        have hnc23:=NB231_229.out
        have hcz24_0 : w8.cell? ⟨gb229,0,none⟩ = some (.slice A0_0 l0_0.length c0_0) := (blk_cell BK229.out 0).trans rfl
        have hcz24_1 : w8.cell? ⟨gb229,1,none⟩ = some (.slice A0_1 l0_1.length c0_1) := (blk_cell BK229.out 1).trans rfl
        have hcz24_2 : w8.cell? ⟨gb229,2,none⟩ = some (.int .i64 a0_2) := (blk_cell BK229.out 2).trans rfl
        have hcz24_3 : w8.cell? ⟨gb229,3,none⟩ = some (.int .i64 a0_3) := (blk_cell BK229.out 3).trans rfl
        have hcz24_4 : w8.cell? ⟨gb229,4,none⟩ = some (.slice A0_4 l0_4.length c0_4) := (blk_cell BK229.out 4).trans rfl
        have hfz24_0:=blk_frozen BK229.out 0
        have hfz24_1:=blk_frozen BK229.out 1
        have hfz24_2:=blk_frozen BK229.out 2
        have hfz24_3:=blk_frozen BK229.out 3
        have hfz24_4:=blk_frozen BK229.out 4
        go_wp2_with (first | ((with_reducible refine gate_callee (f:=27) rfl ?_);refine goesL_ (some 18) rfl rfl Try.func27 (by kernel_rfl) rfl #[.agg #[.slice A0_0 l0_0.length c0_0,.slice A0_1 l0_1.length c0_1,.int .i64 a0_2,.int .i64 a0_3,.slice A0_4 l0_4.length c0_4],.slice A1 l1.length c1] rfl (by (try simp only [List.map_toArray,List.map_cons,List.map_nil]);first | done | rfl | (simp only [List.length_drop,List.length_take];rfl)) ?_;(with_reducible refine (regletref16_Right.calls k _ _ l0_0 _ _ l0_1 a0_2 a0_3 _ _ l0_4 _ _ l1 true _ ?side1 ?side2 ?side3 ?side4 ?side5 ?side6 ?side7 ?side8 A9.out).mono ?_);(case side1 => repeat (first | exact (Kd.C_below HR0_0.out HB.out) | (with_reducible refine Kd.C_alloc ?_ _) | (with_reducible refine Kd.C_drewN ?_ _) | (with_reducible refine Kd.C_drew ?_)));(case side2 => exact HC0_0.out);(case side3 => repeat (first | exact (Kd.C_below HR0_1.out HB.out) | (with_reducible refine Kd.C_alloc ?_ _) | (with_reducible refine Kd.C_drewN ?_ _) | (with_reducible refine Kd.C_drew ?_)));(case side4 => exact HC0_1.out);(case side5 => repeat (first | exact (Kd.C_below HR0_4.out HB.out) | (with_reducible refine Kd.C_alloc ?_ _) | (with_reducible refine Kd.C_drewN ?_ _) | (with_reducible refine Kd.C_drew ?_)));(case side6 => exact HC0_4.out);(case side7 => repeat (first | exact (Kd.C_below HR1.out HB.out) | (with_reducible refine Kd.C_alloc ?_ _) | (with_reducible refine Kd.C_drewN ?_ _) | (with_reducible refine Kd.C_drew ?_)));(case side8 => exact HC1.out);rintro e w25 ⟨rfl,hb⟩;refine ⟨_,rfl,?_⟩;have n0_:=Aside0.mk (blk_below (g:=gb229) (o := .cells #[.slice A0_0 l0_0.length c0_0,.slice A0_1 l0_1.length c0_1,.int .i64 a0_2,.int .i64 a0_3,.slice A0_4 l0_4.length c0_4] 26 (0,0)) (by (with_reducible repeat (first | refine blk_drewN ?_ _ | refine blk_drew ?_ | refine blk_alloc ?_ _));exact BK229.out) hb);have n1_:=Aside0.mk (blk_below (g:=gb230) (o := .cells #[.slice A2_0 l2_0.length c2_0,.bool a2_1] 31 (0,0)) (by (with_reducible repeat (first | refine blk_drewN ?_ _ | refine blk_drew ?_ | refine blk_alloc ?_ _));exact BK230.out) hb);have n2_:=Aside0.mk (blk_below (g:=gb231) (o := .cells #[.slice none 0 0,.bool false] 31 (0,0)) (by (with_reducible repeat (first | refine blk_drewN ?_ _ | refine blk_drew ?_ | refine blk_alloc ?_ _));exact BK231.out) hb);have n3_:=Aside0.mk (below_step (by repeat (first | (with_reducible first | exact HB.out | apply below_alloc | apply pw_below_drewN | apply below_drew1 | refine below_set ?_ GE229.out | refine below_set ?_ GE230.out | refine below_set ?_ GE231.out) | exact HB.out)) hb);clear BK229;clear BK230;clear BK231;clear HB;have BK229:=n0_;have BK230:=n1_;have BK231:=n2_;have HB:=n3_;clear n0_ n1_ n2_ n3_;(try clear hb);(try clear hb2);(try clear hk);(try clear hi);have hcz26_0 : w25.cell? ⟨gb229,0,none⟩ = some (.slice A0_0 l0_0.length c0_0) := (blk_cell BK229.out 0).trans rfl;have hcz26_1 : w25.cell? ⟨gb229,1,none⟩ = some (.slice A0_1 l0_1.length c0_1) := (blk_cell BK229.out 1).trans rfl;have hcz26_2 : w25.cell? ⟨gb229,2,none⟩ = some (.int .i64 a0_2) := (blk_cell BK229.out 2).trans rfl;have hcz26_3 : w25.cell? ⟨gb229,3,none⟩ = some (.int .i64 a0_3) := (blk_cell BK229.out 3).trans rfl;have hcz26_4 : w25.cell? ⟨gb229,4,none⟩ = some (.slice A0_4 l0_4.length c0_4) := (blk_cell BK229.out 4).trans rfl;have hfz26_0:=blk_frozen BK229.out 0;have hfz26_1:=blk_frozen BK229.out 1;have hfz26_2:=blk_frozen BK229.out 2;have hfz26_3:=blk_frozen BK229.out 3;have hfz26_4:=blk_frozen BK229.out 4;have hnb27:=NB230_231.out;have hnc27:=NB231_230.out;have hcz28_0 : w25.cell? ⟨gb230,0,none⟩ = some (.slice A2_0 l2_0.length c2_0) := (blk_cell BK230.out 0).trans rfl;have hcz28_1 : w25.cell? ⟨gb230,1,none⟩ = some (.bool a2_1) := (blk_cell BK230.out 1).trans rfl;have hfz28_0:=blk_frozen BK230.out 0;have hfz28_1:=blk_frozen BK230.out 1) | (go_at_call 42;(with_reducible refine (regletref16_stack.calls k _ _ l0_0 _ _ l0_1 a0_2 a0_3 _ _ l0_4 _ _ l2_0 true _ ?side1 ?side2 ?side3 ?side4 ?side5 ?side6 ?side7 ?side8 A11.out).mono ?_);(case side1 => repeat (first | exact (Kd.C_below HR0_0.out HB.out) | (with_reducible refine Kd.C_alloc ?_ _) | (with_reducible refine Kd.C_drewN ?_ _) | (with_reducible refine Kd.C_drew ?_)));(case side2 => exact HC0_0.out);(case side3 => repeat (first | exact (Kd.C_below HR0_1.out HB.out) | (with_reducible refine Kd.C_alloc ?_ _) | (with_reducible refine Kd.C_drewN ?_ _) | (with_reducible refine Kd.C_drew ?_)));(case side4 => exact HC0_1.out);(case side5 => repeat (first | exact (Kd.C_below HR0_4.out HB.out) | (with_reducible refine Kd.C_alloc ?_ _) | (with_reducible refine Kd.C_drewN ?_ _) | (with_reducible refine Kd.C_drew ?_)));(case side6 => exact HC0_4.out);(case side7 => repeat (first | exact (Kd.C_below HR2_0.out HB.out) | (with_reducible refine Kd.C_alloc ?_ _) | (with_reducible refine Kd.C_drewN ?_ _) | (with_reducible refine Kd.C_drew ?_)));(case side8 => exact HC2_0.out);rintro e w29 ⟨rfl,hb⟩;have n0_:=Aside0.mk (blk_below (g:=gb229) (o := .cells #[.slice A0_0 l0_0.length c0_0,.slice A0_1 l0_1.length c0_1,.int .i64 a0_2,.int .i64 a0_3,.slice A0_4 l0_4.length c0_4] 26 (0,0)) (by (with_reducible repeat (first | refine blk_drewN ?_ _ | refine blk_drew ?_ | refine blk_alloc ?_ _));exact BK229.out) hb);have n1_:=Aside0.mk (blk_below (g:=gb230) (o := .cells #[.slice A2_0 l2_0.length c2_0,.bool a2_1] 31 (0,0)) (by (with_reducible repeat (first | refine blk_drewN ?_ _ | refine blk_drew ?_ | refine blk_alloc ?_ _));exact BK230.out) hb);have n2_:=Aside0.mk (blk_below (g:=gb231) (o := .cells #[.slice none 0 0,.bool false] 31 (0,0)) (by (with_reducible repeat (first | refine blk_drewN ?_ _ | refine blk_drew ?_ | refine blk_alloc ?_ _));exact BK231.out) hb);have n3_:=Aside0.mk (below_step (by repeat (first | (with_reducible first | exact HB.out | apply below_alloc | apply pw_below_drewN | apply below_drew1 | refine below_set ?_ GE229.out | refine below_set ?_ GE230.out | refine below_set ?_ GE231.out) | exact HB.out)) hb);clear BK229;clear BK230;clear BK231;clear HB;have BK229:=n0_;have BK230:=n1_;have BK231:=n2_;have HB:=n3_;clear n0_ n1_ n2_ n3_;(try clear hb);(try clear hb2);(try clear hk);(try clear hi);have hcz30_0 : w29.cell? ⟨gb229,0,none⟩ = some (.slice A0_0 l0_0.length c0_0) := (blk_cell BK229.out 0).trans rfl;have hcz30_1 : w29.cell? ⟨gb229,1,none⟩ = some (.slice A0_1 l0_1.length c0_1) := (blk_cell BK229.out 1).trans rfl;have hcz30_2 : w29.cell? ⟨gb229,2,none⟩ = some (.int .i64 a0_2) := (blk_cell BK229.out 2).trans rfl;have hcz30_3 : w29.cell? ⟨gb229,3,none⟩ = some (.int .i64 a0_3) := (blk_cell BK229.out 3).trans rfl;have hcz30_4 : w29.cell? ⟨gb229,4,none⟩ = some (.slice A0_4 l0_4.length c0_4) := (blk_cell BK229.out 4).trans rfl;have hfz30_0:=blk_frozen BK229.out 0;have hfz30_1:=blk_frozen BK229.out 1;have hfz30_2:=blk_frozen BK229.out 2;have hfz30_3:=blk_frozen BK229.out 3;have hfz30_4:=blk_frozen BK229.out 4))
        go_meet
        case rel => exact ⟨_,(decide (a3 > (l0_1.length : Int))),(by first | rfl | (simp;done) | (simp [*];done)),H',⟨by first | omega | exact Nat.le_refl _⟩,⟨by (with_reducible repeat (first | refine blk_drewN ?_ _ | refine blk_drew ?_ | refine blk_alloc ?_ _));exact BK229.out⟩,⟨by (with_reducible repeat (first | refine blk_drewN ?_ _ | refine blk_drew ?_ | refine blk_alloc ?_ _));exact BK230.out⟩,⟨by (with_reducible repeat (first | refine blk_drewN ?_ _ | refine blk_drew ?_ | refine blk_alloc ?_ _));exact BK231.out⟩,⟨by repeat (first | (with_reducible first | exact HB.out | apply below_alloc | apply pw_below_drewN | apply below_drew1 | refine below_set ?_ GE229.out | refine below_set ?_ GE230.out | refine below_set ?_ GE231.out) | exact HB.out)⟩⟩
    · replace c12:=Bool.eq_false_iff.mpr c12
      subst c12
      have H1 : (regletref16_Feed.j0 k l1 a3 true l0_0 l0_1 a0_2 a0_3 l0_4 l2_0 a2_1) = some (r1,r2,r3,r4) := by rw [if_neg (show ¬ (false = true) by decide)] at H;exact H
      clear H
      have H:=H1
      clear H1
      have H' := Aside0.mk H
      clear H
      have hnb31:=NB229_230.out
      have hnc31:=NB230_229.out
      have hnb32:=NB229_231.out
      have hnc32:=NB231_229.out
      have hcz33_0 : w8.cell? ⟨gb229,0,none⟩ = some (.slice A0_0 l0_0.length c0_0) := (blk_cell BK229.out 0).trans rfl
      have hcz33_1 : w8.cell? ⟨gb229,1,none⟩ = some (.slice A0_1 l0_1.length c0_1) := (blk_cell BK229.out 1).trans rfl
      have hcz33_2 : w8.cell? ⟨gb229,2,none⟩ = some (.int .i64 a0_2) := (blk_cell BK229.out 2).trans rfl
      have hcz33_3 : w8.cell? ⟨gb229,3,none⟩ = some (.int .i64 a0_3) := (blk_cell BK229.out 3).trans rfl
      have hcz33_4 : w8.cell? ⟨gb229,4,none⟩ = some (.slice A0_4 l0_4.length c0_4) := (blk_cell BK229.out 4).trans rfl
      have hfz33_0:=blk_frozen BK229.out 0
      have hfz33_1:=blk_frozen BK229.out 1
      have hfz33_2:=blk_frozen BK229.out 2
      have hfz33_3:=blk_frozen BK229.out 3
      have hfz33_4:=blk_frozen BK229.out 4
      go_wp2_with (first | ((with_reducible refine gate_callee (f:=27) rfl ?_);refine goesL_ (some 18) rfl rfl Try.func27 (by kernel_rfl) rfl #[.agg #[.slice A0_0 l0_0.length c0_0,.slice A0_1 l0_1.length c0_1,.int .i64 a0_2,.int .i64 a0_3,.slice A0_4 l0_4.length c0_4],.slice A1 l1.length c1] rfl (by (try simp only [List.map_toArray,List.map_cons,List.map_nil]);first | done | rfl | (simp only [List.length_drop,List.length_take];rfl)) ?_;(with_reducible refine (regletref16_Right.calls k _ _ l0_0 _ _ l0_1 a0_2 a0_3 _ _ l0_4 _ _ l1 true _ ?side1 ?side2 ?side3 ?side4 ?side5 ?side6 ?side7 ?side8 A9.out).mono ?_);(case side1 => repeat (first | exact (Kd.C_below HR0_0.out HB.out) | (with_reducible refine Kd.C_alloc ?_ _) | (with_reducible refine Kd.C_drewN ?_ _) | (with_reducible refine Kd.C_drew ?_)));(case side2 => exact HC0_0.out);(case side3 => repeat (first | exact (Kd.C_below HR0_1.out HB.out) | (with_reducible refine Kd.C_alloc ?_ _) | (with_reducible refine Kd.C_drewN ?_ _) | (with_reducible refine Kd.C_drew ?_)));(case side4 => exact HC0_1.out);(case side5 => repeat (first | exact (Kd.C_below HR0_4.out HB.out) | (with_reducible refine Kd.C_alloc ?_ _) | (with_reducible refine Kd.C_drewN ?_ _) | (with_reducible refine Kd.C_drew ?_)));(case side6 => exact HC0_4.out);(case side7 => repeat (first | exact (Kd.C_below HR1.out HB.out) | (with_reducible refine Kd.C_alloc ?_ _) | (with_reducible refine Kd.C_drewN ?_ _) | (with_reducible refine Kd.C_drew ?_)));(case side8 => exact HC1.out);rintro e w34 ⟨rfl,hb⟩;refine ⟨_,rfl,?_⟩;have n0_:=Aside0.mk (blk_below (g:=gb229) (o := .cells #[.slice A0_0 l0_0.length c0_0,.slice A0_1 l0_1.length c0_1,.int .i64 a0_2,.int .i64 a0_3,.slice A0_4 l0_4.length c0_4] 26 (0,0)) (by (with_reducible repeat (first | refine blk_drewN ?_ _ | refine blk_drew ?_ | refine blk_alloc ?_ _));exact BK229.out) hb);have n1_:=Aside0.mk (blk_below (g:=gb230) (o := .cells #[.slice A2_0 l2_0.length c2_0,.bool a2_1] 31 (0,0)) (by (with_reducible repeat (first | refine blk_drewN ?_ _ | refine blk_drew ?_ | refine blk_alloc ?_ _));exact BK230.out) hb);have n2_:=Aside0.mk (blk_below (g:=gb231) (o := .cells #[.slice none 0 0,.bool false] 31 (0,0)) (by (with_reducible repeat (first | refine blk_drewN ?_ _ | refine blk_drew ?_ | refine blk_alloc ?_ _));exact BK231.out) hb);have n3_:=Aside0.mk (below_step (by repeat (first | (with_reducible first | exact HB.out | apply below_alloc | apply pw_below_drewN | apply below_drew1 | refine below_set ?_ GE229.out | refine below_set ?_ GE230.out | refine below_set ?_ GE231.out) | exact HB.out)) hb);clear BK229;clear BK230;clear BK231;clear HB;have BK229:=n0_;have BK230:=n1_;have BK231:=n2_;have HB:=n3_;clear n0_ n1_ n2_ n3_;(try clear hb);(try clear hb2);(try clear hk);(try clear hi);have hcz35_0 : w34.cell? ⟨gb229,0,none⟩ = some (.slice A0_0 l0_0.length c0_0) := (blk_cell BK229.out 0).trans rfl;have hcz35_1 : w34.cell? ⟨gb229,1,none⟩ = some (.slice A0_1 l0_1.length c0_1) := (blk_cell BK229.out 1).trans rfl;have hcz35_2 : w34.cell? ⟨gb229,2,none⟩ = some (.int .i64 a0_2) := (blk_cell BK229.out 2).trans rfl;have hcz35_3 : w34.cell? ⟨gb229,3,none⟩ = some (.int .i64 a0_3) := (blk_cell BK229.out 3).trans rfl;have hcz35_4 : w34.cell? ⟨gb229,4,none⟩ = some (.slice A0_4 l0_4.length c0_4) := (blk_cell BK229.out 4).trans rfl;have hfz35_0:=blk_frozen BK229.out 0;have hfz35_1:=blk_frozen BK229.out 1;have hfz35_2:=blk_frozen BK229.out 2;have hfz35_3:=blk_frozen BK229.out 3;have hfz35_4:=blk_frozen BK229.out 4;have hnb36:=NB230_231.out;have hnc36:=NB231_230.out;have hcz37_0 : w34.cell? ⟨gb230,0,none⟩ = some (.slice A2_0 l2_0.length c2_0) := (blk_cell BK230.out 0).trans rfl;have hcz37_1 : w34.cell? ⟨gb230,1,none⟩ = some (.bool a2_1) := (blk_cell BK230.out 1).trans rfl;have hfz37_0:=blk_frozen BK230.out 0;have hfz37_1:=blk_frozen BK230.out 1) | (go_at_call 42;(with_reducible refine (regletref16_stack.calls k _ _ l0_0 _ _ l0_1 a0_2 a0_3 _ _ l0_4 _ _ l2_0 false _ ?side1 ?side2 ?side3 ?side4 ?side5 ?side6 ?side7 ?side8 A11.out).mono ?_);(case side1 => repeat (first | exact (Kd.C_below HR0_0.out HB.out) | (with_reducible refine Kd.C_alloc ?_ _) | (with_reducible refine Kd.C_drewN ?_ _) | (with_reducible refine Kd.C_drew ?_)));(case side2 => exact HC0_0.out);(case side3 => repeat (first | exact (Kd.C_below HR0_1.out HB.out) | (with_reducible refine Kd.C_alloc ?_ _) | (with_reducible refine Kd.C_drewN ?_ _) | (with_reducible refine Kd.C_drew ?_)));(case side4 => exact HC0_1.out);(case side5 => repeat (first | exact (Kd.C_below HR0_4.out HB.out) | (with_reducible refine Kd.C_alloc ?_ _) | (with_reducible refine Kd.C_drewN ?_ _) | (with_reducible refine Kd.C_drew ?_)));(case side6 => exact HC0_4.out);(case side7 => repeat (first | exact (Kd.C_below HR2_0.out HB.out) | (with_reducible refine Kd.C_alloc ?_ _) | (with_reducible refine Kd.C_drewN ?_ _) | (with_reducible refine Kd.C_drew ?_)));(case side8 => exact HC2_0.out);rintro e w38 ⟨rfl,hb⟩;have n0_:=Aside0.mk (blk_below (g:=gb229) (o := .cells #[.slice A0_0 l0_0.length c0_0,.slice A0_1 l0_1.length c0_1,.int .i64 a0_2,.int .i64 a0_3,.slice A0_4 l0_4.length c0_4] 26 (0,0)) (by (with_reducible repeat (first | refine blk_drewN ?_ _ | refine blk_drew ?_ | refine blk_alloc ?_ _));exact BK229.out) hb);have n1_:=Aside0.mk (blk_below (g:=gb230) (o := .cells #[.slice A2_0 l2_0.length c2_0,.bool a2_1] 31 (0,0)) (by (with_reducible repeat (first | refine blk_drewN ?_ _ | refine blk_drew ?_ | refine blk_alloc ?_ _));exact BK230.out) hb);have n2_:=Aside0.mk (blk_below (g:=gb231) (o := .cells #[.slice none 0 0,.bool false] 31 (0,0)) (by (with_reducible repeat (first | refine blk_drewN ?_ _ | refine blk_drew ?_ | refine blk_alloc ?_ _));exact BK231.out) hb);have n3_:=Aside0.mk (below_step (by repeat (first | (with_reducible first | exact HB.out | apply below_alloc | apply pw_below_drewN | apply below_drew1 | refine below_set ?_ GE229.out | refine below_set ?_ GE230.out | refine below_set ?_ GE231.out) | exact HB.out)) hb);clear BK229;clear BK230;clear BK231;clear HB;have BK229:=n0_;have BK230:=n1_;have BK231:=n2_;have HB:=n3_;clear n0_ n1_ n2_ n3_;(try clear hb);(try clear hb2);(try clear hk);(try clear hi)))
      go_meet
      case rel => exact ⟨_,(true),(by first | rfl | (simp;done) | (simp [*];done)),H',⟨by first | omega | exact Nat.le_refl _⟩,⟨by (with_reducible repeat (first | refine blk_drewN ?_ _ | refine blk_drew ?_ | refine blk_alloc ?_ _));exact BK229.out⟩,⟨by (with_reducible repeat (first | refine blk_drewN ?_ _ | refine blk_drew ?_ | refine blk_alloc ?_ _));exact BK230.out⟩,⟨by (with_reducible repeat (first | refine blk_drewN ?_ _ | refine blk_drew ?_ | refine blk_alloc ?_ _));exact BK231.out⟩,⟨by repeat (first | (with_reducible first | exact HB.out | apply below_alloc | apply pw_below_drewN | apply below_drew1 | refine below_set ?_ GE229.out | refine below_set ?_ GE230.out | refine below_set ?_ GE231.out) | exact HB.out)⟩⟩
  · replace c10:=Bool.eq_false_iff.mpr c10
    subst c10
    have H1 : (regletref16_Feed.j0 k l1 a3 true l0_0 l0_1 a0_2 a0_3 l0_4 l2_0 a2_1) = some (r1,r2,r3,r4) := by rw [if_neg (show ¬ (false = true) by decide)] at H;exact H
    clear H
    have H:=H1
    clear H1
    have H' := Aside0.mk H
    clear H
    have hnb39:=NB229_230.out
    have hnc39:=NB230_229.out
    have hnb40:=NB229_231.out
    have hnc40:=NB231_229.out
    have hcz41_0 : w8.cell? ⟨gb229,0,none⟩ = some (.slice A0_0 l0_0.length c0_0) := (blk_cell BK229.out 0).trans rfl
    have hcz41_1 : w8.cell? ⟨gb229,1,none⟩ = some (.slice A0_1 l0_1.length c0_1) := (blk_cell BK229.out 1).trans rfl
    have hcz41_2 : w8.cell? ⟨gb229,2,none⟩ = some (.int .i64 a0_2) := (blk_cell BK229.out 2).trans rfl
    have hcz41_3 : w8.cell? ⟨gb229,3,none⟩ = some (.int .i64 a0_3) := (blk_cell BK229.out 3).trans rfl
    have hcz41_4 : w8.cell? ⟨gb229,4,none⟩ = some (.slice A0_4 l0_4.length c0_4) := (blk_cell BK229.out 4).trans rfl
    have hfz41_0:=blk_frozen BK229.out 0
    have hfz41_1:=blk_frozen BK229.out 1
    have hfz41_2:=blk_frozen BK229.out 2
    have hfz41_3:=blk_frozen BK229.out 3
    have hfz41_4:=blk_frozen BK229.out 4
    go_wp2_with (first | ((with_reducible refine gate_callee (f:=27) rfl ?_);refine goesL_ (some 18) rfl rfl Try.func27 (by kernel_rfl) rfl #[.agg #[.slice A0_0 l0_0.length c0_0,.slice A0_1 l0_1.length c0_1,.int .i64 a0_2,.int .i64 a0_3,.slice A0_4 l0_4.length c0_4],.slice A1 l1.length c1] rfl (by (try simp only [List.map_toArray,List.map_cons,List.map_nil]);first | done | rfl | (simp only [List.length_drop,List.length_take];rfl)) ?_;(with_reducible refine (regletref16_Right.calls k _ _ l0_0 _ _ l0_1 a0_2 a0_3 _ _ l0_4 _ _ l1 false _ ?side1 ?side2 ?side3 ?side4 ?side5 ?side6 ?side7 ?side8 A9.out).mono ?_);(case side1 => repeat (first | exact (Kd.C_below HR0_0.out HB.out) | (with_reducible refine Kd.C_alloc ?_ _) | (with_reducible refine Kd.C_drewN ?_ _) | (with_reducible refine Kd.C_drew ?_)));(case side2 => exact HC0_0.out);(case side3 => repeat (first | exact (Kd.C_below HR0_1.out HB.out) | (with_reducible refine Kd.C_alloc ?_ _) | (with_reducible refine Kd.C_drewN ?_ _) | (with_reducible refine Kd.C_drew ?_)));(case side4 => exact HC0_1.out);(case side5 => repeat (first | exact (Kd.C_below HR0_4.out HB.out) | (with_reducible refine Kd.C_alloc ?_ _) | (with_reducible refine Kd.C_drewN ?_ _) | (with_reducible refine Kd.C_drew ?_)));(case side6 => exact HC0_4.out);(case side7 => repeat (first | exact (Kd.C_below HR1.out HB.out) | (with_reducible refine Kd.C_alloc ?_ _) | (with_reducible refine Kd.C_drewN ?_ _) | (with_reducible refine Kd.C_drew ?_)));(case side8 => exact HC1.out);rintro e w42 ⟨rfl,hb⟩;refine ⟨_,rfl,?_⟩;have n0_:=Aside0.mk (blk_below (g:=gb229) (o := .cells #[.slice A0_0 l0_0.length c0_0,.slice A0_1 l0_1.length c0_1,.int .i64 a0_2,.int .i64 a0_3,.slice A0_4 l0_4.length c0_4] 26 (0,0)) (by (with_reducible repeat (first | refine blk_drewN ?_ _ | refine blk_drew ?_ | refine blk_alloc ?_ _));exact BK229.out) hb);have n1_:=Aside0.mk (blk_below (g:=gb230) (o := .cells #[.slice A2_0 l2_0.length c2_0,.bool a2_1] 31 (0,0)) (by (with_reducible repeat (first | refine blk_drewN ?_ _ | refine blk_drew ?_ | refine blk_alloc ?_ _));exact BK230.out) hb);have n2_:=Aside0.mk (blk_below (g:=gb231) (o := .cells #[.slice none 0 0,.bool false] 31 (0,0)) (by (with_reducible repeat (first | refine blk_drewN ?_ _ | refine blk_drew ?_ | refine blk_alloc ?_ _));exact BK231.out) hb);have n3_:=Aside0.mk (below_step (by repeat (first | (with_reducible first | exact HB.out | apply below_alloc | apply pw_below_drewN | apply below_drew1 | refine below_set ?_ GE229.out | refine below_set ?_ GE230.out | refine below_set ?_ GE231.out) | exact HB.out)) hb);clear BK229;clear BK230;clear BK231;clear HB;have BK229:=n0_;have BK230:=n1_;have BK231:=n2_;have HB:=n3_;clear n0_ n1_ n2_ n3_;(try clear hb);(try clear hb2);(try clear hk);(try clear hi)))
    go_meet
    case rel => exact ⟨_,(true),(by first | rfl | (simp;done) | (simp [*];done)),H',⟨by first | omega | exact Nat.le_refl _⟩,⟨by (with_reducible repeat (first | refine blk_drewN ?_ _ | refine blk_drew ?_ | refine blk_alloc ?_ _));exact BK229.out⟩,⟨by (with_reducible repeat (first | refine blk_drewN ?_ _ | refine blk_drew ?_ | refine blk_alloc ?_ _));exact BK230.out⟩,⟨by (with_reducible repeat (first | refine blk_drewN ?_ _ | refine blk_drew ?_ | refine blk_alloc ?_ _));exact BK231.out⟩,⟨by repeat (first | (with_reducible first | exact HB.out | apply below_alloc | apply pw_below_drewN | apply below_drew1 | refine below_set ?_ GE229.out | refine below_set ?_ GE230.out | refine below_set ?_ GE231.out) | exact HB.out)⟩⟩
 case rest =>
  clear HC5
  (try clear c1);(try clear c2);(try clear p2);(try clear c3);(try clear c4);(try clear c10);(try clear c12);(try clear c13);(try clear c13b0);(try clear c14);(try clear c15);(try clear c19);(try clear c22);(try clear c23);(try clear c26);(try clear c27);(try clear c31);(try clear c32);(try clear c36);(try clear c39);(try clear c40);(try clear hcz16_0);(try clear hcz16_1);(try clear hcz16_2);(try clear hcz16_3)
  (try clear hcz16_4);(try clear hcz18_0);(try clear hcz18_1);(try clear hcz18_2);(try clear hcz18_3);(try clear hcz18_4);(try clear hcz20_0);(try clear hcz20_1);(try clear hcz24_0);(try clear hcz24_1);(try clear hcz24_2);(try clear hcz24_3);(try clear hcz24_4);(try clear hcz26_0);(try clear hcz26_1);(try clear hcz26_2);(try clear hcz26_3);(try clear hcz26_4);(try clear hcz28_0);(try clear hcz28_1);(try clear hcz30_0)
  (try clear hcz30_1);(try clear hcz30_2);(try clear hcz30_3);(try clear hcz30_4);(try clear hcz33_0);(try clear hcz33_1);(try clear hcz33_2);(try clear hcz33_3);(try clear hcz33_4);(try clear hcz35_0);(try clear hcz35_1);(try clear hcz35_2);(try clear hcz35_3);(try clear hcz35_4);(try clear hcz37_0);(try clear hcz37_1);(try clear hcz41_0);(try clear hcz41_1);(try clear hcz41_2);(try clear hcz41_3);(try clear hcz41_4)
  (try clear hfz16_0);(try clear hfz16_1);(try clear hfz16_2);(try clear hfz16_3);(try clear hfz16_4);(try clear hfz18_0);(try clear hfz18_1);(try clear hfz18_2);(try clear hfz18_3);(try clear hfz18_4);(try clear hfz20_0);(try clear hfz20_1);(try clear hfz24_0);(try clear hfz24_1);(try clear hfz24_2);(try clear hfz24_3);(try clear hfz24_4);(try clear hfz26_0);(try clear hfz26_1);(try clear hfz26_2);(try clear hfz26_3)
  (try clear hfz26_4);(try clear hfz28_0);(try clear hfz28_1);(try clear hfz30_0);(try clear hfz30_1);(try clear hfz30_2);(try clear hfz30_3);(try clear hfz30_4);(try clear hfz33_0);(try clear hfz33_1);(try clear hfz33_2);(try clear hfz33_3);(try clear hfz33_4);(try clear hfz35_0);(try clear hfz35_1);(try clear hfz35_2);(try clear hfz35_3);(try clear hfz35_4);(try clear hfz37_0);(try clear hfz37_1);(try clear hfz41_0)
  (try clear hfz41_1);(try clear hfz41_2);(try clear hfz41_3);(try clear hfz41_4)
  obtain ⟨kq,x37_4,rfl,HA,HJ4,BK229,BK230,BK231,HB⟩ := hcut
  cases kq with
  | zero => exact absurd HA.out (by simp [regletref16_Feed.j0])
  | succ kj4 =>
   have H:=HA.out
   clear HA
   simp only [regletref16_Feed.j0] at H
   by_cases c43 : x37_4 = true
   · subst c43
     have H1 : (some (([] : List (S43)),true,([] : List Int),1)) = some (r1,r2,r3,r4) := by rw [if_pos rfl] at H;exact H
     clear H
     have H:=H1
     clear H1
     simp only [Option.some.injEq,Prod.mk.injEq] at H
     obtain ⟨rfl,rfl,rfl,rfl⟩ := H
     have hnb44:=NB231_229.out
     have hnc44:=NB229_231.out
     have hnb45:=NB231_230.out
     have hnc45:=NB230_231.out
     have hcz46_0 : wc.cell? ⟨gb231,0,none⟩ = some (.slice none 0 0) := (blk_cell BK231.out 0).trans rfl
     have hcz46_1 : wc.cell? ⟨gb231,1,none⟩ = some (.bool false) := (blk_cell BK231.out 1).trans rfl
     have hfz46_0:=blk_frozen BK231.out 0
     have hfz46_1:=blk_frozen BK231.out 1
     go_wp2
     refine bodyPost_ret (results_ctt rfl _ _ gb231 31 #[.slice none 0 0,.bool true] (0,0) _ rfl (by (with_reducible repeat (first | refine blk_drewN ?_ _ | refine blk_drew ?_ | refine blk_alloc ?_ _));refine blk_put (cs:=#[.slice none 0 0,.bool false]) ?_ 1 _ rfl;(with_reducible repeat (first | refine blk_drewN ?_ _ | refine blk_drew ?_ | refine blk_alloc ?_ _));refine blk_put (cs:=#[.slice none 0 0,.bool false]) ?_ 0 _ rfl;(with_reducible repeat (first | refine blk_drewN ?_ _ | refine blk_drew ?_ | refine blk_alloc ?_ _));exact BK231.out) Try.underlying31 rfl (by kernel_rfl)) rfl ?_
     exact ⟨_,_,by first | rfl | (simp [errW_none,errW_some] <;> rfl) | (simp [*,errW_none,errW_some] <;> rfl),by first | exact Kd.R_nil _ _ _ _ _ | exact Kd.N_nil _ _ _ _ _ | exact Kd.V_nil _ _ _ _ _ | exact Kd.Q_nil _ _ _ _ _ | exact Kd.S_nil _ _ _ _ _,by first | exact Kd.R_nil _ _ _ _ _ | exact Kd.N_nil _ _ _ _ _ | exact Kd.V_nil _ _ _ _ _ | exact Kd.Q_nil _ _ _ _ _ | exact Kd.S_nil _ _ _ _ _,by repeat (first | (with_reducible first | exact HB.out | apply below_alloc | apply pw_below_drewN | apply below_drew1 | refine below_set ?_ GE229.out | refine below_set ?_ GE230.out | refine below_set ?_ GE231.out) | exact HB.out)⟩
   · replace c43:=Bool.eq_false_iff.mpr c43
     subst c43
     have H1 : (if a2_1 = true then (some (([] : List (S43)),true,([] : List Int),80)) else (if ([] : List (S43)).length + l2_0.length < 8796093022208 then (regletref16_Feed.l0 kj4 l1 a3 (([] : List (S43)) ++ l2_0) ([] : List Int) l0_0 l0_1 a0_2 a0_3 l0_4) else (none))) = some (r1,r2,r3,r4) := by rw [if_neg (show ¬ (false = true) by decide)] at H;exact H
     clear H
     have H:=H1
     clear H1
     by_cases c47 : a2_1 = true
     · subst c47
       have H1 : (some (([] : List (S43)),true,([] : List Int),80)) = some (r1,r2,r3,r4) := by rw [if_pos rfl] at H;exact H
       clear H
       have H:=H1
       clear H1
       simp only [Option.some.injEq,Prod.mk.injEq] at H
       obtain ⟨rfl,rfl,rfl,rfl⟩ := H
       have hnb48:=NB230_229.out
       have hnc48:=NB229_230.out
       have hnb49:=NB230_231.out
       have hnc49:=NB231_230.out
       have hcz50_0 : wc.cell? ⟨gb230,0,none⟩ = some (.slice A2_0 l2_0.length c2_0) := (blk_cell BK230.out 0).trans rfl
       have hcz50_1 : wc.cell? ⟨gb230,1,none⟩ = some (.bool true) := (blk_cell BK230.out 1).trans rfl
       have hfz50_0:=blk_frozen BK230.out 0
       have hfz50_1:=blk_frozen BK230.out 1
       have hnb51:=NB231_229.out
       have hnc51:=NB229_231.out
       have hcz52_0 : wc.cell? ⟨gb231,0,none⟩ = some (.slice none 0 0) := (blk_cell BK231.out 0).trans rfl
       have hcz52_1 : wc.cell? ⟨gb231,1,none⟩ = some (.bool false) := (blk_cell BK231.out 1).trans rfl
       have hfz52_0:=blk_frozen BK231.out 0
       have hfz52_1:=blk_frozen BK231.out 1
       go_wp2
       refine bodyPost_ret (results_ctt rfl _ _ gb231 31 #[.slice none 0 0,.bool true] (0,0) _ rfl (by (with_reducible repeat (first | refine blk_drewN ?_ _ | refine blk_drew ?_ | refine blk_alloc ?_ _));refine blk_put (cs:=#[.slice none 0 0,.bool false]) ?_ 1 _ rfl;(with_reducible repeat (first | refine blk_drewN ?_ _ | refine blk_drew ?_ | refine blk_alloc ?_ _));refine blk_put (cs:=#[.slice none 0 0,.bool false]) ?_ 0 _ rfl;(with_reducible repeat (first | refine blk_drewN ?_ _ | refine blk_drew ?_ | refine blk_alloc ?_ _));exact BK231.out) Try.underlying31 rfl (by kernel_rfl)) rfl ?_
       exact ⟨_,_,by first | rfl | (simp [errW_none,errW_some] <;> rfl) | (simp [*,errW_none,errW_some] <;> rfl),by first | exact Kd.R_nil _ _ _ _ _ | exact Kd.N_nil _ _ _ _ _ | exact Kd.V_nil _ _ _ _ _ | exact Kd.Q_nil _ _ _ _ _ | exact Kd.S_nil _ _ _ _ _,by first | exact Kd.R_nil _ _ _ _ _ | exact Kd.N_nil _ _ _ _ _ | exact Kd.V_nil _ _ _ _ _ | exact Kd.Q_nil _ _ _ _ _ | exact Kd.S_nil _ _ _ _ _,by repeat (first | (with_reducible first | exact HB.out | apply below_alloc | apply pw_below_drewN | apply below_drew1 | refine below_set ?_ GE229.out | refine below_set ?_ GE230.out | refine below_set ?_ GE231.out) | exact HB.out)⟩
     · replace c47:=Bool.eq_false_iff.mpr c47
       subst c47
       have H1 : (if ([] : List (S43)).length + l2_0.length < 8796093022208 then (regletref16_Feed.l0 kj4 l1 a3 (([] : List (S43)) ++ l2_0) ([] : List Int) l0_0 l0_1 a0_2 a0_3 l0_4) else (none)) = some (r1,r2,r3,r4) := by rw [if_neg (show ¬ (false = true) by decide)] at H;exact H
       clear H
       have H:=H1
       clear H1
       by_cases c53 : ([] : List (S43)).length + l2_0.length < 8796093022208
       rotate_left
       · rw [if_neg c53] at H
         exact absurd H (by simp)
       rw [if_pos c53] at H
       have LMc53:=Aside0.mk c53
       clear c53
       obtain ⟨y234,hy234⟩ : ∃ y_ : List (S43),y_ = (([] : List (S43)) ++ l2_0) := ⟨_,rfl⟩
       replace H : (regletref16_Feed.l0 kj4 l1 a3 y234 ([] : List Int) l0_0 l0_1 a0_2 a0_3 l0_4) = some (r1,r2,r3,r4) := by first | (rw [hy234];with_reducible exact H) | (have H2_:=(Option.bind_some _ _).symm.trans H;rw [hy234];with_reducible exact H2_) | (have H2_:=(Option.bind_some _ _).symm.trans H;with_reducible exact H2_) | with_reducible exact H | (rw [hy234];exact H) | exact H
       have Ny234:=Aside0.mk hy234
       clear hy234
       have H' := Aside0.mk H
       clear H
       have hnb54:=NB230_229.out
       have hnc54:=NB229_230.out
       have hnb55:=NB230_231.out
       have hnc55:=NB231_230.out
       have hcz56_0 : wc.cell? ⟨gb230,0,none⟩ = some (.slice A2_0 l2_0.length c2_0) := (blk_cell BK230.out 0).trans rfl
       have hcz56_1 : wc.cell? ⟨gb230,1,none⟩ = some (.bool false) := (blk_cell BK230.out 1).trans rfl
       have hfz56_0:=blk_frozen BK230.out 0
       have hfz56_1:=blk_frozen BK230.out 1
       go_wp2_with (first | ((with_reducible refine gate_builtin (b := .append) (xs:=#[.tmp 42,.tmp 44]) rfl ?_);(try (refine gate_guard (by rfl) ?_;dsimp only));at_builtin;refine Kd.R_append_rows k43 (w0:=w) w.heap.size rfl (.tmp 42) (.tmp 44) 29 43 (.agg #[(.bool false),(.int .i64 0)]) 16 rfl Try.underlying29 info43 rfl (by decide) (by omega) (.slice none 0 0) ([] : List (S43)) l2_0 _ _ _ (fun _ => True) (fun _ => False) rfl rfl ?aO ?aR (fun _ _ h => h) (fun _ h => h.elim) ?aF ?aB ?aS ?aL ?_;(case aR => repeat (first | exact (Kd.C_below HR2_0.out HB.out) | (with_reducible refine Kd.C_alloc ?_ _) | (with_reducible refine Kd.C_drewN ?_ _) | (with_reducible refine Kd.C_drew ?_)));(case aB => exact (by repeat (first | (with_reducible first | exact HB.out | apply below_alloc | apply pw_below_drewN | apply below_drew1 | refine below_set ?_ GE229.out | refine below_set ?_ GE230.out | refine below_set ?_ GE231.out) | exact HB.out)));(case aF => exact (fun _ _ => trivial));(case aO => exact ((Kd.R_nil _ _ _ _ (fun _ => True))));(case aS => exact (below_size (by repeat (first | (with_reducible first | exact HB.out | apply below_alloc | apply pw_below_drewN | apply below_drew1 | refine below_set ?_ GE229.out | refine below_set ?_ GE230.out | refine below_set ?_ GE231.out) | exact HB.out))));(case aL => have:=LMc53.out;omega);intro v235 w57 ho hb hg hat;rw [← Ny234.out] at ho;have n0_:=Aside0.mk (blk_grown (g:=gb229) (o := .cells #[.slice A0_0 l0_0.length c0_0,.slice A0_1 l0_1.length c0_1,.int .i64 a0_2,.int .i64 a0_3,.slice A0_4 l0_4.length c0_4] 26 (0,0)) (by (with_reducible repeat (first | refine blk_drewN ?_ _ | refine blk_drew ?_ | refine blk_alloc ?_ _));exact BK229.out) hg (by simp [Value.ownBlock]));have n1_:=Aside0.mk (blk_grown (g:=gb230) (o := .cells #[.slice A2_0 l2_0.length c2_0,.bool false] 31 (0,0)) (by (with_reducible repeat (first | refine blk_drewN ?_ _ | refine blk_drew ?_ | refine blk_alloc ?_ _));exact BK230.out) hg (by simp [Value.ownBlock]));have n2_:=Aside0.mk (blk_grown (g:=gb231) (o := .cells #[.slice none 0 0,.bool false] 31 (0,0)) (by (with_reducible repeat (first | refine blk_drewN ?_ _ | refine blk_drew ?_ | refine blk_alloc ?_ _));exact BK231.out) hg (by simp [Value.ownBlock]));have n3_:=Aside0.mk (hb);have n4_:=Aside0.mk (ho);clear BK229;clear BK230;clear BK231;clear HB;have BK229:=n0_;have BK230:=n1_;have BK231:=n2_;have HB:=n3_;have HO236:=n4_;clear n0_ n1_ n2_ n3_ n4_;clear ho hb hg hat))
       go_loopg [11,12] kj4 (fun kq v11 v12 w' => ∃ (x11_2 : List (S43)) (x12_2 : List Int) (x232001_2 : Bool),Aside0 (regletref16_Feed.l0 kq l1 a3 x11_2 x12_2 l0_0 l0_1 a0_2 a0_3 l0_4 = some (r1,r2,r3,r4)) ∧ Aside0 (kq ≤ kj4) ∧ Aside0 (Kd.R k43 43 w' w.heap.size (fun _ => True) v11 x11_2) ∧ Aside0 (Kd.R (Kd.int .i64) 3 w' w.heap.size (fun _ => True) v12 x12_2) ∧ Aside0 (w'.heap[gb229]? = some (.cells #[(.slice A0_0 l0_0.length c0_0),(.slice A0_1 l0_1.length c0_1),.int .i64 a0_2,.int .i64 a0_3,(.slice A0_4 l0_4.length c0_4)] 26 (0,0))) ∧ Aside0 (w'.heap[gb230]? = some (.cells #[(.slice A2_0 l2_0.length c2_0),.bool false] 31 (0,0))) ∧ Aside0 (w'.heap[gb231]? = some (.cells #[(.slice none 0 0),.bool x232001_2] 31 (0,0))) ∧ Aside0 (Below w.heap.size w w'))
       case atStart => exact ⟨(y234),(([] : List Int)),(false),H',⟨Nat.le_refl _⟩,⟨by (with_reducible repeat (first | apply Kd.R_alloc | apply Kd.R_drewN | apply Kd.R_drew));exact HO236.out⟩,⟨by first | exact Kd.R_nil _ _ _ _ _ | exact Kd.N_nil _ _ _ _ _ | exact Kd.V_nil _ _ _ _ _ | exact Kd.Q_nil _ _ _ _ _ | exact Kd.S_nil _ _ _ _ _⟩,⟨by (with_reducible repeat (first | refine blk_drewN ?_ _ | refine blk_drew ?_ | refine blk_alloc ?_ _));exact BK229.out⟩,⟨by (with_reducible repeat (first | refine blk_drewN ?_ _ | refine blk_drew ?_ | refine blk_alloc ?_ _));exact BK230.out⟩,⟨by (with_reducible repeat (first | refine blk_drewN ?_ _ | refine blk_drew ?_ | refine blk_alloc ?_ _));exact BK231.out⟩,⟨by repeat (first | (with_reducible first | exact HB.out | apply below_alloc | apply pw_below_drewN | apply below_drew1 | refine below_set ?_ GE229.out | refine below_set ?_ GE230.out | refine below_set ?_ GE231.out) | exact HB.out)⟩⟩
       case round =>
        clear H'
        (try clear c1);(try clear c2);(try clear p2);(try clear c3);(try clear c4);(try clear c5);(try clear c10);(try clear c12);(try clear c13);(try clear c13b0);(try clear c14);(try clear c15);(try clear c19);(try clear c22);(try clear c23);(try clear c26);(try clear c27);(try clear c31);(try clear c32);(try clear c36);(try clear c39);(try clear c40);(try clear c43);(try clear c44);(try clear c45);(try clear c47)
        (try clear c48);(try clear c49);(try clear c51);(try clear c53);(try clear c54);(try clear c55);(try clear hcz16_0);(try clear hcz16_1);(try clear hcz16_2);(try clear hcz16_3);(try clear hcz16_4);(try clear hcz18_0);(try clear hcz18_1);(try clear hcz18_2);(try clear hcz18_3);(try clear hcz18_4);(try clear hcz20_0);(try clear hcz20_1);(try clear hcz24_0);(try clear hcz24_1);(try clear hcz24_2);(try clear hcz24_3)
        (try clear hcz24_4);(try clear hcz26_0);(try clear hcz26_1);(try clear hcz26_2);(try clear hcz26_3);(try clear hcz26_4);(try clear hcz28_0);(try clear hcz28_1);(try clear hcz30_0);(try clear hcz30_1);(try clear hcz30_2);(try clear hcz30_3);(try clear hcz30_4);(try clear hcz33_0);(try clear hcz33_1);(try clear hcz33_2);(try clear hcz33_3);(try clear hcz33_4);(try clear hcz35_0);(try clear hcz35_1);(try clear hcz35_2)
        (try clear hcz35_3);(try clear hcz35_4);(try clear hcz37_0);(try clear hcz37_1);(try clear hcz41_0);(try clear hcz41_1);(try clear hcz41_2);(try clear hcz41_3);(try clear hcz41_4);(try clear hcz46_0);(try clear hcz46_1);(try clear hcz50_0);(try clear hcz50_1);(try clear hcz52_0);(try clear hcz52_1);(try clear hcz56_0);(try clear hcz56_1);(try clear hfz16_0);(try clear hfz16_1);(try clear hfz16_2);(try clear hfz16_3)
        (try clear hfz16_4);(try clear hfz18_0);(try clear hfz18_1);(try clear hfz18_2);(try clear hfz18_3);(try clear hfz18_4);(try clear hfz20_0);(try clear hfz20_1);(try clear hfz24_0);(try clear hfz24_1);(try clear hfz24_2);(try clear hfz24_3);(try clear hfz24_4);(try clear hfz26_0);(try clear hfz26_1);(try clear hfz26_2);(try clear hfz26_3);(try clear hfz26_4);(try clear hfz28_0);(try clear hfz28_1);(try clear hfz30_0)
        (try clear hfz30_1);(try clear hfz30_2);(try clear hfz30_3);(try clear hfz30_4);(try clear hfz33_0);(try clear hfz33_1);(try clear hfz33_2);(try clear hfz33_3);(try clear hfz33_4);(try clear hfz35_0);(try clear hfz35_1);(try clear hfz35_2);(try clear hfz35_3);(try clear hfz35_4);(try clear hfz37_0);(try clear hfz37_1);(try clear hfz41_0);(try clear hfz41_1);(try clear hfz41_2);(try clear hfz41_3);(try clear hfz41_4)
        (try clear hfz46_0);(try clear hfz46_1);(try clear hfz50_0);(try clear hfz50_1);(try clear hfz52_0);(try clear hfz52_1);(try clear hfz56_0);(try clear hfz56_1);(try clear p2)
        obtain ⟨x11_2,x12_2,x232001_2,HA,HK2,HO_11,HO_12,BK229,BK230,BK231,HB⟩ := hrel
        cases gk with
        | zero => exact absurd HA.out (by simp [regletref16_Feed.l0])
        | succ k2 =>
         have H:=HA.out
         clear HA
         simp only [regletref16_Feed.l0] at H
         by_cases c58 : (x11_2.length : Int) > 0
         · rw [if_pos c58] at H
           have c58b0 : decide (0 < (x11_2.length : Int)) = true:=decide_eq_true c58
           have c58b1 : decide (0 < x11_2.length) = true:=decide_eq_true (by omega)
           clear c58
           obtain ⟨ji59,hji59⟩ : ∃ j_ : Int,(wrap64 ((x11_2.length : Int) - 1)) = j_:=⟨_,rfl⟩
           replace H : (if 0 ≤ (ji59) then (if (ji59) < (x11_2.length : Int) then (if (ji59) ≤ (x11_2.length : Int) then ((some (x11_2.take ((ji59) : Int).toNat : List (S43))).bind fun y239 => (if (rd_T43 x11_2 (ji59)).f0 = true then (if ((rd_T43 x11_2 (ji59)).f1) = a3 then (some (y239,false,x12_2,0)) else (some (([] : List (S43)),true,x12_2,80))) else (if 0 ≤ ((rd_T43 x11_2 (ji59)).f1) then (if ((rd_T43 x11_2 (ji59)).f1) < (l1.length : Int) then (if 0 ≤ a3 then (if a3 < ((rd_L5 l1 ((rd_T43 x11_2 (ji59)).f1)).length : Int) then (if (rd (rd_L5 l1 ((rd_T43 x11_2 (ji59)).f1)) a3) < 0 then (some (([] : List (S43)),true,x12_2,80)) else (if x12_2.length < 17592186044416 then (if 0 ≤ (rd (rd_L5 l1 ((rd_T43 x11_2 (ji59)).f1)) a3) then (if (rd (rd_L5 l1 ((rd_T43 x11_2 (ji59)).f1)) a3) < (l0_4.length : Int) then (regletref16_Feed.l1 k2 l1 a3 y239 (x12_2 ++ [rd (rd_L5 l1 ((rd_T43 x11_2 (ji59)).f1)) a3]) (rd (rd_L5 l1 ((rd_T43 x11_2 (ji59)).f1)) a3) (wrap64 ((((rd_T35 l0_4 (rd (rd_L5 l1 ((rd_T43 x11_2 (ji59)).f1)) a3)).f1).length : Int) - 1)) l0_0 l0_1 a0_2 a0_3 l0_4) else (none)) else (none)) else (none))) else (none)) else (none)) else (none)) else (none)))) else (none)) else (none)) else (none)) = some (r1,r2,r3,r4) := by first | (rw [hji59] at H;exact H) | (simp only [hji59] at H ⊢;exact H)
           have hji59w : (IntKind.i64.wrap ((x11_2.length : Int) - 1)) = ji59:=(i64_w _).trans hji59
           by_cases c60 : 0 ≤ (ji59)
           rotate_left
           · rw [if_neg c60] at H
             exact absurd H (by simp)
           rw [if_pos c60] at H
           have c60b0 : decide (0 ≤ (ji59)) = true:=decide_eq_true c60
           clear c60
           by_cases c61 : (ji59) < (x11_2.length : Int)
           rotate_left
           · rw [if_neg c61] at H
             exact absurd H (by simp)
           rw [if_pos c61] at H
           have c61b0 : decide ((ji59) < (x11_2.length : Int)) = true:=decide_eq_true c61
           clear c61
           by_cases c62 : (ji59) ≤ (x11_2.length : Int)
           rotate_left
           · rw [if_neg c62] at H
             exact absurd H (by simp)
           rw [if_pos c62] at H
           have c62b0:=eq_true c62
           have c62b1 : decide ((ji59) ≤ (x11_2.length : Int)) = true:=decide_eq_true c62
           clear c62
           obtain ⟨y239,hy239⟩ : ∃ y_ : List (S43),y_ = (x11_2.take ((ji59) : Int).toNat) := ⟨_,rfl⟩
           replace H : (if (rd_T43 x11_2 (ji59)).f0 = true then (if ((rd_T43 x11_2 (ji59)).f1) = a3 then (some (y239,false,x12_2,0)) else (some (([] : List (S43)),true,x12_2,80))) else (if 0 ≤ ((rd_T43 x11_2 (ji59)).f1) then (if ((rd_T43 x11_2 (ji59)).f1) < (l1.length : Int) then (if 0 ≤ a3 then (if a3 < ((rd_L5 l1 ((rd_T43 x11_2 (ji59)).f1)).length : Int) then (if (rd (rd_L5 l1 ((rd_T43 x11_2 (ji59)).f1)) a3) < 0 then (some (([] : List (S43)),true,x12_2,80)) else (if x12_2.length < 17592186044416 then (if 0 ≤ (rd (rd_L5 l1 ((rd_T43 x11_2 (ji59)).f1)) a3) then (if (rd (rd_L5 l1 ((rd_T43 x11_2 (ji59)).f1)) a3) < (l0_4.length : Int) then (regletref16_Feed.l1 k2 l1 a3 y239 (x12_2 ++ [rd (rd_L5 l1 ((rd_T43 x11_2 (ji59)).f1)) a3]) (rd (rd_L5 l1 ((rd_T43 x11_2 (ji59)).f1)) a3) (wrap64 ((((rd_T35 l0_4 (rd (rd_L5 l1 ((rd_T43 x11_2 (ji59)).f1)) a3)).f1).length : Int) - 1)) l0_0 l0_1 a0_2 a0_3 l0_4) else (none)) else (none)) else (none))) else (none)) else (none)) else (none)) else (none))) = some (r1,r2,r3,r4) := by first | (rw [hy239];with_reducible exact H) | (have H2_:=(Option.bind_some _ _).symm.trans H;rw [hy239];with_reducible exact H2_) | (have H2_:=(Option.bind_some _ _).symm.trans H;with_reducible exact H2_) | with_reducible exact H | (rw [hy239];exact H) | exact H
           have Ny239:=Aside0.mk hy239
           clear hy239
           obtain ⟨bq63,hbq63⟩ : ∃ b_ : Bool,b_ = ((rd_T43 x11_2 (ji59)).f0) := ⟨_,rfl⟩
           replace H : (if bq63 = true then (if ((rd_T43 x11_2 (ji59)).f1) = a3 then (some (y239,false,x12_2,0)) else (some (([] : List (S43)),true,x12_2,80))) else (if 0 ≤ ((rd_T43 x11_2 (ji59)).f1) then (if ((rd_T43 x11_2 (ji59)).f1) < (l1.length : Int) then (if 0 ≤ a3 then (if a3 < ((rd_L5 l1 ((rd_T43 x11_2 (ji59)).f1)).length : Int) then (if (rd (rd_L5 l1 ((rd_T43 x11_2 (ji59)).f1)) a3) < 0 then (some (([] : List (S43)),true,x12_2,80)) else (if x12_2.length < 17592186044416 then (if 0 ≤ (rd (rd_L5 l1 ((rd_T43 x11_2 (ji59)).f1)) a3) then (if (rd (rd_L5 l1 ((rd_T43 x11_2 (ji59)).f1)) a3) < (l0_4.length : Int) then (regletref16_Feed.l1 k2 l1 a3 y239 (x12_2 ++ [rd (rd_L5 l1 ((rd_T43 x11_2 (ji59)).f1)) a3]) (rd (rd_L5 l1 ((rd_T43 x11_2 (ji59)).f1)) a3) (wrap64 ((((rd_T35 l0_4 (rd (rd_L5 l1 ((rd_T43 x11_2 (ji59)).f1)) a3)).f1).length : Int) - 1)) l0_0 l0_1 a0_2 a0_3 l0_4) else (none)) else (none)) else (none))) else (none)) else (none)) else (none)) else (none))) = some (r1,r2,r3,r4) := by rw [← hbq63] at H;exact H
           have Nbq63:=Aside0.mk hbq63
           clear hbq63
           by_cases c64 : bq63 = true
           · subst c64
             have H1 : (if ((rd_T43 x11_2 (ji59)).f1) = a3 then (some (y239,false,x12_2,0)) else (some (([] : List (S43)),true,x12_2,80))) = some (r1,r2,r3,r4) := by rw [if_pos rfl] at H;exact H
             clear H
             have H:=H1
             clear H1
             by_cases c65 : ((rd_T43 x11_2 (ji59)).f1) = a3
             · rw [if_pos c65] at H
               have c65b0 : (((rd_T43 x11_2 (ji59)).f1) == a3) = true:=beq_iff_eq.mpr c65
               have c65b1 : (((rd_T43 x11_2 (ji59)).f1) != a3) = false:=bne_eq_false_iff_eq.mpr c65
               clear c65
               simp only [Option.some.injEq,Prod.mk.injEq] at H
               obtain ⟨rfl,rfl,rfl,rfl⟩ := H
               obtain ⟨Ao66,co66,eo66⟩ := Kd.R_slice HO_11.out
               subst eo66
               have p237 : 0 ≤ ((ji59) : Int) := of_decide_eq_true (by first | (with_reducible assumption) | assumption)
               have q237 : (ji59) < (x11_2.length : Int) := of_decide_eq_true (by first | (with_reducible assumption) | assumption)
               obtain ⟨ad237,e237,hx237_0,hx237_1⟩ := at_T43 (Kd.R_reads' HO_11.out).2.2 (ji59) p237 q237
               (try rw [← Nbq63.out] at hx237_0)
               cases e237
               replace p237:=eq_true p237
               replace q237:=eq_true q237
               go_wp2_with (first | ((with_reducible refine gate_dst (N:=13) rfl ?_);(try (refine gate_guard (by rfl) ?_;dsimp only));refine box_event ?hg (N:=13) ?hd (cs:=#[.bool false,.int .i64 0]) (t:=43) ?hr ?_;(case hd => rfl);(case hg => rfl);(case hr => first | (go_simp;done) | (go_simp;rfl));intro gb238 hg w67 hbox hb;have n0_:=Aside0.mk (Kd.R_below (Kd.R_elderB (by (with_reducible repeat (first | apply Kd.R_alloc | apply Kd.R_drewN | apply Kd.R_drew));exact HO_11.out) gb238 (Nat.le_of_eq hg.symm)) hb);have n1_:=Aside0.mk (Kd.R_below (by (with_reducible repeat (first | apply Kd.R_alloc | apply Kd.R_drewN | apply Kd.R_drew));exact HO_12.out) hb);have n2_:=Aside0.mk (blk_below (g:=gb229) (o := .cells #[.slice A0_0 l0_0.length c0_0,.slice A0_1 l0_1.length c0_1,.int .i64 a0_2,.int .i64 a0_3,.slice A0_4 l0_4.length c0_4] 26 (0,0)) (by (with_reducible repeat (first | refine blk_drewN ?_ _ | refine blk_drew ?_ | refine blk_alloc ?_ _));exact BK229.out) hb);have n3_:=Aside0.mk (blk_below (g:=gb230) (o := .cells #[.slice A2_0 l2_0.length c2_0,.bool false] 31 (0,0)) (by (with_reducible repeat (first | refine blk_drewN ?_ _ | refine blk_drew ?_ | refine blk_alloc ?_ _));exact BK230.out) hb);have n4_:=Aside0.mk (blk_below (g:=gb231) (o := .cells #[.slice none 0 0,.bool x232001_2] 31 (0,0)) (by (with_reducible repeat (first | refine blk_drewN ?_ _ | refine blk_drew ?_ | refine blk_alloc ?_ _));exact BK231.out) hb);have n5_:=Aside0.mk (below_step (by repeat (first | (with_reducible first | exact HB.out | apply below_alloc | apply pw_below_drewN | apply below_drew1 | refine below_set ?_ GE229.out | refine below_set ?_ GE230.out | refine below_set ?_ GE231.out) | exact HB.out)) hb);have n6_:=Aside0.mk (hbox);have n7_:=Aside0.mk ((by rw [hg];exact (below_size (by repeat (first | (with_reducible first | exact HB.out | apply below_alloc | apply pw_below_drewN | apply below_drew1 | refine below_set ?_ GE229.out | refine below_set ?_ GE230.out | refine below_set ?_ GE231.out) | exact HB.out))) : w.heap.size ≤ gb238));have n8_:=Aside0.mk ((by rw [hg];exact (below_size (by repeat (first | (with_reducible first | exact HB.out | apply below_alloc | apply pw_below_drewN | apply below_drew1 | refine below_set ?_ GE229.out | refine below_set ?_ GE230.out | refine below_set ?_ GE231.out) | exact HB.out))) : w.heap.size ≤ gb238));have n9_:=Aside0.mk ((by rw [hg];exact Nat.ne_of_lt (blk_lt (g:=gb229) (o := .cells #[.slice A0_0 l0_0.length c0_0,.slice A0_1 l0_1.length c0_1,.int .i64 a0_2,.int .i64 a0_3,.slice A0_4 l0_4.length c0_4] 26 (0,0)) (by (with_reducible repeat (first | refine blk_drewN ?_ _ | refine blk_drew ?_ | refine blk_alloc ?_ _));exact BK229.out)) : gb229 ≠ gb238));have n10_:=Aside0.mk ((by rw [hg];exact Nat.ne_of_gt (blk_lt (g:=gb229) (o := .cells #[.slice A0_0 l0_0.length c0_0,.slice A0_1 l0_1.length c0_1,.int .i64 a0_2,.int .i64 a0_3,.slice A0_4 l0_4.length c0_4] 26 (0,0)) (by (with_reducible repeat (first | refine blk_drewN ?_ _ | refine blk_drew ?_ | refine blk_alloc ?_ _));exact BK229.out)) : gb238 ≠ gb229));have n11_:=Aside0.mk ((by rw [hg];exact Nat.ne_of_lt (blk_lt (g:=gb230) (o := .cells #[.slice A2_0 l2_0.length c2_0,.bool false] 31 (0,0)) (by (with_reducible repeat (first | refine blk_drewN ?_ _ | refine blk_drew ?_ | refine blk_alloc ?_ _));exact BK230.out)) : gb230 ≠ gb238));have n12_:=Aside0.mk ((by rw [hg];exact Nat.ne_of_gt (blk_lt (g:=gb230) (o := .cells #[.slice A2_0 l2_0.length c2_0,.bool false] 31 (0,0)) (by (with_reducible repeat (first | refine blk_drewN ?_ _ | refine blk_drew ?_ | refine blk_alloc ?_ _));exact BK230.out)) : gb238 ≠ gb230));have n13_:=Aside0.mk ((by rw [hg];exact Nat.ne_of_lt (blk_lt (g:=gb231) (o := .cells #[.slice none 0 0,.bool x232001_2] 31 (0,0)) (by (with_reducible repeat (first | refine blk_drewN ?_ _ | refine blk_drew ?_ | refine blk_alloc ?_ _));exact BK231.out)) : gb231 ≠ gb238));have n14_:=Aside0.mk ((by rw [hg];exact Nat.ne_of_gt (blk_lt (g:=gb231) (o := .cells #[.slice none 0 0,.bool x232001_2] 31 (0,0)) (by (with_reducible repeat (first | refine blk_drewN ?_ _ | refine blk_drew ?_ | refine blk_alloc ?_ _));exact BK231.out)) : gb238 ≠ gb231));clear HO_11;clear HO_12;clear BK229;clear BK230;clear BK231;clear HB;have HO_11:=n0_;have HO_12:=n1_;have BK229:=n2_;have BK230:=n3_;have BK231:=n4_;have HB:=n5_;have BK238:=n6_;have GW238:=n7_;have GE238:=n8_;have NB229_238:=n9_;have NB238_229:=n10_;have NB230_238:=n11_;have NB238_230:=n12_;have NB231_238:=n13_;have NB238_231:=n14_;clear n0_ n1_ n2_ n3_ n4_ n5_ n6_ n7_ n8_ n9_ n10_ n11_ n12_ n13_ n14_;clear hb hbox hg;have hnb68:=NB238_229.out;have hnc68:=NB229_238.out;have hnb69:=NB238_230.out;have hnc69:=NB230_238.out;have hnb70:=NB238_231.out;have hnc70:=NB231_238.out;have hcz71_0 : w67.cell? ⟨gb238,0,none⟩ = some (.bool false) := (blk_cell BK238.out 0).trans rfl;have hcz71_1 : w67.cell? ⟨gb238,1,none⟩ = some (.int .i64 0) := (blk_cell BK238.out 1).trans rfl;have hfz71_0:=blk_frozen BK238.out 0;have hfz71_1:=blk_frozen BK238.out 1) | ((with_reducible refine gate_store (t:=43) (p:=13) rfl ?_);refine store_event (t:=43) (p:=13) (v:=?vo_w72) (w1:=((w67.setCell ⟨gb238,0,none⟩ (.bool true)).setCell ⟨gb238,1,none⟩ (.int .i64 ((rd_T43 x11_2 (ji59)).f1)))) ?hg ?ho ?hn ?hr ?_;(case ho => rfl);(case hg => rfl);(case hn => rfl);(case hr => first | (go_simp;done) | (go_simp;rfl));intro w72 hw;have n0_ : Aside0 (Kd.R k43 43 w72 w.heap.size (fun k_ => k_ ≠ gb238) (.slice (some ad237) x11_2.length co66) x11_2) := ⟨(by rw [hw];exact (by (with_reducible repeat (first | apply Kd.R_alloc | apply Kd.R_drewN | apply Kd.R_drew));exact Kd.R_mono (Kd.R_far (p:=⟨gb238,1,none⟩) (Kd.R_far (p:=⟨gb238,0,none⟩) (Kd.R_mono HO_11.out (fun k_ hk => (⟨hk,hk.2⟩ : _ ∧ k_ ≠ gb238))) (fun _ hk => hk.2) (.bool true)) (fun _ hk => hk.2) (.int .i64 ((rd_T43 x11_2 (ji59)).f1))) (fun _ hk => hk.1.2)))⟩;have n1_ : Aside0 (Kd.R (Kd.int .i64) 3 w72 w.heap.size (fun _ => True) u12 x12_2) := ⟨(by rw [hw];exact (by (with_reducible repeat (first | apply Kd.R_alloc | apply Kd.R_drewN | apply Kd.R_drew));exact Kd.R_mono (Kd.R_far (p:=⟨gb238,1,none⟩) (Kd.R_far (p:=⟨gb238,0,none⟩) (Kd.R_types HO_12.out BK238.out (by decide)) (fun _ hk => hk.2) (.bool true)) (fun _ hk => hk.2) (.int .i64 ((rd_T43 x11_2 (ji59)).f1))) (fun _ hk => trivial)))⟩;have n2_ : Aside0 (w72.heap[gb229]? = some (.cells #[.slice A0_0 l0_0.length c0_0,.slice A0_1 l0_1.length c0_1,.int .i64 a0_2,.int .i64 a0_3,.slice A0_4 l0_4.length c0_4] 26 (0,0))) := ⟨(by rw [hw];exact (by (with_reducible repeat (first | refine blk_drewN ?_ _ | refine blk_drew ?_ | refine blk_alloc ?_ _));refine blk_far ?_ NB229_238.out _;(with_reducible repeat (first | refine blk_drewN ?_ _ | refine blk_drew ?_ | refine blk_alloc ?_ _));refine blk_far ?_ NB229_238.out _;(with_reducible repeat (first | refine blk_drewN ?_ _ | refine blk_drew ?_ | refine blk_alloc ?_ _));exact BK229.out))⟩;have n3_ : Aside0 (w72.heap[gb230]? = some (.cells #[.slice A2_0 l2_0.length c2_0,.bool false] 31 (0,0))) := ⟨(by rw [hw];exact (by (with_reducible repeat (first | refine blk_drewN ?_ _ | refine blk_drew ?_ | refine blk_alloc ?_ _));refine blk_far ?_ NB230_238.out _;(with_reducible repeat (first | refine blk_drewN ?_ _ | refine blk_drew ?_ | refine blk_alloc ?_ _));refine blk_far ?_ NB230_238.out _;(with_reducible repeat (first | refine blk_drewN ?_ _ | refine blk_drew ?_ | refine blk_alloc ?_ _));exact BK230.out))⟩;have n4_ : Aside0 (w72.heap[gb231]? = some (.cells #[.slice none 0 0,.bool x232001_2] 31 (0,0))) := ⟨(by rw [hw];exact (by (with_reducible repeat (first | refine blk_drewN ?_ _ | refine blk_drew ?_ | refine blk_alloc ?_ _));refine blk_far ?_ NB231_238.out _;(with_reducible repeat (first | refine blk_drewN ?_ _ | refine blk_drew ?_ | refine blk_alloc ?_ _));refine blk_far ?_ NB231_238.out _;(with_reducible repeat (first | refine blk_drewN ?_ _ | refine blk_drew ?_ | refine blk_alloc ?_ _));exact BK231.out))⟩;have n5_ : Aside0 (w72.heap[gb238]? = some (.cells #[.bool true,.int .i64 ((rd_T43 x11_2 (ji59)).f1)] 43 (0,0))) := ⟨(by rw [hw];exact (by (with_reducible repeat (first | refine blk_drewN ?_ _ | refine blk_drew ?_ | refine blk_alloc ?_ _));refine blk_put (cs:=#[.bool true,.int .i64 0]) ?_ 1 _ rfl;(with_reducible repeat (first | refine blk_drewN ?_ _ | refine blk_drew ?_ | refine blk_alloc ?_ _));refine blk_put (cs:=#[.bool false,.int .i64 0]) ?_ 0 _ rfl;(with_reducible repeat (first | refine blk_drewN ?_ _ | refine blk_drew ?_ | refine blk_alloc ?_ _));exact BK238.out))⟩;have n6_ : Aside0 (Below w.heap.size w w72) := ⟨(by rw [hw];exact (by repeat (first | (with_reducible first | exact HB.out | apply below_alloc | apply pw_below_drewN | apply below_drew1 | refine below_set ?_ GE229.out | refine below_set ?_ GE230.out | refine below_set ?_ GE231.out | refine below_set ?_ GE238.out) | exact HB.out)))⟩;clear hw;clear HO_11;clear HO_12;clear BK229;clear BK230;clear BK231;clear BK238;clear HB;have HO_11:=n0_;have HO_12:=n1_;have BK229:=n2_;have BK230:=n3_;have BK231:=n4_;have BK238:=n5_;have HB:=n6_;clear n0_ n1_ n2_ n3_ n4_ n5_ n6_;have q73 : ((ji59) : Int) ≤ ((x11_2.length : Int) : Int) := of_decide_eq_true (by first | (with_reducible assumption) | assumption);obtain ⟨i073,hi073,_,hsz73,_⟩ := info_parts info43;have hcut73:=cut_to (P:=Try.prog) 29 43 .i64 Try.underlying29 hi073 (some ad237) x11_2.length co66 (ji59) (of_decide_eq_true (by first | (with_reducible assumption) | assumption)) q73 (Kd.R_reads' HO_11.out).2.1;have hr73:=Kd.R_take (m:=((ji59) : Int).toNat) HO_11.out (by omega);have hy73 : y239.length = ((ji59) : Int).toNat:=(by rw [Ny239.out,List.length_take];omega);rw [← Ny239.out] at hr73;rw [← hy73] at hr73 hcut73;clear hy73 hi073 hsz73 HO_11;have HO241:=Aside0.mk hr73;clear hr73;replace q73:=eq_true q73;have hcz74_0 : w72.cell? ⟨gb238,0,none⟩ = some (.bool true) := (blk_cell BK238.out 0).trans rfl;have hcz74_1 : w72.cell? ⟨gb238,1,none⟩ = some (.int .i64 ((rd_T43 x11_2 (ji59)).f1)) := (blk_cell BK238.out 1).trans rfl;have hfz74_0:=blk_frozen BK238.out 0;have hfz74_1:=blk_frozen BK238.out 1;have hnb75:=NB231_229.out;have hnc75:=NB229_231.out;have hnb76:=NB231_230.out;have hnc76:=NB230_231.out;have hcz77_0 : w72.cell? ⟨gb231,0,none⟩ = some (.slice none 0 0) := (blk_cell BK231.out 0).trans rfl;have hcz77_1 : w72.cell? ⟨gb231,1,none⟩ = some (.bool x232001_2) := (blk_cell BK231.out 1).trans rfl;have hfz77_0:=blk_frozen BK231.out 0;have hfz77_1:=blk_frozen BK231.out 1))
               refine bodyPost_ret (results_ctt rfl _ _ gb231 31 #[.slice (some ad237) y239.length co66,.bool false] (0,0) _ rfl (by (with_reducible repeat (first | refine blk_drewN ?_ _ | refine blk_drew ?_ | refine blk_alloc ?_ _));refine blk_put (cs:=#[.slice (some ad237) y239.length co66,.bool x232001_2]) ?_ 1 _ rfl;(with_reducible repeat (first | refine blk_drewN ?_ _ | refine blk_drew ?_ | refine blk_alloc ?_ _));refine blk_put (cs:=#[.slice none 0 0,.bool x232001_2]) ?_ 0 _ rfl;(with_reducible repeat (first | refine blk_drewN ?_ _ | refine blk_drew ?_ | refine blk_alloc ?_ _));exact BK231.out) Try.underlying31 rfl (by kernel_rfl)) rfl ?_
               exact ⟨_,_,by first | rfl | (simp [errW_none,errW_some] <;> rfl) | (simp only [← hji59];first | rfl | (simp [errW_none,errW_some] <;> rfl)) | (simp [*,errW_none,errW_some] <;> rfl),by (with_reducible repeat (first | apply Kd.R_alloc | apply Kd.R_drewN | apply Kd.R_drew));exact Kd.R_mono (Kd.R_far (p:=⟨gb231,1,none⟩) (Kd.R_far (p:=⟨gb231,0,none⟩) (Kd.R_types HO241.out BK231.out (by decide)) (fun _ hk => hk.2) (.slice (some ad237) y239.length co66)) (fun _ hk => hk.2) (.bool false)) (fun _ hk => trivial),by (with_reducible repeat (first | apply Kd.R_alloc | apply Kd.R_drewN | apply Kd.R_drew));exact Kd.R_mono (Kd.R_far (p:=⟨gb231,1,none⟩) (Kd.R_far (p:=⟨gb231,0,none⟩) (Kd.R_types HO_12.out BK231.out (by decide)) (fun _ hk => hk.2) (.slice (some ad237) y239.length co66)) (fun _ hk => hk.2) (.bool false)) (fun _ hk => trivial),by repeat (first | (with_reducible first | exact HB.out | apply below_alloc | apply pw_below_drewN | apply below_drew1 | refine below_set ?_ GE229.out | refine below_set ?_ GE230.out | refine below_set ?_ GE231.out | refine below_set ?_ GE238.out) | exact HB.out)⟩
             · rw [if_neg c65] at H
               have c65b0 : (((rd_T43 x11_2 (ji59)).f1) == a3) = false:=beq_eq_false_iff_ne.mpr c65
               have c65b1 : (((rd_T43 x11_2 (ji59)).f1) != a3) = true:=bne_iff_ne.mpr c65
               simp only [Option.some.injEq,Prod.mk.injEq] at H
               obtain ⟨rfl,rfl,rfl,rfl⟩ := H
               obtain ⟨Ao78,co78,eo78⟩ := Kd.R_slice HO_11.out
               subst eo78
               have p237 : 0 ≤ ((ji59) : Int) := of_decide_eq_true (by first | (with_reducible assumption) | assumption)
               have q237 : (ji59) < (x11_2.length : Int) := of_decide_eq_true (by first | (with_reducible assumption) | assumption)
               obtain ⟨ad237,e237,hx237_0,hx237_1⟩ := at_T43 (Kd.R_reads' HO_11.out).2.2 (ji59) p237 q237
               (try rw [← Nbq63.out] at hx237_0)
               cases e237
               replace p237:=eq_true p237
               replace q237:=eq_true q237
               go_wp2_with (first | ((with_reducible refine gate_dst (N:=13) rfl ?_);(try (refine gate_guard (by rfl) ?_;dsimp only));refine box_event ?hg (N:=13) ?hd (cs:=#[.bool false,.int .i64 0]) (t:=43) ?hr ?_;(case hd => rfl);(case hg => rfl);(case hr => first | (go_simp;done) | (go_simp;rfl));intro gb238 hg w79 hbox hb;have n0_:=Aside0.mk (Kd.R_below (Kd.R_elderB (by (with_reducible repeat (first | apply Kd.R_alloc | apply Kd.R_drewN | apply Kd.R_drew));exact HO_11.out) gb238 (Nat.le_of_eq hg.symm)) hb);have n1_:=Aside0.mk (Kd.R_below (by (with_reducible repeat (first | apply Kd.R_alloc | apply Kd.R_drewN | apply Kd.R_drew));exact HO_12.out) hb);have n2_:=Aside0.mk (blk_below (g:=gb229) (o := .cells #[.slice A0_0 l0_0.length c0_0,.slice A0_1 l0_1.length c0_1,.int .i64 a0_2,.int .i64 a0_3,.slice A0_4 l0_4.length c0_4] 26 (0,0)) (by (with_reducible repeat (first | refine blk_drewN ?_ _ | refine blk_drew ?_ | refine blk_alloc ?_ _));exact BK229.out) hb);have n3_:=Aside0.mk (blk_below (g:=gb230) (o := .cells #[.slice A2_0 l2_0.length c2_0,.bool false] 31 (0,0)) (by (with_reducible repeat (first | refine blk_drewN ?_ _ | refine blk_drew ?_ | refine blk_alloc ?_ _));exact BK230.out) hb);have n4_:=Aside0.mk (blk_below (g:=gb231) (o := .cells #[.slice none 0 0,.bool x232001_2] 31 (0,0)) (by (with_reducible repeat (first | refine blk_drewN ?_ _ | refine blk_drew ?_ | refine blk_alloc ?_ _));exact BK231.out) hb);have n5_:=Aside0.mk (below_step (by repeat (first | (with_reducible first | exact HB.out | apply below_alloc | apply pw_below_drewN | apply below_drew1 | refine below_set ?_ GE229.out | refine below_set ?_ GE230.out | refine below_set ?_ GE231.out) | exact HB.out)) hb);have n6_:=Aside0.mk (hbox);have n7_:=Aside0.mk ((by rw [hg];exact (below_size (by repeat (first | (with_reducible first | exact HB.out | apply below_alloc | apply pw_below_drewN | apply below_drew1 | refine below_set ?_ GE229.out | refine below_set ?_ GE230.out | refine below_set ?_ GE231.out) | exact HB.out))) : w.heap.size ≤ gb238));have n8_:=Aside0.mk ((by rw [hg];exact (below_size (by repeat (first | (with_reducible first | exact HB.out | apply below_alloc | apply pw_below_drewN | apply below_drew1 | refine below_set ?_ GE229.out | refine below_set ?_ GE230.out | refine below_set ?_ GE231.out) | exact HB.out))) : w.heap.size ≤ gb238));have n9_:=Aside0.mk ((by rw [hg];exact Nat.ne_of_lt (blk_lt (g:=gb229) (o := .cells #[.slice A0_0 l0_0.length c0_0,.slice A0_1 l0_1.length c0_1,.int .i64 a0_2,.int .i64 a0_3,.slice A0_4 l0_4.length c0_4] 26 (0,0)) (by (with_reducible repeat (first | refine blk_drewN ?_ _ | refine blk_drew ?_ | refine blk_alloc ?_ _));exact BK229.out)) : gb229 ≠ gb238));have n10_:=Aside0.mk ((by rw [hg];exact Nat.ne_of_gt (blk_lt (g:=gb229) (o := .cells #[.slice A0_0 l0_0.length c0_0,.slice A0_1 l0_1.length c0_1,.int .i64 a0_2,.int .i64 a0_3,.slice A0_4 l0_4.length c0_4] 26 (0,0)) (by (with_reducible repeat (first | refine blk_drewN ?_ _ | refine blk_drew ?_ | refine blk_alloc ?_ _));exact BK229.out)) : gb238 ≠ gb229));have n11_:=Aside0.mk ((by rw [hg];exact Nat.ne_of_lt (blk_lt (g:=gb230) (o := .cells #[.slice A2_0 l2_0.length c2_0,.bool false] 31 (0,0)) (by (with_reducible repeat (first | refine blk_drewN ?_ _ | refine blk_drew ?_ | refine blk_alloc ?_ _));exact BK230.out)) : gb230 ≠ gb238));have n12_:=Aside0.mk ((by rw [hg];exact Nat.ne_of_gt (blk_lt (g:=gb230) (o := .cells #[.slice A2_0 l2_0.length c2_0,.bool false] 31 (0,0)) (by (with_reducible repeat (first | refine blk_drewN ?_ _ | refine blk_drew ?_ | refine blk_alloc ?_ _));exact BK230.out)) : gb238 ≠ gb230));have n13_:=Aside0.mk ((by rw [hg];exact Nat.ne_of_lt (blk_lt (g:=gb231) (o := .cells #[.slice none 0 0,.bool x232001_2] 31 (0,0)) (by (with_reducible repeat (first | refine blk_drewN ?_ _ | refine blk_drew ?_ | refine blk_alloc ?_ _));exact BK231.out)) : gb231 ≠ gb238));have n14_:=Aside0.mk ((by rw [hg];exact Nat.ne_of_gt (blk_lt (g:=gb231) (o := .cells #[.slice none 0 0,.bool x232001_2] 31 (0,0)) (by (with_reducible repeat (first | refine blk_drewN ?_ _ | refine blk_drew ?_ | refine blk_alloc ?_ _));exact BK231.out)) : gb238 ≠ gb231));clear HO_11;clear HO_12;clear BK229;clear BK230;clear BK231;clear HB;have HO_11:=n0_;have HO_12:=n1_;have BK229:=n2_;have BK230:=n3_;have BK231:=n4_;have HB:=n5_;have BK238:=n6_;have GW238:=n7_;have GE238:=n8_;have NB229_238:=n9_;have NB238_229:=n10_;have NB230_238:=n11_;have NB238_230:=n12_;have NB231_238:=n13_;have NB238_231:=n14_;clear n0_ n1_ n2_ n3_ n4_ n5_ n6_ n7_ n8_ n9_ n10_ n11_ n12_ n13_ n14_;clear hb hbox hg;have hnb80:=NB238_229.out;have hnc80:=NB229_238.out;have hnb81:=NB238_230.out;have hnc81:=NB230_238.out;have hnb82:=NB238_231.out;have hnc82:=NB231_238.out;have hcz83_0 : w79.cell? ⟨gb238,0,none⟩ = some (.bool false) := (blk_cell BK238.out 0).trans rfl;have hcz83_1 : w79.cell? ⟨gb238,1,none⟩ = some (.int .i64 0) := (blk_cell BK238.out 1).trans rfl;have hfz83_0:=blk_frozen BK238.out 0;have hfz83_1:=blk_frozen BK238.out 1) | ((with_reducible refine gate_store (t:=43) (p:=13) rfl ?_);refine store_event (t:=43) (p:=13) (v:=?vo_w84) (w1:=((w79.setCell ⟨gb238,0,none⟩ (.bool true)).setCell ⟨gb238,1,none⟩ (.int .i64 ((rd_T43 x11_2 (ji59)).f1)))) ?hg ?ho ?hn ?hr ?_;(case ho => rfl);(case hg => rfl);(case hn => rfl);(case hr => first | (go_simp;done) | (go_simp;rfl));intro w84 hw;have n0_ : Aside0 (Kd.R k43 43 w84 w.heap.size (fun k_ => k_ ≠ gb238) (.slice (some ad237) x11_2.length co78) x11_2) := ⟨(by rw [hw];exact (by (with_reducible repeat (first | apply Kd.R_alloc | apply Kd.R_drewN | apply Kd.R_drew));exact Kd.R_mono (Kd.R_far (p:=⟨gb238,1,none⟩) (Kd.R_far (p:=⟨gb238,0,none⟩) (Kd.R_mono HO_11.out (fun k_ hk => (⟨hk,hk.2⟩ : _ ∧ k_ ≠ gb238))) (fun _ hk => hk.2) (.bool true)) (fun _ hk => hk.2) (.int .i64 ((rd_T43 x11_2 (ji59)).f1))) (fun _ hk => hk.1.2)))⟩;have n1_ : Aside0 (Kd.R (Kd.int .i64) 3 w84 w.heap.size (fun _ => True) u12 x12_2) := ⟨(by rw [hw];exact (by (with_reducible repeat (first | apply Kd.R_alloc | apply Kd.R_drewN | apply Kd.R_drew));exact Kd.R_mono (Kd.R_far (p:=⟨gb238,1,none⟩) (Kd.R_far (p:=⟨gb238,0,none⟩) (Kd.R_types HO_12.out BK238.out (by decide)) (fun _ hk => hk.2) (.bool true)) (fun _ hk => hk.2) (.int .i64 ((rd_T43 x11_2 (ji59)).f1))) (fun _ hk => trivial)))⟩;have n2_ : Aside0 (w84.heap[gb229]? = some (.cells #[.slice A0_0 l0_0.length c0_0,.slice A0_1 l0_1.length c0_1,.int .i64 a0_2,.int .i64 a0_3,.slice A0_4 l0_4.length c0_4] 26 (0,0))) := ⟨(by rw [hw];exact (by (with_reducible repeat (first | refine blk_drewN ?_ _ | refine blk_drew ?_ | refine blk_alloc ?_ _));refine blk_far ?_ NB229_238.out _;(with_reducible repeat (first | refine blk_drewN ?_ _ | refine blk_drew ?_ | refine blk_alloc ?_ _));refine blk_far ?_ NB229_238.out _;(with_reducible repeat (first | refine blk_drewN ?_ _ | refine blk_drew ?_ | refine blk_alloc ?_ _));exact BK229.out))⟩;have n3_ : Aside0 (w84.heap[gb230]? = some (.cells #[.slice A2_0 l2_0.length c2_0,.bool false] 31 (0,0))) := ⟨(by rw [hw];exact (by (with_reducible repeat (first | refine blk_drewN ?_ _ | refine blk_drew ?_ | refine blk_alloc ?_ _));refine blk_far ?_ NB230_238.out _;(with_reducible repeat (first | refine blk_drewN ?_ _ | refine blk_drew ?_ | refine blk_alloc ?_ _));refine blk_far ?_ NB230_238.out _;(with_reducible repeat (first | refine blk_drewN ?_ _ | refine blk_drew ?_ | refine blk_alloc ?_ _));exact BK230.out))⟩;have n4_ : Aside0 (w84.heap[gb231]? = some (.cells #[.slice none 0 0,.bool x232001_2] 31 (0,0))) := ⟨(by rw [hw];exact (by (with_reducible repeat (first | refine blk_drewN ?_ _ | refine blk_drew ?_ | refine blk_alloc ?_ _));refine blk_far ?_ NB231_238.out _;(with_reducible repeat (first | refine blk_drewN ?_ _ | refine blk_drew ?_ | refine blk_alloc ?_ _));refine blk_far ?_ NB231_238.out _;(with_reducible repeat (first | refine blk_drewN ?_ _ | refine blk_drew ?_ | refine blk_alloc ?_ _));exact BK231.out))⟩;have n5_ : Aside0 (w84.heap[gb238]? = some (.cells #[.bool true,.int .i64 ((rd_T43 x11_2 (ji59)).f1)] 43 (0,0))) := ⟨(by rw [hw];exact (by (with_reducible repeat (first | refine blk_drewN ?_ _ | refine blk_drew ?_ | refine blk_alloc ?_ _));refine blk_put (cs:=#[.bool true,.int .i64 0]) ?_ 1 _ rfl;(with_reducible repeat (first | refine blk_drewN ?_ _ | refine blk_drew ?_ | refine blk_alloc ?_ _));refine blk_put (cs:=#[.bool false,.int .i64 0]) ?_ 0 _ rfl;(with_reducible repeat (first | refine blk_drewN ?_ _ | refine blk_drew ?_ | refine blk_alloc ?_ _));exact BK238.out))⟩;have n6_ : Aside0 (Below w.heap.size w w84) := ⟨(by rw [hw];exact (by repeat (first | (with_reducible first | exact HB.out | apply below_alloc | apply pw_below_drewN | apply below_drew1 | refine below_set ?_ GE229.out | refine below_set ?_ GE230.out | refine below_set ?_ GE231.out | refine below_set ?_ GE238.out) | exact HB.out)))⟩;clear hw;clear HO_11;clear HO_12;clear BK229;clear BK230;clear BK231;clear BK238;clear HB;have HO_11:=n0_;have HO_12:=n1_;have BK229:=n2_;have BK230:=n3_;have BK231:=n4_;have BK238:=n5_;have HB:=n6_;clear n0_ n1_ n2_ n3_ n4_ n5_ n6_;have q85 : ((ji59) : Int) ≤ ((x11_2.length : Int) : Int) := of_decide_eq_true (by first | (with_reducible assumption) | assumption);obtain ⟨i085,hi085,_,hsz85,_⟩ := info_parts info43;have hcut85:=cut_to (P:=Try.prog) 29 43 .i64 Try.underlying29 hi085 (some ad237) x11_2.length co78 (ji59) (of_decide_eq_true (by first | (with_reducible assumption) | assumption)) q85 (Kd.R_reads' HO_11.out).2.1;have hr85:=Kd.R_take (m:=((ji59) : Int).toNat) HO_11.out (by omega);have hy85 : y239.length = ((ji59) : Int).toNat:=(by rw [Ny239.out,List.length_take];omega);rw [← Ny239.out] at hr85;rw [← hy85] at hr85 hcut85;clear hy85 hi085 hsz85 HO_11;have HO241:=Aside0.mk hr85;clear hr85;replace q85:=eq_true q85;have hcz86_0 : w84.cell? ⟨gb238,0,none⟩ = some (.bool true) := (blk_cell BK238.out 0).trans rfl;have hcz86_1 : w84.cell? ⟨gb238,1,none⟩ = some (.int .i64 ((rd_T43 x11_2 (ji59)).f1)) := (blk_cell BK238.out 1).trans rfl;have hfz86_0:=blk_frozen BK238.out 0;have hfz86_1:=blk_frozen BK238.out 1;have hnb87:=NB231_229.out;have hnc87:=NB229_231.out;have hnb88:=NB231_230.out;have hnc88:=NB230_231.out;have hcz89_0 : w84.cell? ⟨gb231,0,none⟩ = some (.slice none 0 0) := (blk_cell BK231.out 0).trans rfl;have hcz89_1 : w84.cell? ⟨gb231,1,none⟩ = some (.bool x232001_2) := (blk_cell BK231.out 1).trans rfl;have hfz89_0:=blk_frozen BK231.out 0;have hfz89_1:=blk_frozen BK231.out 1))
               refine bodyPost_ret (results_ctt rfl _ _ gb231 31 #[.slice none 0 0,.bool true] (0,0) _ rfl (by (with_reducible repeat (first | refine blk_drewN ?_ _ | refine blk_drew ?_ | refine blk_alloc ?_ _));refine blk_put (cs:=#[.slice none 0 0,.bool x232001_2]) ?_ 1 _ rfl;(with_reducible repeat (first | refine blk_drewN ?_ _ | refine blk_drew ?_ | refine blk_alloc ?_ _));refine blk_put (cs:=#[.slice none 0 0,.bool x232001_2]) ?_ 0 _ rfl;(with_reducible repeat (first | refine blk_drewN ?_ _ | refine blk_drew ?_ | refine blk_alloc ?_ _));exact BK231.out) Try.underlying31 rfl (by kernel_rfl)) rfl ?_
               exact ⟨_,_,by first | rfl | (simp [errW_none,errW_some] <;> rfl) | (simp only [← hji59];first | rfl | (simp [errW_none,errW_some] <;> rfl)) | (simp [*,errW_none,errW_some] <;> rfl),by first | exact Kd.R_nil _ _ _ _ _ | exact Kd.N_nil _ _ _ _ _ | exact Kd.V_nil _ _ _ _ _ | exact Kd.Q_nil _ _ _ _ _ | exact Kd.S_nil _ _ _ _ _,by (with_reducible repeat (first | apply Kd.R_alloc | apply Kd.R_drewN | apply Kd.R_drew));exact Kd.R_mono (Kd.R_far (p:=⟨gb231,1,none⟩) (Kd.R_far (p:=⟨gb231,0,none⟩) (Kd.R_types HO_12.out BK231.out (by decide)) (fun _ hk => hk.2) (.slice none 0 0)) (fun _ hk => hk.2) (.bool true)) (fun _ hk => trivial),by repeat (first | (with_reducible first | exact HB.out | apply below_alloc | apply pw_below_drewN | apply below_drew1 | refine below_set ?_ GE229.out | refine below_set ?_ GE230.out | refine below_set ?_ GE231.out | refine below_set ?_ GE238.out) | exact HB.out)⟩
           · replace c64:=Bool.eq_false_iff.mpr c64
             subst c64
             have H1 : (if 0 ≤ ((rd_T43 x11_2 (ji59)).f1) then (if ((rd_T43 x11_2 (ji59)).f1) < (l1.length : Int) then (if 0 ≤ a3 then (if a3 < ((rd_L5 l1 ((rd_T43 x11_2 (ji59)).f1)).length : Int) then (if (rd (rd_L5 l1 ((rd_T43 x11_2 (ji59)).f1)) a3) < 0 then (some (([] : List (S43)),true,x12_2,80)) else (if x12_2.length < 17592186044416 then (if 0 ≤ (rd (rd_L5 l1 ((rd_T43 x11_2 (ji59)).f1)) a3) then (if (rd (rd_L5 l1 ((rd_T43 x11_2 (ji59)).f1)) a3) < (l0_4.length : Int) then (regletref16_Feed.l1 k2 l1 a3 y239 (x12_2 ++ [rd (rd_L5 l1 ((rd_T43 x11_2 (ji59)).f1)) a3]) (rd (rd_L5 l1 ((rd_T43 x11_2 (ji59)).f1)) a3) (wrap64 ((((rd_T35 l0_4 (rd (rd_L5 l1 ((rd_T43 x11_2 (ji59)).f1)) a3)).f1).length : Int) - 1)) l0_0 l0_1 a0_2 a0_3 l0_4) else (none)) else (none)) else (none))) else (none)) else (none)) else (none)) else (none)) = some (r1,r2,r3,r4) := by rw [if_neg (show ¬ (false = true) by decide)] at H;exact H
             clear H
             have H:=H1
             clear H1
             by_cases c90 : 0 ≤ ((rd_T43 x11_2 (ji59)).f1)
             rotate_left
             · rw [if_neg c90] at H
               exact absurd H (by simp)
             rw [if_pos c90] at H
             have c90b0 : decide (0 ≤ ((rd_T43 x11_2 (ji59)).f1)) = true:=decide_eq_true c90
             clear c90
             by_cases c91 : ((rd_T43 x11_2 (ji59)).f1) < (l1.length : Int)
             rotate_left
             · rw [if_neg c91] at H
               exact absurd H (by simp)
             rw [if_pos c91] at H
             have c91b0 : decide (((rd_T43 x11_2 (ji59)).f1) < (l1.length : Int)) = true:=decide_eq_true c91
             clear c91
             by_cases c92 : 0 ≤ a3
             rotate_left
             · rw [if_neg c92] at H
               exact absurd H (by simp)
             rw [if_pos c92] at H
             have c92b0 : decide (0 ≤ a3) = true:=decide_eq_true c92
             clear c92
             by_cases c93 : a3 < ((rd_L5 l1 ((rd_T43 x11_2 (ji59)).f1)).length : Int)
             rotate_left
             · rw [if_neg c93] at H
               exact absurd H (by simp)
             rw [if_pos c93] at H
             have c93b0 : decide (a3 < ((rd_L5 l1 ((rd_T43 x11_2 (ji59)).f1)).length : Int)) = true:=decide_eq_true c93
             clear c93
             by_cases c94 : (rd (rd_L5 l1 ((rd_T43 x11_2 (ji59)).f1)) a3) < 0
             · rw [if_pos c94] at H
               have c94b0 : decide ((rd (rd_L5 l1 ((rd_T43 x11_2 (ji59)).f1)) a3) < 0) = true:=decide_eq_true c94
               clear c94
               simp only [Option.some.injEq,Prod.mk.injEq] at H
               obtain ⟨rfl,rfl,rfl,rfl⟩ := H
               obtain ⟨Ao95,co95,eo95⟩ := Kd.R_slice HO_11.out
               subst eo95
               have p237 : 0 ≤ ((ji59) : Int) := of_decide_eq_true (by first | (with_reducible assumption) | assumption)
               have q237 : (ji59) < (x11_2.length : Int) := of_decide_eq_true (by first | (with_reducible assumption) | assumption)
               obtain ⟨ad237,e237,hx237_0,hx237_1⟩ := at_T43 (Kd.R_reads' HO_11.out).2.2 (ji59) p237 q237
               (try rw [← Nbq63.out] at hx237_0)
               cases e237
               replace p237:=eq_true p237
               replace q237:=eq_true q237
               go_wp2_with (first | ((with_reducible refine gate_dst (N:=13) rfl ?_);(try (refine gate_guard (by rfl) ?_;dsimp only));refine box_event ?hg (N:=13) ?hd (cs:=#[.bool false,.int .i64 0]) (t:=43) ?hr ?_;(case hd => rfl);(case hg => rfl);(case hr => first | (go_simp;done) | (go_simp;rfl));intro gb238 hg w96 hbox hb;have n0_:=Aside0.mk (Kd.R_below (Kd.R_elderB (by (with_reducible repeat (first | apply Kd.R_alloc | apply Kd.R_drewN | apply Kd.R_drew));exact HO_11.out) gb238 (Nat.le_of_eq hg.symm)) hb);have n1_:=Aside0.mk (Kd.R_below (by (with_reducible repeat (first | apply Kd.R_alloc | apply Kd.R_drewN | apply Kd.R_drew));exact HO_12.out) hb);have n2_:=Aside0.mk (blk_below (g:=gb229) (o := .cells #[.slice A0_0 l0_0.length c0_0,.slice A0_1 l0_1.length c0_1,.int .i64 a0_2,.int .i64 a0_3,.slice A0_4 l0_4.length c0_4] 26 (0,0)) (by (with_reducible repeat (first | refine blk_drewN ?_ _ | refine blk_drew ?_ | refine blk_alloc ?_ _));exact BK229.out) hb);have n3_:=Aside0.mk (blk_below (g:=gb230) (o := .cells #[.slice A2_0 l2_0.length c2_0,.bool false] 31 (0,0)) (by (with_reducible repeat (first | refine blk_drewN ?_ _ | refine blk_drew ?_ | refine blk_alloc ?_ _));exact BK230.out) hb);have n4_:=Aside0.mk (blk_below (g:=gb231) (o := .cells #[.slice none 0 0,.bool x232001_2] 31 (0,0)) (by (with_reducible repeat (first | refine blk_drewN ?_ _ | refine blk_drew ?_ | refine blk_alloc ?_ _));exact BK231.out) hb);have n5_:=Aside0.mk (below_step (by repeat (first | (with_reducible first | exact HB.out | apply below_alloc | apply pw_below_drewN | apply below_drew1 | refine below_set ?_ GE229.out | refine below_set ?_ GE230.out | refine below_set ?_ GE231.out) | exact HB.out)) hb);have n6_:=Aside0.mk (hbox);have n7_:=Aside0.mk ((by rw [hg];exact (below_size (by repeat (first | (with_reducible first | exact HB.out | apply below_alloc | apply pw_below_drewN | apply below_drew1 | refine below_set ?_ GE229.out | refine below_set ?_ GE230.out | refine below_set ?_ GE231.out) | exact HB.out))) : w.heap.size ≤ gb238));have n8_:=Aside0.mk ((by rw [hg];exact (below_size (by repeat (first | (with_reducible first | exact HB.out | apply below_alloc | apply pw_below_drewN | apply below_drew1 | refine below_set ?_ GE229.out | refine below_set ?_ GE230.out | refine below_set ?_ GE231.out) | exact HB.out))) : w.heap.size ≤ gb238));have n9_:=Aside0.mk ((by rw [hg];exact Nat.ne_of_lt (blk_lt (g:=gb229) (o := .cells #[.slice A0_0 l0_0.length c0_0,.slice A0_1 l0_1.length c0_1,.int .i64 a0_2,.int .i64 a0_3,.slice A0_4 l0_4.length c0_4] 26 (0,0)) (by (with_reducible repeat (first | refine blk_drewN ?_ _ | refine blk_drew ?_ | refine blk_alloc ?_ _));exact BK229.out)) : gb229 ≠ gb238));have n10_:=Aside0.mk ((by rw [hg];exact Nat.ne_of_gt (blk_lt (g:=gb229) (o := .cells #[.slice A0_0 l0_0.length c0_0,.slice A0_1 l0_1.length c0_1,.int .i64 a0_2,.int .i64 a0_3,.slice A0_4 l0_4.length c0_4] 26 (0,0)) (by (with_reducible repeat (first | refine blk_drewN ?_ _ | refine blk_drew ?_ | refine blk_alloc ?_ _));exact BK229.out)) : gb238 ≠ gb229));have n11_:=Aside0.mk ((by rw [hg];exact Nat.ne_of_lt (blk_lt (g:=gb230) (o := .cells #[.slice A2_0 l2_0.length c2_0,.bool false] 31 (0,0)) (by (with_reducible repeat (first | refine blk_drewN ?_ _ | refine blk_drew ?_ | refine blk_alloc ?_ _));exact BK230.out)) : gb230 ≠ gb238));have n12_:=Aside0.mk ((by rw [hg];exact Nat.ne_of_gt (blk_lt (g:=gb230) (o := .cells #[.slice A2_0 l2_0.length c2_0,.bool false] 31 (0,0)) (by (with_reducible repeat (first | refine blk_drewN ?_ _ | refine blk_drew ?_ | refine blk_alloc ?_ _));exact BK230.out)) : gb238 ≠ gb230));have n13_:=Aside0.mk ((by rw [hg];exact Nat.ne_of_lt (blk_lt (g:=gb231) (o := .cells #[.slice none 0 0,.bool x232001_2] 31 (0,0)) (by (with_reducible repeat (first | refine blk_drewN ?_ _ | refine blk_drew ?_ | refine blk_alloc ?_ _));exact BK231.out)) : gb231 ≠ gb238));have n14_:=Aside0.mk ((by rw [hg];exact Nat.ne_of_gt (blk_lt (g:=gb231) (o := .cells #[.slice none 0 0,.bool x232001_2] 31 (0,0)) (by (with_reducible repeat (first | refine blk_drewN ?_ _ | refine blk_drew ?_ | refine blk_alloc ?_ _));exact BK231.out)) : gb238 ≠ gb231));clear HO_11;clear HO_12;clear BK229;clear BK230;clear BK231;clear HB;have HO_11:=n0_;have HO_12:=n1_;have BK229:=n2_;have BK230:=n3_;have BK231:=n4_;have HB:=n5_;have BK238:=n6_;have GW238:=n7_;have GE238:=n8_;have NB229_238:=n9_;have NB238_229:=n10_;have NB230_238:=n11_;have NB238_230:=n12_;have NB231_238:=n13_;have NB238_231:=n14_;clear n0_ n1_ n2_ n3_ n4_ n5_ n6_ n7_ n8_ n9_ n10_ n11_ n12_ n13_ n14_;clear hb hbox hg;have hnb97:=NB238_229.out;have hnc97:=NB229_238.out;have hnb98:=NB238_230.out;have hnc98:=NB230_238.out;have hnb99:=NB238_231.out;have hnc99:=NB231_238.out;have hcz100_0 : w96.cell? ⟨gb238,0,none⟩ = some (.bool false) := (blk_cell BK238.out 0).trans rfl;have hcz100_1 : w96.cell? ⟨gb238,1,none⟩ = some (.int .i64 0) := (blk_cell BK238.out 1).trans rfl;have hfz100_0:=blk_frozen BK238.out 0;have hfz100_1:=blk_frozen BK238.out 1) | ((with_reducible refine gate_store (t:=43) (p:=13) rfl ?_);refine store_event (t:=43) (p:=13) (v:=?vo_w101) (w1:=((w96.setCell ⟨gb238,0,none⟩ (.bool false)).setCell ⟨gb238,1,none⟩ (.int .i64 ((rd_T43 x11_2 (ji59)).f1)))) ?hg ?ho ?hn ?hr ?_;(case ho => rfl);(case hg => rfl);(case hn => rfl);(case hr => first | (go_simp;done) | (go_simp;rfl));intro w101 hw;have n0_ : Aside0 (Kd.R k43 43 w101 w.heap.size (fun k_ => k_ ≠ gb238) (.slice (some ad237) x11_2.length co95) x11_2) := ⟨(by rw [hw];exact (by (with_reducible repeat (first | apply Kd.R_alloc | apply Kd.R_drewN | apply Kd.R_drew));exact Kd.R_mono (Kd.R_far (p:=⟨gb238,1,none⟩) (Kd.R_far (p:=⟨gb238,0,none⟩) (Kd.R_mono HO_11.out (fun k_ hk => (⟨hk,hk.2⟩ : _ ∧ k_ ≠ gb238))) (fun _ hk => hk.2) (.bool false)) (fun _ hk => hk.2) (.int .i64 ((rd_T43 x11_2 (ji59)).f1))) (fun _ hk => hk.1.2)))⟩;have n1_ : Aside0 (Kd.R (Kd.int .i64) 3 w101 w.heap.size (fun _ => True) u12 x12_2) := ⟨(by rw [hw];exact (by (with_reducible repeat (first | apply Kd.R_alloc | apply Kd.R_drewN | apply Kd.R_drew));exact Kd.R_mono (Kd.R_far (p:=⟨gb238,1,none⟩) (Kd.R_far (p:=⟨gb238,0,none⟩) (Kd.R_types HO_12.out BK238.out (by decide)) (fun _ hk => hk.2) (.bool false)) (fun _ hk => hk.2) (.int .i64 ((rd_T43 x11_2 (ji59)).f1))) (fun _ hk => trivial)))⟩;have n2_ : Aside0 (w101.heap[gb229]? = some (.cells #[.slice A0_0 l0_0.length c0_0,.slice A0_1 l0_1.length c0_1,.int .i64 a0_2,.int .i64 a0_3,.slice A0_4 l0_4.length c0_4] 26 (0,0))) := ⟨(by rw [hw];exact (by (with_reducible repeat (first | refine blk_drewN ?_ _ | refine blk_drew ?_ | refine blk_alloc ?_ _));refine blk_far ?_ NB229_238.out _;(with_reducible repeat (first | refine blk_drewN ?_ _ | refine blk_drew ?_ | refine blk_alloc ?_ _));refine blk_far ?_ NB229_238.out _;(with_reducible repeat (first | refine blk_drewN ?_ _ | refine blk_drew ?_ | refine blk_alloc ?_ _));exact BK229.out))⟩;have n3_ : Aside0 (w101.heap[gb230]? = some (.cells #[.slice A2_0 l2_0.length c2_0,.bool false] 31 (0,0))) := ⟨(by rw [hw];exact (by (with_reducible repeat (first | refine blk_drewN ?_ _ | refine blk_drew ?_ | refine blk_alloc ?_ _));refine blk_far ?_ NB230_238.out _;(with_reducible repeat (first | refine blk_drewN ?_ _ | refine blk_drew ?_ | refine blk_alloc ?_ _));refine blk_far ?_ NB230_238.out _;(with_reducible repeat (first | refine blk_drewN ?_ _ | refine blk_drew ?_ | refine blk_alloc ?_ _));exact BK230.out))⟩;have n4_ : Aside0 (w101.heap[gb231]? = some (.cells #[.slice none 0 0,.bool x232001_2] 31 (0,0))) := ⟨(by rw [hw];exact (by (with_reducible repeat (first | refine blk_drewN ?_ _ | refine blk_drew ?_ | refine blk_alloc ?_ _));refine blk_far ?_ NB231_238.out _;(with_reducible repeat (first | refine blk_drewN ?_ _ | refine blk_drew ?_ | refine blk_alloc ?_ _));refine blk_far ?_ NB231_238.out _;(with_reducible repeat (first | refine blk_drewN ?_ _ | refine blk_drew ?_ | refine blk_alloc ?_ _));exact BK231.out))⟩;have n5_ : Aside0 (w101.heap[gb238]? = some (.cells #[.bool false,.int .i64 ((rd_T43 x11_2 (ji59)).f1)] 43 (0,0))) := ⟨(by rw [hw];exact (by (with_reducible repeat (first | refine blk_drewN ?_ _ | refine blk_drew ?_ | refine blk_alloc ?_ _));refine blk_put (cs:=#[.bool false,.int .i64 0]) ?_ 1 _ rfl;(with_reducible repeat (first | refine blk_drewN ?_ _ | refine blk_drew ?_ | refine blk_alloc ?_ _));refine blk_put (cs:=#[.bool false,.int .i64 0]) ?_ 0 _ rfl;(with_reducible repeat (first | refine blk_drewN ?_ _ | refine blk_drew ?_ | refine blk_alloc ?_ _));exact BK238.out))⟩;have n6_ : Aside0 (Below w.heap.size w w101) := ⟨(by rw [hw];exact (by repeat (first | (with_reducible first | exact HB.out | apply below_alloc | apply pw_below_drewN | apply below_drew1 | refine below_set ?_ GE229.out | refine below_set ?_ GE230.out | refine below_set ?_ GE231.out | refine below_set ?_ GE238.out) | exact HB.out)))⟩;clear hw;clear HO_11;clear HO_12;clear BK229;clear BK230;clear BK231;clear BK238;clear HB;have HO_11:=n0_;have HO_12:=n1_;have BK229:=n2_;have BK230:=n3_;have BK231:=n4_;have BK238:=n5_;have HB:=n6_;clear n0_ n1_ n2_ n3_ n4_ n5_ n6_;have q102 : ((ji59) : Int) ≤ ((x11_2.length : Int) : Int) := of_decide_eq_true (by first | (with_reducible assumption) | assumption);obtain ⟨i0102,hi0102,_,hsz102,_⟩ := info_parts info43;have hcut102:=cut_to (P:=Try.prog) 29 43 .i64 Try.underlying29 hi0102 (some ad237) x11_2.length co95 (ji59) (of_decide_eq_true (by first | (with_reducible assumption) | assumption)) q102 (Kd.R_reads' HO_11.out).2.1;have hr102:=Kd.R_take (m:=((ji59) : Int).toNat) HO_11.out (by omega);have hy102 : y239.length = ((ji59) : Int).toNat:=(by rw [Ny239.out,List.length_take];omega);rw [← Ny239.out] at hr102;rw [← hy102] at hr102 hcut102;clear hy102 hi0102 hsz102 HO_11;have HO241:=Aside0.mk hr102;clear hr102;replace q102:=eq_true q102;have hcz103_0 : w101.cell? ⟨gb238,0,none⟩ = some (.bool false) := (blk_cell BK238.out 0).trans rfl;have hcz103_1 : w101.cell? ⟨gb238,1,none⟩ = some (.int .i64 ((rd_T43 x11_2 (ji59)).f1)) := (blk_cell BK238.out 1).trans rfl;have hfz103_0:=blk_frozen BK238.out 0;have hfz103_1:=blk_frozen BK238.out 1;have p242 : 0 ≤ (((rd_T43 x11_2 (ji59)).f1) : Int) := of_decide_eq_true (by first | (with_reducible assumption) | assumption);have q242 : ((rd_T43 x11_2 (ji59)).f1) < (l1.length : Int) := of_decide_eq_true (by first | (with_reducible assumption) | assumption);obtain ⟨ad242,A242_0,c242_0,e242,hx242_0,hl242_0,hi242_0⟩ := at_L5 HR1.out ((rd_T43 x11_2 (ji59)).f1) p242 q242;cases e242;replace hx242_0:=(HB.out.cell (World.block_lt_of_cell? w _ hx242_0)).trans hx242_0;have HR242_0:=Aside0.mk hi242_0;have HC242_0:=Aside0.mk hl242_0;clear hi242_0 hl242_0;replace p242:=eq_true p242;replace q242:=eq_true q242;have p243 : 0 ≤ (a3 : Int) := of_decide_eq_true (by first | (with_reducible assumption) | assumption);have q243 : a3 < ((rd_L5 l1 ((rd_T43 x11_2 (ji59)).f1)).length : Int) := of_decide_eq_true (by first | (with_reducible assumption) | assumption);obtain ⟨ad243,e243,hx243_0⟩ := Kd.at_int HR242_0.out a3 p243 q243;cases e243;replace hx243_0:=(HB.out.cell (World.block_lt_of_cell? w _ hx243_0)).trans hx243_0;replace p243:=eq_true p243;replace q243:=eq_true q243;have hnb104:=NB231_229.out;have hnc104:=NB229_231.out;have hnb105:=NB231_230.out;have hnc105:=NB230_231.out;have hcz106_0 : w101.cell? ⟨gb231,0,none⟩ = some (.slice none 0 0) := (blk_cell BK231.out 0).trans rfl;have hcz106_1 : w101.cell? ⟨gb231,1,none⟩ = some (.bool x232001_2) := (blk_cell BK231.out 1).trans rfl;have hfz106_0:=blk_frozen BK231.out 0;have hfz106_1:=blk_frozen BK231.out 1))
               refine bodyPost_ret (results_ctt rfl _ _ gb231 31 #[.slice none 0 0,.bool true] (0,0) _ rfl (by (with_reducible repeat (first | refine blk_drewN ?_ _ | refine blk_drew ?_ | refine blk_alloc ?_ _));refine blk_put (cs:=#[.slice none 0 0,.bool x232001_2]) ?_ 1 _ rfl;(with_reducible repeat (first | refine blk_drewN ?_ _ | refine blk_drew ?_ | refine blk_alloc ?_ _));refine blk_put (cs:=#[.slice none 0 0,.bool x232001_2]) ?_ 0 _ rfl;(with_reducible repeat (first | refine blk_drewN ?_ _ | refine blk_drew ?_ | refine blk_alloc ?_ _));exact BK231.out) Try.underlying31 rfl (by kernel_rfl)) rfl ?_
               exact ⟨_,_,by first | rfl | (simp [errW_none,errW_some] <;> rfl) | (simp only [← hji59];first | rfl | (simp [errW_none,errW_some] <;> rfl)) | (simp [*,errW_none,errW_some] <;> rfl),by first | exact Kd.R_nil _ _ _ _ _ | exact Kd.N_nil _ _ _ _ _ | exact Kd.V_nil _ _ _ _ _ | exact Kd.Q_nil _ _ _ _ _ | exact Kd.S_nil _ _ _ _ _,by (with_reducible repeat (first | apply Kd.R_alloc | apply Kd.R_drewN | apply Kd.R_drew));exact Kd.R_mono (Kd.R_far (p:=⟨gb231,1,none⟩) (Kd.R_far (p:=⟨gb231,0,none⟩) (Kd.R_types HO_12.out BK231.out (by decide)) (fun _ hk => hk.2) (.slice none 0 0)) (fun _ hk => hk.2) (.bool true)) (fun _ hk => trivial),by repeat (first | (with_reducible first | exact HB.out | apply below_alloc | apply pw_below_drewN | apply below_drew1 | refine below_set ?_ GE229.out | refine below_set ?_ GE230.out | refine below_set ?_ GE231.out | refine below_set ?_ GE238.out) | exact HB.out)⟩
             · rw [if_neg c94] at H
               have c94b0 : decide ((rd (rd_L5 l1 ((rd_T43 x11_2 (ji59)).f1)) a3) < 0) = false:=decide_eq_false c94
               clear c94
               by_cases c107 : x12_2.length < 17592186044416
               rotate_left
               · rw [if_neg c107] at H
                 exact absurd H (by simp)
               rw [if_pos c107] at H
               have LMc107:=Aside0.mk c107
               clear c107
               obtain ⟨y244,hy244⟩ : ∃ y_ : List Int,y_ = (x12_2 ++ [rd (rd_L5 l1 ((rd_T43 x11_2 (ji59)).f1)) a3]) := ⟨_,rfl⟩
               replace H : (if 0 ≤ (rd (rd_L5 l1 ((rd_T43 x11_2 (ji59)).f1)) a3) then (if (rd (rd_L5 l1 ((rd_T43 x11_2 (ji59)).f1)) a3) < (l0_4.length : Int) then (regletref16_Feed.l1 k2 l1 a3 y239 y244 (rd (rd_L5 l1 ((rd_T43 x11_2 (ji59)).f1)) a3) (wrap64 ((((rd_T35 l0_4 (rd (rd_L5 l1 ((rd_T43 x11_2 (ji59)).f1)) a3)).f1).length : Int) - 1)) l0_0 l0_1 a0_2 a0_3 l0_4) else (none)) else (none)) = some (r1,r2,r3,r4) := by first | (rw [hy244];with_reducible exact H) | (have H2_:=(Option.bind_some _ _).symm.trans H;rw [hy244];with_reducible exact H2_) | (have H2_:=(Option.bind_some _ _).symm.trans H;with_reducible exact H2_) | with_reducible exact H | (rw [hy244];exact H) | exact H
               have Ny244:=Aside0.mk hy244
               clear hy244
               by_cases c108 : 0 ≤ (rd (rd_L5 l1 ((rd_T43 x11_2 (ji59)).f1)) a3)
               rotate_left
               · rw [if_neg c108] at H
                 exact absurd H (by simp)
               rw [if_pos c108] at H
               have c108b0 : decide (0 ≤ (rd (rd_L5 l1 ((rd_T43 x11_2 (ji59)).f1)) a3)) = true:=decide_eq_true c108
               clear c108
               by_cases c109 : (rd (rd_L5 l1 ((rd_T43 x11_2 (ji59)).f1)) a3) < (l0_4.length : Int)
               rotate_left
               · rw [if_neg c109] at H
                 exact absurd H (by simp)
               rw [if_pos c109] at H
               have c109b0 : decide ((rd (rd_L5 l1 ((rd_T43 x11_2 (ji59)).f1)) a3) < (l0_4.length : Int)) = true:=decide_eq_true c109
               clear c109
               have H' := Aside0.mk H
               clear H
               obtain ⟨Ao110,co110,eo110⟩ := Kd.R_slice HO_11.out
               subst eo110
               have p237 : 0 ≤ ((ji59) : Int) := of_decide_eq_true (by first | (with_reducible assumption) | assumption)
               have q237 : (ji59) < (x11_2.length : Int) := of_decide_eq_true (by first | (with_reducible assumption) | assumption)
               obtain ⟨ad237,e237,hx237_0,hx237_1⟩ := at_T43 (Kd.R_reads' HO_11.out).2.2 (ji59) p237 q237
               (try rw [← Nbq63.out] at hx237_0)
               cases e237
               replace p237:=eq_true p237
               replace q237:=eq_true q237
               go_wp2_with (first | ((with_reducible refine gate_dst (N:=13) rfl ?_);(try (refine gate_guard (by rfl) ?_;dsimp only));refine box_event ?hg (N:=13) ?hd (cs:=#[.bool false,.int .i64 0]) (t:=43) ?hr ?_;(case hd => rfl);(case hg => rfl);(case hr => first | (go_simp;done) | (go_simp;rfl));intro gb238 hg w111 hbox hb;have n0_:=Aside0.mk (Kd.R_below (Kd.R_elderB (by (with_reducible repeat (first | apply Kd.R_alloc | apply Kd.R_drewN | apply Kd.R_drew));exact HO_11.out) gb238 (Nat.le_of_eq hg.symm)) hb);have n1_:=Aside0.mk (Kd.R_below (by (with_reducible repeat (first | apply Kd.R_alloc | apply Kd.R_drewN | apply Kd.R_drew));exact HO_12.out) hb);have n2_:=Aside0.mk (blk_below (g:=gb229) (o := .cells #[.slice A0_0 l0_0.length c0_0,.slice A0_1 l0_1.length c0_1,.int .i64 a0_2,.int .i64 a0_3,.slice A0_4 l0_4.length c0_4] 26 (0,0)) (by (with_reducible repeat (first | refine blk_drewN ?_ _ | refine blk_drew ?_ | refine blk_alloc ?_ _));exact BK229.out) hb);have n3_:=Aside0.mk (blk_below (g:=gb230) (o := .cells #[.slice A2_0 l2_0.length c2_0,.bool false] 31 (0,0)) (by (with_reducible repeat (first | refine blk_drewN ?_ _ | refine blk_drew ?_ | refine blk_alloc ?_ _));exact BK230.out) hb);have n4_:=Aside0.mk (blk_below (g:=gb231) (o := .cells #[.slice none 0 0,.bool x232001_2] 31 (0,0)) (by (with_reducible repeat (first | refine blk_drewN ?_ _ | refine blk_drew ?_ | refine blk_alloc ?_ _));exact BK231.out) hb);have n5_:=Aside0.mk (below_step (by repeat (first | (with_reducible first | exact HB.out | apply below_alloc | apply pw_below_drewN | apply below_drew1 | refine below_set ?_ GE229.out | refine below_set ?_ GE230.out | refine below_set ?_ GE231.out) | exact HB.out)) hb);have n6_:=Aside0.mk (hbox);have n7_:=Aside0.mk ((by rw [hg];exact (below_size (by repeat (first | (with_reducible first | exact HB.out | apply below_alloc | apply pw_below_drewN | apply below_drew1 | refine below_set ?_ GE229.out | refine below_set ?_ GE230.out | refine below_set ?_ GE231.out) | exact HB.out))) : w.heap.size ≤ gb238));have n8_:=Aside0.mk ((by rw [hg];exact (below_size (by repeat (first | (with_reducible first | exact HB.out | apply below_alloc | apply pw_below_drewN | apply below_drew1 | refine below_set ?_ GE229.out | refine below_set ?_ GE230.out | refine below_set ?_ GE231.out) | exact HB.out))) : w.heap.size ≤ gb238));have n9_:=Aside0.mk ((by rw [hg];exact Nat.ne_of_lt (blk_lt (g:=gb229) (o := .cells #[.slice A0_0 l0_0.length c0_0,.slice A0_1 l0_1.length c0_1,.int .i64 a0_2,.int .i64 a0_3,.slice A0_4 l0_4.length c0_4] 26 (0,0)) (by (with_reducible repeat (first | refine blk_drewN ?_ _ | refine blk_drew ?_ | refine blk_alloc ?_ _));exact BK229.out)) : gb229 ≠ gb238));have n10_:=Aside0.mk ((by rw [hg];exact Nat.ne_of_gt (blk_lt (g:=gb229) (o := .cells #[.slice A0_0 l0_0.length c0_0,.slice A0_1 l0_1.length c0_1,.int .i64 a0_2,.int .i64 a0_3,.slice A0_4 l0_4.length c0_4] 26 (0,0)) (by (with_reducible repeat (first | refine blk_drewN ?_ _ | refine blk_drew ?_ | refine blk_alloc ?_ _));exact BK229.out)) : gb238 ≠ gb229));have n11_:=Aside0.mk ((by rw [hg];exact Nat.ne_of_lt (blk_lt (g:=gb230) (o := .cells #[.slice A2_0 l2_0.length c2_0,.bool false] 31 (0,0)) (by (with_reducible repeat (first | refine blk_drewN ?_ _ | refine blk_drew ?_ | refine blk_alloc ?_ _));exact BK230.out)) : gb230 ≠ gb238));have n12_:=Aside0.mk ((by rw [hg];exact Nat.ne_of_gt (blk_lt (g:=gb230) (o := .cells #[.slice A2_0 l2_0.length c2_0,.bool false] 31 (0,0)) (by (with_reducible repeat (first | refine blk_drewN ?_ _ | refine blk_drew ?_ | refine blk_alloc ?_ _));exact BK230.out)) : gb238 ≠ gb230));have n13_:=Aside0.mk ((by rw [hg];exact Nat.ne_of_lt (blk_lt (g:=gb231) (o := .cells #[.slice none 0 0,.bool x232001_2] 31 (0,0)) (by (with_reducible repeat (first | refine blk_drewN ?_ _ | refine blk_drew ?_ | refine blk_alloc ?_ _));exact BK231.out)) : gb231 ≠ gb238));have n14_:=Aside0.mk ((by rw [hg];exact Nat.ne_of_gt (blk_lt (g:=gb231) (o := .cells #[.slice none 0 0,.bool x232001_2] 31 (0,0)) (by (with_reducible repeat (first | refine blk_drewN ?_ _ | refine blk_drew ?_ | refine blk_alloc ?_ _));exact BK231.out)) : gb238 ≠ gb231));clear HO_11;clear HO_12;clear BK229;clear BK230;clear BK231;clear HB;have HO_11:=n0_;have HO_12:=n1_;have BK229:=n2_;have BK230:=n3_;have BK231:=n4_;have HB:=n5_;have BK238:=n6_;have GW238:=n7_;have GE238:=n8_;have NB229_238:=n9_;have NB238_229:=n10_;have NB230_238:=n11_;have NB238_230:=n12_;have NB231_238:=n13_;have NB238_231:=n14_;clear n0_ n1_ n2_ n3_ n4_ n5_ n6_ n7_ n8_ n9_ n10_ n11_ n12_ n13_ n14_;clear hb hbox hg;have hnb112:=NB238_229.out;have hnc112:=NB229_238.out;have hnb113:=NB238_230.out;have hnc113:=NB230_238.out;have hnb114:=NB238_231.out;have hnc114:=NB231_238.out;have hcz115_0 : w111.cell? ⟨gb238,0,none⟩ = some (.bool false) := (blk_cell BK238.out 0).trans rfl;have hcz115_1 : w111.cell? ⟨gb238,1,none⟩ = some (.int .i64 0) := (blk_cell BK238.out 1).trans rfl;have hfz115_0:=blk_frozen BK238.out 0;have hfz115_1:=blk_frozen BK238.out 1) | ((with_reducible refine gate_store (t:=43) (p:=13) rfl ?_);refine store_event (t:=43) (p:=13) (v:=?vo_w116) (w1:=((w111.setCell ⟨gb238,0,none⟩ (.bool false)).setCell ⟨gb238,1,none⟩ (.int .i64 ((rd_T43 x11_2 (ji59)).f1)))) ?hg ?ho ?hn ?hr ?_;(case ho => rfl);(case hg => rfl);(case hn => rfl);(case hr => first | (go_simp;done) | (go_simp;rfl));intro w116 hw;have n0_ : Aside0 (Kd.R k43 43 w116 w.heap.size (fun k_ => k_ ≠ gb238) (.slice (some ad237) x11_2.length co110) x11_2) := ⟨(by rw [hw];exact (by (with_reducible repeat (first | apply Kd.R_alloc | apply Kd.R_drewN | apply Kd.R_drew));exact Kd.R_mono (Kd.R_far (p:=⟨gb238,1,none⟩) (Kd.R_far (p:=⟨gb238,0,none⟩) (Kd.R_mono HO_11.out (fun k_ hk => (⟨hk,hk.2⟩ : _ ∧ k_ ≠ gb238))) (fun _ hk => hk.2) (.bool false)) (fun _ hk => hk.2) (.int .i64 ((rd_T43 x11_2 (ji59)).f1))) (fun _ hk => hk.1.2)))⟩;have n1_ : Aside0 (Kd.R (Kd.int .i64) 3 w116 w.heap.size (fun _ => True) u12 x12_2) := ⟨(by rw [hw];exact (by (with_reducible repeat (first | apply Kd.R_alloc | apply Kd.R_drewN | apply Kd.R_drew));exact Kd.R_mono (Kd.R_far (p:=⟨gb238,1,none⟩) (Kd.R_far (p:=⟨gb238,0,none⟩) (Kd.R_types HO_12.out BK238.out (by decide)) (fun _ hk => hk.2) (.bool false)) (fun _ hk => hk.2) (.int .i64 ((rd_T43 x11_2 (ji59)).f1))) (fun _ hk => trivial)))⟩;have n2_ : Aside0 (w116.heap[gb229]? = some (.cells #[.slice A0_0 l0_0.length c0_0,.slice A0_1 l0_1.length c0_1,.int .i64 a0_2,.int .i64 a0_3,.slice A0_4 l0_4.length c0_4] 26 (0,0))) := ⟨(by rw [hw];exact (by (with_reducible repeat (first | refine blk_drewN ?_ _ | refine blk_drew ?_ | refine blk_alloc ?_ _));refine blk_far ?_ NB229_238.out _;(with_reducible repeat (first | refine blk_drewN ?_ _ | refine blk_drew ?_ | refine blk_alloc ?_ _));refine blk_far ?_ NB229_238.out _;(with_reducible repeat (first | refine blk_drewN ?_ _ | refine blk_drew ?_ | refine blk_alloc ?_ _));exact BK229.out))⟩;have n3_ : Aside0 (w116.heap[gb230]? = some (.cells #[.slice A2_0 l2_0.length c2_0,.bool false] 31 (0,0))) := ⟨(by rw [hw];exact (by (with_reducible repeat (first | refine blk_drewN ?_ _ | refine blk_drew ?_ | refine blk_alloc ?_ _));refine blk_far ?_ NB230_238.out _;(with_reducible repeat (first | refine blk_drewN ?_ _ | refine blk_drew ?_ | refine blk_alloc ?_ _));refine blk_far ?_ NB230_238.out _;(with_reducible repeat (first | refine blk_drewN ?_ _ | refine blk_drew ?_ | refine blk_alloc ?_ _));exact BK230.out))⟩;have n4_ : Aside0 (w116.heap[gb231]? = some (.cells #[.slice none 0 0,.bool x232001_2] 31 (0,0))) := ⟨(by rw [hw];exact (by (with_reducible repeat (first | refine blk_drewN ?_ _ | refine blk_drew ?_ | refine blk_alloc ?_ _));refine blk_far ?_ NB231_238.out _;(with_reducible repeat (first | refine blk_drewN ?_ _ | refine blk_drew ?_ | refine blk_alloc ?_ _));refine blk_far ?_ NB231_238.out _;(with_reducible repeat (first | refine blk_drewN ?_ _ | refine blk_drew ?_ | refine blk_alloc ?_ _));exact BK231.out))⟩;have n5_ : Aside0 (w116.heap[gb238]? = some (.cells #[.bool false,.int .i64 ((rd_T43 x11_2 (ji59)).f1)] 43 (0,0))) := ⟨(by rw [hw];exact (by (with_reducible repeat (first | refine blk_drewN ?_ _ | refine blk_drew ?_ | refine blk_alloc ?_ _));refine blk_put (cs:=#[.bool false,.int .i64 0]) ?_ 1 _ rfl;(with_reducible repeat (first | refine blk_drewN ?_ _ | refine blk_drew ?_ | refine blk_alloc ?_ _));refine blk_put (cs:=#[.bool false,.int .i64 0]) ?_ 0 _ rfl;(with_reducible repeat (first | refine blk_drewN ?_ _ | refine blk_drew ?_ | refine blk_alloc ?_ _));exact BK238.out))⟩;have n6_ : Aside0 (Below w.heap.size w w116) := ⟨(by rw [hw];exact (by repeat (first | (with_reducible first | exact HB.out | apply below_alloc | apply pw_below_drewN | apply below_drew1 | refine below_set ?_ GE229.out | refine below_set ?_ GE230.out | refine below_set ?_ GE231.out | refine below_set ?_ GE238.out) | exact HB.out)))⟩;clear hw;clear HO_11;clear HO_12;clear BK229;clear BK230;clear BK231;clear BK238;clear HB;have HO_11:=n0_;have HO_12:=n1_;have BK229:=n2_;have BK230:=n3_;have BK231:=n4_;have BK238:=n5_;have HB:=n6_;clear n0_ n1_ n2_ n3_ n4_ n5_ n6_;have q117 : ((ji59) : Int) ≤ ((x11_2.length : Int) : Int) := of_decide_eq_true (by first | (with_reducible assumption) | assumption);obtain ⟨i0117,hi0117,_,hsz117,_⟩ := info_parts info43;have hcut117:=cut_to (P:=Try.prog) 29 43 .i64 Try.underlying29 hi0117 (some ad237) x11_2.length co110 (ji59) (of_decide_eq_true (by first | (with_reducible assumption) | assumption)) q117 (Kd.R_reads' HO_11.out).2.1;have hr117:=Kd.R_take (m:=((ji59) : Int).toNat) HO_11.out (by omega);have hy117 : y239.length = ((ji59) : Int).toNat:=(by rw [Ny239.out,List.length_take];omega);rw [← Ny239.out] at hr117;rw [← hy117] at hr117 hcut117;clear hy117 hi0117 hsz117 HO_11;have HO241:=Aside0.mk hr117;clear hr117;replace q117:=eq_true q117;have hcz118_0 : w116.cell? ⟨gb238,0,none⟩ = some (.bool false) := (blk_cell BK238.out 0).trans rfl;have hcz118_1 : w116.cell? ⟨gb238,1,none⟩ = some (.int .i64 ((rd_T43 x11_2 (ji59)).f1)) := (blk_cell BK238.out 1).trans rfl;have hfz118_0:=blk_frozen BK238.out 0;have hfz118_1:=blk_frozen BK238.out 1;have p242 : 0 ≤ (((rd_T43 x11_2 (ji59)).f1) : Int) := of_decide_eq_true (by first | (with_reducible assumption) | assumption);have q242 : ((rd_T43 x11_2 (ji59)).f1) < (l1.length : Int) := of_decide_eq_true (by first | (with_reducible assumption) | assumption);obtain ⟨ad242,A242_0,c242_0,e242,hx242_0,hl242_0,hi242_0⟩ := at_L5 HR1.out ((rd_T43 x11_2 (ji59)).f1) p242 q242;cases e242;replace hx242_0:=(HB.out.cell (World.block_lt_of_cell? w _ hx242_0)).trans hx242_0;have HR242_0:=Aside0.mk hi242_0;have HC242_0:=Aside0.mk hl242_0;clear hi242_0 hl242_0;replace p242:=eq_true p242;replace q242:=eq_true q242;have p243 : 0 ≤ (a3 : Int) := of_decide_eq_true (by first | (with_reducible assumption) | assumption);have q243 : a3 < ((rd_L5 l1 ((rd_T43 x11_2 (ji59)).f1)).length : Int) := of_decide_eq_true (by first | (with_reducible assumption) | assumption);obtain ⟨ad243,e243,hx243_0⟩ := Kd.at_int HR242_0.out a3 p243 q243;cases e243;replace hx243_0:=(HB.out.cell (World.block_lt_of_cell? w _ hx243_0)).trans hx243_0;replace p243:=eq_true p243;replace q243:=eq_true q243) | ((with_reducible refine gate_builtin (b := .append) (xs:=#[.tmp 83,.tmp 85]) rfl ?_);(try (refine gate_guard (by rfl) ?_;dsimp only));at_builtin;refine Kd.R_append (Kd.int .i64) (w0:=w) w.heap.size rfl (.tmp 83) (.tmp 85) 32 3 (.int .i64 0) 8 rfl Try.underlying32 info3 rfl (by decide) (by omega) u12 x12_2 (rd (rd_L5 l1 ((rd_T43 x11_2 (ji59)).f1)) a3) [.int .i64 (rd (rd_L5 l1 ((rd_T43 x11_2 (ji59)).f1)) a3)] (fun _ => True) (fun _ => False) rfl rfl ?aP (fun _ hk => hk.elim) ?aF ?aO ?aB ?aS ?aL ?_;(case aP => exact rfl);(case aB => exact (by repeat (first | (with_reducible first | exact HB.out | apply below_alloc | apply pw_below_drewN | apply below_drew1 | refine below_set ?_ GE229.out | refine below_set ?_ GE230.out | refine below_set ?_ GE231.out | refine below_set ?_ GE238.out) | exact HB.out)));(case aF => exact (fun _ _ => trivial));(case aO => exact (by (with_reducible repeat (first | apply Kd.R_alloc | apply Kd.R_drewN | apply Kd.R_drew));exact HO_12.out));(case aS => exact (below_size (by repeat (first | (with_reducible first | exact HB.out | apply below_alloc | apply pw_below_drewN | apply below_drew1 | refine below_set ?_ GE229.out | refine below_set ?_ GE230.out | refine below_set ?_ GE231.out | refine below_set ?_ GE238.out) | exact HB.out))));(case aL => have:=LMc107.out;omega);intro v245 w119 ho hb hg hat;rw [← Ny244.out] at ho;have n0_:=Aside0.mk (Kd.R_over' (by (with_reducible repeat (first | apply Kd.R_alloc | apply Kd.R_drewN | apply Kd.R_drew));exact HO241.out) (Kd.R_typed (by (with_reducible repeat (first | apply Kd.R_alloc | apply Kd.R_drewN | apply Kd.R_drew));exact HO_12.out)) (by decide) hg);have n1_:=Aside0.mk (blk_grown (g:=gb229) (o := .cells #[.slice A0_0 l0_0.length c0_0,.slice A0_1 l0_1.length c0_1,.int .i64 a0_2,.int .i64 a0_3,.slice A0_4 l0_4.length c0_4] 26 (0,0)) (by (with_reducible repeat (first | refine blk_drewN ?_ _ | refine blk_drew ?_ | refine blk_alloc ?_ _));exact BK229.out) hg (Kd.R_ne HO_12.out BK229.out (by decide)));have n2_:=Aside0.mk (blk_grown (g:=gb230) (o := .cells #[.slice A2_0 l2_0.length c2_0,.bool false] 31 (0,0)) (by (with_reducible repeat (first | refine blk_drewN ?_ _ | refine blk_drew ?_ | refine blk_alloc ?_ _));exact BK230.out) hg (Kd.R_ne HO_12.out BK230.out (by decide)));have n3_:=Aside0.mk (blk_grown (g:=gb231) (o := .cells #[.slice none 0 0,.bool x232001_2] 31 (0,0)) (by (with_reducible repeat (first | refine blk_drewN ?_ _ | refine blk_drew ?_ | refine blk_alloc ?_ _));exact BK231.out) hg (Kd.R_ne HO_12.out BK231.out (by decide)));have n4_:=Aside0.mk (blk_grown (g:=gb238) (o := .cells #[.bool false,.int .i64 ((rd_T43 x11_2 (ji59)).f1)] 43 (0,0)) (by (with_reducible repeat (first | refine blk_drewN ?_ _ | refine blk_drew ?_ | refine blk_alloc ?_ _));exact BK238.out) hg (Kd.R_ne HO_12.out BK238.out (by decide)));have n5_:=Aside0.mk (hb);have n6_:=Aside0.mk (ho);clear HO241;clear BK229;clear BK230;clear BK231;clear BK238;clear HB;clear HO_12;have HO241:=n0_;have BK229:=n1_;have BK230:=n2_;have BK231:=n3_;have BK238:=n4_;have HB:=n5_;have HO246:=n6_;clear n0_ n1_ n2_ n3_ n4_ n5_ n6_;clear ho hb hg hat;have hnb120:=NB229_230.out;have hnc120:=NB230_229.out;have hnb121:=NB229_231.out;have hnc121:=NB231_229.out;have hcz122_0 : w119.cell? ⟨gb229,0,none⟩ = some (.slice A0_0 l0_0.length c0_0) := (blk_cell BK229.out 0).trans rfl;have hcz122_1 : w119.cell? ⟨gb229,1,none⟩ = some (.slice A0_1 l0_1.length c0_1) := (blk_cell BK229.out 1).trans rfl;have hcz122_2 : w119.cell? ⟨gb229,2,none⟩ = some (.int .i64 a0_2) := (blk_cell BK229.out 2).trans rfl;have hcz122_3 : w119.cell? ⟨gb229,3,none⟩ = some (.int .i64 a0_3) := (blk_cell BK229.out 3).trans rfl;have hcz122_4 : w119.cell? ⟨gb229,4,none⟩ = some (.slice A0_4 l0_4.length c0_4) := (blk_cell BK229.out 4).trans rfl;have hfz122_0:=blk_frozen BK229.out 0;have hfz122_1:=blk_frozen BK229.out 1;have hfz122_2:=blk_frozen BK229.out 2;have hfz122_3:=blk_frozen BK229.out 3;have hfz122_4:=blk_frozen BK229.out 4;have p247 : 0 ≤ ((rd (rd_L5 l1 ((rd_T43 x11_2 (ji59)).f1)) a3) : Int) := of_decide_eq_true (by first | (with_reducible assumption) | assumption);have q247 : (rd (rd_L5 l1 ((rd_T43 x11_2 (ji59)).f1)) a3) < (l0_4.length : Int) := of_decide_eq_true (by first | (with_reducible assumption) | assumption);obtain ⟨ad247,A247_1,c247_1,e247,hx247_0,hx247_1,hl247_1,hi247_1⟩ := at_T35 HR0_4.out (rd (rd_L5 l1 ((rd_T43 x11_2 (ji59)).f1)) a3) p247 q247;cases e247;replace hx247_0:=(HB.out.cell (World.block_lt_of_cell? w _ hx247_0)).trans hx247_0;replace hx247_1:=(HB.out.cell (World.block_lt_of_cell? w _ hx247_1)).trans hx247_1;have HR247_1:=Aside0.mk hi247_1;have HC247_1:=Aside0.mk hl247_1;clear hi247_1 hl247_1;replace p247:=eq_true p247;replace q247:=eq_true q247))
               go_loopg [11,15] k2 (fun kq v11 v15 w' => ∃ (x11_3 : List (S43)) (x15_3 : Int),v15 = .int .i64 x15_3 ∧ Aside0 (regletref16_Feed.l1 kq l1 a3 x11_3 y244 (rd (rd_L5 l1 ((rd_T43 x11_2 (ji59)).f1)) a3) x15_3 l0_0 l0_1 a0_2 a0_3 l0_4 = some (r1,r2,r3,r4)) ∧ Aside0 (kq ≤ k2) ∧ Aside0 (Kd.R k43 43 w' w.heap.size (fun k_ => k_ ≠ gb238) v11 x11_3) ∧ Aside0 (Kd.R (Kd.int .i64) 3 w' w.heap.size (fun _ => True) v245 y244) ∧ Aside0 (w'.heap[gb229]? = some (.cells #[(.slice A0_0 l0_0.length c0_0),(.slice A0_1 l0_1.length c0_1),.int .i64 a0_2,.int .i64 a0_3,(.slice (some ad247) l0_4.length c0_4)] 26 (0,0))) ∧ Aside0 (w'.heap[gb230]? = some (.cells #[(.slice A2_0 l2_0.length c2_0),.bool false] 31 (0,0))) ∧ Aside0 (w'.heap[gb231]? = some (.cells #[(.slice none 0 0),.bool x232001_2] 31 (0,0))) ∧ Aside0 (w'.heap[gb238]? = some (.cells #[.bool false,.int .i64 ((rd_T43 x11_2 (ji59)).f1)] 43 (0,0))) ∧ Aside0 (Below w.heap.size w w'))
               case atStart => exact ⟨(y239),(wrap64 ((((rd_T35 l0_4 (rd (rd_L5 l1 ((rd_T43 x11_2 (ji59)).f1)) a3)).f1).length : Int) - 1)),(by first | rfl | (simp;done) | (simp only [← hji59] <;> (first | rfl | simp)) | (simp [*];done)),H',⟨Nat.le_refl _⟩,⟨by (with_reducible repeat (first | apply Kd.R_alloc | apply Kd.R_drewN | apply Kd.R_drew));exact HO241.out⟩,⟨by (with_reducible repeat (first | apply Kd.R_alloc | apply Kd.R_drewN | apply Kd.R_drew));exact HO246.out⟩,⟨by (with_reducible repeat (first | refine blk_drewN ?_ _ | refine blk_drew ?_ | refine blk_alloc ?_ _));exact BK229.out⟩,⟨by (with_reducible repeat (first | refine blk_drewN ?_ _ | refine blk_drew ?_ | refine blk_alloc ?_ _));exact BK230.out⟩,⟨by (with_reducible repeat (first | refine blk_drewN ?_ _ | refine blk_drew ?_ | refine blk_alloc ?_ _));exact BK231.out⟩,⟨by (with_reducible repeat (first | refine blk_drewN ?_ _ | refine blk_drew ?_ | refine blk_alloc ?_ _));exact BK238.out⟩,⟨by repeat (first | (with_reducible first | exact HB.out | apply below_alloc | apply pw_below_drewN | apply below_drew1 | refine below_set ?_ GE229.out | refine below_set ?_ GE230.out | refine below_set ?_ GE231.out | refine below_set ?_ GE238.out) | exact HB.out)⟩⟩
               case round =>
                clear H'
                (try clear c1);(try clear q1);(try clear c2);(try clear p2);(try clear q2);(try clear hx2);(try clear c3);(try clear c4);(try clear c5);(try clear c6);(try clear p6);(try clear q6);(try clear c7);(try clear q7);(try clear c8);(try clear q8);(try clear c9);(try clear c10);(try clear q10);(try clear c11);(try clear q11);(try clear c12);(try clear c13);(try clear c13b0);(try clear c14);(try clear c15)
                (try clear c19);(try clear c22);(try clear c23);(try clear p23);(try clear q23);(try clear hx23);(try clear c24);(try clear p24);(try clear q24);(try clear hx24);(try clear c26);(try clear c27);(try clear c31);(try clear c32);(try clear c36);(try clear c39);(try clear c40);(try clear c43);(try clear c44);(try clear c45);(try clear c47);(try clear c48);(try clear c49);(try clear c51);(try clear c53)
                (try clear c54);(try clear c55);(try clear c58);(try clear c58b0);(try clear c58b1);(try clear c60);(try clear c60b0);(try clear c61);(try clear c61b0);(try clear c62);(try clear c62b0);(try clear c62b1);(try clear q63);(try clear c64);(try clear p64);(try clear c65);(try clear c65b0);(try clear c65b1);(try clear c68);(try clear c69);(try clear c70);(try clear q73);(try clear c75);(try clear c76);(try clear c80)
                (try clear c81);(try clear c82);(try clear q85);(try clear c87);(try clear c88);(try clear c90);(try clear c90b0);(try clear c91);(try clear c91b0);(try clear c92);(try clear c92b0);(try clear c93);(try clear c93b0);(try clear c94);(try clear c94b0);(try clear c97);(try clear c98);(try clear c99);(try clear q102);(try clear c104);(try clear c105);(try clear c107);(try clear c108);(try clear c108b0)
                (try clear c109);(try clear c109b0);(try clear c112);(try clear c113);(try clear c114);(try clear q117);(try clear c120);(try clear c121);(try clear hcz100_0);(try clear hcz100_1);(try clear hcz103_0);(try clear hcz103_1);(try clear hcz106_0);(try clear hcz106_1);(try clear hcz115_0);(try clear hcz115_1);(try clear hcz118_0);(try clear hcz118_1);(try clear hcz122_0);(try clear hcz122_1);(try clear hcz122_2)
                (try clear hcz122_3);(try clear hcz122_4);(try clear hcz16_0);(try clear hcz16_1);(try clear hcz16_2);(try clear hcz16_3);(try clear hcz16_4);(try clear hcz18_0);(try clear hcz18_1);(try clear hcz18_2);(try clear hcz18_3);(try clear hcz18_4);(try clear hcz20_0);(try clear hcz20_1);(try clear hcz24_0);(try clear hcz24_1);(try clear hcz24_2);(try clear hcz24_3);(try clear hcz24_4);(try clear hcz26_0)
                (try clear hcz26_1);(try clear hcz26_2);(try clear hcz26_3);(try clear hcz26_4);(try clear hcz28_0);(try clear hcz28_1);(try clear hcz30_0);(try clear hcz30_1);(try clear hcz30_2);(try clear hcz30_3);(try clear hcz30_4);(try clear hcz33_0);(try clear hcz33_1);(try clear hcz33_2);(try clear hcz33_3);(try clear hcz33_4);(try clear hcz35_0);(try clear hcz35_1);(try clear hcz35_2);(try clear hcz35_3);(try clear hcz35_4)
                (try clear hcz37_0);(try clear hcz37_1);(try clear hcz41_0);(try clear hcz41_1);(try clear hcz41_2);(try clear hcz41_3);(try clear hcz41_4);(try clear hcz46_0);(try clear hcz46_1);(try clear hcz50_0);(try clear hcz50_1);(try clear hcz52_0);(try clear hcz52_1);(try clear hcz56_0);(try clear hcz56_1);(try clear hcz71_0);(try clear hcz71_1);(try clear hcz74_0);(try clear hcz74_1);(try clear hcz77_0);(try clear hcz77_1)
                (try clear hcz83_0);(try clear hcz83_1);(try clear hcz86_0);(try clear hcz86_1);(try clear hcz89_0);(try clear hcz89_1);(try clear hfz100_0);(try clear hfz100_1);(try clear hfz103_0);(try clear hfz103_1);(try clear hfz106_0);(try clear hfz106_1);(try clear hfz115_0);(try clear hfz115_1);(try clear hfz118_0);(try clear hfz118_1);(try clear hfz122_0);(try clear hfz122_1);(try clear hfz122_2);(try clear hfz122_3)
                (try clear hfz122_4);(try clear hfz16_0);(try clear hfz16_1);(try clear hfz16_2);(try clear hfz16_3);(try clear hfz16_4);(try clear hfz18_0);(try clear hfz18_1);(try clear hfz18_2);(try clear hfz18_3);(try clear hfz18_4);(try clear hfz20_0);(try clear hfz20_1);(try clear hfz24_0);(try clear hfz24_1);(try clear hfz24_2);(try clear hfz24_3);(try clear hfz24_4);(try clear hfz26_0);(try clear hfz26_1)
                (try clear hfz26_2);(try clear hfz26_3);(try clear hfz26_4);(try clear hfz28_0);(try clear hfz28_1);(try clear hfz30_0);(try clear hfz30_1);(try clear hfz30_2);(try clear hfz30_3);(try clear hfz30_4);(try clear hfz33_0);(try clear hfz33_1);(try clear hfz33_2);(try clear hfz33_3);(try clear hfz33_4);(try clear hfz35_0);(try clear hfz35_1);(try clear hfz35_2);(try clear hfz35_3);(try clear hfz35_4);(try clear hfz37_0)
                (try clear hfz37_1);(try clear hfz41_0);(try clear hfz41_1);(try clear hfz41_2);(try clear hfz41_3);(try clear hfz41_4);(try clear hfz46_0);(try clear hfz46_1);(try clear hfz50_0);(try clear hfz50_1);(try clear hfz52_0);(try clear hfz52_1);(try clear hfz56_0);(try clear hfz56_1);(try clear hfz71_0);(try clear hfz71_1);(try clear hfz74_0);(try clear hfz74_1);(try clear hfz77_0);(try clear hfz77_1);(try clear hfz83_0)
                (try clear hfz83_1);(try clear hfz86_0);(try clear hfz86_1);(try clear hfz89_0);(try clear hfz89_1);(try clear hx237_0);(try clear hx237_1);(try clear hx242_0);(try clear hx243_0);(try clear hx247_0);(try clear hx247_1);(try clear p2);(try clear p237);(try clear p242);(try clear p243);(try clear p247);(try clear q102);(try clear q117);(try clear q237);(try clear q242);(try clear q243);(try clear q247)
                (try clear q73);(try clear q85)
                obtain ⟨x11_3,x15_3,rfl,HA,HK3,HO_11,HO_12,BK229,BK230,BK231,BK238,HB⟩ := hrel
                cases gk with
                | zero => exact absurd HA.out (by simp [regletref16_Feed.l1])
                | succ k3 =>
                 have H:=HA.out
                 clear HA
                 simp only [regletref16_Feed.l1] at H
                 by_cases c123 : x15_3 ≥ 0
                 · rw [if_pos c123] at H
                   have c123b0 : decide (0 ≤ x15_3) = true:=decide_eq_true c123
                   clear c123
                   by_cases c124 : 0 ≤ (rd (rd_L5 l1 ((rd_T43 x11_2 (ji59)).f1)) a3)
                   rotate_left
                   · rw [if_neg c124] at H
                     exact absurd H (by simp)
                   rw [if_pos c124] at H
                   have c124b0 : decide (0 ≤ (rd (rd_L5 l1 ((rd_T43 x11_2 (ji59)).f1)) a3)) = true:=decide_eq_true c124
                   clear c124
                   by_cases c125 : (rd (rd_L5 l1 ((rd_T43 x11_2 (ji59)).f1)) a3) < (l0_4.length : Int)
                   rotate_left
                   · rw [if_neg c125] at H
                     exact absurd H (by simp)
                   rw [if_pos c125] at H
                   have c125b0 : decide ((rd (rd_L5 l1 ((rd_T43 x11_2 (ji59)).f1)) a3) < (l0_4.length : Int)) = true:=decide_eq_true c125
                   clear c125
                   by_cases c126 : 0 ≤ x15_3
                   rotate_left
                   · rw [if_neg c126] at H
                     exact absurd H (by simp)
                   rw [if_pos c126] at H
                   have c126b0 : decide (0 ≤ x15_3) = true:=decide_eq_true c126
                   clear c126
                   by_cases c127 : x15_3 < (((rd_T35 l0_4 (rd (rd_L5 l1 ((rd_T43 x11_2 (ji59)).f1)) a3)).f1).length : Int)
                   rotate_left
                   · rw [if_neg c127] at H
                     exact absurd H (by simp)
                   rw [if_pos c127] at H
                   have c127b0 : decide (x15_3 < (((rd_T35 l0_4 (rd (rd_L5 l1 ((rd_T43 x11_2 (ji59)).f1)) a3)).f1).length : Int)) = true:=decide_eq_true c127
                   clear c127
                   by_cases c128 : x11_3.length < 8796093022208
                   rotate_left
                   · rw [if_neg c128] at H
                     exact absurd H (by simp)
                   rw [if_pos c128] at H
                   have LMc128:=Aside0.mk c128
                   clear c128
                   obtain ⟨y250,hy250⟩ : ∃ y_ : List (S43),y_ = (x11_3 ++ [(⟨(rd_T43 ((rd_T35 l0_4 (rd (rd_L5 l1 ((rd_T43 x11_2 (ji59)).f1)) a3)).f1) x15_3).f0,(rd_T43 ((rd_T35 l0_4 (rd (rd_L5 l1 ((rd_T43 x11_2 (ji59)).f1)) a3)).f1) x15_3).f1⟩ : S43)]) := ⟨_,rfl⟩
                   replace H : (regletref16_Feed.l1 k3 l1 a3 y250 y244 (rd (rd_L5 l1 ((rd_T43 x11_2 (ji59)).f1)) a3) (wrap64 (x15_3 - 1)) l0_0 l0_1 a0_2 a0_3 l0_4) = some (r1,r2,r3,r4) := by first | (rw [hy250];with_reducible exact H) | (have H2_:=(Option.bind_some _ _).symm.trans H;rw [hy250];with_reducible exact H2_) | (have H2_:=(Option.bind_some _ _).symm.trans H;with_reducible exact H2_) | with_reducible exact H | (rw [hy250];exact H) | exact H
                   have Ny250:=Aside0.mk hy250
                   clear hy250
                   have H' := Aside0.mk H
                   clear H
                   have hnb129:=NB229_230.out
                   have hnc129:=NB230_229.out
                   have hnb130:=NB229_231.out
                   have hnc130:=NB231_229.out
                   have hnb131:=NB229_238.out
                   have hnc131:=NB238_229.out
                   have hcz132_0 : wr.cell? ⟨gb229,0,none⟩ = some (.slice A0_0 l0_0.length c0_0) := (blk_cell BK229.out 0).trans rfl
                   have hcz132_1 : wr.cell? ⟨gb229,1,none⟩ = some (.slice A0_1 l0_1.length c0_1) := (blk_cell BK229.out 1).trans rfl
                   have hcz132_2 : wr.cell? ⟨gb229,2,none⟩ = some (.int .i64 a0_2) := (blk_cell BK229.out 2).trans rfl
                   have hcz132_3 : wr.cell? ⟨gb229,3,none⟩ = some (.int .i64 a0_3) := (blk_cell BK229.out 3).trans rfl
                   have hcz132_4 : wr.cell? ⟨gb229,4,none⟩ = some (.slice (some ad247) l0_4.length c0_4) := (blk_cell BK229.out 4).trans rfl
                   have hfz132_0:=blk_frozen BK229.out 0
                   have hfz132_1:=blk_frozen BK229.out 1
                   have hfz132_2:=blk_frozen BK229.out 2
                   have hfz132_3:=blk_frozen BK229.out 3
                   have hfz132_4:=blk_frozen BK229.out 4
                   have p248 : 0 ≤ ((rd (rd_L5 l1 ((rd_T43 x11_2 (ji59)).f1)) a3) : Int) := of_decide_eq_true (by first | (with_reducible assumption) | assumption)
                   have q248 : (rd (rd_L5 l1 ((rd_T43 x11_2 (ji59)).f1)) a3) < (l0_4.length : Int) := of_decide_eq_true (by first | (with_reducible assumption) | assumption)
                   obtain ⟨ad248,A248_1,c248_1,e248,hx248_0,hx248_1,hl248_1,hi248_1⟩ := at_T35 HR0_4.out (rd (rd_L5 l1 ((rd_T43 x11_2 (ji59)).f1)) a3) p248 q248
                   obtain rfl : ad247 = ad248:=(by injection e248)
                   replace hx248_0:=(HB.out.cell (World.block_lt_of_cell? w _ hx248_0)).trans hx248_0
                   replace hx248_1:=(HB.out.cell (World.block_lt_of_cell? w _ hx248_1)).trans hx248_1
                   have HR248_1:=Aside0.mk hi248_1
                   have HC248_1:=Aside0.mk hl248_1
                   clear hi248_1 hl248_1
                   replace p248:=eq_true p248
                   replace q248:=eq_true q248
                   have p249 : 0 ≤ (x15_3 : Int) := of_decide_eq_true (by first | (with_reducible assumption) | assumption)
                   have q249 : x15_3 < (((rd_T35 l0_4 (rd (rd_L5 l1 ((rd_T43 x11_2 (ji59)).f1)) a3)).f1).length : Int) := of_decide_eq_true (by first | (with_reducible assumption) | assumption)
                   obtain ⟨ad249,e249,hx249_0,hx249_1⟩ := at_T43 HR248_1.out x15_3 p249 q249
                   (try rw [← Nbq63.out] at hx249_0)
                   cases e249
                   replace hx249_0:=(HB.out.cell (World.block_lt_of_cell? w _ hx249_0)).trans hx249_0
                   replace hx249_1:=(HB.out.cell (World.block_lt_of_cell? w _ hx249_1)).trans hx249_1
                   replace p249:=eq_true p249
                   replace q249:=eq_true q249
                   go_wp2_with (first | ((with_reducible refine gate_builtin (b := .append) (xs:=#[.tmp 99,.tmp 109]) rfl ?_);(try (refine gate_guard (by rfl) ?_;dsimp only));at_builtin;refine Kd.R_append k43 (w0:=w) w.heap.size rfl (.tmp 99) (.tmp 109) 29 43 (.agg #[(.bool false),(.int .i64 0)]) 16 rfl Try.underlying29 info43 rfl (by decide) (by omega) u11 x11_3 (⟨(rd_T43 ((rd_T35 l0_4 (rd (rd_L5 l1 ((rd_T43 x11_2 (ji59)).f1)) a3)).f1) x15_3).f0,(rd_T43 ((rd_T35 l0_4 (rd (rd_L5 l1 ((rd_T43 x11_2 (ji59)).f1)) a3)).f1) x15_3).f1⟩ : S43) [.bool ((rd_T43 ((rd_T35 l0_4 (rd (rd_L5 l1 ((rd_T43 x11_2 (ji59)).f1)) a3)).f1) x15_3).f0),.int .i64 ((rd_T43 ((rd_T35 l0_4 (rd (rd_L5 l1 ((rd_T43 x11_2 (ji59)).f1)) a3)).f1) x15_3).f1)] (fun k_ => k_ ≠ gb238) (fun _ => False) rfl rfl ?aP (fun _ hk => hk.elim) ?aF ?aO ?aB ?aS ?aL ?_;(case aP => exact k43_mkM _ _ _ (⟨(rd_T43 ((rd_T35 l0_4 (rd (rd_L5 l1 ((rd_T43 x11_2 (ji59)).f1)) a3)).f1) x15_3).f0,(rd_T43 ((rd_T35 l0_4 (rd (rd_L5 l1 ((rd_T43 x11_2 (ji59)).f1)) a3)).f1) x15_3).f1⟩ : S43));(case aB => exact (by repeat (first | (with_reducible first | exact HB.out | apply below_alloc | apply pw_below_drewN | apply below_drew1 | refine below_set ?_ GE229.out | refine below_set ?_ GE230.out | refine below_set ?_ GE231.out | refine below_set ?_ GE238.out) | exact HB.out)));(case aF => exact (fun k_ hk => Kd.freshB (g:=gb238) (o := .cells #[.bool false,.int .i64 ((rd_T43 x11_2 (ji59)).f1)] 43 (0,0)) (by (with_reducible repeat (first | refine blk_drewN ?_ _ | refine blk_drew ?_ | refine blk_alloc ?_ _));exact BK238.out) k_ hk));(case aO => exact (by (with_reducible repeat (first | apply Kd.R_alloc | apply Kd.R_drewN | apply Kd.R_drew));exact HO_11.out));(case aS => exact (below_size (by repeat (first | (with_reducible first | exact HB.out | apply below_alloc | apply pw_below_drewN | apply below_drew1 | refine below_set ?_ GE229.out | refine below_set ?_ GE230.out | refine below_set ?_ GE231.out | refine below_set ?_ GE238.out) | exact HB.out))));(case aL => have:=LMc128.out;omega);intro v251 w133 ho hb hg hat;rw [← Ny250.out] at ho;have n0_:=Aside0.mk (Kd.R_over' (by (with_reducible repeat (first | apply Kd.R_alloc | apply Kd.R_drewN | apply Kd.R_drew));exact HO_12.out) (Kd.R_typed (by (with_reducible repeat (first | apply Kd.R_alloc | apply Kd.R_drewN | apply Kd.R_drew));exact HO_11.out)) (by decide) hg);have n1_:=Aside0.mk (blk_grown (g:=gb229) (o := .cells #[.slice A0_0 l0_0.length c0_0,.slice A0_1 l0_1.length c0_1,.int .i64 a0_2,.int .i64 a0_3,.slice (some ad247) l0_4.length c0_4] 26 (0,0)) (by (with_reducible repeat (first | refine blk_drewN ?_ _ | refine blk_drew ?_ | refine blk_alloc ?_ _));exact BK229.out) hg (Kd.R_ne HO_11.out BK229.out (by decide)));have n2_:=Aside0.mk (blk_grown (g:=gb230) (o := .cells #[.slice A2_0 l2_0.length c2_0,.bool false] 31 (0,0)) (by (with_reducible repeat (first | refine blk_drewN ?_ _ | refine blk_drew ?_ | refine blk_alloc ?_ _));exact BK230.out) hg (Kd.R_ne HO_11.out BK230.out (by decide)));have n3_:=Aside0.mk (blk_grown (g:=gb231) (o := .cells #[.slice none 0 0,.bool x232001_2] 31 (0,0)) (by (with_reducible repeat (first | refine blk_drewN ?_ _ | refine blk_drew ?_ | refine blk_alloc ?_ _));exact BK231.out) hg (Kd.R_ne HO_11.out BK231.out (by decide)));have n4_:=Aside0.mk (blk_grown (g:=gb238) (o := .cells #[.bool false,.int .i64 ((rd_T43 x11_2 (ji59)).f1)] 43 (0,0)) (by (with_reducible repeat (first | refine blk_drewN ?_ _ | refine blk_drew ?_ | refine blk_alloc ?_ _));exact BK238.out) hg (Kd.R_away HO_11.out (fun _ hk => hk)));have n5_:=Aside0.mk (hb);have n6_:=Aside0.mk (ho);clear HO_12;clear BK229;clear BK230;clear BK231;clear BK238;clear HB;clear HO_11;have HO_12:=n0_;have BK229:=n1_;have BK230:=n2_;have BK231:=n3_;have BK238:=n4_;have HB:=n5_;have HO252:=n6_;clear n0_ n1_ n2_ n3_ n4_ n5_ n6_;clear ho hb hg hat))
                   go_roundg k3
                   case measure => have:=HJ4.out;have:=HK2.out;have:=HK3.out;omega
                   case rel => exact ⟨(y250),(wrap64 (x15_3 - 1)),(by first | rfl | (simp;done) | (simp [*];done)),H',⟨by have:=HJ4.out;have:=HK2.out;have:=HK3.out;omega⟩,⟨by (with_reducible repeat (first | apply Kd.R_alloc | apply Kd.R_drewN | apply Kd.R_drew));exact HO252.out⟩,⟨by (with_reducible repeat (first | apply Kd.R_alloc | apply Kd.R_drewN | apply Kd.R_drew));exact HO_12.out⟩,⟨by (with_reducible repeat (first | refine blk_drewN ?_ _ | refine blk_drew ?_ | refine blk_alloc ?_ _));exact BK229.out⟩,⟨by (with_reducible repeat (first | refine blk_drewN ?_ _ | refine blk_drew ?_ | refine blk_alloc ?_ _));exact BK230.out⟩,⟨by (with_reducible repeat (first | refine blk_drewN ?_ _ | refine blk_drew ?_ | refine blk_alloc ?_ _));exact BK231.out⟩,⟨by (with_reducible repeat (first | refine blk_drewN ?_ _ | refine blk_drew ?_ | refine blk_alloc ?_ _));exact BK238.out⟩,⟨by repeat (first | (with_reducible first | exact HB.out | apply below_alloc | apply pw_below_drewN | apply below_drew1 | refine below_set ?_ GE229.out | refine below_set ?_ GE230.out | refine below_set ?_ GE231.out | refine below_set ?_ GE238.out) | exact HB.out)⟩⟩
                 · rw [if_neg c123] at H
                   have c123b0 : decide (0 ≤ x15_3) = false:=decide_eq_false c123
                   clear c123
                   by_cases c134 : (x11_3.length : Int) > 10000
                   · rw [if_pos c134] at H
                     have c134b0 : decide (10000 < (x11_3.length : Int)) = true:=decide_eq_true c134
                     have c134b1 : decide (10000 < x11_3.length) = true:=decide_eq_true (by omega)
                     clear c134
                     simp only [Option.some.injEq,Prod.mk.injEq] at H
                     obtain ⟨rfl,rfl,rfl,rfl⟩ := H
                     obtain ⟨Ao135,co135,eo135⟩ := Kd.R_slice HO_11.out
                     subst eo135
                     have hnb136:=NB231_229.out
                     have hnc136:=NB229_231.out
                     have hnb137:=NB231_230.out
                     have hnc137:=NB230_231.out
                     have hnb138:=NB231_238.out
                     have hnc138:=NB238_231.out
                     have hcz139_0 : wr.cell? ⟨gb231,0,none⟩ = some (.slice none 0 0) := (blk_cell BK231.out 0).trans rfl
                     have hcz139_1 : wr.cell? ⟨gb231,1,none⟩ = some (.bool x232001_2) := (blk_cell BK231.out 1).trans rfl
                     have hfz139_0:=blk_frozen BK231.out 0
                     have hfz139_1:=blk_frozen BK231.out 1
                     go_wp2
                     refine bodyPost_ret (results_ctt rfl _ _ gb231 31 #[.slice none 0 0,.bool true] (0,0) _ rfl (by (with_reducible repeat (first | refine blk_drewN ?_ _ | refine blk_drew ?_ | refine blk_alloc ?_ _));refine blk_put (cs:=#[.slice none 0 0,.bool x232001_2]) ?_ 1 _ rfl;(with_reducible repeat (first | refine blk_drewN ?_ _ | refine blk_drew ?_ | refine blk_alloc ?_ _));refine blk_put (cs:=#[.slice none 0 0,.bool x232001_2]) ?_ 0 _ rfl;(with_reducible repeat (first | refine blk_drewN ?_ _ | refine blk_drew ?_ | refine blk_alloc ?_ _));exact BK231.out) Try.underlying31 rfl (by kernel_rfl)) rfl ?_
                     exact ⟨_,_,by first | rfl | (simp [errW_none,errW_some] <;> rfl) | (simp only [← hji59];first | rfl | (simp [errW_none,errW_some] <;> rfl)) | (simp [*,errW_none,errW_some] <;> rfl),by first | exact Kd.R_nil _ _ _ _ _ | exact Kd.N_nil _ _ _ _ _ | exact Kd.V_nil _ _ _ _ _ | exact Kd.Q_nil _ _ _ _ _ | exact Kd.S_nil _ _ _ _ _,by first | exact Kd.R_nil _ _ _ _ _ | exact Kd.N_nil _ _ _ _ _ | exact Kd.V_nil _ _ _ _ _ | exact Kd.Q_nil _ _ _ _ _ | exact Kd.S_nil _ _ _ _ _,by repeat (first | (with_reducible first | exact HB.out | apply below_alloc | apply pw_below_drewN | apply below_drew1 | refine below_set ?_ GE229.out | refine below_set ?_ GE230.out | refine below_set ?_ GE231.out | refine below_set ?_ GE238.out) | exact HB.out)⟩
                   · rw [if_neg c134] at H
                     have c134b0 : decide (10000 < (x11_3.length : Int)) = false:=decide_eq_false c134
                     have c134b1 : decide (10000 < x11_3.length) = false:=decide_eq_false (by omega)
                     clear c134
                     by_cases c140 : (y244.length : Int) > 10000
                     · rw [if_pos c140] at H
                       have c140b0 : decide (10000 < (y244.length : Int)) = true:=decide_eq_true c140
                       have c140b1 : decide (10000 < y244.length) = true:=decide_eq_true (by omega)
                       clear c140
                       simp only [Option.some.injEq,Prod.mk.injEq] at H
                       obtain ⟨rfl,rfl,rfl,rfl⟩ := H
                       obtain ⟨Ao141,co141,eo141⟩ := Kd.R_slice HO_11.out
                       subst eo141
                       obtain ⟨Ao142,co142,eo142⟩ := Kd.R_slice HO_12.out
                       subst eo142
                       have hnb143:=NB231_229.out
                       have hnc143:=NB229_231.out
                       have hnb144:=NB231_230.out
                       have hnc144:=NB230_231.out
                       have hnb145:=NB231_238.out
                       have hnc145:=NB238_231.out
                       have hcz146_0 : wr.cell? ⟨gb231,0,none⟩ = some (.slice none 0 0) := (blk_cell BK231.out 0).trans rfl
                       have hcz146_1 : wr.cell? ⟨gb231,1,none⟩ = some (.bool x232001_2) := (blk_cell BK231.out 1).trans rfl
                       have hfz146_0:=blk_frozen BK231.out 0
                       have hfz146_1:=blk_frozen BK231.out 1
                       go_wp2
                       refine bodyPost_ret (results_ctt rfl _ _ gb231 31 #[.slice none 0 0,.bool true] (0,0) _ rfl (by (with_reducible repeat (first | refine blk_drewN ?_ _ | refine blk_drew ?_ | refine blk_alloc ?_ _));refine blk_put (cs:=#[.slice none 0 0,.bool x232001_2]) ?_ 1 _ rfl;(with_reducible repeat (first | refine blk_drewN ?_ _ | refine blk_drew ?_ | refine blk_alloc ?_ _));refine blk_put (cs:=#[.slice none 0 0,.bool x232001_2]) ?_ 0 _ rfl;(with_reducible repeat (first | refine blk_drewN ?_ _ | refine blk_drew ?_ | refine blk_alloc ?_ _));exact BK231.out) Try.underlying31 rfl (by kernel_rfl)) rfl ?_
                       exact ⟨_,_,by first | rfl | (simp [errW_none,errW_some] <;> rfl) | (simp only [← hji59];first | rfl | (simp [errW_none,errW_some] <;> rfl)) | (simp [*,errW_none,errW_some] <;> rfl),by first | exact Kd.R_nil _ _ _ _ _ | exact Kd.N_nil _ _ _ _ _ | exact Kd.V_nil _ _ _ _ _ | exact Kd.Q_nil _ _ _ _ _ | exact Kd.S_nil _ _ _ _ _,by first | exact Kd.R_nil _ _ _ _ _ | exact Kd.N_nil _ _ _ _ _ | exact Kd.V_nil _ _ _ _ _ | exact Kd.Q_nil _ _ _ _ _ | exact Kd.S_nil _ _ _ _ _,by repeat (first | (with_reducible first | exact HB.out | apply below_alloc | apply pw_below_drewN | apply below_drew1 | refine below_set ?_ GE229.out | refine below_set ?_ GE230.out | refine below_set ?_ GE231.out | refine below_set ?_ GE238.out) | exact HB.out)⟩
                     · rw [if_neg c140] at H
                       have c140b0 : decide (10000 < (y244.length : Int)) = false:=decide_eq_false c140
                       have c140b1 : decide (10000 < y244.length) = false:=decide_eq_false (by omega)
                       clear c140
                       have H' := Aside0.mk H
                       clear H
                       obtain ⟨Ao147,co147,eo147⟩ := Kd.R_slice HO_11.out
                       subst eo147
                       obtain ⟨Ao148,co148,eo148⟩ := Kd.R_slice HO_12.out
                       subst eo148
                       go_wp2
                       go_roundg k3
                       case measure => have:=HJ4.out;have:=HK2.out;have:=HK3.out;omega
                       case rel => exact ⟨(x11_3),(y244),(x232001_2),H',⟨by have:=HJ4.out;have:=HK2.out;have:=HK3.out;omega⟩,⟨by (with_reducible repeat (first | apply Kd.R_alloc | apply Kd.R_drewN | apply Kd.R_drew));exact Kd.R_mono HO_11.out (fun _ hk => trivial)⟩,⟨by (with_reducible repeat (first | apply Kd.R_alloc | apply Kd.R_drewN | apply Kd.R_drew));exact HO_12.out⟩,⟨by (with_reducible repeat (first | refine blk_drewN ?_ _ | refine blk_drew ?_ | refine blk_alloc ?_ _));exact BK229.out⟩,⟨by (with_reducible repeat (first | refine blk_drewN ?_ _ | refine blk_drew ?_ | refine blk_alloc ?_ _));exact BK230.out⟩,⟨by (with_reducible repeat (first | refine blk_drewN ?_ _ | refine blk_drew ?_ | refine blk_alloc ?_ _));exact BK231.out⟩,⟨by repeat (first | (with_reducible first | exact HB.out | apply below_alloc | apply pw_below_drewN | apply below_drew1 | refine below_set ?_ GE229.out | refine below_set ?_ GE230.out | refine below_set ?_ GE231.out | refine below_set ?_ GE238.out) | exact HB.out)⟩⟩
         · rw [if_neg c58] at H
           have c58b0 : decide (0 < (x11_2.length : Int)) = false:=decide_eq_false c58
           have c58b1 : decide (0 < x11_2.length) = false:=decide_eq_false (by omega)
           clear c58
           by_cases c149 : a3 < (l0_1.length : Int)
           · rw [if_pos c149] at H
             have c149b0 : decide (a3 < (l0_1.length : Int)) = true:=decide_eq_true c149
             clear c149
             simp only [Option.some.injEq,Prod.mk.injEq] at H
             obtain ⟨rfl,rfl,rfl,rfl⟩ := H
             obtain ⟨Ao150,co150,eo150⟩ := Kd.R_slice HO_11.out
             subst eo150
             have hnb151:=NB229_230.out
             have hnc151:=NB230_229.out
             have hnb152:=NB229_231.out
             have hnc152:=NB231_229.out
             have hcz153_0 : wr.cell? ⟨gb229,0,none⟩ = some (.slice A0_0 l0_0.length c0_0) := (blk_cell BK229.out 0).trans rfl
             have hcz153_1 : wr.cell? ⟨gb229,1,none⟩ = some (.slice A0_1 l0_1.length c0_1) := (blk_cell BK229.out 1).trans rfl
             have hcz153_2 : wr.cell? ⟨gb229,2,none⟩ = some (.int .i64 a0_2) := (blk_cell BK229.out 2).trans rfl
             have hcz153_3 : wr.cell? ⟨gb229,3,none⟩ = some (.int .i64 a0_3) := (blk_cell BK229.out 3).trans rfl
             have hcz153_4 : wr.cell? ⟨gb229,4,none⟩ = some (.slice A0_4 l0_4.length c0_4) := (blk_cell BK229.out 4).trans rfl
             have hfz153_0:=blk_frozen BK229.out 0
             have hfz153_1:=blk_frozen BK229.out 1
             have hfz153_2:=blk_frozen BK229.out 2
             have hfz153_3:=blk_frozen BK229.out 3
             have hfz153_4:=blk_frozen BK229.out 4
             have hnb154:=NB231_230.out
             have hnc154:=NB230_231.out
             have hcz155_0 : wr.cell? ⟨gb231,0,none⟩ = some (.slice none 0 0) := (blk_cell BK231.out 0).trans rfl
             have hcz155_1 : wr.cell? ⟨gb231,1,none⟩ = some (.bool x232001_2) := (blk_cell BK231.out 1).trans rfl
             have hfz155_0:=blk_frozen BK231.out 0
             have hfz155_1:=blk_frozen BK231.out 1
             go_wp2
             refine bodyPost_ret (results_ctt rfl _ _ gb231 31 #[.slice none 0 0,.bool true] (0,0) _ rfl (by (with_reducible repeat (first | refine blk_drewN ?_ _ | refine blk_drew ?_ | refine blk_alloc ?_ _));refine blk_put (cs:=#[.slice none 0 0,.bool x232001_2]) ?_ 1 _ rfl;(with_reducible repeat (first | refine blk_drewN ?_ _ | refine blk_drew ?_ | refine blk_alloc ?_ _));refine blk_put (cs:=#[.slice none 0 0,.bool x232001_2]) ?_ 0 _ rfl;(with_reducible repeat (first | refine blk_drewN ?_ _ | refine blk_drew ?_ | refine blk_alloc ?_ _));exact BK231.out) Try.underlying31 rfl (by kernel_rfl)) rfl ?_
             exact ⟨_,_,by first | rfl | (simp [errW_none,errW_some] <;> rfl) | (simp [*,errW_none,errW_some] <;> rfl),by first | exact Kd.R_nil _ _ _ _ _ | exact Kd.N_nil _ _ _ _ _ | exact Kd.V_nil _ _ _ _ _ | exact Kd.Q_nil _ _ _ _ _ | exact Kd.S_nil _ _ _ _ _,by (with_reducible repeat (first | apply Kd.R_alloc | apply Kd.R_drewN | apply Kd.R_drew));exact Kd.R_mono (Kd.R_far (p:=⟨gb231,1,none⟩) (Kd.R_far (p:=⟨gb231,0,none⟩) (Kd.R_types HO_12.out BK231.out (by decide)) (fun _ hk => hk.2) (.slice none 0 0)) (fun _ hk => hk.2) (.bool true)) (fun _ hk => trivial),by repeat (first | (with_reducible first | exact HB.out | apply below_alloc | apply pw_below_drewN | apply below_drew1 | refine below_set ?_ GE229.out | refine below_set ?_ GE230.out | refine below_set ?_ GE231.out) | exact HB.out)⟩
           · rw [if_neg c149] at H
             have c149b0 : decide (a3 < (l0_1.length : Int)) = false:=decide_eq_false c149
             clear c149
             simp only [Option.some.injEq,Prod.mk.injEq] at H
             obtain ⟨rfl,rfl,rfl,rfl⟩ := H
             obtain ⟨Ao156,co156,eo156⟩ := Kd.R_slice HO_11.out
             subst eo156
             have hnb157:=NB229_230.out
             have hnc157:=NB230_229.out
             have hnb158:=NB229_231.out
             have hnc158:=NB231_229.out
             have hcz159_0 : wr.cell? ⟨gb229,0,none⟩ = some (.slice A0_0 l0_0.length c0_0) := (blk_cell BK229.out 0).trans rfl
             have hcz159_1 : wr.cell? ⟨gb229,1,none⟩ = some (.slice A0_1 l0_1.length c0_1) := (blk_cell BK229.out 1).trans rfl
             have hcz159_2 : wr.cell? ⟨gb229,2,none⟩ = some (.int .i64 a0_2) := (blk_cell BK229.out 2).trans rfl
             have hcz159_3 : wr.cell? ⟨gb229,3,none⟩ = some (.int .i64 a0_3) := (blk_cell BK229.out 3).trans rfl
             have hcz159_4 : wr.cell? ⟨gb229,4,none⟩ = some (.slice A0_4 l0_4.length c0_4) := (blk_cell BK229.out 4).trans rfl
             have hfz159_0:=blk_frozen BK229.out 0
             have hfz159_1:=blk_frozen BK229.out 1
             have hfz159_2:=blk_frozen BK229.out 2
             have hfz159_3:=blk_frozen BK229.out 3
             have hfz159_4:=blk_frozen BK229.out 4
             have hnb160:=NB231_230.out
             have hnc160:=NB230_231.out
             have hcz161_0 : wr.cell? ⟨gb231,0,none⟩ = some (.slice none 0 0) := (blk_cell BK231.out 0).trans rfl
             have hcz161_1 : wr.cell? ⟨gb231,1,none⟩ = some (.bool x232001_2) := (blk_cell BK231.out 1).trans rfl
             have hfz161_0:=blk_frozen BK231.out 0
             have hfz161_1:=blk_frozen BK231.out 1
             go_wp2
             refine bodyPost_ret (results_ctt rfl _ _ gb231 31 #[.slice none 0 0,.bool false] (0,0) _ rfl (by (with_reducible repeat (first | refine blk_drewN ?_ _ | refine blk_drew ?_ | refine blk_alloc ?_ _));refine blk_put (cs:=#[.slice none 0 0,.bool x232001_2]) ?_ 1 _ rfl;(with_reducible repeat (first | refine blk_drewN ?_ _ | refine blk_drew ?_ | refine blk_alloc ?_ _));refine blk_put (cs:=#[.slice none 0 0,.bool x232001_2]) ?_ 0 _ rfl;(with_reducible repeat (first | refine blk_drewN ?_ _ | refine blk_drew ?_ | refine blk_alloc ?_ _));exact BK231.out) Try.underlying31 rfl (by kernel_rfl)) rfl ?_
             exact ⟨_,_,by first | rfl | (simp [errW_none,errW_some] <;> rfl) | (simp [*,errW_none,errW_some] <;> rfl),by first | exact Kd.R_nil _ _ _ _ _ | exact Kd.N_nil _ _ _ _ _ | exact Kd.V_nil _ _ _ _ _ | exact Kd.Q_nil _ _ _ _ _ | exact Kd.S_nil _ _ _ _ _,by (with_reducible repeat (first | apply Kd.R_alloc | apply Kd.R_drewN | apply Kd.R_drew));exact Kd.R_mono (Kd.R_far (p:=⟨gb231,1,none⟩) (Kd.R_far (p:=⟨gb231,0,none⟩) (Kd.R_types HO_12.out BK231.out (by decide)) (fun _ hk => hk.2) (.slice none 0 0)) (fun _ hk => hk.2) (.bool false)) (fun _ hk => trivial),by repeat (first | (with_reducible first | exact HB.out | apply below_alloc | apply pw_below_drewN | apply below_drew1 | refine below_set ?_ GE229.out | refine below_set ?_ GE230.out | refine below_set ?_ GE231.out) | exact HB.out)⟩
end Go.Proofs.Ytapjfnfengefpaa.P
end
