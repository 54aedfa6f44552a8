/- Packed texts of this claim: the walks of the functions, and their plain laws; see the claim's last text. -/
import Derived.Deep.Cut
import Derived.Shelf.Abstract
import Derived.Deep.RegionHeld3
import Derived.Deep.CutRange
import Derived.Test.YtojdjjbkpbapfaaKFirstsFollow3
section
namespace Go.Proofs.Ytojdjjbkpbapfaa.P
open Go.RowKit Go.Proofs.YtojdjjbkpbapfaaW.PrintWords Go.Proofs.YtojdjjbkpbapfaaW.PrintLast Go.Proofs.YtojdjjbkpbapfaaW.PrintMore
set_option linter.unusedVariables false
set_option linter.unusedSimpArgs false
theorem miStr : (Try.prog.info? 9).map (fun i => (i.zero, i.size, i.bytes)) = some (some (.string ⟨#[]⟩), 1, 16) := by kernel_rfl
theorem miSym : (Try.prog.info? 49).map (fun i => (i.zero, i.size, i.bytes)) = some (some (.agg #[.bool false, .int .i64 0]), 2, 16) := by kernel_rfl
theorem miTok : (Try.prog.info? 62).map (fun i => (i.zero, i.size, i.bytes)) = some (some (.agg #[.string ⟨#[]⟩, .int .i64 0, .string ⟨#[]⟩, .slice none 0 0, .int .i64 0, .int .i64 0, .slice none 0 0]), 7, 104) := by kernel_rfl
theorem miProd : (Try.prog.info? 34).map (fun i => (i.zero, i.size, i.bytes)) = some (some (.agg #[.int .i64 0, .slice none 0 0]), 2, 32) := by kernel_rfl
section
variable {w W W' : World} {A0 : Option Addr} {n0 c0 at_ : Nat} {vn vt vp : Value}
theorem MadeI.below (h : MadeI w A0 n0 c0 at_ vn vt vp W) (hb : Below W.heap.size W W') : MadeI w A0 n0 c0 at_ vn vt vp W' :=
  ⟨h.bel.trans (hb.mono h.bel.size), (hb.block _ (blk_lt h.l)).trans h.l, (hb.block _ (blk_lt h.r)).trans h.r, (hb.block _ (blk_lt h.s)).trans h.s, (hb.block _ (blk_lt h.a)).trans h.a⟩
theorem MadeI.below4 (h : MadeI w A0 n0 c0 at_ vn vt vp W) (hb : Below (w.heap.size + 4) W W') : MadeI w A0 n0 c0 at_ vn vt vp W' :=
  ⟨h.bel.trans (hb.mono (by omega)), (hb.block _ (by omega)).trans h.l, (hb.block _ (by omega)).trans h.r, (hb.block _ (by omega)).trans h.s, (hb.block _ (by omega)).trans h.a⟩
theorem MadeI.size (h : MadeI w A0 n0 c0 at_ vn vt vp W) : w.heap.size + 4 ≤ W.heap.size := blk_lt h.a
theorem MadeI.put0 (h : MadeI w A0 n0 c0 at_ vn vt vp W) (v : Value) : MadeI w A0 n0 c0 at_ v vt vp (W.setCell ⟨w.heap.size + 2, 0, none⟩ v) :=
  ⟨below_set h.bel (by simp), blk_far h.l (by simp) _, blk_far h.r (by simp) _, blk_put h.s 0 v rfl, blk_far h.a (by simp) _⟩
theorem MadeI.put1 (h : MadeI w A0 n0 c0 at_ vn vt vp W) (v : Value) : MadeI w A0 n0 c0 at_ vn v vp (W.setCell ⟨w.heap.size + 2, 1, none⟩ v) :=
  ⟨below_set h.bel (by simp), blk_far h.l (by simp) _, blk_far h.r (by simp) _, blk_put h.s 1 v rfl, blk_far h.a (by simp) _⟩
theorem MadeI.put4 (h : MadeI w A0 n0 c0 at_ vn vt vp W) (v : Value) : MadeI w A0 n0 c0 at_ vn vt v (W.setCell ⟨w.heap.size + 2, 4, none⟩ v) :=
  ⟨below_set h.bel (by simp), blk_far h.l (by simp) _, blk_far h.r (by simp) _, blk_put h.s 4 v rfl, blk_far h.a (by simp) _⟩
end
theorem set5_kept (W : World) (g : Nat) (v0 v1 v2 v3 v4 : Value) : Kept W (((((W.setCell ⟨g, 0, none⟩ v0).setCell ⟨g, 1, none⟩ v1).setCell ⟨g, 2, none⟩ v2).setCell ⟨g, 3, none⟩ v3).setCell ⟨g, 4, none⟩ v4) (fun k => k = g) := by
  have h0 := Kept.setCell (Kept.refl W (fun k => k = g)) (p := ⟨g, 0, none⟩) (.inl rfl) v0
  have h1 := Kept.setCell h0 (p := ⟨g, 1, none⟩) (.inl rfl) v1
  have h2 := Kept.setCell h1 (p := ⟨g, 2, none⟩) (.inl rfl) v2
  have h3 := Kept.setCell h2 (p := ⟨g, 3, none⟩) (.inl rfl) v3
  exact Kept.setCell h3 (p := ⟨g, 4, none⟩) (.inl rfl) v4
theorem set5_below {w W : World} {g : Nat} (h : Below w.heap.size w W) (hg : w.heap.size ≤ g) (v0 v1 v2 v3 v4 : Value) : Below w.heap.size w (((((W.setCell ⟨g, 0, none⟩ v0).setCell ⟨g, 1, none⟩ v1).setCell ⟨g, 2, none⟩ v2).setCell ⟨g, 3, none⟩ v3).setCell ⟨g, 4, none⟩ v4) := by
  have h0 := below_set (j := 0) (v := v0) h hg
  have h1 := below_set (j := 1) (v := v1) h0 hg
  have h2 := below_set (j := 2) (v := v2) h1 hg
  have h3 := below_set (j := 3) (v := v3) h2 hg
  exact below_set (j := 4) (v := v4) h3 hg
theorem name_at (i : Nat) (h : i < 5) : ([Value.string ⟨#[97]⟩, Value.string ⟨#[98]⟩, Value.string ⟨#[99]⟩, Value.string ⟨#[100]⟩, Value.string ⟨#[101]⟩] : List Value)[i]? = some (.string (mNames.getD i ⟨#[]⟩)) := by
  match i, h with
  | 0, _ => rfl
  | 1, _ => rfl
  | 2, _ => rfl
  | 3, _ => rfl
  | 4, _ => rfl
theorem text_at (i : Nat) (h : i < 4) : ([Value.string ⟨#[120]⟩, Value.string ⟨#[121]⟩, Value.string ⟨#[122]⟩, Value.string ⟨#[119]⟩] : List Value)[i]? = some (.string (mTexts.getD i ⟨#[]⟩)) := by
  match i, h with
  | 0, _ => rfl
  | 1, _ => rfl
  | 2, _ => rfl
  | 3, _ => rfl
theorem take_next {α : Type} (xs : List α) (d : α) (i : Nat) (h : i < xs.length) : xs.take i ++ [xs.getD i d] = xs.take (i + 1) := by
  rw [List.take_add_one, List.getD_eq_getElem?_getD, List.getElem?_eq_getElem h]; rfl
set_option maxHeartbeats 4000000 in
set_option maxRecDepth 100000 in
theorem regletlaw13_Made.calls (k : Nat) (A0 : Option Addr) (c0 : Nat) (l0 : List Int) (r1 : List ByteArray) (r2 : List S62) (r3 r4 : Int) (r5 : List S34) (w : World) (hr0 : Kd.C (Kd.int .u8) w A0 l0.length l0) (hc0 : l0.length ≤ c0) (h : regletlaw13_Made.f k l0 = some (r1, r2, r3, r4, r5)) :
    Calls Try.prog 12 #[.slice A0 l0.length c0] w fun e w' => ∃ v0_ v1_ v2_ : Value, e = .returned (.agg #[v0_, v1_, .int .i64 r3, .int .i64 r4, v2_]) ∧ Kd.R Kd.string 9 w' w.heap.size (fun _ => True) v0_ r1 ∧ Kd.R k62 62 w' w.heap.size (fun _ => True) v1_ r2 ∧ Kd.S k34 34 w' w.heap.size (fun _ => True) v2_ r5 ∧ Below w.heap.size w w' := by
  unfold regletlaw13_Made.f at h
  split at h
  case isFalse => simp at h
  rename_i hall
  have hu : ∀ x ∈ l0, 0 ≤ x ∧ x ≤ 255 := fun x hx => of_decide_eq_true (List.all_eq_true.1 hall x hx)
  obtain ⟨h1, h2⟩ := Prod.mk.inj (Option.some.inj h)
  obtain ⟨h2, h3⟩ := Prod.mk.inj h2
  obtain ⟨h3, h4⟩ := Prod.mk.inj h3
  obtain ⟨h4, h5⟩ := Prod.mk.inj h4
  subst h1 h2 h3 h4 h5
  have HU := Aside0.mk hu
  have HR0 := Aside0.mk hr0
  clear h hall hu hr0 hc0
  clear h2 h3 h4
  have hI0 : MadeI w A0 l0.length c0 0 (.slice none 0 0) (.slice none 0 0) (.slice none 0 0) ((((w.alloc (.cells #[.slice A0 l0.length c0] 31)).alloc (.cells #[.slice none 0 0, .slice none 0 0, .int .i64 0, .int .i64 0, .slice none 0 0] 26)).alloc (.cells #[.slice none 0 0, .slice none 0 0, .int .i64 0, .int .i64 0, .slice none 0 0] 26)).alloc (.cells #[.int .i64 0] 3)) := by
    refine ⟨below_alloc (below_alloc (below_alloc (below_alloc (Below.refl _ w) _) _) _) _, ?_, ?_, ?_, ?_⟩
    · exact blk_alloc (blk_alloc (blk_alloc (heap_alloc_new w _) _) _) _
    · have h := heap_alloc_new (w.alloc (.cells #[.slice A0 l0.length c0] 31)) (.cells #[.slice none 0 0, .slice none 0 0, .int .i64 0, .int .i64 0, .slice none 0 0] 26)
      rw [World.size_alloc] at h
      exact blk_alloc (blk_alloc h _) _
    · have h := heap_alloc_new ((w.alloc (.cells #[.slice A0 l0.length c0] 31)).alloc (.cells #[.slice none 0 0, .slice none 0 0, .int .i64 0, .int .i64 0, .slice none 0 0] 26)) (.cells #[.slice none 0 0, .slice none 0 0, .int .i64 0, .int .i64 0, .slice none 0 0] 26)
      rw [World.size_alloc, World.size_alloc] at h
      exact blk_alloc h _
    · have h := heap_alloc_new (((w.alloc (.cells #[.slice A0 l0.length c0] 31)).alloc (.cells #[.slice none 0 0, .slice none 0 0, .int .i64 0, .int .i64 0, .slice none 0 0] 26)).alloc (.cells #[.slice none 0 0, .slice none 0 0, .int .i64 0, .int .i64 0, .slice none 0 0] 26)) (.cells #[.int .i64 0] 3)
      rw [World.size_alloc, World.size_alloc, World.size_alloc] at h
      exact h
  have HI0 := Aside0.mk hI0
  clear hI0
  have eg : ∀ args w, (callFunc 31 args).run Try.prog w = .ok (.enter 31 args) w := enters_of Try.func31 (by kernel_rfl) rfl
  have hp0 := mPick_lt HU.out 0 (n := 5) (by decide)
  have hp1 := mPick_lt HU.out 1 (n := 4) (by decide)
  have hp2 := mPick_lt HU.out 2 (n := 10) (by decide)
  obtain ⟨m, em, hm1, hm5⟩ : ∃ m : Nat, 1 + mPick l0 0 5 = (m : Int) ∧ 1 ≤ m ∧ m ≤ 5 := ⟨(1 + mPick l0 0 5).toNat, by omega, by omega, by omega⟩
  obtain ⟨q, eq_, hq1, hq4⟩ : ∃ q : Nat, 1 + mPick l0 1 4 = (q : Int) ∧ 1 ≤ q ∧ q ≤ 4 := ⟨(1 + mPick l0 1 4).toNat, by omega, by omega, by omega⟩
  obtain ⟨c, ec, hc1, hc10⟩ : ∃ c : Nat, 1 + mPick l0 2 10 = (c : Int) ∧ 1 ≤ c ∧ c ≤ 10 := ⟨(1 + mPick l0 2 10).toNat, by omega, by omega, by omega⟩
  simp only [em, eq_, ec, Int.toNat_natCast]
  have EM := Aside0.mk em
  have EQ := Aside0.mk eq_
  have EC := Aside0.mk ec
  clear em eq_ ec hp0 hp1 hp2
  go_enter Try.func12, Try.ntmps12
  go_upto_region 4 with fail
  simp only [Nat.add_assoc, Nat.reduceAdd]
  generalize ((((w.alloc (.cells #[.slice A0 l0.length c0] 31)).alloc (.cells #[.slice none 0 0, .slice none 0 0, .int .i64 0, .int .i64 0, .slice none 0 0] 26)).alloc (.cells #[.slice none 0 0, .slice none 0 0, .int .i64 0, .int .i64 0, .slice none 0 0] 26)).alloc (.cells #[.int .i64 0] 3)) = W0 at HI0 ⊢
  go_cut [6, 7] from 14 (fun s6 s7 wc => s6 = .int .i64 (m : Int) ∧ s7 = .int .i64 (q : Int) ∧ Aside0 (MadeI w A0 l0.length c0 2 (.slice none 0 0) (.slice none 0 0) (.slice none 0 0) wc))
  case first =>
    have P1 := Aside0.mk (HI0.out.calls HR0.out 5 (by decide) (by decide) HU.out)
    have hw1 : IntKind.i64.wrap (1 + mPick l0 0 5) = 1 + mPick l0 0 5 := by have := mPick_lt HU.out 0 (n := 5) (by decide); rw [IntKind.wrap_i64]; omega
    have hw2 : IntKind.i64.wrap (1 + mPick l0 1 4) = 1 + mPick l0 1 4 := by have := mPick_lt HU.out 1 (n := 4) (by decide); rw [IntKind.wrap_i64]; omega
    go_wp2_with (first
      | (go_at_fn 31; (with_reducible refine P1.out.mono ?_); rintro e w1 ⟨rfl, HI1, hk1⟩; have P2 := Aside0.mk (HI1.out.calls HR0.out 4 (by decide) (by decide) HU.out); clear P1)
      | (go_at_fn 31; (with_reducible refine P2.out.mono ?_); rintro e w2 ⟨rfl, HI2, hk2⟩; clear P2))
    go_meet
    case rel => exact ⟨congrArg _ EM.out, congrArg _ EQ.out, HI2⟩
  case rest =>
    obtain ⟨rfl, rfl, HI2⟩ := hcut
    obtain ⟨w2, ew2⟩ : ∃ w2 : World, w2 = wc := ⟨_, rfl⟩
    subst ew2
    clear HI0
    have M5 := Aside0.mk hm5
    have Q4 := Aside0.mk hq4
    have C10 := Aside0.mk hc10
    have M1 := Aside0.mk hm1
    have Q1 := Aside0.mk hq1
    have C1 := Aside0.mk hc1
    clear hm5 hq4 hc10 hm1 hq1 hc1
    go_upto_region 5 with fail
    iterate 7 (first | go_values | go_skip | go_guarded | go_step | go_upon | go_back | (simp only [Int.not_lt, Int.not_le] at *; go_simp))
    go_cut [8] from 14 (fun s8 wc => ∃ vn : Value, Aside0 (MadeI w A0 l0.length c0 2 vn (.slice none 0 0) (.slice none 0 0) wc) ∧ Aside0 (Kd.R Kd.string 9 wc (w.heap.size + 4) (fun k => w.heap.size + 4 ≤ k) vn (mNames.take m)))
    case first =>
      go_wp2
      go_loopg [8] m (fun kq v8 wr => ∃ (i : Nat) (vn : Value), v8 = .int .i64 i ∧ i ≤ m ∧ m - i ≤ kq ∧ Aside0 (MadeI w A0 l0.length c0 2 vn (.slice none 0 0) (.slice none 0 0) wr) ∧ Aside0 (Kd.R Kd.string 9 wr (w.heap.size + 4) (fun k => w.heap.size + 4 ≤ k) vn (mNames.take i)))
      case atStart => exact ⟨0, .slice none 0 0, rfl, by omega, by omega, HI2, ⟨Kd.R_nil _ _ _ _ _⟩⟩
      case round =>
        clear HI2
        obtain ⟨i, vn, rfl, hi, hm, HI, HN⟩ := hrel
        by_cases hlt : i < m
        · have d0 : decide (i < m) = true := decide_eq_true hlt
          have d1 : (i < m) = True := eq_true hlt
          have HLT := Aside0.mk hlt
          have HM := Aside0.mk hm
          have p0 : (0 ≤ (i : Int)) = True := eq_true (by omega)
          have p1 : ((i : Int) < 5) = True := eq_true (by have := M5.out; omega)
          have hwr : IntKind.i64.wrap ((i : Int) + 1) = (i : Int) + 1 := by rw [IntKind.wrap_i64]; have := M5.out; omega
          have H1 := Aside0.mk (HI.out.below (below_drew1 (Below.refl _ wr)))
          have H2 := Aside0.mk (H1.out.below (below_alloc (Below.refl _ wr.drew) (.cells #[.string ⟨#[97]⟩, .string ⟨#[98]⟩, .string ⟨#[99]⟩, .string ⟨#[100]⟩, .string ⟨#[101]⟩] 9)))
          obtain ⟨nm, enm⟩ : ∃ nm : ByteArray, nm = mNames.getD i ⟨#[]⟩ := ⟨_, rfl⟩
          have c8 : ([Value.string ⟨#[97]⟩, Value.string ⟨#[98]⟩, Value.string ⟨#[99]⟩, Value.string ⟨#[100]⟩, Value.string ⟨#[101]⟩] : List Value)[i]? = some (.string nm) := by rw [enm]; exact name_at i (by have := M5.out; omega)
          have ENM := Aside0.mk enm
          clear enm
          have HS2 := Aside0.mk H2.out.size
          clear hlt hm hi
          go_wp2
          refine start_ (n := 10) (S := fun w' => w'.cell? ⟨w.heap.size + 2, 0, none⟩ = some vn) (ds := [9]) #[false, false, false, false, false, false, false, false, false, false] (by kernel_rfl) rfl rfl ((blk_cell HI.out.s 0).trans rfl) (fun hHeld => ?_)
          refine pure_ (i := 0) (N := some 25) (v := ?_) (a' := ?_) #[true, false, false, false, false, false, false, false, false, false] rfl rfl (by kernel_rfl) (fun _ _ _ h => h) (Or.inl ⟨by rfl, ?_⟩) ?_ ?_
          rotate_left
          · intro w'
            go_simp
            with_reducible rfl
          rotate_left
          · simp only [Act.put, List.setIfInBounds_toArray, List.set_cons_zero, List.set_cons_succ, i64_w, i32_w]
            rfl
          refine pure_ (i := 3) (N := some 28) (v := ?_) (a' := ?_) #[true, false, false, true, false, false, false, false, false, false] rfl rfl (by kernel_rfl) (fun _ _ _ h => h) (Or.inl ⟨by rfl, ?_⟩) ?_ ?_
          rotate_left
          · intro w'
            go_simp
            with_reducible rfl
          rotate_left
          · simp only [Act.put, List.setIfInBounds_toArray, List.set_cons_zero, List.set_cons_succ, i64_w, i32_w]
            rfl
          refine take_ (i := 1) (N := some 26) (v := ?_) (a' := ?_) #[true, true, false, true, false, false, false, false, false, false] rfl rfl (by kernel_rfl) (fun _ _ _ h => h) (Or.inl ⟨by rfl, ?_⟩) hHeld ?_ ?_
          rotate_left
          · intro w' s0
            go_simp
            with_reducible rfl
          rotate_left
          · simp only [Act.put, List.setIfInBounds_toArray, List.set_cons_zero, List.set_cons_succ, i64_w, i32_w]
            rfl
          refine one_ (i := 2) (N := some 27) #[true, true, true, true, false, false, false, false, false, false] rfl rfl (by kernel_rfl) (by decide) (fun K hK => ?_)
          refine value_ (w1 := ?_) (v := ?_) (by rfl) rfl ?_ ?_
          rotate_left 2
          · go_simp
            constructor
            · rfl
            · rfl
          refine hK.out _ _ ((blk_cell H2.out.s 0).trans rfl) (fun hHeld => ?_)
          clear hK K
          refine norm_ (a' := ?_) ?_ ?_
          rotate_left
          · show Act.put _ (some 27) _ = _
            simp only [Act.put, List.setIfInBounds_toArray, List.set_cons_zero, List.set_cons_succ, i64_w, i32_w]
            rfl
          refine pure_ (i := 4) (N := some 29) (v := ?_) (a' := ?_) #[true, true, true, true, true, false, false, false, false, false] rfl rfl (by kernel_rfl) (fun _ _ _ h => h) (Or.inl ⟨by rfl, ?_⟩) ?_ ?_
          rotate_left
          · intro w'
            go_simp
            with_reducible rfl
          rotate_left
          · simp only [Act.put, List.setIfInBounds_toArray, List.set_cons_zero, List.set_cons_succ, i64_w, i32_w]
            rfl
          refine one_ (i := 5) (N := some 30) #[true, true, true, true, true, true, false, false, false, false] rfl rfl (by kernel_rfl) (by decide) (fun K hK => ?_)
          refine value_ (w1 := ?_) (v := ?_) (by rfl) rfl ?_ ?_
          rotate_left 2
          · go_simp
            constructor
            · rfl
            · rfl
          refine hK.out _ _ (hHeld) (fun hHeld => ?_)
          clear hK K
          refine norm_ (a' := ?_) ?_ ?_
          rotate_left
          · show Act.put _ (some 30) _ = _
            simp only [Act.put, List.setIfInBounds_toArray, List.set_cons_zero, List.set_cons_succ, i64_w, i32_w]
            rfl
          refine one_ (i := 6) (N := some 31) #[true, true, true, true, true, true, true, false, false, false] rfl rfl (by kernel_rfl) (by decide) (fun K hK => ?_)
          refine value_ (w1 := ?_) (v := ?_) (by rfl) rfl ?_ ?_
          rotate_left 2
          · go_simp
            constructor
            · rfl
            · rfl
          refine hK.out _ _ ((blk_cell (H2.out.below (below_alloc (Below.refl _ _) _)).s 0).trans rfl) (fun hHeld => ?_)
          clear hK K
          refine norm_ (a' := ?_) ?_ ?_
          rotate_left
          · show Act.put _ (some 31) _ = _
            simp only [Act.put, List.setIfInBounds_toArray, List.set_cons_zero, List.set_cons_succ, i64_w, i32_w]
            rfl
          refine one_ (i := 7) (N := some 32) #[true, true, true, true, true, true, true, true, false, false] rfl rfl (by kernel_rfl) (by decide) (fun K hK => ?_)
          refine Kd.R_append_step Kd.string (w0 := wr.drew.alloc (.cells #[.string ⟨#[97]⟩, .string ⟨#[98]⟩, .string ⟨#[99]⟩, .string ⟨#[100]⟩, .string ⟨#[101]⟩] 9)) (w.heap.size + 4) (by rfl) (.tmp 26) (.tmp 31) 22 9 (.string ⟨#[]⟩) 16 rfl Try.underlying22 miStr rfl (by decide) (by omega) vn (mNames.take i) nm [.string nm] (fun k => w.heap.size + 4 ≤ k) (fun _ => False) rfl (by rw [World.size_alloc]; rfl) rfl (fun _ hk => hk.elim) (fun k hk => Nat.le_trans HS2.out hk) (Kd.R_alloc (Kd.R_drew HN.out) _) (Below.refl _ _) HS2.out (by have := M5.out; have := HLT.out; have := List.length_take_le i mNames; omega) ?_
          intro v1 w1 ho hb hg hat
          obtain ⟨An, ln, cn, rfl⟩ : ∃ An ln cn, v1 = .slice An ln cn := by obtain ⟨An, cn, e⟩ := Kd.R_slice ho; exact ⟨An, _, cn, e⟩
          rw [ENM.out, take_next mNames ⟨#[]⟩ i (by have := M5.out; have := HLT.out; show i < 5; omega)] at ho
          have H3 := Aside0.mk (H2.out.below4 hb)
          have HN3 := Aside0.mk ho
          have f3 := blk_frozen H3.out.s 0
          clear ho hb hg hat
          refine hK.out _ _ ((blk_cell H3.out.s 0).trans rfl) (fun hHeld => ?_)
          clear hK K
          refine norm_ (a' := ?_) ?_ ?_
          rotate_left
          · show Act.put _ (some 32) _ = _
            simp only [Act.put, List.setIfInBounds_toArray, List.set_cons_zero, List.set_cons_succ, i64_w, i32_w]
            rfl
          refine pure_ (i := 8) (N := some 33) (v := ?_) (a' := ?_) #[true, true, true, true, true, true, true, true, true, false] rfl rfl (by kernel_rfl) (fun _ _ _ h => h) (Or.inl ⟨by rfl, ?_⟩) ?_ ?_
          rotate_left
          · intro w'
            go_simp
            with_reducible rfl
          rotate_left
          · simp only [Act.put, List.setIfInBounds_toArray, List.set_cons_zero, List.set_cons_succ, i64_w, i32_w]
            rfl
          refine last_ (i := 9) (N := none) #[true, true, true, true, true, true, true, true, true, true] rfl rfl (by kernel_rfl) (by decide) (fun K hK => ?_)
          refine skip_ (w1 := ?_) (by rfl) rfl ?_ ?_
          rotate_left
          · go_simp
            rfl
          refine hK.out _ _ ?_
          clear hK K
          refine done_ (by kernel_rfl) ?_
          go_wp2
          go_roundg (m - (i + 1))
          case measure => have := HM.out; have := HLT.out; omega
          case rel => exact ⟨i + 1, _, rfl, by have := HLT.out; omega, Nat.le_refl _, ⟨H3.out.put0 _⟩, ⟨Kd.R_kept HN3.out (Kept.setCell (Kept.refl _ (fun k => k = w.heap.size + 2)) (.inl rfl) _) (fun k hk => by omega)⟩⟩
        · obtain rfl : i = m := by omega
          have d0 : decide ((i : Int) < (i : Int)) = false := decide_eq_false (by omega)
          clear hlt
          go_wp2
          go_meet
          case rel => exact ⟨vn, HI, HN⟩
    case rest =>
      obtain ⟨vn, HI3, HN3⟩ := hcut
      obtain ⟨w3, ew3⟩ : ∃ w3 : World, w3 = wc := ⟨_, rfl⟩
      subst ew3
      clear HI2
      have HB3 := Aside0.mk HI3.out.size
      have HN3b : Aside0 (Kd.R Kd.string 9 w3 (w.heap.size + 4) (fun k => w.heap.size + 4 ≤ k ∧ k < w3.heap.size) vn (mNames.take m)) := ⟨Kd.R_mono (Kd.R_bound HN3.out) (fun k hk => ⟨hk.2.1, hk.2.2.1⟩)⟩
      clear HN3
      go_upto_region 9 with fail
      iterate 7 (first | go_values | go_skip | go_guarded | go_step | go_upon | go_back | (simp only [Int.not_lt, Int.not_le] at *; go_simp))
      go_cut [9] from 14 (fun s9 wc => ∃ vt : Value, Aside0 (MadeI w A0 l0.length c0 2 vn vt (.slice none 0 0) wc) ∧ Aside0 (Kept w3 wc (fun k => k < w.heap.size + 4 ∨ w3.heap.size ≤ k)) ∧ Aside0 (Kd.R k62 62 wc (w.heap.size + 4) (fun k => w3.heap.size ≤ k) vt ((mTexts.map mTok).take q)))
      case first =>
        go_wp2
        go_loopg [9] q (fun kq v9 wr => ∃ (i : Nat) (vt : Value), v9 = .int .i64 i ∧ i ≤ q ∧ q - i ≤ kq ∧ Aside0 (MadeI w A0 l0.length c0 2 vn vt (.slice none 0 0) wr) ∧ Aside0 (Kept w3 wr (fun k => k < w.heap.size + 4 ∨ w3.heap.size ≤ k)) ∧ Aside0 (Kd.R k62 62 wr (w.heap.size + 4) (fun k => w3.heap.size ≤ k) vt ((mTexts.map mTok).take i)))
        case atStart => exact ⟨0, .slice none 0 0, rfl, by omega, by omega, HI3, ⟨Kept.refl _ _⟩, ⟨Kd.R_nil _ _ _ _ _⟩⟩
        case round =>
          clear HI3
          obtain ⟨i, vt, rfl, hi, hm, HI, HK, HT⟩ := hrel
          by_cases hlt : i < q
          · have d0 : decide (i < q) = true := decide_eq_true hlt
            have d1 : (i < q) = True := eq_true hlt
            have HLT := Aside0.mk hlt
            have HM := Aside0.mk hm
            have p0 : (0 ≤ (i : Int)) = True := eq_true (by omega)
            have p1 : ((i : Int) < 4) = True := eq_true (by have := Q4.out; omega)
            have hwr : IntKind.i64.wrap ((i : Int) + 1) = (i : Int) + 1 := by rw [IntKind.wrap_i64]; have := Q4.out; omega
            have H1 := Aside0.mk (HI.out.below (below_drew1 (Below.refl _ wr)))
            have H2 := Aside0.mk (H1.out.below (below_alloc (Below.refl _ wr.drew) (.cells #[.string ⟨#[120]⟩, .string ⟨#[121]⟩, .string ⟨#[122]⟩, .string ⟨#[119]⟩] 9)))
            have HK2 : Aside0 (Kept w3 (wr.drew.alloc (.cells #[.string ⟨#[120]⟩, .string ⟨#[121]⟩, .string ⟨#[122]⟩, .string ⟨#[119]⟩] 9)) (fun k => k < w.heap.size + 4 ∨ w3.heap.size ≤ k)) := ⟨Kept.alloc (Kept.drew HK.out) _⟩
            obtain ⟨tx, etx⟩ : ∃ tx : ByteArray, tx = mTexts.getD i ⟨#[]⟩ := ⟨_, rfl⟩
            have c8 : ([Value.string ⟨#[120]⟩, Value.string ⟨#[121]⟩, Value.string ⟨#[122]⟩, Value.string ⟨#[119]⟩] : List Value)[i]? = some (.string tx) := by rw [etx]; exact text_at i (by have := Q4.out; omega)
            have ETX : Aside0 (mTok tx = (mTexts.map mTok).getD i (mTok ⟨#[]⟩)) := ⟨by rw [etx, List.getD_eq_getElem?_getD, List.getD_eq_getElem?_getD, List.getElem?_map, List.getElem?_eq_getElem (show i < mTexts.length by have := Q4.out; show i < 4; omega)]; rfl⟩
            have HS2 := Aside0.mk H2.out.size
            have HZ2 : Aside0 (w3.heap.size ≤ (wr.drew.alloc (.cells #[.string ⟨#[120]⟩, .string ⟨#[121]⟩, .string ⟨#[122]⟩, .string ⟨#[119]⟩] 9)).heap.size) := ⟨HK2.out.1⟩
            clear hlt hm hi etx
            go_wp2
            refine start_ (n := 12) (S := fun w' => w'.cell? ⟨w.heap.size + 2, 1, none⟩ = some vt) (ds := [11]) #[false, false, false, false, false, false, false, false, false, false, false, false] (by kernel_rfl) rfl rfl ((blk_cell HI.out.s 1).trans rfl) (fun hHeld => ?_)
            refine pure_ (i := 0) (N := some 39) (v := ?_) (a' := ?_) #[true, false, false, false, false, false, false, false, false, false, false, false] rfl rfl (by kernel_rfl) (fun _ _ _ h => h) (Or.inl ⟨by rfl, ?_⟩) ?_ ?_
            rotate_left
            · intro w'
              go_simp
              with_reducible rfl
            rotate_left
            · simp only [Act.put, List.setIfInBounds_toArray, List.set_cons_zero, List.set_cons_succ, i64_w, i32_w]
              rfl
            refine pure_ (i := 3) (N := some 42) (v := ?_) (a' := ?_) #[true, false, false, true, false, false, false, false, false, false, false, false] rfl rfl (by kernel_rfl) (fun _ _ _ h => h) (Or.inl ⟨by rfl, ?_⟩) ?_ ?_
            rotate_left
            · intro w'
              go_simp
              with_reducible rfl
            rotate_left
            · simp only [Act.put, List.setIfInBounds_toArray, List.set_cons_zero, List.set_cons_succ, i64_w, i32_w]
              rfl
            refine take_ (i := 1) (N := some 40) (v := ?_) (a' := ?_) #[true, true, false, true, false, false, false, false, false, false, false, false] rfl rfl (by kernel_rfl) (fun _ _ _ h => h) (Or.inl ⟨by rfl, ?_⟩) hHeld ?_ ?_
            rotate_left
            · intro w' s0
              go_simp
              with_reducible rfl
            rotate_left
            · simp only [Act.put, List.setIfInBounds_toArray, List.set_cons_zero, List.set_cons_succ, i64_w, i32_w]
              rfl
            refine one_ (i := 2) (N := some 41) #[true, true, true, true, false, false, false, false, false, false, false, false] rfl rfl (by kernel_rfl) (by decide) (fun K hK => ?_)
            refine value_ (w1 := ?_) (v := ?_) (by rfl) rfl ?_ ?_
            rotate_left 2
            · go_simp
              constructor
              · rfl
              · rfl
            refine hK.out _ _ ((blk_cell H2.out.s 1).trans rfl) (fun hHeld => ?_)
            clear hK K
            refine norm_ (a' := ?_) ?_ ?_
            rotate_left
            · show Act.put _ (some 41) _ = _
              simp only [Act.put, List.setIfInBounds_toArray, List.set_cons_zero, List.set_cons_succ, i64_w, i32_w]
              rfl
            refine pure_ (i := 4) (N := some 43) (v := ?_) (a' := ?_) #[true, true, true, true, true, false, false, false, false, false, false, false] rfl rfl (by kernel_rfl) (fun _ _ _ h => h) (Or.inl ⟨by rfl, ?_⟩) ?_ ?_
            rotate_left
            · intro w'
              go_simp
              with_reducible rfl
            rotate_left
            · simp only [Act.put, List.setIfInBounds_toArray, List.set_cons_zero, List.set_cons_succ, i64_w, i32_w]
              rfl
            refine one_ (i := 5) (N := some 44) #[true, true, true, true, true, true, false, false, false, false, false, false] rfl rfl (by kernel_rfl) (by decide) (fun K hK => ?_)
            refine value_ (w1 := ?_) (v := ?_) (by rfl) rfl ?_ ?_
            rotate_left 2
            · go_simp
              constructor
              · rfl
              · rfl
            refine hK.out _ _ (hHeld) (fun hHeld => ?_)
            clear hK K
            refine norm_ (a' := ?_) ?_ ?_
            rotate_left
            · show Act.put _ (some 44) _ = _
              simp only [Act.put, List.setIfInBounds_toArray, List.set_cons_zero, List.set_cons_succ, i64_w, i32_w]
              rfl
            refine pure_ (i := 6) (N := some 45) (v := ?_) (a' := ?_) #[true, true, true, true, true, true, true, false, false, false, false, false] rfl rfl (by kernel_rfl) (fun _ _ _ h => h) (Or.inl ⟨by rfl, ?_⟩) ?_ ?_
            rotate_left
            · intro w'
              go_simp
              with_reducible rfl
            rotate_left
            · simp only [Act.put, List.setIfInBounds_toArray, List.set_cons_zero, List.set_cons_succ, i64_w, i32_w]
              rfl
            refine pure_ (i := 7) (N := some 46) (v := ?_) (a' := ?_) #[true, true, true, true, true, true, true, true, false, false, false, false] rfl rfl (by kernel_rfl) (fun _ _ _ h => h) (Or.inl ⟨by rfl, ?_⟩) ?_ ?_
            rotate_left
            · intro w'
              go_simp
              with_reducible rfl
            rotate_left
            · simp only [Act.put, List.setIfInBounds_toArray, List.set_cons_zero, List.set_cons_succ, i64_w, i32_w]
              rfl
            refine one_ (i := 8) (N := some 47) #[true, true, true, true, true, true, true, true, true, false, false, false] rfl rfl (by kernel_rfl) (by decide) (fun K hK => ?_)
            refine value_ (w1 := ?_) (v := ?_) (by rfl) rfl ?_ ?_
            rotate_left 2
            · go_simp
              constructor
              · rfl
              · rfl
            refine hK.out _ _ ((blk_cell (H2.out.below (below_alloc (Below.refl _ _) _)).s 1).trans rfl) (fun hHeld => ?_)
            clear hK K
            refine norm_ (a' := ?_) ?_ ?_
            rotate_left
            · show Act.put _ (some 47) _ = _
              simp only [Act.put, List.setIfInBounds_toArray, List.set_cons_zero, List.set_cons_succ, i64_w, i32_w]
              rfl
            refine one_ (i := 9) (N := some 48) #[true, true, true, true, true, true, true, true, true, true, false, false] rfl rfl (by kernel_rfl) (by decide) (fun K hK => ?_)
            refine Kd.R_append_step k62 (w0 := wr.drew.alloc (.cells #[.string ⟨#[120]⟩, .string ⟨#[121]⟩, .string ⟨#[122]⟩, .string ⟨#[119]⟩] 9)) (w.heap.size + 4) (by rfl) (.tmp 40) (.tmp 47) 23 62 (.agg #[.string ⟨#[]⟩, .int .i64 0, .string ⟨#[]⟩, .slice none 0 0, .int .i64 0, .int .i64 0, .slice none 0 0]) 104 rfl Try.underlying23 miTok rfl (by decide) (by omega) vt ((mTexts.map mTok).take i) (mTok tx) [.string ⟨#[]⟩, .int .i64 5, .string tx, .slice none 0 0, .int .i64 0, .int .i64 0, .slice none 0 0] (fun k => w3.heap.size ≤ k) (fun _ => False) rfl (by rw [World.size_alloc]; rfl) (k62_mkM _ _ _ (mTok tx) (Kd.R_nil _ _ _ _ _) (Kd.R_nil _ _ _ _ _)) (fun _ hk => hk.elim) (fun k hk => Nat.le_trans HZ2.out hk) (Kd.R_alloc (Kd.R_drew HT.out) _) (Below.refl _ _) HS2.out (by have := Q4.out; have := HLT.out; have := List.length_take_le i (mTexts.map mTok); omega) ?_
            intro v1 w1 ho hb hg hat
            obtain ⟨An, ln, cn, rfl⟩ : ∃ An ln cn, v1 = .slice An ln cn := by obtain ⟨An, cn, e⟩ := Kd.R_slice ho; exact ⟨An, _, cn, e⟩
            rw [ETX.out, take_next (mTexts.map mTok) (mTok ⟨#[]⟩) i (by have := Q4.out; have := HLT.out; show i < 4; omega)] at ho
            have H3 := Aside0.mk (H2.out.below4 hb)
            have HK3 := Aside0.mk (Kept.of_grown hg HK2.out (fun k hk => .inl (.inr (HT.out.1 k hk))))
            have HT3 := Aside0.mk ho
            have f3 := blk_frozen H3.out.s 1
            clear ho hb hg hat
            refine hK.out _ _ ((blk_cell H3.out.s 1).trans rfl) (fun hHeld => ?_)
            clear hK K
            refine norm_ (a' := ?_) ?_ ?_
            rotate_left
            · show Act.put _ (some 48) _ = _
              simp only [Act.put, List.setIfInBounds_toArray, List.set_cons_zero, List.set_cons_succ, i64_w, i32_w]
              rfl
            refine pure_ (i := 10) (N := some 49) (v := ?_) (a' := ?_) #[true, true, true, true, true, true, true, true, true, true, true, false] rfl rfl (by kernel_rfl) (fun _ _ _ h => h) (Or.inl ⟨by rfl, ?_⟩) ?_ ?_
            rotate_left
            · intro w'
              go_simp
              with_reducible rfl
            rotate_left
            · simp only [Act.put, List.setIfInBounds_toArray, List.set_cons_zero, List.set_cons_succ, i64_w, i32_w]
              rfl
            refine last_ (i := 11) (N := none) #[true, true, true, true, true, true, true, true, true, true, true, true] rfl rfl (by kernel_rfl) (by decide) (fun K hK => ?_)
            refine skip_ (w1 := ?_) (by rfl) rfl ?_ ?_
            rotate_left
            · go_simp
              rfl
            refine hK.out _ _ ?_
            clear hK K
            refine done_ (by kernel_rfl) ?_
            go_wp2
            go_roundg (q - (i + 1))
            case measure => have := HM.out; have := HLT.out; omega
            case rel => exact ⟨i + 1, _, rfl, by have := HLT.out; omega, Nat.le_refl _, ⟨H3.out.put1 _⟩, ⟨Kept.setCell HK3.out (.inl (.inl (by simp))) _⟩, ⟨Kd.R_kept HT3.out (Kept.setCell (Kept.refl _ (fun k => k = w.heap.size + 2)) (.inl rfl) _) (fun k hk => by have := HB3.out; omega)⟩⟩
          · obtain rfl : i = q := by omega
            clear hlt
            go_wp2
            go_meet
            case rel => exact ⟨vt, HI, HK, HT⟩
      case rest =>
        obtain ⟨vt, HI4, HK4, HT4⟩ := hcut
        obtain ⟨w4, ew4⟩ : ∃ w4 : World, w4 = wc := ⟨_, rfl⟩
        subst ew4
        clear HI3
        have HN4 := Aside0.mk (Kd.R_kept HN3b.out HK4.out (fun k hk h => by omega))
        clear HN3b
        go_upto_region 13 with fail
        have P3 := Aside0.mk (HI4.out.calls HR0.out 10 (by decide) (by decide) HU.out)
        have hw3 : IntKind.i64.wrap (1 + mPick l0 2 10) = 1 + mPick l0 2 10 := by have := EC.out; have := C10.out; rw [IntKind.wrap_i64]; omega
        go_cut [10] from 14 (fun s10 wc => s10 = .int .i64 (c : Int) ∧ Aside0 (MadeI w A0 l0.length c0 3 vn vt (.slice none 0 0) wc) ∧ Aside0 (Kept w4 wc (fun k => k < w.heap.size + 4 ∨ w4.heap.size ≤ k)))
        case first =>
          go_wp2_with (first
            | (go_at_fn 31; (with_reducible refine P3.out.mono ?_); rintro e w5 ⟨rfl, HI5, HK5⟩; clear P3))
          go_meet
          case rel => exact ⟨congrArg _ EC.out, HI5, ⟨Kept.mono HK5.out (fun k hk => .inl (by omega))⟩⟩
        case rest =>
          obtain ⟨rfl, HI5, HK5⟩ := hcut
          obtain ⟨w5, ew5⟩ : ∃ w5 : World, w5 = wc := ⟨_, rfl⟩
          subst ew5
          clear P3 hw3 HI4
          have HS4 : Aside0 (w.heap.size + 4 ≤ w4.heap.size) := ⟨by have := HK4.out.1; have := HB3.out; omega⟩
          go_wp2
          go_loopg [10, 11, 12] c (fun kq v10 v11 v12 wr => ∃ (i at_ : Nat) (vp : Value) (acc : List S34), v10 = .int .i64 (i : Int) ∧ i ≤ kq ∧ Aside0 (acc.length + i = c) ∧ Aside0 (at_ + 8 * i ≤ 3 + 8 * c) ∧ Aside0 (mProds l0 m q i at_ acc = mProds l0 m q c 3 []) ∧ Aside0 (MadeI w A0 l0.length c0 at_ vn vt vp wr) ∧ Aside0 (Kept w4 wr (fun k => k < w.heap.size + 4 ∨ w4.heap.size ≤ k)) ∧ Aside0 (Kd.S k34 34 wr (w.heap.size + 4) (fun k => w4.heap.size ≤ k) vp acc))
          case atStart => exact ⟨c, 3, .slice none 0 0, [], rfl, by omega, ⟨by simp⟩, ⟨by omega⟩, ⟨rfl⟩, HI5, HK5, ⟨Kd.S_nil _ _ _ _ _⟩⟩
          case round =>
            clear HI5 HK5
            obtain ⟨i, at_, vp, acc, rfl, hi, HL, HAT, HM, HI, HK, HP⟩ := hrel
            cases i with
            | zero =>
              obtain ⟨An, ln, kn, rfl⟩ : ∃ An ln kn, vn = .slice An ln kn := by obtain ⟨An, cn, e⟩ := Kd.R_slice HN4.out; exact ⟨An, _, cn, e⟩
              obtain ⟨At, lt, kt, rfl⟩ : ∃ At lt kt, vt = .slice At lt kt := by obtain ⟨An, cn, e⟩ := Kd.R_slice HT4.out; exact ⟨An, _, cn, e⟩
              obtain ⟨Ap, lp, kp, rfl⟩ : ∃ Ap lp kp, vp = .slice Ap lp kp := by obtain ⟨An, cn, e⟩ := Kd.S_slice HP.out; exact ⟨An, _, cn, e⟩
              obtain ⟨q0, q1, q2, q3, q4⟩ : wr.cell? ⟨w.heap.size + 2, 0, none⟩ = some (.slice An ln kn) ∧ wr.cell? ⟨w.heap.size + 2, 1, none⟩ = some (.slice At lt kt) ∧ wr.cell? ⟨w.heap.size + 2, 2, none⟩ = some (.int .i64 0) ∧ wr.cell? ⟨w.heap.size + 2, 3, none⟩ = some (.int .i64 0) ∧ wr.cell? ⟨w.heap.size + 2, 4, none⟩ = some (.slice Ap lp kp) := ⟨(blk_cell HI.out.s 0).trans rfl, (blk_cell HI.out.s 1).trans rfl, (blk_cell HI.out.s 2).trans rfl, (blk_cell HI.out.s 3).trans rfl, (blk_cell HI.out.s 4).trans rfl⟩
              obtain ⟨q5, q6, q7, q8, q9⟩ : wr.cell? ⟨w.heap.size + 1, 0, none⟩ = some (.slice none 0 0) ∧ wr.cell? ⟨w.heap.size + 1, 1, none⟩ = some (.slice none 0 0) ∧ wr.cell? ⟨w.heap.size + 1, 2, none⟩ = some (.int .i64 0) ∧ wr.cell? ⟨w.heap.size + 1, 3, none⟩ = some (.int .i64 0) ∧ wr.cell? ⟨w.heap.size + 1, 4, none⟩ = some (.slice none 0 0) := ⟨(blk_cell HI.out.r 0).trans rfl, (blk_cell HI.out.r 1).trans rfl, (blk_cell HI.out.r 2).trans rfl, (blk_cell HI.out.r 3).trans rfl, (blk_cell HI.out.r 4).trans rfl⟩
              have f5 := blk_frozen HI.out.r 0
              have f6 := blk_frozen HI.out.r 1
              have f7 := blk_frozen HI.out.r 2
              have f8 := blk_frozen HI.out.r 3
              have f9 := blk_frozen HI.out.r 4
              go_wp2
              refine bodyPost_ret (results_cell_row rfl _ _ (w.heap.size + 1) 26 #[.slice An ln kn, .slice At lt kt, .int .i64 0, .int .i64 0, .slice Ap lp kp] (0, 0) _ rfl (by refine blk_put (cs := #[.slice An ln kn, .slice At lt kt, .int .i64 0, .int .i64 0, .slice none 0 0]) ?_ 4 _ rfl; refine blk_put (cs := #[.slice An ln kn, .slice At lt kt, .int .i64 0, .int .i64 0, .slice none 0 0]) ?_ 3 _ rfl; refine blk_put (cs := #[.slice An ln kn, .slice At lt kt, .int .i64 0, .int .i64 0, .slice none 0 0]) ?_ 2 _ rfl; refine blk_put (cs := #[.slice An ln kn, .slice none 0 0, .int .i64 0, .int .i64 0, .slice none 0 0]) ?_ 1 _ rfl; refine blk_put (cs := #[.slice none 0 0, .slice none 0 0, .int .i64 0, .int .i64 0, .slice none 0 0]) ?_ 0 _ rfl; exact HI.out.r) Try.underlying26 rfl (by kernel_rfl)) rfl ?_
              have hS34 : w3.heap.size ≤ w4.heap.size := HK4.out.1
              refine ⟨_, _, _, rfl, ?_, ?_, ?_, ?_⟩
              · exact Kd.R_lower (Kd.R_mono (Kd.R_kept (Kd.R_kept HN4.out HK.out (fun k hk h => by have := HS4.out; omega)) (set5_kept wr _ _ _ _ _ _) (fun k hk h => by omega)) (fun _ _ => trivial)) (by omega)
              · exact Kd.R_lower (Kd.R_mono (Kd.R_kept (Kd.R_kept (Kd.R_mono (ok' := fun k => w3.heap.size ≤ k ∧ k < w4.heap.size) (Kd.R_bound HT4.out) (fun k hk => ⟨hk.1, hk.2.2.1⟩)) HK.out (fun k hk h => by have := HB3.out; omega)) (set5_kept wr _ _ _ _ _ _) (fun k hk h => by have := HB3.out; omega)) (fun _ _ => trivial)) (by omega)
              · have hp := HM.out
                rw [mProds] at hp
                rw [← hp]
                exact Kd.S_lower (Kd.S_mono (Kd.S_kept HP.out (set5_kept wr _ _ _ _ _ _) (fun k hk h => by have := HS4.out; omega)) (fun _ _ => trivial)) (by omega)
              · exact set5_below HI.out.bel (by omega) _ _ _ _ _
            | succ i =>
              have d0 : decide (((i + 1 : Nat) : Int) > 0) = true := decide_eq_true (by omega)
              have d0b : (0 < ((i : Int) + 1)) = True := eq_true (by omega)
              have P6 := Aside0.mk (HI.out.calls HR0.out (m : Int) (by have := M1.out; omega) (by have := HAT.out; have := C10.out; omega) HU.out)
              have hpn := mPick_lt HU.out (at_ + 1) (n := 4) (by decide)
              obtain ⟨cn, ecn, hcn⟩ : ∃ cn : Nat, mPick l0 (at_ + 1) 4 = (cn : Int) ∧ cn ≤ 3 := ⟨(mPick l0 (at_ + 1) 4).toNat, by omega, by omega⟩
              have HATB : Aside0 (at_ + 8 * (i + 1) ≤ 83) := ⟨by have := HAT.out; have := C10.out; omega⟩
              have HCN := Aside0.mk hcn
              have ECN := Aside0.mk ecn
              clear hpn hcn ecn
              go_wp2_with (first
                | (go_at_fn 31; (with_reducible refine P6.out.mono ?_); rintro e w6 ⟨rfl, HI6, HK6⟩; clear P6; have HI7 := Aside0.mk (HI6.out.below (below_alloc (Below.refl _ w6) (.cells #[.int .i64 (mPick l0 at_ (m : Int)), .slice none 0 0] 34))); have P7 := Aside0.mk (HI7.out.calls HR0.out 4 (by decide) (by have := HATB.out; omega) HU.out); rw [ECN.out] at P7)
                | (go_at_fn 31; (with_reducible refine P7.out.mono ?_); rintro e w7 ⟨rfl, HI8, HK8⟩; clear P7))
              have HB8 := Aside0.mk (blk_kept (heap_alloc_new w6 (.cells #[.int .i64 (mPick l0 at_ (m : Int)), .slice none 0 0] 34)) HK8.out (fun h => by have := HI6.out.size; omega))
              have HSZ6 : Aside0 (wr.heap.size ≤ w6.heap.size ∧ w.heap.size + 4 ≤ wr.heap.size ∧ w4.heap.size ≤ wr.heap.size) := ⟨HK6.out.1, HI.out.size, HK.out.1⟩
              have HK9 : Aside0 (Kept wr w7 (fun k => k < w.heap.size + 4 ∨ wr.heap.size ≤ k)) := ⟨Kept.then_ (Kept.alloc (Kept.mono HK6.out (fun k hk => .inl (by omega))) (.cells #[.int .i64 (mPick l0 at_ (m : Int)), .slice none 0 0] 34)) HK8.out (fun k hk => .inl (.inl (by omega)))⟩
              clear HI7 HI6 HK6 HK8
              have HQI := Aside0.mk hi
              have hwi : IntKind.i64.wrap (((i + 1 : Nat) : Int) - 1) = (i : Int) := by rw [IntKind.wrap_i64]; have := HL.out; have := C10.out; omega
              clear hi
              obtain ⟨wo, ewo⟩ : ∃ wo : World, wo = wr := ⟨_, rfl⟩
              subst ewo
              go_loopg [12] cn (fun kq v12 wr => ∃ (j a2 : Nat) (vr : Value) (ar : List S49), v12 = .int .i64 (j : Int) ∧ j ≤ kq ∧ Aside0 (ar.length + j = cn) ∧ Aside0 (a2 + 2 * j ≤ at_ + 2 + 2 * cn) ∧ Aside0 (mRight l0 m q j a2 ar = mRight l0 m q cn (at_ + 2) []) ∧ Aside0 (MadeI w A0 l0.length c0 a2 vn vt vp wr) ∧ Aside0 (wr.heap[w6.heap.size]? = some (.cells #[.int .i64 (mPick l0 at_ (m : Int)), vr] 34 (0, 0))) ∧ Aside0 (Kept wo wr (fun k => k < w.heap.size + 4 ∨ wo.heap.size ≤ k)) ∧ Aside0 (Kd.R k49 49 wr (w.heap.size + 4) (fun k => w6.heap.size < k) vr ar))
              case atStart => exact ⟨cn, at_ + 2, .slice none 0 0, [], rfl, by omega, ⟨by simp⟩, ⟨by omega⟩, ⟨rfl⟩, HI8, HB8, HK9, ⟨Kd.R_nil _ _ _ _ _⟩⟩
              case round =>
                clear HI8 HB8 HK9
                obtain ⟨j, a2, vr, ar, rfl, hj, HJL, HA2, HMR, HI8, HB8, HK9, HR8⟩ := hrel
                cases j with
                | zero =>
                  have b0 : wr.cell? ⟨w6.heap.size, 0, none⟩ = some (.int .i64 (mPick l0 at_ (m : Int))) := (blk_cell HB8.out 0).trans rfl
                  have b1 : wr.cell? ⟨w6.heap.size, 1, none⟩ = some vr := (blk_cell HB8.out 1).trans rfl
                  have q4 : wr.cell? ⟨w.heap.size + 2, 4, none⟩ = some vp := (blk_cell HI8.out.s 4).trans rfl
                  have HPB := Aside0.mk (Kd.S_kept (Kd.S_mono (ok' := fun k => w4.heap.size ≤ k ∧ k < wo.heap.size) (Kd.S_bound HP.out) (fun k hk => ⟨hk.1, hk.2.2.1⟩)) HK9.out (fun k hk h => by have := HS4.out; omega))
                  have HKw := Aside0.mk (Kept.then_ HK.out HK9.out (fun k hk => hk.elim (fun h => .inl (.inl h)) (fun h => .inl (.inr (by have := HSZ6.out; omega)))))
                  have HSi := Aside0.mk HI8.out.size
                  have HSw : Aside0 (w4.heap.size ≤ wr.heap.size) := ⟨HKw.out.1⟩
                  have HACC : Aside0 (acc.length ≤ 10) := ⟨by have := HL.out; have := C10.out; omega⟩
                  go_wp2_with (first
                    | ((with_reducible refine gate_builtin (b := .append) (xs := #[.tmp 89, .tmp 91]) rfl ?_); at_builtin; refine Kd.S_append k34 (w0 := wr) (w.heap.size + 4) rfl (.tmp 89) (.tmp 91) 24 34 (.agg #[.int .i64 0, .slice none 0 0]) 32 rfl Try.underlying24 miProd rfl (by decide) (by omega) vp acc (⟨mPick l0 at_ (m : Int), ar⟩ : S34) [.int .i64 (mPick l0 at_ (m : Int)), vr] (fun k => w4.heap.size ≤ k) (fun k => w6.heap.size < k) rfl rfl (k34_mkM _ _ _ (⟨mPick l0 at_ (m : Int), ar⟩ : S34) HR8.out) (fun k hk => ⟨by have := HSZ6.out; omega, fun e => by have := (Kd.S_R HPB.out).1 k e.symm; have := HSZ6.out; omega⟩) (fun k hk => Nat.le_trans HSw.out hk) (Kd.S_mono HPB.out (fun k hk => ⟨hk.1, by have := HSZ6.out; omega⟩)) (Below.refl _ _) HSi.out (by have := HACC.out; omega) ?_; intro v1 w10 ho hb hg hat; obtain ⟨Ap, lp, kp, rfl⟩ : ∃ An ln cn, v1 = .slice An ln cn := (by obtain ⟨An, cn, e⟩ := Kd.S_slice ho; exact ⟨An, _, cn, e⟩); have HI12 := Aside0.mk (HI8.out.below4 hb); have HK12 := Aside0.mk (Kept.of_grown hg HKw.out (fun k hk => .inl (.inr ((Kd.S_R HPB.out).1 k hk).1))); have HS12 := Aside0.mk ho; have f4 := blk_frozen HI12.out.s 4; have q4' : w10.cell? ⟨w.heap.size + 2, 4, none⟩ = some vp := (blk_cell HI12.out.s 4).trans rfl; clear ho hb hg hat q4 b0 b1))
                  go_roundg i
                  case measure => have := HQI.out; omega
                  case rel => exact ⟨i, a2, _, acc ++ [⟨mPick l0 at_ (m : Int), ar⟩], congrArg (Value.int .i64) (by unfold wrap64; have := HACC.out; have := HL.out; have := C10.out; omega), Nat.le_refl _, ⟨by have := HL.out; simp; omega⟩, ⟨by have := HAT.out; have := HA2.out; have := HCN.out; omega⟩, ⟨by have h := HM.out; rw [mProds, ECN.out, Int.toNat_natCast, ← HMR.out, mRight] at h; exact h⟩, ⟨HI12.out.put4 _⟩, ⟨Kept.setCell HK12.out (.inl (.inl (by simp))) _⟩, ⟨Kd.S_kept HS12.out (Kept.setCell (Kept.refl _ (fun k => k = w.heap.size + 2)) (.inl rfl) _) (fun k hk h => by have := HS4.out; omega)⟩⟩
                | succ j =>
                  have d2 : (0 < ((j : Int) + 1)) = True := eq_true (by omega)
                  have P8 := Aside0.mk (HI8.out.calls HR0.out 2 (by decide) (by have := HATB.out; have := HA2.out; have := HCN.out; omega) HU.out)
                  have HJ := Aside0.mk hj
                  clear hj
                  by_cases hz : mPick l0 a2 2 = 0
                  · rw [hz] at P8
                    go_wp2_with (first
                      | (go_at_fn 31; (with_reducible refine P8.out.mono ?_); rintro e w8 ⟨rfl, HI10, HK10⟩; clear P8))
                    have HZ := Aside0.mk hz
                    clear hz
                    have HI10d := Aside0.mk (HI10.out.below (below_drew1 (Below.refl _ w8)))
                    have P9 := Aside0.mk (HI10d.out.calls HR0.out (q : Int) (by have := Q1.out; omega) (by have := HATB.out; have := HA2.out; have := HCN.out; omega) HU.out)
                    obtain ⟨x, ex⟩ : ∃ x : Int, x = mPick l0 (a2 + 1) (q : Int) := ⟨_, rfl⟩
                    rw [← ex] at P9
                    have EX := Aside0.mk ex
                    have HB10 := Aside0.mk (blk_kept HB8.out HK10.out (fun h => by have := HSZ6.out; omega))
                    have HR10 := Aside0.mk (Kd.R_kept HR8.out HK10.out (fun k hk h => by have := HSZ6.out; omega))
                    have HK12 := Aside0.mk (Kept.then_ HK9.out HK10.out (fun k hk => .inl (.inl (by omega))))
                    have HARL : Aside0 (ar.length ≤ 3) := ⟨by have := HJL.out; have := HCN.out; omega⟩
                    clear ex
                    refine start_ (n := 10) (S := fun w' => w'.cell? ⟨w6.heap.size, 1, none⟩ = some vr) (ds := [9]) #[false, false, false, false, false, false, false, false, false, false] (by kernel_rfl) rfl rfl ((blk_cell HB10.out 1).trans rfl) (fun hHeld => ?_)
                    refine pure_ (i := 0) (N := some 70) (v := ?_) (a' := ?_) #[true, false, false, false, false, false, false, false, false, false] rfl rfl (by kernel_rfl) (fun _ _ _ h => h) (Or.inl ⟨by rfl, ?_⟩) ?_ ?_
                    rotate_left
                    · intro w'
                      go_simp
                      with_reducible rfl
                    rotate_left
                    · simp only [Act.put, List.setIfInBounds_toArray, List.set_cons_zero, List.set_cons_succ, i64_w, i32_w]
                      rfl
                    refine pure_ (i := 2) (N := some 72) (v := ?_) (a' := ?_) #[true, false, true, false, false, false, false, false, false, false] rfl rfl (by kernel_rfl) (fun _ _ _ h => h) (Or.inl ⟨by rfl, ?_⟩) ?_ ?_
                    rotate_left
                    · intro w'
                      go_simp
                      with_reducible rfl
                    rotate_left
                    · simp only [Act.put, List.setIfInBounds_toArray, List.set_cons_zero, List.set_cons_succ, i64_w, i32_w]
                      rfl
                    refine pure_ (i := 3) (N := some 73) (v := ?_) (a' := ?_) #[true, false, true, true, false, false, false, false, false, false] rfl rfl (by kernel_rfl) (fun _ _ _ h => h) (Or.inl ⟨by rfl, ?_⟩) ?_ ?_
                    rotate_left
                    · intro w'
                      go_simp
                      with_reducible rfl
                    rotate_left
                    · simp only [Act.put, List.setIfInBounds_toArray, List.set_cons_zero, List.set_cons_succ, i64_w, i32_w]
                      rfl
                    refine take_ (i := 1) (N := some 71) (v := ?_) (a' := ?_) #[true, true, true, true, false, false, false, false, false, false] rfl rfl (by kernel_rfl) (fun _ _ _ h => h) (Or.inl ⟨by rfl, ?_⟩) hHeld ?_ ?_
                    rotate_left
                    · intro w' s0
                      go_simp
                      with_reducible rfl
                    rotate_left
                    · simp only [Act.put, List.setIfInBounds_toArray, List.set_cons_zero, List.set_cons_succ, i64_w, i32_w]
                      rfl
                    refine one_ (i := 4) (N := some 74) #[true, true, true, true, true, false, false, false, false, false] rfl rfl (by kernel_rfl) (by decide) (fun K hK => ?_)
                    refine call_ 31 #[.int .i64 (q : Int), .pointer (some ⟨w.heap.size + 3, 0, none⟩), .pointer (some ⟨w.heap.size, 0, none⟩)] (by rfl) rfl (by unfold execOp; simp [resolve, Deferred.ofValue, invoke, Act.eval, eg]) ?_
                    with_reducible refine P9.out.mono ?_
                    rintro e w9 ⟨rfl, HI11, HK11⟩
                    refine ⟨_, rfl, ?_⟩
                    have HB11 := Aside0.mk (blk_kept (W := w8.drew) HB10.out HK11.out (fun h => by have := HSZ6.out; omega))
                    have HR11 := Aside0.mk (Kd.R_kept (Kd.R_drew HR10.out) HK11.out (fun k hk h => by have := HSZ6.out; omega))
                    have HK13 := Aside0.mk (Kept.then_ (Kept.drew HK12.out) HK11.out (fun k hk => .inl (.inl (by omega))))
                    have HS11 := Aside0.mk HI11.out.size
                    have HL11 : Aside0 (w6.heap.size < w9.heap.size) := ⟨blk_lt HB11.out⟩
                    refine hK.out _ _ ((blk_cell HB11.out 1).trans rfl) (fun hHeld => ?_)
                    clear hK K
                    refine norm_ (a' := ?_) ?_ ?_
                    rotate_left
                    · show Act.put _ (some 74) _ = _
                      simp only [Act.put, List.setIfInBounds_toArray, List.set_cons_zero, List.set_cons_succ, i64_w, i32_w]
                      rfl
                    refine pure_ (i := 5) (N := some 75) (v := ?_) (a' := ?_) #[true, true, true, true, true, true, false, false, false, false] rfl rfl (by kernel_rfl) (fun _ _ _ h => h) (Or.inl ⟨by rfl, ?_⟩) ?_ ?_
                    rotate_left
                    · intro w'
                      go_simp
                      with_reducible rfl
                    rotate_left
                    · simp only [Act.put, List.setIfInBounds_toArray, List.set_cons_zero, List.set_cons_succ, i64_w, i32_w]
                      rfl
                    refine one_ (i := 6) (N := some 76) #[true, true, true, true, true, true, true, false, false, false] rfl rfl (by kernel_rfl) (by decide) (fun K hK => ?_)
                    refine value_ (w1 := ?_) (v := ?_) (by rfl) rfl ?_ ?_
                    rotate_left 2
                    · go_simp
                      constructor
                      · rfl
                      · rfl
                    refine hK.out _ _ ((blk_cell (blk_alloc HB11.out _) 1).trans rfl) (fun hHeld => ?_)
                    clear hK K
                    refine norm_ (a' := ?_) ?_ ?_
                    rotate_left
                    · show Act.put _ (some 76) _ = _
                      simp only [Act.put, List.setIfInBounds_toArray, List.set_cons_zero, List.set_cons_succ, i64_w, i32_w]
                      rfl
                    refine one_ (i := 7) (N := some 77) #[true, true, true, true, true, true, true, true, false, false] rfl rfl (by kernel_rfl) (by decide) (fun K hK => ?_)
                    refine Kd.R_append_step k49 (w0 := w9) (w.heap.size + 4) (by rfl) (.tmp 71) (.tmp 76) 27 49 (.agg #[.bool false, .int .i64 0]) 16 rfl Try.underlying27 miSym rfl (by decide) (by omega) vr ar (⟨true, x⟩ : S49) [.bool true, .int .i64 x] (fun k => w6.heap.size < k) (fun _ => False) rfl rfl (k49_mkM _ _ _ (⟨true, x⟩ : S49)) (fun _ hk => hk.elim) (fun k hk => Nat.lt_of_lt_of_le HL11.out hk) HR11.out (Below.refl _ _) HS11.out (by have := HARL.out; omega) ?_
                    intro v1 w1 ho hb hg hat
                    obtain ⟨An, ln, kn, rfl⟩ : ∃ An ln cn, v1 = .slice An ln cn := by obtain ⟨An, cn, e⟩ := Kd.R_slice ho; exact ⟨An, _, cn, e⟩
                    have HI12 := Aside0.mk (HI11.out.below4 hb)
                    have HB12 := Aside0.mk (blk_grown HB11.out hg (fun e => Nat.lt_irrefl _ (HR11.out.1 _ e.symm)))
                    have HK14 := Aside0.mk (Kept.of_grown hg HK13.out (fun k hk => .inl (.inr (by have := HR11.out.1 k hk; have := HSZ6.out; omega))))
                    have HR12 := Aside0.mk ho
                    have f3 := blk_frozen HB12.out 1
                    clear ho hb hg hat
                    refine hK.out _ _ ((blk_cell HB12.out 1).trans rfl) (fun hHeld => ?_)
                    clear hK K
                    refine norm_ (a' := ?_) ?_ ?_
                    rotate_left
                    · show Act.put _ (some 77) _ = _
                      simp only [Act.put, List.setIfInBounds_toArray, List.set_cons_zero, List.set_cons_succ, i64_w, i32_w]
                      rfl
                    refine pure_ (i := 8) (N := some 78) (v := ?_) (a' := ?_) #[true, true, true, true, true, true, true, true, true, false] rfl rfl (by kernel_rfl) (fun _ _ _ h => h) (Or.inl ⟨by rfl, ?_⟩) ?_ ?_
                    rotate_left
                    · intro w'
                      go_simp
                      with_reducible rfl
                    rotate_left
                    · simp only [Act.put, List.setIfInBounds_toArray, List.set_cons_zero, List.set_cons_succ, i64_w, i32_w]
                      rfl
                    refine last_ (i := 9) (N := none) #[true, true, true, true, true, true, true, true, true, true] rfl rfl (by kernel_rfl) (by decide) (fun K hK => ?_)
                    refine skip_ (w1 := ?_) (by rfl) rfl ?_ ?_
                    rotate_left
                    · go_simp
                      rfl
                    refine hK.out _ _ ?_
                    clear hK K
                    refine done_ (by kernel_rfl) ?_
                    go_wp2
                    go_roundg j
                    case measure => have := HJ.out; omega
                    case rel => exact ⟨j, a2 + 2, _, ar ++ [⟨true, x⟩], congrArg (Value.int .i64) (by unfold wrap64; have := HJL.out; have := HCN.out; omega), Nat.le_refl _, ⟨by have := HJL.out; simp; omega⟩, ⟨by have := HA2.out; omega⟩, ⟨by have h := HMR.out; rw [mRight, if_pos HZ.out, ← EX.out] at h; exact h⟩, ⟨HI12.out.below4 ((Below.refl _ _).setCell (show w.heap.size + 4 ≤ w6.heap.size by have := HSZ6.out; omega) _)⟩, ⟨blk_put HB12.out 1 _ rfl⟩, ⟨Kept.setCell HK14.out (.inl (.inr (show wo.heap.size ≤ w6.heap.size from HSZ6.out.1))) _⟩, ⟨Kd.R_kept HR12.out (Kept.setCell (Kept.refl _ (fun k => k = w6.heap.size)) (.inl rfl) _) (fun k hk h => by omega)⟩⟩
                  · have hzd : (mPick l0 a2 2 = 0) = False := eq_false hz
                    go_wp2_with (first
                      | (go_at_fn 31; (with_reducible refine P8.out.mono ?_); rintro e w8 ⟨rfl, HI10, HK10⟩; clear P8))
                    have HZ := Aside0.mk hz
                    clear hz
                    have HI10d := Aside0.mk (HI10.out.below (below_drew1 (Below.refl _ w8)))
                    have P9 := Aside0.mk (HI10d.out.calls HR0.out (m : Int) (by have := M1.out; omega) (by have := HATB.out; have := HA2.out; have := HCN.out; omega) HU.out)
                    obtain ⟨x, ex⟩ : ∃ x : Int, x = mPick l0 (a2 + 1) (m : Int) := ⟨_, rfl⟩
                    rw [← ex] at P9
                    have EX := Aside0.mk ex
                    have HB10 := Aside0.mk (blk_kept HB8.out HK10.out (fun h => by have := HSZ6.out; omega))
                    have HR10 := Aside0.mk (Kd.R_kept HR8.out HK10.out (fun k hk h => by have := HSZ6.out; omega))
                    have HK12 := Aside0.mk (Kept.then_ HK9.out HK10.out (fun k hk => .inl (.inl (by omega))))
                    have HARL : Aside0 (ar.length ≤ 3) := ⟨by have := HJL.out; have := HCN.out; omega⟩
                    clear ex
                    refine start_ (n := 10) (S := fun w' => w'.cell? ⟨w6.heap.size, 1, none⟩ = some vr) (ds := [9]) #[false, false, false, false, false, false, false, false, false, false] (by kernel_rfl) rfl rfl ((blk_cell HB10.out 1).trans rfl) (fun hHeld => ?_)
                    refine pure_ (i := 0) (N := some 79) (v := ?_) (a' := ?_) #[true, false, false, false, false, false, false, false, false, false] rfl rfl (by kernel_rfl) (fun _ _ _ h => h) (Or.inl ⟨by rfl, ?_⟩) ?_ ?_
                    rotate_left
                    · intro w'
                      go_simp
                      with_reducible rfl
                    rotate_left
                    · simp only [Act.put, List.setIfInBounds_toArray, List.set_cons_zero, List.set_cons_succ, i64_w, i32_w]
                      rfl
                    refine pure_ (i := 2) (N := some 81) (v := ?_) (a' := ?_) #[true, false, true, false, false, false, false, false, false, false] rfl rfl (by kernel_rfl) (fun _ _ _ h => h) (Or.inl ⟨by rfl, ?_⟩) ?_ ?_
                    rotate_left
                    · intro w'
                      go_simp
                      with_reducible rfl
                    rotate_left
                    · simp only [Act.put, List.setIfInBounds_toArray, List.set_cons_zero, List.set_cons_succ, i64_w, i32_w]
                      rfl
                    refine pure_ (i := 3) (N := some 82) (v := ?_) (a' := ?_) #[true, false, true, true, false, false, false, false, false, false] rfl rfl (by kernel_rfl) (fun _ _ _ h => h) (Or.inl ⟨by rfl, ?_⟩) ?_ ?_
                    rotate_left
                    · intro w'
                      go_simp
                      with_reducible rfl
                    rotate_left
                    · simp only [Act.put, List.setIfInBounds_toArray, List.set_cons_zero, List.set_cons_succ, i64_w, i32_w]
                      rfl
                    refine take_ (i := 1) (N := some 80) (v := ?_) (a' := ?_) #[true, true, true, true, false, false, false, false, false, false] rfl rfl (by kernel_rfl) (fun _ _ _ h => h) (Or.inl ⟨by rfl, ?_⟩) hHeld ?_ ?_
                    rotate_left
                    · intro w' s0
                      go_simp
                      with_reducible rfl
                    rotate_left
                    · simp only [Act.put, List.setIfInBounds_toArray, List.set_cons_zero, List.set_cons_succ, i64_w, i32_w]
                      rfl
                    refine one_ (i := 4) (N := some 83) #[true, true, true, true, true, false, false, false, false, false] rfl rfl (by kernel_rfl) (by decide) (fun K hK => ?_)
                    refine call_ 31 #[.int .i64 (m : Int), .pointer (some ⟨w.heap.size + 3, 0, none⟩), .pointer (some ⟨w.heap.size, 0, none⟩)] (by rfl) rfl (by unfold execOp; simp [resolve, Deferred.ofValue, invoke, Act.eval, eg]) ?_
                    with_reducible refine P9.out.mono ?_
                    rintro e w9 ⟨rfl, HI11, HK11⟩
                    refine ⟨_, rfl, ?_⟩
                    have HB11 := Aside0.mk (blk_kept (W := w8.drew) HB10.out HK11.out (fun h => by have := HSZ6.out; omega))
                    have HR11 := Aside0.mk (Kd.R_kept (Kd.R_drew HR10.out) HK11.out (fun k hk h => by have := HSZ6.out; omega))
                    have HK13 := Aside0.mk (Kept.then_ (Kept.drew HK12.out) HK11.out (fun k hk => .inl (.inl (by omega))))
                    have HS11 := Aside0.mk HI11.out.size
                    have HL11 : Aside0 (w6.heap.size < w9.heap.size) := ⟨blk_lt HB11.out⟩
                    refine hK.out _ _ ((blk_cell HB11.out 1).trans rfl) (fun hHeld => ?_)
                    clear hK K
                    refine norm_ (a' := ?_) ?_ ?_
                    rotate_left
                    · show Act.put _ (some 83) _ = _
                      simp only [Act.put, List.setIfInBounds_toArray, List.set_cons_zero, List.set_cons_succ, i64_w, i32_w]
                      rfl
                    refine pure_ (i := 5) (N := some 84) (v := ?_) (a' := ?_) #[true, true, true, true, true, true, false, false, false, false] rfl rfl (by kernel_rfl) (fun _ _ _ h => h) (Or.inl ⟨by rfl, ?_⟩) ?_ ?_
                    rotate_left
                    · intro w'
                      go_simp
                      with_reducible rfl
                    rotate_left
                    · simp only [Act.put, List.setIfInBounds_toArray, List.set_cons_zero, List.set_cons_succ, i64_w, i32_w]
                      rfl
                    refine one_ (i := 6) (N := some 85) #[true, true, true, true, true, true, true, false, false, false] rfl rfl (by kernel_rfl) (by decide) (fun K hK => ?_)
                    refine value_ (w1 := ?_) (v := ?_) (by rfl) rfl ?_ ?_
                    rotate_left 2
                    · go_simp
                      constructor
                      · rfl
                      · rfl
                    refine hK.out _ _ ((blk_cell (blk_alloc HB11.out _) 1).trans rfl) (fun hHeld => ?_)
                    clear hK K
                    refine norm_ (a' := ?_) ?_ ?_
                    rotate_left
                    · show Act.put _ (some 85) _ = _
                      simp only [Act.put, List.setIfInBounds_toArray, List.set_cons_zero, List.set_cons_succ, i64_w, i32_w]
                      rfl
                    refine one_ (i := 7) (N := some 86) #[true, true, true, true, true, true, true, true, false, false] rfl rfl (by kernel_rfl) (by decide) (fun K hK => ?_)
                    refine Kd.R_append_step k49 (w0 := w9) (w.heap.size + 4) (by rfl) (.tmp 80) (.tmp 85) 27 49 (.agg #[.bool false, .int .i64 0]) 16 rfl Try.underlying27 miSym rfl (by decide) (by omega) vr ar (⟨false, x⟩ : S49) [.bool false, .int .i64 x] (fun k => w6.heap.size < k) (fun _ => False) rfl rfl (k49_mkM _ _ _ (⟨false, x⟩ : S49)) (fun _ hk => hk.elim) (fun k hk => Nat.lt_of_lt_of_le HL11.out hk) HR11.out (Below.refl _ _) HS11.out (by have := HARL.out; omega) ?_
                    intro v1 w1 ho hb hg hat
                    obtain ⟨An, ln, kn, rfl⟩ : ∃ An ln cn, v1 = .slice An ln cn := by obtain ⟨An, cn, e⟩ := Kd.R_slice ho; exact ⟨An, _, cn, e⟩
                    have HI12 := Aside0.mk (HI11.out.below4 hb)
                    have HB12 := Aside0.mk (blk_grown HB11.out hg (fun e => Nat.lt_irrefl _ (HR11.out.1 _ e.symm)))
                    have HK14 := Aside0.mk (Kept.of_grown hg HK13.out (fun k hk => .inl (.inr (by have := HR11.out.1 k hk; have := HSZ6.out; omega))))
                    have HR12 := Aside0.mk ho
                    have f3 := blk_frozen HB12.out 1
                    clear ho hb hg hat
                    refine hK.out _ _ ((blk_cell HB12.out 1).trans rfl) (fun hHeld => ?_)
                    clear hK K
                    refine norm_ (a' := ?_) ?_ ?_
                    rotate_left
                    · show Act.put _ (some 86) _ = _
                      simp only [Act.put, List.setIfInBounds_toArray, List.set_cons_zero, List.set_cons_succ, i64_w, i32_w]
                      rfl
                    refine pure_ (i := 8) (N := some 87) (v := ?_) (a' := ?_) #[true, true, true, true, true, true, true, true, true, false] rfl rfl (by kernel_rfl) (fun _ _ _ h => h) (Or.inl ⟨by rfl, ?_⟩) ?_ ?_
                    rotate_left
                    · intro w'
                      go_simp
                      with_reducible rfl
                    rotate_left
                    · simp only [Act.put, List.setIfInBounds_toArray, List.set_cons_zero, List.set_cons_succ, i64_w, i32_w]
                      rfl
                    refine last_ (i := 9) (N := none) #[true, true, true, true, true, true, true, true, true, true] rfl rfl (by kernel_rfl) (by decide) (fun K hK => ?_)
                    refine skip_ (w1 := ?_) (by rfl) rfl ?_ ?_
                    rotate_left
                    · go_simp
                      rfl
                    refine hK.out _ _ ?_
                    clear hK K
                    refine done_ (by kernel_rfl) ?_
                    go_wp2
                    go_roundg j
                    case measure => have := HJ.out; omega
                    case rel => exact ⟨j, a2 + 2, _, ar ++ [⟨false, x⟩], congrArg (Value.int .i64) (by unfold wrap64; have := HJL.out; have := HCN.out; omega), Nat.le_refl _, ⟨by have := HJL.out; simp; omega⟩, ⟨by have := HA2.out; omega⟩, ⟨by have h := HMR.out; rw [mRight, if_neg HZ.out, ← EX.out] at h; exact h⟩, ⟨HI12.out.below4 ((Below.refl _ _).setCell (show w.heap.size + 4 ≤ w6.heap.size by have := HSZ6.out; omega) _)⟩, ⟨blk_put HB12.out 1 _ rfl⟩, ⟨Kept.setCell HK14.out (.inl (.inr (show wo.heap.size ≤ w6.heap.size from HSZ6.out.1))) _⟩, ⟨Kd.R_kept HR12.out (Kept.setCell (Kept.refl _ (fun k => k = w6.heap.size)) (.inl rfl) _) (fun k hk h => by omega)⟩⟩
end Go.Proofs.Ytojdjjbkpbapfaa.P
end

section
namespace Go.Proofs.Ytojdjjbkpbapfaa.P
open Go.RowKit Go.Proofs.YtojdjjbkpbapfaaW.PrintWords Go.Proofs.YtojdjjbkpbapfaaW.PrintLast Go.Proofs.YtojdjjbkpbapfaaW.PrintMore
set_option linter.unusedVariables false
set_option linter.unusedSimpArgs false
theorem diInt : (Try.prog.info? 3).map (fun i => (i.zero, i.size, i.bytes)) = some (some (.int .i64 0), 1, 8) := by kernel_rfl
theorem kept_step {W w6 w7 : World} {S : Nat → Prop} (h : Kept W w6 S) (hb : Below W.heap.size w6 w7) : Kept W w7 S := ⟨Nat.le_trans h.1 hb.size, fun i hi hn => (hb.block i hi).trans (h.2 i hi hn)⟩
def derObj (A0 : Option Addr) (n0 c0 : Nat) (A1 : Option Addr) (n1 c1 : Nat) (a2 a3 : Int) (A4 : Option Addr) (n4 c4 : Nat) (AL : Option Addr) (nL cL : Nat) (at_ : Nat) : Obj :=
  .cells #[.slice A0 n0 c0, .slice A1 n1 c1, .int .i64 a2, .int .i64 a3, .slice A4 n4 c4, .slice AL nL cL, .int .i64 (at_ : Int)] 38 (0, 0)
def DerPost (w0 W : World) (DB : Nat) (O : Nat → Obj) (res : (List Int × Bool) × Nat) (e : Ending) (w' : World) : Prop :=
  ∃ v : Value, e = .returned (.tuple #[v, .bool res.1.2]) ∧ Aside0 (Kd.R (Kd.int .i64) 3 w' W.heap.size (fun _ => True) v res.1.1) ∧ Aside0 (w'.heap[DB]? = some (O res.2)) ∧ Aside0 (Kept W w' (fun k => k = DB)) ∧ Aside0 (Below w0.heap.size w0 w')
set_option maxHeartbeats 4000000 in
set_option maxRecDepth 100000 in
theorem derive_step (ps : List S34) (L : List Int) (w0 : World) (DB : Nat) (A0 : Option Addr) (n0 c0 : Nat) (A1 : Option Addr) (n1 c1 : Nat) (a2 a3 : Int) (A4 : Option Addr) (c4 : Nat) (AL : Option Addr) (cL : Nat) (hDB : w0.heap.size ≤ DB) (hps : Kd.C k34 w0 A4 ps.length ps) (hL : Kd.C (Kd.int .u8) w0 AL L.length L) (hu : ∀ x ∈ L, 0 ≤ x ∧ x ≤ 255) (hr : ∀ p ∈ ps, p.f1.length ≤ 10) (hps2 : ps.length ≤ 1000000)
    (rule : Int) (deep at_ : Nat) (W : World) (hdeep : deep ≤ 100) (hB : Below w0.heap.size w0 W) (hblk : W.heap[DB]? = some (derObj A0 n0 c0 A1 n1 c1 a2 a3 A4 ps.length c4 AL L.length cL at_)) (nxt : Int → Nat → (List Int × Bool) × Nat) (B : Nat) (res : (List Int × Bool) × Nat) (hlim : at_ + 1 + 10 * B ≤ 1125899906842624) (hn : ∀ r a, (nxt r a).2 ≤ a + B ∧ (nxt r a).1.1.length ≤ 70)
    (hres : res = if (dAll ps rule ps.length).length = 0 ∨ 10 < deep then (([], false), at_) else drvL nxt (rd_T34 ps ((dAll ps rule ps.length).getD (dK L at_ (dAll ps rule ps.length).length).toNat 0)).f1 [] (at_ + 1))
    (hrec : ¬ ((dAll ps rule ps.length).length = 0 ∨ 10 < deep) → ∀ (r : Int) (a : Nat) (W' : World), a + B ≤ 1125899906842624 → Below w0.heap.size w0 W' → W'.heap[DB]? = some (derObj A0 n0 c0 A1 n1 c1 a2 a3 A4 ps.length c4 AL L.length cL a) →
      Calls Try.prog 13 #[.pointer (some ⟨DB, 0, none⟩), .int .i64 r, .int .i64 ((deep : Int) + 1)] W' (DerPost w0 W' DB (derObj A0 n0 c0 A1 n1 c1 a2 a3 A4 ps.length c4 AL L.length cL) (nxt r a))) :
    Calls Try.prog 13 #[.pointer (some ⟨DB, 0, none⟩), .int .i64 rule, .int .i64 (deep : Int)] W (DerPost w0 W DB (derObj A0 n0 c0 A1 n1 c1 a2 a3 A4 ps.length c4 AL L.length cL) res) := by
  have HDB := Aside0.mk hDB
  have HPS := Aside0.mk hps
  have HL := Aside0.mk hL
  have HU := Aside0.mk hu
  have HR := Aside0.mk hr
  have HP2 := Aside0.mk hps2
  have HDEEP := Aside0.mk hdeep
  have HB := Aside0.mk hB
  have HBLK := Aside0.mk hblk
  have HLIM := Aside0.mk hlim
  have HN := Aside0.mk hn
  have HRES := Aside0.mk hres
  have HREC := Aside0.mk hrec
  have HDBW : Aside0 (DB < W.heap.size) := ⟨blk_lt hblk⟩
  clear hDB hps hL hu hr hps2 hdeep hB hblk hlim hn hres hrec
  go_enter Try.func13, Try.ntmps13
  go_upto_region 2 with fail
  iterate 7 (first | go_values | go_skip | go_guarded | go_step | go_upon | go_back | (simp only [Int.not_lt, Int.not_le] at *; go_simp))
  go_cut [8, 9] from 16 (fun s8 s9 wc => Aside0 (Below W.heap.size W wc) ∧ Aside0 (Kd.R (Kd.int .i64) 3 wc W.heap.size (fun _ => True) s8 (dAll ps rule ps.length)))
  case first =>
    go_wp2
    go_loopg [8, 9] ps.length (fun kq v8 v9 wr => ∃ i : Nat, v9 = .int .i64 (i : Int) ∧ i ≤ ps.length ∧ ps.length - i ≤ kq ∧ Aside0 (Below W.heap.size W wr) ∧ Aside0 (Kd.R (Kd.int .i64) 3 wr W.heap.size (fun _ => True) v8 (dAll ps rule i)))
    case atStart => exact ⟨0, rfl, by omega, by omega, ⟨Below.refl _ _⟩, ⟨Kd.R_nil _ _ _ _ _⟩⟩
    case round =>
      obtain ⟨i, rfl, hi, hm, HBW, HA⟩ := hrel
      have HBK := Aside0.mk ((HBW.out.block _ HDBW.out).trans HBLK.out)
      have q4 : wr.cell? ⟨DB, 4, none⟩ = some (.slice A4 ps.length c4) := (blk_cell HBK.out 4).trans rfl
      by_cases hlt : i < ps.length
      · have d0 : decide (i < ps.length) = true := decide_eq_true hlt
        have d1 : (i < ps.length) = True := eq_true hlt
        obtain ⟨ad, A5, c5, ead, e0, e1, _, _⟩ := at_T34 (Kd.C_below HPS.out (HB.out.trans (HBW.out.mono HB.out.size))) (i : Int) (by omega) (by omega)
        rw [Int.toNat_natCast] at e0 e1
        have p0 : (0 ≤ (i : Int)) = True := eq_true (by omega)
        have p1 : ((i : Int) < (ps.length : Int)) = True := eq_true (by omega)
        have hwr : IntKind.i64.wrap ((i : Int) + 1) = (i : Int) + 1 := by rw [IntKind.wrap_i64]; have := HP2.out; omega
        have HLT := Aside0.mk hlt
        have HM := Aside0.mk hm
        cases ead
        clear hlt hm hi e1
        by_cases hru : (rd_T34 ps (i : Int)).f0 = rule
        · rw [hru] at e0
          have HRU := Aside0.mk hru
          have HSZ : Aside0 (W.heap.size ≤ wr.heap.size) := ⟨HBW.out.size⟩
          have HAL := Aside0.mk (dAll_length ps rule i)
          clear hru
          go_wp2_with (first | ((with_reducible refine gate_builtin (b := .append) (xs := #[.tmp 37, .tmp 39]) rfl ?_); at_builtin; refine Kd.R_append (Kd.int .i64) (w0 := wr) W.heap.size rfl (.tmp 37) (.tmp 39) 39 3 (.int .i64 0) 8 rfl Try.underlying39 diInt rfl (by decide) (by omega) u8 (dAll ps rule i) (i : Int) [.int .i64 (i : Int)] (fun _ => True) (fun _ => False) rfl rfl rfl (fun _ hk => hk.elim) (fun _ _ => trivial) HA.out (Below.refl _ _) HSZ.out (by have := HAL.out; have := HP2.out; have := HLT.out; omega) ?_; intro v1 w2 ho hb hg hat; have HA2 := Aside0.mk ho; have HB2 : Aside0 (Below W.heap.size W w2) := ⟨HBW.out.trans hb⟩; clear ho hb hg hat))
          go_roundg (ps.length - (i + 1))
          case measure => have := HM.out; have := HLT.out; omega
          case rel => exact ⟨i + 1, rfl, by have := HLT.out; omega, Nat.le_refl _, HB2, ⟨by rw [dAll_yes HRU.out]; exact HA2.out⟩⟩
        · obtain ⟨x, ex⟩ : ∃ x, x = (rd_T34 ps (i : Int)).f0 := ⟨_, rfl⟩
          rw [← ex] at e0 hru
          have EX := Aside0.mk ex
          have HRU := Aside0.mk hru
          have d2 : decide (x = rule) = false := decide_eq_false hru
          have d3 : (x = rule) = False := eq_false hru
          have d4 : (x == rule) = false := by simp [hru]
          clear ex hru
          go_wp2
          go_roundg (ps.length - (i + 1))
          case measure => have := HM.out; have := HLT.out; omega
          case rel => exact ⟨i + 1, rfl, by have := HLT.out; omega, Nat.le_refl _, HBW, ⟨by rw [dAll_no (by rw [← EX.out]; exact HRU.out)]; exact HA.out⟩⟩
      · obtain rfl : i = ps.length := by omega
        clear hlt
        go_wp2
        go_meet
        case rel => exact ⟨HBW, HA⟩
  case rest =>
    obtain ⟨HBW, HA⟩ := hcut
    obtain ⟨w1, ew1⟩ : ∃ w1 : World, w1 = wc := ⟨_, rfl⟩
    subst ew1
    have HBK := Aside0.mk ((HBW.out.block _ HDBW.out).trans HBLK.out)
    have HB1 : Aside0 (Below w0.heap.size w0 w1) := ⟨HB.out.trans (HBW.out.mono HB.out.size)⟩
    have HMEM : Aside0 (∀ x ∈ dAll ps rule ps.length, 0 ≤ x ∧ x < (ps.length : Int)) := ⟨fun x hx => ⟨(dAll_mem hx).1, (dAll_mem hx).2.1⟩⟩
    have HALN := Aside0.mk (dAll_length ps rule ps.length)
    generalize dAll ps rule ps.length = all at HA HRES HREC HMEM HALN
    obtain ⟨A8, n, c8, rfl⟩ : ∃ A n c, u8 = .slice A n c := by obtain ⟨A, c, e⟩ := Kd.R_slice HA.out; exact ⟨A, _, c, e⟩
    have hnl := (Kd.R_reads' HA.out).1
    subst hnl
    have HALL : ∃ n : Nat, n = all.length := ⟨_, rfl⟩
    obtain ⟨n, en⟩ := HALL
    have hdwr : IntKind.i64.wrap ((n : Int) - 1) = (n : Int) - 1 := by rw [IntKind.wrap_i64]; have := HALN.out; have := HP2.out; omega
    rw [← en] at HA HRES HREC ⊢
    have EN := Aside0.mk en
    clear en
    by_cases hz : n = 0
    · subst hz
      have hres : res = (([], false), at_) := by rw [HRES.out, if_pos (.inl rfl)]
      subst hres
      go_wp2
      go_ret2
      exact ⟨_, rfl, ⟨Kd.R_nil _ _ _ _ _⟩, HBK, ⟨Kept.of_below HBW.out _⟩, HB1⟩
    · have z1 : (n = 0) = False := eq_false hz
      have z2 : decide (n = 0) = false := decide_eq_false hz
      have z3 : ((n : Int) == 0) = false := by simp [hz]
      by_cases hd : 10 < deep
      · have hres : res = (([], false), at_) := by rw [HRES.out, if_pos (.inr hd)]
        subst hres
        have y1 : (10 < deep) = True := eq_true hd
        have y2 : decide ((deep : Int) > 10) = true := decide_eq_true (by omega)
        have y3 : ((10 : Int) < (deep : Int)) = True := eq_true (by omega)
        go_wp2
        go_ret2
        exact ⟨_, rfl, ⟨Kd.R_nil _ _ _ _ _⟩, HBK, ⟨Kept.of_below HBW.out _⟩, HB1⟩
      · have y1 : (10 < deep) = False := eq_false hd
        have y2 : decide ((deep : Int) > 10) = false := decide_eq_false (by omega)
        have y3 : ((10 : Int) < (deep : Int)) = False := eq_false (by omega)
        have hnot : ¬ (n = 0 ∨ 10 < deep) := fun h => h.elim hz hd
        have HRES2 : Aside0 (res = drvL nxt (rd_T34 ps (all.getD (dK L at_ n).toNat 0)).f1 [] (at_ + 1)) := ⟨by rw [HRES.out, if_neg hnot]⟩
        have HREC2 := Aside0.mk (HREC.out hnot)
        have HN0 : Aside0 (0 < n) := ⟨Nat.pos_of_ne_zero hz⟩
        clear HREC HRES hnot hz hd
        go_upto_region 10 with fail
        go_cut [67] from 16 (fun s67 wc => s67 = .bool (decide (at_ < L.length ∧ at_ < 60)) ∧ Aside0 (Below w1.heap.size w1 wc))
        case first =>
          have q5 : Aside0 (w1.cell? ⟨DB, 5, none⟩ = some (.slice AL L.length cL)) := ⟨(blk_cell HBK.out 5).trans rfl⟩
          have q6 : Aside0 (w1.cell? ⟨DB, 6, none⟩ = some (.int .i64 (at_ : Int))) := ⟨(blk_cell HBK.out 6).trans rfl⟩
          by_cases h1 : at_ < L.length
          · have x1 : decide ((at_ : Int) < (L.length : Int)) = true := decide_eq_true (by omega)
            have x2 : decide (at_ < L.length) = true := decide_eq_true h1
            by_cases h2 : at_ < 60
            · have x3 : decide ((at_ : Int) < 60) = true := decide_eq_true (by omega)
              have x4 : decide (at_ < 60) = true := decide_eq_true h2
              have x5 : decide (at_ < L.length ∧ at_ < 60) = true := decide_eq_true ⟨h1, h2⟩
              refine start_ (n := 17) (S := fun w' => w'.cell? ⟨DB, 6, none⟩ = some (.int .i64 (at_ : Int)) ∧ w'.cell? ⟨DB, 5, none⟩ = some (.slice AL L.length cL)) (ds := []) #[false, false, false, false, false, false, false, false, false, false, false, false, false, false, false, false, false] (by kernel_rfl) rfl rfl ⟨q6.out, q5.out⟩ (fun hHeld => ?_)
              refine pure_ (i := 0) (N := some 51) (v := ?_) (a' := ?_) #[true, false, false, false, false, false, false, false, false, false, false, false, false, false, false, false, false] rfl rfl (by kernel_rfl) (fun _ _ _ h => h) (Or.inl ⟨by rfl, ?_⟩) ?_ ?_
              rotate_left
              · intro w'
                go_simp
                with_reducible rfl
              rotate_left
              · simp only [Act.put, List.setIfInBounds_toArray, List.set_cons_zero, List.set_cons_succ, i64_w, i32_w]
                rfl
              refine pure_ (i := 1) (N := some 52) (v := ?_) (a' := ?_) #[true, true, false, false, false, false, false, false, false, false, false, false, false, false, false, false, false] rfl rfl (by kernel_rfl) (fun _ _ _ h => h) (Or.inl ⟨by rfl, ?_⟩) ?_ ?_
              rotate_left
              · intro w'
                go_simp
                with_reducible rfl
              rotate_left
              · simp only [Act.put, List.setIfInBounds_toArray, List.set_cons_zero, List.set_cons_succ, i64_w, i32_w]
                rfl
              refine pure_ (i := 2) (N := some 53) (v := ?_) (a' := ?_) #[true, true, true, false, false, false, false, false, false, false, false, false, false, false, false, false, false] rfl rfl (by kernel_rfl) (fun _ _ _ h => h) (Or.inl ⟨by rfl, ?_⟩) ?_ ?_
              rotate_left
              · intro w'
                go_simp
                with_reducible rfl
              rotate_left
              · simp only [Act.put, List.setIfInBounds_toArray, List.set_cons_zero, List.set_cons_succ, i64_w, i32_w]
                rfl
              refine pure_ (i := 4) (N := some 55) (v := ?_) (a' := ?_) #[true, true, true, false, true, false, false, false, false, false, false, false, false, false, false, false, false] rfl rfl (by kernel_rfl) (fun _ _ _ h => h) (Or.inl ⟨by rfl, ?_⟩) ?_ ?_
              rotate_left
              · intro w'
                go_simp
                with_reducible rfl
              rotate_left
              · simp only [Act.put, List.setIfInBounds_toArray, List.set_cons_zero, List.set_cons_succ, i64_w, i32_w]
                rfl
              refine pure_ (i := 5) (N := some 56) (v := ?_) (a' := ?_) #[true, true, true, false, true, true, false, false, false, false, false, false, false, false, false, false, false] rfl rfl (by kernel_rfl) (fun _ _ _ h => h) (Or.inl ⟨by rfl, ?_⟩) ?_ ?_
              rotate_left
              · intro w'
                go_simp
                with_reducible rfl
              rotate_left
              · simp only [Act.put, List.setIfInBounds_toArray, List.set_cons_zero, List.set_cons_succ, i64_w, i32_w]
                rfl
              refine pure_ (i := 6) (N := some 57) (v := ?_) (a' := ?_) #[true, true, true, false, true, true, true, false, false, false, false, false, false, false, false, false, false] rfl rfl (by kernel_rfl) (fun _ _ _ h => h) (Or.inl ⟨by rfl, ?_⟩) ?_ ?_
              rotate_left
              · intro w'
                go_simp
                with_reducible rfl
              rotate_left
              · simp only [Act.put, List.setIfInBounds_toArray, List.set_cons_zero, List.set_cons_succ, i64_w, i32_w]
                rfl
              refine take_ (i := 3) (N := some 54) (v := ?_) (a' := ?_) #[true, true, true, true, true, true, true, false, false, false, false, false, false, false, false, false, false] rfl rfl (by kernel_rfl) (fun _ _ _ h => h) (Or.inl ⟨by rfl, ?_⟩) hHeld ?_ ?_
              rotate_left
              · rintro w' ⟨s0, s1⟩
                go_simp
                with_reducible rfl
              rotate_left
              · simp only [Act.put, List.setIfInBounds_toArray, List.set_cons_zero, List.set_cons_succ, i64_w, i32_w]
                rfl
              refine take_ (i := 7) (N := some 58) (v := ?_) (a' := ?_) #[true, true, true, true, true, true, true, true, false, false, false, false, false, false, false, false, false] rfl rfl (by kernel_rfl) (fun _ _ _ h => h) (Or.inl ⟨by rfl, ?_⟩) hHeld ?_ ?_
              rotate_left
              · rintro w' ⟨s0, s1⟩
                go_simp
                with_reducible rfl
              rotate_left
              · simp only [Act.put, List.setIfInBounds_toArray, List.set_cons_zero, List.set_cons_succ, i64_w, i32_w]
                rfl
              refine pure_ (i := 8) (N := some 59) (v := ?_) (a' := ?_) #[true, true, true, true, true, true, true, true, true, false, false, false, false, false, false, false, false] rfl rfl (by kernel_rfl) (fun _ _ _ h => h) (Or.inl ⟨by rfl, ?_⟩) ?_ ?_
              rotate_left
              · intro w'
                go_simp
                with_reducible rfl
              rotate_left
              · simp only [Act.put, List.setIfInBounds_toArray, List.set_cons_zero, List.set_cons_succ, i64_w, i32_w]
                rfl
              refine pure_ (i := 9) (N := some 60) (v := ?_) (a' := ?_) #[true, true, true, true, true, true, true, true, true, true, false, false, false, false, false, false, false] rfl rfl (by kernel_rfl) (fun _ _ _ h => h) (Or.inl ⟨by rfl, ?_⟩) ?_ ?_
              rotate_left
              · intro w'
                go_simp
                with_reducible rfl
              rotate_left
              · simp only [Act.put, List.setIfInBounds_toArray, List.set_cons_zero, List.set_cons_succ, i64_w, i32_w]
                rfl
              refine pure_ (i := 10) (N := some 61) (v := ?_) (a' := ?_) #[true, true, true, true, true, true, true, true, true, true, true, false, false, false, false, false, false] rfl rfl (by kernel_rfl) (fun _ _ _ h => h) (Or.inl ⟨by rfl, ?_⟩) ?_ ?_
              rotate_left
              · intro w'
                go_simp
                with_reducible rfl
              rotate_left
              · simp only [Act.put, List.setIfInBounds_toArray, List.set_cons_zero, List.set_cons_succ, i64_w, i32_w]
                rfl
              refine pure_ (i := 11) (N := some 62) (v := ?_) (a' := ?_) #[true, true, true, true, true, true, true, true, true, true, true, true, false, false, false, false, false] rfl rfl (by kernel_rfl) (fun _ _ _ h => h) (Or.inl ⟨by rfl, ?_⟩) ?_ ?_
              rotate_left
              · intro w'
                go_simp
                with_reducible rfl
              rotate_left
              · simp only [Act.put, List.setIfInBounds_toArray, List.set_cons_zero, List.set_cons_succ, i64_w, i32_w]
                rfl
              refine pure_ (i := 12) (N := some 63) (v := ?_) (a' := ?_) #[true, true, true, true, true, true, true, true, true, true, true, true, true, false, false, false, false] rfl rfl (by kernel_rfl) (fun _ _ _ h => h) (Or.inl ⟨by rfl, ?_⟩) ?_ ?_
              rotate_left
              · intro w'
                go_simp
                with_reducible rfl
              rotate_left
              · simp only [Act.put, List.setIfInBounds_toArray, List.set_cons_zero, List.set_cons_succ, i64_w, i32_w]
                rfl
              refine pure_ (i := 13) (N := some 64) (v := ?_) (a' := ?_) #[true, true, true, true, true, true, true, true, true, true, true, true, true, true, false, false, false] rfl rfl (by kernel_rfl) (fun _ _ _ h => h) (Or.inl ⟨by rfl, ?_⟩) ?_ ?_
              rotate_left
              · intro w'
                go_simp
                with_reducible rfl
              rotate_left
              · simp only [Act.put, List.setIfInBounds_toArray, List.set_cons_zero, List.set_cons_succ, i64_w, i32_w]
                rfl
              refine take_ (i := 14) (N := some 65) (v := ?_) (a' := ?_) #[true, true, true, true, true, true, true, true, true, true, true, true, true, true, true, false, false] rfl rfl (by kernel_rfl) (fun _ _ _ h => h) (Or.inl ⟨by rfl, ?_⟩) hHeld ?_ ?_
              rotate_left
              · rintro w' ⟨s0, s1⟩
                go_simp
                with_reducible rfl
              rotate_left
              · simp only [Act.put, List.setIfInBounds_toArray, List.set_cons_zero, List.set_cons_succ, i64_w, i32_w]
                rfl
              refine pure_ (i := 15) (N := some 66) (v := ?_) (a' := ?_) #[true, true, true, true, true, true, true, true, true, true, true, true, true, true, true, true, false] rfl rfl (by kernel_rfl) (fun _ _ _ h => h) (Or.inl ⟨by rfl, ?_⟩) ?_ ?_
              rotate_left
              · intro w'
                go_simp
                with_reducible rfl
              rotate_left
              · simp only [Act.put, List.setIfInBounds_toArray, List.set_cons_zero, List.set_cons_succ, i64_w, i32_w]
                rfl
              refine pure_ (i := 16) (N := some 67) (v := ?_) (a' := ?_) #[true, true, true, true, true, true, true, true, true, true, true, true, true, true, true, true, true] rfl rfl (by kernel_rfl) (fun _ _ _ h => h) (Or.inl ⟨by rfl, ?_⟩) ?_ ?_
              rotate_left
              · intro w'
                go_simp
                with_reducible rfl
              rotate_left
              · simp only [Act.put, List.setIfInBounds_toArray, List.set_cons_zero, List.set_cons_succ, i64_w, i32_w]
                rfl
              refine done_ (by kernel_rfl) ?_
              go_wp2_with fail
              go_meet
              case rel => exact ⟨congrArg Value.bool x5.symm, ⟨below_drew1 (Below.refl _ _)⟩⟩
            · have x3 : decide ((at_ : Int) < 60) = false := decide_eq_false (by omega)
              have x4 : decide (at_ < 60) = false := decide_eq_false h2
              have x5 : decide (at_ < L.length ∧ at_ < 60) = false := decide_eq_false (fun h => h2 h.2)
              refine start_ (n := 17) (S := fun w' => w'.cell? ⟨DB, 6, none⟩ = some (.int .i64 (at_ : Int)) ∧ w'.cell? ⟨DB, 5, none⟩ = some (.slice AL L.length cL)) (ds := []) #[false, false, false, false, false, false, false, false, false, false, false, false, false, false, false, false, false] (by kernel_rfl) rfl rfl ⟨q6.out, q5.out⟩ (fun hHeld => ?_)
              refine pure_ (i := 0) (N := some 51) (v := ?_) (a' := ?_) #[true, false, false, false, false, false, false, false, false, false, false, false, false, false, false, false, false] rfl rfl (by kernel_rfl) (fun _ _ _ h => h) (Or.inl ⟨by rfl, ?_⟩) ?_ ?_
              rotate_left
              · intro w'
                go_simp
                with_reducible rfl
              rotate_left
              · simp only [Act.put, List.setIfInBounds_toArray, List.set_cons_zero, List.set_cons_succ, i64_w, i32_w]
                rfl
              refine pure_ (i := 1) (N := some 52) (v := ?_) (a' := ?_) #[true, true, false, false, false, false, false, false, false, false, false, false, false, false, false, false, false] rfl rfl (by kernel_rfl) (fun _ _ _ h => h) (Or.inl ⟨by rfl, ?_⟩) ?_ ?_
              rotate_left
              · intro w'
                go_simp
                with_reducible rfl
              rotate_left
              · simp only [Act.put, List.setIfInBounds_toArray, List.set_cons_zero, List.set_cons_succ, i64_w, i32_w]
                rfl
              refine pure_ (i := 2) (N := some 53) (v := ?_) (a' := ?_) #[true, true, true, false, false, false, false, false, false, false, false, false, false, false, false, false, false] rfl rfl (by kernel_rfl) (fun _ _ _ h => h) (Or.inl ⟨by rfl, ?_⟩) ?_ ?_
              rotate_left
              · intro w'
                go_simp
                with_reducible rfl
              rotate_left
              · simp only [Act.put, List.setIfInBounds_toArray, List.set_cons_zero, List.set_cons_succ, i64_w, i32_w]
                rfl
              refine pure_ (i := 4) (N := some 55) (v := ?_) (a' := ?_) #[true, true, true, false, true, false, false, false, false, false, false, false, false, false, false, false, false] rfl rfl (by kernel_rfl) (fun _ _ _ h => h) (Or.inl ⟨by rfl, ?_⟩) ?_ ?_
              rotate_left
              · intro w'
                go_simp
                with_reducible rfl
              rotate_left
              · simp only [Act.put, List.setIfInBounds_toArray, List.set_cons_zero, List.set_cons_succ, i64_w, i32_w]
                rfl
              refine pure_ (i := 5) (N := some 56) (v := ?_) (a' := ?_) #[true, true, true, false, true, true, false, false, false, false, false, false, false, false, false, false, false] rfl rfl (by kernel_rfl) (fun _ _ _ h => h) (Or.inl ⟨by rfl, ?_⟩) ?_ ?_
              rotate_left
              · intro w'
                go_simp
                with_reducible rfl
              rotate_left
              · simp only [Act.put, List.setIfInBounds_toArray, List.set_cons_zero, List.set_cons_succ, i64_w, i32_w]
                rfl
              refine pure_ (i := 6) (N := some 57) (v := ?_) (a' := ?_) #[true, true, true, false, true, true, true, false, false, false, false, false, false, false, false, false, false] rfl rfl (by kernel_rfl) (fun _ _ _ h => h) (Or.inl ⟨by rfl, ?_⟩) ?_ ?_
              rotate_left
              · intro w'
                go_simp
                with_reducible rfl
              rotate_left
              · simp only [Act.put, List.setIfInBounds_toArray, List.set_cons_zero, List.set_cons_succ, i64_w, i32_w]
                rfl
              refine take_ (i := 3) (N := some 54) (v := ?_) (a' := ?_) #[true, true, true, true, true, true, true, false, false, false, false, false, false, false, false, false, false] rfl rfl (by kernel_rfl) (fun _ _ _ h => h) (Or.inl ⟨by rfl, ?_⟩) hHeld ?_ ?_
              rotate_left
              · rintro w' ⟨s0, s1⟩
                go_simp
                with_reducible rfl
              rotate_left
              · simp only [Act.put, List.setIfInBounds_toArray, List.set_cons_zero, List.set_cons_succ, i64_w, i32_w]
                rfl
              refine take_ (i := 7) (N := some 58) (v := ?_) (a' := ?_) #[true, true, true, true, true, true, true, true, false, false, false, false, false, false, false, false, false] rfl rfl (by kernel_rfl) (fun _ _ _ h => h) (Or.inl ⟨by rfl, ?_⟩) hHeld ?_ ?_
              rotate_left
              · rintro w' ⟨s0, s1⟩
                go_simp
                with_reducible rfl
              rotate_left
              · simp only [Act.put, List.setIfInBounds_toArray, List.set_cons_zero, List.set_cons_succ, i64_w, i32_w]
                rfl
              refine pure_ (i := 8) (N := some 59) (v := ?_) (a' := ?_) #[true, true, true, true, true, true, true, true, true, false, false, false, false, false, false, false, false] rfl rfl (by kernel_rfl) (fun _ _ _ h => h) (Or.inl ⟨by rfl, ?_⟩) ?_ ?_
              rotate_left
              · intro w'
                go_simp
                with_reducible rfl
              rotate_left
              · simp only [Act.put, List.setIfInBounds_toArray, List.set_cons_zero, List.set_cons_succ, i64_w, i32_w]
                rfl
              refine pure_ (i := 9) (N := some 60) (v := ?_) (a' := ?_) #[true, true, true, true, true, true, true, true, true, true, false, false, false, false, false, false, false] rfl rfl (by kernel_rfl) (fun _ _ _ h => h) (Or.inl ⟨by rfl, ?_⟩) ?_ ?_
              rotate_left
              · intro w'
                go_simp
                with_reducible rfl
              rotate_left
              · simp only [Act.put, List.setIfInBounds_toArray, List.set_cons_zero, List.set_cons_succ, i64_w, i32_w]
                rfl
              refine pure_ (i := 10) (N := some 61) (v := ?_) (a' := ?_) #[true, true, true, true, true, true, true, true, true, true, true, false, false, false, false, false, false] rfl rfl (by kernel_rfl) (fun _ _ _ h => h) (Or.inl ⟨by rfl, ?_⟩) ?_ ?_
              rotate_left
              · intro w'
                go_simp
                with_reducible rfl
              rotate_left
              · simp only [Act.put, List.setIfInBounds_toArray, List.set_cons_zero, List.set_cons_succ, i64_w, i32_w]
                rfl
              refine pure_ (i := 11) (N := some 62) (v := ?_) (a' := ?_) #[true, true, true, true, true, true, true, true, true, true, true, true, false, false, false, false, false] rfl rfl (by kernel_rfl) (fun _ _ _ h => h) (Or.inl ⟨by rfl, ?_⟩) ?_ ?_
              rotate_left
              · intro w'
                go_simp
                with_reducible rfl
              rotate_left
              · simp only [Act.put, List.setIfInBounds_toArray, List.set_cons_zero, List.set_cons_succ, i64_w, i32_w]
                rfl
              refine pure_ (i := 12) (N := some 63) (v := ?_) (a' := ?_) #[true, true, true, true, true, true, true, true, true, true, true, true, true, false, false, false, false] rfl rfl (by kernel_rfl) (fun _ _ _ h => h) (Or.inl ⟨by rfl, ?_⟩) ?_ ?_
              rotate_left
              · intro w'
                go_simp
                with_reducible rfl
              rotate_left
              · simp only [Act.put, List.setIfInBounds_toArray, List.set_cons_zero, List.set_cons_succ, i64_w, i32_w]
                rfl
              refine pure_ (i := 13) (N := some 64) (v := ?_) (a' := ?_) #[true, true, true, true, true, true, true, true, true, true, true, true, true, true, false, false, false] rfl rfl (by kernel_rfl) (fun _ _ _ h => h) (Or.inl ⟨by rfl, ?_⟩) ?_ ?_
              rotate_left
              · intro w'
                go_simp
                with_reducible rfl
              rotate_left
              · simp only [Act.put, List.setIfInBounds_toArray, List.set_cons_zero, List.set_cons_succ, i64_w, i32_w]
                rfl
              refine take_ (i := 14) (N := some 65) (v := ?_) (a' := ?_) #[true, true, true, true, true, true, true, true, true, true, true, true, true, true, true, false, false] rfl rfl (by kernel_rfl) (fun _ _ _ h => h) (Or.inl ⟨by rfl, ?_⟩) hHeld ?_ ?_
              rotate_left
              · rintro w' ⟨s0, s1⟩
                go_simp
                with_reducible rfl
              rotate_left
              · simp only [Act.put, List.setIfInBounds_toArray, List.set_cons_zero, List.set_cons_succ, i64_w, i32_w]
                rfl
              refine pure_ (i := 15) (N := some 66) (v := ?_) (a' := ?_) #[true, true, true, true, true, true, true, true, true, true, true, true, true, true, true, true, false] rfl rfl (by kernel_rfl) (fun _ _ _ h => h) (Or.inl ⟨by rfl, ?_⟩) ?_ ?_
              rotate_left
              · intro w'
                go_simp
                with_reducible rfl
              rotate_left
              · simp only [Act.put, List.setIfInBounds_toArray, List.set_cons_zero, List.set_cons_succ, i64_w, i32_w]
                rfl
              refine pure_ (i := 16) (N := some 67) (v := ?_) (a' := ?_) #[true, true, true, true, true, true, true, true, true, true, true, true, true, true, true, true, true] rfl rfl (by kernel_rfl) (fun _ _ _ h => h) (Or.inl ⟨by rfl, ?_⟩) ?_ ?_
              rotate_left
              · intro w'
                go_simp
                with_reducible rfl
              rotate_left
              · simp only [Act.put, List.setIfInBounds_toArray, List.set_cons_zero, List.set_cons_succ, i64_w, i32_w]
                rfl
              refine done_ (by kernel_rfl) ?_
              go_wp2_with fail
              go_meet
              case rel => exact ⟨congrArg Value.bool x5.symm, ⟨below_drew1 (Below.refl _ _)⟩⟩
          · have x1 : decide ((at_ : Int) < (L.length : Int)) = false := decide_eq_false (by omega)
            have x2 : decide (at_ < L.length) = false := decide_eq_false h1
            have x5 : decide (at_ < L.length ∧ at_ < 60) = false := decide_eq_false (fun h => h1 h.1)
            refine start_ (n := 17) (S := fun w' => w'.cell? ⟨DB, 6, none⟩ = some (.int .i64 (at_ : Int)) ∧ w'.cell? ⟨DB, 5, none⟩ = some (.slice AL L.length cL)) (ds := []) #[false, false, false, false, false, false, false, false, false, false, false, false, false, false, false, false, false] (by kernel_rfl) rfl rfl ⟨q6.out, q5.out⟩ (fun hHeld => ?_)
            refine pure_ (i := 0) (N := some 51) (v := ?_) (a' := ?_) #[true, false, false, false, false, false, false, false, false, false, false, false, false, false, false, false, false] rfl rfl (by kernel_rfl) (fun _ _ _ h => h) (Or.inl ⟨by rfl, ?_⟩) ?_ ?_
            rotate_left
            · intro w'
              go_simp
              with_reducible rfl
            rotate_left
            · simp only [Act.put, List.setIfInBounds_toArray, List.set_cons_zero, List.set_cons_succ, i64_w, i32_w]
              rfl
            refine pure_ (i := 1) (N := some 52) (v := ?_) (a' := ?_) #[true, true, false, false, false, false, false, false, false, false, false, false, false, false, false, false, false] rfl rfl (by kernel_rfl) (fun _ _ _ h => h) (Or.inl ⟨by rfl, ?_⟩) ?_ ?_
            rotate_left
            · intro w'
              go_simp
              with_reducible rfl
            rotate_left
            · simp only [Act.put, List.setIfInBounds_toArray, List.set_cons_zero, List.set_cons_succ, i64_w, i32_w]
              rfl
            refine pure_ (i := 2) (N := some 53) (v := ?_) (a' := ?_) #[true, true, true, false, false, false, false, false, false, false, false, false, false, false, false, false, false] rfl rfl (by kernel_rfl) (fun _ _ _ h => h) (Or.inl ⟨by rfl, ?_⟩) ?_ ?_
            rotate_left
            · intro w'
              go_simp
              with_reducible rfl
            rotate_left
            · simp only [Act.put, List.setIfInBounds_toArray, List.set_cons_zero, List.set_cons_succ, i64_w, i32_w]
              rfl
            refine pure_ (i := 4) (N := some 55) (v := ?_) (a' := ?_) #[true, true, true, false, true, false, false, false, false, false, false, false, false, false, false, false, false] rfl rfl (by kernel_rfl) (fun _ _ _ h => h) (Or.inl ⟨by rfl, ?_⟩) ?_ ?_
            rotate_left
            · intro w'
              go_simp
              with_reducible rfl
            rotate_left
            · simp only [Act.put, List.setIfInBounds_toArray, List.set_cons_zero, List.set_cons_succ, i64_w, i32_w]
              rfl
            refine pure_ (i := 5) (N := some 56) (v := ?_) (a' := ?_) #[true, true, true, false, true, true, false, false, false, false, false, false, false, false, false, false, false] rfl rfl (by kernel_rfl) (fun _ _ _ h => h) (Or.inl ⟨by rfl, ?_⟩) ?_ ?_
            rotate_left
            · intro w'
              go_simp
              with_reducible rfl
            rotate_left
            · simp only [Act.put, List.setIfInBounds_toArray, List.set_cons_zero, List.set_cons_succ, i64_w, i32_w]
              rfl
            refine pure_ (i := 6) (N := some 57) (v := ?_) (a' := ?_) #[true, true, true, false, true, true, true, false, false, false, false, false, false, false, false, false, false] rfl rfl (by kernel_rfl) (fun _ _ _ h => h) (Or.inl ⟨by rfl, ?_⟩) ?_ ?_
            rotate_left
            · intro w'
              go_simp
              with_reducible rfl
            rotate_left
            · simp only [Act.put, List.setIfInBounds_toArray, List.set_cons_zero, List.set_cons_succ, i64_w, i32_w]
              rfl
            refine take_ (i := 3) (N := some 54) (v := ?_) (a' := ?_) #[true, true, true, true, true, true, true, false, false, false, false, false, false, false, false, false, false] rfl rfl (by kernel_rfl) (fun _ _ _ h => h) (Or.inl ⟨by rfl, ?_⟩) hHeld ?_ ?_
            rotate_left
            · rintro w' ⟨s0, s1⟩
              go_simp
              with_reducible rfl
            rotate_left
            · simp only [Act.put, List.setIfInBounds_toArray, List.set_cons_zero, List.set_cons_succ, i64_w, i32_w]
              rfl
            refine take_ (i := 7) (N := some 58) (v := ?_) (a' := ?_) #[true, true, true, true, true, true, true, true, false, false, false, false, false, false, false, false, false] rfl rfl (by kernel_rfl) (fun _ _ _ h => h) (Or.inl ⟨by rfl, ?_⟩) hHeld ?_ ?_
            rotate_left
            · rintro w' ⟨s0, s1⟩
              go_simp
              with_reducible rfl
            rotate_left
            · simp only [Act.put, List.setIfInBounds_toArray, List.set_cons_zero, List.set_cons_succ, i64_w, i32_w]
              rfl
            refine pure_ (i := 8) (N := some 59) (v := ?_) (a' := ?_) #[true, true, true, true, true, true, true, true, true, false, false, false, false, false, false, false, false] rfl rfl (by kernel_rfl) (fun _ _ _ h => h) (Or.inl ⟨by rfl, ?_⟩) ?_ ?_
            rotate_left
            · intro w'
              go_simp
              with_reducible rfl
            rotate_left
            · simp only [Act.put, List.setIfInBounds_toArray, List.set_cons_zero, List.set_cons_succ, i64_w, i32_w]
              rfl
            refine pure_ (i := 9) (N := some 60) (v := ?_) (a' := ?_) #[true, true, true, true, true, true, true, true, true, true, false, false, false, false, false, false, false] rfl rfl (by kernel_rfl) (fun _ _ _ h => h) (Or.inl ⟨by rfl, ?_⟩) ?_ ?_
            rotate_left
            · intro w'
              go_simp
              with_reducible rfl
            rotate_left
            · simp only [Act.put, List.setIfInBounds_toArray, List.set_cons_zero, List.set_cons_succ, i64_w, i32_w]
              rfl
            refine pure_ (i := 10) (N := some 61) (v := ?_) (a' := ?_) #[true, true, true, true, true, true, true, true, true, true, true, false, false, false, false, false, false] rfl rfl (by kernel_rfl) (fun _ _ _ h => h) (Or.inl ⟨by rfl, ?_⟩) ?_ ?_
            rotate_left
            · intro w'
              go_simp
              with_reducible rfl
            rotate_left
            · simp only [Act.put, List.setIfInBounds_toArray, List.set_cons_zero, List.set_cons_succ, i64_w, i32_w]
              rfl
            refine pure_ (i := 11) (N := some 62) (v := undef) (a' := ?_) #[true, true, true, true, true, true, true, true, true, true, true, true, false, false, false, false, false] rfl rfl (by kernel_rfl) (fun _ _ _ h => h) (Or.inr ⟨by rfl, rfl⟩) ?_ ?_
            rotate_left
            · simp only [Act.put, List.setIfInBounds_toArray, List.set_cons_zero, List.set_cons_succ, i64_w, i32_w]
              rfl
            refine pure_ (i := 12) (N := some 63) (v := undef) (a' := ?_) #[true, true, true, true, true, true, true, true, true, true, true, true, true, false, false, false, false] rfl rfl (by kernel_rfl) (fun _ _ _ h => h) (Or.inr ⟨by rfl, rfl⟩) ?_ ?_
            rotate_left
            · simp only [Act.put, List.setIfInBounds_toArray, List.set_cons_zero, List.set_cons_succ, i64_w, i32_w]
              rfl
            refine pure_ (i := 13) (N := some 64) (v := undef) (a' := ?_) #[true, true, true, true, true, true, true, true, true, true, true, true, true, true, false, false, false] rfl rfl (by kernel_rfl) (fun _ _ _ h => h) (Or.inr ⟨by rfl, rfl⟩) ?_ ?_
            rotate_left
            · simp only [Act.put, List.setIfInBounds_toArray, List.set_cons_zero, List.set_cons_succ, i64_w, i32_w]
              rfl
            refine pure_ (i := 14) (N := some 65) (v := undef) (a' := ?_) #[true, true, true, true, true, true, true, true, true, true, true, true, true, true, true, false, false] rfl rfl (by kernel_rfl) (fun _ _ _ h => h) (Or.inr ⟨by rfl, rfl⟩) ?_ ?_
            rotate_left
            · simp only [Act.put, List.setIfInBounds_toArray, List.set_cons_zero, List.set_cons_succ, i64_w, i32_w]
              rfl
            refine pure_ (i := 15) (N := some 66) (v := undef) (a' := ?_) #[true, true, true, true, true, true, true, true, true, true, true, true, true, true, true, true, false] rfl rfl (by kernel_rfl) (fun _ _ _ h => h) (Or.inr ⟨by rfl, rfl⟩) ?_ ?_
            rotate_left
            · simp only [Act.put, List.setIfInBounds_toArray, List.set_cons_zero, List.set_cons_succ, i64_w, i32_w]
              rfl
            refine pure_ (i := 16) (N := some 67) (v := ?_) (a' := ?_) #[true, true, true, true, true, true, true, true, true, true, true, true, true, true, true, true, true] rfl rfl (by kernel_rfl) (fun _ _ _ h => h) (Or.inl ⟨by rfl, ?_⟩) ?_ ?_
            rotate_left
            · intro w'
              go_simp
              with_reducible rfl
            rotate_left
            · simp only [Act.put, List.setIfInBounds_toArray, List.set_cons_zero, List.set_cons_succ, i64_w, i32_w]
              rfl
            refine done_ (by kernel_rfl) ?_
            go_wp2_with fail
            go_meet
            case rel => exact ⟨congrArg Value.bool x5.symm, ⟨below_drew1 (Below.refl _ _)⟩⟩
        case rest =>
          obtain ⟨rfl, HBD⟩ := hcut
          obtain ⟨w2, ew2⟩ : ∃ w2 : World, w2 = wc := ⟨_, rfl⟩
          subst ew2
          go_upto_if 67 with fail
          have HBK2 := Aside0.mk ((HBD.out.block _ (blk_lt HBK.out)).trans HBK.out)
          have HB2 : Aside0 (Below w0.heap.size w0 w2) := ⟨HB1.out.trans (HBD.out.mono HB1.out.size)⟩
          have HA2 := Aside0.mk (Kd.R_below HA.out HBD.out)
          have HBW2 : Aside0 (Below W.heap.size W w2) := ⟨HBW.out.trans (HBD.out.mono HBW.out.size)⟩
          clear HBK HB1 HA HBW HBD
          go_cut [10] from 16 (fun s10 wc => s10 = .int .i64 (dK L at_ n) ∧ Aside0 (Below w2.heap.size w2 wc))
          case first =>
            by_cases hc : at_ < L.length ∧ at_ < 60
            · have x5 : decide (at_ < L.length ∧ at_ < 60) = true := decide_eq_true hc
              have hk : dK L at_ n = Int.tmod (L.getD at_ 0) (n : Int) := by unfold dK; rw [if_pos hc.1, if_pos hc.2]
              have HKD := Aside0.mk hk
              have q5 : Aside0 (w2.cell? ⟨DB, 5, none⟩ = some (.slice AL L.length cL)) := ⟨(blk_cell HBK2.out 5).trans rfl⟩
              have q6 : Aside0 (w2.cell? ⟨DB, 6, none⟩ = some (.int .i64 (at_ : Int))) := ⟨(blk_cell HBK2.out 6).trans rfl⟩
              obtain ⟨ad, ead, hcell⟩ := Kd.at_int (Kd.C_below HL.out HB2.out) (at_ : Int) (by omega) (by have := hc.1; omega)
              have hx := HU.out (L.getD at_ 0) (by rw [List.getD_eq_getElem?_getD, List.getElem?_eq_getElem hc.1]; exact List.getElem_mem _)
              rw [show rd L (at_ : Int) = L.getD at_ 0 from rfl, Int.toNat_natCast] at hcell
              generalize L.getD at_ 0 = x at hcell hx HKD
              have hw3 : IntKind.i64.wrap x = x := by rw [IntKind.wrap_i64]; omega
              have hw4 : IntKind.i64.wrap (x.tmod n) = x.tmod n := by
                have h1 := Int.tmod_nonneg (n : Int) hx.1
                have h2 := Int.tmod_lt_of_pos x (show (0 : Int) < n by have := HN0.out; omega)
                have h3 := HALN.out
                have h4 := HP2.out
                have h5 := EN.out
                rw [IntKind.wrap_i64]; omega
              have p0 : (0 ≤ (at_ : Int)) = True := eq_true (by omega)
              have p1 : ((at_ : Int) < (L.length : Int)) = True := eq_true (by have := hc.1; omega)
              have p2 : (at_ < L.length) = True := eq_true hc.1
              have p3 : (n = 0) = False := eq_false (by have := HN0.out; omega)
              have p4 : ((n : Int) = 0) = False := eq_false (by have := HN0.out; omega)
              cases ead
              clear hx hk hc
              rw [x5]
              go_upto_region 11 with fail
              refine start_ (n := 15) (S := fun w' => w'.cell? ⟨DB, 5, none⟩ = some (.slice (some ad) L.length cL) ∧ w'.cell? ⟨DB, 6, none⟩ = some (.int .i64 (at_ : Int)) ∧ w'.cell? (ad.add at_) = some (.int .u8 x)) (ds := []) #[false, false, false, false, false, false, false, false, false, false, false, false, false, false, false] (by kernel_rfl) rfl rfl ⟨q5.out, q6.out, hcell⟩ (fun hHeld => ?_)
              refine pure_ (i := 0) (N := some 68) (v := ?_) (a' := ?_) #[true, false, false, false, false, false, false, false, false, false, false, false, false, false, false] rfl rfl (by kernel_rfl) (fun _ _ _ h => h) (Or.inl ⟨by rfl, ?_⟩) ?_ ?_
              rotate_left
              · intro w'
                go_simp
                with_reducible rfl
              rotate_left
              · simp only [Act.put, List.setIfInBounds_toArray, List.set_cons_zero, List.set_cons_succ, i64_w, i32_w]
                rfl
              refine pure_ (i := 1) (N := some 69) (v := ?_) (a' := ?_) #[true, true, false, false, false, false, false, false, false, false, false, false, false, false, false] rfl rfl (by kernel_rfl) (fun _ _ _ h => h) (Or.inl ⟨by rfl, ?_⟩) ?_ ?_
              rotate_left
              · intro w'
                go_simp
                with_reducible rfl
              rotate_left
              · simp only [Act.put, List.setIfInBounds_toArray, List.set_cons_zero, List.set_cons_succ, i64_w, i32_w]
                rfl
              refine pure_ (i := 2) (N := some 70) (v := ?_) (a' := ?_) #[true, true, true, false, false, false, false, false, false, false, false, false, false, false, false] rfl rfl (by kernel_rfl) (fun _ _ _ h => h) (Or.inl ⟨by rfl, ?_⟩) ?_ ?_
              rotate_left
              · intro w'
                go_simp
                with_reducible rfl
              rotate_left
              · simp only [Act.put, List.setIfInBounds_toArray, List.set_cons_zero, List.set_cons_succ, i64_w, i32_w]
                rfl
              refine pure_ (i := 4) (N := some 72) (v := ?_) (a' := ?_) #[true, true, true, false, true, false, false, false, false, false, false, false, false, false, false] rfl rfl (by kernel_rfl) (fun _ _ _ h => h) (Or.inl ⟨by rfl, ?_⟩) ?_ ?_
              rotate_left
              · intro w'
                go_simp
                with_reducible rfl
              rotate_left
              · simp only [Act.put, List.setIfInBounds_toArray, List.set_cons_zero, List.set_cons_succ, i64_w, i32_w]
                rfl
              refine pure_ (i := 5) (N := some 73) (v := ?_) (a' := ?_) #[true, true, true, false, true, true, false, false, false, false, false, false, false, false, false] rfl rfl (by kernel_rfl) (fun _ _ _ h => h) (Or.inl ⟨by rfl, ?_⟩) ?_ ?_
              rotate_left
              · intro w'
                go_simp
                with_reducible rfl
              rotate_left
              · simp only [Act.put, List.setIfInBounds_toArray, List.set_cons_zero, List.set_cons_succ, i64_w, i32_w]
                rfl
              refine pure_ (i := 6) (N := some 74) (v := ?_) (a' := ?_) #[true, true, true, false, true, true, true, false, false, false, false, false, false, false, false] rfl rfl (by kernel_rfl) (fun _ _ _ h => h) (Or.inl ⟨by rfl, ?_⟩) ?_ ?_
              rotate_left
              · intro w'
                go_simp
                with_reducible rfl
              rotate_left
              · simp only [Act.put, List.setIfInBounds_toArray, List.set_cons_zero, List.set_cons_succ, i64_w, i32_w]
                rfl
              refine pure_ (i := 11) (N := some 79) (v := ?_) (a' := ?_) #[true, true, true, false, true, true, true, false, false, false, false, true, false, false, false] rfl rfl (by kernel_rfl) (fun _ _ _ h => h) (Or.inl ⟨by rfl, ?_⟩) ?_ ?_
              rotate_left
              · intro w'
                go_simp
                with_reducible rfl
              rotate_left
              · simp only [Act.put, List.setIfInBounds_toArray, List.set_cons_zero, List.set_cons_succ, i64_w, i32_w]
                rfl
              refine pure_ (i := 12) (N := some 80) (v := ?_) (a' := ?_) #[true, true, true, false, true, true, true, false, false, false, false, true, true, false, false] rfl rfl (by kernel_rfl) (fun _ _ _ h => h) (Or.inl ⟨by rfl, ?_⟩) ?_ ?_
              rotate_left
              · intro w'
                go_simp
                with_reducible rfl
              rotate_left
              · simp only [Act.put, List.setIfInBounds_toArray, List.set_cons_zero, List.set_cons_succ, i64_w, i32_w]
                rfl
              refine take_ (i := 3) (N := some 71) (v := ?_) (a' := ?_) #[true, true, true, true, true, true, true, false, false, false, false, true, true, false, false] rfl rfl (by kernel_rfl) (fun _ _ _ h => h) (Or.inl ⟨by rfl, ?_⟩) hHeld ?_ ?_
              rotate_left
              · rintro w' ⟨s0, s1, s2⟩
                go_simp
                with_reducible rfl
              rotate_left
              · simp only [Act.put, List.setIfInBounds_toArray, List.set_cons_zero, List.set_cons_succ, i64_w, i32_w]
                rfl
              refine take_ (i := 7) (N := some 75) (v := ?_) (a' := ?_) #[true, true, true, true, true, true, true, true, false, false, false, true, true, false, false] rfl rfl (by kernel_rfl) (fun _ _ _ h => h) (Or.inl ⟨by rfl, ?_⟩) hHeld ?_ ?_
              rotate_left
              · rintro w' ⟨s0, s1, s2⟩
                go_simp
                with_reducible rfl
              rotate_left
              · simp only [Act.put, List.setIfInBounds_toArray, List.set_cons_zero, List.set_cons_succ, i64_w, i32_w]
                rfl
              refine pure_ (i := 8) (N := some 76) (v := ?_) (a' := ?_) #[true, true, true, true, true, true, true, true, true, false, false, true, true, false, false] rfl rfl (by kernel_rfl) (fun _ _ _ h => h) (Or.inl ⟨by rfl, ?_⟩) ?_ ?_
              rotate_left
              · intro w'
                go_simp
                with_reducible rfl
              rotate_left
              · simp only [Act.put, List.setIfInBounds_toArray, List.set_cons_zero, List.set_cons_succ, i64_w, i32_w]
                rfl
              refine take_ (i := 9) (N := some 77) (v := ?_) (a' := ?_) #[true, true, true, true, true, true, true, true, true, true, false, true, true, false, false] rfl rfl (by kernel_rfl) (fun _ _ _ h => h) (Or.inl ⟨by rfl, ?_⟩) hHeld ?_ ?_
              rotate_left
              · rintro w' ⟨s0, s1, s2⟩
                go_simp
                with_reducible rfl
              rotate_left
              · simp only [Act.put, List.setIfInBounds_toArray, List.set_cons_zero, List.set_cons_succ, i64_w, i32_w]
                rfl
              refine pure_ (i := 10) (N := some 78) (v := ?_) (a' := ?_) #[true, true, true, true, true, true, true, true, true, true, true, true, true, false, false] rfl rfl (by kernel_rfl) (fun _ _ _ h => h) (Or.inl ⟨by rfl, ?_⟩) ?_ ?_
              rotate_left
              · intro w'
                go_simp
                with_reducible rfl
              rotate_left
              · simp only [Act.put, List.setIfInBounds_toArray, List.set_cons_zero, List.set_cons_succ, i64_w, i32_w]
                rfl
              refine pure_ (i := 13) (N := some 81) (v := ?_) (a' := ?_) #[true, true, true, true, true, true, true, true, true, true, true, true, true, true, false] rfl rfl (by kernel_rfl) (fun _ _ _ h => h) (Or.inl ⟨by rfl, ?_⟩) ?_ ?_
              rotate_left
              · intro w'
                go_simp
                with_reducible rfl
              rotate_left
              · simp only [Act.put, List.setIfInBounds_toArray, List.set_cons_zero, List.set_cons_succ, i64_w, i32_w]
                rfl
              refine pure_ (i := 14) (N := some 10) (v := ?_) (a' := ?_) #[true, true, true, true, true, true, true, true, true, true, true, true, true, true, true] rfl rfl (by kernel_rfl) (fun _ _ _ h => h) (Or.inl ⟨by rfl, ?_⟩) ?_ ?_
              rotate_left
              · intro w'
                go_simp
                with_reducible rfl
              rotate_left
              · simp only [Act.put, List.setIfInBounds_toArray, List.set_cons_zero, List.set_cons_succ, i64_w, i32_w]
                rfl
              refine done_ (by kernel_rfl) ?_
              go_wp2_with fail
              go_meet
              case rel => exact ⟨congrArg _ HKD.out.symm, ⟨below_drew1 (Below.refl _ _)⟩⟩
            · have x5 : decide (at_ < L.length ∧ at_ < 60) = false := decide_eq_false hc
              have hk : dK L at_ n = (n : Int) - 1 := by
                unfold dK
                split
                · split
                  · rename_i h1 h2; exact absurd ⟨h1, h2⟩ hc
                  · rfl
                · rfl
              rw [x5]
              clear hc
              go_wp2_with fail
              go_meet
              case rel => exact ⟨congrArg _ hk.symm, ⟨Below.refl _ _⟩⟩
          case rest =>
            obtain ⟨rfl, HBD⟩ := hcut
            obtain ⟨w3, ew3⟩ : ∃ w3 : World, w3 = wc := ⟨_, rfl⟩
            subst ew3
            have HBK3 := Aside0.mk ((HBD.out.block _ (blk_lt HBK2.out)).trans HBK2.out)
            have HB3 : Aside0 (Below w0.heap.size w0 w3) := ⟨HB2.out.trans (HBD.out.mono HB2.out.size)⟩
            have HA3 := Aside0.mk (Kd.R_below HA2.out HBD.out)
            have HBW3 : Aside0 (Below W.heap.size W w3) := ⟨HBW2.out.trans (HBD.out.mono HBW2.out.size)⟩
            clear HBK2 HB2 HA2 HBW2 HBD
            have q6 : w3.cell? ⟨DB, 6, none⟩ = some (.int .i64 (at_ : Int)) := (blk_cell HBK3.out 6).trans rfl
            have f6 := blk_frozen HBK3.out 6
            have hw5 : IntKind.i64.wrap ((at_ : Int) + 1) = (at_ : Int) + 1 := by rw [IntKind.wrap_i64]; have := HLIM.out; omega
            go_upto_region 14 with fail
            have HK4 : Aside0 (Kept w3 (w3.setCell ⟨DB, 6, none⟩ (.int .i64 ((at_ : Int) + 1))) (fun k => k = DB)) := ⟨Kept.setCell (Kept.refl w3 (fun k => k = DB)) (p := ⟨DB, 6, none⟩) (.inl rfl) _⟩
            have HBK4 : Aside0 ((w3.setCell ⟨DB, 6, none⟩ (.int .i64 ((at_ : Int) + 1))).heap[DB]? = some (derObj A0 n0 c0 A1 n1 c1 a2 a3 A4 ps.length c4 AL L.length cL (at_ + 1))) := ⟨blk_put HBK3.out 6 _ rfl⟩
            have HB4 : Aside0 (Below w0.heap.size w0 (w3.setCell ⟨DB, 6, none⟩ (.int .i64 ((at_ : Int) + 1)))) := ⟨HB3.out.setCell (p := ⟨DB, 6, none⟩) HDB.out _⟩
            have HA4 := Aside0.mk (Kd.R_kept (Kd.R_mono (ok' := fun k => W.heap.size ≤ k) (Kd.R_bound HA3.out) (fun k hk => hk.2.1)) HK4.out (fun k hk h => by have := HDBW.out; omega))
            have HKW4 := Aside0.mk (Kept.then_ (Kept.of_below HBW3.out (fun k => k = DB)) HK4.out (fun k hk => .inl hk))
            generalize w3.setCell ⟨DB, 6, none⟩ (.int .i64 ((at_ : Int) + 1)) = w4 at HK4 HBK4 HB4 HA4 HKW4 ⊢
            clear HK4 HBK3 HB3 HA3 HBW3 q6 f6 hw5
            have hkk := dK_lt HU.out at_ HN0.out
            generalize dK L at_ n = kk at hkk HRES2 ⊢
            have hln := EN.out
            obtain ⟨ad8, ead8, hc8⟩ := Kd.at_int (Kd.R_reads' HA4.out).2.2 kk hkk.1 (by omega)
            have hx := HMEM.out (all.getD kk.toNat 0) (by rw [List.getD_eq_getElem?_getD, List.getElem?_eq_getElem (show kk.toNat < all.length by omega)]; exact List.getElem_mem _)
            rw [show rd all kk = all.getD kk.toNat 0 from rfl] at hc8
            generalize all.getD kk.toNat 0 = x at hx hc8 HRES2
            obtain ⟨ad, A5, c5, ead, _, e1, _, hC5⟩ := at_T34 (Kd.C_below HPS.out HB4.out) x hx.1 hx.2
            obtain ⟨ad', A5', c5', ead', _, e1', hle5, hC50⟩ := at_T34 HPS.out x hx.1 hx.2
            cases ead8
            cases ead
            cases ead'
            have e1'' := ((HB4.out.cell (World.block_lt_of_cell? w0 _ e1')).trans e1').symm.trans e1
            injection e1'' with e1''
            injection e1'' with ea5 _ ec5
            subst ea5
            have hmem : rd_T34 ps x ∈ ps := by
              show ps.getD x.toNat _ ∈ ps
              rw [List.getD_eq_getElem?_getD, List.getElem?_eq_getElem (show x.toNat < ps.length by omega)]; exact List.getElem_mem _
            have HR10 := Aside0.mk (HR.out _ hmem)
            have HC5 := Aside0.mk hC50
            generalize rd_T34 ps x = p at HR10 HC5 e1 HRES2 hle5
            obtain ⟨left, r⟩ := p
            simp only at HR10 HC5 e1 HRES2 hle5
            have HE1 := Aside0.mk e1
            have HC8 := Aside0.mk hc8
            have HQ4 : Aside0 (w4.cell? ⟨DB, 4, none⟩ = some (.slice (some ad) ps.length c4)) := ⟨(blk_cell HBK4.out 4).trans rfl⟩
            have p0 : (0 ≤ kk) = True := eq_true hkk.1
            have p1 : (kk < (n : Int)) = True := eq_true hkk.2
            have p2 : (0 ≤ x) = True := eq_true hx.1
            have p3 : (x < (ps.length : Int)) = True := eq_true hx.2
            clear hkk hx hln hmem e1 hc8 hC5 e1' hle5 ec5 hC50
            refine start_ (n := 13) (S := fun w' => w'.cell? ⟨DB, 4, none⟩ = some (.slice (some ad) ps.length c4) ∧ w'.cell? (ad8.add kk.toNat) = some (.int .i64 x) ∧ w'.cell? ⟨(ad.add (x.toNat * 2)).block, (ad.add (x.toNat * 2)).off + 1, none⟩ = some (.slice A5' r.length c5)) (ds := []) #[false, false, false, false, false, false, false, false, false, false, false, false, false] (by kernel_rfl) rfl rfl ⟨HQ4.out, HC8.out, HE1.out⟩ (fun hHeld => ?_)
            refine pure_ (i := 0) (N := some 89) (v := ?_) (a' := ?_) #[true, false, false, false, false, false, false, false, false, false, false, false, false] rfl rfl (by kernel_rfl) (fun _ _ _ h => h) (Or.inl ⟨by rfl, ?_⟩) ?_ ?_
            rotate_left
            · intro w'
              go_simp
              with_reducible rfl
            rotate_left
            · simp only [Act.put, List.setIfInBounds_toArray, List.set_cons_zero, List.set_cons_succ, i64_w, i32_w]
              rfl
            refine pure_ (i := 1) (N := some 90) (v := ?_) (a' := ?_) #[true, true, false, false, false, false, false, false, false, false, false, false, false] rfl rfl (by kernel_rfl) (fun _ _ _ h => h) (Or.inl ⟨by rfl, ?_⟩) ?_ ?_
            rotate_left
            · intro w'
              go_simp
              with_reducible rfl
            rotate_left
            · simp only [Act.put, List.setIfInBounds_toArray, List.set_cons_zero, List.set_cons_succ, i64_w, i32_w]
              rfl
            refine pure_ (i := 2) (N := some 91) (v := ?_) (a' := ?_) #[true, true, true, false, false, false, false, false, false, false, false, false, false] rfl rfl (by kernel_rfl) (fun _ _ _ h => h) (Or.inl ⟨by rfl, ?_⟩) ?_ ?_
            rotate_left
            · intro w'
              go_simp
              with_reducible rfl
            rotate_left
            · simp only [Act.put, List.setIfInBounds_toArray, List.set_cons_zero, List.set_cons_succ, i64_w, i32_w]
              rfl
            refine pure_ (i := 3) (N := some 92) (v := ?_) (a' := ?_) #[true, true, true, true, false, false, false, false, false, false, false, false, false] rfl rfl (by kernel_rfl) (fun _ _ _ h => h) (Or.inl ⟨by rfl, ?_⟩) ?_ ?_
            rotate_left
            · intro w'
              go_simp
              with_reducible rfl
            rotate_left
            · simp only [Act.put, List.setIfInBounds_toArray, List.set_cons_zero, List.set_cons_succ, i64_w, i32_w]
              rfl
            refine pure_ (i := 5) (N := some 94) (v := ?_) (a' := ?_) #[true, true, true, true, false, true, false, false, false, false, false, false, false] rfl rfl (by kernel_rfl) (fun _ _ _ h => h) (Or.inl ⟨by rfl, ?_⟩) ?_ ?_
            rotate_left
            · intro w'
              go_simp
              with_reducible rfl
            rotate_left
            · simp only [Act.put, List.setIfInBounds_toArray, List.set_cons_zero, List.set_cons_succ, i64_w, i32_w]
              rfl
            refine pure_ (i := 6) (N := some 95) (v := ?_) (a' := ?_) #[true, true, true, true, false, true, true, false, false, false, false, false, false] rfl rfl (by kernel_rfl) (fun _ _ _ h => h) (Or.inl ⟨by rfl, ?_⟩) ?_ ?_
            rotate_left
            · intro w'
              go_simp
              with_reducible rfl
            rotate_left
            · simp only [Act.put, List.setIfInBounds_toArray, List.set_cons_zero, List.set_cons_succ, i64_w, i32_w]
              rfl
            refine pure_ (i := 7) (N := some 96) (v := ?_) (a' := ?_) #[true, true, true, true, false, true, true, true, false, false, false, false, false] rfl rfl (by kernel_rfl) (fun _ _ _ h => h) (Or.inl ⟨by rfl, ?_⟩) ?_ ?_
            rotate_left
            · intro w'
              go_simp
              with_reducible rfl
            rotate_left
            · simp only [Act.put, List.setIfInBounds_toArray, List.set_cons_zero, List.set_cons_succ, i64_w, i32_w]
              rfl
            refine take_ (i := 4) (N := some 93) (v := ?_) (a' := ?_) #[true, true, true, true, true, true, true, true, false, false, false, false, false] rfl rfl (by kernel_rfl) (fun _ _ _ h => h) (Or.inl ⟨by rfl, ?_⟩) hHeld ?_ ?_
            rotate_left
            · rintro w' ⟨s0, s1, s2⟩
              go_simp
              with_reducible rfl
            rotate_left
            · simp only [Act.put, List.setIfInBounds_toArray, List.set_cons_zero, List.set_cons_succ, i64_w, i32_w]
              rfl
            refine take_ (i := 8) (N := some 97) (v := ?_) (a' := ?_) #[true, true, true, true, true, true, true, true, true, false, false, false, false] rfl rfl (by kernel_rfl) (fun _ _ _ h => h) (Or.inl ⟨by rfl, ?_⟩) hHeld ?_ ?_
            rotate_left
            · rintro w' ⟨s0, s1, s2⟩
              go_simp
              with_reducible rfl
            rotate_left
            · simp only [Act.put, List.setIfInBounds_toArray, List.set_cons_zero, List.set_cons_succ, i64_w, i32_w]
              rfl
            refine pure_ (i := 9) (N := some 98) (v := ?_) (a' := ?_) #[true, true, true, true, true, true, true, true, true, true, false, false, false] rfl rfl (by kernel_rfl) (fun _ _ _ h => h) (Or.inl ⟨by rfl, ?_⟩) ?_ ?_
            rotate_left
            · intro w'
              go_simp
              with_reducible rfl
            rotate_left
            · simp only [Act.put, List.setIfInBounds_toArray, List.set_cons_zero, List.set_cons_succ, i64_w, i32_w]
              rfl
            refine pure_ (i := 10) (N := some 99) (v := ?_) (a' := ?_) #[true, true, true, true, true, true, true, true, true, true, true, false, false] rfl rfl (by kernel_rfl) (fun _ _ _ h => h) (Or.inl ⟨by rfl, ?_⟩) ?_ ?_
            rotate_left
            · intro w'
              go_simp
              with_reducible rfl
            rotate_left
            · simp only [Act.put, List.setIfInBounds_toArray, List.set_cons_zero, List.set_cons_succ, i64_w, i32_w]
              rfl
            refine take_ (i := 11) (N := some 100) (v := ?_) (a' := ?_) #[true, true, true, true, true, true, true, true, true, true, true, true, false] rfl rfl (by kernel_rfl) (fun _ _ _ h => h) (Or.inl ⟨by rfl, ?_⟩) hHeld ?_ ?_
            rotate_left
            · rintro w' ⟨s0, s1, s2⟩
              go_simp
              with_reducible rfl
            rotate_left
            · simp only [Act.put, List.setIfInBounds_toArray, List.set_cons_zero, List.set_cons_succ, i64_w, i32_w]
              rfl
            refine pure_ (i := 12) (N := some 12) (v := ?_) (a' := ?_) #[true, true, true, true, true, true, true, true, true, true, true, true, true] rfl rfl (by kernel_rfl) (fun _ _ _ h => h) (Or.inl ⟨by rfl, ?_⟩) ?_ ?_
            rotate_left
            · intro w'
              go_simp
              with_reducible rfl
            rotate_left
            · simp only [Act.put, List.setIfInBounds_toArray, List.set_cons_zero, List.set_cons_succ, i64_w, i32_w]
              rfl
            refine done_ (by kernel_rfl) ?_
            have HB5 : Aside0 (Below w0.heap.size w0 w4.drew) := ⟨below_drew1 HB4.out⟩
            have HKW5 : Aside0 (Kept W w4.drew (fun k => k = DB)) := ⟨Kept.drew HKW4.out⟩
            have HBK5 : Aside0 (w4.drew.heap[DB]? = some (derObj A0 n0 c0 A1 n1 c1 a2 a3 (some ad) ps.length c4 AL L.length cL (at_ + 1))) := ⟨HBK4.out⟩
            generalize w4.drew = w5 at HB5 HKW5 HBK5 ⊢
            clear HA4 HC8 HE1 HQ4 HB4 HBK4 HKW4
            go_wp2
            go_loopg [11, 13, 14, 15] r.length (fun kq v11 v13 v14 v15 wr => ∃ (j at2 : Nat) (out : List Int), v13 = .int .i64 (j : Int) ∧ j ≤ r.length ∧ r.length - j ≤ kq ∧ Aside0 (out.length ≤ 60 + j) ∧ Aside0 (at2 ≤ at_ + 1 + j * B) ∧ Aside0 (drvL nxt (r.drop j) out at2 = res) ∧ Aside0 (wr.heap[DB]? = some (derObj A0 n0 c0 A1 n1 c1 a2 a3 (some ad) ps.length c4 AL L.length cL at2)) ∧ Aside0 (Kept W wr (fun k => k = DB)) ∧ Aside0 (Below w0.heap.size w0 wr) ∧ Aside0 (Kd.R (Kd.int .i64) 3 wr W.heap.size (fun _ => True) v11 out))
            case atStart => exact ⟨0, at_ + 1, [], rfl, by omega, by omega, ⟨by simp⟩, ⟨by omega⟩, ⟨by simpa using HRES2.out.symm⟩, HBK5, HKW5, HB5, ⟨Kd.R_nil _ _ _ _ _⟩⟩
            case round =>
              clear HBK5 HKW5 HB5 HRES2
              obtain ⟨j, at2, out, rfl, hj, hm, HOL, HAT2, HDR, HBK5, HKW5, HB5, HO⟩ := hrel
              by_cases hlt : j < r.length
              · have d0 : decide (j < r.length) = true := decide_eq_true hlt
                have d1 : (j < r.length) = True := eq_true hlt
                have H := HDR.out
                rw [List.drop_eq_getElem_cons hlt] at H
                simp only [drvL] at H
                obtain ⟨ad5, ea5, e0, e1⟩ := at_T49 (Kd.C_below HC5.out HB5.out) (j : Int) (by omega) (by omega)
                cases ea5
                have hrd : rd_T49 r (j : Int) = r[j] := by simp [rd_T49, hlt]
                rw [hrd] at e0 e1
                rw [Int.toNat_natCast] at e0 e1
                generalize r[j] = y at H e0 e1
                obtain ⟨tk, x5⟩ := y
                simp only at H e0 e1
                have p5 : (0 ≤ (j : Int)) = True := eq_true (by omega)
                have p6 : ((j : Int) < (r.length : Int)) = True := eq_true (by omega)
                have hwj : IntKind.i64.wrap ((j : Int) + 1) = (j : Int) + 1 := by rw [IntKind.wrap_i64]; have := HR10.out; omega
                have HLT := Aside0.mk hlt
                have HM := Aside0.mk hm
                have HSW : Aside0 (W.heap.size ≤ wr.heap.size) := ⟨HKW5.out.1⟩
                clear hlt hm hj hrd HDR
                cases tk with
                | true =>
                  rw [if_pos rfl] at H
                  have HD2 := Aside0.mk H
                  clear H
                  go_wp2_with (first | ((with_reducible refine gate_builtin (b := .append) (xs := #[.tmp 112, .tmp 118]) rfl ?_); at_builtin; refine Kd.R_append (Kd.int .i64) (w0 := wr) W.heap.size rfl (.tmp 112) (.tmp 118) 39 3 (.int .i64 0) 8 rfl Try.underlying39 diInt rfl (by decide) (by omega) u11 out x5 [.int .i64 x5] (fun _ => True) (fun _ => False) rfl rfl rfl (fun _ hk => hk.elim) (fun _ _ => trivial) HO.out (Below.refl _ _) HSW.out (by have := HOL.out; have := HR10.out; have := HLT.out; omega) ?_; intro v1 w6 ho hb hg hat; have HO6 := Aside0.mk ho; have HBK6 := Aside0.mk ((hb.block DB HDBW.out).trans HBK5.out); have HKW6 := Aside0.mk (kept_step HKW5.out hb); have HB6 : Aside0 (Below w0.heap.size w0 w6) := ⟨HB5.out.trans (hb.mono HB.out.size)⟩; clear ho hb hg hat))
                  go_roundg (r.length - (j + 1))
                  case measure => have := HM.out; have := HLT.out; omega
                  case rel => exact ⟨j + 1, at2, out ++ [x5], rfl, by have := HLT.out; omega, Nat.le_refl _, ⟨by have := HOL.out; simp; omega⟩, ⟨by have := HAT2.out; rw [Nat.succ_mul]; omega⟩, HD2, HBK6, HKW6, HB6, HO6⟩
                | false =>
                  rw [if_neg (by simp)] at H
                  have hjB : (j + 1) * B ≤ 10 * B := Nat.mul_le_mul_right _ (by have := HLT.out; have := HR10.out; omega)
                  rw [Nat.succ_mul] at hjB
                  have P6 := Aside0.mk (HREC2.out x5 at2 wr (by have := HAT2.out; have := HLIM.out; omega) HB5.out HBK5.out)
                  have hna := HN.out x5 at2
                  have hwd : IntKind.i64.wrap ((deep : Int) + 1) = (deep : Int) + 1 := by rw [IntKind.wrap_i64]; have := HDEEP.out; omega
                  generalize nxt x5 at2 = q at H P6 hna
                  obtain ⟨⟨lq, okq⟩, aq⟩ := q
                  simp only at H hna
                  have HNA := Aside0.mk hna
                  have HH := Aside0.mk H
                  clear H hna hjB
                  go_upto_region 21 with (first | (go_at_call 13; (with_reducible refine P6.out.mono ?_); rintro e w6 ⟨v6, rfl, HR6, HBK6, HK6, HB6⟩; clear P6))
                  have HO6 := Aside0.mk (Kd.R_kept (Kd.R_mono (ok' := fun k => W.heap.size ≤ k) (Kd.R_bound HO.out) (fun k hk => hk.2.1)) HK6.out (fun k hk h => by have := HDBW.out; omega))
                  have HKW6 := Aside0.mk (Kept.then_ HKW5.out HK6.out (fun k hk => .inl hk))
                  have H := HH.out
                  obtain ⟨A6, m6, c6, rfl⟩ : ∃ A n c, v6 = .slice A n c := by obtain ⟨A, c, e⟩ := Kd.R_slice HR6.out; exact ⟨A, _, c, e⟩
                  obtain ⟨A11, m11, c11, rfl⟩ : ∃ A n c, u11 = .slice A n c := by obtain ⟨A, c, e⟩ := Kd.R_slice HO6.out; exact ⟨A, _, c, e⟩
                  have hm6 := (Kd.R_reads' HR6.out).1
                  have hm11 := (Kd.R_reads' HO6.out).1
                  have HSW6 : Aside0 (W.heap.size ≤ w6.heap.size) := ⟨HKW6.out.1⟩
                  have hwm : IntKind.i64.wrap ((m11 : Int) + (m6 : Int)) = (m11 : Int) + (m6 : Int) := by rw [IntKind.wrap_i64]; have := HOL.out; have := HNA.out.2; have := HR10.out; have := HLT.out; omega
                  have HM6 := Aside0.mk hm6
                  have HM11 := Aside0.mk hm11
                  clear HO HKW5 HBK5 HB5 HH hm6 hm11 e0 e1
                  cases okq with
                  | false =>
                    rw [if_neg (by simp)] at H
                    subst H
                    go_wp2
                    go_ret2
                    exact ⟨_, rfl, ⟨Kd.R_nil _ _ _ _ _⟩, HBK6, HKW6, HB6⟩
                  | true =>
                    rw [if_pos rfl] at H
                    by_cases hs : out.length + lq.length > 60
                    · rw [if_pos hs] at H
                      subst H
                      have s0 : 60 < m11 + m6 := by have := HM6.out; have := HM11.out; omega
                      have s1 : decide ((m11 : Int) + (m6 : Int) > 60) = true := decide_eq_true (by omega)
                      have s2 : ((60 : Int) < (m11 : Int) + (m6 : Int)) = True := eq_true (by omega)
                      clear hs
                      go_wp2
                      go_ret2
                      exact ⟨_, rfl, ⟨Kd.R_nil _ _ _ _ _⟩, HBK6, HKW6, HB6⟩
                    · rw [if_neg hs] at H
                      have HD2 := Aside0.mk H
                      have HSL : Aside0 (out.length + lq.length ≤ 60) := ⟨by omega⟩
                      have s0 : ¬ 60 < m11 + m6 := by have := HM6.out; have := HM11.out; omega
                      have s1 : decide ((m11 : Int) + (m6 : Int) > 60) = false := decide_eq_false (by omega)
                      have s2 : ((60 : Int) < (m11 : Int) + (m6 : Int)) = False := eq_false (by omega)
                      clear hs H
                      go_wp2_with (first | ((with_reducible refine gate_builtin (b := .append) (xs := #[.tmp 142, .tmp 143]) rfl ?_); at_builtin; refine Kd.R_append_rows (Kd.int .i64) (Rr := (Kd.int .i64).K w6) (w0 := w6) W.heap.size rfl (.tmp 142) (.tmp 143) 39 3 (.int .i64 0) 8 rfl Try.underlying39 diInt rfl (by decide) (by omega) (.slice A11 m11 c11) out lq A6 m6 c6 (fun _ => True) (fun _ => False) rfl rfl (Kd.R_mono HO6.out (fun _ _ => trivial)) (by have h := (Kd.R_reads' HR6.out).2.2; rw [← HM6.out] at h; exact h) (fun _ _ h => h) (fun _ h => h.elim) (fun _ _ => trivial) (Below.refl _ _) HSW6.out (by have := HM6.out; have := HSL.out; omega) ?_; intro v1 w7 ho hb hg hat; have HO7 := Aside0.mk ho; have HBK7 := Aside0.mk ((hb.block DB HDBW.out).trans HBK6.out); have HKW7 := Aside0.mk (kept_step HKW6.out hb); have HB7 : Aside0 (Below w0.heap.size w0 w7) := ⟨HB6.out.trans (hb.mono HB.out.size)⟩; clear ho hb hg hat))
                      go_roundg (r.length - (j + 1))
                      case measure => have := HM.out; have := HLT.out; omega
                      case rel => exact ⟨j + 1, aq, out ++ lq, rfl, by have := HLT.out; omega, Nat.le_refl _, ⟨by have := HSL.out; simp; omega⟩, ⟨by have := HAT2.out; have := HNA.out.1; rw [Nat.succ_mul]; omega⟩, HD2, HBK7, HKW7, HB7, HO7⟩
              · obtain rfl : j = r.length := by omega
                have H := HDR.out
                rw [List.drop_length] at H
                simp only [drvL] at H
                subst H
                clear hlt HDR
                go_wp2
                go_ret2
                exact ⟨_, rfl, HO, HBK5, HKW5, HB5⟩
theorem derive_any (ps : List S34) (L : List Int) (w0 : World) (DB : Nat) (A0 : Option Addr) (n0 c0 : Nat) (A1 : Option Addr) (n1 c1 : Nat) (a2 a3 : Int) (A4 : Option Addr) (c4 : Nat) (AL : Option Addr) (cL : Nat) (hDB : w0.heap.size ≤ DB) (hps : Kd.C k34 w0 A4 ps.length ps) (hL : Kd.C (Kd.int .u8) w0 AL L.length L) (hu : ∀ x ∈ L, 0 ≤ x ∧ x ≤ 255) (hr : ∀ p ∈ ps, p.f1.length ≤ 10) (hps2 : ps.length ≤ 1000000) : ∀ (f : Nat) (rule : Int) (deep at_ : Nat) (W : World),
    12 ≤ deep + f → deep ≤ 12 → at_ + 11 ^ f ≤ 1125899906842624 → Below w0.heap.size w0 W → W.heap[DB]? = some (derObj A0 n0 c0 A1 n1 c1 a2 a3 A4 ps.length c4 AL L.length cL at_) →
    Calls Try.prog 13 #[.pointer (some ⟨DB, 0, none⟩), .int .i64 rule, .int .i64 (deep : Int)] W (DerPost w0 W DB (derObj A0 n0 c0 A1 n1 c1 a2 a3 A4 ps.length c4 AL L.length cL) (drv ps L f rule deep at_))
  | 0, rule, deep, at_, W, h1, h2, h3, hB, hblk => by
    have hst : (dAll ps rule ps.length).length = 0 ∨ 10 < deep := .inr (by omega)
    exact derive_step ps L w0 DB A0 n0 c0 A1 n1 c1 a2 a3 A4 c4 AL cL hDB hps hL hu hr hps2 rule deep at_ W (by omega) hB hblk (fun _ a => (([], false), a)) 0 _ (by simp at h3; omega) (fun r a => ⟨by simp, by simp⟩) (by rw [if_pos hst]; rfl) (fun hn => absurd hst hn)
  | f + 1, rule, deep, at_, W, h1, h2, h3, hB, hblk => by
    have h5 : 1 ≤ 11 ^ f := Nat.one_le_pow _ _ (by decide)
    rw [Nat.pow_succ] at h3
    exact derive_step ps L w0 DB A0 n0 c0 A1 n1 c1 a2 a3 A4 c4 AL cL hDB hps hL hu hr hps2 rule deep at_ W (by omega) hB hblk (fun r a => drv ps L f r (deep + 1) a) (11 ^ f) _ (by omega) (fun r a => ⟨drv_at hr f r (deep + 1) a, drv_len hr f r (deep + 1) a⟩) (by rw [drv])
      (fun hn r a W' ha hB' hb' => by
        have hd : deep ≤ 10 := Nat.le_of_not_lt (fun h => hn (.inr h))
        exact derive_any ps L w0 DB A0 n0 c0 A1 n1 c1 a2 a3 A4 c4 AL cL hDB hps hL hu hr hps2 f r (deep + 1) a W' (by omega) (by omega) (by omega) hB' hb')
end Go.Proofs.Ytojdjjbkpbapfaa.P
end

section
namespace Go.Proofs.Ytojdjjbkpbapfaa.P
open Go.RowKit Go.Proofs.YtojdjjbkpbapfaaW.PrintWords Go.Proofs.YtojdjjbkpbapfaaW.PrintLast Go.Proofs.YtojdjjbkpbapfaaW.PrintMore Go.Proofs.Ytojdjjbkpbapfaa.H Go.Proofs.Ytojdjjbkpbapfaa.M
set_option linter.unusedVariables false
set_option linter.unusedSimpArgs false
theorem below_keptS {w3 w5 w7 w8 : World} {B : Nat} {S : Nat → Prop} (h : Below w5.heap.size w5 w7) (hk : Kept w7 w8 S) (hn : ∀ i, i < w5.heap.size → ¬ S i) (h5 : Below B w3 w5) (h8 : Below B w3 w8) : Below w5.heap.size w5 w8 :=
  ⟨h8.os.trans h5.os.symm, h8.tape.trans h5.tape.symm, h8.output.trans h5.output.symm, Nat.le_trans h.size hk.1, fun i hi => (hk.2 i (Nat.lt_of_lt_of_le hi h.size) (hn i hi)).trans (h.block i hi)⟩
theorem int_one (W : World) (q : Nat) (x : Int) : (Kd.int .i64).C (W.alloc (.cells #[.int .i64 x] q)) (some ⟨W.heap.size, 0, none⟩) 1 [x] := by
  refine ⟨rfl, by decide, fun _ => ⟨_, rfl, fun j p hj => ?_⟩⟩
  have hj0 : j = 0 := by
    have := (List.getElem?_eq_some_iff.1 hj).1
    simp at this
    exact this
  subst hj0
  obtain rfl : x = p := by simpa using hj
  refine ⟨[.int .i64 x], rfl, rfl, fun i u hi => ?_⟩
  have hi0 : i = 0 := by
    have := (List.getElem?_eq_some_iff.1 hi).1
    simp at this
    exact this
  subst hi0
  obtain rfl : Value.int .i64 x = u := by simpa using hi
  exact (blk_cell (heap_alloc_new W _) 0).trans rfl
set_option maxHeartbeats 4000000 in
set_option maxRecDepth 100000 in
theorem follow_walk (l m : List Int) (A0 : Option Addr) (c0 : Nat) (A1 : Option Addr) (c1 : Nat) (w : World) (hl : Kd.C (Kd.int .u8) w A0 l.length l) (hlc : l.length ≤ c0) (hmm : Kd.C (Kd.int .u8) w A1 m.length m) (hmc : m.length ≤ c1) (hwl : ∀ x ∈ l, (Lit.int .u8 x).wf = true) (hwm : ∀ x ∈ m, (Lit.int .u8 x).wf = true) :
    Calls Try.prog 6 #[.slice A0 l.length c0, .slice A1 m.length c1] w fun e w' => e = .returned (.bool true) ∧ Below w.heap.size w w' := by
  obtain ⟨ns, ts, ps, hm, hM⟩ := made_ev0 hwl
  have hu : ∀ x ∈ m, 0 ≤ x ∧ x ≤ 255 := fun x hx => wf_u8 (hwm x hx)
  obtain ⟨kF, hF⟩ := (Ev.val (follow_ev ns ts 0 0 ps hm.small (by have := hm.n5; omega) (by have := hm.t4; omega)) (if_pos hm.ok)).rounds
  have hn1 := hm.n1
  have hn5 := hm.n5
  have hsf := fst_sh ns.length ts.length (clo false ns.length ps) hm.ok
  have hso := fol_sh (clo false ns.length ps) hsf hm.ok
  have hend := fol_end hm.ok (clo false ns.length ps) hsf hn1
  have hbeh := fun (p : Prod) (hp : p ∈ ps) (pre : List Sym) (y x : Sym) (rest : List Sym) (e : p.f1 = pre ++ y :: x :: rest) (hy : y.f0 = false) (n : Nat) => behind_follows hm.ok hp e hy (n := n)
  have hfl : (idxs (fol ns.length ts.length (clo false ns.length ps) (fst ns.length ts.length (clo false ns.length ps) ps) ps)).length = ns.length := by rw [idxs, List.length_map, hso.1]
  have hfi : ∀ i : Nat, i < ns.length → (idxs (fol ns.length ts.length (clo false ns.length ps) (fst ns.length ts.length (clo false ns.length ps) ps) ps)).getD i [] = idx 0 ((fol ns.length ts.length (clo false ns.length ps) (fst ns.length ts.length (clo false ns.length ps) ps) ps).getD i []) := fun i hi => by
    have hlt : i < (fol ns.length ts.length (clo false ns.length ps) (fst ns.length ts.length (clo false ns.length ps) ps) ps).length := by rw [hso.1]; exact hi
    rw [idxs, List.getD_eq_getElem?_getD, List.getElem?_map, List.getD_eq_getElem?_getD, List.getElem?_eq_getElem hlt]; rfl
  generalize fol ns.length ts.length (clo false ns.length ps) (fst ns.length ts.length (clo false ns.length ps) ps) ps = fl at hF hso hend hbeh hfl hfi
  have HM := Aside0.mk hM
  have HMO := Aside0.mk hm
  have HF := Aside0.mk hF
  have HSO := Aside0.mk hso
  have HEND := Aside0.mk hend
  have HBEH := Aside0.mk hbeh
  have HUM := Aside0.mk hu
  have HFL := Aside0.mk hfl
  have HFI := Aside0.mk hfi
  have HL := Aside0.mk hl
  have HMM := Aside0.mk hmm
  have HLC := Aside0.mk hlc
  have HMC := Aside0.mk hmc
  have HN := Aside0.mk (And.intro hn1 hn5)
  clear hM hm hF hso hend hbeh hu hfl hfi hl hmm hlc hmc hn1 hn5 hwl hwm hsf
  go_enter Try.func6, Try.ntmps6
  go_upto_region 5 with (first
    | (go_at_call 9; (with_reducible refine (regletlaw13_awake.calls 40 true _ awake_some).mono ?_); rintro e w1 ⟨rfl, hb1⟩; have HB1 := Aside0.mk hb1; have P2 := Aside0.mk (regletlaw13_Made.calls 0 A0 c0 l ns ts 0 0 ps w1 (Kd.C_below HL.out hb1) HLC.out (HM.out 0)); clear hb1)
    | (go_at_call 12; (with_reducible refine P2.out.mono ?_); rintro e w2 ⟨v0, v1, v2, rfl, ho0, ho1, ho2, hb2⟩; obtain ⟨An, kn, rfl⟩ := Kd.R_slice ho0; obtain ⟨At, kt, rfl⟩ := Kd.R_slice ho1; obtain ⟨Ap, kp, rfl⟩ := Kd.S_slice ho2; have HB2 : Aside0 (Below w.heap.size w w2) := ⟨HB1.out.trans (hb2.mono HB1.out.size)⟩; have HON := Aside0.mk ((Kd.R_reads' ho0).2); have HOT := Aside0.mk ((Kd.R_reads' ho1).2); have HOP := Aside0.mk ((Kd.S_reads' ho2).2); clear ho0 ho1 ho2 hb2 P2))
  have HBS : Aside0 ((w2.alloc (.cells #[.slice An ns.length kn, .slice At ts.length kt, .int .i64 0, .int .i64 0, .slice Ap ps.length kp] 26)).heap[w2.heap.size]? = some (.cells #[.slice An ns.length kn, .slice At ts.length kt, .int .i64 0, .int .i64 0, .slice Ap ps.length kp] 26 (0, 0))) := ⟨heap_alloc_new w2 _⟩
  have hb3 : Below w2.heap.size w2 (w2.alloc (.cells #[.slice An ns.length kn, .slice At ts.length kt, .int .i64 0, .int .i64 0, .slice Ap ps.length kp] 26)) := below_alloc (Below.refl _ _) _
  have HB3 : Aside0 (Below w.heap.size w (w2.alloc (.cells #[.slice An ns.length kn, .slice At ts.length kt, .int .i64 0, .int .i64 0, .slice Ap ps.length kp] 26))) := ⟨HB2.out.trans (hb3.mono HB2.out.size)⟩
  have HON3 : Aside0 (ns.length ≤ kn ∧ Kd.string.C (w2.alloc (.cells #[.slice An ns.length kn, .slice At ts.length kt, .int .i64 0, .int .i64 0, .slice Ap ps.length kp] 26)) An ns.length ns) := ⟨HON.out.1, Kd.C_below HON.out.2 hb3⟩
  have HOT3 : Aside0 (ts.length ≤ kt ∧ k62.C (w2.alloc (.cells #[.slice An ns.length kn, .slice At ts.length kt, .int .i64 0, .int .i64 0, .slice Ap ps.length kp] 26)) At ts.length ts) := ⟨HOT.out.1, Kd.C_below HOT.out.2 hb3⟩
  have HOP3 : Aside0 (ps.length ≤ kp ∧ k34.C (w2.alloc (.cells #[.slice An ns.length kn, .slice At ts.length kt, .int .i64 0, .int .i64 0, .slice Ap ps.length kp] 26)) Ap ps.length ps) := ⟨HOP.out.1, Kd.C_below HOP.out.2 hb3⟩
  generalize w2.alloc (.cells #[.slice An ns.length kn, .slice At ts.length kt, .int .i64 0, .int .i64 0, .slice Ap ps.length kp] 26) = w3 at HBS HB3 HON3 HOT3 HOP3 ⊢
  generalize w2.heap.size = SB at HBS ⊢
  clear hb3 HON HOT HOP
  have HMM3 := Aside0.mk (Kd.C_below HMM.out HB3.out)
  have HC : Aside0 (∀ W, Below w3.heap.size w3 W → W.cell? ⟨SB, 0, none⟩ = some (.slice An ns.length kn) ∧ W.cell? ⟨SB, 1, none⟩ = some (.slice At ts.length kt) ∧ W.cell? ⟨SB, 2, none⟩ = some (.int .i64 0) ∧ W.cell? ⟨SB, 3, none⟩ = some (.int .i64 0) ∧ W.cell? ⟨SB, 4, none⟩ = some (.slice Ap ps.length kp)) := ⟨fun W hW => by
    have hb := (hW.block _ (blk_lt HBS.out)).trans HBS.out
    exact ⟨(blk_cell hb 0).trans rfl, (blk_cell hb 1).trans rfl, (blk_cell hb 2).trans rfl, (blk_cell hb 3).trans rfl, (blk_cell hb 4).trans rfl⟩⟩
  obtain ⟨q0, q1, q2, q3, q4⟩ := HC.out w3 (Below.refl _ _)
  have PF := Aside0.mk (firsts_Follow.calls kF An kn ns At kt ts 0 0 Ap kp ps (idxs fl) w3 HON3.out.2 HON3.out.1 HOT3.out.2 HOT3.out.1 HOP3.out.2 HOP3.out.1 HF.out)
  go_upto_region 6 with (first | (go_at_call 18; (with_reducible refine PF.out.mono ?_); rintro e w4 ⟨v4, rfl, hS4, hB4⟩; have HS4 := Aside0.mk hS4; have HB4 := Aside0.mk hB4; clear PF hS4 hB4 q0 q1 q2 q3 q4))
  obtain ⟨Af, cf, rfl⟩ : ∃ A c, v4 = .slice A ns.length c := by obtain ⟨A, c, e⟩ := Kd.S_slice HS4.out; rw [HFL.out] at e; exact ⟨A, c, e⟩
  have CF : Aside0 (Kd.C (Kd.slice 3 (Kd.int .i64)) w4 Af ns.length (idxs fl)) := ⟨by have h := (Kd.S_reads' HS4.out).2.2; rw [HFL.out] at h; exact h⟩
  have HW4 : Aside0 (Below w.heap.size w w4) := ⟨HB3.out.trans (HB4.out.mono HB3.out.size)⟩
  obtain ⟨q0, q1, q2, q3, q4⟩ := HC.out w4 HB4.out
  clear HS4
  go_wp2
  go_loopg [8, 9, 10, 11, 12, 13] ps.length (fun kq v8 v9 v10 v11 v12 v13 wr => ∃ i : Nat, v8 = .int .i64 (i : Int) ∧ i ≤ ps.length ∧ ps.length - i ≤ kq ∧ Aside0 (Below w4.heap.size w4 wr))
  case atStart => exact ⟨0, rfl, by omega, by omega, ⟨Below.refl _ _⟩⟩
  case round =>
    obtain ⟨i, rfl, hi, hmq, HBR⟩ := hrel
    clear q0 q1 q2 q3 q4
    have HB3R : Aside0 (Below w3.heap.size w3 wr) := ⟨HB4.out.trans (HBR.out.mono HB4.out.size)⟩
    have HWR : Aside0 (Below w.heap.size w wr) := ⟨HW4.out.trans (HBR.out.mono HW4.out.size)⟩
    obtain ⟨q0, q1, q2, q3, q4⟩ := HC.out wr HB3R.out
    by_cases hlt : i < ps.length
    · have d0 : decide (i < ps.length) = true := decide_eq_true hlt
      have d1 : (i < ps.length) = True := eq_true hlt
      obtain ⟨ad, A5, c5, ead, e0, e1, _, hC5⟩ := at_T34 (Kd.C_below HOP3.out.2 HB3R.out) (i : Int) (by omega) (by omega)
      rw [Int.toNat_natCast] at e0 e1
      have hmem := rd_mem ps (i : Int) (by omega) (by omega)
      generalize rd_T34 ps (i : Int) = p at e0 e1 hC5 hmem
      have hr3 := HMO.out.r3 p hmem
      have HBP := Aside0.mk (HBEH.out p hmem)
      have HPOK := Aside0.mk (okProd_right (List.all_eq_true.1 HMO.out.ok p hmem))
      obtain ⟨left, r⟩ := p
      simp only at e0 e1 hC5 hr3 HBP HPOK
      cases ead
      have p0 : (0 ≤ (i : Int)) = True := eq_true (by omega)
      have p1 : ((i : Int) < (ps.length : Int)) = True := eq_true (by omega)
      have hwr : IntKind.i64.wrap ((i : Int) + 1) = (i : Int) + 1 := by rw [IntKind.wrap_i64]; have := HMO.out.p10; omega
      have HLT := Aside0.mk hlt
      have HMQ := Aside0.mk hmq
      have HR3 := Aside0.mk hr3
      have HC5 := Aside0.mk hC5
      clear hlt hmq hi hmem hr3 hC5
      by_cases hl0 : left = 0
      · subst hl0
        go_upto_region 13 with fail
        have HPB : Aside0 ((wr.alloc (.cells #[.int .i64 0, .slice A5 r.length c5] 34)).heap[wr.heap.size]? = some (.cells #[.int .i64 0, .slice A5 r.length c5] 34 (0, 0))) := ⟨heap_alloc_new wr _⟩
        have hb5 : Below wr.heap.size wr (wr.alloc (.cells #[.int .i64 0, .slice A5 r.length c5] 34)) := below_alloc (Below.refl _ _) _
        have HB5 : Aside0 (Below w4.heap.size w4 (wr.alloc (.cells #[.int .i64 0, .slice A5 r.length c5] 34))) := ⟨HBR.out.trans (hb5.mono HBR.out.size)⟩
        have HC5R : Aside0 (Kd.C k49 (wr.alloc (.cells #[.int .i64 0, .slice A5 r.length c5] 34)) A5 r.length r) := ⟨Kd.C_below HC5.out hb5⟩
        generalize wr.alloc (.cells #[.int .i64 0, .slice A5 r.length c5] 34) = w5 at HPB HB5 HC5R ⊢
        generalize wr.heap.size = PB at HPB ⊢
        clear hb5 q0 q1 q2 q3 q4 HC5
        have HB3P : Aside0 (Below w3.heap.size w3 w5) := ⟨HB4.out.trans (HB5.out.mono HB4.out.size)⟩
        have HCP : Aside0 (∀ W, Below w5.heap.size w5 W → W.cell? ⟨PB, 0, none⟩ = some (.int .i64 0) ∧ W.cell? ⟨PB, 1, none⟩ = some (.slice A5 r.length c5)) := ⟨fun W hW => by
          have hb := (hW.block _ (blk_lt HPB.out)).trans HPB.out
          exact ⟨(blk_cell hb 0).trans rfl, (blk_cell hb 1).trans rfl⟩⟩
        clear e0 e1
        go_wp2
        go_loopg [10, 11, 12, 13] r.length (fun kq v10 v11 v12 v13 wr => ∃ k : Nat, v10 = .int .i64 (k : Int) ∧ k ≤ r.length ∧ r.length - k ≤ kq ∧ Aside0 (Below w5.heap.size w5 wr))
        case atStart => exact ⟨0, rfl, by omega, by omega, ⟨Below.refl _ _⟩⟩
        case round =>
          obtain ⟨k, rfl, hk, hkq, HBI⟩ := hrel
          obtain ⟨pp0, pp1⟩ := HCP.out wr HBI.out
          have HB3I : Aside0 (Below w3.heap.size w3 wr) := ⟨HB3P.out.trans (HBI.out.mono HB3P.out.size)⟩
          obtain ⟨q0, q1, q2, q3, q4⟩ := HC.out wr HB3I.out
          have hwk : IntKind.i64.wrap ((k : Int) + 1) = (k : Int) + 1 := by rw [IntKind.wrap_i64]; have := HR3.out; omega
          by_cases hlt2 : k + 1 < r.length
          · have d2 : decide ((k : Int) + 1 < (r.length : Int)) = true := decide_eq_true (by omega)
            have d3 : decide (k + 1 < r.length) = true := decide_eq_true hlt2
            have HK := Aside0.mk hlt2
            have HKQ := Aside0.mk hkq
            clear hlt2 hkq hk
            have hk1 := HK.out
            have hk0 : k < r.length := by omega
            obtain ⟨ad1, rfl⟩ : ∃ ad1, A5 = some ad1 := by
              obtain ⟨ad1, ea1, _⟩ := at_T49 (Kd.C_below HC5R.out HBI.out) (k : Int) (by omega) (by omega)
              exact ⟨ad1, ea1⟩
            have hrd1 : rd_T49 r ((k : Int) + 1) = r[k + 1] := by simp [rd_T49, show ((k : Int) + 1).toNat = k + 1 by omega, hk1]
            have hrd0 : rd_T49 r (k : Int) = r[k] := by simp [rd_T49, hk0]
            have hE : ∀ W, Below w5.heap.size w5 W → W.cell? (ad1.add (k * 2)) = some (.bool (r[k]).f0) ∧ W.cell? ⟨(ad1.add (k * 2)).block, (ad1.add (k * 2)).off + 1, none⟩ = some (.int .i64 (r[k]).f1) ∧ W.cell? (ad1.add ((k + 1) * 2)) = some (.bool (r[k + 1]).f0) ∧ W.cell? ⟨(ad1.add ((k + 1) * 2)).block, (ad1.add ((k + 1) * 2)).off + 1, none⟩ = some (.int .i64 (r[k + 1]).f1) := fun W hW => by
              obtain ⟨ad0, ea0, e00, e01⟩ := at_T49 (Kd.C_below HC5R.out hW) (k : Int) (by omega) (by omega)
              cases ea0
              obtain ⟨ad0, ea0, e10, e11⟩ := at_T49 (Kd.C_below HC5R.out hW) ((k : Int) + 1) (by omega) (by omega)
              cases ea0
              rw [hrd0, Int.toNat_natCast] at e00 e01
              rw [hrd1, show ((k : Int) + 1).toNat = k + 1 by omega] at e10 e11
              exact ⟨e00, e01, e10, e11⟩
            have hdrop : r = r.take k ++ r[k] :: r[k + 1] :: r.drop (k + 2) := by
              rw [← List.drop_eq_getElem_cons hk1, ← List.drop_eq_getElem_cons hk0, List.take_append_drop]
            have hb3 := HBP.out (r.take k) r[k] r[k + 1] (r.drop (k + 2)) hdrop
            have hok0 := List.all_eq_true.1 HPOK.out _ (List.getElem_mem hk0)
            have hok1 := List.all_eq_true.1 HPOK.out _ (List.getElem_mem hk1)
            clear hdrop hrd0 hrd1
            generalize r[k + 1] = x at hE hb3 hok1
            generalize r[k] = y at hE hb3 hok0
            have HB8 := Aside0.mk hb3
            have HOK0 := Aside0.mk hok0
            have HOK1 := Aside0.mk hok1
            clear hb3 hok0 hok1
            obtain ⟨xt, xn⟩ := x
            obtain ⟨yt, yn⟩ := y
            simp only at hE HB8 HOK0 HOK1
            have HE := Aside0.mk hE
            clear hE
            have k0 : (0 ≤ (k : Int)) = True := eq_true (by omega)
            have k1 : ((k : Int) < (r.length : Int)) = True := eq_true (by omega)
            have k2 : (0 ≤ (k : Int) + 1) = True := eq_true (by omega)
            have k3 : ((k : Int) + 1 < (r.length : Int)) = True := eq_true (by omega)
            have k4 : (k < r.length) = True := eq_true (by omega)
            have k5 : (k + 1 < r.length) = True := eq_true (by omega)
            clear hk0 hk1
            go_upto_region 17 with fail
            have HDB : Aside0 ((wr.alloc (.cells #[.slice An ns.length kn, .slice At ts.length kt, .int .i64 0, .int .i64 0, .slice (some ad) ps.length kp, .slice A1 m.length c1, .int .i64 0] 38)).heap[wr.heap.size]? = some (.cells #[.slice An ns.length kn, .slice At ts.length kt, .int .i64 0, .int .i64 0, .slice (some ad) ps.length kp, .slice A1 m.length c1, .int .i64 0] 38 (0, 0))) := ⟨heap_alloc_new wr _⟩
            have hb6 : Below w5.heap.size w5 (wr.alloc (.cells #[.slice An ns.length kn, .slice At ts.length kt, .int .i64 0, .int .i64 0, .slice (some ad) ps.length kp, .slice A1 m.length c1, .int .i64 0] 38)) := HBI.out.trans ((below_alloc (Below.refl _ wr) _).mono HBI.out.size)
            have HSZ : Aside0 (w3.heap.size ≤ wr.heap.size) := ⟨HB3I.out.size⟩
            have HSZB : Aside0 (w5.heap.size ≤ wr.heap.size) := ⟨HBI.out.size⟩
            generalize wr.alloc (.cells #[.slice An ns.length kn, .slice At ts.length kt, .int .i64 0, .int .i64 0, .slice (some ad) ps.length kp, .slice A1 m.length c1, .int .i64 0] 38) = w6 at HDB hb6 ⊢
            generalize wr.heap.size = DB at HDB HSZ HSZB ⊢
            have HB6 := Aside0.mk hb6
            clear hb6 pp0 pp1 q0 q1 q2 q3 q4
            obtain ⟨pp0, pp1⟩ := HCP.out w6 HB6.out
            obtain ⟨e00, e01, e10, e11⟩ := HE.out w6 HB6.out
            go_upto_region 17 with fail
            iterate 35 (first | go_values | go_skip | go_guarded | go_step | go_upon | go_back | (simp only [Int.not_lt, Int.not_le] at *; go_simp))
            have HI1 := Aside0.mk (int_one w6 3 xn)
            have hb7 : Below w5.heap.size w5 (w6.alloc (.cells #[.int .i64 xn] 3)) := HB6.out.trans ((below_alloc (Below.refl _ w6) _).mono HB6.out.size)
            have HB67 : Aside0 (Below w6.heap.size w6 (w6.alloc (.cells #[.int .i64 xn] 3))) := ⟨below_alloc (Below.refl _ w6) _⟩
            clear pp0 pp1 e00 e01 e10 e11
            generalize w6.alloc (.cells #[.int .i64 xn] 3) = w7 at hb7 HI1 HB67 ⊢
            generalize w6.heap.size = IB at HI1 ⊢
            have HB7 := Aside0.mk hb7
            clear hb7
            obtain ⟨pp0, pp1⟩ := HCP.out w7 HB7.out
            obtain ⟨e00, e01, e10, e11⟩ := HE.out w7 HB7.out
            go_cut [12, 13] from 62 to 112 (fun s12 s13 wc => ∃ (A : Option Addr) (n c : Nat) (t : List Int) (ok : Bool), s12 = .slice A n c ∧ n = t.length ∧ s13 = .bool ok ∧ Aside0 ((Kd.int .i64).C wc A n t) ∧ Aside0 (Below w5.heap.size w5 wc) ∧ Aside0 (∀ x t', ok = true → t = x :: t' → 0 ≤ x ∧ (bg (clo false ns.length ps) (fst ns.length ts.length (clo false ns.length ps) ps) [⟨xt, xn⟩] (none0 ts.length)).1.getD x.toNat false = true))
            case first =>
              cases xt with
              | true =>
                go_wp2
                go_meet
                case rel => exact ⟨_, _, _, [xn], true, rfl, rfl, rfl, HI1, HB7, ⟨fun x t' _ e => by
                  simp only [List.cons.injEq] at e
                  obtain ⟨rfl, rfl⟩ := e
                  have h := HOK1.out
                  simp [okSym] at h
                  exact ⟨h.1, bg_tok _ _ _ _ h.1 h.2⟩⟩⟩
              | false =>
                have hb37 : Below w3.heap.size w3 w7 := HB3P.out.trans (HB7.out.mono HB3P.out.size)
                have hd7 := derive_any ps m w3 DB An ns.length kn At ts.length kt 0 0 (some ad) kp A1 c1 HSZ.out HOP3.out.2 HMM3.out HUM.out (fun p hp => by have := HMO.out.r3 p hp; omega) (by have := HMO.out.p10; omega) 12 xn 0 0 w7 (by omega) (by omega) (by decide) hb37 ((HB67.out.block _ (blk_lt HDB.out)).trans HDB.out)
                have HRU := Aside0.mk (fun x t a' => bg_rule1 (nt := ts.length) (x := x) (t := t) (a' := a') HMO.out.ok HUM.out (f := 12) (rule := xn) (deep := 0) (at_ := 0))
                rw [Int.natCast_zero] at hd7
                generalize drv ps m 12 xn 0 0 = res at hd7 HRU
                obtain ⟨⟨t, ok⟩, a'⟩ := res
                have P7 := Aside0.mk hd7
                clear hd7 hb37
                go_upto_region 20 with (first | (go_at_call 13; (with_reducible refine P7.out.mono ?_); rintro e w8 ⟨v8, rfl, HR8, HBK8, HK8, HB8'⟩; clear P7))
                obtain ⟨A8, n8, c8, rfl⟩ : ∃ A n c, v8 = .slice A n c := by obtain ⟨A, c, e⟩ := Kd.R_slice HR8.out; exact ⟨A, _, c, e⟩
                go_meet
                case rel => exact ⟨_, _, _, t, ok, rfl, (Kd.R_reads' HR8.out).1, rfl, ⟨by have h := (Kd.R_reads' HR8.out); rw [h.1]; exact h.2.2⟩, ⟨below_keptS HB7.out HK8.out (fun i hi hk => by have := HSZB.out; omega) HB3P.out HB8'.out⟩, ⟨fun x t' e1 e2 => HRU.out x t' a' (by subst e1; subst e2; rfl)⟩⟩
            case rest =>
              obtain ⟨A, n, c, t, ok, rfl, hn, rfl, HT, HBC, HXF⟩ := hcut
              obtain ⟨w8, ew8⟩ : ∃ w8 : World, w8 = wc := ⟨_, rfl⟩
              subst ew8
              clear pp0 pp1 e00 e01 e10 e11 HDB HSZ HSZB HB6 HB67 HI1 HB7
              have HPC := Aside0.mk (HCP.out w8 HBC.out)
              have HEC := Aside0.mk (HE.out w8 HBC.out)
              have HNT := Aside0.mk hn
              clear hn
              go_upto_region 20 with fail
              cases yt with
              | true =>
                refine start_ (n := 31) (S := fun w' => w'.cell? ⟨PB, 1, none⟩ = some (.slice (some ad1) r.length c5) ∧ w'.cell? (ad1.add (k * 2)) = some (.bool true) ∧ w'.cell? ⟨(ad1.add (k * 2)).block, (ad1.add (k * 2)).off + 1, none⟩ = some (.int .i64 yn)) (ds := []) #[false, false, false, false, false, false, false, false, false, false, false, false, false, false, false, false, false, false, false, false, false, false, false, false, false, false, false, false, false, false, false] (by kernel_rfl) rfl rfl ⟨HPC.out.2, HEC.out.1, HEC.out.2.1⟩ (fun hHeld => ?_)
                refine pure_ (i := 0) (N := some 82) (v := ?_) (a' := ?_) #[true, false, false, false, false, false, false, false, false, false, false, false, false, false, false, false, false, false, false, false, false, false, false, false, false, false, false, false, false, false, false] rfl rfl (by kernel_rfl) (fun _ _ _ h => h) (Or.inl ⟨by rfl, ?_⟩) ?_ ?_
                rotate_left
                · intro w'
                  go_simp
                  with_reducible rfl
                rotate_left
                · simp only [Act.put, List.setIfInBounds_toArray, List.set_cons_zero, List.set_cons_succ, i64_w, i32_w]
                  rfl
                refine pure_ (i := 2) (N := some 84) (v := ?_) (a' := ?_) #[true, false, true, false, false, false, false, false, false, false, false, false, false, false, false, false, false, false, false, false, false, false, false, false, false, false, false, false, false, false, false] rfl rfl (by kernel_rfl) (fun _ _ _ h => h) (Or.inl ⟨by rfl, ?_⟩) ?_ ?_
                rotate_left
                · intro w'
                  go_simp
                  with_reducible rfl
                rotate_left
                · simp only [Act.put, List.setIfInBounds_toArray, List.set_cons_zero, List.set_cons_succ, i64_w, i32_w]
                  rfl
                refine take_ (i := 1) (N := some 83) (v := ?_) (a' := ?_) #[true, true, true, false, false, false, false, false, false, false, false, false, false, false, false, false, false, false, false, false, false, false, false, false, false, false, false, false, false, false, false] rfl rfl (by kernel_rfl) (fun _ _ _ h => h) (Or.inl ⟨by rfl, ?_⟩) hHeld ?_ ?_
                rotate_left
                · rintro w' ⟨s0, s1, s2⟩
                  go_simp
                  with_reducible rfl
                rotate_left
                · simp only [Act.put, List.setIfInBounds_toArray, List.set_cons_zero, List.set_cons_succ, i64_w, i32_w]
                  rfl
                refine pure_ (i := 3) (N := some 85) (v := ?_) (a' := ?_) #[true, true, true, true, false, false, false, false, false, false, false, false, false, false, false, false, false, false, false, false, false, false, false, false, false, false, false, false, false, false, false] rfl rfl (by kernel_rfl) (fun _ _ _ h => h) (Or.inl ⟨by rfl, ?_⟩) ?_ ?_
                rotate_left
                · intro w'
                  go_simp
                  with_reducible rfl
                rotate_left
                · simp only [Act.put, List.setIfInBounds_toArray, List.set_cons_zero, List.set_cons_succ, i64_w, i32_w]
                  rfl
                refine pure_ (i := 4) (N := some 86) (v := ?_) (a' := ?_) #[true, true, true, true, true, false, false, false, false, false, false, false, false, false, false, false, false, false, false, false, false, false, false, false, false, false, false, false, false, false, false] rfl rfl (by kernel_rfl) (fun _ _ _ h => h) (Or.inl ⟨by rfl, ?_⟩) ?_ ?_
                rotate_left
                · intro w'
                  go_simp
                  with_reducible rfl
                rotate_left
                · simp only [Act.put, List.setIfInBounds_toArray, List.set_cons_zero, List.set_cons_succ, i64_w, i32_w]
                  rfl
                refine take_ (i := 5) (N := some 87) (v := ?_) (a' := ?_) #[true, true, true, true, true, true, false, false, false, false, false, false, false, false, false, false, false, false, false, false, false, false, false, false, false, false, false, false, false, false, false] rfl rfl (by kernel_rfl) (fun _ _ _ h => h) (Or.inl ⟨by rfl, ?_⟩) hHeld ?_ ?_
                rotate_left
                · rintro w' ⟨s0, s1, s2⟩
                  go_simp
                  with_reducible rfl
                rotate_left
                · simp only [Act.put, List.setIfInBounds_toArray, List.set_cons_zero, List.set_cons_succ, i64_w, i32_w]
                  rfl
                refine pure_ (i := 6) (N := some 88) (v := ?_) (a' := ?_) #[true, true, true, true, true, true, true, false, false, false, false, false, false, false, false, false, false, false, false, false, false, false, false, false, false, false, false, false, false, false, false] rfl rfl (by kernel_rfl) (fun _ _ _ h => h) (Or.inl ⟨by rfl, ?_⟩) ?_ ?_
                rotate_left
                · intro w'
                  go_simp
                  with_reducible rfl
                rotate_left
                · simp only [Act.put, List.setIfInBounds_toArray, List.set_cons_zero, List.set_cons_succ, i64_w, i32_w]
                  rfl
                refine pure_ (i := 7) (N := some 89) (v := ?_) (a' := ?_) #[true, true, true, true, true, true, true, true, false, false, false, false, false, false, false, false, false, false, false, false, false, false, false, false, false, false, false, false, false, false, false] rfl rfl (by kernel_rfl) (fun _ _ _ h => h) (Or.inl ⟨by rfl, ?_⟩) ?_ ?_
                rotate_left
                · intro w'
                  go_simp
                  with_reducible rfl
                rotate_left
                · simp only [Act.put, List.setIfInBounds_toArray, List.set_cons_zero, List.set_cons_succ, i64_w, i32_w]
                  rfl
                refine pure_ (i := 8) (N := some 90) (v := undef) (a' := ?_) #[true, true, true, true, true, true, true, true, true, false, false, false, false, false, false, false, false, false, false, false, false, false, false, false, false, false, false, false, false, false, false] rfl rfl (by kernel_rfl) (fun _ _ _ h => h) (Or.inr ⟨by rfl, rfl⟩) ?_ ?_
                rotate_left
                · simp only [Act.put, List.setIfInBounds_toArray, List.set_cons_zero, List.set_cons_succ, i64_w, i32_w]
                  rfl
                refine pure_ (i := 9) (N := some 91) (v := ?_) (a' := ?_) #[true, true, true, true, true, true, true, true, true, true, false, false, false, false, false, false, false, false, false, false, false, false, false, false, false, false, false, false, false, false, false] rfl rfl (by kernel_rfl) (fun _ _ _ h => h) (Or.inl ⟨by rfl, ?_⟩) ?_ ?_
                rotate_left
                · intro w'
                  go_simp
                  with_reducible rfl
                rotate_left
                · simp only [Act.put, List.setIfInBounds_toArray, List.set_cons_zero, List.set_cons_succ, i64_w, i32_w]
                  rfl
                refine pure_ (i := 10) (N := some 92) (v := ?_) (a' := ?_) #[true, true, true, true, true, true, true, true, true, true, true, false, false, false, false, false, false, false, false, false, false, false, false, false, false, false, false, false, false, false, false] rfl rfl (by kernel_rfl) (fun _ _ _ h => h) (Or.inl ⟨by rfl, ?_⟩) ?_ ?_
                rotate_left
                · intro w'
                  go_simp
                  with_reducible rfl
                rotate_left
                · simp only [Act.put, List.setIfInBounds_toArray, List.set_cons_zero, List.set_cons_succ, i64_w, i32_w]
                  rfl
                refine pure_ (i := 11) (N := some 93) (v := undef) (a' := ?_) #[true, true, true, true, true, true, true, true, true, true, true, true, false, false, false, false, false, false, false, false, false, false, false, false, false, false, false, false, false, false, false] rfl rfl (by kernel_rfl) (fun _ _ _ h => h) (Or.inr ⟨by rfl, rfl⟩) ?_ ?_
                rotate_left
                · simp only [Act.put, List.setIfInBounds_toArray, List.set_cons_zero, List.set_cons_succ, i64_w, i32_w]
                  rfl
                refine pure_ (i := 12) (N := some 94) (v := undef) (a' := ?_) #[true, true, true, true, true, true, true, true, true, true, true, true, true, false, false, false, false, false, false, false, false, false, false, false, false, false, false, false, false, false, false] rfl rfl (by kernel_rfl) (fun _ _ _ h => h) (Or.inr ⟨by rfl, rfl⟩) ?_ ?_
                rotate_left
                · simp only [Act.put, List.setIfInBounds_toArray, List.set_cons_zero, List.set_cons_succ, i64_w, i32_w]
                  rfl
                refine pure_ (i := 13) (N := some 95) (v := undef) (a' := ?_) #[true, true, true, true, true, true, true, true, true, true, true, true, true, true, false, false, false, false, false, false, false, false, false, false, false, false, false, false, false, false, false] rfl rfl (by kernel_rfl) (fun _ _ _ h => h) (Or.inr ⟨by rfl, rfl⟩) ?_ ?_
                rotate_left
                · simp only [Act.put, List.setIfInBounds_toArray, List.set_cons_zero, List.set_cons_succ, i64_w, i32_w]
                  rfl
                refine pure_ (i := 14) (N := some 96) (v := ?_) (a' := ?_) #[true, true, true, true, true, true, true, true, true, true, true, true, true, true, true, false, false, false, false, false, false, false, false, false, false, false, false, false, false, false, false] rfl rfl (by kernel_rfl) (fun _ _ _ h => h) (Or.inl ⟨by rfl, ?_⟩) ?_ ?_
                rotate_left
                · intro w'
                  go_simp
                  with_reducible rfl
                rotate_left
                · simp only [Act.put, List.setIfInBounds_toArray, List.set_cons_zero, List.set_cons_succ, i64_w, i32_w]
                  rfl
                refine pure_ (i := 15) (N := some 97) (v := ?_) (a' := ?_) #[true, true, true, true, true, true, true, true, true, true, true, true, true, true, true, true, false, false, false, false, false, false, false, false, false, false, false, false, false, false, false] rfl rfl (by kernel_rfl) (fun _ _ _ h => h) (Or.inl ⟨by rfl, ?_⟩) ?_ ?_
                rotate_left
                · intro w'
                  go_simp
                  with_reducible rfl
                rotate_left
                · simp only [Act.put, List.setIfInBounds_toArray, List.set_cons_zero, List.set_cons_succ, i64_w, i32_w]
                  rfl
                refine pure_ (i := 16) (N := some 98) (v := undef) (a' := ?_) #[true, true, true, true, true, true, true, true, true, true, true, true, true, true, true, true, true, false, false, false, false, false, false, false, false, false, false, false, false, false, false] rfl rfl (by kernel_rfl) (fun _ _ _ h => h) (Or.inr ⟨by rfl, rfl⟩) ?_ ?_
                rotate_left
                · simp only [Act.put, List.setIfInBounds_toArray, List.set_cons_zero, List.set_cons_succ, i64_w, i32_w]
                  rfl
                refine pure_ (i := 17) (N := some 99) (v := undef) (a' := ?_) #[true, true, true, true, true, true, true, true, true, true, true, true, true, true, true, true, true, true, false, false, false, false, false, false, false, false, false, false, false, false, false] rfl rfl (by kernel_rfl) (fun _ _ _ h => h) (Or.inr ⟨by rfl, rfl⟩) ?_ ?_
                rotate_left
                · simp only [Act.put, List.setIfInBounds_toArray, List.set_cons_zero, List.set_cons_succ, i64_w, i32_w]
                  rfl
                refine pure_ (i := 18) (N := some 100) (v := undef) (a' := ?_) #[true, true, true, true, true, true, true, true, true, true, true, true, true, true, true, true, true, true, true, false, false, false, false, false, false, false, false, false, false, false, false] rfl rfl (by kernel_rfl) (fun _ _ _ h => h) (Or.inr ⟨by rfl, rfl⟩) ?_ ?_
                rotate_left
                · simp only [Act.put, List.setIfInBounds_toArray, List.set_cons_zero, List.set_cons_succ, i64_w, i32_w]
                  rfl
                refine pure_ (i := 19) (N := some 101) (v := undef) (a' := ?_) #[true, true, true, true, true, true, true, true, true, true, true, true, true, true, true, true, true, true, true, true, false, false, false, false, false, false, false, false, false, false, false] rfl rfl (by kernel_rfl) (fun _ _ _ h => h) (Or.inr ⟨by rfl, rfl⟩) ?_ ?_
                rotate_left
                · simp only [Act.put, List.setIfInBounds_toArray, List.set_cons_zero, List.set_cons_succ, i64_w, i32_w]
                  rfl
                refine pure_ (i := 20) (N := some 102) (v := undef) (a' := ?_) #[true, true, true, true, true, true, true, true, true, true, true, true, true, true, true, true, true, true, true, true, true, false, false, false, false, false, false, false, false, false, false] rfl rfl (by kernel_rfl) (fun _ _ _ h => h) (Or.inr ⟨by rfl, rfl⟩) ?_ ?_
                rotate_left
                · simp only [Act.put, List.setIfInBounds_toArray, List.set_cons_zero, List.set_cons_succ, i64_w, i32_w]
                  rfl
                refine pure_ (i := 21) (N := some 103) (v := undef) (a' := ?_) #[true, true, true, true, true, true, true, true, true, true, true, true, true, true, true, true, true, true, true, true, true, true, false, false, false, false, false, false, false, false, false] rfl rfl (by kernel_rfl) (fun _ _ _ h => h) (Or.inr ⟨by rfl, rfl⟩) ?_ ?_
                rotate_left
                · simp only [Act.put, List.setIfInBounds_toArray, List.set_cons_zero, List.set_cons_succ, i64_w, i32_w]
                  rfl
                refine pure_ (i := 22) (N := some 104) (v := undef) (a' := ?_) #[true, true, true, true, true, true, true, true, true, true, true, true, true, true, true, true, true, true, true, true, true, true, true, false, false, false, false, false, false, false, false] rfl rfl (by kernel_rfl) (fun _ _ _ h => h) (Or.inr ⟨by rfl, rfl⟩) ?_ ?_
                rotate_left
                · simp only [Act.put, List.setIfInBounds_toArray, List.set_cons_zero, List.set_cons_succ, i64_w, i32_w]
                  rfl
                refine pure_ (i := 23) (N := some 105) (v := undef) (a' := ?_) #[true, true, true, true, true, true, true, true, true, true, true, true, true, true, true, true, true, true, true, true, true, true, true, true, false, false, false, false, false, false, false] rfl rfl (by kernel_rfl) (fun _ _ _ h => h) (Or.inr ⟨by rfl, rfl⟩) ?_ ?_
                rotate_left
                · simp only [Act.put, List.setIfInBounds_toArray, List.set_cons_zero, List.set_cons_succ, i64_w, i32_w]
                  rfl
                refine pure_ (i := 24) (N := some 106) (v := undef) (a' := ?_) #[true, true, true, true, true, true, true, true, true, true, true, true, true, true, true, true, true, true, true, true, true, true, true, true, true, false, false, false, false, false, false] rfl rfl (by kernel_rfl) (fun _ _ _ h => h) (Or.inr ⟨by rfl, rfl⟩) ?_ ?_
                rotate_left
                · simp only [Act.put, List.setIfInBounds_toArray, List.set_cons_zero, List.set_cons_succ, i64_w, i32_w]
                  rfl
                refine pure_ (i := 25) (N := some 107) (v := undef) (a' := ?_) #[true, true, true, true, true, true, true, true, true, true, true, true, true, true, true, true, true, true, true, true, true, true, true, true, true, true, false, false, false, false, false] rfl rfl (by kernel_rfl) (fun _ _ _ h => h) (Or.inr ⟨by rfl, rfl⟩) ?_ ?_
                rotate_left
                · simp only [Act.put, List.setIfInBounds_toArray, List.set_cons_zero, List.set_cons_succ, i64_w, i32_w]
                  rfl
                refine pure_ (i := 26) (N := some 108) (v := undef) (a' := ?_) #[true, true, true, true, true, true, true, true, true, true, true, true, true, true, true, true, true, true, true, true, true, true, true, true, true, true, true, false, false, false, false] rfl rfl (by kernel_rfl) (fun _ _ _ h => h) (Or.inr ⟨by rfl, rfl⟩) ?_ ?_
                rotate_left
                · simp only [Act.put, List.setIfInBounds_toArray, List.set_cons_zero, List.set_cons_succ, i64_w, i32_w]
                  rfl
                refine pure_ (i := 27) (N := some 109) (v := undef) (a' := ?_) #[true, true, true, true, true, true, true, true, true, true, true, true, true, true, true, true, true, true, true, true, true, true, true, true, true, true, true, true, false, false, false] rfl rfl (by kernel_rfl) (fun _ _ _ h => h) (Or.inr ⟨by rfl, rfl⟩) ?_ ?_
                rotate_left
                · simp only [Act.put, List.setIfInBounds_toArray, List.set_cons_zero, List.set_cons_succ, i64_w, i32_w]
                  rfl
                refine pure_ (i := 28) (N := some 110) (v := undef) (a' := ?_) #[true, true, true, true, true, true, true, true, true, true, true, true, true, true, true, true, true, true, true, true, true, true, true, true, true, true, true, true, true, false, false] rfl rfl (by kernel_rfl) (fun _ _ _ h => h) (Or.inr ⟨by rfl, rfl⟩) ?_ ?_
                rotate_left
                · simp only [Act.put, List.setIfInBounds_toArray, List.set_cons_zero, List.set_cons_succ, i64_w, i32_w]
                  rfl
                refine pure_ (i := 29) (N := some 111) (v := undef) (a' := ?_) #[true, true, true, true, true, true, true, true, true, true, true, true, true, true, true, true, true, true, true, true, true, true, true, true, true, true, true, true, true, true, false] rfl rfl (by kernel_rfl) (fun _ _ _ h => h) (Or.inr ⟨by rfl, rfl⟩) ?_ ?_
                rotate_left
                · simp only [Act.put, List.setIfInBounds_toArray, List.set_cons_zero, List.set_cons_succ, i64_w, i32_w]
                  rfl
                refine pure_ (i := 30) (N := some 112) (v := ?_) (a' := ?_) #[true, true, true, true, true, true, true, true, true, true, true, true, true, true, true, true, true, true, true, true, true, true, true, true, true, true, true, true, true, true, true] rfl rfl (by kernel_rfl) (fun _ _ _ h => h) (Or.inl ⟨by rfl, ?_⟩) ?_ ?_
                rotate_left
                · intro w'
                  go_simp
                  with_reducible rfl
                rotate_left
                · simp only [Act.put, List.setIfInBounds_toArray, List.set_cons_zero, List.set_cons_succ, i64_w, i32_w]
                  rfl
                refine done_ (by kernel_rfl) ?_
                go_wp2
                go_roundg (r.length - (k + 1))
                case measure => have := HKQ.out; have := HK.out; omega
                case rel => exact ⟨k + 1, rfl, by have := HK.out; omega, Nat.le_refl _, ⟨below_drew1 HBC.out⟩⟩
              | false =>
                cases ok with
                | false =>
                  refine start_ (n := 31) (S := fun w' => w'.cell? ⟨PB, 1, none⟩ = some (.slice (some ad1) r.length c5) ∧ w'.cell? (ad1.add (k * 2)) = some (.bool false) ∧ w'.cell? ⟨(ad1.add (k * 2)).block, (ad1.add (k * 2)).off + 1, none⟩ = some (.int .i64 yn)) (ds := []) #[false, false, false, false, false, false, false, false, false, false, false, false, false, false, false, false, false, false, false, false, false, false, false, false, false, false, false, false, false, false, false] (by kernel_rfl) rfl rfl ⟨HPC.out.2, HEC.out.1, HEC.out.2.1⟩ (fun hHeld => ?_)
                  refine pure_ (i := 0) (N := some 82) (v := ?_) (a' := ?_) #[true, false, false, false, false, false, false, false, false, false, false, false, false, false, false, false, false, false, false, false, false, false, false, false, false, false, false, false, false, false, false] rfl rfl (by kernel_rfl) (fun _ _ _ h => h) (Or.inl ⟨by rfl, ?_⟩) ?_ ?_
                  rotate_left
                  · intro w'
                    go_simp
                    with_reducible rfl
                  rotate_left
                  · simp only [Act.put, List.setIfInBounds_toArray, List.set_cons_zero, List.set_cons_succ, i64_w, i32_w]
                    rfl
                  refine pure_ (i := 2) (N := some 84) (v := ?_) (a' := ?_) #[true, false, true, false, false, false, false, false, false, false, false, false, false, false, false, false, false, false, false, false, false, false, false, false, false, false, false, false, false, false, false] rfl rfl (by kernel_rfl) (fun _ _ _ h => h) (Or.inl ⟨by rfl, ?_⟩) ?_ ?_
                  rotate_left
                  · intro w'
                    go_simp
                    with_reducible rfl
                  rotate_left
                  · simp only [Act.put, List.setIfInBounds_toArray, List.set_cons_zero, List.set_cons_succ, i64_w, i32_w]
                    rfl
                  refine take_ (i := 1) (N := some 83) (v := ?_) (a' := ?_) #[true, true, true, false, false, false, false, false, false, false, false, false, false, false, false, false, false, false, false, false, false, false, false, false, false, false, false, false, false, false, false] rfl rfl (by kernel_rfl) (fun _ _ _ h => h) (Or.inl ⟨by rfl, ?_⟩) hHeld ?_ ?_
                  rotate_left
                  · rintro w' ⟨s0, s1, s2⟩
                    go_simp
                    with_reducible rfl
                  rotate_left
                  · simp only [Act.put, List.setIfInBounds_toArray, List.set_cons_zero, List.set_cons_succ, i64_w, i32_w]
                    rfl
                  refine pure_ (i := 3) (N := some 85) (v := ?_) (a' := ?_) #[true, true, true, true, false, false, false, false, false, false, false, false, false, false, false, false, false, false, false, false, false, false, false, false, false, false, false, false, false, false, false] rfl rfl (by kernel_rfl) (fun _ _ _ h => h) (Or.inl ⟨by rfl, ?_⟩) ?_ ?_
                  rotate_left
                  · intro w'
                    go_simp
                    with_reducible rfl
                  rotate_left
                  · simp only [Act.put, List.setIfInBounds_toArray, List.set_cons_zero, List.set_cons_succ, i64_w, i32_w]
                    rfl
                  refine pure_ (i := 4) (N := some 86) (v := ?_) (a' := ?_) #[true, true, true, true, true, false, false, false, false, false, false, false, false, false, false, false, false, false, false, false, false, false, false, false, false, false, false, false, false, false, false] rfl rfl (by kernel_rfl) (fun _ _ _ h => h) (Or.inl ⟨by rfl, ?_⟩) ?_ ?_
                  rotate_left
                  · intro w'
                    go_simp
                    with_reducible rfl
                  rotate_left
                  · simp only [Act.put, List.setIfInBounds_toArray, List.set_cons_zero, List.set_cons_succ, i64_w, i32_w]
                    rfl
                  refine take_ (i := 5) (N := some 87) (v := ?_) (a' := ?_) #[true, true, true, true, true, true, false, false, false, false, false, false, false, false, false, false, false, false, false, false, false, false, false, false, false, false, false, false, false, false, false] rfl rfl (by kernel_rfl) (fun _ _ _ h => h) (Or.inl ⟨by rfl, ?_⟩) hHeld ?_ ?_
                  rotate_left
                  · rintro w' ⟨s0, s1, s2⟩
                    go_simp
                    with_reducible rfl
                  rotate_left
                  · simp only [Act.put, List.setIfInBounds_toArray, List.set_cons_zero, List.set_cons_succ, i64_w, i32_w]
                    rfl
                  refine pure_ (i := 6) (N := some 88) (v := ?_) (a' := ?_) #[true, true, true, true, true, true, true, false, false, false, false, false, false, false, false, false, false, false, false, false, false, false, false, false, false, false, false, false, false, false, false] rfl rfl (by kernel_rfl) (fun _ _ _ h => h) (Or.inl ⟨by rfl, ?_⟩) ?_ ?_
                  rotate_left
                  · intro w'
                    go_simp
                    with_reducible rfl
                  rotate_left
                  · simp only [Act.put, List.setIfInBounds_toArray, List.set_cons_zero, List.set_cons_succ, i64_w, i32_w]
                    rfl
                  refine pure_ (i := 7) (N := some 89) (v := ?_) (a' := ?_) #[true, true, true, true, true, true, true, true, false, false, false, false, false, false, false, false, false, false, false, false, false, false, false, false, false, false, false, false, false, false, false] rfl rfl (by kernel_rfl) (fun _ _ _ h => h) (Or.inl ⟨by rfl, ?_⟩) ?_ ?_
                  rotate_left
                  · intro w'
                    go_simp
                    with_reducible rfl
                  rotate_left
                  · simp only [Act.put, List.setIfInBounds_toArray, List.set_cons_zero, List.set_cons_succ, i64_w, i32_w]
                    rfl
                  refine pure_ (i := 8) (N := some 90) (v := ?_) (a' := ?_) #[true, true, true, true, true, true, true, true, true, false, false, false, false, false, false, false, false, false, false, false, false, false, false, false, false, false, false, false, false, false, false] rfl rfl (by kernel_rfl) (fun _ _ _ h => h) (Or.inl ⟨by rfl, ?_⟩) ?_ ?_
                  rotate_left
                  · intro w'
                    go_simp
                    with_reducible rfl
                  rotate_left
                  · simp only [Act.put, List.setIfInBounds_toArray, List.set_cons_zero, List.set_cons_succ, i64_w, i32_w]
                    rfl
                  refine pure_ (i := 9) (N := some 91) (v := ?_) (a' := ?_) #[true, true, true, true, true, true, true, true, true, true, false, false, false, false, false, false, false, false, false, false, false, false, false, false, false, false, false, false, false, false, false] rfl rfl (by kernel_rfl) (fun _ _ _ h => h) (Or.inl ⟨by rfl, ?_⟩) ?_ ?_
                  rotate_left
                  · intro w'
                    go_simp
                    with_reducible rfl
                  rotate_left
                  · simp only [Act.put, List.setIfInBounds_toArray, List.set_cons_zero, List.set_cons_succ, i64_w, i32_w]
                    rfl
                  refine pure_ (i := 10) (N := some 92) (v := ?_) (a' := ?_) #[true, true, true, true, true, true, true, true, true, true, true, false, false, false, false, false, false, false, false, false, false, false, false, false, false, false, false, false, false, false, false] rfl rfl (by kernel_rfl) (fun _ _ _ h => h) (Or.inl ⟨by rfl, ?_⟩) ?_ ?_
                  rotate_left
                  · intro w'
                    go_simp
                    with_reducible rfl
                  rotate_left
                  · simp only [Act.put, List.setIfInBounds_toArray, List.set_cons_zero, List.set_cons_succ, i64_w, i32_w]
                    rfl
                  refine pure_ (i := 11) (N := some 93) (v := undef) (a' := ?_) #[true, true, true, true, true, true, true, true, true, true, true, true, false, false, false, false, false, false, false, false, false, false, false, false, false, false, false, false, false, false, false] rfl rfl (by kernel_rfl) (fun _ _ _ h => h) (Or.inr ⟨by rfl, rfl⟩) ?_ ?_
                  rotate_left
                  · simp only [Act.put, List.setIfInBounds_toArray, List.set_cons_zero, List.set_cons_succ, i64_w, i32_w]
                    rfl
                  refine pure_ (i := 12) (N := some 94) (v := undef) (a' := ?_) #[true, true, true, true, true, true, true, true, true, true, true, true, true, false, false, false, false, false, false, false, false, false, false, false, false, false, false, false, false, false, false] rfl rfl (by kernel_rfl) (fun _ _ _ h => h) (Or.inr ⟨by rfl, rfl⟩) ?_ ?_
                  rotate_left
                  · simp only [Act.put, List.setIfInBounds_toArray, List.set_cons_zero, List.set_cons_succ, i64_w, i32_w]
                    rfl
                  refine pure_ (i := 13) (N := some 95) (v := undef) (a' := ?_) #[true, true, true, true, true, true, true, true, true, true, true, true, true, true, false, false, false, false, false, false, false, false, false, false, false, false, false, false, false, false, false] rfl rfl (by kernel_rfl) (fun _ _ _ h => h) (Or.inr ⟨by rfl, rfl⟩) ?_ ?_
                  rotate_left
                  · simp only [Act.put, List.setIfInBounds_toArray, List.set_cons_zero, List.set_cons_succ, i64_w, i32_w]
                    rfl
                  refine pure_ (i := 14) (N := some 96) (v := ?_) (a' := ?_) #[true, true, true, true, true, true, true, true, true, true, true, true, true, true, true, false, false, false, false, false, false, false, false, false, false, false, false, false, false, false, false] rfl rfl (by kernel_rfl) (fun _ _ _ h => h) (Or.inl ⟨by rfl, ?_⟩) ?_ ?_
                  rotate_left
                  · intro w'
                    go_simp
                    with_reducible rfl
                  rotate_left
                  · simp only [Act.put, List.setIfInBounds_toArray, List.set_cons_zero, List.set_cons_succ, i64_w, i32_w]
                    rfl
                  refine pure_ (i := 15) (N := some 97) (v := ?_) (a' := ?_) #[true, true, true, true, true, true, true, true, true, true, true, true, true, true, true, true, false, false, false, false, false, false, false, false, false, false, false, false, false, false, false] rfl rfl (by kernel_rfl) (fun _ _ _ h => h) (Or.inl ⟨by rfl, ?_⟩) ?_ ?_
                  rotate_left
                  · intro w'
                    go_simp
                    with_reducible rfl
                  rotate_left
                  · simp only [Act.put, List.setIfInBounds_toArray, List.set_cons_zero, List.set_cons_succ, i64_w, i32_w]
                    rfl
                  refine pure_ (i := 16) (N := some 98) (v := undef) (a' := ?_) #[true, true, true, true, true, true, true, true, true, true, true, true, true, true, true, true, true, false, false, false, false, false, false, false, false, false, false, false, false, false, false] rfl rfl (by kernel_rfl) (fun _ _ _ h => h) (Or.inr ⟨by rfl, rfl⟩) ?_ ?_
                  rotate_left
                  · simp only [Act.put, List.setIfInBounds_toArray, List.set_cons_zero, List.set_cons_succ, i64_w, i32_w]
                    rfl
                  refine pure_ (i := 17) (N := some 99) (v := undef) (a' := ?_) #[true, true, true, true, true, true, true, true, true, true, true, true, true, true, true, true, true, true, false, false, false, false, false, false, false, false, false, false, false, false, false] rfl rfl (by kernel_rfl) (fun _ _ _ h => h) (Or.inr ⟨by rfl, rfl⟩) ?_ ?_
                  rotate_left
                  · simp only [Act.put, List.setIfInBounds_toArray, List.set_cons_zero, List.set_cons_succ, i64_w, i32_w]
                    rfl
                  refine pure_ (i := 18) (N := some 100) (v := undef) (a' := ?_) #[true, true, true, true, true, true, true, true, true, true, true, true, true, true, true, true, true, true, true, false, false, false, false, false, false, false, false, false, false, false, false] rfl rfl (by kernel_rfl) (fun _ _ _ h => h) (Or.inr ⟨by rfl, rfl⟩) ?_ ?_
                  rotate_left
                  · simp only [Act.put, List.setIfInBounds_toArray, List.set_cons_zero, List.set_cons_succ, i64_w, i32_w]
                    rfl
                  refine pure_ (i := 19) (N := some 101) (v := undef) (a' := ?_) #[true, true, true, true, true, true, true, true, true, true, true, true, true, true, true, true, true, true, true, true, false, false, false, false, false, false, false, false, false, false, false] rfl rfl (by kernel_rfl) (fun _ _ _ h => h) (Or.inr ⟨by rfl, rfl⟩) ?_ ?_
                  rotate_left
                  · simp only [Act.put, List.setIfInBounds_toArray, List.set_cons_zero, List.set_cons_succ, i64_w, i32_w]
                    rfl
                  refine pure_ (i := 20) (N := some 102) (v := undef) (a' := ?_) #[true, true, true, true, true, true, true, true, true, true, true, true, true, true, true, true, true, true, true, true, true, false, false, false, false, false, false, false, false, false, false] rfl rfl (by kernel_rfl) (fun _ _ _ h => h) (Or.inr ⟨by rfl, rfl⟩) ?_ ?_
                  rotate_left
                  · simp only [Act.put, List.setIfInBounds_toArray, List.set_cons_zero, List.set_cons_succ, i64_w, i32_w]
                    rfl
                  refine pure_ (i := 21) (N := some 103) (v := undef) (a' := ?_) #[true, true, true, true, true, true, true, true, true, true, true, true, true, true, true, true, true, true, true, true, true, true, false, false, false, false, false, false, false, false, false] rfl rfl (by kernel_rfl) (fun _ _ _ h => h) (Or.inr ⟨by rfl, rfl⟩) ?_ ?_
                  rotate_left
                  · simp only [Act.put, List.setIfInBounds_toArray, List.set_cons_zero, List.set_cons_succ, i64_w, i32_w]
                    rfl
                  refine pure_ (i := 22) (N := some 104) (v := undef) (a' := ?_) #[true, true, true, true, true, true, true, true, true, true, true, true, true, true, true, true, true, true, true, true, true, true, true, false, false, false, false, false, false, false, false] rfl rfl (by kernel_rfl) (fun _ _ _ h => h) (Or.inr ⟨by rfl, rfl⟩) ?_ ?_
                  rotate_left
                  · simp only [Act.put, List.setIfInBounds_toArray, List.set_cons_zero, List.set_cons_succ, i64_w, i32_w]
                    rfl
                  refine pure_ (i := 23) (N := some 105) (v := undef) (a' := ?_) #[true, true, true, true, true, true, true, true, true, true, true, true, true, true, true, true, true, true, true, true, true, true, true, true, false, false, false, false, false, false, false] rfl rfl (by kernel_rfl) (fun _ _ _ h => h) (Or.inr ⟨by rfl, rfl⟩) ?_ ?_
                  rotate_left
                  · simp only [Act.put, List.setIfInBounds_toArray, List.set_cons_zero, List.set_cons_succ, i64_w, i32_w]
                    rfl
                  refine pure_ (i := 24) (N := some 106) (v := undef) (a' := ?_) #[true, true, true, true, true, true, true, true, true, true, true, true, true, true, true, true, true, true, true, true, true, true, true, true, true, false, false, false, false, false, false] rfl rfl (by kernel_rfl) (fun _ _ _ h => h) (Or.inr ⟨by rfl, rfl⟩) ?_ ?_
                  rotate_left
                  · simp only [Act.put, List.setIfInBounds_toArray, List.set_cons_zero, List.set_cons_succ, i64_w, i32_w]
                    rfl
                  refine pure_ (i := 25) (N := some 107) (v := undef) (a' := ?_) #[true, true, true, true, true, true, true, true, true, true, true, true, true, true, true, true, true, true, true, true, true, true, true, true, true, true, false, false, false, false, false] rfl rfl (by kernel_rfl) (fun _ _ _ h => h) (Or.inr ⟨by rfl, rfl⟩) ?_ ?_
                  rotate_left
                  · simp only [Act.put, List.setIfInBounds_toArray, List.set_cons_zero, List.set_cons_succ, i64_w, i32_w]
                    rfl
                  refine pure_ (i := 26) (N := some 108) (v := undef) (a' := ?_) #[true, true, true, true, true, true, true, true, true, true, true, true, true, true, true, true, true, true, true, true, true, true, true, true, true, true, true, false, false, false, false] rfl rfl (by kernel_rfl) (fun _ _ _ h => h) (Or.inr ⟨by rfl, rfl⟩) ?_ ?_
                  rotate_left
                  · simp only [Act.put, List.setIfInBounds_toArray, List.set_cons_zero, List.set_cons_succ, i64_w, i32_w]
                    rfl
                  refine pure_ (i := 27) (N := some 109) (v := undef) (a' := ?_) #[true, true, true, true, true, true, true, true, true, true, true, true, true, true, true, true, true, true, true, true, true, true, true, true, true, true, true, true, false, false, false] rfl rfl (by kernel_rfl) (fun _ _ _ h => h) (Or.inr ⟨by rfl, rfl⟩) ?_ ?_
                  rotate_left
                  · simp only [Act.put, List.setIfInBounds_toArray, List.set_cons_zero, List.set_cons_succ, i64_w, i32_w]
                    rfl
                  refine pure_ (i := 28) (N := some 110) (v := undef) (a' := ?_) #[true, true, true, true, true, true, true, true, true, true, true, true, true, true, true, true, true, true, true, true, true, true, true, true, true, true, true, true, true, false, false] rfl rfl (by kernel_rfl) (fun _ _ _ h => h) (Or.inr ⟨by rfl, rfl⟩) ?_ ?_
                  rotate_left
                  · simp only [Act.put, List.setIfInBounds_toArray, List.set_cons_zero, List.set_cons_succ, i64_w, i32_w]
                    rfl
                  refine pure_ (i := 29) (N := some 111) (v := undef) (a' := ?_) #[true, true, true, true, true, true, true, true, true, true, true, true, true, true, true, true, true, true, true, true, true, true, true, true, true, true, true, true, true, true, false] rfl rfl (by kernel_rfl) (fun _ _ _ h => h) (Or.inr ⟨by rfl, rfl⟩) ?_ ?_
                  rotate_left
                  · simp only [Act.put, List.setIfInBounds_toArray, List.set_cons_zero, List.set_cons_succ, i64_w, i32_w]
                    rfl
                  refine pure_ (i := 30) (N := some 112) (v := ?_) (a' := ?_) #[true, true, true, true, true, true, true, true, true, true, true, true, true, true, true, true, true, true, true, true, true, true, true, true, true, true, true, true, true, true, true] rfl rfl (by kernel_rfl) (fun _ _ _ h => h) (Or.inl ⟨by rfl, ?_⟩) ?_ ?_
                  rotate_left
                  · intro w'
                    go_simp
                    with_reducible rfl
                  rotate_left
                  · simp only [Act.put, List.setIfInBounds_toArray, List.set_cons_zero, List.set_cons_succ, i64_w, i32_w]
                    rfl
                  refine done_ (by kernel_rfl) ?_
                  go_wp2
                  go_roundg (r.length - (k + 1))
                  case measure => have := HKQ.out; have := HK.out; omega
                  case rel => exact ⟨k + 1, rfl, by have := HK.out; omega, Nat.le_refl _, ⟨below_drew1 HBC.out⟩⟩
                | true =>
                  by_cases hz : n = 0
                  · have y1 : (n = 0) = True := eq_true hz
                    have y2 : decide (0 < n) = false := decide_eq_false (by omega)
                    have y3 : decide ((0 : Int) < (n : Int)) = false := decide_eq_false (by omega)
                    have y4 : decide ((n : Int) > 0) = false := decide_eq_false (by omega)
                    clear hz
                    refine start_ (n := 31) (S := fun w' => w'.cell? ⟨PB, 1, none⟩ = some (.slice (some ad1) r.length c5) ∧ w'.cell? (ad1.add (k * 2)) = some (.bool false) ∧ w'.cell? ⟨(ad1.add (k * 2)).block, (ad1.add (k * 2)).off + 1, none⟩ = some (.int .i64 yn)) (ds := []) #[false, false, false, false, false, false, false, false, false, false, false, false, false, false, false, false, false, false, false, false, false, false, false, false, false, false, false, false, false, false, false] (by kernel_rfl) rfl rfl ⟨HPC.out.2, HEC.out.1, HEC.out.2.1⟩ (fun hHeld => ?_)
                    refine pure_ (i := 0) (N := some 82) (v := ?_) (a' := ?_) #[true, false, false, false, false, false, false, false, false, false, false, false, false, false, false, false, false, false, false, false, false, false, false, false, false, false, false, false, false, false, false] rfl rfl (by kernel_rfl) (fun _ _ _ h => h) (Or.inl ⟨by rfl, ?_⟩) ?_ ?_
                    rotate_left
                    · intro w'
                      go_simp
                      with_reducible rfl
                    rotate_left
                    · simp only [Act.put, List.setIfInBounds_toArray, List.set_cons_zero, List.set_cons_succ, i64_w, i32_w]
                      rfl
                    refine pure_ (i := 2) (N := some 84) (v := ?_) (a' := ?_) #[true, false, true, false, false, false, false, false, false, false, false, false, false, false, false, false, false, false, false, false, false, false, false, false, false, false, false, false, false, false, false] rfl rfl (by kernel_rfl) (fun _ _ _ h => h) (Or.inl ⟨by rfl, ?_⟩) ?_ ?_
                    rotate_left
                    · intro w'
                      go_simp
                      with_reducible rfl
                    rotate_left
                    · simp only [Act.put, List.setIfInBounds_toArray, List.set_cons_zero, List.set_cons_succ, i64_w, i32_w]
                      rfl
                    refine take_ (i := 1) (N := some 83) (v := ?_) (a' := ?_) #[true, true, true, false, false, false, false, false, false, false, false, false, false, false, false, false, false, false, false, false, false, false, false, false, false, false, false, false, false, false, false] rfl rfl (by kernel_rfl) (fun _ _ _ h => h) (Or.inl ⟨by rfl, ?_⟩) hHeld ?_ ?_
                    rotate_left
                    · rintro w' ⟨s0, s1, s2⟩
                      go_simp
                      with_reducible rfl
                    rotate_left
                    · simp only [Act.put, List.setIfInBounds_toArray, List.set_cons_zero, List.set_cons_succ, i64_w, i32_w]
                      rfl
                    refine pure_ (i := 3) (N := some 85) (v := ?_) (a' := ?_) #[true, true, true, true, false, false, false, false, false, false, false, false, false, false, false, false, false, false, false, false, false, false, false, false, false, false, false, false, false, false, false] rfl rfl (by kernel_rfl) (fun _ _ _ h => h) (Or.inl ⟨by rfl, ?_⟩) ?_ ?_
                    rotate_left
                    · intro w'
                      go_simp
                      with_reducible rfl
                    rotate_left
                    · simp only [Act.put, List.setIfInBounds_toArray, List.set_cons_zero, List.set_cons_succ, i64_w, i32_w]
                      rfl
                    refine pure_ (i := 4) (N := some 86) (v := ?_) (a' := ?_) #[true, true, true, true, true, false, false, false, false, false, false, false, false, false, false, false, false, false, false, false, false, false, false, false, false, false, false, false, false, false, false] rfl rfl (by kernel_rfl) (fun _ _ _ h => h) (Or.inl ⟨by rfl, ?_⟩) ?_ ?_
                    rotate_left
                    · intro w'
                      go_simp
                      with_reducible rfl
                    rotate_left
                    · simp only [Act.put, List.setIfInBounds_toArray, List.set_cons_zero, List.set_cons_succ, i64_w, i32_w]
                      rfl
                    refine take_ (i := 5) (N := some 87) (v := ?_) (a' := ?_) #[true, true, true, true, true, true, false, false, false, false, false, false, false, false, false, false, false, false, false, false, false, false, false, false, false, false, false, false, false, false, false] rfl rfl (by kernel_rfl) (fun _ _ _ h => h) (Or.inl ⟨by rfl, ?_⟩) hHeld ?_ ?_
                    rotate_left
                    · rintro w' ⟨s0, s1, s2⟩
                      go_simp
                      with_reducible rfl
                    rotate_left
                    · simp only [Act.put, List.setIfInBounds_toArray, List.set_cons_zero, List.set_cons_succ, i64_w, i32_w]
                      rfl
                    refine pure_ (i := 6) (N := some 88) (v := ?_) (a' := ?_) #[true, true, true, true, true, true, true, false, false, false, false, false, false, false, false, false, false, false, false, false, false, false, false, false, false, false, false, false, false, false, false] rfl rfl (by kernel_rfl) (fun _ _ _ h => h) (Or.inl ⟨by rfl, ?_⟩) ?_ ?_
                    rotate_left
                    · intro w'
                      go_simp
                      with_reducible rfl
                    rotate_left
                    · simp only [Act.put, List.setIfInBounds_toArray, List.set_cons_zero, List.set_cons_succ, i64_w, i32_w]
                      rfl
                    refine pure_ (i := 7) (N := some 89) (v := ?_) (a' := ?_) #[true, true, true, true, true, true, true, true, false, false, false, false, false, false, false, false, false, false, false, false, false, false, false, false, false, false, false, false, false, false, false] rfl rfl (by kernel_rfl) (fun _ _ _ h => h) (Or.inl ⟨by rfl, ?_⟩) ?_ ?_
                    rotate_left
                    · intro w'
                      go_simp
                      with_reducible rfl
                    rotate_left
                    · simp only [Act.put, List.setIfInBounds_toArray, List.set_cons_zero, List.set_cons_succ, i64_w, i32_w]
                      rfl
                    refine pure_ (i := 8) (N := some 90) (v := ?_) (a' := ?_) #[true, true, true, true, true, true, true, true, true, false, false, false, false, false, false, false, false, false, false, false, false, false, false, false, false, false, false, false, false, false, false] rfl rfl (by kernel_rfl) (fun _ _ _ h => h) (Or.inl ⟨by rfl, ?_⟩) ?_ ?_
                    rotate_left
                    · intro w'
                      go_simp
                      with_reducible rfl
                    rotate_left
                    · simp only [Act.put, List.setIfInBounds_toArray, List.set_cons_zero, List.set_cons_succ, i64_w, i32_w]
                      rfl
                    refine pure_ (i := 9) (N := some 91) (v := ?_) (a' := ?_) #[true, true, true, true, true, true, true, true, true, true, false, false, false, false, false, false, false, false, false, false, false, false, false, false, false, false, false, false, false, false, false] rfl rfl (by kernel_rfl) (fun _ _ _ h => h) (Or.inl ⟨by rfl, ?_⟩) ?_ ?_
                    rotate_left
                    · intro w'
                      go_simp
                      with_reducible rfl
                    rotate_left
                    · simp only [Act.put, List.setIfInBounds_toArray, List.set_cons_zero, List.set_cons_succ, i64_w, i32_w]
                      rfl
                    refine pure_ (i := 10) (N := some 92) (v := ?_) (a' := ?_) #[true, true, true, true, true, true, true, true, true, true, true, false, false, false, false, false, false, false, false, false, false, false, false, false, false, false, false, false, false, false, false] rfl rfl (by kernel_rfl) (fun _ _ _ h => h) (Or.inl ⟨by rfl, ?_⟩) ?_ ?_
                    rotate_left
                    · intro w'
                      go_simp
                      with_reducible rfl
                    rotate_left
                    · simp only [Act.put, List.setIfInBounds_toArray, List.set_cons_zero, List.set_cons_succ, i64_w, i32_w]
                      rfl
                    refine pure_ (i := 11) (N := some 93) (v := ?_) (a' := ?_) #[true, true, true, true, true, true, true, true, true, true, true, true, false, false, false, false, false, false, false, false, false, false, false, false, false, false, false, false, false, false, false] rfl rfl (by kernel_rfl) (fun _ _ _ h => h) (Or.inl ⟨by rfl, ?_⟩) ?_ ?_
                    rotate_left
                    · intro w'
                      go_simp
                      with_reducible rfl
                    rotate_left
                    · simp only [Act.put, List.setIfInBounds_toArray, List.set_cons_zero, List.set_cons_succ, i64_w, i32_w]
                      rfl
                    refine pure_ (i := 12) (N := some 94) (v := ?_) (a' := ?_) #[true, true, true, true, true, true, true, true, true, true, true, true, true, false, false, false, false, false, false, false, false, false, false, false, false, false, false, false, false, false, false] rfl rfl (by kernel_rfl) (fun _ _ _ h => h) (Or.inl ⟨by rfl, ?_⟩) ?_ ?_
                    rotate_left
                    · intro w'
                      go_simp
                      with_reducible rfl
                    rotate_left
                    · simp only [Act.put, List.setIfInBounds_toArray, List.set_cons_zero, List.set_cons_succ, i64_w, i32_w]
                      rfl
                    refine pure_ (i := 13) (N := some 95) (v := ?_) (a' := ?_) #[true, true, true, true, true, true, true, true, true, true, true, true, true, true, false, false, false, false, false, false, false, false, false, false, false, false, false, false, false, false, false] rfl rfl (by kernel_rfl) (fun _ _ _ h => h) (Or.inl ⟨by rfl, ?_⟩) ?_ ?_
                    rotate_left
                    · intro w'
                      go_simp
                      with_reducible rfl
                    rotate_left
                    · simp only [Act.put, List.setIfInBounds_toArray, List.set_cons_zero, List.set_cons_succ, i64_w, i32_w]
                      rfl
                    refine pure_ (i := 14) (N := some 96) (v := ?_) (a' := ?_) #[true, true, true, true, true, true, true, true, true, true, true, true, true, true, true, false, false, false, false, false, false, false, false, false, false, false, false, false, false, false, false] rfl rfl (by kernel_rfl) (fun _ _ _ h => h) (Or.inl ⟨by rfl, ?_⟩) ?_ ?_
                    rotate_left
                    · intro w'
                      go_simp
                      with_reducible rfl
                    rotate_left
                    · simp only [Act.put, List.setIfInBounds_toArray, List.set_cons_zero, List.set_cons_succ, i64_w, i32_w]
                      rfl
                    refine pure_ (i := 15) (N := some 97) (v := ?_) (a' := ?_) #[true, true, true, true, true, true, true, true, true, true, true, true, true, true, true, true, false, false, false, false, false, false, false, false, false, false, false, false, false, false, false] rfl rfl (by kernel_rfl) (fun _ _ _ h => h) (Or.inl ⟨by rfl, ?_⟩) ?_ ?_
                    rotate_left
                    · intro w'
                      go_simp
                      with_reducible rfl
                    rotate_left
                    · simp only [Act.put, List.setIfInBounds_toArray, List.set_cons_zero, List.set_cons_succ, i64_w, i32_w]
                      rfl
                    refine pure_ (i := 16) (N := some 98) (v := undef) (a' := ?_) #[true, true, true, true, true, true, true, true, true, true, true, true, true, true, true, true, true, false, false, false, false, false, false, false, false, false, false, false, false, false, false] rfl rfl (by kernel_rfl) (fun _ _ _ h => h) (Or.inr ⟨by rfl, rfl⟩) ?_ ?_
                    rotate_left
                    · simp only [Act.put, List.setIfInBounds_toArray, List.set_cons_zero, List.set_cons_succ, i64_w, i32_w]
                      rfl
                    refine pure_ (i := 17) (N := some 99) (v := undef) (a' := ?_) #[true, true, true, true, true, true, true, true, true, true, true, true, true, true, true, true, true, true, false, false, false, false, false, false, false, false, false, false, false, false, false] rfl rfl (by kernel_rfl) (fun _ _ _ h => h) (Or.inr ⟨by rfl, rfl⟩) ?_ ?_
                    rotate_left
                    · simp only [Act.put, List.setIfInBounds_toArray, List.set_cons_zero, List.set_cons_succ, i64_w, i32_w]
                      rfl
                    refine pure_ (i := 18) (N := some 100) (v := undef) (a' := ?_) #[true, true, true, true, true, true, true, true, true, true, true, true, true, true, true, true, true, true, true, false, false, false, false, false, false, false, false, false, false, false, false] rfl rfl (by kernel_rfl) (fun _ _ _ h => h) (Or.inr ⟨by rfl, rfl⟩) ?_ ?_
                    rotate_left
                    · simp only [Act.put, List.setIfInBounds_toArray, List.set_cons_zero, List.set_cons_succ, i64_w, i32_w]
                      rfl
                    refine pure_ (i := 19) (N := some 101) (v := undef) (a' := ?_) #[true, true, true, true, true, true, true, true, true, true, true, true, true, true, true, true, true, true, true, true, false, false, false, false, false, false, false, false, false, false, false] rfl rfl (by kernel_rfl) (fun _ _ _ h => h) (Or.inr ⟨by rfl, rfl⟩) ?_ ?_
                    rotate_left
                    · simp only [Act.put, List.setIfInBounds_toArray, List.set_cons_zero, List.set_cons_succ, i64_w, i32_w]
                      rfl
                    refine pure_ (i := 20) (N := some 102) (v := undef) (a' := ?_) #[true, true, true, true, true, true, true, true, true, true, true, true, true, true, true, true, true, true, true, true, true, false, false, false, false, false, false, false, false, false, false] rfl rfl (by kernel_rfl) (fun _ _ _ h => h) (Or.inr ⟨by rfl, rfl⟩) ?_ ?_
                    rotate_left
                    · simp only [Act.put, List.setIfInBounds_toArray, List.set_cons_zero, List.set_cons_succ, i64_w, i32_w]
                      rfl
                    refine pure_ (i := 21) (N := some 103) (v := undef) (a' := ?_) #[true, true, true, true, true, true, true, true, true, true, true, true, true, true, true, true, true, true, true, true, true, true, false, false, false, false, false, false, false, false, false] rfl rfl (by kernel_rfl) (fun _ _ _ h => h) (Or.inr ⟨by rfl, rfl⟩) ?_ ?_
                    rotate_left
                    · simp only [Act.put, List.setIfInBounds_toArray, List.set_cons_zero, List.set_cons_succ, i64_w, i32_w]
                      rfl
                    refine pure_ (i := 22) (N := some 104) (v := undef) (a' := ?_) #[true, true, true, true, true, true, true, true, true, true, true, true, true, true, true, true, true, true, true, true, true, true, true, false, false, false, false, false, false, false, false] rfl rfl (by kernel_rfl) (fun _ _ _ h => h) (Or.inr ⟨by rfl, rfl⟩) ?_ ?_
                    rotate_left
                    · simp only [Act.put, List.setIfInBounds_toArray, List.set_cons_zero, List.set_cons_succ, i64_w, i32_w]
                      rfl
                    refine pure_ (i := 23) (N := some 105) (v := undef) (a' := ?_) #[true, true, true, true, true, true, true, true, true, true, true, true, true, true, true, true, true, true, true, true, true, true, true, true, false, false, false, false, false, false, false] rfl rfl (by kernel_rfl) (fun _ _ _ h => h) (Or.inr ⟨by rfl, rfl⟩) ?_ ?_
                    rotate_left
                    · simp only [Act.put, List.setIfInBounds_toArray, List.set_cons_zero, List.set_cons_succ, i64_w, i32_w]
                      rfl
                    refine pure_ (i := 24) (N := some 106) (v := undef) (a' := ?_) #[true, true, true, true, true, true, true, true, true, true, true, true, true, true, true, true, true, true, true, true, true, true, true, true, true, false, false, false, false, false, false] rfl rfl (by kernel_rfl) (fun _ _ _ h => h) (Or.inr ⟨by rfl, rfl⟩) ?_ ?_
                    rotate_left
                    · simp only [Act.put, List.setIfInBounds_toArray, List.set_cons_zero, List.set_cons_succ, i64_w, i32_w]
                      rfl
                    refine pure_ (i := 25) (N := some 107) (v := undef) (a' := ?_) #[true, true, true, true, true, true, true, true, true, true, true, true, true, true, true, true, true, true, true, true, true, true, true, true, true, true, false, false, false, false, false] rfl rfl (by kernel_rfl) (fun _ _ _ h => h) (Or.inr ⟨by rfl, rfl⟩) ?_ ?_
                    rotate_left
                    · simp only [Act.put, List.setIfInBounds_toArray, List.set_cons_zero, List.set_cons_succ, i64_w, i32_w]
                      rfl
                    refine pure_ (i := 26) (N := some 108) (v := undef) (a' := ?_) #[true, true, true, true, true, true, true, true, true, true, true, true, true, true, true, true, true, true, true, true, true, true, true, true, true, true, true, false, false, false, false] rfl rfl (by kernel_rfl) (fun _ _ _ h => h) (Or.inr ⟨by rfl, rfl⟩) ?_ ?_
                    rotate_left
                    · simp only [Act.put, List.setIfInBounds_toArray, List.set_cons_zero, List.set_cons_succ, i64_w, i32_w]
                      rfl
                    refine pure_ (i := 27) (N := some 109) (v := undef) (a' := ?_) #[true, true, true, true, true, true, true, true, true, true, true, true, true, true, true, true, true, true, true, true, true, true, true, true, true, true, true, true, false, false, false] rfl rfl (by kernel_rfl) (fun _ _ _ h => h) (Or.inr ⟨by rfl, rfl⟩) ?_ ?_
                    rotate_left
                    · simp only [Act.put, List.setIfInBounds_toArray, List.set_cons_zero, List.set_cons_succ, i64_w, i32_w]
                      rfl
                    refine pure_ (i := 28) (N := some 110) (v := undef) (a' := ?_) #[true, true, true, true, true, true, true, true, true, true, true, true, true, true, true, true, true, true, true, true, true, true, true, true, true, true, true, true, true, false, false] rfl rfl (by kernel_rfl) (fun _ _ _ h => h) (Or.inr ⟨by rfl, rfl⟩) ?_ ?_
                    rotate_left
                    · simp only [Act.put, List.setIfInBounds_toArray, List.set_cons_zero, List.set_cons_succ, i64_w, i32_w]
                      rfl
                    refine pure_ (i := 29) (N := some 111) (v := undef) (a' := ?_) #[true, true, true, true, true, true, true, true, true, true, true, true, true, true, true, true, true, true, true, true, true, true, true, true, true, true, true, true, true, true, false] rfl rfl (by kernel_rfl) (fun _ _ _ h => h) (Or.inr ⟨by rfl, rfl⟩) ?_ ?_
                    rotate_left
                    · simp only [Act.put, List.setIfInBounds_toArray, List.set_cons_zero, List.set_cons_succ, i64_w, i32_w]
                      rfl
                    refine pure_ (i := 30) (N := some 112) (v := ?_) (a' := ?_) #[true, true, true, true, true, true, true, true, true, true, true, true, true, true, true, true, true, true, true, true, true, true, true, true, true, true, true, true, true, true, true] rfl rfl (by kernel_rfl) (fun _ _ _ h => h) (Or.inl ⟨by rfl, ?_⟩) ?_ ?_
                    rotate_left
                    · intro w'
                      go_simp
                      with_reducible rfl
                    rotate_left
                    · simp only [Act.put, List.setIfInBounds_toArray, List.set_cons_zero, List.set_cons_succ, i64_w, i32_w]
                      rfl
                    refine done_ (by kernel_rfl) ?_
                    go_wp2
                    go_roundg (r.length - (k + 1))
                    case measure => have := HKQ.out; have := HK.out; omega
                    case rel => exact ⟨k + 1, rfl, by have := HK.out; omega, Nat.le_refl _, ⟨below_drew1 HBC.out⟩⟩
                  · have hnt := HNT.out
                    obtain ⟨x, t', et⟩ : ∃ x t', t = x :: t' := by
                      cases t with
                      | nil => simp at hnt; exact absurd hnt hz
                      | cons x t' => exact ⟨x, t', rfl⟩
                    obtain ⟨hx0, hxb⟩ := HXF.out x t' rfl et
                    have hxf := HB8.out rfl x.toNat hxb
                    have hyk := HOK0.out
                    simp [okSym] at hyk
                    obtain ⟨adt, eat, hct⟩ := Kd.at_int HT.out 0 (by omega) (by rw [hnt, et]; simp)
                    rw [show rd t 0 = x by rw [et]; rfl, show (0 : Int).toNat = 0 from rfl, Addr.add_zero'] at hct
                    obtain ⟨adf, cs, eaf, _, ⟨A9, c9, rfl, hle9, hC9⟩, hcf⟩ := ReadsRow.get_ CF.out ([] : List Int) yn hyk.1 hyk.2
                    have hcf0 := hcf 0 _ rfl
                    rw [show yn.toNat * (Kd.slice 3 (Kd.int .i64)).sz + 0 = yn.toNat from by show yn.toNat * 1 + 0 = yn.toNat; omega] at hcf0
                    rw [HFI.out yn.toNat (by omega)] at hcf0 hle9 hC9
                    have hrl := HSO.out.get (i := yn.toNat) (by omega)
                    have hhas : ∃ k, regletlaw13_has.f k (idx 0 (fl.getD yn.toNat [])) x = some true := (Ev.val (has_ev _ x (by have := idx_length 0 (fl.getD yn.toNat []); have := HMO.out.t4; omega)) (decide_eq_true ((mem_idx x _ 0).2 ⟨x.toNat, hxf, by omega⟩))).rounds
                    obtain ⟨kh, hkh⟩ := hhas
                    have HB48 : Aside0 (Below w4.heap.size w4 w8) := ⟨HB5.out.trans (HBC.out.mono HB5.out.size)⟩
                    have PH : Aside0 (∀ W, Below w8.heap.size w8 W → Calls Try.prog 17 #[.slice A9 (idx 0 (fl.getD yn.toNat [])).length c9, .int .i64 x] W fun e w' => e = .returned (.bool true) ∧ Drawn0 W w') := ⟨fun W hb => regletlaw13_has.calls kh A9 c9 _ x true W (Kd.C_below hC9 (HB48.out.trans (hb.mono HB48.out.size))) hle9 hkh⟩
                    have HCF : Aside0 (w8.cell? (adf.add yn.toNat) = some (.slice A9 (idx 0 (fl.getD yn.toNat [])).length c9)) := ⟨pw_cell_below HB48.out hcf0⟩
                    have HCT := Aside0.mk hct
                    have HBd : Aside0 (Below w8.heap.size w8 w8.drew) := ⟨below_drew1 (Below.refl _ _)⟩
                    have y1 : (n = 0) = False := eq_false hz
                    have y2 : decide (0 < n) = true := decide_eq_true (by omega)
                    have y3 : decide ((0 : Int) < (n : Int)) = true := decide_eq_true (by omega)
                    have y4 : decide ((n : Int) > 0) = true := decide_eq_true (by omega)
                    have r0 : ((0 : Int) < (n : Int)) = True := eq_true (by omega)
                    have r1 : (0 < n) = True := eq_true (by omega)
                    have r2 : (0 ≤ yn) = True := eq_true hyk.1
                    have r3 : (yn < (ns.length : Int)) = True := eq_true hyk.2
                    cases eat
                    cases eaf
                    clear hcf hcf0 hle9 hC9 hkh hct hz hnt hx0 hxb hxf hyk hrl
                    refine start_ (n := 31) (S := fun w' => w'.cell? ⟨PB, 1, none⟩ = some (.slice (some ad1) r.length c5) ∧ w'.cell? (ad1.add (k * 2)) = some (.bool false) ∧ w'.cell? ⟨(ad1.add (k * 2)).block, (ad1.add (k * 2)).off + 1, none⟩ = some (.int .i64 yn) ∧ w'.cell? (adf.add yn.toNat) = some (.slice A9 (idx 0 (fl.getD yn.toNat [])).length c9) ∧ w'.cell? adt = some (.int .i64 x)) (ds := []) #[false, false, false, false, false, false, false, false, false, false, false, false, false, false, false, false, false, false, false, false, false, false, false, false, false, false, false, false, false, false, false] (by kernel_rfl) rfl rfl ⟨HPC.out.2, HEC.out.1, HEC.out.2.1, HCF.out, HCT.out⟩ (fun hHeld => ?_)
                    refine pure_ (i := 0) (N := some 82) (v := ?_) (a' := ?_) #[true, false, false, false, false, false, false, false, false, false, false, false, false, false, false, false, false, false, false, false, false, false, false, false, false, false, false, false, false, false, false] rfl rfl (by kernel_rfl) (fun _ _ _ h => h) (Or.inl ⟨by rfl, ?_⟩) ?_ ?_
                    rotate_left
                    · intro w'
                      go_simp
                      with_reducible rfl
                    rotate_left
                    · simp only [Act.put, List.setIfInBounds_toArray, List.set_cons_zero, List.set_cons_succ, i64_w, i32_w]
                      rfl
                    refine pure_ (i := 2) (N := some 84) (v := ?_) (a' := ?_) #[true, false, true, false, false, false, false, false, false, false, false, false, false, false, false, false, false, false, false, false, false, false, false, false, false, false, false, false, false, false, false] rfl rfl (by kernel_rfl) (fun _ _ _ h => h) (Or.inl ⟨by rfl, ?_⟩) ?_ ?_
                    rotate_left
                    · intro w'
                      go_simp
                      with_reducible rfl
                    rotate_left
                    · simp only [Act.put, List.setIfInBounds_toArray, List.set_cons_zero, List.set_cons_succ, i64_w, i32_w]
                      rfl
                    refine take_ (i := 1) (N := some 83) (v := ?_) (a' := ?_) #[true, true, true, false, false, false, false, false, false, false, false, false, false, false, false, false, false, false, false, false, false, false, false, false, false, false, false, false, false, false, false] rfl rfl (by kernel_rfl) (fun _ _ _ h => h) (Or.inl ⟨by rfl, ?_⟩) hHeld ?_ ?_
                    rotate_left
                    · rintro w' ⟨s0, s1, s2, s3, s4⟩
                      go_simp
                      with_reducible rfl
                    rotate_left
                    · simp only [Act.put, List.setIfInBounds_toArray, List.set_cons_zero, List.set_cons_succ, i64_w, i32_w]
                      rfl
                    refine pure_ (i := 3) (N := some 85) (v := ?_) (a' := ?_) #[true, true, true, true, false, false, false, false, false, false, false, false, false, false, false, false, false, false, false, false, false, false, false, false, false, false, false, false, false, false, false] rfl rfl (by kernel_rfl) (fun _ _ _ h => h) (Or.inl ⟨by rfl, ?_⟩) ?_ ?_
                    rotate_left
                    · intro w'
                      go_simp
                      with_reducible rfl
                    rotate_left
                    · simp only [Act.put, List.setIfInBounds_toArray, List.set_cons_zero, List.set_cons_succ, i64_w, i32_w]
                      rfl
                    refine pure_ (i := 4) (N := some 86) (v := ?_) (a' := ?_) #[true, true, true, true, true, false, false, false, false, false, false, false, false, false, false, false, false, false, false, false, false, false, false, false, false, false, false, false, false, false, false] rfl rfl (by kernel_rfl) (fun _ _ _ h => h) (Or.inl ⟨by rfl, ?_⟩) ?_ ?_
                    rotate_left
                    · intro w'
                      go_simp
                      with_reducible rfl
                    rotate_left
                    · simp only [Act.put, List.setIfInBounds_toArray, List.set_cons_zero, List.set_cons_succ, i64_w, i32_w]
                      rfl
                    refine take_ (i := 5) (N := some 87) (v := ?_) (a' := ?_) #[true, true, true, true, true, true, false, false, false, false, false, false, false, false, false, false, false, false, false, false, false, false, false, false, false, false, false, false, false, false, false] rfl rfl (by kernel_rfl) (fun _ _ _ h => h) (Or.inl ⟨by rfl, ?_⟩) hHeld ?_ ?_
                    rotate_left
                    · rintro w' ⟨s0, s1, s2, s3, s4⟩
                      go_simp
                      with_reducible rfl
                    rotate_left
                    · simp only [Act.put, List.setIfInBounds_toArray, List.set_cons_zero, List.set_cons_succ, i64_w, i32_w]
                      rfl
                    refine pure_ (i := 6) (N := some 88) (v := ?_) (a' := ?_) #[true, true, true, true, true, true, true, false, false, false, false, false, false, false, false, false, false, false, false, false, false, false, false, false, false, false, false, false, false, false, false] rfl rfl (by kernel_rfl) (fun _ _ _ h => h) (Or.inl ⟨by rfl, ?_⟩) ?_ ?_
                    rotate_left
                    · intro w'
                      go_simp
                      with_reducible rfl
                    rotate_left
                    · simp only [Act.put, List.setIfInBounds_toArray, List.set_cons_zero, List.set_cons_succ, i64_w, i32_w]
                      rfl
                    refine pure_ (i := 7) (N := some 89) (v := ?_) (a' := ?_) #[true, true, true, true, true, true, true, true, false, false, false, false, false, false, false, false, false, false, false, false, false, false, false, false, false, false, false, false, false, false, false] rfl rfl (by kernel_rfl) (fun _ _ _ h => h) (Or.inl ⟨by rfl, ?_⟩) ?_ ?_
                    rotate_left
                    · intro w'
                      go_simp
                      with_reducible rfl
                    rotate_left
                    · simp only [Act.put, List.setIfInBounds_toArray, List.set_cons_zero, List.set_cons_succ, i64_w, i32_w]
                      rfl
                    refine pure_ (i := 8) (N := some 90) (v := ?_) (a' := ?_) #[true, true, true, true, true, true, true, true, true, false, false, false, false, false, false, false, false, false, false, false, false, false, false, false, false, false, false, false, false, false, false] rfl rfl (by kernel_rfl) (fun _ _ _ h => h) (Or.inl ⟨by rfl, ?_⟩) ?_ ?_
                    rotate_left
                    · intro w'
                      go_simp
                      with_reducible rfl
                    rotate_left
                    · simp only [Act.put, List.setIfInBounds_toArray, List.set_cons_zero, List.set_cons_succ, i64_w, i32_w]
                      rfl
                    refine pure_ (i := 9) (N := some 91) (v := ?_) (a' := ?_) #[true, true, true, true, true, true, true, true, true, true, false, false, false, false, false, false, false, false, false, false, false, false, false, false, false, false, false, false, false, false, false] rfl rfl (by kernel_rfl) (fun _ _ _ h => h) (Or.inl ⟨by rfl, ?_⟩) ?_ ?_
                    rotate_left
                    · intro w'
                      go_simp
                      with_reducible rfl
                    rotate_left
                    · simp only [Act.put, List.setIfInBounds_toArray, List.set_cons_zero, List.set_cons_succ, i64_w, i32_w]
                      rfl
                    refine pure_ (i := 10) (N := some 92) (v := ?_) (a' := ?_) #[true, true, true, true, true, true, true, true, true, true, true, false, false, false, false, false, false, false, false, false, false, false, false, false, false, false, false, false, false, false, false] rfl rfl (by kernel_rfl) (fun _ _ _ h => h) (Or.inl ⟨by rfl, ?_⟩) ?_ ?_
                    rotate_left
                    · intro w'
                      go_simp
                      with_reducible rfl
                    rotate_left
                    · simp only [Act.put, List.setIfInBounds_toArray, List.set_cons_zero, List.set_cons_succ, i64_w, i32_w]
                      rfl
                    refine pure_ (i := 11) (N := some 93) (v := ?_) (a' := ?_) #[true, true, true, true, true, true, true, true, true, true, true, true, false, false, false, false, false, false, false, false, false, false, false, false, false, false, false, false, false, false, false] rfl rfl (by kernel_rfl) (fun _ _ _ h => h) (Or.inl ⟨by rfl, ?_⟩) ?_ ?_
                    rotate_left
                    · intro w'
                      go_simp
                      with_reducible rfl
                    rotate_left
                    · simp only [Act.put, List.setIfInBounds_toArray, List.set_cons_zero, List.set_cons_succ, i64_w, i32_w]
                      rfl
                    refine pure_ (i := 12) (N := some 94) (v := ?_) (a' := ?_) #[true, true, true, true, true, true, true, true, true, true, true, true, true, false, false, false, false, false, false, false, false, false, false, false, false, false, false, false, false, false, false] rfl rfl (by kernel_rfl) (fun _ _ _ h => h) (Or.inl ⟨by rfl, ?_⟩) ?_ ?_
                    rotate_left
                    · intro w'
                      go_simp
                      with_reducible rfl
                    rotate_left
                    · simp only [Act.put, List.setIfInBounds_toArray, List.set_cons_zero, List.set_cons_succ, i64_w, i32_w]
                      rfl
                    refine pure_ (i := 13) (N := some 95) (v := ?_) (a' := ?_) #[true, true, true, true, true, true, true, true, true, true, true, true, true, true, false, false, false, false, false, false, false, false, false, false, false, false, false, false, false, false, false] rfl rfl (by kernel_rfl) (fun _ _ _ h => h) (Or.inl ⟨by rfl, ?_⟩) ?_ ?_
                    rotate_left
                    · intro w'
                      go_simp
                      with_reducible rfl
                    rotate_left
                    · simp only [Act.put, List.setIfInBounds_toArray, List.set_cons_zero, List.set_cons_succ, i64_w, i32_w]
                      rfl
                    refine pure_ (i := 14) (N := some 96) (v := ?_) (a' := ?_) #[true, true, true, true, true, true, true, true, true, true, true, true, true, true, true, false, false, false, false, false, false, false, false, false, false, false, false, false, false, false, false] rfl rfl (by kernel_rfl) (fun _ _ _ h => h) (Or.inl ⟨by rfl, ?_⟩) ?_ ?_
                    rotate_left
                    · intro w'
                      go_simp
                      with_reducible rfl
                    rotate_left
                    · simp only [Act.put, List.setIfInBounds_toArray, List.set_cons_zero, List.set_cons_succ, i64_w, i32_w]
                      rfl
                    refine pure_ (i := 15) (N := some 97) (v := ?_) (a' := ?_) #[true, true, true, true, true, true, true, true, true, true, true, true, true, true, true, true, false, false, false, false, false, false, false, false, false, false, false, false, false, false, false] rfl rfl (by kernel_rfl) (fun _ _ _ h => h) (Or.inl ⟨by rfl, ?_⟩) ?_ ?_
                    rotate_left
                    · intro w'
                      go_simp
                      with_reducible rfl
                    rotate_left
                    · simp only [Act.put, List.setIfInBounds_toArray, List.set_cons_zero, List.set_cons_succ, i64_w, i32_w]
                      rfl
                    refine pure_ (i := 16) (N := some 98) (v := ?_) (a' := ?_) #[true, true, true, true, true, true, true, true, true, true, true, true, true, true, true, true, true, false, false, false, false, false, false, false, false, false, false, false, false, false, false] rfl rfl (by kernel_rfl) (fun _ _ _ h => h) (Or.inl ⟨by rfl, ?_⟩) ?_ ?_
                    rotate_left
                    · intro w'
                      go_simp
                      with_reducible rfl
                    rotate_left
                    · simp only [Act.put, List.setIfInBounds_toArray, List.set_cons_zero, List.set_cons_succ, i64_w, i32_w]
                      rfl
                    refine pure_ (i := 17) (N := some 99) (v := ?_) (a' := ?_) #[true, true, true, true, true, true, true, true, true, true, true, true, true, true, true, true, true, true, false, false, false, false, false, false, false, false, false, false, false, false, false] rfl rfl (by kernel_rfl) (fun _ _ _ h => h) (Or.inl ⟨by rfl, ?_⟩) ?_ ?_
                    rotate_left
                    · intro w'
                      go_simp
                      with_reducible rfl
                    rotate_left
                    · simp only [Act.put, List.setIfInBounds_toArray, List.set_cons_zero, List.set_cons_succ, i64_w, i32_w]
                      rfl
                    refine pure_ (i := 19) (N := some 101) (v := ?_) (a' := ?_) #[true, true, true, true, true, true, true, true, true, true, true, true, true, true, true, true, true, true, false, true, false, false, false, false, false, false, false, false, false, false, false] rfl rfl (by kernel_rfl) (fun _ _ _ h => h) (Or.inl ⟨by rfl, ?_⟩) ?_ ?_
                    rotate_left
                    · intro w'
                      go_simp
                      with_reducible rfl
                    rotate_left
                    · simp only [Act.put, List.setIfInBounds_toArray, List.set_cons_zero, List.set_cons_succ, i64_w, i32_w]
                      rfl
                    refine pure_ (i := 25) (N := some 107) (v := ?_) (a' := ?_) #[true, true, true, true, true, true, true, true, true, true, true, true, true, true, true, true, true, true, false, true, false, false, false, false, false, true, false, false, false, false, false] rfl rfl (by kernel_rfl) (fun _ _ _ h => h) (Or.inl ⟨by rfl, ?_⟩) ?_ ?_
                    rotate_left
                    · intro w'
                      go_simp
                      with_reducible rfl
                    rotate_left
                    · simp only [Act.put, List.setIfInBounds_toArray, List.set_cons_zero, List.set_cons_succ, i64_w, i32_w]
                      rfl
                    refine pure_ (i := 26) (N := some 108) (v := ?_) (a' := ?_) #[true, true, true, true, true, true, true, true, true, true, true, true, true, true, true, true, true, true, false, true, false, false, false, false, false, true, true, false, false, false, false] rfl rfl (by kernel_rfl) (fun _ _ _ h => h) (Or.inl ⟨by rfl, ?_⟩) ?_ ?_
                    rotate_left
                    · intro w'
                      go_simp
                      with_reducible rfl
                    rotate_left
                    · simp only [Act.put, List.setIfInBounds_toArray, List.set_cons_zero, List.set_cons_succ, i64_w, i32_w]
                      rfl
                    refine take_ (i := 18) (N := some 100) (v := ?_) (a' := ?_) #[true, true, true, true, true, true, true, true, true, true, true, true, true, true, true, true, true, true, true, true, false, false, false, false, false, true, true, false, false, false, false] rfl rfl (by kernel_rfl) (fun _ _ _ h => h) (Or.inl ⟨by rfl, ?_⟩) hHeld ?_ ?_
                    rotate_left
                    · rintro w' ⟨s0, s1, s2, s3, s4⟩
                      go_simp
                      with_reducible rfl
                    rotate_left
                    · simp only [Act.put, List.setIfInBounds_toArray, List.set_cons_zero, List.set_cons_succ, i64_w, i32_w]
                      rfl
                    refine pure_ (i := 20) (N := some 102) (v := ?_) (a' := ?_) #[true, true, true, true, true, true, true, true, true, true, true, true, true, true, true, true, true, true, true, true, true, false, false, false, false, true, true, false, false, false, false] rfl rfl (by kernel_rfl) (fun _ _ _ h => h) (Or.inl ⟨by rfl, ?_⟩) ?_ ?_
                    rotate_left
                    · intro w'
                      go_simp
                      with_reducible rfl
                    rotate_left
                    · simp only [Act.put, List.setIfInBounds_toArray, List.set_cons_zero, List.set_cons_succ, i64_w, i32_w]
                      rfl
                    refine pure_ (i := 21) (N := some 103) (v := ?_) (a' := ?_) #[true, true, true, true, true, true, true, true, true, true, true, true, true, true, true, true, true, true, true, true, true, true, false, false, false, true, true, false, false, false, false] rfl rfl (by kernel_rfl) (fun _ _ _ h => h) (Or.inl ⟨by rfl, ?_⟩) ?_ ?_
                    rotate_left
                    · intro w'
                      go_simp
                      with_reducible rfl
                    rotate_left
                    · simp only [Act.put, List.setIfInBounds_toArray, List.set_cons_zero, List.set_cons_succ, i64_w, i32_w]
                      rfl
                    refine take_ (i := 22) (N := some 104) (v := ?_) (a' := ?_) #[true, true, true, true, true, true, true, true, true, true, true, true, true, true, true, true, true, true, true, true, true, true, true, false, false, true, true, false, false, false, false] rfl rfl (by kernel_rfl) (fun _ _ _ h => h) (Or.inl ⟨by rfl, ?_⟩) hHeld ?_ ?_
                    rotate_left
                    · rintro w' ⟨s0, s1, s2, s3, s4⟩
                      go_simp
                      with_reducible rfl
                    rotate_left
                    · simp only [Act.put, List.setIfInBounds_toArray, List.set_cons_zero, List.set_cons_succ, i64_w, i32_w]
                      rfl
                    refine pure_ (i := 23) (N := some 105) (v := ?_) (a' := ?_) #[true, true, true, true, true, true, true, true, true, true, true, true, true, true, true, true, true, true, true, true, true, true, true, true, false, true, true, false, false, false, false] rfl rfl (by kernel_rfl) (fun _ _ _ h => h) (Or.inl ⟨by rfl, ?_⟩) ?_ ?_
                    rotate_left
                    · intro w'
                      go_simp
                      with_reducible rfl
                    rotate_left
                    · simp only [Act.put, List.setIfInBounds_toArray, List.set_cons_zero, List.set_cons_succ, i64_w, i32_w]
                      rfl
                    refine take_ (i := 24) (N := some 106) (v := ?_) (a' := ?_) #[true, true, true, true, true, true, true, true, true, true, true, true, true, true, true, true, true, true, true, true, true, true, true, true, true, true, true, false, false, false, false] rfl rfl (by kernel_rfl) (fun _ _ _ h => h) (Or.inl ⟨by rfl, ?_⟩) hHeld ?_ ?_
                    rotate_left
                    · rintro w' ⟨s0, s1, s2, s3, s4⟩
                      go_simp
                      with_reducible rfl
                    rotate_left
                    · simp only [Act.put, List.setIfInBounds_toArray, List.set_cons_zero, List.set_cons_succ, i64_w, i32_w]
                      rfl
                    refine take_ (i := 27) (N := some 109) (v := ?_) (a' := ?_) #[true, true, true, true, true, true, true, true, true, true, true, true, true, true, true, true, true, true, true, true, true, true, true, true, true, true, true, true, false, false, false] rfl rfl (by kernel_rfl) (fun _ _ _ h => h) (Or.inl ⟨by rfl, ?_⟩) hHeld ?_ ?_
                    rotate_left
                    · rintro w' ⟨s0, s1, s2, s3, s4⟩
                      go_simp
                      with_reducible rfl
                    rotate_left
                    · simp only [Act.put, List.setIfInBounds_toArray, List.set_cons_zero, List.set_cons_succ, i64_w, i32_w]
                      rfl
                    refine one_ (i := 28) (N := some 110) #[true, true, true, true, true, true, true, true, true, true, true, true, true, true, true, true, true, true, true, true, true, true, true, true, true, true, true, true, true, false, false] rfl rfl (by kernel_rfl) (by decide) (fun K hK => ?_)
                    refine goes_ Try.func17 (by kernel_rfl) rfl #[.slice A9 (idx 0 (fl.getD yn.toNat [])).length c9, .int .i64 x] (by rfl) rfl rfl (by simp only [List.map_toArray, List.map_cons, List.map_nil]; rfl) ?_
                    with_reducible refine (PH.out _ HBd.out).mono ?_
                    rintro e w9 ⟨rfl, nd, rfl⟩
                    refine ⟨_, rfl, ?_⟩
                    refine hK.out _ _ ⟨hHeld.1, hHeld.2.1, hHeld.2.2.1, hHeld.2.2.2.1, hHeld.2.2.2.2⟩ (fun hHeld => ?_)
                    clear hK K
                    refine norm_ (a' := ?_) ?_ ?_
                    rotate_left
                    · show Act.put _ (some 110) _ = _
                      simp only [Act.put, List.setIfInBounds_toArray, List.set_cons_zero, List.set_cons_succ, i64_w, i32_w]
                      rfl
                    refine pure_ (i := 29) (N := some 111) (v := ?_) (a' := ?_) #[true, true, true, true, true, true, true, true, true, true, true, true, true, true, true, true, true, true, true, true, true, true, true, true, true, true, true, true, true, true, false] rfl rfl (by kernel_rfl) (fun _ _ _ h => h) (Or.inl ⟨by rfl, ?_⟩) ?_ ?_
                    rotate_left
                    · intro w'
                      go_simp
                      with_reducible rfl
                    rotate_left
                    · simp only [Act.put, List.setIfInBounds_toArray, List.set_cons_zero, List.set_cons_succ, i64_w, i32_w]
                      rfl
                    refine pure_ (i := 30) (N := some 112) (v := ?_) (a' := ?_) #[true, true, true, true, true, true, true, true, true, true, true, true, true, true, true, true, true, true, true, true, true, true, true, true, true, true, true, true, true, true, true] rfl rfl (by kernel_rfl) (fun _ _ _ h => h) (Or.inl ⟨by rfl, ?_⟩) ?_ ?_
                    rotate_left
                    · intro w'
                      go_simp
                      with_reducible rfl
                    rotate_left
                    · simp only [Act.put, List.setIfInBounds_toArray, List.set_cons_zero, List.set_cons_succ, i64_w, i32_w]
                      rfl
                    refine done_ (by kernel_rfl) ?_
                    go_wp2
                    go_roundg (r.length - (k + 1))
                    case measure => have := HKQ.out; have := HK.out; omega
                    case rel => exact ⟨k + 1, rfl, by have := HK.out; omega, Nat.le_refl _, ⟨by repeat (first | exact HBC.out | apply pw_below_drewN | apply below_drew1)⟩⟩
          · have d2 : decide ((k : Int) + 1 < (r.length : Int)) = false := decide_eq_false (by omega)
            have d3 : decide (k + 1 < r.length) = false := decide_eq_false hlt2
            go_wp2
            go_roundg (ps.length - (i + 1))
            case measure => have := HMQ.out; have := HLT.out; omega
            case rel => exact ⟨i + 1, rfl, by have := HLT.out; omega, Nat.le_refl _, ⟨HB5.out.trans (HBI.out.mono HB5.out.size)⟩⟩
      · have y1 : (left = 0) = False := eq_false hl0
        have y2 : (left == 0) = false := by simp [hl0]
        have y3 : decide (left = 0) = false := decide_eq_false hl0
        go_wp2
        go_roundg (ps.length - (i + 1))
        case measure => have := HMQ.out; have := HLT.out; omega
        case rel => exact ⟨i + 1, rfl, by have := HLT.out; omega, Nat.le_refl _, ⟨HBR.out.trans ((below_alloc (Below.refl _ wr) _).mono HBR.out.size)⟩⟩
    · obtain rfl : i = ps.length := by omega
      clear hlt
      go_upto_region 22 with fail
      have hn0 : 0 < ns.length := HN.out.1
      obtain ⟨adf, cs, eaf, _, ⟨A9, c9, rfl, hle9, hC9⟩, hcf⟩ := ReadsRow.get_ (Kd.C_below CF.out HBR.out) ([] : List Int) 0 (by omega) (by omega)
      have hcf0 := hcf 0 _ rfl
      rw [show (0 : Int).toNat * (Kd.slice 3 (Kd.int .i64)).sz + 0 = 0 from rfl, Addr.add_zero'] at hcf0
      rw [show (0 : Int).toNat = 0 from rfl, HFI.out 0 hn0] at hcf0 hle9 hC9
      have hrl := HSO.out.get (i := 0) hn0
      have hhas : ∃ k, regletlaw13_has.f k (idx 0 (fl.getD 0 [])) (ts.length : Int) = some true := (Ev.val (has_ev _ _ (by have := idx_length 0 (fl.getD 0 []); have := HMO.out.t4; omega)) (decide_eq_true ((mem_idx _ _ 0).2 ⟨ts.length, HEND.out, by omega⟩))).rounds
      obtain ⟨kh, hkh⟩ := hhas
      have PH : Aside0 (∀ W, Below wr.heap.size wr W → Calls Try.prog 17 #[.slice A9 (idx 0 (fl.getD 0 [])).length c9, .int .i64 (ts.length : Int)] W fun e w' => e = .returned (.bool true) ∧ Drawn0 W w') := ⟨fun W hb => regletlaw13_has.calls kh A9 c9 _ (ts.length : Int) true W (Kd.C_below hC9 hb) hle9 hkh⟩
      have HCF := Aside0.mk hcf0
      have HQ1 := Aside0.mk q1
      have HBd : Aside0 (Below wr.heap.size wr wr.drew) := ⟨below_drew1 (Below.refl _ _)⟩
      have z1 : (0 < ns.length) = True := eq_true hn0
      have z2 : ((0 : Int) < (ns.length : Int)) = True := eq_true (by omega)
      cases eaf
      clear hcf hcf0 hle9 hC9 hkh hrl q0 q1 q2 q3 q4 hn0
      refine start_ (n := 11) (S := fun w' => w'.cell? adf = some (.slice A9 (idx 0 (fl.getD 0 [])).length c9) ∧ w'.cell? ⟨SB, 1, none⟩ = some (.slice At ts.length kt)) (ds := []) #[false, false, false, false, false, false, false, false, false, false, false] (by kernel_rfl) rfl rfl ⟨HCF.out, HQ1.out⟩ (fun hHeld => ?_)
      refine pure_ (i := 0) (N := some 113) (v := ?_) (a' := ?_) #[true, false, false, false, false, false, false, false, false, false, false] rfl rfl (by kernel_rfl) (fun _ _ _ h => h) (Or.inl ⟨by rfl, ?_⟩) ?_ ?_
      rotate_left
      · intro w'
        go_simp
        with_reducible rfl
      rotate_left
      · simp only [Act.put, List.setIfInBounds_toArray, List.set_cons_zero, List.set_cons_succ, i64_w, i32_w]
        rfl
      refine pure_ (i := 1) (N := some 114) (v := ?_) (a' := ?_) #[true, true, false, false, false, false, false, false, false, false, false] rfl rfl (by kernel_rfl) (fun _ _ _ h => h) (Or.inl ⟨by rfl, ?_⟩) ?_ ?_
      rotate_left
      · intro w'
        go_simp
        with_reducible rfl
      rotate_left
      · simp only [Act.put, List.setIfInBounds_toArray, List.set_cons_zero, List.set_cons_succ, i64_w, i32_w]
        rfl
      refine pure_ (i := 2) (N := some 115) (v := ?_) (a' := ?_) #[true, true, true, false, false, false, false, false, false, false, false] rfl rfl (by kernel_rfl) (fun _ _ _ h => h) (Or.inl ⟨by rfl, ?_⟩) ?_ ?_
      rotate_left
      · intro w'
        go_simp
        with_reducible rfl
      rotate_left
      · simp only [Act.put, List.setIfInBounds_toArray, List.set_cons_zero, List.set_cons_succ, i64_w, i32_w]
        rfl
      refine pure_ (i := 3) (N := some 116) (v := ?_) (a' := ?_) #[true, true, true, true, false, false, false, false, false, false, false] rfl rfl (by kernel_rfl) (fun _ _ _ h => h) (Or.inl ⟨by rfl, ?_⟩) ?_ ?_
      rotate_left
      · intro w'
        go_simp
        with_reducible rfl
      rotate_left
      · simp only [Act.put, List.setIfInBounds_toArray, List.set_cons_zero, List.set_cons_succ, i64_w, i32_w]
        rfl
      refine pure_ (i := 5) (N := some 118) (v := ?_) (a' := ?_) #[true, true, true, true, false, true, false, false, false, false, false] rfl rfl (by kernel_rfl) (fun _ _ _ h => h) (Or.inl ⟨by rfl, ?_⟩) ?_ ?_
      rotate_left
      · intro w'
        go_simp
        with_reducible rfl
      rotate_left
      · simp only [Act.put, List.setIfInBounds_toArray, List.set_cons_zero, List.set_cons_succ, i64_w, i32_w]
        rfl
      refine take_ (i := 4) (N := some 117) (v := ?_) (a' := ?_) #[true, true, true, true, true, true, false, false, false, false, false] rfl rfl (by kernel_rfl) (fun _ _ _ h => h) (Or.inl ⟨by rfl, ?_⟩) hHeld ?_ ?_
      rotate_left
      · rintro w' ⟨s0, s1⟩
        go_simp
        with_reducible rfl
      rotate_left
      · simp only [Act.put, List.setIfInBounds_toArray, List.set_cons_zero, List.set_cons_succ, i64_w, i32_w]
        rfl
      refine take_ (i := 6) (N := some 119) (v := ?_) (a' := ?_) #[true, true, true, true, true, true, true, false, false, false, false] rfl rfl (by kernel_rfl) (fun _ _ _ h => h) (Or.inl ⟨by rfl, ?_⟩) hHeld ?_ ?_
      rotate_left
      · rintro w' ⟨s0, s1⟩
        go_simp
        with_reducible rfl
      rotate_left
      · simp only [Act.put, List.setIfInBounds_toArray, List.set_cons_zero, List.set_cons_succ, i64_w, i32_w]
        rfl
      refine pure_ (i := 7) (N := some 120) (v := ?_) (a' := ?_) #[true, true, true, true, true, true, true, true, false, false, false] rfl rfl (by kernel_rfl) (fun _ _ _ h => h) (Or.inl ⟨by rfl, ?_⟩) ?_ ?_
      rotate_left
      · intro w'
        go_simp
        with_reducible rfl
      rotate_left
      · simp only [Act.put, List.setIfInBounds_toArray, List.set_cons_zero, List.set_cons_succ, i64_w, i32_w]
        rfl
      refine one_ (i := 8) (N := some 121) #[true, true, true, true, true, true, true, true, true, false, false] rfl rfl (by kernel_rfl) (by decide) (fun K hK => ?_)
      refine goes_ Try.func17 (by kernel_rfl) rfl #[.slice A9 (idx 0 (fl.getD 0 [])).length c9, .int .i64 (ts.length : Int)] (by rfl) rfl rfl (by simp only [List.map_toArray, List.map_cons, List.map_nil]; rfl) ?_
      with_reducible refine (PH.out _ HBd.out).mono ?_
      rintro e w9 ⟨rfl, nd, rfl⟩
      refine ⟨_, rfl, ?_⟩
      refine hK.out _ _ ⟨hHeld.1, hHeld.2⟩ (fun hHeld => ?_)
      clear hK K
      refine norm_ (a' := ?_) ?_ ?_
      rotate_left
      · show Act.put _ (some 121) _ = _
        simp only [Act.put, List.setIfInBounds_toArray, List.set_cons_zero, List.set_cons_succ, i64_w, i32_w]
        rfl
      refine pure_ (i := 9) (N := some 122) (v := ?_) (a' := ?_) #[true, true, true, true, true, true, true, true, true, true, false] rfl rfl (by kernel_rfl) (fun _ _ _ h => h) (Or.inl ⟨by rfl, ?_⟩) ?_ ?_
      rotate_left
      · intro w'
        go_simp
        with_reducible rfl
      rotate_left
      · simp only [Act.put, List.setIfInBounds_toArray, List.set_cons_zero, List.set_cons_succ, i64_w, i32_w]
        rfl
      refine pure_ (i := 10) (N := some 4) (v := ?_) (a' := ?_) #[true, true, true, true, true, true, true, true, true, true, true] rfl rfl (by kernel_rfl) (fun _ _ _ h => h) (Or.inl ⟨by rfl, ?_⟩) ?_ ?_
      rotate_left
      · intro w'
        go_simp
        with_reducible rfl
      rotate_left
      · simp only [Act.put, List.setIfInBounds_toArray, List.set_cons_zero, List.set_cons_succ, i64_w, i32_w]
        rfl
      refine done_ (by kernel_rfl) ?_
      go_wp2
      go_ret
      exact ⟨rfl, by repeat (first | exact HWR.out | apply pw_below_drewN | apply below_drew1)⟩
end Go.Proofs.Ytojdjjbkpbapfaa.P
end
