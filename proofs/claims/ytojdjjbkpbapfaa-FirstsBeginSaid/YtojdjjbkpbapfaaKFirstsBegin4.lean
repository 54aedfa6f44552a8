/- Packed texts of this claim: the walks of the functions, and their plain laws; see the claim's last text. -/
import Derived.Deep.Cut
import Derived.Shelf.Abstract
import Derived.Deep.RegionHeld3
import Derived.Test.YtojdjjbkpbapfaaKFirstsBegin3
section
namespace Go.Proofs.Ytojdjjbkpbapfaa.P
open Go.RowKit Go.Proofs.YtojdjjbkpbapfaaW.PrintWords Go.Proofs.YtojdjjbkpbapfaaW.PrintLast Go.Proofs.YtojdjjbkpbapfaaW.PrintMore
set_option linter.unusedVariables false
set_option linter.unusedSimpArgs false
theorem diInt : (Try.prog.info? 3).map (fun i => (i.zero, i.size, i.bytes)) = some (some (.int .i64 0), 1, 8) := by kernel_rfl
theorem kept_step {W w6 w7 : World} {S : Nat → Prop} (h : Kept W w6 S) (hb : Below W.heap.size w6 w7) : Kept W w7 S := ⟨Nat.le_trans h.1 hb.size, fun i hi hn => (hb.block i hi).trans (h.2 i hi hn)⟩
def derObj (A0 : Option Addr) (n0 c0 : Nat) (A1 : Option Addr) (n1 c1 : Nat) (a2 a3 : Int) (A4 : Option Addr) (n4 c4 : Nat) (AL : Option Addr) (nL cL : Nat) (at_ : Nat) : Obj :=
  .cells #[.slice A0 n0 c0, .slice A1 n1 c1, .int .i64 a2, .int .i64 a3, .slice A4 n4 c4, .slice AL nL cL, .int .i64 (at_ : Int)] 38 (0, 0)
def DerPost (w0 W : World) (DB : Nat) (O : Nat → Obj) (res : (List Int × Bool) × Nat) (e : Ending) (w' : World) : Prop :=
  ∃ v : Value, e = .returned (.tuple #[v, .bool res.1.2]) ∧ Aside0 (Kd.R (Kd.int .i64) 3 w' W.heap.size (fun _ => True) v res.1.1) ∧ Aside0 (w'.heap[DB]? = some (O res.2)) ∧ Aside0 (Kept W w' (fun k => k = DB)) ∧ Aside0 (Below w0.heap.size w0 w')
set_option maxHeartbeats 4000000 in
set_option maxRecDepth 100000 in
theorem derive_step (ps : List S34) (L : List Int) (w0 : World) (DB : Nat) (A0 : Option Addr) (n0 c0 : Nat) (A1 : Option Addr) (n1 c1 : Nat) (a2 a3 : Int) (A4 : Option Addr) (c4 : Nat) (AL : Option Addr) (cL : Nat) (hDB : w0.heap.size ≤ DB) (hps : Kd.C k34 w0 A4 ps.length ps) (hL : Kd.C (Kd.int .u8) w0 AL L.length L) (hu : ∀ x ∈ L, 0 ≤ x ∧ x ≤ 255) (hr : ∀ p ∈ ps, p.f1.length ≤ 10) (hps2 : ps.length ≤ 1000000)
    (rule : Int) (deep at_ : Nat) (W : World) (hdeep : deep ≤ 100) (hB : Below w0.heap.size w0 W) (hblk : W.heap[DB]? = some (derObj A0 n0 c0 A1 n1 c1 a2 a3 A4 ps.length c4 AL L.length cL at_)) (nxt : Int → Nat → (List Int × Bool) × Nat) (B : Nat) (res : (List Int × Bool) × Nat) (hlim : at_ + 1 + 10 * B ≤ 1125899906842624) (hn : ∀ r a, (nxt r a).2 ≤ a + B ∧ (nxt r a).1.1.length ≤ 70)
    (hres : res = if (dAll ps rule ps.length).length = 0 ∨ 10 < deep then (([], false), at_) else drvL nxt (rd_T34 ps ((dAll ps rule ps.length).getD (dK L at_ (dAll ps rule ps.length).length).toNat 0)).f1 [] (at_ + 1))
    (hrec : ¬ ((dAll ps rule ps.length).length = 0 ∨ 10 < deep) → ∀ (r : Int) (a : Nat) (W' : World), a + B ≤ 1125899906842624 → Below w0.heap.size w0 W' → W'.heap[DB]? = some (derObj A0 n0 c0 A1 n1 c1 a2 a3 A4 ps.length c4 AL L.length cL a) →
      Calls Try.prog 13 #[.pointer (some ⟨DB, 0, none⟩), .int .i64 r, .int .i64 ((deep : Int) + 1)] W' (DerPost w0 W' DB (derObj A0 n0 c0 A1 n1 c1 a2 a3 A4 ps.length c4 AL L.length cL) (nxt r a))) :
    Calls Try.prog 13 #[.pointer (some ⟨DB, 0, none⟩), .int .i64 rule, .int .i64 (deep : Int)] W (DerPost w0 W DB (derObj A0 n0 c0 A1 n1 c1 a2 a3 A4 ps.length c4 AL L.length cL) res) := by
  have HDB := Aside0.mk hDB
  have HPS := Aside0.mk hps
  have HL := Aside0.mk hL
  have HU := Aside0.mk hu
  have HR := Aside0.mk hr
  have HP2 := Aside0.mk hps2
  have HDEEP := Aside0.mk hdeep
  have HB := Aside0.mk hB
  have HBLK := Aside0.mk hblk
  have HLIM := Aside0.mk hlim
  have HN := Aside0.mk hn
  have HRES := Aside0.mk hres
  have HREC := Aside0.mk hrec
  have HDBW : Aside0 (DB < W.heap.size) := ⟨blk_lt hblk⟩
  clear hDB hps hL hu hr hps2 hdeep hB hblk hlim hn hres hrec
  go_enter Try.func13, Try.ntmps13
  go_upto_region 2 with fail
  iterate 7 (first | go_values | go_skip | go_guarded | go_step | go_upon | go_back | (simp only [Int.not_lt, Int.not_le] at *; go_simp))
  go_cut [8, 9] from 16 (fun s8 s9 wc => Aside0 (Below W.heap.size W wc) ∧ Aside0 (Kd.R (Kd.int .i64) 3 wc W.heap.size (fun _ => True) s8 (dAll ps rule ps.length)))
  case first =>
    go_wp2
    go_loopg [8, 9] ps.length (fun kq v8 v9 wr => ∃ i : Nat, v9 = .int .i64 (i : Int) ∧ i ≤ ps.length ∧ ps.length - i ≤ kq ∧ Aside0 (Below W.heap.size W wr) ∧ Aside0 (Kd.R (Kd.int .i64) 3 wr W.heap.size (fun _ => True) v8 (dAll ps rule i)))
    case atStart => exact ⟨0, rfl, by omega, by omega, ⟨Below.refl _ _⟩, ⟨Kd.R_nil _ _ _ _ _⟩⟩
    case round =>
      obtain ⟨i, rfl, hi, hm, HBW, HA⟩ := hrel
      have HBK := Aside0.mk ((HBW.out.block _ HDBW.out).trans HBLK.out)
      have q4 : wr.cell? ⟨DB, 4, none⟩ = some (.slice A4 ps.length c4) := (blk_cell HBK.out 4).trans rfl
      by_cases hlt : i < ps.length
      · have d0 : decide (i < ps.length) = true := decide_eq_true hlt
        have d1 : (i < ps.length) = True := eq_true hlt
        obtain ⟨ad, A5, c5, ead, e0, e1, _, _⟩ := at_T34 (Kd.C_below HPS.out (HB.out.trans (HBW.out.mono HB.out.size))) (i : Int) (by omega) (by omega)
        rw [Int.toNat_natCast] at e0 e1
        have p0 : (0 ≤ (i : Int)) = True := eq_true (by omega)
        have p1 : ((i : Int) < (ps.length : Int)) = True := eq_true (by omega)
        have hwr : IntKind.i64.wrap ((i : Int) + 1) = (i : Int) + 1 := by rw [IntKind.wrap_i64]; have := HP2.out; omega
        have HLT := Aside0.mk hlt
        have HM := Aside0.mk hm
        cases ead
        clear hlt hm hi e1
        by_cases hru : (rd_T34 ps (i : Int)).f0 = rule
        · rw [hru] at e0
          have HRU := Aside0.mk hru
          have HSZ : Aside0 (W.heap.size ≤ wr.heap.size) := ⟨HBW.out.size⟩
          have HAL := Aside0.mk (dAll_length ps rule i)
          clear hru
          go_wp2_with (first | ((with_reducible refine gate_builtin (b := .append) (xs := #[.tmp 37, .tmp 39]) rfl ?_); at_builtin; refine Kd.R_append (Kd.int .i64) (w0 := wr) W.heap.size rfl (.tmp 37) (.tmp 39) 39 3 (.int .i64 0) 8 rfl Try.underlying39 diInt rfl (by decide) (by omega) u8 (dAll ps rule i) (i : Int) [.int .i64 (i : Int)] (fun _ => True) (fun _ => False) rfl rfl rfl (fun _ hk => hk.elim) (fun _ _ => trivial) HA.out (Below.refl _ _) HSZ.out (by have := HAL.out; have := HP2.out; have := HLT.out; omega) ?_; intro v1 w2 ho hb hg hat; have HA2 := Aside0.mk ho; have HB2 : Aside0 (Below W.heap.size W w2) := ⟨HBW.out.trans hb⟩; clear ho hb hg hat))
          go_roundg (ps.length - (i + 1))
          case measure => have := HM.out; have := HLT.out; omega
          case rel => exact ⟨i + 1, rfl, by have := HLT.out; omega, Nat.le_refl _, HB2, ⟨by rw [dAll_yes HRU.out]; exact HA2.out⟩⟩
        · obtain ⟨x, ex⟩ : ∃ x, x = (rd_T34 ps (i : Int)).f0 := ⟨_, rfl⟩
          rw [← ex] at e0 hru
          have EX := Aside0.mk ex
          have HRU := Aside0.mk hru
          have d2 : decide (x = rule) = false := decide_eq_false hru
          have d3 : (x = rule) = False := eq_false hru
          have d4 : (x == rule) = false := by simp [hru]
          clear ex hru
          go_wp2
          go_roundg (ps.length - (i + 1))
          case measure => have := HM.out; have := HLT.out; omega
          case rel => exact ⟨i + 1, rfl, by have := HLT.out; omega, Nat.le_refl _, HBW, ⟨by rw [dAll_no (by rw [← EX.out]; exact HRU.out)]; exact HA.out⟩⟩
      · obtain rfl : i = ps.length := by omega
        clear hlt
        go_wp2
        go_meet
        case rel => exact ⟨HBW, HA⟩
  case rest =>
    obtain ⟨HBW, HA⟩ := hcut
    obtain ⟨w1, ew1⟩ : ∃ w1 : World, w1 = wc := ⟨_, rfl⟩
    subst ew1
    have HBK := Aside0.mk ((HBW.out.block _ HDBW.out).trans HBLK.out)
    have HB1 : Aside0 (Below w0.heap.size w0 w1) := ⟨HB.out.trans (HBW.out.mono HB.out.size)⟩
    have HMEM : Aside0 (∀ x ∈ dAll ps rule ps.length, 0 ≤ x ∧ x < (ps.length : Int)) := ⟨fun x hx => ⟨(dAll_mem hx).1, (dAll_mem hx).2.1⟩⟩
    have HALN := Aside0.mk (dAll_length ps rule ps.length)
    generalize dAll ps rule ps.length = all at HA HRES HREC HMEM HALN
    obtain ⟨A8, n, c8, rfl⟩ : ∃ A n c, u8 = .slice A n c := by obtain ⟨A, c, e⟩ := Kd.R_slice HA.out; exact ⟨A, _, c, e⟩
    have hnl := (Kd.R_reads' HA.out).1
    subst hnl
    have HALL : ∃ n : Nat, n = all.length := ⟨_, rfl⟩
    obtain ⟨n, en⟩ := HALL
    have hdwr : IntKind.i64.wrap ((n : Int) - 1) = (n : Int) - 1 := by rw [IntKind.wrap_i64]; have := HALN.out; have := HP2.out; omega
    rw [← en] at HA HRES HREC ⊢
    have EN := Aside0.mk en
    clear en
    by_cases hz : n = 0
    · subst hz
      have hres : res = (([], false), at_) := by rw [HRES.out, if_pos (.inl rfl)]
      subst hres
      go_wp2
      go_ret2
      exact ⟨_, rfl, ⟨Kd.R_nil _ _ _ _ _⟩, HBK, ⟨Kept.of_below HBW.out _⟩, HB1⟩
    · have z1 : (n = 0) = False := eq_false hz
      have z2 : decide (n = 0) = false := decide_eq_false hz
      have z3 : ((n : Int) == 0) = false := by simp [hz]
      by_cases hd : 10 < deep
      · have hres : res = (([], false), at_) := by rw [HRES.out, if_pos (.inr hd)]
        subst hres
        have y1 : (10 < deep) = True := eq_true hd
        have y2 : decide ((deep : Int) > 10) = true := decide_eq_true (by omega)
        have y3 : ((10 : Int) < (deep : Int)) = True := eq_true (by omega)
        go_wp2
        go_ret2
        exact ⟨_, rfl, ⟨Kd.R_nil _ _ _ _ _⟩, HBK, ⟨Kept.of_below HBW.out _⟩, HB1⟩
      · have y1 : (10 < deep) = False := eq_false hd
        have y2 : decide ((deep : Int) > 10) = false := decide_eq_false (by omega)
        have y3 : ((10 : Int) < (deep : Int)) = False := eq_false (by omega)
        have hnot : ¬ (n = 0 ∨ 10 < deep) := fun h => h.elim hz hd
        have HRES2 : Aside0 (res = drvL nxt (rd_T34 ps (all.getD (dK L at_ n).toNat 0)).f1 [] (at_ + 1)) := ⟨by rw [HRES.out, if_neg hnot]⟩
        have HREC2 := Aside0.mk (HREC.out hnot)
        have HN0 : Aside0 (0 < n) := ⟨Nat.pos_of_ne_zero hz⟩
        clear HREC HRES hnot hz hd
        go_upto_region 10 with fail
        go_cut [67] from 16 (fun s67 wc => s67 = .bool (decide (at_ < L.length ∧ at_ < 60)) ∧ Aside0 (Below w1.heap.size w1 wc))
        case first =>
          have q5 : Aside0 (w1.cell? ⟨DB, 5, none⟩ = some (.slice AL L.length cL)) := ⟨(blk_cell HBK.out 5).trans rfl⟩
          have q6 : Aside0 (w1.cell? ⟨DB, 6, none⟩ = some (.int .i64 (at_ : Int))) := ⟨(blk_cell HBK.out 6).trans rfl⟩
          by_cases h1 : at_ < L.length
          · have x1 : decide ((at_ : Int) < (L.length : Int)) = true := decide_eq_true (by omega)
            have x2 : decide (at_ < L.length) = true := decide_eq_true h1
            by_cases h2 : at_ < 60
            · have x3 : decide ((at_ : Int) < 60) = true := decide_eq_true (by omega)
              have x4 : decide (at_ < 60) = true := decide_eq_true h2
              have x5 : decide (at_ < L.length ∧ at_ < 60) = true := decide_eq_true ⟨h1, h2⟩
              refine start_ (n := 17) (S := fun w' => w'.cell? ⟨DB, 6, none⟩ = some (.int .i64 (at_ : Int)) ∧ w'.cell? ⟨DB, 5, none⟩ = some (.slice AL L.length cL)) (ds := []) #[false, false, false, false, false, false, false, false, false, false, false, false, false, false, false, false, false] (by kernel_rfl) rfl rfl ⟨q6.out, q5.out⟩ (fun hHeld => ?_)
              refine pure_ (i := 0) (N := some 51) (v := ?_) (a' := ?_) #[true, false, false, false, false, false, false, false, false, false, false, false, false, false, false, false, false] rfl rfl (by kernel_rfl) (fun _ _ _ h => h) (Or.inl ⟨by rfl, ?_⟩) ?_ ?_
              rotate_left
              · intro w'
                go_simp
                with_reducible rfl
              rotate_left
              · simp only [Act.put, List.setIfInBounds_toArray, List.set_cons_zero, List.set_cons_succ, i64_w, i32_w]
                rfl
              refine pure_ (i := 1) (N := some 52) (v := ?_) (a' := ?_) #[true, true, false, false, false, false, false, false, false, false, false, false, false, false, false, false, false] rfl rfl (by kernel_rfl) (fun _ _ _ h => h) (Or.inl ⟨by rfl, ?_⟩) ?_ ?_
              rotate_left
              · intro w'
                go_simp
                with_reducible rfl
              rotate_left
              · simp only [Act.put, List.setIfInBounds_toArray, List.set_cons_zero, List.set_cons_succ, i64_w, i32_w]
                rfl
              refine pure_ (i := 2) (N := some 53) (v := ?_) (a' := ?_) #[true, true, true, false, false, false, false, false, false, false, false, false, false, false, false, false, false] rfl rfl (by kernel_rfl) (fun _ _ _ h => h) (Or.inl ⟨by rfl, ?_⟩) ?_ ?_
              rotate_left
              · intro w'
                go_simp
                with_reducible rfl
              rotate_left
              · simp only [Act.put, List.setIfInBounds_toArray, List.set_cons_zero, List.set_cons_succ, i64_w, i32_w]
                rfl
              refine pure_ (i := 4) (N := some 55) (v := ?_) (a' := ?_) #[true, true, true, false, true, false, false, false, false, false, false, false, false, false, false, false, false] rfl rfl (by kernel_rfl) (fun _ _ _ h => h) (Or.inl ⟨by rfl, ?_⟩) ?_ ?_
              rotate_left
              · intro w'
                go_simp
                with_reducible rfl
              rotate_left
              · simp only [Act.put, List.setIfInBounds_toArray, List.set_cons_zero, List.set_cons_succ, i64_w, i32_w]
                rfl
              refine pure_ (i := 5) (N := some 56) (v := ?_) (a' := ?_) #[true, true, true, false, true, true, false, false, false, false, false, false, false, false, false, false, false] rfl rfl (by kernel_rfl) (fun _ _ _ h => h) (Or.inl ⟨by rfl, ?_⟩) ?_ ?_
              rotate_left
              · intro w'
                go_simp
                with_reducible rfl
              rotate_left
              · simp only [Act.put, List.setIfInBounds_toArray, List.set_cons_zero, List.set_cons_succ, i64_w, i32_w]
                rfl
              refine pure_ (i := 6) (N := some 57) (v := ?_) (a' := ?_) #[true, true, true, false, true, true, true, false, false, false, false, false, false, false, false, false, false] rfl rfl (by kernel_rfl) (fun _ _ _ h => h) (Or.inl ⟨by rfl, ?_⟩) ?_ ?_
              rotate_left
              · intro w'
                go_simp
                with_reducible rfl
              rotate_left
              · simp only [Act.put, List.setIfInBounds_toArray, List.set_cons_zero, List.set_cons_succ, i64_w, i32_w]
                rfl
              refine take_ (i := 3) (N := some 54) (v := ?_) (a' := ?_) #[true, true, true, true, true, true, true, false, false, false, false, false, false, false, false, false, false] rfl rfl (by kernel_rfl) (fun _ _ _ h => h) (Or.inl ⟨by rfl, ?_⟩) hHeld ?_ ?_
              rotate_left
              · rintro w' ⟨s0, s1⟩
                go_simp
                with_reducible rfl
              rotate_left
              · simp only [Act.put, List.setIfInBounds_toArray, List.set_cons_zero, List.set_cons_succ, i64_w, i32_w]
                rfl
              refine take_ (i := 7) (N := some 58) (v := ?_) (a' := ?_) #[true, true, true, true, true, true, true, true, false, false, false, false, false, false, false, false, false] rfl rfl (by kernel_rfl) (fun _ _ _ h => h) (Or.inl ⟨by rfl, ?_⟩) hHeld ?_ ?_
              rotate_left
              · rintro w' ⟨s0, s1⟩
                go_simp
                with_reducible rfl
              rotate_left
              · simp only [Act.put, List.setIfInBounds_toArray, List.set_cons_zero, List.set_cons_succ, i64_w, i32_w]
                rfl
              refine pure_ (i := 8) (N := some 59) (v := ?_) (a' := ?_) #[true, true, true, true, true, true, true, true, true, false, false, false, false, false, false, false, false] rfl rfl (by kernel_rfl) (fun _ _ _ h => h) (Or.inl ⟨by rfl, ?_⟩) ?_ ?_
              rotate_left
              · intro w'
                go_simp
                with_reducible rfl
              rotate_left
              · simp only [Act.put, List.setIfInBounds_toArray, List.set_cons_zero, List.set_cons_succ, i64_w, i32_w]
                rfl
              refine pure_ (i := 9) (N := some 60) (v := ?_) (a' := ?_) #[true, true, true, true, true, true, true, true, true, true, false, false, false, false, false, false, false] rfl rfl (by kernel_rfl) (fun _ _ _ h => h) (Or.inl ⟨by rfl, ?_⟩) ?_ ?_
              rotate_left
              · intro w'
                go_simp
                with_reducible rfl
              rotate_left
              · simp only [Act.put, List.setIfInBounds_toArray, List.set_cons_zero, List.set_cons_succ, i64_w, i32_w]
                rfl
              refine pure_ (i := 10) (N := some 61) (v := ?_) (a' := ?_) #[true, true, true, true, true, true, true, true, true, true, true, false, false, false, false, false, false] rfl rfl (by kernel_rfl) (fun _ _ _ h => h) (Or.inl ⟨by rfl, ?_⟩) ?_ ?_
              rotate_left
              · intro w'
                go_simp
                with_reducible rfl
              rotate_left
              · simp only [Act.put, List.setIfInBounds_toArray, List.set_cons_zero, List.set_cons_succ, i64_w, i32_w]
                rfl
              refine pure_ (i := 11) (N := some 62) (v := ?_) (a' := ?_) #[true, true, true, true, true, true, true, true, true, true, true, true, false, false, false, false, false] rfl rfl (by kernel_rfl) (fun _ _ _ h => h) (Or.inl ⟨by rfl, ?_⟩) ?_ ?_
              rotate_left
              · intro w'
                go_simp
                with_reducible rfl
              rotate_left
              · simp only [Act.put, List.setIfInBounds_toArray, List.set_cons_zero, List.set_cons_succ, i64_w, i32_w]
                rfl
              refine pure_ (i := 12) (N := some 63) (v := ?_) (a' := ?_) #[true, true, true, true, true, true, true, true, true, true, true, true, true, false, false, false, false] rfl rfl (by kernel_rfl) (fun _ _ _ h => h) (Or.inl ⟨by rfl, ?_⟩) ?_ ?_
              rotate_left
              · intro w'
                go_simp
                with_reducible rfl
              rotate_left
              · simp only [Act.put, List.setIfInBounds_toArray, List.set_cons_zero, List.set_cons_succ, i64_w, i32_w]
                rfl
              refine pure_ (i := 13) (N := some 64) (v := ?_) (a' := ?_) #[true, true, true, true, true, true, true, true, true, true, true, true, true, true, false, false, false] rfl rfl (by kernel_rfl) (fun _ _ _ h => h) (Or.inl ⟨by rfl, ?_⟩) ?_ ?_
              rotate_left
              · intro w'
                go_simp
                with_reducible rfl
              rotate_left
              · simp only [Act.put, List.setIfInBounds_toArray, List.set_cons_zero, List.set_cons_succ, i64_w, i32_w]
                rfl
              refine take_ (i := 14) (N := some 65) (v := ?_) (a' := ?_) #[true, true, true, true, true, true, true, true, true, true, true, true, true, true, true, false, false] rfl rfl (by kernel_rfl) (fun _ _ _ h => h) (Or.inl ⟨by rfl, ?_⟩) hHeld ?_ ?_
              rotate_left
              · rintro w' ⟨s0, s1⟩
                go_simp
                with_reducible rfl
              rotate_left
              · simp only [Act.put, List.setIfInBounds_toArray, List.set_cons_zero, List.set_cons_succ, i64_w, i32_w]
                rfl
              refine pure_ (i := 15) (N := some 66) (v := ?_) (a' := ?_) #[true, true, true, true, true, true, true, true, true, true, true, true, true, true, true, true, false] rfl rfl (by kernel_rfl) (fun _ _ _ h => h) (Or.inl ⟨by rfl, ?_⟩) ?_ ?_
              rotate_left
              · intro w'
                go_simp
                with_reducible rfl
              rotate_left
              · simp only [Act.put, List.setIfInBounds_toArray, List.set_cons_zero, List.set_cons_succ, i64_w, i32_w]
                rfl
              refine pure_ (i := 16) (N := some 67) (v := ?_) (a' := ?_) #[true, true, true, true, true, true, true, true, true, true, true, true, true, true, true, true, true] rfl rfl (by kernel_rfl) (fun _ _ _ h => h) (Or.inl ⟨by rfl, ?_⟩) ?_ ?_
              rotate_left
              · intro w'
                go_simp
                with_reducible rfl
              rotate_left
              · simp only [Act.put, List.setIfInBounds_toArray, List.set_cons_zero, List.set_cons_succ, i64_w, i32_w]
                rfl
              refine done_ (by kernel_rfl) ?_
              go_wp2_with fail
              go_meet
              case rel => exact ⟨congrArg Value.bool x5.symm, ⟨below_drew1 (Below.refl _ _)⟩⟩
            · have x3 : decide ((at_ : Int) < 60) = false := decide_eq_false (by omega)
              have x4 : decide (at_ < 60) = false := decide_eq_false h2
              have x5 : decide (at_ < L.length ∧ at_ < 60) = false := decide_eq_false (fun h => h2 h.2)
              refine start_ (n := 17) (S := fun w' => w'.cell? ⟨DB, 6, none⟩ = some (.int .i64 (at_ : Int)) ∧ w'.cell? ⟨DB, 5, none⟩ = some (.slice AL L.length cL)) (ds := []) #[false, false, false, false, false, false, false, false, false, false, false, false, false, false, false, false, false] (by kernel_rfl) rfl rfl ⟨q6.out, q5.out⟩ (fun hHeld => ?_)
              refine pure_ (i := 0) (N := some 51) (v := ?_) (a' := ?_) #[true, false, false, false, false, false, false, false, false, false, false, false, false, false, false, false, false] rfl rfl (by kernel_rfl) (fun _ _ _ h => h) (Or.inl ⟨by rfl, ?_⟩) ?_ ?_
              rotate_left
              · intro w'
                go_simp
                with_reducible rfl
              rotate_left
              · simp only [Act.put, List.setIfInBounds_toArray, List.set_cons_zero, List.set_cons_succ, i64_w, i32_w]
                rfl
              refine pure_ (i := 1) (N := some 52) (v := ?_) (a' := ?_) #[true, true, false, false, false, false, false, false, false, false, false, false, false, false, false, false, false] rfl rfl (by kernel_rfl) (fun _ _ _ h => h) (Or.inl ⟨by rfl, ?_⟩) ?_ ?_
              rotate_left
              · intro w'
                go_simp
                with_reducible rfl
              rotate_left
              · simp only [Act.put, List.setIfInBounds_toArray, List.set_cons_zero, List.set_cons_succ, i64_w, i32_w]
                rfl
              refine pure_ (i := 2) (N := some 53) (v := ?_) (a' := ?_) #[true, true, true, false, false, false, false, false, false, false, false, false, false, false, false, false, false] rfl rfl (by kernel_rfl) (fun _ _ _ h => h) (Or.inl ⟨by rfl, ?_⟩) ?_ ?_
              rotate_left
              · intro w'
                go_simp
                with_reducible rfl
              rotate_left
              · simp only [Act.put, List.setIfInBounds_toArray, List.set_cons_zero, List.set_cons_succ, i64_w, i32_w]
                rfl
              refine pure_ (i := 4) (N := some 55) (v := ?_) (a' := ?_) #[true, true, true, false, true, false, false, false, false, false, false, false, false, false, false, false, false] rfl rfl (by kernel_rfl) (fun _ _ _ h => h) (Or.inl ⟨by rfl, ?_⟩) ?_ ?_
              rotate_left
              · intro w'
                go_simp
                with_reducible rfl
              rotate_left
              · simp only [Act.put, List.setIfInBounds_toArray, List.set_cons_zero, List.set_cons_succ, i64_w, i32_w]
                rfl
              refine pure_ (i := 5) (N := some 56) (v := ?_) (a' := ?_) #[true, true, true, false, true, true, false, false, false, false, false, false, false, false, false, false, false] rfl rfl (by kernel_rfl) (fun _ _ _ h => h) (Or.inl ⟨by rfl, ?_⟩) ?_ ?_
              rotate_left
              · intro w'
                go_simp
                with_reducible rfl
              rotate_left
              · simp only [Act.put, List.setIfInBounds_toArray, List.set_cons_zero, List.set_cons_succ, i64_w, i32_w]
                rfl
              refine pure_ (i := 6) (N := some 57) (v := ?_) (a' := ?_) #[true, true, true, false, true, true, true, false, false, false, false, false, false, false, false, false, false] rfl rfl (by kernel_rfl) (fun _ _ _ h => h) (Or.inl ⟨by rfl, ?_⟩) ?_ ?_
              rotate_left
              · intro w'
                go_simp
                with_reducible rfl
              rotate_left
              · simp only [Act.put, List.setIfInBounds_toArray, List.set_cons_zero, List.set_cons_succ, i64_w, i32_w]
                rfl
              refine take_ (i := 3) (N := some 54) (v := ?_) (a' := ?_) #[true, true, true, true, true, true, true, false, false, false, false, false, false, false, false, false, false] rfl rfl (by kernel_rfl) (fun _ _ _ h => h) (Or.inl ⟨by rfl, ?_⟩) hHeld ?_ ?_
              rotate_left
              · rintro w' ⟨s0, s1⟩
                go_simp
                with_reducible rfl
              rotate_left
              · simp only [Act.put, List.setIfInBounds_toArray, List.set_cons_zero, List.set_cons_succ, i64_w, i32_w]
                rfl
              refine take_ (i := 7) (N := some 58) (v := ?_) (a' := ?_) #[true, true, true, true, true, true, true, true, false, false, false, false, false, false, false, false, false] rfl rfl (by kernel_rfl) (fun _ _ _ h => h) (Or.inl ⟨by rfl, ?_⟩) hHeld ?_ ?_
              rotate_left
              · rintro w' ⟨s0, s1⟩
                go_simp
                with_reducible rfl
              rotate_left
              · simp only [Act.put, List.setIfInBounds_toArray, List.set_cons_zero, List.set_cons_succ, i64_w, i32_w]
                rfl
              refine pure_ (i := 8) (N := some 59) (v := ?_) (a' := ?_) #[true, true, true, true, true, true, true, true, true, false, false, false, false, false, false, false, false] rfl rfl (by kernel_rfl) (fun _ _ _ h => h) (Or.inl ⟨by rfl, ?_⟩) ?_ ?_
              rotate_left
              · intro w'
                go_simp
                with_reducible rfl
              rotate_left
              · simp only [Act.put, List.setIfInBounds_toArray, List.set_cons_zero, List.set_cons_succ, i64_w, i32_w]
                rfl
              refine pure_ (i := 9) (N := some 60) (v := ?_) (a' := ?_) #[true, true, true, true, true, true, true, true, true, true, false, false, false, false, false, false, false] rfl rfl (by kernel_rfl) (fun _ _ _ h => h) (Or.inl ⟨by rfl, ?_⟩) ?_ ?_
              rotate_left
              · intro w'
                go_simp
                with_reducible rfl
              rotate_left
              · simp only [Act.put, List.setIfInBounds_toArray, List.set_cons_zero, List.set_cons_succ, i64_w, i32_w]
                rfl
              refine pure_ (i := 10) (N := some 61) (v := ?_) (a' := ?_) #[true, true, true, true, true, true, true, true, true, true, true, false, false, false, false, false, false] rfl rfl (by kernel_rfl) (fun _ _ _ h => h) (Or.inl ⟨by rfl, ?_⟩) ?_ ?_
              rotate_left
              · intro w'
                go_simp
                with_reducible rfl
              rotate_left
              · simp only [Act.put, List.setIfInBounds_toArray, List.set_cons_zero, List.set_cons_succ, i64_w, i32_w]
                rfl
              refine pure_ (i := 11) (N := some 62) (v := ?_) (a' := ?_) #[true, true, true, true, true, true, true, true, true, true, true, true, false, false, false, false, false] rfl rfl (by kernel_rfl) (fun _ _ _ h => h) (Or.inl ⟨by rfl, ?_⟩) ?_ ?_
              rotate_left
              · intro w'
                go_simp
                with_reducible rfl
              rotate_left
              · simp only [Act.put, List.setIfInBounds_toArray, List.set_cons_zero, List.set_cons_succ, i64_w, i32_w]
                rfl
              refine pure_ (i := 12) (N := some 63) (v := ?_) (a' := ?_) #[true, true, true, true, true, true, true, true, true, true, true, true, true, false, false, false, false] rfl rfl (by kernel_rfl) (fun _ _ _ h => h) (Or.inl ⟨by rfl, ?_⟩) ?_ ?_
              rotate_left
              · intro w'
                go_simp
                with_reducible rfl
              rotate_left
              · simp only [Act.put, List.setIfInBounds_toArray, List.set_cons_zero, List.set_cons_succ, i64_w, i32_w]
                rfl
              refine pure_ (i := 13) (N := some 64) (v := ?_) (a' := ?_) #[true, true, true, true, true, true, true, true, true, true, true, true, true, true, false, false, false] rfl rfl (by kernel_rfl) (fun _ _ _ h => h) (Or.inl ⟨by rfl, ?_⟩) ?_ ?_
              rotate_left
              · intro w'
                go_simp
                with_reducible rfl
              rotate_left
              · simp only [Act.put, List.setIfInBounds_toArray, List.set_cons_zero, List.set_cons_succ, i64_w, i32_w]
                rfl
              refine take_ (i := 14) (N := some 65) (v := ?_) (a' := ?_) #[true, true, true, true, true, true, true, true, true, true, true, true, true, true, true, false, false] rfl rfl (by kernel_rfl) (fun _ _ _ h => h) (Or.inl ⟨by rfl, ?_⟩) hHeld ?_ ?_
              rotate_left
              · rintro w' ⟨s0, s1⟩
                go_simp
                with_reducible rfl
              rotate_left
              · simp only [Act.put, List.setIfInBounds_toArray, List.set_cons_zero, List.set_cons_succ, i64_w, i32_w]
                rfl
              refine pure_ (i := 15) (N := some 66) (v := ?_) (a' := ?_) #[true, true, true, true, true, true, true, true, true, true, true, true, true, true, true, true, false] rfl rfl (by kernel_rfl) (fun _ _ _ h => h) (Or.inl ⟨by rfl, ?_⟩) ?_ ?_
              rotate_left
              · intro w'
                go_simp
                with_reducible rfl
              rotate_left
              · simp only [Act.put, List.setIfInBounds_toArray, List.set_cons_zero, List.set_cons_succ, i64_w, i32_w]
                rfl
              refine pure_ (i := 16) (N := some 67) (v := ?_) (a' := ?_) #[true, true, true, true, true, true, true, true, true, true, true, true, true, true, true, true, true] rfl rfl (by kernel_rfl) (fun _ _ _ h => h) (Or.inl ⟨by rfl, ?_⟩) ?_ ?_
              rotate_left
              · intro w'
                go_simp
                with_reducible rfl
              rotate_left
              · simp only [Act.put, List.setIfInBounds_toArray, List.set_cons_zero, List.set_cons_succ, i64_w, i32_w]
                rfl
              refine done_ (by kernel_rfl) ?_
              go_wp2_with fail
              go_meet
              case rel => exact ⟨congrArg Value.bool x5.symm, ⟨below_drew1 (Below.refl _ _)⟩⟩
          · have x1 : decide ((at_ : Int) < (L.length : Int)) = false := decide_eq_false (by omega)
            have x2 : decide (at_ < L.length) = false := decide_eq_false h1
            have x5 : decide (at_ < L.length ∧ at_ < 60) = false := decide_eq_false (fun h => h1 h.1)
            refine start_ (n := 17) (S := fun w' => w'.cell? ⟨DB, 6, none⟩ = some (.int .i64 (at_ : Int)) ∧ w'.cell? ⟨DB, 5, none⟩ = some (.slice AL L.length cL)) (ds := []) #[false, false, false, false, false, false, false, false, false, false, false, false, false, false, false, false, false] (by kernel_rfl) rfl rfl ⟨q6.out, q5.out⟩ (fun hHeld => ?_)
            refine pure_ (i := 0) (N := some 51) (v := ?_) (a' := ?_) #[true, false, false, false, false, false, false, false, false, false, false, false, false, false, false, false, false] rfl rfl (by kernel_rfl) (fun _ _ _ h => h) (Or.inl ⟨by rfl, ?_⟩) ?_ ?_
            rotate_left
            · intro w'
              go_simp
              with_reducible rfl
            rotate_left
            · simp only [Act.put, List.setIfInBounds_toArray, List.set_cons_zero, List.set_cons_succ, i64_w, i32_w]
              rfl
            refine pure_ (i := 1) (N := some 52) (v := ?_) (a' := ?_) #[true, true, false, false, false, false, false, false, false, false, false, false, false, false, false, false, false] rfl rfl (by kernel_rfl) (fun _ _ _ h => h) (Or.inl ⟨by rfl, ?_⟩) ?_ ?_
            rotate_left
            · intro w'
              go_simp
              with_reducible rfl
            rotate_left
            · simp only [Act.put, List.setIfInBounds_toArray, List.set_cons_zero, List.set_cons_succ, i64_w, i32_w]
              rfl
            refine pure_ (i := 2) (N := some 53) (v := ?_) (a' := ?_) #[true, true, true, false, false, false, false, false, false, false, false, false, false, false, false, false, false] rfl rfl (by kernel_rfl) (fun _ _ _ h => h) (Or.inl ⟨by rfl, ?_⟩) ?_ ?_
            rotate_left
            · intro w'
              go_simp
              with_reducible rfl
            rotate_left
            · simp only [Act.put, List.setIfInBounds_toArray, List.set_cons_zero, List.set_cons_succ, i64_w, i32_w]
              rfl
            refine pure_ (i := 4) (N := some 55) (v := ?_) (a' := ?_) #[true, true, true, false, true, false, false, false, false, false, false, false, false, false, false, false, false] rfl rfl (by kernel_rfl) (fun _ _ _ h => h) (Or.inl ⟨by rfl, ?_⟩) ?_ ?_
            rotate_left
            · intro w'
              go_simp
              with_reducible rfl
            rotate_left
            · simp only [Act.put, List.setIfInBounds_toArray, List.set_cons_zero, List.set_cons_succ, i64_w, i32_w]
              rfl
            refine pure_ (i := 5) (N := some 56) (v := ?_) (a' := ?_) #[true, true, true, false, true, true, false, false, false, false, false, false, false, false, false, false, false] rfl rfl (by kernel_rfl) (fun _ _ _ h => h) (Or.inl ⟨by rfl, ?_⟩) ?_ ?_
            rotate_left
            · intro w'
              go_simp
              with_reducible rfl
            rotate_left
            · simp only [Act.put, List.setIfInBounds_toArray, List.set_cons_zero, List.set_cons_succ, i64_w, i32_w]
              rfl
            refine pure_ (i := 6) (N := some 57) (v := ?_) (a' := ?_) #[true, true, true, false, true, true, true, false, false, false, false, false, false, false, false, false, false] rfl rfl (by kernel_rfl) (fun _ _ _ h => h) (Or.inl ⟨by rfl, ?_⟩) ?_ ?_
            rotate_left
            · intro w'
              go_simp
              with_reducible rfl
            rotate_left
            · simp only [Act.put, List.setIfInBounds_toArray, List.set_cons_zero, List.set_cons_succ, i64_w, i32_w]
              rfl
            refine take_ (i := 3) (N := some 54) (v := ?_) (a' := ?_) #[true, true, true, true, true, true, true, false, false, false, false, false, false, false, false, false, false] rfl rfl (by kernel_rfl) (fun _ _ _ h => h) (Or.inl ⟨by rfl, ?_⟩) hHeld ?_ ?_
            rotate_left
            · rintro w' ⟨s0, s1⟩
              go_simp
              with_reducible rfl
            rotate_left
            · simp only [Act.put, List.setIfInBounds_toArray, List.set_cons_zero, List.set_cons_succ, i64_w, i32_w]
              rfl
            refine take_ (i := 7) (N := some 58) (v := ?_) (a' := ?_) #[true, true, true, true, true, true, true, true, false, false, false, false, false, false, false, false, false] rfl rfl (by kernel_rfl) (fun _ _ _ h => h) (Or.inl ⟨by rfl, ?_⟩) hHeld ?_ ?_
            rotate_left
            · rintro w' ⟨s0, s1⟩
              go_simp
              with_reducible rfl
            rotate_left
            · simp only [Act.put, List.setIfInBounds_toArray, List.set_cons_zero, List.set_cons_succ, i64_w, i32_w]
              rfl
            refine pure_ (i := 8) (N := some 59) (v := ?_) (a' := ?_) #[true, true, true, true, true, true, true, true, true, false, false, false, false, false, false, false, false] rfl rfl (by kernel_rfl) (fun _ _ _ h => h) (Or.inl ⟨by rfl, ?_⟩) ?_ ?_
            rotate_left
            · intro w'
              go_simp
              with_reducible rfl
            rotate_left
            · simp only [Act.put, List.setIfInBounds_toArray, List.set_cons_zero, List.set_cons_succ, i64_w, i32_w]
              rfl
            refine pure_ (i := 9) (N := some 60) (v := ?_) (a' := ?_) #[true, true, true, true, true, true, true, true, true, true, false, false, false, false, false, false, false] rfl rfl (by kernel_rfl) (fun _ _ _ h => h) (Or.inl ⟨by rfl, ?_⟩) ?_ ?_
            rotate_left
            · intro w'
              go_simp
              with_reducible rfl
            rotate_left
            · simp only [Act.put, List.setIfInBounds_toArray, List.set_cons_zero, List.set_cons_succ, i64_w, i32_w]
              rfl
            refine pure_ (i := 10) (N := some 61) (v := ?_) (a' := ?_) #[true, true, true, true, true, true, true, true, true, true, true, false, false, false, false, false, false] rfl rfl (by kernel_rfl) (fun _ _ _ h => h) (Or.inl ⟨by rfl, ?_⟩) ?_ ?_
            rotate_left
            · intro w'
              go_simp
              with_reducible rfl
            rotate_left
            · simp only [Act.put, List.setIfInBounds_toArray, List.set_cons_zero, List.set_cons_succ, i64_w, i32_w]
              rfl
            refine pure_ (i := 11) (N := some 62) (v := undef) (a' := ?_) #[true, true, true, true, true, true, true, true, true, true, true, true, false, false, false, false, false] rfl rfl (by kernel_rfl) (fun _ _ _ h => h) (Or.inr ⟨by rfl, rfl⟩) ?_ ?_
            rotate_left
            · simp only [Act.put, List.setIfInBounds_toArray, List.set_cons_zero, List.set_cons_succ, i64_w, i32_w]
              rfl
            refine pure_ (i := 12) (N := some 63) (v := undef) (a' := ?_) #[true, true, true, true, true, true, true, true, true, true, true, true, true, false, false, false, false] rfl rfl (by kernel_rfl) (fun _ _ _ h => h) (Or.inr ⟨by rfl, rfl⟩) ?_ ?_
            rotate_left
            · simp only [Act.put, List.setIfInBounds_toArray, List.set_cons_zero, List.set_cons_succ, i64_w, i32_w]
              rfl
            refine pure_ (i := 13) (N := some 64) (v := undef) (a' := ?_) #[true, true, true, true, true, true, true, true, true, true, true, true, true, true, false, false, false] rfl rfl (by kernel_rfl) (fun _ _ _ h => h) (Or.inr ⟨by rfl, rfl⟩) ?_ ?_
            rotate_left
            · simp only [Act.put, List.setIfInBounds_toArray, List.set_cons_zero, List.set_cons_succ, i64_w, i32_w]
              rfl
            refine pure_ (i := 14) (N := some 65) (v := undef) (a' := ?_) #[true, true, true, true, true, true, true, true, true, true, true, true, true, true, true, false, false] rfl rfl (by kernel_rfl) (fun _ _ _ h => h) (Or.inr ⟨by rfl, rfl⟩) ?_ ?_
            rotate_left
            · simp only [Act.put, List.setIfInBounds_toArray, List.set_cons_zero, List.set_cons_succ, i64_w, i32_w]
              rfl
            refine pure_ (i := 15) (N := some 66) (v := undef) (a' := ?_) #[true, true, true, true, true, true, true, true, true, true, true, true, true, true, true, true, false] rfl rfl (by kernel_rfl) (fun _ _ _ h => h) (Or.inr ⟨by rfl, rfl⟩) ?_ ?_
            rotate_left
            · simp only [Act.put, List.setIfInBounds_toArray, List.set_cons_zero, List.set_cons_succ, i64_w, i32_w]
              rfl
            refine pure_ (i := 16) (N := some 67) (v := ?_) (a' := ?_) #[true, true, true, true, true, true, true, true, true, true, true, true, true, true, true, true, true] rfl rfl (by kernel_rfl) (fun _ _ _ h => h) (Or.inl ⟨by rfl, ?_⟩) ?_ ?_
            rotate_left
            · intro w'
              go_simp
              with_reducible rfl
            rotate_left
            · simp only [Act.put, List.setIfInBounds_toArray, List.set_cons_zero, List.set_cons_succ, i64_w, i32_w]
              rfl
            refine done_ (by kernel_rfl) ?_
            go_wp2_with fail
            go_meet
            case rel => exact ⟨congrArg Value.bool x5.symm, ⟨below_drew1 (Below.refl _ _)⟩⟩
        case rest =>
          obtain ⟨rfl, HBD⟩ := hcut
          obtain ⟨w2, ew2⟩ : ∃ w2 : World, w2 = wc := ⟨_, rfl⟩
          subst ew2
          go_upto_if 67 with fail
          have HBK2 := Aside0.mk ((HBD.out.block _ (blk_lt HBK.out)).trans HBK.out)
          have HB2 : Aside0 (Below w0.heap.size w0 w2) := ⟨HB1.out.trans (HBD.out.mono HB1.out.size)⟩
          have HA2 := Aside0.mk (Kd.R_below HA.out HBD.out)
          have HBW2 : Aside0 (Below W.heap.size W w2) := ⟨HBW.out.trans (HBD.out.mono HBW.out.size)⟩
          clear HBK HB1 HA HBW HBD
          go_cut [10] from 16 (fun s10 wc => s10 = .int .i64 (dK L at_ n) ∧ Aside0 (Below w2.heap.size w2 wc))
          case first =>
            by_cases hc : at_ < L.length ∧ at_ < 60
            · have x5 : decide (at_ < L.length ∧ at_ < 60) = true := decide_eq_true hc
              have hk : dK L at_ n = Int.tmod (L.getD at_ 0) (n : Int) := by unfold dK; rw [if_pos hc.1, if_pos hc.2]
              have HKD := Aside0.mk hk
              have q5 : Aside0 (w2.cell? ⟨DB, 5, none⟩ = some (.slice AL L.length cL)) := ⟨(blk_cell HBK2.out 5).trans rfl⟩
              have q6 : Aside0 (w2.cell? ⟨DB, 6, none⟩ = some (.int .i64 (at_ : Int))) := ⟨(blk_cell HBK2.out 6).trans rfl⟩
              obtain ⟨ad, ead, hcell⟩ := Kd.at_int (Kd.C_below HL.out HB2.out) (at_ : Int) (by omega) (by have := hc.1; omega)
              have hx := HU.out (L.getD at_ 0) (by rw [List.getD_eq_getElem?_getD, List.getElem?_eq_getElem hc.1]; exact List.getElem_mem _)
              rw [show rd L (at_ : Int) = L.getD at_ 0 from rfl, Int.toNat_natCast] at hcell
              generalize L.getD at_ 0 = x at hcell hx HKD
              have hw3 : IntKind.i64.wrap x = x := by rw [IntKind.wrap_i64]; omega
              have hw4 : IntKind.i64.wrap (x.tmod n) = x.tmod n := by
                have h1 := Int.tmod_nonneg (n : Int) hx.1
                have h2 := Int.tmod_lt_of_pos x (show (0 : Int) < n by have := HN0.out; omega)
                have h3 := HALN.out
                have h4 := HP2.out
                have h5 := EN.out
                rw [IntKind.wrap_i64]; omega
              have p0 : (0 ≤ (at_ : Int)) = True := eq_true (by omega)
              have p1 : ((at_ : Int) < (L.length : Int)) = True := eq_true (by have := hc.1; omega)
              have p2 : (at_ < L.length) = True := eq_true hc.1
              have p3 : (n = 0) = False := eq_false (by have := HN0.out; omega)
              have p4 : ((n : Int) = 0) = False := eq_false (by have := HN0.out; omega)
              cases ead
              clear hx hk hc
              rw [x5]
              go_upto_region 11 with fail
              refine start_ (n := 15) (S := fun w' => w'.cell? ⟨DB, 5, none⟩ = some (.slice (some ad) L.length cL) ∧ w'.cell? ⟨DB, 6, none⟩ = some (.int .i64 (at_ : Int)) ∧ w'.cell? (ad.add at_) = some (.int .u8 x)) (ds := []) #[false, false, false, false, false, false, false, false, false, false, false, false, false, false, false] (by kernel_rfl) rfl rfl ⟨q5.out, q6.out, hcell⟩ (fun hHeld => ?_)
              refine pure_ (i := 0) (N := some 68) (v := ?_) (a' := ?_) #[true, false, false, false, false, false, false, false, false, false, false, false, false, false, false] rfl rfl (by kernel_rfl) (fun _ _ _ h => h) (Or.inl ⟨by rfl, ?_⟩) ?_ ?_
              rotate_left
              · intro w'
                go_simp
                with_reducible rfl
              rotate_left
              · simp only [Act.put, List.setIfInBounds_toArray, List.set_cons_zero, List.set_cons_succ, i64_w, i32_w]
                rfl
              refine pure_ (i := 1) (N := some 69) (v := ?_) (a' := ?_) #[true, true, false, false, false, false, false, false, false, false, false, false, false, false, false] rfl rfl (by kernel_rfl) (fun _ _ _ h => h) (Or.inl ⟨by rfl, ?_⟩) ?_ ?_
              rotate_left
              · intro w'
                go_simp
                with_reducible rfl
              rotate_left
              · simp only [Act.put, List.setIfInBounds_toArray, List.set_cons_zero, List.set_cons_succ, i64_w, i32_w]
                rfl
              refine pure_ (i := 2) (N := some 70) (v := ?_) (a' := ?_) #[true, true, true, false, false, false, false, false, false, false, false, false, false, false, false] rfl rfl (by kernel_rfl) (fun _ _ _ h => h) (Or.inl ⟨by rfl, ?_⟩) ?_ ?_
              rotate_left
              · intro w'
                go_simp
                with_reducible rfl
              rotate_left
              · simp only [Act.put, List.setIfInBounds_toArray, List.set_cons_zero, List.set_cons_succ, i64_w, i32_w]
                rfl
              refine pure_ (i := 4) (N := some 72) (v := ?_) (a' := ?_) #[true, true, true, false, true, false, false, false, false, false, false, false, false, false, false] rfl rfl (by kernel_rfl) (fun _ _ _ h => h) (Or.inl ⟨by rfl, ?_⟩) ?_ ?_
              rotate_left
              · intro w'
                go_simp
                with_reducible rfl
              rotate_left
              · simp only [Act.put, List.setIfInBounds_toArray, List.set_cons_zero, List.set_cons_succ, i64_w, i32_w]
                rfl
              refine pure_ (i := 5) (N := some 73) (v := ?_) (a' := ?_) #[true, true, true, false, true, true, false, false, false, false, false, false, false, false, false] rfl rfl (by kernel_rfl) (fun _ _ _ h => h) (Or.inl ⟨by rfl, ?_⟩) ?_ ?_
              rotate_left
              · intro w'
                go_simp
                with_reducible rfl
              rotate_left
              · simp only [Act.put, List.setIfInBounds_toArray, List.set_cons_zero, List.set_cons_succ, i64_w, i32_w]
                rfl
              refine pure_ (i := 6) (N := some 74) (v := ?_) (a' := ?_) #[true, true, true, false, true, true, true, false, false, false, false, false, false, false, false] rfl rfl (by kernel_rfl) (fun _ _ _ h => h) (Or.inl ⟨by rfl, ?_⟩) ?_ ?_
              rotate_left
              · intro w'
                go_simp
                with_reducible rfl
              rotate_left
              · simp only [Act.put, List.setIfInBounds_toArray, List.set_cons_zero, List.set_cons_succ, i64_w, i32_w]
                rfl
              refine pure_ (i := 11) (N := some 79) (v := ?_) (a' := ?_) #[true, true, true, false, true, true, true, false, false, false, false, true, false, false, false] rfl rfl (by kernel_rfl) (fun _ _ _ h => h) (Or.inl ⟨by rfl, ?_⟩) ?_ ?_
              rotate_left
              · intro w'
                go_simp
                with_reducible rfl
              rotate_left
              · simp only [Act.put, List.setIfInBounds_toArray, List.set_cons_zero, List.set_cons_succ, i64_w, i32_w]
                rfl
              refine pure_ (i := 12) (N := some 80) (v := ?_) (a' := ?_) #[true, true, true, false, true, true, true, false, false, false, false, true, true, false, false] rfl rfl (by kernel_rfl) (fun _ _ _ h => h) (Or.inl ⟨by rfl, ?_⟩) ?_ ?_
              rotate_left
              · intro w'
                go_simp
                with_reducible rfl
              rotate_left
              · simp only [Act.put, List.setIfInBounds_toArray, List.set_cons_zero, List.set_cons_succ, i64_w, i32_w]
                rfl
              refine take_ (i := 3) (N := some 71) (v := ?_) (a' := ?_) #[true, true, true, true, true, true, true, false, false, false, false, true, true, false, false] rfl rfl (by kernel_rfl) (fun _ _ _ h => h) (Or.inl ⟨by rfl, ?_⟩) hHeld ?_ ?_
              rotate_left
              · rintro w' ⟨s0, s1, s2⟩
                go_simp
                with_reducible rfl
              rotate_left
              · simp only [Act.put, List.setIfInBounds_toArray, List.set_cons_zero, List.set_cons_succ, i64_w, i32_w]
                rfl
              refine take_ (i := 7) (N := some 75) (v := ?_) (a' := ?_) #[true, true, true, true, true, true, true, true, false, false, false, true, true, false, false] rfl rfl (by kernel_rfl) (fun _ _ _ h => h) (Or.inl ⟨by rfl, ?_⟩) hHeld ?_ ?_
              rotate_left
              · rintro w' ⟨s0, s1, s2⟩
                go_simp
                with_reducible rfl
              rotate_left
              · simp only [Act.put, List.setIfInBounds_toArray, List.set_cons_zero, List.set_cons_succ, i64_w, i32_w]
                rfl
              refine pure_ (i := 8) (N := some 76) (v := ?_) (a' := ?_) #[true, true, true, true, true, true, true, true, true, false, false, true, true, false, false] rfl rfl (by kernel_rfl) (fun _ _ _ h => h) (Or.inl ⟨by rfl, ?_⟩) ?_ ?_
              rotate_left
              · intro w'
                go_simp
                with_reducible rfl
              rotate_left
              · simp only [Act.put, List.setIfInBounds_toArray, List.set_cons_zero, List.set_cons_succ, i64_w, i32_w]
                rfl
              refine take_ (i := 9) (N := some 77) (v := ?_) (a' := ?_) #[true, true, true, true, true, true, true, true, true, true, false, true, true, false, false] rfl rfl (by kernel_rfl) (fun _ _ _ h => h) (Or.inl ⟨by rfl, ?_⟩) hHeld ?_ ?_
              rotate_left
              · rintro w' ⟨s0, s1, s2⟩
                go_simp
                with_reducible rfl
              rotate_left
              · simp only [Act.put, List.setIfInBounds_toArray, List.set_cons_zero, List.set_cons_succ, i64_w, i32_w]
                rfl
              refine pure_ (i := 10) (N := some 78) (v := ?_) (a' := ?_) #[true, true, true, true, true, true, true, true, true, true, true, true, true, false, false] rfl rfl (by kernel_rfl) (fun _ _ _ h => h) (Or.inl ⟨by rfl, ?_⟩) ?_ ?_
              rotate_left
              · intro w'
                go_simp
                with_reducible rfl
              rotate_left
              · simp only [Act.put, List.setIfInBounds_toArray, List.set_cons_zero, List.set_cons_succ, i64_w, i32_w]
                rfl
              refine pure_ (i := 13) (N := some 81) (v := ?_) (a' := ?_) #[true, true, true, true, true, true, true, true, true, true, true, true, true, true, false] rfl rfl (by kernel_rfl) (fun _ _ _ h => h) (Or.inl ⟨by rfl, ?_⟩) ?_ ?_
              rotate_left
              · intro w'
                go_simp
                with_reducible rfl
              rotate_left
              · simp only [Act.put, List.setIfInBounds_toArray, List.set_cons_zero, List.set_cons_succ, i64_w, i32_w]
                rfl
              refine pure_ (i := 14) (N := some 10) (v := ?_) (a' := ?_) #[true, true, true, true, true, true, true, true, true, true, true, true, true, true, true] rfl rfl (by kernel_rfl) (fun _ _ _ h => h) (Or.inl ⟨by rfl, ?_⟩) ?_ ?_
              rotate_left
              · intro w'
                go_simp
                with_reducible rfl
              rotate_left
              · simp only [Act.put, List.setIfInBounds_toArray, List.set_cons_zero, List.set_cons_succ, i64_w, i32_w]
                rfl
              refine done_ (by kernel_rfl) ?_
              go_wp2_with fail
              go_meet
              case rel => exact ⟨congrArg _ HKD.out.symm, ⟨below_drew1 (Below.refl _ _)⟩⟩
            · have x5 : decide (at_ < L.length ∧ at_ < 60) = false := decide_eq_false hc
              have hk : dK L at_ n = (n : Int) - 1 := by
                unfold dK
                split
                · split
                  · rename_i h1 h2; exact absurd ⟨h1, h2⟩ hc
                  · rfl
                · rfl
              rw [x5]
              clear hc
              go_wp2_with fail
              go_meet
              case rel => exact ⟨congrArg _ hk.symm, ⟨Below.refl _ _⟩⟩
          case rest =>
            obtain ⟨rfl, HBD⟩ := hcut
            obtain ⟨w3, ew3⟩ : ∃ w3 : World, w3 = wc := ⟨_, rfl⟩
            subst ew3
            have HBK3 := Aside0.mk ((HBD.out.block _ (blk_lt HBK2.out)).trans HBK2.out)
            have HB3 : Aside0 (Below w0.heap.size w0 w3) := ⟨HB2.out.trans (HBD.out.mono HB2.out.size)⟩
            have HA3 := Aside0.mk (Kd.R_below HA2.out HBD.out)
            have HBW3 : Aside0 (Below W.heap.size W w3) := ⟨HBW2.out.trans (HBD.out.mono HBW2.out.size)⟩
            clear HBK2 HB2 HA2 HBW2 HBD
            have q6 : w3.cell? ⟨DB, 6, none⟩ = some (.int .i64 (at_ : Int)) := (blk_cell HBK3.out 6).trans rfl
            have f6 := blk_frozen HBK3.out 6
            have hw5 : IntKind.i64.wrap ((at_ : Int) + 1) = (at_ : Int) + 1 := by rw [IntKind.wrap_i64]; have := HLIM.out; omega
            go_upto_region 14 with fail
            have HK4 : Aside0 (Kept w3 (w3.setCell ⟨DB, 6, none⟩ (.int .i64 ((at_ : Int) + 1))) (fun k => k = DB)) := ⟨Kept.setCell (Kept.refl w3 (fun k => k = DB)) (p := ⟨DB, 6, none⟩) (.inl rfl) _⟩
            have HBK4 : Aside0 ((w3.setCell ⟨DB, 6, none⟩ (.int .i64 ((at_ : Int) + 1))).heap[DB]? = some (derObj A0 n0 c0 A1 n1 c1 a2 a3 A4 ps.length c4 AL L.length cL (at_ + 1))) := ⟨blk_put HBK3.out 6 _ rfl⟩
            have HB4 : Aside0 (Below w0.heap.size w0 (w3.setCell ⟨DB, 6, none⟩ (.int .i64 ((at_ : Int) + 1)))) := ⟨HB3.out.setCell (p := ⟨DB, 6, none⟩) HDB.out _⟩
            have HA4 := Aside0.mk (Kd.R_kept (Kd.R_mono (ok' := fun k => W.heap.size ≤ k) (Kd.R_bound HA3.out) (fun k hk => hk.2.1)) HK4.out (fun k hk h => by have := HDBW.out; omega))
            have HKW4 := Aside0.mk (Kept.then_ (Kept.of_below HBW3.out (fun k => k = DB)) HK4.out (fun k hk => .inl hk))
            generalize w3.setCell ⟨DB, 6, none⟩ (.int .i64 ((at_ : Int) + 1)) = w4 at HK4 HBK4 HB4 HA4 HKW4 ⊢
            clear HK4 HBK3 HB3 HA3 HBW3 q6 f6 hw5
            have hkk := dK_lt HU.out at_ HN0.out
            generalize dK L at_ n = kk at hkk HRES2 ⊢
            have hln := EN.out
            obtain ⟨ad8, ead8, hc8⟩ := Kd.at_int (Kd.R_reads' HA4.out).2.2 kk hkk.1 (by omega)
            have hx := HMEM.out (all.getD kk.toNat 0) (by rw [List.getD_eq_getElem?_getD, List.getElem?_eq_getElem (show kk.toNat < all.length by omega)]; exact List.getElem_mem _)
            rw [show rd all kk = all.getD kk.toNat 0 from rfl] at hc8
            generalize all.getD kk.toNat 0 = x at hx hc8 HRES2
            obtain ⟨ad, A5, c5, ead, _, e1, _, hC5⟩ := at_T34 (Kd.C_below HPS.out HB4.out) x hx.1 hx.2
            obtain ⟨ad', A5', c5', ead', _, e1', hle5, hC50⟩ := at_T34 HPS.out x hx.1 hx.2
            cases ead8
            cases ead
            cases ead'
            have e1'' := ((HB4.out.cell (World.block_lt_of_cell? w0 _ e1')).trans e1').symm.trans e1
            injection e1'' with e1''
            injection e1'' with ea5 _ ec5
            subst ea5
            have hmem : rd_T34 ps x ∈ ps := by
              show ps.getD x.toNat _ ∈ ps
              rw [List.getD_eq_getElem?_getD, List.getElem?_eq_getElem (show x.toNat < ps.length by omega)]; exact List.getElem_mem _
            have HR10 := Aside0.mk (HR.out _ hmem)
            have HC5 := Aside0.mk hC50
            generalize rd_T34 ps x = p at HR10 HC5 e1 HRES2 hle5
            obtain ⟨left, r⟩ := p
            simp only at HR10 HC5 e1 HRES2 hle5
            have HE1 := Aside0.mk e1
            have HC8 := Aside0.mk hc8
            have HQ4 : Aside0 (w4.cell? ⟨DB, 4, none⟩ = some (.slice (some ad) ps.length c4)) := ⟨(blk_cell HBK4.out 4).trans rfl⟩
            have p0 : (0 ≤ kk) = True := eq_true hkk.1
            have p1 : (kk < (n : Int)) = True := eq_true hkk.2
            have p2 : (0 ≤ x) = True := eq_true hx.1
            have p3 : (x < (ps.length : Int)) = True := eq_true hx.2
            clear hkk hx hln hmem e1 hc8 hC5 e1' hle5 ec5 hC50
            refine start_ (n := 13) (S := fun w' => w'.cell? ⟨DB, 4, none⟩ = some (.slice (some ad) ps.length c4) ∧ w'.cell? (ad8.add kk.toNat) = some (.int .i64 x) ∧ w'.cell? ⟨(ad.add (x.toNat * 2)).block, (ad.add (x.toNat * 2)).off + 1, none⟩ = some (.slice A5' r.length c5)) (ds := []) #[false, false, false, false, false, false, false, false, false, false, false, false, false] (by kernel_rfl) rfl rfl ⟨HQ4.out, HC8.out, HE1.out⟩ (fun hHeld => ?_)
            refine pure_ (i := 0) (N := some 89) (v := ?_) (a' := ?_) #[true, false, false, false, false, false, false, false, false, false, false, false, false] rfl rfl (by kernel_rfl) (fun _ _ _ h => h) (Or.inl ⟨by rfl, ?_⟩) ?_ ?_
            rotate_left
            · intro w'
              go_simp
              with_reducible rfl
            rotate_left
            · simp only [Act.put, List.setIfInBounds_toArray, List.set_cons_zero, List.set_cons_succ, i64_w, i32_w]
              rfl
            refine pure_ (i := 1) (N := some 90) (v := ?_) (a' := ?_) #[true, true, false, false, false, false, false, false, false, false, false, false, false] rfl rfl (by kernel_rfl) (fun _ _ _ h => h) (Or.inl ⟨by rfl, ?_⟩) ?_ ?_
            rotate_left
            · intro w'
              go_simp
              with_reducible rfl
            rotate_left
            · simp only [Act.put, List.setIfInBounds_toArray, List.set_cons_zero, List.set_cons_succ, i64_w, i32_w]
              rfl
            refine pure_ (i := 2) (N := some 91) (v := ?_) (a' := ?_) #[true, true, true, false, false, false, false, false, false, false, false, false, false] rfl rfl (by kernel_rfl) (fun _ _ _ h => h) (Or.inl ⟨by rfl, ?_⟩) ?_ ?_
            rotate_left
            · intro w'
              go_simp
              with_reducible rfl
            rotate_left
            · simp only [Act.put, List.setIfInBounds_toArray, List.set_cons_zero, List.set_cons_succ, i64_w, i32_w]
              rfl
            refine pure_ (i := 3) (N := some 92) (v := ?_) (a' := ?_) #[true, true, true, true, false, false, false, false, false, false, false, false, false] rfl rfl (by kernel_rfl) (fun _ _ _ h => h) (Or.inl ⟨by rfl, ?_⟩) ?_ ?_
            rotate_left
            · intro w'
              go_simp
              with_reducible rfl
            rotate_left
            · simp only [Act.put, List.setIfInBounds_toArray, List.set_cons_zero, List.set_cons_succ, i64_w, i32_w]
              rfl
            refine pure_ (i := 5) (N := some 94) (v := ?_) (a' := ?_) #[true, true, true, true, false, true, false, false, false, false, false, false, false] rfl rfl (by kernel_rfl) (fun _ _ _ h => h) (Or.inl ⟨by rfl, ?_⟩) ?_ ?_
            rotate_left
            · intro w'
              go_simp
              with_reducible rfl
            rotate_left
            · simp only [Act.put, List.setIfInBounds_toArray, List.set_cons_zero, List.set_cons_succ, i64_w, i32_w]
              rfl
            refine pure_ (i := 6) (N := some 95) (v := ?_) (a' := ?_) #[true, true, true, true, false, true, true, false, false, false, false, false, false] rfl rfl (by kernel_rfl) (fun _ _ _ h => h) (Or.inl ⟨by rfl, ?_⟩) ?_ ?_
            rotate_left
            · intro w'
              go_simp
              with_reducible rfl
            rotate_left
            · simp only [Act.put, List.setIfInBounds_toArray, List.set_cons_zero, List.set_cons_succ, i64_w, i32_w]
              rfl
            refine pure_ (i := 7) (N := some 96) (v := ?_) (a' := ?_) #[true, true, true, true, false, true, true, true, false, false, false, false, false] rfl rfl (by kernel_rfl) (fun _ _ _ h => h) (Or.inl ⟨by rfl, ?_⟩) ?_ ?_
            rotate_left
            · intro w'
              go_simp
              with_reducible rfl
            rotate_left
            · simp only [Act.put, List.setIfInBounds_toArray, List.set_cons_zero, List.set_cons_succ, i64_w, i32_w]
              rfl
            refine take_ (i := 4) (N := some 93) (v := ?_) (a' := ?_) #[true, true, true, true, true, true, true, true, false, false, false, false, false] rfl rfl (by kernel_rfl) (fun _ _ _ h => h) (Or.inl ⟨by rfl, ?_⟩) hHeld ?_ ?_
            rotate_left
            · rintro w' ⟨s0, s1, s2⟩
              go_simp
              with_reducible rfl
            rotate_left
            · simp only [Act.put, List.setIfInBounds_toArray, List.set_cons_zero, List.set_cons_succ, i64_w, i32_w]
              rfl
            refine take_ (i := 8) (N := some 97) (v := ?_) (a' := ?_) #[true, true, true, true, true, true, true, true, true, false, false, false, false] rfl rfl (by kernel_rfl) (fun _ _ _ h => h) (Or.inl ⟨by rfl, ?_⟩) hHeld ?_ ?_
            rotate_left
            · rintro w' ⟨s0, s1, s2⟩
              go_simp
              with_reducible rfl
            rotate_left
            · simp only [Act.put, List.setIfInBounds_toArray, List.set_cons_zero, List.set_cons_succ, i64_w, i32_w]
              rfl
            refine pure_ (i := 9) (N := some 98) (v := ?_) (a' := ?_) #[true, true, true, true, true, true, true, true, true, true, false, false, false] rfl rfl (by kernel_rfl) (fun _ _ _ h => h) (Or.inl ⟨by rfl, ?_⟩) ?_ ?_
            rotate_left
            · intro w'
              go_simp
              with_reducible rfl
            rotate_left
            · simp only [Act.put, List.setIfInBounds_toArray, List.set_cons_zero, List.set_cons_succ, i64_w, i32_w]
              rfl
            refine pure_ (i := 10) (N := some 99) (v := ?_) (a' := ?_) #[true, true, true, true, true, true, true, true, true, true, true, false, false] rfl rfl (by kernel_rfl) (fun _ _ _ h => h) (Or.inl ⟨by rfl, ?_⟩) ?_ ?_
            rotate_left
            · intro w'
              go_simp
              with_reducible rfl
            rotate_left
            · simp only [Act.put, List.setIfInBounds_toArray, List.set_cons_zero, List.set_cons_succ, i64_w, i32_w]
              rfl
            refine take_ (i := 11) (N := some 100) (v := ?_) (a' := ?_) #[true, true, true, true, true, true, true, true, true, true, true, true, false] rfl rfl (by kernel_rfl) (fun _ _ _ h => h) (Or.inl ⟨by rfl, ?_⟩) hHeld ?_ ?_
            rotate_left
            · rintro w' ⟨s0, s1, s2⟩
              go_simp
              with_reducible rfl
            rotate_left
            · simp only [Act.put, List.setIfInBounds_toArray, List.set_cons_zero, List.set_cons_succ, i64_w, i32_w]
              rfl
            refine pure_ (i := 12) (N := some 12) (v := ?_) (a' := ?_) #[true, true, true, true, true, true, true, true, true, true, true, true, true] rfl rfl (by kernel_rfl) (fun _ _ _ h => h) (Or.inl ⟨by rfl, ?_⟩) ?_ ?_
            rotate_left
            · intro w'
              go_simp
              with_reducible rfl
            rotate_left
            · simp only [Act.put, List.setIfInBounds_toArray, List.set_cons_zero, List.set_cons_succ, i64_w, i32_w]
              rfl
            refine done_ (by kernel_rfl) ?_
            have HB5 : Aside0 (Below w0.heap.size w0 w4.drew) := ⟨below_drew1 HB4.out⟩
            have HKW5 : Aside0 (Kept W w4.drew (fun k => k = DB)) := ⟨Kept.drew HKW4.out⟩
            have HBK5 : Aside0 (w4.drew.heap[DB]? = some (derObj A0 n0 c0 A1 n1 c1 a2 a3 (some ad) ps.length c4 AL L.length cL (at_ + 1))) := ⟨HBK4.out⟩
            generalize w4.drew = w5 at HB5 HKW5 HBK5 ⊢
            clear HA4 HC8 HE1 HQ4 HB4 HBK4 HKW4
            go_wp2
            go_loopg [11, 13, 14, 15] r.length (fun kq v11 v13 v14 v15 wr => ∃ (j at2 : Nat) (out : List Int), v13 = .int .i64 (j : Int) ∧ j ≤ r.length ∧ r.length - j ≤ kq ∧ Aside0 (out.length ≤ 60 + j) ∧ Aside0 (at2 ≤ at_ + 1 + j * B) ∧ Aside0 (drvL nxt (r.drop j) out at2 = res) ∧ Aside0 (wr.heap[DB]? = some (derObj A0 n0 c0 A1 n1 c1 a2 a3 (some ad) ps.length c4 AL L.length cL at2)) ∧ Aside0 (Kept W wr (fun k => k = DB)) ∧ Aside0 (Below w0.heap.size w0 wr) ∧ Aside0 (Kd.R (Kd.int .i64) 3 wr W.heap.size (fun _ => True) v11 out))
            case atStart => exact ⟨0, at_ + 1, [], rfl, by omega, by omega, ⟨by simp⟩, ⟨by omega⟩, ⟨by simpa using HRES2.out.symm⟩, HBK5, HKW5, HB5, ⟨Kd.R_nil _ _ _ _ _⟩⟩
            case round =>
              clear HBK5 HKW5 HB5 HRES2
              obtain ⟨j, at2, out, rfl, hj, hm, HOL, HAT2, HDR, HBK5, HKW5, HB5, HO⟩ := hrel
              by_cases hlt : j < r.length
              · have d0 : decide (j < r.length) = true := decide_eq_true hlt
                have d1 : (j < r.length) = True := eq_true hlt
                have H := HDR.out
                rw [List.drop_eq_getElem_cons hlt] at H
                simp only [drvL] at H
                obtain ⟨ad5, ea5, e0, e1⟩ := at_T49 (Kd.C_below HC5.out HB5.out) (j : Int) (by omega) (by omega)
                cases ea5
                have hrd : rd_T49 r (j : Int) = r[j] := by simp [rd_T49, hlt]
                rw [hrd] at e0 e1
                rw [Int.toNat_natCast] at e0 e1
                generalize r[j] = y at H e0 e1
                obtain ⟨tk, x5⟩ := y
                simp only at H e0 e1
                have p5 : (0 ≤ (j : Int)) = True := eq_true (by omega)
                have p6 : ((j : Int) < (r.length : Int)) = True := eq_true (by omega)
                have hwj : IntKind.i64.wrap ((j : Int) + 1) = (j : Int) + 1 := by rw [IntKind.wrap_i64]; have := HR10.out; omega
                have HLT := Aside0.mk hlt
                have HM := Aside0.mk hm
                have HSW : Aside0 (W.heap.size ≤ wr.heap.size) := ⟨HKW5.out.1⟩
                clear hlt hm hj hrd HDR
                cases tk with
                | true =>
                  rw [if_pos rfl] at H
                  have HD2 := Aside0.mk H
                  clear H
                  go_wp2_with (first | ((with_reducible refine gate_builtin (b := .append) (xs := #[.tmp 112, .tmp 118]) rfl ?_); at_builtin; refine Kd.R_append (Kd.int .i64) (w0 := wr) W.heap.size rfl (.tmp 112) (.tmp 118) 39 3 (.int .i64 0) 8 rfl Try.underlying39 diInt rfl (by decide) (by omega) u11 out x5 [.int .i64 x5] (fun _ => True) (fun _ => False) rfl rfl rfl (fun _ hk => hk.elim) (fun _ _ => trivial) HO.out (Below.refl _ _) HSW.out (by have := HOL.out; have := HR10.out; have := HLT.out; omega) ?_; intro v1 w6 ho hb hg hat; have HO6 := Aside0.mk ho; have HBK6 := Aside0.mk ((hb.block DB HDBW.out).trans HBK5.out); have HKW6 := Aside0.mk (kept_step HKW5.out hb); have HB6 : Aside0 (Below w0.heap.size w0 w6) := ⟨HB5.out.trans (hb.mono HB.out.size)⟩; clear ho hb hg hat))
                  go_roundg (r.length - (j + 1))
                  case measure => have := HM.out; have := HLT.out; omega
                  case rel => exact ⟨j + 1, at2, out ++ [x5], rfl, by have := HLT.out; omega, Nat.le_refl _, ⟨by have := HOL.out; simp; omega⟩, ⟨by have := HAT2.out; rw [Nat.succ_mul]; omega⟩, HD2, HBK6, HKW6, HB6, HO6⟩
                | false =>
                  rw [if_neg (by simp)] at H
                  have hjB : (j + 1) * B ≤ 10 * B := Nat.mul_le_mul_right _ (by have := HLT.out; have := HR10.out; omega)
                  rw [Nat.succ_mul] at hjB
                  have P6 := Aside0.mk (HREC2.out x5 at2 wr (by have := HAT2.out; have := HLIM.out; omega) HB5.out HBK5.out)
                  have hna := HN.out x5 at2
                  have hwd : IntKind.i64.wrap ((deep : Int) + 1) = (deep : Int) + 1 := by rw [IntKind.wrap_i64]; have := HDEEP.out; omega
                  generalize nxt x5 at2 = q at H P6 hna
                  obtain ⟨⟨lq, okq⟩, aq⟩ := q
                  simp only at H hna
                  have HNA := Aside0.mk hna
                  have HH := Aside0.mk H
                  clear H hna hjB
                  go_upto_region 21 with (first | (go_at_call 13; (with_reducible refine P6.out.mono ?_); rintro e w6 ⟨v6, rfl, HR6, HBK6, HK6, HB6⟩; clear P6))
                  have HO6 := Aside0.mk (Kd.R_kept (Kd.R_mono (ok' := fun k => W.heap.size ≤ k) (Kd.R_bound HO.out) (fun k hk => hk.2.1)) HK6.out (fun k hk h => by have := HDBW.out; omega))
                  have HKW6 := Aside0.mk (Kept.then_ HKW5.out HK6.out (fun k hk => .inl hk))
                  have H := HH.out
                  obtain ⟨A6, m6, c6, rfl⟩ : ∃ A n c, v6 = .slice A n c := by obtain ⟨A, c, e⟩ := Kd.R_slice HR6.out; exact ⟨A, _, c, e⟩
                  obtain ⟨A11, m11, c11, rfl⟩ : ∃ A n c, u11 = .slice A n c := by obtain ⟨A, c, e⟩ := Kd.R_slice HO6.out; exact ⟨A, _, c, e⟩
                  have hm6 := (Kd.R_reads' HR6.out).1
                  have hm11 := (Kd.R_reads' HO6.out).1
                  have HSW6 : Aside0 (W.heap.size ≤ w6.heap.size) := ⟨HKW6.out.1⟩
                  have hwm : IntKind.i64.wrap ((m11 : Int) + (m6 : Int)) = (m11 : Int) + (m6 : Int) := by rw [IntKind.wrap_i64]; have := HOL.out; have := HNA.out.2; have := HR10.out; have := HLT.out; omega
                  have HM6 := Aside0.mk hm6
                  have HM11 := Aside0.mk hm11
                  clear HO HKW5 HBK5 HB5 HH hm6 hm11 e0 e1
                  cases okq with
                  | false =>
                    rw [if_neg (by simp)] at H
                    subst H
                    go_wp2
                    go_ret2
                    exact ⟨_, rfl, ⟨Kd.R_nil _ _ _ _ _⟩, HBK6, HKW6, HB6⟩
                  | true =>
                    rw [if_pos rfl] at H
                    by_cases hs : out.length + lq.length > 60
                    · rw [if_pos hs] at H
                      subst H
                      have s0 : 60 < m11 + m6 := by have := HM6.out; have := HM11.out; omega
                      have s1 : decide ((m11 : Int) + (m6 : Int) > 60) = true := decide_eq_true (by omega)
                      have s2 : ((60 : Int) < (m11 : Int) + (m6 : Int)) = True := eq_true (by omega)
                      clear hs
                      go_wp2
                      go_ret2
                      exact ⟨_, rfl, ⟨Kd.R_nil _ _ _ _ _⟩, HBK6, HKW6, HB6⟩
                    · rw [if_neg hs] at H
                      have HD2 := Aside0.mk H
                      have HSL : Aside0 (out.length + lq.length ≤ 60) := ⟨by omega⟩
                      have s0 : ¬ 60 < m11 + m6 := by have := HM6.out; have := HM11.out; omega
                      have s1 : decide ((m11 : Int) + (m6 : Int) > 60) = false := decide_eq_false (by omega)
                      have s2 : ((60 : Int) < (m11 : Int) + (m6 : Int)) = False := eq_false (by omega)
                      clear hs H
                      go_wp2_with (first | ((with_reducible refine gate_builtin (b := .append) (xs := #[.tmp 142, .tmp 143]) rfl ?_); at_builtin; refine Kd.R_append_rows (Kd.int .i64) (Rr := (Kd.int .i64).K w6) (w0 := w6) W.heap.size rfl (.tmp 142) (.tmp 143) 39 3 (.int .i64 0) 8 rfl Try.underlying39 diInt rfl (by decide) (by omega) (.slice A11 m11 c11) out lq A6 m6 c6 (fun _ => True) (fun _ => False) rfl rfl (Kd.R_mono HO6.out (fun _ _ => trivial)) (by have h := (Kd.R_reads' HR6.out).2.2; rw [← HM6.out] at h; exact h) (fun _ _ h => h) (fun _ h => h.elim) (fun _ _ => trivial) (Below.refl _ _) HSW6.out (by have := HM6.out; have := HSL.out; omega) ?_; intro v1 w7 ho hb hg hat; have HO7 := Aside0.mk ho; have HBK7 := Aside0.mk ((hb.block DB HDBW.out).trans HBK6.out); have HKW7 := Aside0.mk (kept_step HKW6.out hb); have HB7 : Aside0 (Below w0.heap.size w0 w7) := ⟨HB6.out.trans (hb.mono HB.out.size)⟩; clear ho hb hg hat))
                      go_roundg (r.length - (j + 1))
                      case measure => have := HM.out; have := HLT.out; omega
                      case rel => exact ⟨j + 1, aq, out ++ lq, rfl, by have := HLT.out; omega, Nat.le_refl _, ⟨by have := HSL.out; simp; omega⟩, ⟨by have := HAT2.out; have := HNA.out.1; rw [Nat.succ_mul]; omega⟩, HD2, HBK7, HKW7, HB7, HO7⟩
              · obtain rfl : j = r.length := by omega
                have H := HDR.out
                rw [List.drop_length] at H
                simp only [drvL] at H
                subst H
                clear hlt HDR
                go_wp2
                go_ret2
                exact ⟨_, rfl, HO, HBK5, HKW5, HB5⟩
theorem derive_any (ps : List S34) (L : List Int) (w0 : World) (DB : Nat) (A0 : Option Addr) (n0 c0 : Nat) (A1 : Option Addr) (n1 c1 : Nat) (a2 a3 : Int) (A4 : Option Addr) (c4 : Nat) (AL : Option Addr) (cL : Nat) (hDB : w0.heap.size ≤ DB) (hps : Kd.C k34 w0 A4 ps.length ps) (hL : Kd.C (Kd.int .u8) w0 AL L.length L) (hu : ∀ x ∈ L, 0 ≤ x ∧ x ≤ 255) (hr : ∀ p ∈ ps, p.f1.length ≤ 10) (hps2 : ps.length ≤ 1000000) : ∀ (f : Nat) (rule : Int) (deep at_ : Nat) (W : World),
    12 ≤ deep + f → deep ≤ 12 → at_ + 11 ^ f ≤ 1125899906842624 → Below w0.heap.size w0 W → W.heap[DB]? = some (derObj A0 n0 c0 A1 n1 c1 a2 a3 A4 ps.length c4 AL L.length cL at_) →
    Calls Try.prog 13 #[.pointer (some ⟨DB, 0, none⟩), .int .i64 rule, .int .i64 (deep : Int)] W (DerPost w0 W DB (derObj A0 n0 c0 A1 n1 c1 a2 a3 A4 ps.length c4 AL L.length cL) (drv ps L f rule deep at_))
  | 0, rule, deep, at_, W, h1, h2, h3, hB, hblk => by
    have hst : (dAll ps rule ps.length).length = 0 ∨ 10 < deep := .inr (by omega)
    exact derive_step ps L w0 DB A0 n0 c0 A1 n1 c1 a2 a3 A4 c4 AL cL hDB hps hL hu hr hps2 rule deep at_ W (by omega) hB hblk (fun _ a => (([], false), a)) 0 _ (by simp at h3; omega) (fun r a => ⟨by simp, by simp⟩) (by rw [if_pos hst]; rfl) (fun hn => absurd hst hn)
  | f + 1, rule, deep, at_, W, h1, h2, h3, hB, hblk => by
    have h5 : 1 ≤ 11 ^ f := Nat.one_le_pow _ _ (by decide)
    rw [Nat.pow_succ] at h3
    exact derive_step ps L w0 DB A0 n0 c0 A1 n1 c1 a2 a3 A4 c4 AL cL hDB hps hL hu hr hps2 rule deep at_ W (by omega) hB hblk (fun r a => drv ps L f r (deep + 1) a) (11 ^ f) _ (by omega) (fun r a => ⟨drv_at hr f r (deep + 1) a, drv_len hr f r (deep + 1) a⟩) (by rw [drv])
      (fun hn r a W' ha hB' hb' => by
        have hd : deep ≤ 10 := Nat.le_of_not_lt (fun h => hn (.inr h))
        exact derive_any ps L w0 DB A0 n0 c0 A1 n1 c1 a2 a3 A4 c4 AL cL hDB hps hL hu hr hps2 f r (deep + 1) a W' (by omega) (by omega) (by omega) hB' hb')
end Go.Proofs.Ytojdjjbkpbapfaa.P
end

section
namespace Go.Proofs.Ytojdjjbkpbapfaa.P
open Go.RowKit Go.Proofs.YtojdjjbkpbapfaaW.PrintWords Go.Proofs.YtojdjjbkpbapfaaW.PrintLast Go.Proofs.YtojdjjbkpbapfaaW.PrintMore Go.Proofs.Ytojdjjbkpbapfaa.H Go.Proofs.Ytojdjjbkpbapfaa.M
set_option linter.unusedVariables false
set_option linter.unusedSimpArgs false
set_option maxHeartbeats 4000000 in
set_option maxRecDepth 100000 in
theorem begin_walk (l m : List Int) (A0 : Option Addr) (c0 : Nat) (A1 : Option Addr) (c1 : Nat) (kk : Int) (w : World) (hl : Kd.C (Kd.int .u8) w A0 l.length l) (hlc : l.length ≤ c0) (hmm : Kd.C (Kd.int .u8) w A1 m.length m) (hmc : m.length ≤ c1) (hwl : ∀ x ∈ l, (Lit.int .u8 x).wf = true) (hwm : ∀ x ∈ m, (Lit.int .u8 x).wf = true) (hkk : (Lit.int .u8 kk).wf = true) :
    Calls Try.prog 5 #[.slice A0 l.length c0, .slice A1 m.length c1, .int .u8 kk] w fun e w' => e = .returned (.bool true) ∧ Below w.heap.size w w' := by
  obtain ⟨ns, ts, ps, hm, hM⟩ := made_ev0 hwl
  have hu : ∀ x ∈ m, 0 ≤ x ∧ x ≤ 255 := fun x hx => wf_u8 (hwm x hx)
  obtain ⟨kF, hF⟩ := (Ev.val (first_ev ns ts 0 0 ps hm.small (by have := hm.n5; omega) (by have := hm.t4; omega)) (if_pos hm.ok)).rounds
  obtain ⟨kE, hE⟩ := (Ev.val (empty_ev ns ts 0 0 ps hm.small (by have := hm.n5; omega)) (if_pos hm.ok)).rounds
  obtain ⟨kU, hU⟩ := (Ev.val (useful_ev ns ts 0 0 ps hm.small (by have := hm.n5; omega)) (if_pos hm.ok)).rounds
  have hk := wf_u8 hkk
  have hn1 := hm.n1
  have hn5 := hm.n5
  have hr0 : 0 ≤ Int.tmod kk (ns.length : Int) := Int.tmod_nonneg _ hk.1
  have hr1 : Int.tmod kk (ns.length : Int) < (ns.length : Int) := Int.tmod_lt_of_pos _ (by omega)
  obtain ⟨rule, hrule⟩ : ∃ r : Int, r = Int.tmod kk (ns.length : Int) := ⟨_, rfl⟩
  rw [← hrule] at hr0 hr1
  have hD := fun t a' => rule_first hm.ok hu (f := 12) (rule := rule) (deep := 0) (at_ := 0) (t := t) (a' := a')
  have hfl : (idxs (fst ns.length ts.length (clo false ns.length ps) ps)).length = ns.length := by rw [idxs, List.length_map, (fst_sh ns.length ts.length (clo false ns.length ps) hm.ok).1]
  have hel := clo_length ns.length ts.length false hm.ok
  have hul := clo_length ns.length ts.length true hm.ok
  have hfi : (idxs (fst ns.length ts.length (clo false ns.length ps) ps)).getD rule.toNat [] = idx 0 ((fst ns.length ts.length (clo false ns.length ps) ps).getD rule.toNat []) := by
    have hlt : rule.toNat < (fst ns.length ts.length (clo false ns.length ps) ps).length := by rw [(fst_sh ns.length ts.length (clo false ns.length ps) hm.ok).1]; omega
    rw [idxs, List.getD_eq_getElem?_getD, List.getElem?_map, List.getD_eq_getElem?_getD, List.getElem?_eq_getElem hlt]; rfl
  have hrl := (fst_sh ns.length ts.length (clo false ns.length ps) hm.ok).get (i := rule.toNat) (by omega)
  generalize clo true ns.length ps = us at hU hD hul
  generalize clo false ns.length ps = em at hF hE hD hfl hel hfi hrl
  generalize fst ns.length ts.length em ps = fs at hF hD hfl hfi hrl
  have HM := Aside0.mk hM
  have HMO := Aside0.mk hm
  have HF := Aside0.mk hF
  have HE := Aside0.mk hE
  have HU := Aside0.mk hU
  have HD := Aside0.mk hD
  have HUM := Aside0.mk hu
  have HFL := Aside0.mk hfl
  have HEL := Aside0.mk hel
  have HUL := Aside0.mk hul
  have HFI := Aside0.mk hfi
  have HRL := Aside0.mk hrl
  have HL := Aside0.mk hl
  have HMM := Aside0.mk hmm
  have HLC := Aside0.mk hlc
  have HMC := Aside0.mk hmc
  have HRULE := Aside0.mk hrule
  have HR01 := Aside0.mk (And.intro hr0 hr1)
  have HN := Aside0.mk (And.intro hn1 hn5)
  have HK := Aside0.mk hk
  clear hM hm hF hE hU hD hu hfl hel hul hfi hrl hl hmm hlc hmc hrule hr0 hr1 hn1 hn5 hk hwl hwm hkk
  go_enter Try.func5, Try.ntmps5
  go_upto_region 5 with (first
    | (go_at_call 9; (with_reducible refine (regletlaw13_awake.calls 40 true _ awake_some).mono ?_); rintro e w1 ⟨rfl, hb1⟩; have HB1 := Aside0.mk hb1; have P2 := Aside0.mk (regletlaw13_Made.calls 0 A0 c0 l ns ts 0 0 ps w1 (Kd.C_below HL.out hb1) HLC.out (HM.out 0)); clear hb1)
    | (go_at_call 12; (with_reducible refine P2.out.mono ?_); rintro e w2 ⟨v0, v1, v2, rfl, ho0, ho1, ho2, hb2⟩; obtain ⟨An, kn, rfl⟩ := Kd.R_slice ho0; obtain ⟨At, kt, rfl⟩ := Kd.R_slice ho1; obtain ⟨Ap, kp, rfl⟩ := Kd.S_slice ho2; have HB2 : Aside0 (Below w.heap.size w w2) := ⟨HB1.out.trans (hb2.mono HB1.out.size)⟩; have HON := Aside0.mk ((Kd.R_reads' ho0).2); have HOT := Aside0.mk ((Kd.R_reads' ho1).2); have HOP := Aside0.mk ((Kd.S_reads' ho2).2); clear ho0 ho1 ho2 hb2 P2))
  have HBS : Aside0 ((w2.alloc (.cells #[.slice An ns.length kn, .slice At ts.length kt, .int .i64 0, .int .i64 0, .slice Ap ps.length kp] 26)).heap[w2.heap.size]? = some (.cells #[.slice An ns.length kn, .slice At ts.length kt, .int .i64 0, .int .i64 0, .slice Ap ps.length kp] 26 (0, 0))) := ⟨heap_alloc_new w2 _⟩
  have hb3 : Below w2.heap.size w2 (w2.alloc (.cells #[.slice An ns.length kn, .slice At ts.length kt, .int .i64 0, .int .i64 0, .slice Ap ps.length kp] 26)) := below_alloc (Below.refl _ _) _
  have HB3 : Aside0 (Below w.heap.size w (w2.alloc (.cells #[.slice An ns.length kn, .slice At ts.length kt, .int .i64 0, .int .i64 0, .slice Ap ps.length kp] 26))) := ⟨HB2.out.trans (hb3.mono HB2.out.size)⟩
  have HON3 : Aside0 (ns.length ≤ kn ∧ Kd.string.C (w2.alloc (.cells #[.slice An ns.length kn, .slice At ts.length kt, .int .i64 0, .int .i64 0, .slice Ap ps.length kp] 26)) An ns.length ns) := ⟨HON.out.1, Kd.C_below HON.out.2 hb3⟩
  have HOT3 : Aside0 (ts.length ≤ kt ∧ k62.C (w2.alloc (.cells #[.slice An ns.length kn, .slice At ts.length kt, .int .i64 0, .int .i64 0, .slice Ap ps.length kp] 26)) At ts.length ts) := ⟨HOT.out.1, Kd.C_below HOT.out.2 hb3⟩
  have HOP3 : Aside0 (ps.length ≤ kp ∧ k34.C (w2.alloc (.cells #[.slice An ns.length kn, .slice At ts.length kt, .int .i64 0, .int .i64 0, .slice Ap ps.length kp] 26)) Ap ps.length ps) := ⟨HOP.out.1, Kd.C_below HOP.out.2 hb3⟩
  generalize w2.alloc (.cells #[.slice An ns.length kn, .slice At ts.length kt, .int .i64 0, .int .i64 0, .slice Ap ps.length kp] 26) = w3 at HBS HB3 HON3 HOT3 HOP3 ⊢
  generalize w2.heap.size = SB at HBS ⊢
  clear hb3 HON HOT HOP
  have HMM3 := Aside0.mk (Kd.C_below HMM.out HB3.out)
  have HC : Aside0 (∀ W, Below w3.heap.size w3 W → W.cell? ⟨SB, 0, none⟩ = some (.slice An ns.length kn) ∧ W.cell? ⟨SB, 1, none⟩ = some (.slice At ts.length kt) ∧ W.cell? ⟨SB, 2, none⟩ = some (.int .i64 0) ∧ W.cell? ⟨SB, 3, none⟩ = some (.int .i64 0) ∧ W.cell? ⟨SB, 4, none⟩ = some (.slice Ap ps.length kp)) := ⟨fun W hW => by
    have hb := (hW.block _ (blk_lt HBS.out)).trans HBS.out
    exact ⟨(blk_cell hb 0).trans rfl, (blk_cell hb 1).trans rfl, (blk_cell hb 2).trans rfl, (blk_cell hb 3).trans rfl, (blk_cell hb 4).trans rfl⟩⟩
  obtain ⟨q0, q1, q2, q3, q4⟩ := HC.out w3 (Below.refl _ _)
  have hw1 : IntKind.i64.wrap kk = kk := by have := HK.out; rw [IntKind.wrap_i64]; omega
  have hrt := HRULE.out.symm
  have hw2 : IntKind.i64.wrap rule = rule := by have := HR01.out; have := HN.out; rw [IntKind.wrap_i64]; omega
  have z1 : ((ns.length : Int) = 0) = False := eq_false (by have := HN.out; omega)
  have z2 : (ns.length = 0) = False := eq_false (by have := HN.out; omega)
  have z3 : (ns = []) = False := eq_false (fun h => by have := HN.out.1; rw [h] at this; simp at this)
  have hd4 := derive_any ps m w3 w3.heap.size An ns.length kn At ts.length kt 0 0 Ap kp A1 c1 (Nat.le_refl _) HOP3.out.2 HMM3.out HUM.out (fun p hp => by have := HMO.out.r3 p hp; omega) (by have := HMO.out.p10; omega) 12 rule 0 0 (w3.alloc (.cells #[.slice An ns.length kn, .slice At ts.length kt, .int .i64 0, .int .i64 0, .slice Ap ps.length kp, .slice A1 m.length c1, .int .i64 0] 38)) (by omega) (by omega) (by decide) (below_alloc (Below.refl _ _) _) (heap_alloc_new w3 _)
  rw [Int.natCast_zero] at hd4
  generalize drv ps m 12 rule 0 0 = res at hd4 HD
  obtain ⟨⟨t, ok⟩, a'⟩ := res
  have P4 := Aside0.mk hd4
  clear hd4
  go_upto_region 8 with (first | (go_at_call 13; (with_reducible refine P4.out.mono ?_); rintro e w5 ⟨v5, rfl, HR5, HBK5, HK5, HB5⟩; clear P4 q0 q1 q2 q3 q4))
  have HW : Aside0 (Below w.heap.size w w5) := ⟨HB3.out.trans (HB5.out.mono HB3.out.size)⟩
  cases ok with
  | false =>
    go_wp2
    go_ret
    exact ⟨rfl, HW.out⟩
  | true =>
    have hdd := HD.out t a' rfl
    have HDD := Aside0.mk hdd
    clear hdd HD
    go_upto_region 10 with fail
    have PF : Aside0 (∀ W, Below w3.heap.size w3 W → Calls Try.prog 14 #[.agg #[.slice An ns.length kn, .slice At ts.length kt, .int .i64 0, .int .i64 0, .slice Ap ps.length kp]] W fun e w' => ∃ v0_ : Value, e = .returned (v0_) ∧ Kd.S (Kd.slice 3 (Kd.int .i64)) 39 w' W.heap.size (fun _ => True) v0_ (idxs fs) ∧ Below W.heap.size W w') := ⟨fun W hb => firsts_First.calls kF An kn ns At kt ts 0 0 Ap kp ps (idxs fs) W (Kd.C_below HON3.out.2 hb) HON3.out.1 (Kd.C_below HOT3.out.2 hb) HOT3.out.1 (Kd.C_below HOP3.out.2 hb) HOP3.out.1 HF.out⟩
    have PE : Aside0 (∀ W, Below w3.heap.size w3 W → Calls Try.prog 15 #[.agg #[.slice An ns.length kn, .slice At ts.length kt, .int .i64 0, .int .i64 0, .slice Ap ps.length kp]] W fun e w' => ∃ v0_ : Value, e = .returned (v0_) ∧ Kd.R Kd.bool 4 w' W.heap.size (fun _ => True) v0_ em ∧ Below W.heap.size W w') := ⟨fun W hb => firsts_Empty.calls kE An kn ns At kt ts 0 0 Ap kp ps em W (Kd.C_below HON3.out.2 hb) HON3.out.1 (Kd.C_below HOT3.out.2 hb) HOT3.out.1 (Kd.C_below HOP3.out.2 hb) HOP3.out.1 HE.out⟩
    have PU : Aside0 (∀ W, Below w3.heap.size w3 W → Calls Try.prog 16 #[.agg #[.slice An ns.length kn, .slice At ts.length kt, .int .i64 0, .int .i64 0, .slice Ap ps.length kp]] W fun e w' => ∃ v0_ : Value, e = .returned (v0_) ∧ Kd.R Kd.bool 4 w' W.heap.size (fun _ => True) v0_ us ∧ Below W.heap.size W w') := ⟨fun W hb => firsts_Useful.calls kU An kn ns At kt ts 0 0 Ap kp ps us W (Kd.C_below HON3.out.2 hb) HON3.out.1 (Kd.C_below HOT3.out.2 hb) HOT3.out.1 (Kd.C_below HOP3.out.2 hb) HOP3.out.1 HU.out⟩
    have HB5d : Aside0 (Below w3.heap.size w3 w5.drew) := ⟨below_drew1 HB5.out⟩
    refine start_ (n := 9) (S := fun w' => w'.cell? ⟨SB, 0, none⟩ = some (.slice An ns.length kn) ∧ w'.cell? ⟨SB, 1, none⟩ = some (.slice At ts.length kt) ∧ w'.cell? ⟨SB, 2, none⟩ = some (.int .i64 0) ∧ w'.cell? ⟨SB, 3, none⟩ = some (.int .i64 0) ∧ w'.cell? ⟨SB, 4, none⟩ = some (.slice Ap ps.length kp)) (ds := []) #[false, false, false, false, false, false, false, false, false] (by kernel_rfl) rfl rfl ⟨(HC.out _ HB5d.out).1, (HC.out _ HB5d.out).2.1, (HC.out _ HB5d.out).2.2.1, (HC.out _ HB5d.out).2.2.2.1, (HC.out _ HB5d.out).2.2.2.2⟩ (fun hHeld => ?_)
    refine take_ (i := 0) (N := some 40) (v := ?_) (a' := ?_) #[true, false, false, false, false, false, false, false, false] rfl rfl (by kernel_rfl) (fun _ _ _ h => h) (Or.inl ⟨by rfl, ?_⟩) hHeld ?_ ?_
    rotate_left
    · rintro w' ⟨s0, s1, s2, s3, s4⟩
      go_simp
      with_reducible rfl
    rotate_left
    · simp only [Act.put, List.setIfInBounds_toArray, List.set_cons_zero, List.set_cons_succ, i64_w, i32_w]
      rfl
    refine take_ (i := 2) (N := some 42) (v := ?_) (a' := ?_) #[true, false, true, false, false, false, false, false, false] rfl rfl (by kernel_rfl) (fun _ _ _ h => h) (Or.inl ⟨by rfl, ?_⟩) hHeld ?_ ?_
    rotate_left
    · rintro w' ⟨s0, s1, s2, s3, s4⟩
      go_simp
      with_reducible rfl
    rotate_left
    · simp only [Act.put, List.setIfInBounds_toArray, List.set_cons_zero, List.set_cons_succ, i64_w, i32_w]
      rfl
    refine take_ (i := 4) (N := some 44) (v := ?_) (a' := ?_) #[true, false, true, false, true, false, false, false, false] rfl rfl (by kernel_rfl) (fun _ _ _ h => h) (Or.inl ⟨by rfl, ?_⟩) hHeld ?_ ?_
    rotate_left
    · rintro w' ⟨s0, s1, s2, s3, s4⟩
      go_simp
      with_reducible rfl
    rotate_left
    · simp only [Act.put, List.setIfInBounds_toArray, List.set_cons_zero, List.set_cons_succ, i64_w, i32_w]
      rfl
    refine one_ (i := 1) (N := some 41) #[true, true, true, false, true, false, false, false, false] rfl rfl (by kernel_rfl) (by decide) (fun K hK => ?_)
    refine goes_ Try.func14 (by kernel_rfl) rfl #[.agg #[.slice An ns.length kn, .slice At ts.length kt, .int .i64 0, .int .i64 0, .slice Ap ps.length kp]] (by rfl) rfl rfl (by simp only [List.map_toArray, List.map_cons, List.map_nil]; rfl) ?_
    with_reducible refine (PF.out _ HB5d.out).mono ?_
    rintro e w6 ⟨v6, rfl, hS6, hb6⟩
    refine ⟨_, rfl, ?_⟩
    have HS6 := Aside0.mk hS6
    have hB56 : Below w5.heap.size w5 w6 := (below_drew1 (Below.refl _ w5)).trans hb6
    have HB56 := Aside0.mk hB56
    have HB6 : Aside0 (Below w3.heap.size w3 w6) := ⟨HB5.out.trans (hB56.mono HB5.out.size)⟩
    clear hS6 hb6 hB56
    refine hK.out _ _ ⟨(HC.out _ HB6.out).1, (HC.out _ HB6.out).2.1, (HC.out _ HB6.out).2.2.1, (HC.out _ HB6.out).2.2.2.1, (HC.out _ HB6.out).2.2.2.2⟩ (fun hHeld => ?_)
    clear hK K
    refine norm_ (a' := ?_) ?_ ?_
    rotate_left
    · show Act.put _ (some 41) _ = _
      simp only [Act.put, List.setIfInBounds_toArray, List.set_cons_zero, List.set_cons_succ, i64_w, i32_w]
      rfl
    refine one_ (i := 3) (N := some 43) #[true, true, true, true, true, false, false, false, false] rfl rfl (by kernel_rfl) (by decide) (fun K hK => ?_)
    refine goes_ Try.func15 (by kernel_rfl) rfl #[.agg #[.slice An ns.length kn, .slice At ts.length kt, .int .i64 0, .int .i64 0, .slice Ap ps.length kp]] (by rfl) rfl rfl (by simp only [List.map_toArray, List.map_cons, List.map_nil]; rfl) ?_
    with_reducible refine (PE.out _ HB6.out).mono ?_
    rintro e w7 ⟨v7, rfl, hR7, hb7⟩
    refine ⟨_, rfl, ?_⟩
    have HR7 := Aside0.mk hR7
    have HB67 := Aside0.mk hb7
    have HB7 : Aside0 (Below w3.heap.size w3 w7) := ⟨HB6.out.trans (hb7.mono HB6.out.size)⟩
    clear hR7 hb7
    refine hK.out _ _ ⟨(HC.out _ HB7.out).1, (HC.out _ HB7.out).2.1, (HC.out _ HB7.out).2.2.1, (HC.out _ HB7.out).2.2.2.1, (HC.out _ HB7.out).2.2.2.2⟩ (fun hHeld => ?_)
    clear hK K
    refine norm_ (a' := ?_) ?_ ?_
    rotate_left
    · show Act.put _ (some 43) _ = _
      simp only [Act.put, List.setIfInBounds_toArray, List.set_cons_zero, List.set_cons_succ, i64_w, i32_w]
      rfl
    refine one_ (i := 5) (N := some 45) #[true, true, true, true, true, true, false, false, false] rfl rfl (by kernel_rfl) (by decide) (fun K hK => ?_)
    refine goes_ Try.func16 (by kernel_rfl) rfl #[.agg #[.slice An ns.length kn, .slice At ts.length kt, .int .i64 0, .int .i64 0, .slice Ap ps.length kp]] (by rfl) rfl rfl (by simp only [List.map_toArray, List.map_cons, List.map_nil]; rfl) ?_
    with_reducible refine (PU.out _ HB7.out).mono ?_
    rintro e w8 ⟨v8, rfl, hR8, hb8⟩
    refine ⟨_, rfl, ?_⟩
    have HR8 := Aside0.mk hR8
    have HB78 := Aside0.mk hb8
    have HB8 : Aside0 (Below w3.heap.size w3 w8) := ⟨HB7.out.trans (hb8.mono HB7.out.size)⟩
    clear hR8 hb8
    refine hK.out _ _ ⟨(HC.out _ HB8.out).1, (HC.out _ HB8.out).2.1, (HC.out _ HB8.out).2.2.1, (HC.out _ HB8.out).2.2.2.1, (HC.out _ HB8.out).2.2.2.2⟩ (fun hHeld => ?_)
    clear hK K
    refine norm_ (a' := ?_) ?_ ?_
    rotate_left
    · show Act.put _ (some 45) _ = _
      simp only [Act.put, List.setIfInBounds_toArray, List.set_cons_zero, List.set_cons_succ, i64_w, i32_w]
      rfl
    refine pure_ (i := 6) (N := some 13) (v := ?_) (a' := ?_) #[true, true, true, true, true, true, true, false, false] rfl rfl (by kernel_rfl) (fun _ _ _ h => h) (Or.inl ⟨by rfl, ?_⟩) ?_ ?_
    rotate_left
    · intro w'
      go_simp
      with_reducible rfl
    rotate_left
    · simp only [Act.put, List.setIfInBounds_toArray, List.set_cons_zero, List.set_cons_succ, i64_w, i32_w]
      rfl
    refine pure_ (i := 7) (N := some 14) (v := ?_) (a' := ?_) #[true, true, true, true, true, true, true, true, false] rfl rfl (by kernel_rfl) (fun _ _ _ h => h) (Or.inl ⟨by rfl, ?_⟩) ?_ ?_
    rotate_left
    · intro w'
      go_simp
      with_reducible rfl
    rotate_left
    · simp only [Act.put, List.setIfInBounds_toArray, List.set_cons_zero, List.set_cons_succ, i64_w, i32_w]
      rfl
    refine pure_ (i := 8) (N := some 15) (v := ?_) (a' := ?_) #[true, true, true, true, true, true, true, true, true] rfl rfl (by kernel_rfl) (fun _ _ _ h => h) (Or.inl ⟨by rfl, ?_⟩) ?_ ?_
    rotate_left
    · intro w'
      go_simp
      with_reducible rfl
    rotate_left
    · simp only [Act.put, List.setIfInBounds_toArray, List.set_cons_zero, List.set_cons_succ, i64_w, i32_w]
      rfl
    refine done_ (by kernel_rfl) ?_
    have HW8 : Aside0 (Below w.heap.size w w8) := ⟨HB3.out.trans (HB8.out.mono HB3.out.size)⟩
    obtain ⟨Af, cf, rfl⟩ : ∃ A c, v6 = .slice A ns.length c := by obtain ⟨A, c, e⟩ := Kd.S_slice HS6.out; rw [HFL.out] at e; exact ⟨A, c, e⟩
    obtain ⟨Ae, ce, rfl⟩ : ∃ A c, v7 = .slice A ns.length c := by obtain ⟨A, c, e⟩ := Kd.R_slice HR7.out; rw [HEL.out] at e; exact ⟨A, c, e⟩
    obtain ⟨Au, cu, rfl⟩ : ∃ A c, v8 = .slice A ns.length c := by obtain ⟨A, c, e⟩ := Kd.R_slice HR8.out; rw [HUL.out] at e; exact ⟨A, c, e⟩
    obtain ⟨A5, n5, c5, rfl⟩ : ∃ A n c, v5 = .slice A n c := by obtain ⟨A, c, e⟩ := Kd.R_slice HR5.out; exact ⟨A, _, c, e⟩
    have hn5 : n5 = t.length := (Kd.R_reads' HR5.out).1
    have hB68 : Below w6.heap.size w6 w8 := HB67.out.trans (HB78.out.mono HB67.out.size)
    have CF : Aside0 (Kd.C (Kd.slice 3 (Kd.int .i64)) w8 Af ns.length (idxs fs)) := ⟨by have h := Kd.C_below (Kd.S_reads' HS6.out).2.2 hB68; rw [HFL.out] at h; exact h⟩
    have CE : Aside0 (Kd.bool.C w8 Ae ns.length em) := ⟨by have h := Kd.C_below (Kd.R_reads' HR7.out).2.2 HB78.out; rw [HEL.out] at h; exact h⟩
    have CU : Aside0 (Kd.bool.C w8 Au ns.length us) := ⟨by have h := (Kd.R_reads' HR8.out).2.2; rw [HUL.out] at h; exact h⟩
    have CT : Aside0 ((Kd.int .i64).C w8 A5 t.length t) := ⟨Kd.C_below (Kd.R_reads' HR5.out).2.2 (HB56.out.trans (hB68.mono HB56.out.size))⟩
    obtain ⟨q0, q1, q2, q3, q4⟩ := HC.out w8 HB8.out
    clear hB68 HS6 HR7 HR8 HR5 HBK5 HK5 HB5 HB5d HB56 HB6 HB67 HB7 HB78 PF PE PU
    have p0 : (0 ≤ rule) = True := eq_true HR01.out.1
    have p1 : (rule < (ns.length : Int)) = True := eq_true HR01.out.2
    obtain ⟨adu, eu, hcu⟩ := Kd.at_bool CU.out rule HR01.out.1 HR01.out.2
    rw [show rdOf false us rule = true from HDD.out.1] at hcu
    by_cases hz : n5 = 0
    · subst hz
      have ht : t = [] := List.eq_nil_of_length_eq_zero hn5.symm
      obtain ⟨ade, ee, hce⟩ := Kd.at_bool CE.out rule HR01.out.1 HR01.out.2
      rw [show rdOf false em rule = true from HDD.out.2.1 ht] at hce
      cases eu
      cases ee
      clear hn5 ht
      go_wp2
      go_ret
      exact ⟨rfl, HW8.out⟩
    · have y1 : (n5 = 0) = False := eq_false hz
      have y2 : decide (n5 = 0) = false := decide_eq_false hz
      have y3 : ((n5 : Int) = 0) = False := eq_false (by omega)
      have y4 : ((n5 : Int) == 0) = false := by simp [hz]
      obtain ⟨x, t', et⟩ : ∃ x t', t = x :: t' := by
        cases t with
        | nil => simp at hn5; exact absurd hn5 hz
        | cons x t' => exact ⟨x, t', rfl⟩
      obtain ⟨hx0, hx1, hxf⟩ := HDD.out.2.2 x t' et
      obtain ⟨adt, eat, hct⟩ := Kd.at_int CT.out 0 (by omega) (by rw [et]; simp)
      rw [show rd t 0 = x by rw [et]; rfl, show (0 : Int).toNat = 0 from rfl] at hct
      obtain ⟨adf, cs, eaf, _, ⟨A9, c9, rfl, hle9, hC9⟩, hcf⟩ := ReadsRow.get_ CF.out ([] : List Int) rule HR01.out.1 HR01.out.2
      have hcf0 := hcf 0 _ rfl
      rw [show rule.toNat * (Kd.slice 3 (Kd.int .i64)).sz + 0 = rule.toNat from by show rule.toNat * 1 + 0 = rule.toNat; omega] at hcf0
      rw [HFI.out] at hcf0 hle9 hC9
      have hhas : ∃ k, regletlaw13_has.f k (idx 0 (fs.getD rule.toNat [])) x = some true := (Ev.val (has_ev _ x (by have := idx_length 0 (fs.getD rule.toNat []); have := HRL.out; have := HMO.out.t4; omega)) (decide_eq_true ((mem_idx x _ 0).2 ⟨x.toNat, hxf, by omega⟩))).rounds
      obtain ⟨kh, hkh⟩ := hhas
      have PH : Aside0 (∀ W, Below w8.heap.size w8 W → Calls Try.prog 17 #[.slice A9 (idx 0 (fs.getD rule.toNat [])).length c9, .int .i64 x] W fun e w' => e = .returned (.bool true) ∧ Drawn0 W w') := ⟨fun W hb => regletlaw13_has.calls kh A9 c9 _ x true W (Kd.C_below hC9 hb) hle9 hkh⟩
      have HCF := Aside0.mk hcf0
      have hct' : w8.cell? adt = some (.int .i64 x) := by
        rw [show adt.add 0 = adt from by unfold Addr.add; split <;> simp_all] at hct
        exact hct
      have HCT := Aside0.mk hct'
      clear hct'
      have HCU := Aside0.mk hcu
      have HBd : Aside0 (Below w8.heap.size w8 w8.drew) := ⟨below_drew1 (Below.refl _ _)⟩
      have r0 : ((0 : Int) < (n5 : Int)) = True := eq_true (by omega)
      have r1 : (0 < n5) = True := eq_true (by omega)
      cases eu
      cases eat
      cases eaf
      clear hcf hcf0 hle9 hC9 hkh hct hcu hz hn5 hx0 hx1 hxf
      go_upto_region 15 with fail
      refine start_ (n := 18) (S := fun w' => w'.cell? (adf.add rule.toNat) = some (.slice A9 (idx 0 (fs.getD rule.toNat [])).length c9) ∧ w'.cell? adt = some (.int .i64 x) ∧ w'.cell? (adu.add rule.toNat) = some (.bool true)) (ds := []) #[false, false, false, false, false, false, false, false, false, false, false, false, false, false, false, false, false, false] (by kernel_rfl) rfl rfl ⟨HCF.out, HCT.out, HCU.out⟩ (fun hHeld => ?_)
      refine pure_ (i := 0) (N := some 84) (v := ?_) (a' := ?_) #[true, false, false, false, false, false, false, false, false, false, false, false, false, false, false, false, false, false] rfl rfl (by kernel_rfl) (fun _ _ _ h => h) (Or.inl ⟨by rfl, ?_⟩) ?_ ?_
      rotate_left
      · intro w'
        go_simp
        with_reducible rfl
      rotate_left
      · simp only [Act.put, List.setIfInBounds_toArray, List.set_cons_zero, List.set_cons_succ, i64_w, i32_w]
        rfl
      refine pure_ (i := 1) (N := some 85) (v := ?_) (a' := ?_) #[true, true, false, false, false, false, false, false, false, false, false, false, false, false, false, false, false, false] rfl rfl (by kernel_rfl) (fun _ _ _ h => h) (Or.inl ⟨by rfl, ?_⟩) ?_ ?_
      rotate_left
      · intro w'
        go_simp
        with_reducible rfl
      rotate_left
      · simp only [Act.put, List.setIfInBounds_toArray, List.set_cons_zero, List.set_cons_succ, i64_w, i32_w]
        rfl
      refine pure_ (i := 2) (N := some 86) (v := ?_) (a' := ?_) #[true, true, true, false, false, false, false, false, false, false, false, false, false, false, false, false, false, false] rfl rfl (by kernel_rfl) (fun _ _ _ h => h) (Or.inl ⟨by rfl, ?_⟩) ?_ ?_
      rotate_left
      · intro w'
        go_simp
        with_reducible rfl
      rotate_left
      · simp only [Act.put, List.setIfInBounds_toArray, List.set_cons_zero, List.set_cons_succ, i64_w, i32_w]
        rfl
      refine pure_ (i := 3) (N := some 87) (v := ?_) (a' := ?_) #[true, true, true, true, false, false, false, false, false, false, false, false, false, false, false, false, false, false] rfl rfl (by kernel_rfl) (fun _ _ _ h => h) (Or.inl ⟨by rfl, ?_⟩) ?_ ?_
      rotate_left
      · intro w'
        go_simp
        with_reducible rfl
      rotate_left
      · simp only [Act.put, List.setIfInBounds_toArray, List.set_cons_zero, List.set_cons_succ, i64_w, i32_w]
        rfl
      refine pure_ (i := 4) (N := some 88) (v := ?_) (a' := ?_) #[true, true, true, true, true, false, false, false, false, false, false, false, false, false, false, false, false, false] rfl rfl (by kernel_rfl) (fun _ _ _ h => h) (Or.inl ⟨by rfl, ?_⟩) ?_ ?_
      rotate_left
      · intro w'
        go_simp
        with_reducible rfl
      rotate_left
      · simp only [Act.put, List.setIfInBounds_toArray, List.set_cons_zero, List.set_cons_succ, i64_w, i32_w]
        rfl
      refine pure_ (i := 6) (N := some 90) (v := ?_) (a' := ?_) #[true, true, true, true, true, false, true, false, false, false, false, false, false, false, false, false, false, false] rfl rfl (by kernel_rfl) (fun _ _ _ h => h) (Or.inl ⟨by rfl, ?_⟩) ?_ ?_
      rotate_left
      · intro w'
        go_simp
        with_reducible rfl
      rotate_left
      · simp only [Act.put, List.setIfInBounds_toArray, List.set_cons_zero, List.set_cons_succ, i64_w, i32_w]
        rfl
      refine pure_ (i := 7) (N := some 91) (v := ?_) (a' := ?_) #[true, true, true, true, true, false, true, true, false, false, false, false, false, false, false, false, false, false] rfl rfl (by kernel_rfl) (fun _ _ _ h => h) (Or.inl ⟨by rfl, ?_⟩) ?_ ?_
      rotate_left
      · intro w'
        go_simp
        with_reducible rfl
      rotate_left
      · simp only [Act.put, List.setIfInBounds_toArray, List.set_cons_zero, List.set_cons_succ, i64_w, i32_w]
        rfl
      refine take_ (i := 5) (N := some 89) (v := ?_) (a' := ?_) #[true, true, true, true, true, true, true, true, false, false, false, false, false, false, false, false, false, false] rfl rfl (by kernel_rfl) (fun _ _ _ h => h) (Or.inl ⟨by rfl, ?_⟩) hHeld ?_ ?_
      rotate_left
      · rintro w' ⟨s0, s1, s2⟩
        go_simp
        with_reducible rfl
      rotate_left
      · simp only [Act.put, List.setIfInBounds_toArray, List.set_cons_zero, List.set_cons_succ, i64_w, i32_w]
        rfl
      refine take_ (i := 8) (N := some 92) (v := ?_) (a' := ?_) #[true, true, true, true, true, true, true, true, true, false, false, false, false, false, false, false, false, false] rfl rfl (by kernel_rfl) (fun _ _ _ h => h) (Or.inl ⟨by rfl, ?_⟩) hHeld ?_ ?_
      rotate_left
      · rintro w' ⟨s0, s1, s2⟩
        go_simp
        with_reducible rfl
      rotate_left
      · simp only [Act.put, List.setIfInBounds_toArray, List.set_cons_zero, List.set_cons_succ, i64_w, i32_w]
        rfl
      refine one_ (i := 9) (N := some 93) #[true, true, true, true, true, true, true, true, true, true, false, false, false, false, false, false, false, false] rfl rfl (by kernel_rfl) (by decide) (fun K hK => ?_)
      refine goes_ Try.func17 (by kernel_rfl) rfl #[.slice A9 (idx 0 (fs.getD rule.toNat [])).length c9, .int .i64 x] (by rfl) rfl rfl (by simp only [List.map_toArray, List.map_cons, List.map_nil]; rfl) ?_
      with_reducible refine (PH.out _ HBd.out).mono ?_
      rintro e w9 ⟨rfl, nd, rfl⟩
      refine ⟨_, rfl, ?_⟩
      refine hK.out _ _ ⟨hHeld.1, hHeld.2.1, hHeld.2.2⟩ (fun hHeld => ?_)
      clear hK K
      refine norm_ (a' := ?_) ?_ ?_
      rotate_left
      · show Act.put _ (some 93) _ = _
        simp only [Act.put, List.setIfInBounds_toArray, List.set_cons_zero, List.set_cons_succ, i64_w, i32_w]
        rfl
      refine pure_ (i := 10) (N := some 94) (v := ?_) (a' := ?_) #[true, true, true, true, true, true, true, true, true, true, true, false, false, false, false, false, false, false] rfl rfl (by kernel_rfl) (fun _ _ _ h => h) (Or.inl ⟨by rfl, ?_⟩) ?_ ?_
      rotate_left
      · intro w'
        go_simp
        with_reducible rfl
      rotate_left
      · simp only [Act.put, List.setIfInBounds_toArray, List.set_cons_zero, List.set_cons_succ, i64_w, i32_w]
        rfl
      refine pure_ (i := 11) (N := some 95) (v := ?_) (a' := ?_) #[true, true, true, true, true, true, true, true, true, true, true, true, false, false, false, false, false, false] rfl rfl (by kernel_rfl) (fun _ _ _ h => h) (Or.inl ⟨by rfl, ?_⟩) ?_ ?_
      rotate_left
      · intro w'
        go_simp
        with_reducible rfl
      rotate_left
      · simp only [Act.put, List.setIfInBounds_toArray, List.set_cons_zero, List.set_cons_succ, i64_w, i32_w]
        rfl
      refine pure_ (i := 12) (N := some 96) (v := ?_) (a' := ?_) #[true, true, true, true, true, true, true, true, true, true, true, true, true, false, false, false, false, false] rfl rfl (by kernel_rfl) (fun _ _ _ h => h) (Or.inl ⟨by rfl, ?_⟩) ?_ ?_
      rotate_left
      · intro w'
        go_simp
        with_reducible rfl
      rotate_left
      · simp only [Act.put, List.setIfInBounds_toArray, List.set_cons_zero, List.set_cons_succ, i64_w, i32_w]
        rfl
      refine pure_ (i := 13) (N := some 97) (v := ?_) (a' := ?_) #[true, true, true, true, true, true, true, true, true, true, true, true, true, true, false, false, false, false] rfl rfl (by kernel_rfl) (fun _ _ _ h => h) (Or.inl ⟨by rfl, ?_⟩) ?_ ?_
      rotate_left
      · intro w'
        go_simp
        with_reducible rfl
      rotate_left
      · simp only [Act.put, List.setIfInBounds_toArray, List.set_cons_zero, List.set_cons_succ, i64_w, i32_w]
        rfl
      refine pure_ (i := 14) (N := some 98) (v := ?_) (a' := ?_) #[true, true, true, true, true, true, true, true, true, true, true, true, true, true, true, false, false, false] rfl rfl (by kernel_rfl) (fun _ _ _ h => h) (Or.inl ⟨by rfl, ?_⟩) ?_ ?_
      rotate_left
      · intro w'
        go_simp
        with_reducible rfl
      rotate_left
      · simp only [Act.put, List.setIfInBounds_toArray, List.set_cons_zero, List.set_cons_succ, i64_w, i32_w]
        rfl
      refine take_ (i := 15) (N := some 99) (v := ?_) (a' := ?_) #[true, true, true, true, true, true, true, true, true, true, true, true, true, true, true, true, false, false] rfl rfl (by kernel_rfl) (fun _ _ _ h => h) (Or.inl ⟨by rfl, ?_⟩) hHeld ?_ ?_
      rotate_left
      · rintro w' ⟨s0, s1, s2⟩
        go_simp
        with_reducible rfl
      rotate_left
      · simp only [Act.put, List.setIfInBounds_toArray, List.set_cons_zero, List.set_cons_succ, i64_w, i32_w]
        rfl
      refine pure_ (i := 16) (N := some 100) (v := ?_) (a' := ?_) #[true, true, true, true, true, true, true, true, true, true, true, true, true, true, true, true, true, false] rfl rfl (by kernel_rfl) (fun _ _ _ h => h) (Or.inl ⟨by rfl, ?_⟩) ?_ ?_
      rotate_left
      · intro w'
        go_simp
        with_reducible rfl
      rotate_left
      · simp only [Act.put, List.setIfInBounds_toArray, List.set_cons_zero, List.set_cons_succ, i64_w, i32_w]
        rfl
      refine pure_ (i := 17) (N := some 6) (v := ?_) (a' := ?_) #[true, true, true, true, true, true, true, true, true, true, true, true, true, true, true, true, true, true] rfl rfl (by kernel_rfl) (fun _ _ _ h => h) (Or.inl ⟨by rfl, ?_⟩) ?_ ?_
      rotate_left
      · intro w'
        go_simp
        with_reducible rfl
      rotate_left
      · simp only [Act.put, List.setIfInBounds_toArray, List.set_cons_zero, List.set_cons_succ, i64_w, i32_w]
        rfl
      refine done_ (by kernel_rfl) ?_
      go_wp2
      go_ret
      exact ⟨rfl, by repeat (first | exact HW8.out | apply pw_below_drewN | apply below_drew1)⟩
end Go.Proofs.Ytojdjjbkpbapfaa.P
end
