/- Small lemmas on rounds, wraps and bits that the pure parts use. -/
import Derived.Test.YtpcgbpcilepjmaaWMore
import Derived.Test.YtpcgbpcilepjmaaWWords
import Derived.Laws.BitsLemmas
namespace Go.Proofs.Ytpcgbpcilepjmaa.H
open Go.RowKit Go.Proofs.YtpcgbpcilepjmaaW.PrintWords Go.Proofs.YtpcgbpcilepjmaaW.PrintLast Go.Proofs.YtpcgbpcilepjmaaW.PrintMore

theorem Ev.pos {α : Type} {c : Prop} [Decidable c] {f g : Nat → Option α} {r : α} (h : c) (k : Ev f r) : Ev (fun n => if c then f n else g n) r :=
  Ev.congr (fun _ => if_pos h) k
theorem Ev.neg {α : Type} {c : Prop} [Decidable c] {f g : Nat → Option α} {r : α} (h : ¬ c) (k : Ev g r) : Ev (fun n => if c then f n else g n) r :=
  Ev.congr (fun _ => if_neg h) k
theorem Ev.some {α : Type} {r s : α} (h : r = s) : Ev (fun _ => Option.some r) s := h ▸ Ev.now r
/-- A call without rounds. -/
theorem Ev.bind0 {α β : Type} {g : Option α} {f : Nat → α → Option β} {a : α} {r : β} (h : g = Option.some a) (k : Ev (fun n => f n a) r) : Ev (fun n => g.bind (f n)) r :=
  Ev.congr (fun _ => by rw [h]; rfl) k
theorem Ev.val {α : Type} {g : Nat → Option α} {r s : α} (h : Ev g r) (e : r = s) : Ev g s := e ▸ h
theorem Ev.uniq {α : Type} {g : Nat → Option α} {r s : α} (h : Ev g r) (k : Ev g s) : r = s := by
  obtain ⟨K, h⟩ := h
  obtain ⟨K', k⟩ := k
  have h1 := h (max K K') (by omega)
  rw [k (max K K') (by omega)] at h1
  exact (Option.some.inj h1).symm

theorem wrap64_id {x : Int} (h0 : -9223372036854775808 ≤ x) (h1 : x ≤ 9223372036854775807) : wrap64 x = x := by
  unfold wrap64; omega
theorem wrap32_id {x : Int} (h0 : -2147483648 ≤ x) (h1 : x ≤ 2147483647) : wrap32 x = x := by
  unfold wrap32; omega
theorem wrapk_id {x : Int} (h0 : 0 ≤ x) (h1 : x < 2 ^ 62) : IntKind.i64.wrap x = x := by
  rw [IntKind.wrap_i64]; omega
theorem wf_i64 {x : Int} (h : (Lit.int .i64 x).wf = true) : -9223372036854775808 ≤ x ∧ x ≤ 9223372036854775807 := by
  simp [Lit.wf, IntKind.min, IntKind.max, IntKind.bits, IntKind.signed] at h; omega
theorem wf_u8 {x : Int} (h : (Lit.int .u8 x).wf = true) : 0 ≤ x ∧ x ≤ 255 := by
  simp [Lit.wf, IntKind.min, IntKind.max, IntKind.bits, IntKind.signed] at h; omega
theorem wf_u32 {x : Int} (h : (Lit.int .u32 x).wf = true) : 0 ≤ x ∧ x ≤ 4294967295 := by
  simp [Lit.wf, IntKind.min, IntKind.max, IntKind.bits, IntKind.signed] at h; omega

theorem and_mask {x : Int} (i : Nat) (hi : i ≤ 62) (h0 : 0 ≤ x) (h1 : x < 2 ^ 62) : Go.bits .and .i64 x (2 ^ i - 1) = x % 2 ^ i :=
  bits_mask .i64 62 (by decide) (fun _ a b => wrapk_id a b) i hi x h0 h1

theorem or_mask {x : Int} (i : Nat) (hi : i ≤ 62) (h0 : 0 ≤ x) (h1 : x < 2 ^ 62) : Go.bits .or .i64 x (2 ^ i - 1) = x - x % 2 ^ i + (2 ^ i - 1) := by
  obtain ⟨a, rfl⟩ := Int.eq_ofNat_of_zero_le h0
  have ha : a < 2 ^ 62 := by exact_mod_cast h1
  have hpos : 0 < 2 ^ i := Nat.two_pow_pos i
  have hm : 2 ^ i - 1 < 2 ^ 62 := Nat.lt_of_lt_of_le (Nat.sub_lt hpos (by decide)) (Nat.pow_le_pow_right (by decide) hi)
  have hc : ((2 : Int) ^ i - 1) = ((2 ^ i - 1 : Nat) : Int) := by rw [Int.natCast_sub hpos]; simp
  rw [hc, (bits_nat .i64 62 (by decide) (fun _ p q => wrapk_id p q) a _ ha hm).2]
  have e : a ||| (2 ^ i - 1) = 2 ^ i * (a / 2 ^ i) + (2 ^ i - 1) := by
    rw [Nat.two_pow_add_eq_or_of_lt (Nat.sub_lt hpos (by decide))]
    apply Nat.eq_of_testBit_eq
    intro j
    rw [Nat.testBit_or, Nat.testBit_or, Nat.testBit_two_pow_sub_one, Nat.testBit_two_pow_mul]
    by_cases hj : j < i
    · simp [hj]
    · simp only [hj, decide_false, Bool.or_false, ge_iff_le, Nat.testBit_div_two_pow]
      have : i ≤ j := by omega
      simp only [this, decide_true, Bool.true_and]
      congr 1
      omega
  rw [e]
  have := Nat.div_add_mod a (2 ^ i)
  have h2 : ((a : Int) % 2 ^ i) = ((a % 2 ^ i : Nat) : Int) := by simp
  rw [h2]
  omega

theorem andNot_mask {x : Int} (i : Nat) (h0 : 0 ≤ x) (h1 : x < 2 ^ 62) : Go.bits .andNot .i64 x (2 ^ i - 1) = x - x % 2 ^ i := by
  obtain ⟨a, rfl⟩ := Int.eq_ofNat_of_zero_le h0
  have ha : a < 2 ^ 62 := by exact_mod_cast h1
  have hpos : 0 < 2 ^ i := Nat.two_pow_pos i
  have hc : ((2 : Int) ^ i - 1) = ((2 ^ i - 1 : Nat) : Int) := by rw [Int.natCast_sub hpos]; simp
  rw [hc]
  have e : (BitVec.ofInt 64 (a : Int) &&& ~~~ BitVec.ofInt 64 ((2 ^ i - 1 : Nat) : Int)).toNat = 2 ^ i * (a / 2 ^ i) := by
    apply Nat.eq_of_testBit_eq
    intro j
    rw [BitVec.testBit_toNat, BitVec.getLsbD_and, BitVec.getLsbD_not]
    simp only [BitVec.ofInt_natCast, BitVec.getLsbD_ofNat, Nat.testBit_two_pow_sub_one]
    rw [Nat.testBit_two_pow_mul, Nat.testBit_div_two_pow]
    by_cases hj : j < i
    · simp [hj]
      omega
    · have hge : i ≤ j := by omega
      have hz : j - i + i = j := by omega
      by_cases h64 : j < 64
      · simp [hj, h64, hge, hz]
      · have : a.testBit j = false := Nat.testBit_lt_two_pow (Nat.lt_of_lt_of_le ha (Nat.pow_le_pow_right (by decide) (by omega)))
        simp [hj, h64, hge, hz, this]
  show IntKind.i64.wrap _ = _
  simp only
  have e2 : ((BitVec.ofInt IntKind.i64.bits (a : Int) &&& ~~~ BitVec.ofInt IntKind.i64.bits ((2 ^ i - 1 : Nat) : Int)).toNat : Int) = ((2 ^ i * (a / 2 ^ i) : Nat) : Int) := congrArg _ e
  rw [e2]
  have hd := Nat.div_add_mod a (2 ^ i)
  have h2 : ((a : Int) % 2 ^ i) = ((a % 2 ^ i : Nat) : Int) := by simp
  rw [h2, wrapk_id (by omega) (by have : (2 : Int) ^ 62 = ((2 ^ 62 : Nat) : Int) := by norm_cast
                                  omega)]
  omega

end Go.Proofs.Ytpcgbpcilepjmaa.H
