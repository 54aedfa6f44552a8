/- The pure part of the scalar layer: sequences of ranges of bytes hold just the bytes of the scalars of a range. -/
import Derived.Test.YtpcgbpcilepjmaaS
namespace Go.Proofs.Ytpcgbpcilepjmaa.S
open Go.RowKit Go.Proofs.Ytpcgbpcilepjmaa.P Go.Proofs.YtpcgbpcilepjmaaW.PrintWords Go.Proofs.YtpcgbpcilepjmaaW.PrintLast Go.Proofs.YtpcgbpcilepjmaaW.PrintMore Go.Proofs.Ytpcgbpcilepjmaa.H

/-! ### the scalar of a list of bytes -/
def dec : List Int → Int
  | [a] => a
  | [a, b] => (a - 192) * 64 + (b - 128)
  | [a, b, c] => (a - 224) * 4096 + (b - 128) * 64 + (c - 128)
  | [a, b, c, d] => (a - 240) * 262144 + (b - 128) * 4096 + (c - 128) * 64 + (d - 128)
  | _ => -1
def code (l : List Int) : Int := if isS (dec l) ∧ bs (dec l) = l then dec l else -1
theorem code_spec {l : List Int} (h : 0 ≤ code l) : isS (code l) ∧ bs (code l) = l := by
  unfold code at h ⊢
  split
  · assumption
  · rename_i h'; rw [if_neg h'] at h; omega
theorem isS_bd {c : Int} (h : isS c) : 0 ≤ c ∧ c ≤ 1114111 := by unfold isS at h; omega
theorem bs_1 {c : Int} (h : isS c) (a : c < 128) : bs c = [c] := by unfold bs; rw [if_pos h, if_pos a]
theorem bs_2 {c : Int} (h : isS c) (a : 128 ≤ c) (b : c < 2048) : bs c = [192 + c / 64, 128 + c % 64] := by
  unfold bs; rw [if_pos h, if_neg (by omega), if_pos b]
theorem bs_3 {c : Int} (h : isS c) (a : 2048 ≤ c) (b : c < 65536) : bs c = [224 + c / 4096, 128 + c / 64 % 64, 128 + c % 64] := by
  unfold bs; rw [if_pos h, if_neg (show ¬ c < 128 by omega), if_neg (show ¬ c < 2048 by omega), if_pos b]
theorem bs_4 {c : Int} (h : isS c) (a : 65536 ≤ c) : bs c = [240 + c / 262144, 128 + c / 4096 % 64, 128 + c / 64 % 64, 128 + c % 64] := by
  unfold bs; rw [if_pos h, if_neg (show ¬ c < 128 by omega), if_neg (show ¬ c < 2048 by omega), if_neg (show ¬ c < 65536 by omega)]
theorem dec_bs {c : Int} (h : isS c) : dec (bs c) = c := by
  obtain ⟨h0, h1⟩ := isS_bd h
  by_cases a : c < 128
  · rw [bs_1 h a]; rfl
  · by_cases b : c < 2048
    · rw [bs_2 h (by omega) b]; simp only [dec]; omega
    · by_cases d : c < 65536
      · rw [bs_3 h (by omega) d]; simp only [dec]; omega
      · rw [bs_4 h (by omega)]; simp only [dec]; omega
theorem code_bs {c : Int} (h : isS c) : code (bs c) = c := by
  unfold code; rw [dec_bs h, if_pos ⟨h, rfl⟩]
theorem bs_ne {c : Int} (h : isS c) : bs c ≠ [] := by
  obtain ⟨h0, h1⟩ := isS_bd h
  by_cases a : c < 128
  · rw [bs_1 h a]; simp
  · by_cases b : c < 2048
    · rw [bs_2 h (by omega) b]; simp
    · by_cases d : c < 65536
      · rw [bs_3 h (by omega) d]; simp
      · rw [bs_4 h (by omega)]; simp
theorem code_of {l : List Int} {c : Int} (h : isS c) (e : l = bs c) : code l = c := by rw [e, code_bs h]

/-! ### the classes of scalars with as many bytes -/
def cls : Nat → Int → Int → Prop
  | 1, lo, hi => 0 ≤ lo ∧ hi ≤ 127
  | 2, lo, hi => 128 ≤ lo ∧ hi ≤ 2047
  | 3, lo, hi => (2048 ≤ lo ∧ hi ≤ 55295) ∨ (57344 ≤ lo ∧ hi ≤ 65535)
  | 4, lo, hi => 65536 ≤ lo ∧ hi ≤ 1114111
  | _, _, _ => False
theorem cls_sub {n : Nat} {lo hi a b : Int} (h : cls n lo hi) (h1 : lo ≤ a) (h2 : b ≤ hi) : cls n a b := by
  unfold cls at h ⊢
  split at h <;> (try simp only) <;> (try omega)
theorem cls_S {n : Nat} {lo hi c : Int} (h : cls n lo hi) (h1 : lo ≤ c) (h2 : c ≤ hi) : isS c := by
  unfold cls at h; unfold isS
  split at h <;> first | omega | exact h.elim
theorem cls_bd {n : Nat} {lo hi : Int} (h : cls n lo hi) : 0 ≤ lo ∧ hi ≤ 1114111 := by
  unfold cls at h
  split at h <;> first | omega | exact h.elim
def Q : Nat → Int
  | 0 => 1
  | 1 => 64
  | 2 => 4096
  | 3 => 262144
  | _ => 16777216

def zr (a b : List Int) : List S40 := List.zipWith (fun x y => ⟨x, y⟩) a b
theorem bs_len {n : Nat} {lo hi c : Int} (h : cls n lo hi) (h1 : lo ≤ c) (h2 : c ≤ hi) : (bs c).length = n := by
  have hS := cls_S h h1 h2
  unfold cls at h
  split at h
  · rw [bs_1 hS (by omega)]; rfl
  · rw [bs_2 hS (by omega) (by omega)]; rfl
  · rw [bs_3 hS (by omega) (by omega)]; rfl
  · rw [bs_4 hS (by omega)]; rfl
  · exact h.elim

structure Sp (lo hi : Int) (s : List (List S40)) : Prop where
  ok : ∀ r ∈ s, okSeq r
  c : ∀ l, cnt l s = if lo ≤ code l ∧ code l ≤ hi then 1 else 0
theorem Sp.nil {lo hi : Int} (h : hi < lo) : Sp lo hi [] := ⟨fun _ h => by simp at h, fun l => by rw [if_neg (by omega)]; rfl⟩
theorem Sp.append {lo m hi : Int} {s t : List (List S40)} (h : Sp lo m s) (k : Sp (m + 1) hi t) (h1 : lo ≤ m + 1) (h2 : m ≤ hi) : Sp lo hi (s ++ t) := by
  refine ⟨fun r hr => ?_, fun l => ?_⟩
  · rcases List.mem_append.1 hr with a | a
    · exact h.ok r a
    · exact k.ok r a
  · rw [cnt_append, h.c, k.c]
    by_cases a : code l ≤ m
    · by_cases b : lo ≤ code l
      · rw [if_pos ⟨b, a⟩, if_neg (by omega), if_pos (by omega)]
      · rw [if_neg (by omega), if_neg (by omega), if_neg (by omega)]
    · by_cases b : code l ≤ hi
      · rw [if_neg (by omega), if_pos (by omega), if_pos (by omega)]
      · rw [if_neg (by omega), if_neg (by omega), if_neg (by omega)]

/-- Where the low digits run freely, the pairs of bytes are just the range. -/
theorem exact_1 {lo hi : Int} (h : cls 1 lo hi) (hle : lo ≤ hi) : Sp lo hi [zr (bs lo) (bs hi)] := by
  have hc := h
  have sl := cls_S h (Int.le_refl lo) hle
  have sh := cls_S h hle (Int.le_refl hi)
  simp only [cls] at h
  rw [bs_1 sl (by omega), bs_1 sh (by omega)]
  refine ⟨fun r hr => ?_, fun l => ?_⟩
  · rw [List.mem_singleton.1 hr]
    refine ⟨by simp [zr], by simp [zr], fun x hx => ?_⟩
    simp [zr] at hx; subst hx; simp only; omega
  · rw [cnt_one]
    by_cases k : lo ≤ code l ∧ code l ≤ hi
    · rw [if_pos k]
      obtain ⟨k1, k2⟩ := code_spec (l := l) (by omega)
      rw [← k2, bs_1 k1 (by omega)]
      have := k.1; have := k.2
      simp [zr, inB]; omega
    · rw [if_neg k, if_neg]
      intro hb
      apply k
      rcases l with _ | ⟨a, _ | ⟨b, l⟩⟩
      · simp [zr, inB] at hb
      · simp [zr, inB] at hb
        have hS : isS a := cls_S hc (by omega) (by omega)
        rw [code_of hS (bs_1 hS (by omega)).symm]; omega
      · simp [zr, inB] at hb

theorem exact_2 {lo hi : Int} (h : cls 2 lo hi) (hle : lo ≤ hi) (f : (lo / 64 = hi / 64) ∨ (lo % 64 = 0 ∧ hi % 64 = 63)) : Sp lo hi [zr (bs lo) (bs hi)] := by
  have hc := h
  have sl := cls_S h (Int.le_refl lo) hle
  have sh := cls_S h hle (Int.le_refl hi)
  simp only [cls] at h
  rw [bs_2 sl (by omega) (by omega), bs_2 sh (by omega) (by omega)]
  refine ⟨fun r hr => ?_, fun l => ?_⟩
  · rw [List.mem_singleton.1 hr]
    refine ⟨by simp [zr], by simp [zr], fun x hx => ?_⟩
    simp [zr] at hx; rcases hx with rfl | rfl <;> simp only <;> omega
  · rw [cnt_one]
    by_cases k : lo ≤ code l ∧ code l ≤ hi
    · rw [if_pos k]
      obtain ⟨k1, k2⟩ := code_spec (l := l) (by omega)
      rw [← k2, bs_2 k1 (by omega) (by omega)]
      have := k.1; have := k.2
      simp [zr, inB]; omega
    · rw [if_neg k, if_neg]
      intro hb
      apply k
      rcases l with _ | ⟨a, _ | ⟨b, _ | ⟨c, l⟩⟩⟩
      · simp [zr, inB] at hb
      · simp [zr, inB] at hb
      · simp [zr, inB] at hb
        obtain ⟨x, hx⟩ : ∃ x, x = (a - 192) * 64 + (b - 128) := ⟨_, rfl⟩
        have hS : isS x := cls_S hc (by omega) (by omega)
        rw [code_of hS (by rw [bs_2 hS (by omega) (by omega)]; simp only [List.cons.injEq, and_true]; omega)]; omega
      · simp [zr, inB] at hb

theorem exact_3 {lo hi : Int} (h : cls 3 lo hi) (hle : lo ≤ hi) (f : (lo / 64 = hi / 64) ∨ (lo / 4096 = hi / 4096 ∧ lo % 64 = 0 ∧ hi % 64 = 63) ∨ (lo % 4096 = 0 ∧ hi % 4096 = 4095)) : Sp lo hi [zr (bs lo) (bs hi)] := by
  have hc := h
  have sl := cls_S h (Int.le_refl lo) hle
  have sh := cls_S h hle (Int.le_refl hi)
  simp only [cls] at h
  rw [bs_3 sl (by omega) (by omega), bs_3 sh (by omega) (by omega)]
  refine ⟨fun r hr => ?_, fun l => ?_⟩
  · rw [List.mem_singleton.1 hr]
    refine ⟨by simp [zr], by simp [zr], fun x hx => ?_⟩
    simp [zr] at hx; rcases hx with rfl | rfl | rfl <;> simp only <;> omega
  · rw [cnt_one]
    by_cases k : lo ≤ code l ∧ code l ≤ hi
    · rw [if_pos k]
      obtain ⟨k1, k2⟩ := code_spec (l := l) (by omega)
      rw [← k2, bs_3 k1 (by omega) (by omega)]
      have := k.1; have := k.2
      simp [zr, inB]; omega
    · rw [if_neg k, if_neg]
      intro hb
      apply k
      rcases l with _ | ⟨a, _ | ⟨b, _ | ⟨c, _ | ⟨d, l⟩⟩⟩⟩
      · simp [zr, inB] at hb
      · simp [zr, inB] at hb
      · simp [zr, inB] at hb
      · simp [zr, inB] at hb
        obtain ⟨x, hx⟩ : ∃ x, x = (a - 224) * 4096 + (b - 128) * 64 + (c - 128) := ⟨_, rfl⟩
        have hS : isS x := cls_S hc (by omega) (by omega)
        rw [code_of hS (by rw [bs_3 hS (by omega) (by omega)]; simp only [List.cons.injEq, and_true]; omega)]; omega
      · simp [zr, inB] at hb

theorem exact_4 {lo hi : Int} (h : cls 4 lo hi) (hle : lo ≤ hi) (f : (lo / 64 = hi / 64) ∨ (lo / 4096 = hi / 4096 ∧ lo % 64 = 0 ∧ hi % 64 = 63) ∨ (lo / 262144 = hi / 262144 ∧ lo % 4096 = 0 ∧ hi % 4096 = 4095) ∨ (lo % 262144 = 0 ∧ hi % 262144 = 262143)) : Sp lo hi [zr (bs lo) (bs hi)] := by
  have hc := h
  have sl := cls_S h (Int.le_refl lo) hle
  have sh := cls_S h hle (Int.le_refl hi)
  simp only [cls] at h
  rw [bs_4 sl (by omega), bs_4 sh (by omega)]
  refine ⟨fun r hr => ?_, fun l => ?_⟩
  · rw [List.mem_singleton.1 hr]
    refine ⟨by simp [zr], by simp [zr], fun x hx => ?_⟩
    simp [zr] at hx; rcases hx with rfl | rfl | rfl | rfl <;> simp only <;> omega
  · rw [cnt_one]
    by_cases k : lo ≤ code l ∧ code l ≤ hi
    · rw [if_pos k]
      obtain ⟨k1, k2⟩ := code_spec (l := l) (by omega)
      rw [← k2, bs_4 k1 (by omega)]
      have := k.1; have := k.2
      simp [zr, inB]; omega
    · rw [if_neg k, if_neg]
      intro hb
      apply k
      rcases l with _ | ⟨a, _ | ⟨b, _ | ⟨c, _ | ⟨d, _ | ⟨e, l⟩⟩⟩⟩⟩
      · simp [zr, inB] at hb
      · simp [zr, inB] at hb
      · simp [zr, inB] at hb
      · simp [zr, inB] at hb
      · simp [zr, inB] at hb
        obtain ⟨x, hx⟩ : ∃ x, x = (a - 240) * 262144 + (b - 128) * 4096 + (c - 128) * 64 + (d - 128) := ⟨_, rfl⟩
        have hS : isS x := cls_S hc (by omega) (by omega)
        rw [code_of hS (by rw [bs_4 hS (by omega)]; simp only [List.cons.injEq, and_true]; omega)]; omega
      · simp [zr, inB] at hb

end Go.Proofs.Ytpcgbpcilepjmaa.S
