/- The pure part of the scalar layer: what Bytes and Sequences answer, in plain numbers. -/
import Derived.Test.YtpcgbpcilepjmaaH
import Derived.Test.YtpcgbpcilepjmaaPx2
import Derived.Test.YtpcgbpcilepjmaaPx3
import Derived.Test.YtpcgbpcilepjmaaPx4
import Derived.Test.YtpcgbpcilepjmaaPx5
namespace Go.Proofs.Ytpcgbpcilepjmaa.S
open Go.RowKit Go.Proofs.Ytpcgbpcilepjmaa.P Go.Proofs.YtpcgbpcilepjmaaW.PrintWords Go.Proofs.YtpcgbpcilepjmaaW.PrintLast Go.Proofs.YtpcgbpcilepjmaaW.PrintMore Go.Proofs.Ytpcgbpcilepjmaa.H

/-! ### bytes of a scalar -/
def isS (c : Int) : Prop := (0 ≤ c ∧ c < 55296) ∨ (57343 < c ∧ c ≤ 1114111)
instance (c : Int) : Decidable (isS c) := by unfold isS; infer_instance
def bs (c : Int) : List Int :=
  if isS c then
    if c < 128 then [c]
    else if c < 2048 then [192 + c / 64, 128 + c % 64]
    else if c < 65536 then [224 + c / 4096, 128 + c / 64 % 64, 128 + c % 64]
    else [240 + c / 262144, 128 + c / 4096 % 64, 128 + c / 64 % 64, 128 + c % 64]
  else []

theorem isScalar_eq (c : Int) : scalar_isScalar.f c = some (decide (isS c)) := by
  unfold scalar_isScalar.f isS
  by_cases h1 : c ≥ 0 <;> by_cases h2 : c < 55296 <;> by_cases h3 : c > 57343 <;> simp [h1, h2, h3] <;> omega
theorem refScalar_eq (c : Int) : regletref02_Scalar.f c = some (decide (isS c)) := by
  unfold regletref02_Scalar.f isS
  by_cases h1 : c ≥ 0 <;> by_cases h2 : c < 55296 <;> by_cases h3 : c > 57343 <;> simp [h1, h2, h3] <;> omega
theorem tdiv_pos {a b : Int} (h : 0 ≤ a) : Int.tdiv a b = a / b := Int.tdiv_eq_ediv_of_nonneg h
theorem tmod_pos {a b : Int} (h : 0 ≤ a) : Int.tmod a b = a % b := Int.tmod_eq_emod_of_nonneg h

theorem refBytes_eq (c : Int) : regletref02_Bytes.f c = some (bs c) := by
  unfold regletref02_Bytes.f bs
  rw [refScalar_eq]
  by_cases h : isS c
  · have h0 : 0 ≤ c := by unfold isS at h; omega
    have h1 : c ≤ 1114111 := by unfold isS at h; omega
    simp only [h, decide_true, Option.bind_some, if_true]
    rw [tdiv_pos h0, tdiv_pos h0, tdiv_pos h0, tmod_pos h0, wrap64_id (x := c / 64) (by omega) (by omega), wrap64_id (x := c / 4096) (by omega) (by omega), wrap64_id (x := c / 262144) (by omega) (by omega),
      tmod_pos (a := c / 64) (by omega), tmod_pos (a := c / 4096) (by omega)]
    repeat rw [wrap64_id (by omega) (by omega)]
    split
    · rfl
    · split
      · rfl
      · split <;> rfl
  · simp [h]

theorem bt_get (s : ByteArray) (i : Nat) (h : i < s.data.toList.length) : bt s (i : Int) = ((s.data.toList[i]).toNat : Int) := by
  have h' : i < s.size := by simpa using h
  unfold bt
  rw [dif_pos (by simpa using h')]
  rfl

theorem bytes_l0 (s : ByteArray) (hs : s.size ≤ 4) (d : Nat) : ∀ (xs : List Int) (i : Nat), xs.length = s.size → i + d = s.size →
    Ev (fun k => scalar_Bytes.l0 k s xs (s.size : Int) (i : Int)) (xs.take i ++ (s.data.toList.drop i).map (fun b => (b.toNat : Int))) := by
  induction d with
  | zero =>
    intro xs i hx hi
    refine Ev.step (fun k => by rw [scalar_Bytes.l0]) ?_
    refine Ev.neg (by omega) (Ev.some ?_)
    rw [List.take_of_length_le (by omega), List.drop_of_length_le (by simp; omega)]; simp
  | succ d ih =>
    intro xs i hx hi
    have hl : i < s.data.toList.length := by simp; omega
    refine Ev.step (fun k => by rw [scalar_Bytes.l0]) ?_
    refine Ev.pos (by omega) (Ev.pos (by omega) (Ev.pos (by omega) (Ev.pos (by omega) ?_)))
    have hb := bt_range s i
    rw [wrap64_id (x := bt s i) (by omega) (by omega), wrap64_id (x := (i : Int) + 1) (by omega) (by omega)]
    refine Ev.val (ih (xs.set (i : Int).toNat (bt s i)) (i + 1) (by simpa using hx) (by omega)) ?_
    rw [bt_get s i hl, Int.toNat_natCast, List.drop_eq_getElem_cons hl, List.map_cons, List.take_set, List.take_succ_eq_append_getElem (by omega)]
    rw [List.set_append_right _ _ (by rw [List.length_take]; omega)]
    simp [show min i xs.length = i by omega]

theorem replicate_len (n : Nat) : (List.replicate n (0 : Int)).length = n := by simp

theorem bytes_of (s : ByteArray) (hs : s.size ≤ 4) :
    Ev (fun k => scalar_Bytes.l0 k s (List.replicate (((s.size : Int) : Int).toNat) 0) (s.size : Int) 0) (s.data.toList.map (fun b => (b.toNat : Int))) := by
  refine Ev.val (bytes_l0 s hs s.size _ 0 (by simp) (by omega)) (by simp)

theorem u8n (n : Nat) (h : n < 256) : (UInt8.ofNat n).toNat = n := by simp; omega

theorem encode_bs (c : Int) (h : isS c) : (Utf8.encode c).size ≤ 4 ∧ (Utf8.encode c).data.toList.map (fun b => (b.toNat : Int)) = bs c := by
  have h0 : 0 ≤ c := by unfold isS at h; omega
  have h1 : c ≤ 1114111 := by unfold isS at h; omega
  obtain ⟨n, rfl⟩ := Int.eq_ofNat_of_zero_le h0
  have hv : Utf8.valid (n : Int) = true := by
    unfold isS at h; simp [Utf8.valid]; omega
  unfold Utf8.encode bs
  rw [if_pos h]
  simp only [hv, if_true, Int.toNat_natCast]
  split
  · rw [if_pos (show (n : Int) < 128 by omega)]
    exact ⟨by simp [ByteArray.size], by simp; omega⟩
  · rw [if_neg (show ¬ (n : Int) < 128 by omega)]
    split
    · rw [if_pos (show (n : Int) < 2048 by omega)]
      exact ⟨by simp [ByteArray.size], by simp; omega⟩
    · rw [if_neg (show ¬ (n : Int) < 2048 by omega)]
      split
      · rw [if_pos (show (n : Int) < 65536 by omega)]
        exact ⟨by simp [ByteArray.size], by simp; omega⟩
      · rw [if_neg (show ¬ (n : Int) < 65536 by omega)]
        exact ⟨by simp [ByteArray.size], by simp; omega⟩

theorem bytes_ev (c : Int) : Ev (fun k => scalar_Bytes.f k c) (bs c) := by
  unfold scalar_Bytes.f
  refine Ev.bind0 (isScalar_eq c) ?_
  by_cases h : isS c
  · have h0 : 0 ≤ c := by unfold isS at h; omega
    have h1 : c ≤ 1114111 := by unfold isS at h; omega
    obtain ⟨hz, he⟩ := encode_bs c h
    rw [wrap32_id (x := c) (by omega) (by omega)]
    refine Ev.pos (by simpa using h) (Ev.pos (by omega) (Ev.pos (by omega) ?_))
    rw [← he]
    exact bytes_of _ hz
  · refine Ev.neg (by simpa using h) (Ev.some ?_)
    simp [bs, h]

/-! ### a list of bytes in sequences -/
def inB : List Int → List S40 → Bool
  | [], [] => true
  | a :: l, r :: s => decide (r.f0 ≤ a) && decide (a ≤ r.f1) && inB l s
  | _, _ => false
def cnt (l : List Int) (s : List (List S40)) : Nat := s.countP (inB l)
theorem cnt_append (l : List Int) (s t : List (List S40)) : cnt l (s ++ t) = cnt l s + cnt l t := by simp [cnt]
theorem cnt_one (l : List Int) (r : List S40) : cnt l [r] = if inB l r = true then 1 else 0 := by simp [cnt, List.countP_cons]
theorem cnt_le (l : List Int) (s : List (List S40)) : cnt l s ≤ s.length := List.countP_le_length
theorem inB_len {l : List Int} {r : List S40} (h : inB l r = true) : l.length = r.length := by
  induction l generalizing r with
  | nil => cases r <;> simp [inB] at h ⊢
  | cons a l ih =>
    cases r with
    | nil => simp [inB] at h
    | cons x r => simp [inB] at h; simp [ih h.2]

theorem rd_get (l : List Int) (i : Nat) (h : i < l.length) : rd l (i : Int) = l[i] := by simp [rd, h]
theorem rd40_get (l : List S40) (i : Nat) (h : i < l.length) : rd_T40 l (i : Int) = l[i] := by simp [rd_T40, h]
theorem rdL_get (l : List (List S40)) (i : Nat) (h : i < l.length) : rd_L2 l (i : Int) = l[i] := by simp [rd_L2, h]

theorem In_l0 (l : List Int) (r : List S40) (hl : l.length = r.length) (hs : l.length ≤ 140737488355328) (d : Nat) : ∀ (i : Nat), i + d = l.length →
    Ev (fun k => regletref02_In.l0 k l r (i : Int)) (inB (l.drop i) (r.drop i)) := by
  induction d with
  | zero =>
    intro i hi
    refine Ev.step (fun k => by rw [regletref02_In.l0]) ?_
    refine Ev.neg (by omega) (Ev.some ?_)
    rw [List.drop_of_length_le (by omega), List.drop_of_length_le (by omega)]; rfl
  | succ d ih =>
    intro i hi
    have h1 : i < l.length := by omega
    have h2 : i < r.length := by omega
    refine Ev.step (fun k => by rw [regletref02_In.l0]) ?_
    rw [rd_get l i h1, rd40_get r i h2, List.drop_eq_getElem_cons h1, List.drop_eq_getElem_cons h2, inB, wrap64_id (x := (i : Int) + 1) (by omega) (by omega)]
    refine Ev.pos (by omega) (Ev.pos (by omega) (Ev.pos (by omega) ?_))
    by_cases c1 : l[i] < r[i].f0
    · refine Ev.pos c1 (Ev.some ?_)
      have : ¬ r[i].f0 ≤ l[i] := by omega
      simp [this]
    · refine Ev.neg c1 ?_
      by_cases c2 : l[i] > r[i].f1
      · refine Ev.pos c2 (Ev.some ?_)
        have : ¬ l[i] ≤ r[i].f1 := by omega
        simp [this]
      · refine Ev.neg c2 (Ev.val (ih (i + 1) (by omega)) ?_)
        have e1 : r[i].f0 ≤ l[i] := by omega
        have e2 : l[i] ≤ r[i].f1 := by omega
        simp [e1, e2]

theorem In_ev (l : List Int) (r : List S40) (hs : l.length ≤ 140737488355328) : Ev (fun k => regletref02_In.f k l r) (inB l r) := by
  unfold regletref02_In.f
  by_cases h : l.length = r.length
  · refine Ev.pos (by omega) (Ev.val (In_l0 l r h hs l.length 0 (by omega)) (by simp))
  · refine Ev.neg (by omega) (Ev.some ?_)
    cases hb : inB l r with
    | false => rfl
    | true => exact absurd (inB_len hb) h

theorem Count_l0 (l : List Int) (s : List (List S40)) (hl : l.length ≤ 140737488355328) (hs : s.length ≤ 1000000) (d : Nat) : ∀ (i n : Nat), i + d = s.length → n ≤ i →
    Ev (fun k => regletref02_Count.l0 k l s (n : Int) (i : Int)) ((n + cnt l (s.drop i) : Nat) : Int) := by
  induction d with
  | zero =>
    intro i n hi _
    refine Ev.step (fun k => by rw [regletref02_Count.l0]) ?_
    refine Ev.neg (by omega) (Ev.some ?_)
    rw [List.drop_of_length_le (by omega)]; simp [cnt]
  | succ d ih =>
    intro i n hi hn
    have h1 : i < s.length := by omega
    refine Ev.step (fun k => by rw [regletref02_Count.l0]) ?_
    rw [rdL_get s i h1, List.drop_eq_getElem_cons h1, wrap64_id (x := (i : Int) + 1) (by omega) (by omega), wrap64_id (x := (n : Int) + 1) (by omega) (by omega)]
    refine Ev.pos (by omega) (Ev.pos (by omega) (Ev.bind (In_ev l s[i] hl) ?_))
    have e : cnt l (s[i] :: s.drop (i + 1)) = cnt l (s.drop (i + 1)) + if inB l s[i] = true then 1 else 0 := by unfold cnt; rw [List.countP_cons]
    rw [e]
    by_cases c : inB l s[i] = true
    · refine Ev.pos c (Ev.val (ih (i + 1) (n + 1) (by omega) (by omega)) ?_)
      rw [if_pos c]; congr 1; omega
    · refine Ev.neg c (Ev.val (ih (i + 1) n (by omega) (by omega)) ?_)
      rw [if_neg c]; rfl

theorem Count_ev (l : List Int) (s : List (List S40)) (hl : l.length ≤ 140737488355328) (hs : s.length ≤ 1000000) : Ev (fun k => regletref02_Count.f k l s) (cnt l s : Int) := by
  unfold regletref02_Count.f
  exact Ev.val (Count_l0 l s hl hs s.length 0 0 (by omega) (by omega)) (by simp)

/-! ### shapes -/
def okSeq (r : List S40) : Prop := 1 ≤ r.length ∧ r.length ≤ 4 ∧ ∀ x ∈ r, 0 ≤ x.f0 ∧ x.f1 ≤ 255 ∧ x.f0 ≤ x.f1
theorem shaped_l1 (s : List (List S40)) (i : Nat) (hi : i < s.length) (ho : okSeq s[i]) (b : Bool) (hk : Ev (fun k => regletlaw02_shaped.l0 k s (wrap64 ((i : Int) + 1))) b) (d : Nat) : ∀ (j : Nat), j + d = s[i].length →
    Ev (fun k => regletlaw02_shaped.l1 k s (i : Int) (j : Int)) b := by
  induction d with
  | zero =>
    intro j hj
    refine Ev.step (fun k => by rw [regletlaw02_shaped.l1]) ?_
    rw [rdL_get s i hi]
    exact Ev.pos (by omega) (Ev.pos (by omega) (Ev.neg (by omega) hk))
  | succ d ih =>
    intro j hj
    have h1 : j < s[i].length := by omega
    have h4 := ho.2.1
    obtain ⟨a, b', c⟩ := ho.2.2 _ (List.getElem_mem h1)
    refine Ev.step (fun k => by rw [regletlaw02_shaped.l1]) ?_
    rw [rdL_get s i hi, rd40_get s[i] j h1, wrap64_id (x := (j : Int) + 1) (by omega) (by omega)]
    exact Ev.pos (by omega) (Ev.pos (by omega) (Ev.pos (by omega) (Ev.pos (by omega) (Ev.neg (by omega) (Ev.neg (by omega) (Ev.neg (by omega) (ih (j + 1) (by omega))))))))
theorem shaped_l0 (s : List (List S40)) (hs : s.length ≤ 25) (ho : ∀ r ∈ s, okSeq r) (d : Nat) : ∀ (i : Nat), i + d = s.length →
    Ev (fun k => regletlaw02_shaped.l0 k s (i : Int)) true := by
  induction d with
  | zero =>
    intro i hi
    refine Ev.step (fun k => by rw [regletlaw02_shaped.l0]) ?_
    exact Ev.neg (by omega) (Ev.some rfl)
  | succ d ih =>
    intro i hi
    have h1 : i < s.length := by omega
    have h := ho _ (List.getElem_mem h1)
    have ha := h.1
    have hb := h.2.1
    refine Ev.step (fun k => by rw [regletlaw02_shaped.l0]) ?_
    rw [rdL_get s i h1]
    refine Ev.pos (by omega) (Ev.pos (by omega) (Ev.neg (by omega) ?_))
    refine Ev.step (fun k => by rw [regletlaw02_shaped.j1]) ?_
    refine Ev.neg (by simp; omega) ?_
    refine shaped_l1 s i h1 h true ?_ s[i].length 0 (by omega)
    rw [wrap64_id (x := (i : Int) + 1) (by omega) (by omega)]
    exact ih (i + 1) (by omega)
theorem shaped_ev (s : List (List S40)) (hs : s.length ≤ 25) (ho : ∀ r ∈ s, okSeq r) : Ev (fun k => regletlaw02_shaped.f k s) true := by
  unfold regletlaw02_shaped.f
  exact Ev.neg (by omega) (shaped_l0 s hs ho s.length 0 (by omega))

theorem same_l0 (x y : List Int) (hl : x.length = y.length) (hs : x.length ≤ 140737488355328) (d : Nat) : ∀ (i : Nat), i + d = x.length →
    Ev (fun k => regletlaw02_same.l0 k x y (i : Int)) (decide (x.drop i = y.drop i)) := by
  induction d with
  | zero =>
    intro i hi
    refine Ev.step (fun k => by rw [regletlaw02_same.l0]) ?_
    refine Ev.neg (by omega) (Ev.some ?_)
    rw [List.drop_of_length_le (by omega), List.drop_of_length_le (by omega)]; simp
  | succ d ih =>
    intro i hi
    have h1 : i < x.length := by omega
    have h2 : i < y.length := by omega
    refine Ev.step (fun k => by rw [regletlaw02_same.l0]) ?_
    rw [rd_get x i h1, rd_get y i h2, List.drop_eq_getElem_cons h1, List.drop_eq_getElem_cons h2, wrap64_id (x := (i : Int) + 1) (by omega) (by omega)]
    refine Ev.pos (by omega) (Ev.pos (by omega) (Ev.pos (by omega) ?_))
    by_cases c : x[i] = y[i]
    · refine Ev.pos c (Ev.val (ih (i + 1) (by omega)) ?_)
      simp only [c, List.cons.injEq, true_and]
    · refine Ev.neg c (Ev.some ?_)
      simp only [c, List.cons.injEq, false_and, decide_false]
theorem same_ev (x y : List Int) (hs : x.length ≤ 140737488355328) : Ev (fun k => regletlaw02_same.f k x y) (decide (x = y)) := by
  unfold regletlaw02_same.f
  by_cases h : x.length = y.length
  · exact Ev.pos (by omega) (Ev.val (same_l0 x y h hs x.length 0 (by omega)) (by simp))
  · refine Ev.neg (by omega) (Ev.some ?_)
    have : ¬ x = y := fun e => h (by rw [e])
    simp [this]

end Go.Proofs.Ytpcgbpcilepjmaa.S
