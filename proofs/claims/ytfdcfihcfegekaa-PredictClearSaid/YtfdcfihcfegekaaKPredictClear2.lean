/- Packed texts of this claim: the walks of the functions, and their plain laws; see the claim's last text. -/
import Derived.Test.YtfdcfihcfegekaaProg
import Derived.Below
import Derived.Deep.Draws
import Derived.Deep.AppendLies
import Derived.Maps.AppendAt
import Derived.OwnWalk
import Derived.Laws.BytesArg
import Derived.Laws.MakeOwn
import Derived.Laws.OwnMore
import Derived.Deep.OwnRows
import Derived.Tactics
import Derived.Lib.ConvBytes
import Derived.Laws.Slices
import Derived.WalkKit
import Derived.KernelRfl
import Derived.RowKit3
import Derived.Deep.LoopGhost
import Derived.Deep.QuietTactic
import Derived.BigQuiet
import Derived.WideLaws
import Derived.Deep.DeepCutAuto
import Derived.Deep.CutBlock
import Derived.Deep.RegionHeld3
import Derived.Laws.Rows
import Derived.Lib.AppendStr
import Derived.ArgAppend
import Derived.Laws.IdiomCopy
import Derived.OrdersHeld
import Derived.Laws.BitsLemmas
import Derived.RowKit
import Derived.Laws.Runes
import Derived.Deep.Cut
import Derived.Shelf.Abstract
import Derived.Test.YtfdcfihcfegekaaKPredictClear1
section
namespace Go.Proofs.Ytfdcfihcfegekaa.P
open Go.RowKit Go.Proofs.YtfdcfihcfegekaaW.PrintWords Go.Proofs.YtfdcfihcfegekaaW.PrintLast Go.Proofs.YtfdcfihcfegekaaW.PrintMore
attribute [local go_sem] max2_int min2_int max_two min_two max_three min_three max_four min_four   -- for this text's walks alone
set_option linter.unusedVariables false
set_option linter.unusedSimpArgs false
def errW : Option Int → Value
  | none => .nilIface
  | some c => .iface 0 (.int .i64 c)
theorem errW_none : errW none = .nilIface := rfl
theorem errW_some (c : Int) : errW (some c) = .iface 0 (.int .i64 c) := rfl
theorem info3 : (Try.prog.info? 3).map (fun i => (i.zero, i.size, i.bytes)) = some (some (.int .i64 0), 1, 8) := by kernel_rfl
theorem info4 : (Try.prog.info? 4).map (fun i => (i.zero, i.size, i.bytes)) = some (some (.bool false), 1, 1) := by kernel_rfl
theorem info30 : (Try.prog.info? 30).map (fun i => (i.zero, i.size, i.bytes)) = some (some (.agg #[(.int .i64 0), (.slice none 0 0)]), 2, 32) := by kernel_rfl
theorem info43 : (Try.prog.info? 43).map (fun i => (i.zero, i.size, i.bytes)) = some (some (.slice none 0 0), 1, 24) := by kernel_rfl
theorem info50 : (Try.prog.info? 50).map (fun i => (i.zero, i.size, i.bytes)) = some (some (.agg #[(.int .i64 0), (.int .i64 0), (.int .i64 0), (.int .i64 0)]), 4, 32) := by kernel_rfl
theorem info53 : (Try.prog.info? 53).map (fun i => (i.zero, i.size, i.bytes)) = some (some (.agg #[(.bool false), (.int .i64 0)]), 2, 16) := by kernel_rfl
theorem info61 : (Try.prog.info? 61).map (fun i => (i.zero, i.size, i.bytes)) = some (some (.agg #[(.string ⟨#[]⟩), (.int .i64 0), (.string ⟨#[]⟩), (.slice none 0 0), (.int .i64 0), (.int .i64 0), (.slice none 0 0)]), 7, 104) := by kernel_rfl
theorem info65 : (Try.prog.info? 65).map (fun i => (i.zero, i.size, i.bytes)) = some (some (.slice none 0 0), 1, 24) := by kernel_rfl
theorem info84 : (Try.prog.info? 84).map (fun i => (i.zero, i.size, i.bytes)) = some (some (.slice none 0 0), 1, 24) := by kernel_rfl
def rd_L3 (xs : List (List Int)) (i : Int) : (List Int) := xs.getD i.toNat ([] : List Int)
theorem at_L3 {w : World} {A : Option Addr} {n : Nat} {xs : List (List Int)} (h : Kd.C (Kd.slice 3 (Kd.int .i64)) w A n xs) (i : Int) (h0 : 0 ≤ i) (h1 : i < n) : ∃ ad A0 c0, A = some ad ∧ w.cell? (ad.add i.toNat) = some (.slice A0 (rd_L3 xs i).length c0) ∧ (rd_L3 xs i).length ≤ c0 ∧ (Kd.int .i64).C w A0 (rd_L3 xs i).length (rd_L3 xs i) := by
 obtain ⟨ad, c, e, _, hK, hc0⟩ := Kd.C_get h ([] : List Int) i h0 h1
 have hc : ∀ j u, c[j]? = some u → w.cell? (ad.add (i.toNat * 1 + j)) = some u := hc0
 obtain ⟨A0, c0, rfl, l0, g0⟩ := hK
 exact ⟨ad, A0, c0, e, by have hq := hc 0 _ rfl; rwa [Nat.mul_one, Nat.add_zero] at hq, l0, g0⟩
structure S59 where
  f0 : Int
  f1 : ByteArray
  f2 : (List Int)
  f3 : Int
  f4 : Int
  f5 : (List S59)
def z59 : S59 := ⟨(0 : Int), (⟨#[]⟩ : ByteArray), ([] : List Int), (0 : Int), (0 : Int), ([] : List S59)⟩
def F59 (d : Kd S59) : Kd S59 := Kd.iso (Kd.pair (Kd.int .i64) (Kd.pair Kd.string (Kd.pair (Kd.slice 3 (Kd.int .i64)) (Kd.pair (Kd.int .i64) (Kd.pair (Kd.int .i64) (Kd.slice 59 d)))))) (fun x : S59 => (x.f0, x.f1, x.f2, x.f3, x.f4, x.f5))
theorem mono59 : Kd.Mono F59 := Kd.mono_iso _ (Kd.mono_pair (Kd.mono_const _) (Kd.mono_pair (Kd.mono_const _) (Kd.mono_pair (Kd.mono_const _) (Kd.mono_pair (Kd.mono_const _) (Kd.mono_pair (Kd.mono_const _) (Kd.mono_slice 59 Kd.mono_id))))))
theorem sub59 : Kd.Sub F59 [3, 59] := Kd.sub_iso _ (Kd.sub_pair (Kd.sub_const _ (by decide)) (Kd.sub_pair (Kd.sub_const _ (by decide)) (Kd.sub_pair (Kd.sub_const _ (by decide)) (Kd.sub_pair (Kd.sub_const _ (by decide)) (Kd.sub_pair (Kd.sub_const _ (by decide)) (Kd.sub_slice 59 (by decide) Kd.sub_id))))))
theorem sz59 : ∀ n, (Kd.upto F59 6 [3, 59] n).sz = 6 := Kd.upto_sz (fun _ => rfl)
def k59 : Kd S59 := Kd.fix F59 6 [3, 59] sz59 (Kd.upto_E sub59)
theorem k59_mk (w : World) (x : S59) {A2 : Option Addr} {c2 : Nat} (l2 : x.f2.length ≤ c2) (g2 : (Kd.int .i64).C w A2 x.f2.length x.f2) {A5 : Option Addr} {c5 : Nat} (l5 : x.f5.length ≤ c5) (g5 : k59.C w A5 x.f5.length x.f5) : k59.K w x [.int .i64 x.f0, .string x.f1, .slice A2 x.f2.length c2, .int .i64 x.f3, .int .i64 x.f4, .slice A5 x.f5.length c5] := by
 obtain ⟨n5, q5⟩ := Kd.fix_C_back mono59 g5
 have r5 := Kd.upto_C_le mono59 sz59 (show n5 ≤ n5 by omega) q5
 exact ⟨n5 + 1, ⟨[.int .i64 x.f0], [.string x.f1, .slice A2 x.f2.length c2, .int .i64 x.f3, .int .i64 x.f4, .slice A5 x.f5.length c5], rfl, rfl, ⟨[.string x.f1], [.slice A2 x.f2.length c2, .int .i64 x.f3, .int .i64 x.f4, .slice A5 x.f5.length c5], rfl, rfl, ⟨[.slice A2 x.f2.length c2], [.int .i64 x.f3, .int .i64 x.f4, .slice A5 x.f5.length c5], rfl, ⟨A2, c2, rfl, l2, g2⟩, ⟨[.int .i64 x.f3], [.int .i64 x.f4, .slice A5 x.f5.length c5], rfl, rfl, ⟨[.int .i64 x.f4], [.slice A5 x.f5.length c5], rfl, rfl, ⟨A5, c5, rfl, l5, r5⟩⟩⟩⟩⟩⟩⟩
theorem k59_mkM (w : World) (base : Nat) (ok : Nat → Prop) (x : S59) {v2 : Value} (g2 : (Kd.int .i64).R 3 w base ok v2 x.f2) {v5 : Value} (g5 : k59.R 59 w base ok v5 x.f5) : k59.M w base ok x [.int .i64 x.f0, .string x.f1, v2, .int .i64 x.f3, .int .i64 x.f4, v5] := by
 obtain ⟨n5, q5⟩ := Kd.fix_R_back mono59 g5
 have r5 := Kd.upto_R_le mono59 sz59 (show n5 ≤ n5 by omega) q5
 exact ⟨n5 + 1, ⟨[.int .i64 x.f0], [.string x.f1, v2, .int .i64 x.f3, .int .i64 x.f4, v5], rfl, rfl, ⟨[.string x.f1], [v2, .int .i64 x.f3, .int .i64 x.f4, v5], rfl, rfl, ⟨[v2], [.int .i64 x.f3, .int .i64 x.f4, v5], rfl, ⟨v2, rfl, g2⟩, ⟨[.int .i64 x.f3], [.int .i64 x.f4, v5], rfl, rfl, ⟨[.int .i64 x.f4], [v5], rfl, rfl, ⟨v5, rfl, r5⟩⟩⟩⟩⟩⟩⟩
structure S61 where
  f0 : ByteArray
  f1 : S59
def z61 : S61 := ⟨(⟨#[]⟩ : ByteArray), z59⟩
def k61 : Kd S61 := Kd.iso (Kd.pair Kd.string k59) (fun x : S61 => (x.f0, x.f1))
theorem k61_mk (w : World) (x : S61) {A3 : Option Addr} {c3 : Nat} (l3 : x.f1.f2.length ≤ c3) (g3 : (Kd.int .i64).C w A3 x.f1.f2.length x.f1.f2) {A6 : Option Addr} {c6 : Nat} (l6 : x.f1.f5.length ≤ c6) (g6 : k59.C w A6 x.f1.f5.length x.f1.f5) : k61.K w x [.string x.f0, .int .i64 x.f1.f0, .string x.f1.f1, .slice A3 x.f1.f2.length c3, .int .i64 x.f1.f3, .int .i64 x.f1.f4, .slice A6 x.f1.f5.length c6] := ⟨[.string x.f0], [.int .i64 x.f1.f0, .string x.f1.f1, .slice A3 x.f1.f2.length c3, .int .i64 x.f1.f3, .int .i64 x.f1.f4, .slice A6 x.f1.f5.length c6], rfl, rfl, (k59_mk w x.f1 l3 g3 l6 g6)⟩
theorem k61_mkM (w : World) (base : Nat) (ok : Nat → Prop) (x : S61) {v3 : Value} (g3 : (Kd.int .i64).R 3 w base ok v3 x.f1.f2) {v6 : Value} (g6 : k59.R 59 w base ok v6 x.f1.f5) : k61.M w base ok x [.string x.f0, .int .i64 x.f1.f0, .string x.f1.f1, v3, .int .i64 x.f1.f3, .int .i64 x.f1.f4, v6] := ⟨[.string x.f0], [.int .i64 x.f1.f0, .string x.f1.f1, v3, .int .i64 x.f1.f3, .int .i64 x.f1.f4, v6], rfl, rfl, (k59_mkM w base ok x.f1 g3 g6)⟩
theorem k61_mkF (W : World) (ok : Nat → Prop) (x : S61) {A3 : Option Addr} {c3 : Nat} (l3 : x.f1.f2.length ≤ c3) (g3 : Kd.F (Kd.int .i64) W ok A3 x.f1.f2.length x.f1.f2) {A6 : Option Addr} {c6 : Nat} (l6 : x.f1.f5.length ≤ c6) (g6 : Kd.F k59 W ok A6 x.f1.f5.length x.f1.f5) : Kd.FK k61 W ok x [.string x.f0, .int .i64 x.f1.f0, .string x.f1.f1, .slice A3 x.f1.f2.length c3, .int .i64 x.f1.f3, .int .i64 x.f1.f4, .slice A6 x.f1.f5.length c6] := fun W2 hW => k61_mk W2 x l3 (g3 W2 hW) l6 (g6 W2 hW)
structure S53 where
  f0 : Bool
  f1 : Int
def z53 : S53 := ⟨false, (0 : Int)⟩
def k53 : Kd S53 := Kd.iso (Kd.pair Kd.bool (Kd.int .i64)) (fun x : S53 => (x.f0, x.f1))
theorem k53_heap : Kd.Heap k53 := Kd.heap_iso _ (Kd.heap_pair Kd.heap_bool (Kd.heap_int .i64))
theorem k53_open {w : World} {x : S53} {cs : List Value} (h : k53.K w x cs) : cs = [.bool x.f0, .int .i64 x.f1] := by
 obtain ⟨_, _, rfl, rfl, rfl⟩ := h
 exact rfl
theorem k53_openM {w : World} {base : Nat} {ok : Nat → Prop} {x : S53} {cs : List Value} (h : k53.M w base ok x cs) : cs = [.bool x.f0, .int .i64 x.f1] := by
 obtain ⟨_, _, rfl, rfl, rfl⟩ := h
 exact rfl
theorem k53_mkM (w : World) (base : Nat) (ok : Nat → Prop) (x : S53)  : k53.M w base ok x [.bool x.f0, .int .i64 x.f1] := ⟨[.bool x.f0], [.int .i64 x.f1], rfl, rfl, rfl⟩
def rd_T53 (xs : List S53) (i : Int) : S53 := xs.getD i.toNat z53
theorem at_T53 {w : World} {A : Option Addr} {n : Nat} {xs : List S53} (h : Kd.C k53 w A n xs) (i : Int) (h0 : 0 ≤ i) (h1 : i < n) : ∃ ad , A = some ad ∧ w.cell? (ad.add (i.toNat * 2)) = some (.bool (rd_T53 xs i).f0) ∧ w.cell? ⟨(ad.add (i.toNat * 2)).block, (ad.add (i.toNat * 2)).off + 1, none⟩ = some (.int .i64 (rd_T53 xs i).f1) := by
 obtain ⟨ad, c, e, _, hK, hc0⟩ := Kd.C_get h z53 i h0 h1
 have hc : ∀ j u, c[j]? = some u → w.cell? (ad.add (i.toNat * 2 + j)) = some u := hc0
 obtain rfl := k53_open hK
 exact ⟨ad, e, hc 0 _ rfl, by rw [← add_field _ _ 1 (by omega)]; exact hc 1 _ rfl⟩
structure S30 where
  f0 : Int
  f1 : (List S53)
def z30 : S30 := ⟨(0 : Int), ([] : List S53)⟩
def k30 : Kd S30 := Kd.iso (Kd.pair (Kd.int .i64) (Kd.slice 53 k53)) (fun x : S30 => (x.f0, x.f1))
theorem k30_heap : Kd.Heap k30 := Kd.heap_iso _ (Kd.heap_pair (Kd.heap_int .i64) (Kd.heap_slice 53 k53_heap))
theorem k30_open {w : World} {x : S30} {cs : List Value} (h : k30.K w x cs) : ∃ A1 c1, cs = [.int .i64 x.f0, .slice A1 x.f1.length c1] ∧ x.f1.length ≤ c1 ∧ k53.C w A1 x.f1.length x.f1 := by
 obtain ⟨_, _, rfl, rfl, ⟨A1, c1, rfl, l1, g1⟩⟩ := h
 exact ⟨A1, c1, rfl, l1, g1⟩
theorem k30_openM {w : World} {base : Nat} {ok : Nat → Prop} {x : S30} {cs : List Value} (h : k30.M w base ok x cs) : ∃ v1, cs = [.int .i64 x.f0, v1] ∧ k53.R 53 w base ok v1 x.f1 := by
 obtain ⟨_, _, rfl, rfl, ⟨v1, rfl, g1⟩⟩ := h
 exact ⟨v1, rfl, g1⟩
theorem k30_mk (w : World) (x : S30) {A1 : Option Addr} {c1 : Nat} (l1 : x.f1.length ≤ c1) (g1 : k53.C w A1 x.f1.length x.f1) : k30.K w x [.int .i64 x.f0, .slice A1 x.f1.length c1] := ⟨[.int .i64 x.f0], [.slice A1 x.f1.length c1], rfl, rfl, ⟨A1, c1, rfl, l1, g1⟩⟩
theorem k30_mkM (w : World) (base : Nat) (ok : Nat → Prop) (x : S30) {v1 : Value} (g1 : k53.R 53 w base ok v1 x.f1) : k30.M w base ok x [.int .i64 x.f0, v1] := ⟨[.int .i64 x.f0], [v1], rfl, rfl, ⟨v1, rfl, g1⟩⟩
theorem k30_mkF (W : World) (ok : Nat → Prop) (x : S30) {A1 : Option Addr} {c1 : Nat} (l1 : x.f1.length ≤ c1) (g1 : Kd.F k53 W ok A1 x.f1.length x.f1) : Kd.FK k30 W ok x [.int .i64 x.f0, .slice A1 x.f1.length c1] := fun W2 hW => k30_mk W2 x l1 (g1 W2 hW)
def rd_T30 (xs : List S30) (i : Int) : S30 := xs.getD i.toNat z30
theorem at_T30 {w : World} {A : Option Addr} {n : Nat} {xs : List S30} (h : Kd.C k30 w A n xs) (i : Int) (h0 : 0 ≤ i) (h1 : i < n) : ∃ ad A1 c1, A = some ad ∧ w.cell? (ad.add (i.toNat * 2)) = some (.int .i64 (rd_T30 xs i).f0) ∧ w.cell? ⟨(ad.add (i.toNat * 2)).block, (ad.add (i.toNat * 2)).off + 1, none⟩ = some (.slice A1 (rd_T30 xs i).f1.length c1) ∧ (rd_T30 xs i).f1.length ≤ c1 ∧ k53.C w A1 (rd_T30 xs i).f1.length (rd_T30 xs i).f1 := by
 obtain ⟨ad, c, e, _, hK, hc0⟩ := Kd.C_get h z30 i h0 h1
 have hc : ∀ j u, c[j]? = some u → w.cell? (ad.add (i.toNat * 2 + j)) = some u := hc0
 obtain ⟨A1, c1, rfl, l1, g1⟩ := k30_open hK
 exact ⟨ad, A1, c1, e, hc 0 _ rfl, by rw [← add_field _ _ 1 (by omega)]; exact hc 1 _ rfl, l1, g1⟩
def rd_L13 (xs : List (List Bool)) (i : Int) : (List Bool) := xs.getD i.toNat ([] : List Bool)
theorem at_L13 {w : World} {A : Option Addr} {n : Nat} {xs : List (List Bool)} (h : Kd.C (Kd.slice 4 Kd.bool) w A n xs) (i : Int) (h0 : 0 ≤ i) (h1 : i < n) : ∃ ad A0 c0, A = some ad ∧ w.cell? (ad.add i.toNat) = some (.slice A0 (rd_L13 xs i).length c0) ∧ (rd_L13 xs i).length ≤ c0 ∧ Kd.bool.C w A0 (rd_L13 xs i).length (rd_L13 xs i) := by
 obtain ⟨ad, c, e, _, hK, hc0⟩ := Kd.C_get h ([] : List Bool) i h0 h1
 have hc : ∀ j u, c[j]? = some u → w.cell? (ad.add (i.toNat * 1 + j)) = some u := hc0
 obtain ⟨A0, c0, rfl, l0, g0⟩ := hK
 exact ⟨ad, A0, c0, e, by have hq := hc 0 _ rfl; rwa [Nat.mul_one, Nat.add_zero] at hq, l0, g0⟩
structure S50 where
  f0 : Int
  f1 : Int
  f2 : Int
  f3 : Int
def z50 : S50 := ⟨(0 : Int), (0 : Int), (0 : Int), (0 : Int)⟩
def k50 : Kd S50 := Kd.iso (Kd.pair (Kd.int .i64) (Kd.pair (Kd.int .i64) (Kd.pair (Kd.int .i64) (Kd.int .i64)))) (fun x : S50 => (x.f0, x.f1, x.f2, x.f3))
theorem k50_open {w : World} {x : S50} {cs : List Value} (h : k50.K w x cs) : cs = [.int .i64 x.f0, .int .i64 x.f1, .int .i64 x.f2, .int .i64 x.f3] := by
 obtain ⟨_, _, rfl, rfl, ⟨_, _, rfl, rfl, ⟨_, _, rfl, rfl, rfl⟩⟩⟩ := h
 exact rfl
theorem k50_mkM (w : World) (base : Nat) (ok : Nat → Prop) (x : S50)  : k50.M w base ok x [.int .i64 x.f0, .int .i64 x.f1, .int .i64 x.f2, .int .i64 x.f3] := ⟨[.int .i64 x.f0], [.int .i64 x.f1, .int .i64 x.f2, .int .i64 x.f3], rfl, rfl, ⟨[.int .i64 x.f1], [.int .i64 x.f2, .int .i64 x.f3], rfl, rfl, ⟨[.int .i64 x.f2], [.int .i64 x.f3], rfl, rfl, rfl⟩⟩⟩
def rd_T50 (xs : List S50) (i : Int) : S50 := xs.getD i.toNat z50
theorem at_T50 {w : World} {A : Option Addr} {n : Nat} {xs : List S50} (h : Kd.C k50 w A n xs) (i : Int) (h0 : 0 ≤ i) (h1 : i < n) : ∃ ad , A = some ad ∧ w.cell? (ad.add (i.toNat * 4)) = some (.int .i64 (rd_T50 xs i).f0) ∧ w.cell? ⟨(ad.add (i.toNat * 4)).block, (ad.add (i.toNat * 4)).off + 1, none⟩ = some (.int .i64 (rd_T50 xs i).f1) ∧ w.cell? ⟨(ad.add (i.toNat * 4)).block, (ad.add (i.toNat * 4)).off + 2, none⟩ = some (.int .i64 (rd_T50 xs i).f2) ∧ w.cell? ⟨(ad.add (i.toNat * 4)).block, (ad.add (i.toNat * 4)).off + 3, none⟩ = some (.int .i64 (rd_T50 xs i).f3) := by
 obtain ⟨ad, c, e, _, hK, hc0⟩ := Kd.C_get h z50 i h0 h1
 have hc : ∀ j u, c[j]? = some u → w.cell? (ad.add (i.toNat * 4 + j)) = some u := hc0
 obtain rfl := k50_open hK
 exact ⟨ad, e, hc 0 _ rfl, by rw [← add_field _ _ 1 (by omega)]; exact hc 1 _ rfl, by rw [← add_field _ _ 2 (by omega)]; exact hc 2 _ rfl, by rw [← add_field _ _ 3 (by omega)]; exact hc 3 _ rfl⟩
end Go.Proofs.Ytfdcfihcfegekaa.P
end

section
namespace Go.Proofs.Ytfdcfihcfegekaa.H
open Go.RowKit Go.Proofs.YtfdcfihcfegekaaW.PrintWords Go.Proofs.YtfdcfihcfegekaaW.PrintLast Go.Proofs.YtfdcfihcfegekaaW.PrintMore
theorem Ev.pos {α : Type} {c : Prop} [Decidable c] {f g : Nat → Option α} {r : α} (h : c) (k : Ev f r) : Ev (fun n => if c then f n else g n) r :=
  Ev.congr (fun _ => if_pos h) k
theorem Ev.neg {α : Type} {c : Prop} [Decidable c] {f g : Nat → Option α} {r : α} (h : ¬ c) (k : Ev g r) : Ev (fun n => if c then f n else g n) r :=
  Ev.congr (fun _ => if_neg h) k
theorem Ev.some {α : Type} {r s : α} (h : r = s) : Ev (fun _ => Option.some r) s := h ▸ Ev.now r
theorem Ev.some' {α : Type} {g : Option α} {r : α} (h : g = Option.some r) : Ev (fun _ => g) r := ⟨0, fun _ _ => h⟩
theorem Ev.bind0 {α β : Type} {g : Option α} {f : Nat → α → Option β} {a : α} {r : β} (h : g = Option.some a) (k : Ev (fun n => f n a) r) : Ev (fun n => g.bind (f n)) r :=
  Ev.congr (fun _ => by rw [h]; rfl) k
theorem Ev.val {α : Type} {g : Nat → Option α} {r s : α} (h : Ev g r) (e : r = s) : Ev g s := e ▸ h
theorem wrap64_id {x : Int} (h0 : -9223372036854775808 ≤ x) (h1 : x ≤ 9223372036854775807) : wrap64 x = x := by
 unfold wrap64; omega
theorem wf_u8 {x : Int} (h : (Lit.int .u8 x).wf = true) : 0 ≤ x ∧ x ≤ 255 := by
 simp [Lit.wf, IntKind.min, IntKind.max, IntKind.bits, IntKind.signed] at h; omega
end Go.Proofs.Ytfdcfihcfegekaa.H
end

section
namespace Go.Proofs.Ytfdcfihcfegekaa.P
open Go.RowKit Go.Proofs.YtfdcfihcfegekaaW.PrintWords Go.Proofs.YtfdcfihcfegekaaW.PrintLast Go.Proofs.YtfdcfihcfegekaaW.PrintMore
set_option linter.unusedVariables false
set_option linter.unusedSimpArgs false
def mPick (l : List Int) (at_ : Nat) (n : Int) : Int := if l.length < at_ + 1 then 0 else Int.tmod (l.getD at_ 0) n
theorem wrap_u8 {x : Int} (h0 : 0 ≤ x) (h1 : x ≤ 255) : IntKind.i64.wrap x = x := by rw [IntKind.wrap_i64]; omega
theorem wrap_tmod {x n : Int} (h0 : 0 ≤ x) (h1 : x ≤ 255) : IntKind.i64.wrap (x.tmod n) = x.tmod n := by
 have h2 : 0 ≤ x.tmod n := Int.tmod_nonneg n h0
 have h3 : x.tmod n ≤ x := by
  obtain ⟨a, rfl⟩ := Int.eq_ofNat_of_zero_le h0
  rcases Int.lt_or_le n 0 with hn | hn
  · obtain ⟨b, hb⟩ := Int.eq_ofNat_of_zero_le (show 0 ≤ -n by omega)
    have : (a : Int).tmod n = (a : Int).tmod b := by rw [show n = -(b : Int) by omega, Int.tmod_neg]
    rw [this, ← Int.ofNat_tmod]
    exact_mod_cast Nat.mod_le a b
  · obtain ⟨b, rfl⟩ := Int.eq_ofNat_of_zero_le hn
    rw [← Int.ofNat_tmod]
    exact_mod_cast Nat.mod_le a b
 rw [IntKind.wrap_i64]; omega
set_option maxHeartbeats 1000000 in
theorem pick_any (l : List Int) (A0 : Option Addr) (c0 at_ : Nat) (n : Int) (LB AB : Nat) (W : World) (hne : LB ≠ AB) (hl : W.cell? ⟨LB, 0, none⟩ = some (.slice A0 l.length c0)) (hab : W.heap[AB]? = some (.cells #[.int .i64 (at_ : Int)] 3 (0, 0)))
    (hr : ∀ W', Kept W W' (fun k => k = AB) → Kd.C (Kd.int .u8) W' A0 l.length l) (hn : n ≠ 0) (hat : at_ < 1000000) (hu : ∀ x ∈ l, 0 ≤ x ∧ x ≤ 255) :
    Calls Try.prog 21 #[.int .i64 n, .pointer (some ⟨AB, 0, none⟩), .pointer (some ⟨LB, 0, none⟩)] W fun e w' => e = .returned (.int .i64 (mPick l at_ n)) ∧ Aside0 (Kept W w' (fun k => k = AB)) ∧ Aside0 (w'.heap[AB]? = some (.cells #[.int .i64 ((at_ + 1 : Nat) : Int)] 3 (0, 0))) ∧ Aside0 (Below AB W w') := by
 have ha : W.cell? ⟨AB, 0, none⟩ = some (.int .i64 (at_ : Int)) := (blk_cell hab 0).trans rfl
 have hf := blk_frozen hab 0
 have HA3 := Aside0.mk (blk_put hab 0 (.int .i64 ((at_ : Int) + 1)) (cs' := #[.int .i64 ((at_ + 1 : Nat) : Int)]) rfl)
 have hK := Kept.setCell (Kept.refl W (fun k => k = AB)) (p := ⟨AB, 0, none⟩) (.inl rfl) (.int .i64 ((at_ : Int) + 1))
 have hw1 : IntKind.i64.wrap ((at_ : Int) + 1) = (at_ : Int) + 1 := by rw [IntKind.wrap_i64]; omega
 have hw2 : IntKind.i64.wrap ((at_ : Int) + 1 - 1) = (at_ : Int) := by rw [IntKind.wrap_i64]; omega
 have hl2 : (W.setCell ⟨AB, 0, none⟩ (.int .i64 ((at_ : Int) + 1))).cell? ⟨LB, 0, none⟩ = some (.slice A0 l.length c0) := cell_kept hl hK hne
 have ha2 : (W.setCell ⟨AB, 0, none⟩ (.int .i64 ((at_ : Int) + 1))).cell? ⟨AB, 0, none⟩ = some (.int .i64 ((at_ : Int) + 1)) := World.cell?_setCell_same' _ _ _ (by rw [ha]; rfl)
 have HB : Aside0 (Below AB W (W.setCell ⟨AB, 0, none⟩ (.int .i64 ((at_ : Int) + 1)))) := ⟨(Below.refl AB W).setCell (Nat.le_refl _) _⟩
 have HK := Aside0.mk hK
 have HU := Aside0.mk hu
 have HR := Aside0.mk hr
 clear hK hu hr hab
 by_cases hlt : l.length < at_ + 1
 · have e : mPick l at_ n = 0 := if_pos hlt
   rw [e]
   have d0 : decide ((at_ : Int) + 1 > (l.length : Int)) = true := decide_eq_true (by omega)
   clear hlt e
   go_enter Try.func21, Try.ntmps21
   go_wp2
   go_ret
   exact ⟨rfl, HK, HA3, HB⟩
 · have e : mPick l at_ n = Int.tmod (l.getD at_ 0) n := if_neg hlt
   rw [e]
   have d0 : decide ((at_ : Int) + 1 > (l.length : Int)) = false := decide_eq_false (by omega)
   obtain ⟨ad, ead, hc⟩ := Kd.at_int (HR.out _ HK.out) (at_ : Int) (by omega) (by omega)
   cases ead
   have p0 : (0 ≤ (at_ : Int)) = True := eq_true (by omega)
   have p1 : ((at_ : Int) < (l.length : Int)) = True := eq_true (by omega)
   have hx := HU.out (l.getD at_ 0) (by rw [List.getD_eq_getElem?_getD, List.getElem?_eq_getElem (by omega)]; exact List.getElem_mem _)
   have hx0 : rd l (at_ : Int) = l.getD at_ 0 := rfl
   rw [hx0] at hc
   generalize l.getD at_ 0 = x at hc hx
   have hw3 := wrap_u8 hx.1 hx.2
   have hw4 := wrap_tmod (n := n) hx.1 hx.2
   rw [Int.toNat_natCast] at hc
   clear hx hx0 hlt e
   go_enter Try.func21, Try.ntmps21
   go_wp2
   go_ret
   exact ⟨rfl, HK, HA3, HB⟩
theorem mPick_lt {l : List Int} (hu : ∀ x ∈ l, 0 ≤ x ∧ x ≤ 255) (at_ : Nat) {n : Int} (hn : 0 < n) : 0 ≤ mPick l at_ n ∧ mPick l at_ n < n := by
 unfold mPick
 split
 · omega
 · have hx := hu (l.getD at_ 0) (by rw [List.getD_eq_getElem?_getD, List.getElem?_eq_getElem (by omega)]; exact List.getElem_mem _)
   exact ⟨Int.tmod_nonneg n hx.1, Int.tmod_lt_of_pos _ hn⟩
def mRight (l : List Int) (n t : Int) : Nat → Nat → List S53 → List S53 × Nat
  | 0, at_, acc => (acc, at_)
  | c + 1, at_, acc => mRight l n t c (at_ + 2) (acc ++ [if mPick l at_ 2 = 0 then ⟨true, mPick l (at_ + 1) t⟩ else ⟨false, mPick l (at_ + 1) n⟩])
def mProds (l : List Int) (n t : Int) : Nat → Nat → List S30 → List S30
  | 0, _, acc => acc
  | i + 1, at_, acc => mProds l n t i (mRight l n t (mPick l (at_ + 1) 4).toNat (at_ + 2) []).2 (acc ++ [⟨mPick l at_ n, (mRight l n t (mPick l (at_ + 1) 4).toNat (at_ + 2) []).1⟩])
def mNames : List ByteArray := [⟨#[97]⟩, ⟨#[98]⟩, ⟨#[99]⟩, ⟨#[100]⟩, ⟨#[101]⟩]
def mTexts : List ByteArray := [⟨#[120]⟩, ⟨#[121]⟩, ⟨#[122]⟩, ⟨#[119]⟩]
def mTok (s : ByteArray) : S61 := ⟨⟨#[]⟩, ⟨5, s, [], 0, 0, []⟩⟩
def regletlaw13_Made.f (k : Nat) (l : List Int) : Option (List ByteArray × List S61 × Int × Int × List S30) :=
  if l.all (fun x => decide (0 ≤ x ∧ x ≤ 255)) = true then some (mNames.take (1 + mPick l 0 5).toNat, (mTexts.map mTok).take (1 + mPick l 1 4).toNat, 0, 0, mProds l (1 + mPick l 0 5) (1 + mPick l 1 4) (1 + mPick l 2 10).toNat 3 []) else none
structure MadeI (w : World) (A0 : Option Addr) (n0 c0 : Nat) (at_ : Nat) (vn vt vp : Value) (W : World) : Prop where
  bel : Below w.heap.size w W
  l : W.heap[w.heap.size]? = some (.cells #[.slice A0 n0 c0] 32 (0, 0))
  r : W.heap[w.heap.size + 1]? = some (.cells #[.slice none 0 0, .slice none 0 0, .int .i64 0, .int .i64 0, .slice none 0 0] 26 (0, 0))
  s : W.heap[w.heap.size + 2]? = some (.cells #[vn, vt, .int .i64 0, .int .i64 0, vp] 26 (0, 0))
  a : W.heap[w.heap.size + 3]? = some (.cells #[.int .i64 (at_ : Int)] 3 (0, 0))
theorem MadeI.pick {w W W' : World} {A0 : Option Addr} {n0 c0 at_ : Nat} {vn vt vp : Value} (h : MadeI w A0 n0 c0 at_ vn vt vp W) (hk : Kept W W' (fun k => k = w.heap.size + 3)) (ha : W'.heap[w.heap.size + 3]? = some (.cells #[.int .i64 ((at_ + 1 : Nat) : Int)] 3 (0, 0))) (hb : Below (w.heap.size + 3) W W') : MadeI w A0 n0 c0 (at_ + 1) vn vt vp W' :=
  ⟨h.bel.trans (hb.mono (by omega)), blk_kept h.l hk (by simp), blk_kept h.r hk (by simp), blk_kept h.s hk (by simp), ha⟩
theorem MadeI.calls {w W : World} {A0 : Option Addr} {l : List Int} {c0 at_ : Nat} {vn vt vp : Value} (h : MadeI w A0 l.length c0 at_ vn vt vp W) (hr : Kd.C (Kd.int .u8) w A0 l.length l) (n : Int) (hn : n ≠ 0) (hat : at_ < 1000000) (hu : ∀ x ∈ l, 0 ≤ x ∧ x ≤ 255) :
    Calls Try.prog 21 #[.int .i64 n, .pointer (some ⟨w.heap.size + 3, 0, none⟩), .pointer (some ⟨w.heap.size, 0, none⟩)] W fun e w' => e = .returned (.int .i64 (mPick l at_ n)) ∧ Aside0 (MadeI w A0 l.length c0 (at_ + 1) vn vt vp w') ∧ Aside0 (Kept W w' (fun k => k = w.heap.size + 3)) := by
 refine (pick_any l A0 c0 at_ n w.heap.size (w.heap.size + 3) W (by omega) ((blk_cell h.l 0).trans rfl) h.a (fun W' hk => ?_) hn hat hu).mono ?_
 · refine Kd.C_kept_came (Kd.heap_int _) hr h.bel (S := fun k => k = w.heap.size + 3) (fun k hk => by omega) W' hk
 · rintro e w' ⟨rfl, hk, ha, hb⟩
   exact ⟨rfl, ⟨h.pick hk.out ha.out hb.out⟩, hk⟩
theorem miStr : (Try.prog.info? 9).map (fun i => (i.zero, i.size, i.bytes)) = some (some (.string ⟨#[]⟩), 1, 16) := by kernel_rfl
theorem miSym : (Try.prog.info? 53).map (fun i => (i.zero, i.size, i.bytes)) = some (some (.agg #[.bool false, .int .i64 0]), 2, 16) := by kernel_rfl
theorem miTok : (Try.prog.info? 61).map (fun i => (i.zero, i.size, i.bytes)) = some (some (.agg #[.string ⟨#[]⟩, .int .i64 0, .string ⟨#[]⟩, .slice none 0 0, .int .i64 0, .int .i64 0, .slice none 0 0]), 7, 104) := by kernel_rfl
theorem miProd : (Try.prog.info? 30).map (fun i => (i.zero, i.size, i.bytes)) = some (some (.agg #[.int .i64 0, .slice none 0 0]), 2, 32) := by kernel_rfl
section
variable {w W W' : World} {A0 : Option Addr} {n0 c0 at_ : Nat} {vn vt vp : Value}
theorem MadeI.below (h : MadeI w A0 n0 c0 at_ vn vt vp W) (hb : Below W.heap.size W W') : MadeI w A0 n0 c0 at_ vn vt vp W' :=
  ⟨h.bel.trans (hb.mono h.bel.size), (hb.block _ (blk_lt h.l)).trans h.l, (hb.block _ (blk_lt h.r)).trans h.r, (hb.block _ (blk_lt h.s)).trans h.s, (hb.block _ (blk_lt h.a)).trans h.a⟩
theorem MadeI.below4 (h : MadeI w A0 n0 c0 at_ vn vt vp W) (hb : Below (w.heap.size + 4) W W') : MadeI w A0 n0 c0 at_ vn vt vp W' :=
  ⟨h.bel.trans (hb.mono (by omega)), (hb.block _ (by omega)).trans h.l, (hb.block _ (by omega)).trans h.r, (hb.block _ (by omega)).trans h.s, (hb.block _ (by omega)).trans h.a⟩
theorem MadeI.size (h : MadeI w A0 n0 c0 at_ vn vt vp W) : w.heap.size + 4 ≤ W.heap.size := blk_lt h.a
theorem MadeI.put0 (h : MadeI w A0 n0 c0 at_ vn vt vp W) (v : Value) : MadeI w A0 n0 c0 at_ v vt vp (W.setCell ⟨w.heap.size + 2, 0, none⟩ v) :=
  ⟨below_set h.bel (by simp), blk_far h.l (by simp) _, blk_far h.r (by simp) _, blk_put h.s 0 v rfl, blk_far h.a (by simp) _⟩
theorem MadeI.put1 (h : MadeI w A0 n0 c0 at_ vn vt vp W) (v : Value) : MadeI w A0 n0 c0 at_ vn v vp (W.setCell ⟨w.heap.size + 2, 1, none⟩ v) :=
  ⟨below_set h.bel (by simp), blk_far h.l (by simp) _, blk_far h.r (by simp) _, blk_put h.s 1 v rfl, blk_far h.a (by simp) _⟩
theorem MadeI.put4 (h : MadeI w A0 n0 c0 at_ vn vt vp W) (v : Value) : MadeI w A0 n0 c0 at_ vn vt v (W.setCell ⟨w.heap.size + 2, 4, none⟩ v) :=
  ⟨below_set h.bel (by simp), blk_far h.l (by simp) _, blk_far h.r (by simp) _, blk_put h.s 4 v rfl, blk_far h.a (by simp) _⟩
end
theorem set5_kept (W : World) (g : Nat) (v0 v1 v2 v3 v4 : Value) : Kept W (((((W.setCell ⟨g, 0, none⟩ v0).setCell ⟨g, 1, none⟩ v1).setCell ⟨g, 2, none⟩ v2).setCell ⟨g, 3, none⟩ v3).setCell ⟨g, 4, none⟩ v4) (fun k => k = g) := by
 have h0 := Kept.setCell (Kept.refl W (fun k => k = g)) (p := ⟨g, 0, none⟩) (.inl rfl) v0
 have h1 := Kept.setCell h0 (p := ⟨g, 1, none⟩) (.inl rfl) v1
 have h2 := Kept.setCell h1 (p := ⟨g, 2, none⟩) (.inl rfl) v2
 have h3 := Kept.setCell h2 (p := ⟨g, 3, none⟩) (.inl rfl) v3
 exact Kept.setCell h3 (p := ⟨g, 4, none⟩) (.inl rfl) v4
theorem set5_below {w W : World} {g : Nat} (h : Below w.heap.size w W) (hg : w.heap.size ≤ g) (v0 v1 v2 v3 v4 : Value) : Below w.heap.size w (((((W.setCell ⟨g, 0, none⟩ v0).setCell ⟨g, 1, none⟩ v1).setCell ⟨g, 2, none⟩ v2).setCell ⟨g, 3, none⟩ v3).setCell ⟨g, 4, none⟩ v4) := by
 have h0 := below_set (j := 0) (v := v0) h hg
 have h1 := below_set (j := 1) (v := v1) h0 hg
 have h2 := below_set (j := 2) (v := v2) h1 hg
 have h3 := below_set (j := 3) (v := v3) h2 hg
 exact below_set (j := 4) (v := v4) h3 hg
theorem name_at (i : Nat) (h : i < 5) : ([Value.string ⟨#[97]⟩, Value.string ⟨#[98]⟩, Value.string ⟨#[99]⟩, Value.string ⟨#[100]⟩, Value.string ⟨#[101]⟩] : List Value)[i]? = some (.string (mNames.getD i ⟨#[]⟩)) := by
 match i, h with
 | 0, _ => rfl
 | 1, _ => rfl
 | 2, _ => rfl
 | 3, _ => rfl
 | 4, _ => rfl
theorem text_at (i : Nat) (h : i < 4) : ([Value.string ⟨#[120]⟩, Value.string ⟨#[121]⟩, Value.string ⟨#[122]⟩, Value.string ⟨#[119]⟩] : List Value)[i]? = some (.string (mTexts.getD i ⟨#[]⟩)) := by
 match i, h with
 | 0, _ => rfl
 | 1, _ => rfl
 | 2, _ => rfl
 | 3, _ => rfl
theorem take_next {α : Type} (xs : List α) (d : α) (i : Nat) (h : i < xs.length) : xs.take i ++ [xs.getD i d] = xs.take (i + 1) := by
 rw [List.take_add_one, List.getD_eq_getElem?_getD, List.getElem?_eq_getElem h]; rfl
set_option maxHeartbeats 4000000 in
set_option maxRecDepth 100000 in
theorem regletlaw13_Made.calls (k : Nat) (A0 : Option Addr) (c0 : Nat) (l0 : List Int) (r1 : List ByteArray) (r2 : List S61) (r3 r4 : Int) (r5 : List S30) (w : World) (hr0 : Kd.C (Kd.int .u8) w A0 l0.length l0) (hc0 : l0.length ≤ c0) (h : regletlaw13_Made.f k l0 = some (r1, r2, r3, r4, r5)) :
    Calls Try.prog 11 #[.slice A0 l0.length c0] w fun e w' => ∃ v0_ v1_ v2_ : Value, e = .returned (.agg #[v0_, v1_, .int .i64 r3, .int .i64 r4, v2_]) ∧ Kd.R Kd.string 9 w' w.heap.size (fun _ => True) v0_ r1 ∧ Kd.R k61 61 w' w.heap.size (fun _ => True) v1_ r2 ∧ Kd.S k30 30 w' w.heap.size (fun _ => True) v2_ r5 ∧ Below w.heap.size w w' := by
 unfold regletlaw13_Made.f at h
 split at h
 case isFalse => simp at h
 rename_i hall
 have hu : ∀ x ∈ l0, 0 ≤ x ∧ x ≤ 255 := fun x hx => of_decide_eq_true (List.all_eq_true.1 hall x hx)
 obtain ⟨h1, h2⟩ := Prod.mk.inj (Option.some.inj h)
 obtain ⟨h2, h3⟩ := Prod.mk.inj h2
 obtain ⟨h3, h4⟩ := Prod.mk.inj h3
 obtain ⟨h4, h5⟩ := Prod.mk.inj h4
 subst h1 h2 h3 h4 h5
 have HU := Aside0.mk hu
 have HR0 := Aside0.mk hr0
 clear h hall hu hr0 hc0
 clear h2 h3 h4
 have hI0 : MadeI w A0 l0.length c0 0 (.slice none 0 0) (.slice none 0 0) (.slice none 0 0) ((((w.alloc (.cells #[.slice A0 l0.length c0] 32)).alloc (.cells #[.slice none 0 0, .slice none 0 0, .int .i64 0, .int .i64 0, .slice none 0 0] 26)).alloc (.cells #[.slice none 0 0, .slice none 0 0, .int .i64 0, .int .i64 0, .slice none 0 0] 26)).alloc (.cells #[.int .i64 0] 3)) := by
  refine ⟨below_alloc (below_alloc (below_alloc (below_alloc (Below.refl _ w) _) _) _) _, ?_, ?_, ?_, ?_⟩
  · exact blk_alloc (blk_alloc (blk_alloc (heap_alloc_new w _) _) _) _
  · have h := heap_alloc_new (w.alloc (.cells #[.slice A0 l0.length c0] 32)) (.cells #[.slice none 0 0, .slice none 0 0, .int .i64 0, .int .i64 0, .slice none 0 0] 26)
    rw [World.size_alloc] at h
    exact blk_alloc (blk_alloc h _) _
  · have h := heap_alloc_new ((w.alloc (.cells #[.slice A0 l0.length c0] 32)).alloc (.cells #[.slice none 0 0, .slice none 0 0, .int .i64 0, .int .i64 0, .slice none 0 0] 26)) (.cells #[.slice none 0 0, .slice none 0 0, .int .i64 0, .int .i64 0, .slice none 0 0] 26)
    rw [World.size_alloc, World.size_alloc] at h
    exact blk_alloc h _
  · have h := heap_alloc_new (((w.alloc (.cells #[.slice A0 l0.length c0] 32)).alloc (.cells #[.slice none 0 0, .slice none 0 0, .int .i64 0, .int .i64 0, .slice none 0 0] 26)).alloc (.cells #[.slice none 0 0, .slice none 0 0, .int .i64 0, .int .i64 0, .slice none 0 0] 26)) (.cells #[.int .i64 0] 3)
    rw [World.size_alloc, World.size_alloc, World.size_alloc] at h
    exact h
 have HI0 := Aside0.mk hI0
 clear hI0
 have eg : ∀ args w, (callFunc 21 args).run Try.prog w = .ok (.enter 21 args) w := enters_of Try.func21 (by kernel_rfl) rfl
 have hp0 := mPick_lt HU.out 0 (n := 5) (by decide)
 have hp1 := mPick_lt HU.out 1 (n := 4) (by decide)
 have hp2 := mPick_lt HU.out 2 (n := 10) (by decide)
 obtain ⟨m, em, hm1, hm5⟩ : ∃ m : Nat, 1 + mPick l0 0 5 = (m : Int) ∧ 1 ≤ m ∧ m ≤ 5 := ⟨(1 + mPick l0 0 5).toNat, by omega, by omega, by omega⟩
 obtain ⟨q, eq_, hq1, hq4⟩ : ∃ q : Nat, 1 + mPick l0 1 4 = (q : Int) ∧ 1 ≤ q ∧ q ≤ 4 := ⟨(1 + mPick l0 1 4).toNat, by omega, by omega, by omega⟩
 obtain ⟨c, ec, hc1, hc10⟩ : ∃ c : Nat, 1 + mPick l0 2 10 = (c : Int) ∧ 1 ≤ c ∧ c ≤ 10 := ⟨(1 + mPick l0 2 10).toNat, by omega, by omega, by omega⟩
 simp only [em, eq_, ec, Int.toNat_natCast]
 have EM := Aside0.mk em
 have EQ := Aside0.mk eq_
 have EC := Aside0.mk ec
 clear em eq_ ec hp0 hp1 hp2
 go_enter Try.func11, Try.ntmps11
 go_upto_region 4 with fail
 simp only [Nat.add_assoc, Nat.reduceAdd]
 generalize ((((w.alloc (.cells #[.slice A0 l0.length c0] 32)).alloc (.cells #[.slice none 0 0, .slice none 0 0, .int .i64 0, .int .i64 0, .slice none 0 0] 26)).alloc (.cells #[.slice none 0 0, .slice none 0 0, .int .i64 0, .int .i64 0, .slice none 0 0] 26)).alloc (.cells #[.int .i64 0] 3)) = W0 at HI0 ⊢
 go_cut [6, 7] from 14 (fun s6 s7 wc => s6 = .int .i64 (m : Int) ∧ s7 = .int .i64 (q : Int) ∧ Aside0 (MadeI w A0 l0.length c0 2 (.slice none 0 0) (.slice none 0 0) (.slice none 0 0) wc))
 case first =>
  have P1 := Aside0.mk (HI0.out.calls HR0.out 5 (by decide) (by decide) HU.out)
  have hw1 : IntKind.i64.wrap (1 + mPick l0 0 5) = 1 + mPick l0 0 5 := by have := mPick_lt HU.out 0 (n := 5) (by decide); rw [IntKind.wrap_i64]; omega
  have hw2 : IntKind.i64.wrap (1 + mPick l0 1 4) = 1 + mPick l0 1 4 := by have := mPick_lt HU.out 1 (n := 4) (by decide); rw [IntKind.wrap_i64]; omega
  go_wp2_with (first
    | (go_at_fn 21; (with_reducible refine P1.out.mono ?_); rintro e w1 ⟨rfl, HI1, hk1⟩; have P2 := Aside0.mk (HI1.out.calls HR0.out 4 (by decide) (by decide) HU.out); clear P1)
    | (go_at_fn 21; (with_reducible refine P2.out.mono ?_); rintro e w2 ⟨rfl, HI2, hk2⟩; clear P2))
  go_meet
  case rel => exact ⟨congrArg _ EM.out, congrArg _ EQ.out, HI2⟩
 case rest =>
  obtain ⟨rfl, rfl, HI2⟩ := hcut
  obtain ⟨w2, ew2⟩ : ∃ w2 : World, w2 = wc := ⟨_, rfl⟩
  subst ew2
  clear HI0
  have M5 := Aside0.mk hm5
  have Q4 := Aside0.mk hq4
  have C10 := Aside0.mk hc10
  have M1 := Aside0.mk hm1
  have Q1 := Aside0.mk hq1
  have C1 := Aside0.mk hc1
  clear hm5 hq4 hc10 hm1 hq1 hc1
  go_upto_region 5 with fail
  iterate 7 (first | go_values | go_skip | go_guarded | go_step | go_upon | go_back | (simp only [Int.not_lt, Int.not_le] at *; go_simp))
  go_cut [8] from 14 (fun s8 wc => ∃ vn : Value, Aside0 (MadeI w A0 l0.length c0 2 vn (.slice none 0 0) (.slice none 0 0) wc) ∧ Aside0 (Kd.R Kd.string 9 wc (w.heap.size + 4) (fun k => w.heap.size + 4 ≤ k) vn (mNames.take m)))
  case first =>
   go_wp2
   go_loopg [8] m (fun kq v8 wr => ∃ (i : Nat) (vn : Value), v8 = .int .i64 i ∧ i ≤ m ∧ m - i ≤ kq ∧ Aside0 (MadeI w A0 l0.length c0 2 vn (.slice none 0 0) (.slice none 0 0) wr) ∧ Aside0 (Kd.R Kd.string 9 wr (w.heap.size + 4) (fun k => w.heap.size + 4 ≤ k) vn (mNames.take i)))
   case atStart => exact ⟨0, .slice none 0 0, rfl, by omega, by omega, HI2, ⟨Kd.R_nil _ _ _ _ _⟩⟩
   case round =>
    clear HI2
    obtain ⟨i, vn, rfl, hi, hm, HI, HN⟩ := hrel
    by_cases hlt : i < m
    · have d0 : decide (i < m) = true := decide_eq_true hlt
      have d1 : (i < m) = True := eq_true hlt
      have HLT := Aside0.mk hlt
      have HM := Aside0.mk hm
      have p0 : (0 ≤ (i : Int)) = True := eq_true (by omega)
      have p1 : ((i : Int) < 5) = True := eq_true (by have := M5.out; omega)
      have hwr : IntKind.i64.wrap ((i : Int) + 1) = (i : Int) + 1 := by rw [IntKind.wrap_i64]; have := M5.out; omega
      have H1 := Aside0.mk (HI.out.below (below_drew1 (Below.refl _ wr)))
      have H2 := Aside0.mk (H1.out.below (below_alloc (Below.refl _ wr.drew) (.cells #[.string ⟨#[97]⟩, .string ⟨#[98]⟩, .string ⟨#[99]⟩, .string ⟨#[100]⟩, .string ⟨#[101]⟩] 9)))
      obtain ⟨nm, enm⟩ : ∃ nm : ByteArray, nm = mNames.getD i ⟨#[]⟩ := ⟨_, rfl⟩
      have c8 : ([Value.string ⟨#[97]⟩, Value.string ⟨#[98]⟩, Value.string ⟨#[99]⟩, Value.string ⟨#[100]⟩, Value.string ⟨#[101]⟩] : List Value)[i]? = some (.string nm) := by rw [enm]; exact name_at i (by have := M5.out; omega)
      have ENM := Aside0.mk enm
      clear enm
      have HS2 := Aside0.mk H2.out.size
      clear hlt hm hi
      go_wp2
      refine start_ (n := 10) (S := fun w' => w'.cell? ⟨w.heap.size + 2, 0, none⟩ = some vn) (ds := [9]) #[false, false, false, false, false, false, false, false, false, false] (by kernel_rfl) rfl rfl ((blk_cell HI.out.s 0).trans rfl) (fun hHeld => ?_)
      refine pure_ (i := 0) (N := some 25) (v := ?_) (a' := ?_) #[true, false, false, false, false, false, false, false, false, false] rfl rfl (by kernel_rfl) (fun _ _ _ h => h) (Or.inl ⟨by rfl, ?_⟩) ?_ ?_
      rotate_left
      · intro w'
        go_simp
        with_reducible rfl
      rotate_left
      · simp only [Act.put, List.setIfInBounds_toArray, List.set_cons_zero, List.set_cons_succ, i64_w, i32_w]
        rfl
      refine pure_ (i := 3) (N := some 28) (v := ?_) (a' := ?_) #[true, false, false, true, false, false, false, false, false, false] rfl rfl (by kernel_rfl) (fun _ _ _ h => h) (Or.inl ⟨by rfl, ?_⟩) ?_ ?_
      rotate_left
      · intro w'
        go_simp
        with_reducible rfl
      rotate_left
      · simp only [Act.put, List.setIfInBounds_toArray, List.set_cons_zero, List.set_cons_succ, i64_w, i32_w]
        rfl
      refine take_ (i := 1) (N := some 26) (v := ?_) (a' := ?_) #[true, true, false, true, false, false, false, false, false, false] rfl rfl (by kernel_rfl) (fun _ _ _ h => h) (Or.inl ⟨by rfl, ?_⟩) hHeld ?_ ?_
      rotate_left
      · intro w' s0
        go_simp
        with_reducible rfl
      rotate_left
      · simp only [Act.put, List.setIfInBounds_toArray, List.set_cons_zero, List.set_cons_succ, i64_w, i32_w]
        rfl
      refine one_ (i := 2) (N := some 27) #[true, true, true, true, false, false, false, false, false, false] rfl rfl (by kernel_rfl) (by decide) (fun K hK => ?_)
      refine value_ (w1 := ?_) (v := ?_) (by rfl) rfl ?_ ?_
      rotate_left 2
      · go_simp
        constructor
        · rfl
        · rfl
      refine hK.out _ _ ((blk_cell H2.out.s 0).trans rfl) (fun hHeld => ?_)
      clear hK K
      refine norm_ (a' := ?_) ?_ ?_
      rotate_left
      · show Act.put _ (some 27) _ = _
        simp only [Act.put, List.setIfInBounds_toArray, List.set_cons_zero, List.set_cons_succ, i64_w, i32_w]
        rfl
      refine pure_ (i := 4) (N := some 29) (v := ?_) (a' := ?_) #[true, true, true, true, true, false, false, false, false, false] rfl rfl (by kernel_rfl) (fun _ _ _ h => h) (Or.inl ⟨by rfl, ?_⟩) ?_ ?_
      rotate_left
      · intro w'
        go_simp
        with_reducible rfl
      rotate_left
      · simp only [Act.put, List.setIfInBounds_toArray, List.set_cons_zero, List.set_cons_succ, i64_w, i32_w]
        rfl
      refine one_ (i := 5) (N := some 30) #[true, true, true, true, true, true, false, false, false, false] rfl rfl (by kernel_rfl) (by decide) (fun K hK => ?_)
      refine value_ (w1 := ?_) (v := ?_) (by rfl) rfl ?_ ?_
      rotate_left 2
      · go_simp
        constructor
        · rfl
        · rfl
      refine hK.out _ _ (hHeld) (fun hHeld => ?_)
      clear hK K
      refine norm_ (a' := ?_) ?_ ?_
      rotate_left
      · show Act.put _ (some 30) _ = _
        simp only [Act.put, List.setIfInBounds_toArray, List.set_cons_zero, List.set_cons_succ, i64_w, i32_w]
        rfl
      refine one_ (i := 6) (N := some 31) #[true, true, true, true, true, true, true, false, false, false] rfl rfl (by kernel_rfl) (by decide) (fun K hK => ?_)
      refine value_ (w1 := ?_) (v := ?_) (by rfl) rfl ?_ ?_
      rotate_left 2
      · go_simp
        constructor
        · rfl
        · rfl
      refine hK.out _ _ ((blk_cell (H2.out.below (below_alloc (Below.refl _ _) _)).s 0).trans rfl) (fun hHeld => ?_)
      clear hK K
      refine norm_ (a' := ?_) ?_ ?_
      rotate_left
      · show Act.put _ (some 31) _ = _
        simp only [Act.put, List.setIfInBounds_toArray, List.set_cons_zero, List.set_cons_succ, i64_w, i32_w]
        rfl
      refine one_ (i := 7) (N := some 32) #[true, true, true, true, true, true, true, true, false, false] rfl rfl (by kernel_rfl) (by decide) (fun K hK => ?_)
      refine Kd.R_append_step Kd.string (w0 := wr.drew.alloc (.cells #[.string ⟨#[97]⟩, .string ⟨#[98]⟩, .string ⟨#[99]⟩, .string ⟨#[100]⟩, .string ⟨#[101]⟩] 9)) (w.heap.size + 4) (by rfl) (.tmp 26) (.tmp 31) 22 9 (.string ⟨#[]⟩) 16 rfl Try.underlying22 miStr rfl (by decide) (by omega) vn (mNames.take i) nm [.string nm] (fun k => w.heap.size + 4 ≤ k) (fun _ => False) rfl (by rw [World.size_alloc]; rfl) rfl (fun _ hk => hk.elim) (fun k hk => Nat.le_trans HS2.out hk) (Kd.R_alloc (Kd.R_drew HN.out) _) (Below.refl _ _) HS2.out (by have := M5.out; have := HLT.out; have := List.length_take_le i mNames; omega) ?_
      intro v1 w1 ho hb hg hat
      obtain ⟨An, ln, cn, rfl⟩ : ∃ An ln cn, v1 = .slice An ln cn := by obtain ⟨An, cn, e⟩ := Kd.R_slice ho; exact ⟨An, _, cn, e⟩
      rw [ENM.out, take_next mNames ⟨#[]⟩ i (by have := M5.out; have := HLT.out; show i < 5; omega)] at ho
      have H3 := Aside0.mk (H2.out.below4 hb)
      have HN3 := Aside0.mk ho
      have f3 := blk_frozen H3.out.s 0
      clear ho hb hg hat
      refine hK.out _ _ ((blk_cell H3.out.s 0).trans rfl) (fun hHeld => ?_)
      clear hK K
      refine norm_ (a' := ?_) ?_ ?_
      rotate_left
      · show Act.put _ (some 32) _ = _
        simp only [Act.put, List.setIfInBounds_toArray, List.set_cons_zero, List.set_cons_succ, i64_w, i32_w]
        rfl
      refine pure_ (i := 8) (N := some 33) (v := ?_) (a' := ?_) #[true, true, true, true, true, true, true, true, true, false] rfl rfl (by kernel_rfl) (fun _ _ _ h => h) (Or.inl ⟨by rfl, ?_⟩) ?_ ?_
      rotate_left
      · intro w'
        go_simp
        with_reducible rfl
      rotate_left
      · simp only [Act.put, List.setIfInBounds_toArray, List.set_cons_zero, List.set_cons_succ, i64_w, i32_w]
        rfl
      refine last_ (i := 9) (N := none) #[true, true, true, true, true, true, true, true, true, true] rfl rfl (by kernel_rfl) (by decide) (fun K hK => ?_)
      refine skip_ (w1 := ?_) (by rfl) rfl ?_ ?_
      rotate_left
      · go_simp
        rfl
      refine hK.out _ _ ?_
      clear hK K
      refine done_ (by kernel_rfl) ?_
      go_wp2
      go_roundg (m - (i + 1))
      case measure => have := HM.out; have := HLT.out; omega
      case rel => exact ⟨i + 1, _, rfl, by have := HLT.out; omega, Nat.le_refl _, ⟨H3.out.put0 _⟩, ⟨Kd.R_kept HN3.out (Kept.setCell (Kept.refl _ (fun k => k = w.heap.size + 2)) (.inl rfl) _) (fun k hk => by omega)⟩⟩
    · obtain rfl : i = m := by omega
      have d0 : decide ((i : Int) < (i : Int)) = false := decide_eq_false (by omega)
      clear hlt
      go_wp2
      go_meet
      case rel => exact ⟨vn, HI, HN⟩
  case rest =>
   obtain ⟨vn, HI3, HN3⟩ := hcut
   obtain ⟨w3, ew3⟩ : ∃ w3 : World, w3 = wc := ⟨_, rfl⟩
   subst ew3
   clear HI2
   have HB3 := Aside0.mk HI3.out.size
   have HN3b : Aside0 (Kd.R Kd.string 9 w3 (w.heap.size + 4) (fun k => w.heap.size + 4 ≤ k ∧ k < w3.heap.size) vn (mNames.take m)) := ⟨Kd.R_mono (Kd.R_bound HN3.out) (fun k hk => ⟨hk.2.1, hk.2.2.1⟩)⟩
   clear HN3
   go_upto_region 9 with fail
   iterate 7 (first | go_values | go_skip | go_guarded | go_step | go_upon | go_back | (simp only [Int.not_lt, Int.not_le] at *; go_simp))
   go_cut [9] from 14 (fun s9 wc => ∃ vt : Value, Aside0 (MadeI w A0 l0.length c0 2 vn vt (.slice none 0 0) wc) ∧ Aside0 (Kept w3 wc (fun k => k < w.heap.size + 4 ∨ w3.heap.size ≤ k)) ∧ Aside0 (Kd.R k61 61 wc (w.heap.size + 4) (fun k => w3.heap.size ≤ k) vt ((mTexts.map mTok).take q)))
   case first =>
    go_wp2
    go_loopg [9] q (fun kq v9 wr => ∃ (i : Nat) (vt : Value), v9 = .int .i64 i ∧ i ≤ q ∧ q - i ≤ kq ∧ Aside0 (MadeI w A0 l0.length c0 2 vn vt (.slice none 0 0) wr) ∧ Aside0 (Kept w3 wr (fun k => k < w.heap.size + 4 ∨ w3.heap.size ≤ k)) ∧ Aside0 (Kd.R k61 61 wr (w.heap.size + 4) (fun k => w3.heap.size ≤ k) vt ((mTexts.map mTok).take i)))
    case atStart => exact ⟨0, .slice none 0 0, rfl, by omega, by omega, HI3, ⟨Kept.refl _ _⟩, ⟨Kd.R_nil _ _ _ _ _⟩⟩
    case round =>
     clear HI3
     obtain ⟨i, vt, rfl, hi, hm, HI, HK, HT⟩ := hrel
     by_cases hlt : i < q
     · have d0 : decide (i < q) = true := decide_eq_true hlt
       have d1 : (i < q) = True := eq_true hlt
       have HLT := Aside0.mk hlt
       have HM := Aside0.mk hm
       have p0 : (0 ≤ (i : Int)) = True := eq_true (by omega)
       have p1 : ((i : Int) < 4) = True := eq_true (by have := Q4.out; omega)
       have hwr : IntKind.i64.wrap ((i : Int) + 1) = (i : Int) + 1 := by rw [IntKind.wrap_i64]; have := Q4.out; omega
       have H1 := Aside0.mk (HI.out.below (below_drew1 (Below.refl _ wr)))
       have H2 := Aside0.mk (H1.out.below (below_alloc (Below.refl _ wr.drew) (.cells #[.string ⟨#[120]⟩, .string ⟨#[121]⟩, .string ⟨#[122]⟩, .string ⟨#[119]⟩] 9)))
       have HK2 : Aside0 (Kept w3 (wr.drew.alloc (.cells #[.string ⟨#[120]⟩, .string ⟨#[121]⟩, .string ⟨#[122]⟩, .string ⟨#[119]⟩] 9)) (fun k => k < w.heap.size + 4 ∨ w3.heap.size ≤ k)) := ⟨Kept.alloc (Kept.drew HK.out) _⟩
       obtain ⟨tx, etx⟩ : ∃ tx : ByteArray, tx = mTexts.getD i ⟨#[]⟩ := ⟨_, rfl⟩
       have c8 : ([Value.string ⟨#[120]⟩, Value.string ⟨#[121]⟩, Value.string ⟨#[122]⟩, Value.string ⟨#[119]⟩] : List Value)[i]? = some (.string tx) := by rw [etx]; exact text_at i (by have := Q4.out; omega)
       have ETX : Aside0 (mTok tx = (mTexts.map mTok).getD i (mTok ⟨#[]⟩)) := ⟨by rw [etx, List.getD_eq_getElem?_getD, List.getD_eq_getElem?_getD, List.getElem?_map, List.getElem?_eq_getElem (show i < mTexts.length by have := Q4.out; show i < 4; omega)]; rfl⟩
       have HS2 := Aside0.mk H2.out.size
       have HZ2 : Aside0 (w3.heap.size ≤ (wr.drew.alloc (.cells #[.string ⟨#[120]⟩, .string ⟨#[121]⟩, .string ⟨#[122]⟩, .string ⟨#[119]⟩] 9)).heap.size) := ⟨HK2.out.1⟩
       clear hlt hm hi etx
       go_wp2
       refine start_ (n := 12) (S := fun w' => w'.cell? ⟨w.heap.size + 2, 1, none⟩ = some vt) (ds := [11]) #[false, false, false, false, false, false, false, false, false, false, false, false] (by kernel_rfl) rfl rfl ((blk_cell HI.out.s 1).trans rfl) (fun hHeld => ?_)
       refine pure_ (i := 0) (N := some 39) (v := ?_) (a' := ?_) #[true, false, false, false, false, false, false, false, false, false, false, false] rfl rfl (by kernel_rfl) (fun _ _ _ h => h) (Or.inl ⟨by rfl, ?_⟩) ?_ ?_
       rotate_left
       · intro w'
         go_simp
         with_reducible rfl
       rotate_left
       · simp only [Act.put, List.setIfInBounds_toArray, List.set_cons_zero, List.set_cons_succ, i64_w, i32_w]
         rfl
       refine pure_ (i := 3) (N := some 42) (v := ?_) (a' := ?_) #[true, false, false, true, false, false, false, false, false, false, false, false] rfl rfl (by kernel_rfl) (fun _ _ _ h => h) (Or.inl ⟨by rfl, ?_⟩) ?_ ?_
       rotate_left
       · intro w'
         go_simp
         with_reducible rfl
       rotate_left
       · simp only [Act.put, List.setIfInBounds_toArray, List.set_cons_zero, List.set_cons_succ, i64_w, i32_w]
         rfl
       refine take_ (i := 1) (N := some 40) (v := ?_) (a' := ?_) #[true, true, false, true, false, false, false, false, false, false, false, false] rfl rfl (by kernel_rfl) (fun _ _ _ h => h) (Or.inl ⟨by rfl, ?_⟩) hHeld ?_ ?_
       rotate_left
       · intro w' s0
         go_simp
         with_reducible rfl
       rotate_left
       · simp only [Act.put, List.setIfInBounds_toArray, List.set_cons_zero, List.set_cons_succ, i64_w, i32_w]
         rfl
       refine one_ (i := 2) (N := some 41) #[true, true, true, true, false, false, false, false, false, false, false, false] rfl rfl (by kernel_rfl) (by decide) (fun K hK => ?_)
       refine value_ (w1 := ?_) (v := ?_) (by rfl) rfl ?_ ?_
       rotate_left 2
       · go_simp
         constructor
         · rfl
         · rfl
       refine hK.out _ _ ((blk_cell H2.out.s 1).trans rfl) (fun hHeld => ?_)
       clear hK K
       refine norm_ (a' := ?_) ?_ ?_
       rotate_left
       · show Act.put _ (some 41) _ = _
         simp only [Act.put, List.setIfInBounds_toArray, List.set_cons_zero, List.set_cons_succ, i64_w, i32_w]
         rfl
       refine pure_ (i := 4) (N := some 43) (v := ?_) (a' := ?_) #[true, true, true, true, true, false, false, false, false, false, false, false] rfl rfl (by kernel_rfl) (fun _ _ _ h => h) (Or.inl ⟨by rfl, ?_⟩) ?_ ?_
       rotate_left
       · intro w'
         go_simp
         with_reducible rfl
       rotate_left
       · simp only [Act.put, List.setIfInBounds_toArray, List.set_cons_zero, List.set_cons_succ, i64_w, i32_w]
         rfl
       refine one_ (i := 5) (N := some 44) #[true, true, true, true, true, true, false, false, false, false, false, false] rfl rfl (by kernel_rfl) (by decide) (fun K hK => ?_)
       refine value_ (w1 := ?_) (v := ?_) (by rfl) rfl ?_ ?_
       rotate_left 2
       · go_simp
         constructor
         · rfl
         · rfl
       refine hK.out _ _ (hHeld) (fun hHeld => ?_)
       clear hK K
       refine norm_ (a' := ?_) ?_ ?_
       rotate_left
       · show Act.put _ (some 44) _ = _
         simp only [Act.put, List.setIfInBounds_toArray, List.set_cons_zero, List.set_cons_succ, i64_w, i32_w]
         rfl
       refine pure_ (i := 6) (N := some 45) (v := ?_) (a' := ?_) #[true, true, true, true, true, true, true, false, false, false, false, false] rfl rfl (by kernel_rfl) (fun _ _ _ h => h) (Or.inl ⟨by rfl, ?_⟩) ?_ ?_
       rotate_left
       · intro w'
         go_simp
         with_reducible rfl
       rotate_left
       · simp only [Act.put, List.setIfInBounds_toArray, List.set_cons_zero, List.set_cons_succ, i64_w, i32_w]
         rfl
       refine pure_ (i := 7) (N := some 46) (v := ?_) (a' := ?_) #[true, true, true, true, true, true, true, true, false, false, false, false] rfl rfl (by kernel_rfl) (fun _ _ _ h => h) (Or.inl ⟨by rfl, ?_⟩) ?_ ?_
       rotate_left
       · intro w'
         go_simp
         with_reducible rfl
       rotate_left
       · simp only [Act.put, List.setIfInBounds_toArray, List.set_cons_zero, List.set_cons_succ, i64_w, i32_w]
         rfl
       refine one_ (i := 8) (N := some 47) #[true, true, true, true, true, true, true, true, true, false, false, false] rfl rfl (by kernel_rfl) (by decide) (fun K hK => ?_)
       refine value_ (w1 := ?_) (v := ?_) (by rfl) rfl ?_ ?_
       rotate_left 2
       · go_simp
         constructor
         · rfl
         · rfl
       refine hK.out _ _ ((blk_cell (H2.out.below (below_alloc (Below.refl _ _) _)).s 1).trans rfl) (fun hHeld => ?_)
       clear hK K
       refine norm_ (a' := ?_) ?_ ?_
       rotate_left
       · show Act.put _ (some 47) _ = _
         simp only [Act.put, List.setIfInBounds_toArray, List.set_cons_zero, List.set_cons_succ, i64_w, i32_w]
         rfl
       refine one_ (i := 9) (N := some 48) #[true, true, true, true, true, true, true, true, true, true, false, false] rfl rfl (by kernel_rfl) (by decide) (fun K hK => ?_)
       refine Kd.R_append_step k61 (w0 := wr.drew.alloc (.cells #[.string ⟨#[120]⟩, .string ⟨#[121]⟩, .string ⟨#[122]⟩, .string ⟨#[119]⟩] 9)) (w.heap.size + 4) (by rfl) (.tmp 40) (.tmp 47) 23 61 (.agg #[.string ⟨#[]⟩, .int .i64 0, .string ⟨#[]⟩, .slice none 0 0, .int .i64 0, .int .i64 0, .slice none 0 0]) 104 rfl Try.underlying23 miTok rfl (by decide) (by omega) vt ((mTexts.map mTok).take i) (mTok tx) [.string ⟨#[]⟩, .int .i64 5, .string tx, .slice none 0 0, .int .i64 0, .int .i64 0, .slice none 0 0] (fun k => w3.heap.size ≤ k) (fun _ => False) rfl (by rw [World.size_alloc]; rfl) (k61_mkM _ _ _ (mTok tx) (Kd.R_nil _ _ _ _ _) (Kd.R_nil _ _ _ _ _)) (fun _ hk => hk.elim) (fun k hk => Nat.le_trans HZ2.out hk) (Kd.R_alloc (Kd.R_drew HT.out) _) (Below.refl _ _) HS2.out (by have := Q4.out; have := HLT.out; have := List.length_take_le i (mTexts.map mTok); omega) ?_
       intro v1 w1 ho hb hg hat
       obtain ⟨An, ln, cn, rfl⟩ : ∃ An ln cn, v1 = .slice An ln cn := by obtain ⟨An, cn, e⟩ := Kd.R_slice ho; exact ⟨An, _, cn, e⟩
       rw [ETX.out, take_next (mTexts.map mTok) (mTok ⟨#[]⟩) i (by have := Q4.out; have := HLT.out; show i < 4; omega)] at ho
       have H3 := Aside0.mk (H2.out.below4 hb)
       have HK3 := Aside0.mk (Kept.of_grown hg HK2.out (fun k hk => .inl (.inr (HT.out.1 k hk))))
       have HT3 := Aside0.mk ho
       have f3 := blk_frozen H3.out.s 1
       clear ho hb hg hat
       refine hK.out _ _ ((blk_cell H3.out.s 1).trans rfl) (fun hHeld => ?_)
       clear hK K
       refine norm_ (a' := ?_) ?_ ?_
       rotate_left
       · show Act.put _ (some 48) _ = _
         simp only [Act.put, List.setIfInBounds_toArray, List.set_cons_zero, List.set_cons_succ, i64_w, i32_w]
         rfl
       refine pure_ (i := 10) (N := some 49) (v := ?_) (a' := ?_) #[true, true, true, true, true, true, true, true, true, true, true, false] rfl rfl (by kernel_rfl) (fun _ _ _ h => h) (Or.inl ⟨by rfl, ?_⟩) ?_ ?_
       rotate_left
       · intro w'
         go_simp
         with_reducible rfl
       rotate_left
       · simp only [Act.put, List.setIfInBounds_toArray, List.set_cons_zero, List.set_cons_succ, i64_w, i32_w]
         rfl
       refine last_ (i := 11) (N := none) #[true, true, true, true, true, true, true, true, true, true, true, true] rfl rfl (by kernel_rfl) (by decide) (fun K hK => ?_)
       refine skip_ (w1 := ?_) (by rfl) rfl ?_ ?_
       rotate_left
       · go_simp
         rfl
       refine hK.out _ _ ?_
       clear hK K
       refine done_ (by kernel_rfl) ?_
       go_wp2
       go_roundg (q - (i + 1))
       case measure => have := HM.out; have := HLT.out; omega
       case rel => exact ⟨i + 1, _, rfl, by have := HLT.out; omega, Nat.le_refl _, ⟨H3.out.put1 _⟩, ⟨Kept.setCell HK3.out (.inl (.inl (by simp))) _⟩, ⟨Kd.R_kept HT3.out (Kept.setCell (Kept.refl _ (fun k => k = w.heap.size + 2)) (.inl rfl) _) (fun k hk => by have := HB3.out; omega)⟩⟩
     · obtain rfl : i = q := by omega
       clear hlt
       go_wp2
       go_meet
       case rel => exact ⟨vt, HI, HK, HT⟩
   case rest =>
    obtain ⟨vt, HI4, HK4, HT4⟩ := hcut
    obtain ⟨w4, ew4⟩ : ∃ w4 : World, w4 = wc := ⟨_, rfl⟩
    subst ew4
    clear HI3
    have HN4 := Aside0.mk (Kd.R_kept HN3b.out HK4.out (fun k hk h => by omega))
    clear HN3b
    go_upto_region 13 with fail
    have P3 := Aside0.mk (HI4.out.calls HR0.out 10 (by decide) (by decide) HU.out)
    have hw3 : IntKind.i64.wrap (1 + mPick l0 2 10) = 1 + mPick l0 2 10 := by have := EC.out; have := C10.out; rw [IntKind.wrap_i64]; omega
    go_cut [10] from 14 (fun s10 wc => s10 = .int .i64 (c : Int) ∧ Aside0 (MadeI w A0 l0.length c0 3 vn vt (.slice none 0 0) wc) ∧ Aside0 (Kept w4 wc (fun k => k < w.heap.size + 4 ∨ w4.heap.size ≤ k)))
    case first =>
     go_wp2_with (first
       | (go_at_fn 21; (with_reducible refine P3.out.mono ?_); rintro e w5 ⟨rfl, HI5, HK5⟩; clear P3))
     go_meet
     case rel => exact ⟨congrArg _ EC.out, HI5, ⟨Kept.mono HK5.out (fun k hk => .inl (by omega))⟩⟩
    case rest =>
     obtain ⟨rfl, HI5, HK5⟩ := hcut
     obtain ⟨w5, ew5⟩ : ∃ w5 : World, w5 = wc := ⟨_, rfl⟩
     subst ew5
     clear P3 hw3 HI4
     have HS4 : Aside0 (w.heap.size + 4 ≤ w4.heap.size) := ⟨by have := HK4.out.1; have := HB3.out; omega⟩
     go_wp2
     go_loopg [10, 11, 12] c (fun kq v10 v11 v12 wr => ∃ (i at_ : Nat) (vp : Value) (acc : List S30), v10 = .int .i64 (i : Int) ∧ i ≤ kq ∧ Aside0 (acc.length + i = c) ∧ Aside0 (at_ + 8 * i ≤ 3 + 8 * c) ∧ Aside0 (mProds l0 m q i at_ acc = mProds l0 m q c 3 []) ∧ Aside0 (MadeI w A0 l0.length c0 at_ vn vt vp wr) ∧ Aside0 (Kept w4 wr (fun k => k < w.heap.size + 4 ∨ w4.heap.size ≤ k)) ∧ Aside0 (Kd.S k30 30 wr (w.heap.size + 4) (fun k => w4.heap.size ≤ k) vp acc))
     case atStart => exact ⟨c, 3, .slice none 0 0, [], rfl, by omega, ⟨by simp⟩, ⟨by omega⟩, ⟨rfl⟩, HI5, HK5, ⟨Kd.S_nil _ _ _ _ _⟩⟩
     case round =>
      clear HI5 HK5
      obtain ⟨i, at_, vp, acc, rfl, hi, HL, HAT, HM, HI, HK, HP⟩ := hrel
      cases i with
      | zero =>
       obtain ⟨An, ln, kn, rfl⟩ : ∃ An ln kn, vn = .slice An ln kn := by obtain ⟨An, cn, e⟩ := Kd.R_slice HN4.out; exact ⟨An, _, cn, e⟩
       obtain ⟨At, lt, kt, rfl⟩ : ∃ At lt kt, vt = .slice At lt kt := by obtain ⟨An, cn, e⟩ := Kd.R_slice HT4.out; exact ⟨An, _, cn, e⟩
       obtain ⟨Ap, lp, kp, rfl⟩ : ∃ Ap lp kp, vp = .slice Ap lp kp := by obtain ⟨An, cn, e⟩ := Kd.S_slice HP.out; exact ⟨An, _, cn, e⟩
       obtain ⟨q0, q1, q2, q3, q4⟩ : wr.cell? ⟨w.heap.size + 2, 0, none⟩ = some (.slice An ln kn) ∧ wr.cell? ⟨w.heap.size + 2, 1, none⟩ = some (.slice At lt kt) ∧ wr.cell? ⟨w.heap.size + 2, 2, none⟩ = some (.int .i64 0) ∧ wr.cell? ⟨w.heap.size + 2, 3, none⟩ = some (.int .i64 0) ∧ wr.cell? ⟨w.heap.size + 2, 4, none⟩ = some (.slice Ap lp kp) := ⟨(blk_cell HI.out.s 0).trans rfl, (blk_cell HI.out.s 1).trans rfl, (blk_cell HI.out.s 2).trans rfl, (blk_cell HI.out.s 3).trans rfl, (blk_cell HI.out.s 4).trans rfl⟩
       obtain ⟨q5, q6, q7, q8, q9⟩ : wr.cell? ⟨w.heap.size + 1, 0, none⟩ = some (.slice none 0 0) ∧ wr.cell? ⟨w.heap.size + 1, 1, none⟩ = some (.slice none 0 0) ∧ wr.cell? ⟨w.heap.size + 1, 2, none⟩ = some (.int .i64 0) ∧ wr.cell? ⟨w.heap.size + 1, 3, none⟩ = some (.int .i64 0) ∧ wr.cell? ⟨w.heap.size + 1, 4, none⟩ = some (.slice none 0 0) := ⟨(blk_cell HI.out.r 0).trans rfl, (blk_cell HI.out.r 1).trans rfl, (blk_cell HI.out.r 2).trans rfl, (blk_cell HI.out.r 3).trans rfl, (blk_cell HI.out.r 4).trans rfl⟩
       have f5 := blk_frozen HI.out.r 0
       have f6 := blk_frozen HI.out.r 1
       have f7 := blk_frozen HI.out.r 2
       have f8 := blk_frozen HI.out.r 3
       have f9 := blk_frozen HI.out.r 4
       go_wp2
       refine bodyPost_ret (results_cell_row rfl _ _ (w.heap.size + 1) 26 #[.slice An ln kn, .slice At lt kt, .int .i64 0, .int .i64 0, .slice Ap lp kp] (0, 0) _ rfl (by refine blk_put (cs := #[.slice An ln kn, .slice At lt kt, .int .i64 0, .int .i64 0, .slice none 0 0]) ?_ 4 _ rfl; refine blk_put (cs := #[.slice An ln kn, .slice At lt kt, .int .i64 0, .int .i64 0, .slice none 0 0]) ?_ 3 _ rfl; refine blk_put (cs := #[.slice An ln kn, .slice At lt kt, .int .i64 0, .int .i64 0, .slice none 0 0]) ?_ 2 _ rfl; refine blk_put (cs := #[.slice An ln kn, .slice none 0 0, .int .i64 0, .int .i64 0, .slice none 0 0]) ?_ 1 _ rfl; refine blk_put (cs := #[.slice none 0 0, .slice none 0 0, .int .i64 0, .int .i64 0, .slice none 0 0]) ?_ 0 _ rfl; exact HI.out.r) Try.underlying26 rfl (by kernel_rfl)) rfl ?_
       have hS34 : w3.heap.size ≤ w4.heap.size := HK4.out.1
       refine ⟨_, _, _, rfl, ?_, ?_, ?_, ?_⟩
       · exact Kd.R_lower (Kd.R_mono (Kd.R_kept (Kd.R_kept HN4.out HK.out (fun k hk h => by have := HS4.out; omega)) (set5_kept wr _ _ _ _ _ _) (fun k hk h => by omega)) (fun _ _ => trivial)) (by omega)
       · exact Kd.R_lower (Kd.R_mono (Kd.R_kept (Kd.R_kept (Kd.R_mono (ok' := fun k => w3.heap.size ≤ k ∧ k < w4.heap.size) (Kd.R_bound HT4.out) (fun k hk => ⟨hk.1, hk.2.2.1⟩)) HK.out (fun k hk h => by have := HB3.out; omega)) (set5_kept wr _ _ _ _ _ _) (fun k hk h => by have := HB3.out; omega)) (fun _ _ => trivial)) (by omega)
       · have hp := HM.out
         rw [mProds] at hp
         rw [← hp]
         exact Kd.S_lower (Kd.S_mono (Kd.S_kept HP.out (set5_kept wr _ _ _ _ _ _) (fun k hk h => by have := HS4.out; omega)) (fun _ _ => trivial)) (by omega)
       · exact set5_below HI.out.bel (by omega) _ _ _ _ _
      | succ i =>
       have d0 : decide (((i + 1 : Nat) : Int) > 0) = true := decide_eq_true (by omega)
       have d0b : (0 < ((i : Int) + 1)) = True := eq_true (by omega)
       have P6 := Aside0.mk (HI.out.calls HR0.out (m : Int) (by have := M1.out; omega) (by have := HAT.out; have := C10.out; omega) HU.out)
       have hpn := mPick_lt HU.out (at_ + 1) (n := 4) (by decide)
       obtain ⟨cn, ecn, hcn⟩ : ∃ cn : Nat, mPick l0 (at_ + 1) 4 = (cn : Int) ∧ cn ≤ 3 := ⟨(mPick l0 (at_ + 1) 4).toNat, by omega, by omega⟩
       have HATB : Aside0 (at_ + 8 * (i + 1) ≤ 83) := ⟨by have := HAT.out; have := C10.out; omega⟩
       have HCN := Aside0.mk hcn
       have ECN := Aside0.mk ecn
       clear hpn hcn ecn
       go_wp2_with (first
         | (go_at_fn 21; (with_reducible refine P6.out.mono ?_); rintro e w6 ⟨rfl, HI6, HK6⟩; clear P6; have HI7 := Aside0.mk (HI6.out.below (below_alloc (Below.refl _ w6) (.cells #[.int .i64 (mPick l0 at_ (m : Int)), .slice none 0 0] 30))); have P7 := Aside0.mk (HI7.out.calls HR0.out 4 (by decide) (by have := HATB.out; omega) HU.out); rw [ECN.out] at P7)
         | (go_at_fn 21; (with_reducible refine P7.out.mono ?_); rintro e w7 ⟨rfl, HI8, HK8⟩; clear P7))
       have HB8 := Aside0.mk (blk_kept (heap_alloc_new w6 (.cells #[.int .i64 (mPick l0 at_ (m : Int)), .slice none 0 0] 30)) HK8.out (fun h => by have := HI6.out.size; omega))
       have HSZ6 : Aside0 (wr.heap.size ≤ w6.heap.size ∧ w.heap.size + 4 ≤ wr.heap.size ∧ w4.heap.size ≤ wr.heap.size) := ⟨HK6.out.1, HI.out.size, HK.out.1⟩
       have HK9 : Aside0 (Kept wr w7 (fun k => k < w.heap.size + 4 ∨ wr.heap.size ≤ k)) := ⟨Kept.then_ (Kept.alloc (Kept.mono HK6.out (fun k hk => .inl (by omega))) (.cells #[.int .i64 (mPick l0 at_ (m : Int)), .slice none 0 0] 30)) HK8.out (fun k hk => .inl (.inl (by omega)))⟩
       clear HI7 HI6 HK6 HK8
       have HQI := Aside0.mk hi
       have hwi : IntKind.i64.wrap (((i + 1 : Nat) : Int) - 1) = (i : Int) := by rw [IntKind.wrap_i64]; have := HL.out; have := C10.out; omega
       clear hi
       obtain ⟨wo, ewo⟩ : ∃ wo : World, wo = wr := ⟨_, rfl⟩
       subst ewo
       go_loopg [12] cn (fun kq v12 wr => ∃ (j a2 : Nat) (vr : Value) (ar : List S53), v12 = .int .i64 (j : Int) ∧ j ≤ kq ∧ Aside0 (ar.length + j = cn) ∧ Aside0 (a2 + 2 * j ≤ at_ + 2 + 2 * cn) ∧ Aside0 (mRight l0 m q j a2 ar = mRight l0 m q cn (at_ + 2) []) ∧ Aside0 (MadeI w A0 l0.length c0 a2 vn vt vp wr) ∧ Aside0 (wr.heap[w6.heap.size]? = some (.cells #[.int .i64 (mPick l0 at_ (m : Int)), vr] 30 (0, 0))) ∧ Aside0 (Kept wo wr (fun k => k < w.heap.size + 4 ∨ wo.heap.size ≤ k)) ∧ Aside0 (Kd.R k53 53 wr (w.heap.size + 4) (fun k => w6.heap.size < k) vr ar))
       case atStart => exact ⟨cn, at_ + 2, .slice none 0 0, [], rfl, by omega, ⟨by simp⟩, ⟨by omega⟩, ⟨rfl⟩, HI8, HB8, HK9, ⟨Kd.R_nil _ _ _ _ _⟩⟩
       case round =>
        clear HI8 HB8 HK9
        obtain ⟨j, a2, vr, ar, rfl, hj, HJL, HA2, HMR, HI8, HB8, HK9, HR8⟩ := hrel
        cases j with
        | zero =>
         have b0 : wr.cell? ⟨w6.heap.size, 0, none⟩ = some (.int .i64 (mPick l0 at_ (m : Int))) := (blk_cell HB8.out 0).trans rfl
         have b1 : wr.cell? ⟨w6.heap.size, 1, none⟩ = some vr := (blk_cell HB8.out 1).trans rfl
         have q4 : wr.cell? ⟨w.heap.size + 2, 4, none⟩ = some vp := (blk_cell HI8.out.s 4).trans rfl
         have HPB := Aside0.mk (Kd.S_kept (Kd.S_mono (ok' := fun k => w4.heap.size ≤ k ∧ k < wo.heap.size) (Kd.S_bound HP.out) (fun k hk => ⟨hk.1, hk.2.2.1⟩)) HK9.out (fun k hk h => by have := HS4.out; omega))
         have HKw := Aside0.mk (Kept.then_ HK.out HK9.out (fun k hk => hk.elim (fun h => .inl (.inl h)) (fun h => .inl (.inr (by have := HSZ6.out; omega)))))
         have HSi := Aside0.mk HI8.out.size
         have HSw : Aside0 (w4.heap.size ≤ wr.heap.size) := ⟨HKw.out.1⟩
         have HACC : Aside0 (acc.length ≤ 10) := ⟨by have := HL.out; have := C10.out; omega⟩
         go_wp2_with (first
           | ((with_reducible refine gate_builtin (b := .append) (xs := #[.tmp 89, .tmp 91]) rfl ?_); at_builtin; refine Kd.S_append k30 (w0 := wr) (w.heap.size + 4) rfl (.tmp 89) (.tmp 91) 24 30 (.agg #[.int .i64 0, .slice none 0 0]) 32 rfl Try.underlying24 miProd rfl (by decide) (by omega) vp acc (⟨mPick l0 at_ (m : Int), ar⟩ : S30) [.int .i64 (mPick l0 at_ (m : Int)), vr] (fun k => w4.heap.size ≤ k) (fun k => w6.heap.size < k) rfl rfl (k30_mkM _ _ _ (⟨mPick l0 at_ (m : Int), ar⟩ : S30) HR8.out) (fun k hk => ⟨by have := HSZ6.out; omega, fun e => by have := (Kd.S_R HPB.out).1 k e.symm; have := HSZ6.out; omega⟩) (fun k hk => Nat.le_trans HSw.out hk) (Kd.S_mono HPB.out (fun k hk => ⟨hk.1, by have := HSZ6.out; omega⟩)) (Below.refl _ _) HSi.out (by have := HACC.out; omega) ?_; intro v1 w10 ho hb hg hat; obtain ⟨Ap, lp, kp, rfl⟩ : ∃ An ln cn, v1 = .slice An ln cn := (by obtain ⟨An, cn, e⟩ := Kd.S_slice ho; exact ⟨An, _, cn, e⟩); have HI12 := Aside0.mk (HI8.out.below4 hb); have HK12 := Aside0.mk (Kept.of_grown hg HKw.out (fun k hk => .inl (.inr ((Kd.S_R HPB.out).1 k hk).1))); have HS12 := Aside0.mk ho; have f4 := blk_frozen HI12.out.s 4; have q4' : w10.cell? ⟨w.heap.size + 2, 4, none⟩ = some vp := (blk_cell HI12.out.s 4).trans rfl; clear ho hb hg hat q4 b0 b1))
         go_roundg i
         case measure => have := HQI.out; omega
         case rel => exact ⟨i, a2, _, acc ++ [⟨mPick l0 at_ (m : Int), ar⟩], congrArg (Value.int .i64) (by unfold wrap64; have := HACC.out; have := HL.out; have := C10.out; omega), Nat.le_refl _, ⟨by have := HL.out; simp; omega⟩, ⟨by have := HAT.out; have := HA2.out; have := HCN.out; omega⟩, ⟨by have h := HM.out; rw [mProds, ECN.out, Int.toNat_natCast, ← HMR.out, mRight] at h; exact h⟩, ⟨HI12.out.put4 _⟩, ⟨Kept.setCell HK12.out (.inl (.inl (by simp))) _⟩, ⟨Kd.S_kept HS12.out (Kept.setCell (Kept.refl _ (fun k => k = w.heap.size + 2)) (.inl rfl) _) (fun k hk h => by have := HS4.out; omega)⟩⟩
        | succ j =>
         have d2 : (0 < ((j : Int) + 1)) = True := eq_true (by omega)
         have P8 := Aside0.mk (HI8.out.calls HR0.out 2 (by decide) (by have := HATB.out; have := HA2.out; have := HCN.out; omega) HU.out)
         have HJ := Aside0.mk hj
         clear hj
         by_cases hz : mPick l0 a2 2 = 0
         · rw [hz] at P8
           go_wp2_with (first
             | (go_at_fn 21; (with_reducible refine P8.out.mono ?_); rintro e w8 ⟨rfl, HI10, HK10⟩; clear P8))
           have HZ := Aside0.mk hz
           clear hz
           have HI10d := Aside0.mk (HI10.out.below (below_drew1 (Below.refl _ w8)))
           have P9 := Aside0.mk (HI10d.out.calls HR0.out (q : Int) (by have := Q1.out; omega) (by have := HATB.out; have := HA2.out; have := HCN.out; omega) HU.out)
           obtain ⟨x, ex⟩ : ∃ x : Int, x = mPick l0 (a2 + 1) (q : Int) := ⟨_, rfl⟩
           rw [← ex] at P9
           have EX := Aside0.mk ex
           have HB10 := Aside0.mk (blk_kept HB8.out HK10.out (fun h => by have := HSZ6.out; omega))
           have HR10 := Aside0.mk (Kd.R_kept HR8.out HK10.out (fun k hk h => by have := HSZ6.out; omega))
           have HK12 := Aside0.mk (Kept.then_ HK9.out HK10.out (fun k hk => .inl (.inl (by omega))))
           have HARL : Aside0 (ar.length ≤ 3) := ⟨by have := HJL.out; have := HCN.out; omega⟩
           clear ex
           refine start_ (n := 10) (S := fun w' => w'.cell? ⟨w6.heap.size, 1, none⟩ = some vr) (ds := [9]) #[false, false, false, false, false, false, false, false, false, false] (by kernel_rfl) rfl rfl ((blk_cell HB10.out 1).trans rfl) (fun hHeld => ?_)
           refine pure_ (i := 0) (N := some 70) (v := ?_) (a' := ?_) #[true, false, false, false, false, false, false, false, false, false] rfl rfl (by kernel_rfl) (fun _ _ _ h => h) (Or.inl ⟨by rfl, ?_⟩) ?_ ?_
           rotate_left
           · intro w'
             go_simp
             with_reducible rfl
           rotate_left
           · simp only [Act.put, List.setIfInBounds_toArray, List.set_cons_zero, List.set_cons_succ, i64_w, i32_w]
             rfl
           refine pure_ (i := 2) (N := some 72) (v := ?_) (a' := ?_) #[true, false, true, false, false, false, false, false, false, false] rfl rfl (by kernel_rfl) (fun _ _ _ h => h) (Or.inl ⟨by rfl, ?_⟩) ?_ ?_
           rotate_left
           · intro w'
             go_simp
             with_reducible rfl
           rotate_left
           · simp only [Act.put, List.setIfInBounds_toArray, List.set_cons_zero, List.set_cons_succ, i64_w, i32_w]
             rfl
           refine pure_ (i := 3) (N := some 73) (v := ?_) (a' := ?_) #[true, false, true, true, false, false, false, false, false, false] rfl rfl (by kernel_rfl) (fun _ _ _ h => h) (Or.inl ⟨by rfl, ?_⟩) ?_ ?_
           rotate_left
           · intro w'
             go_simp
             with_reducible rfl
           rotate_left
           · simp only [Act.put, List.setIfInBounds_toArray, List.set_cons_zero, List.set_cons_succ, i64_w, i32_w]
             rfl
           refine take_ (i := 1) (N := some 71) (v := ?_) (a' := ?_) #[true, true, true, true, false, false, false, false, false, false] rfl rfl (by kernel_rfl) (fun _ _ _ h => h) (Or.inl ⟨by rfl, ?_⟩) hHeld ?_ ?_
           rotate_left
           · intro w' s0
             go_simp
             with_reducible rfl
           rotate_left
           · simp only [Act.put, List.setIfInBounds_toArray, List.set_cons_zero, List.set_cons_succ, i64_w, i32_w]
             rfl
           refine one_ (i := 4) (N := some 74) #[true, true, true, true, true, false, false, false, false, false] rfl rfl (by kernel_rfl) (by decide) (fun K hK => ?_)
           refine call_ 21 #[.int .i64 (q : Int), .pointer (some ⟨w.heap.size + 3, 0, none⟩), .pointer (some ⟨w.heap.size, 0, none⟩)] (by rfl) rfl (by unfold execOp; simp [resolve, Deferred.ofValue, invoke, Act.eval, eg]) ?_
           with_reducible refine P9.out.mono ?_
           rintro e w9 ⟨rfl, HI11, HK11⟩
           refine ⟨_, rfl, ?_⟩
           have HB11 := Aside0.mk (blk_kept (W := w8.drew) HB10.out HK11.out (fun h => by have := HSZ6.out; omega))
           have HR11 := Aside0.mk (Kd.R_kept (Kd.R_drew HR10.out) HK11.out (fun k hk h => by have := HSZ6.out; omega))
           have HK13 := Aside0.mk (Kept.then_ (Kept.drew HK12.out) HK11.out (fun k hk => .inl (.inl (by omega))))
           have HS11 := Aside0.mk HI11.out.size
           have HL11 : Aside0 (w6.heap.size < w9.heap.size) := ⟨blk_lt HB11.out⟩
           refine hK.out _ _ ((blk_cell HB11.out 1).trans rfl) (fun hHeld => ?_)
           clear hK K
           refine norm_ (a' := ?_) ?_ ?_
           rotate_left
           · show Act.put _ (some 74) _ = _
             simp only [Act.put, List.setIfInBounds_toArray, List.set_cons_zero, List.set_cons_succ, i64_w, i32_w]
             rfl
           refine pure_ (i := 5) (N := some 75) (v := ?_) (a' := ?_) #[true, true, true, true, true, true, false, false, false, false] rfl rfl (by kernel_rfl) (fun _ _ _ h => h) (Or.inl ⟨by rfl, ?_⟩) ?_ ?_
           rotate_left
           · intro w'
             go_simp
             with_reducible rfl
           rotate_left
           · simp only [Act.put, List.setIfInBounds_toArray, List.set_cons_zero, List.set_cons_succ, i64_w, i32_w]
             rfl
           refine one_ (i := 6) (N := some 76) #[true, true, true, true, true, true, true, false, false, false] rfl rfl (by kernel_rfl) (by decide) (fun K hK => ?_)
           refine value_ (w1 := ?_) (v := ?_) (by rfl) rfl ?_ ?_
           rotate_left 2
           · go_simp
             constructor
             · rfl
             · rfl
           refine hK.out _ _ ((blk_cell (blk_alloc HB11.out _) 1).trans rfl) (fun hHeld => ?_)
           clear hK K
           refine norm_ (a' := ?_) ?_ ?_
           rotate_left
           · show Act.put _ (some 76) _ = _
             simp only [Act.put, List.setIfInBounds_toArray, List.set_cons_zero, List.set_cons_succ, i64_w, i32_w]
             rfl
           refine one_ (i := 7) (N := some 77) #[true, true, true, true, true, true, true, true, false, false] rfl rfl (by kernel_rfl) (by decide) (fun K hK => ?_)
           refine Kd.R_append_step k53 (w0 := w9) (w.heap.size + 4) (by rfl) (.tmp 71) (.tmp 76) 28 53 (.agg #[.bool false, .int .i64 0]) 16 rfl Try.underlying28 miSym rfl (by decide) (by omega) vr ar (⟨true, x⟩ : S53) [.bool true, .int .i64 x] (fun k => w6.heap.size < k) (fun _ => False) rfl rfl (k53_mkM _ _ _ (⟨true, x⟩ : S53)) (fun _ hk => hk.elim) (fun k hk => Nat.lt_of_lt_of_le HL11.out hk) HR11.out (Below.refl _ _) HS11.out (by have := HARL.out; omega) ?_
           intro v1 w1 ho hb hg hat
           obtain ⟨An, ln, kn, rfl⟩ : ∃ An ln cn, v1 = .slice An ln cn := by obtain ⟨An, cn, e⟩ := Kd.R_slice ho; exact ⟨An, _, cn, e⟩
           have HI12 := Aside0.mk (HI11.out.below4 hb)
           have HB12 := Aside0.mk (blk_grown HB11.out hg (fun e => Nat.lt_irrefl _ (HR11.out.1 _ e.symm)))
           have HK14 := Aside0.mk (Kept.of_grown hg HK13.out (fun k hk => .inl (.inr (by have := HR11.out.1 k hk; have := HSZ6.out; omega))))
           have HR12 := Aside0.mk ho
           have f3 := blk_frozen HB12.out 1
           clear ho hb hg hat
           refine hK.out _ _ ((blk_cell HB12.out 1).trans rfl) (fun hHeld => ?_)
           clear hK K
           refine norm_ (a' := ?_) ?_ ?_
           rotate_left
           · show Act.put _ (some 77) _ = _
             simp only [Act.put, List.setIfInBounds_toArray, List.set_cons_zero, List.set_cons_succ, i64_w, i32_w]
             rfl
           refine pure_ (i := 8) (N := some 78) (v := ?_) (a' := ?_) #[true, true, true, true, true, true, true, true, true, false] rfl rfl (by kernel_rfl) (fun _ _ _ h => h) (Or.inl ⟨by rfl, ?_⟩) ?_ ?_
           rotate_left
           · intro w'
             go_simp
             with_reducible rfl
           rotate_left
           · simp only [Act.put, List.setIfInBounds_toArray, List.set_cons_zero, List.set_cons_succ, i64_w, i32_w]
             rfl
           refine last_ (i := 9) (N := none) #[true, true, true, true, true, true, true, true, true, true] rfl rfl (by kernel_rfl) (by decide) (fun K hK => ?_)
           refine skip_ (w1 := ?_) (by rfl) rfl ?_ ?_
           rotate_left
           · go_simp
             rfl
           refine hK.out _ _ ?_
           clear hK K
           refine done_ (by kernel_rfl) ?_
           go_wp2
           go_roundg j
           case measure => have := HJ.out; omega
           case rel => exact ⟨j, a2 + 2, _, ar ++ [⟨true, x⟩], congrArg (Value.int .i64) (by unfold wrap64; have := HJL.out; have := HCN.out; omega), Nat.le_refl _, ⟨by have := HJL.out; simp; omega⟩, ⟨by have := HA2.out; omega⟩, ⟨by have h := HMR.out; rw [mRight, if_pos HZ.out, ← EX.out] at h; exact h⟩, ⟨HI12.out.below4 ((Below.refl _ _).setCell (show w.heap.size + 4 ≤ w6.heap.size by have := HSZ6.out; omega) _)⟩, ⟨blk_put HB12.out 1 _ rfl⟩, ⟨Kept.setCell HK14.out (.inl (.inr (show wo.heap.size ≤ w6.heap.size from HSZ6.out.1))) _⟩, ⟨Kd.R_kept HR12.out (Kept.setCell (Kept.refl _ (fun k => k = w6.heap.size)) (.inl rfl) _) (fun k hk h => by omega)⟩⟩
         · have hzd : (mPick l0 a2 2 = 0) = False := eq_false hz
           go_wp2_with (first
             | (go_at_fn 21; (with_reducible refine P8.out.mono ?_); rintro e w8 ⟨rfl, HI10, HK10⟩; clear P8))
           have HZ := Aside0.mk hz
           clear hz
           have HI10d := Aside0.mk (HI10.out.below (below_drew1 (Below.refl _ w8)))
           have P9 := Aside0.mk (HI10d.out.calls HR0.out (m : Int) (by have := M1.out; omega) (by have := HATB.out; have := HA2.out; have := HCN.out; omega) HU.out)
           obtain ⟨x, ex⟩ : ∃ x : Int, x = mPick l0 (a2 + 1) (m : Int) := ⟨_, rfl⟩
           rw [← ex] at P9
           have EX := Aside0.mk ex
           have HB10 := Aside0.mk (blk_kept HB8.out HK10.out (fun h => by have := HSZ6.out; omega))
           have HR10 := Aside0.mk (Kd.R_kept HR8.out HK10.out (fun k hk h => by have := HSZ6.out; omega))
           have HK12 := Aside0.mk (Kept.then_ HK9.out HK10.out (fun k hk => .inl (.inl (by omega))))
           have HARL : Aside0 (ar.length ≤ 3) := ⟨by have := HJL.out; have := HCN.out; omega⟩
           clear ex
           refine start_ (n := 10) (S := fun w' => w'.cell? ⟨w6.heap.size, 1, none⟩ = some vr) (ds := [9]) #[false, false, false, false, false, false, false, false, false, false] (by kernel_rfl) rfl rfl ((blk_cell HB10.out 1).trans rfl) (fun hHeld => ?_)
           refine pure_ (i := 0) (N := some 79) (v := ?_) (a' := ?_) #[true, false, false, false, false, false, false, false, false, false] rfl rfl (by kernel_rfl) (fun _ _ _ h => h) (Or.inl ⟨by rfl, ?_⟩) ?_ ?_
           rotate_left
           · intro w'
             go_simp
             with_reducible rfl
           rotate_left
           · simp only [Act.put, List.setIfInBounds_toArray, List.set_cons_zero, List.set_cons_succ, i64_w, i32_w]
             rfl
           refine pure_ (i := 2) (N := some 81) (v := ?_) (a' := ?_) #[true, false, true, false, false, false, false, false, false, false] rfl rfl (by kernel_rfl) (fun _ _ _ h => h) (Or.inl ⟨by rfl, ?_⟩) ?_ ?_
           rotate_left
           · intro w'
             go_simp
             with_reducible rfl
           rotate_left
           · simp only [Act.put, List.setIfInBounds_toArray, List.set_cons_zero, List.set_cons_succ, i64_w, i32_w]
             rfl
           refine pure_ (i := 3) (N := some 82) (v := ?_) (a' := ?_) #[true, false, true, true, false, false, false, false, false, false] rfl rfl (by kernel_rfl) (fun _ _ _ h => h) (Or.inl ⟨by rfl, ?_⟩) ?_ ?_
           rotate_left
           · intro w'
             go_simp
             with_reducible rfl
           rotate_left
           · simp only [Act.put, List.setIfInBounds_toArray, List.set_cons_zero, List.set_cons_succ, i64_w, i32_w]
             rfl
           refine take_ (i := 1) (N := some 80) (v := ?_) (a' := ?_) #[true, true, true, true, false, false, false, false, false, false] rfl rfl (by kernel_rfl) (fun _ _ _ h => h) (Or.inl ⟨by rfl, ?_⟩) hHeld ?_ ?_
           rotate_left
           · intro w' s0
             go_simp
             with_reducible rfl
           rotate_left
           · simp only [Act.put, List.setIfInBounds_toArray, List.set_cons_zero, List.set_cons_succ, i64_w, i32_w]
             rfl
           refine one_ (i := 4) (N := some 83) #[true, true, true, true, true, false, false, false, false, false] rfl rfl (by kernel_rfl) (by decide) (fun K hK => ?_)
           refine call_ 21 #[.int .i64 (m : Int), .pointer (some ⟨w.heap.size + 3, 0, none⟩), .pointer (some ⟨w.heap.size, 0, none⟩)] (by rfl) rfl (by unfold execOp; simp [resolve, Deferred.ofValue, invoke, Act.eval, eg]) ?_
           with_reducible refine P9.out.mono ?_
           rintro e w9 ⟨rfl, HI11, HK11⟩
           refine ⟨_, rfl, ?_⟩
           have HB11 := Aside0.mk (blk_kept (W := w8.drew) HB10.out HK11.out (fun h => by have := HSZ6.out; omega))
           have HR11 := Aside0.mk (Kd.R_kept (Kd.R_drew HR10.out) HK11.out (fun k hk h => by have := HSZ6.out; omega))
           have HK13 := Aside0.mk (Kept.then_ (Kept.drew HK12.out) HK11.out (fun k hk => .inl (.inl (by omega))))
           have HS11 := Aside0.mk HI11.out.size
           have HL11 : Aside0 (w6.heap.size < w9.heap.size) := ⟨blk_lt HB11.out⟩
           refine hK.out _ _ ((blk_cell HB11.out 1).trans rfl) (fun hHeld => ?_)
           clear hK K
           refine norm_ (a' := ?_) ?_ ?_
           rotate_left
           · show Act.put _ (some 83) _ = _
             simp only [Act.put, List.setIfInBounds_toArray, List.set_cons_zero, List.set_cons_succ, i64_w, i32_w]
             rfl
           refine pure_ (i := 5) (N := some 84) (v := ?_) (a' := ?_) #[true, true, true, true, true, true, false, false, false, false] rfl rfl (by kernel_rfl) (fun _ _ _ h => h) (Or.inl ⟨by rfl, ?_⟩) ?_ ?_
           rotate_left
           · intro w'
             go_simp
             with_reducible rfl
           rotate_left
           · simp only [Act.put, List.setIfInBounds_toArray, List.set_cons_zero, List.set_cons_succ, i64_w, i32_w]
             rfl
           refine one_ (i := 6) (N := some 85) #[true, true, true, true, true, true, true, false, false, false] rfl rfl (by kernel_rfl) (by decide) (fun K hK => ?_)
           refine value_ (w1 := ?_) (v := ?_) (by rfl) rfl ?_ ?_
           rotate_left 2
           · go_simp
             constructor
             · rfl
             · rfl
           refine hK.out _ _ ((blk_cell (blk_alloc HB11.out _) 1).trans rfl) (fun hHeld => ?_)
           clear hK K
           refine norm_ (a' := ?_) ?_ ?_
           rotate_left
           · show Act.put _ (some 85) _ = _
             simp only [Act.put, List.setIfInBounds_toArray, List.set_cons_zero, List.set_cons_succ, i64_w, i32_w]
             rfl
           refine one_ (i := 7) (N := some 86) #[true, true, true, true, true, true, true, true, false, false] rfl rfl (by kernel_rfl) (by decide) (fun K hK => ?_)
           refine Kd.R_append_step k53 (w0 := w9) (w.heap.size + 4) (by rfl) (.tmp 80) (.tmp 85) 28 53 (.agg #[.bool false, .int .i64 0]) 16 rfl Try.underlying28 miSym rfl (by decide) (by omega) vr ar (⟨false, x⟩ : S53) [.bool false, .int .i64 x] (fun k => w6.heap.size < k) (fun _ => False) rfl rfl (k53_mkM _ _ _ (⟨false, x⟩ : S53)) (fun _ hk => hk.elim) (fun k hk => Nat.lt_of_lt_of_le HL11.out hk) HR11.out (Below.refl _ _) HS11.out (by have := HARL.out; omega) ?_
           intro v1 w1 ho hb hg hat
           obtain ⟨An, ln, kn, rfl⟩ : ∃ An ln cn, v1 = .slice An ln cn := by obtain ⟨An, cn, e⟩ := Kd.R_slice ho; exact ⟨An, _, cn, e⟩
           have HI12 := Aside0.mk (HI11.out.below4 hb)
           have HB12 := Aside0.mk (blk_grown HB11.out hg (fun e => Nat.lt_irrefl _ (HR11.out.1 _ e.symm)))
           have HK14 := Aside0.mk (Kept.of_grown hg HK13.out (fun k hk => .inl (.inr (by have := HR11.out.1 k hk; have := HSZ6.out; omega))))
           have HR12 := Aside0.mk ho
           have f3 := blk_frozen HB12.out 1
           clear ho hb hg hat
           refine hK.out _ _ ((blk_cell HB12.out 1).trans rfl) (fun hHeld => ?_)
           clear hK K
           refine norm_ (a' := ?_) ?_ ?_
           rotate_left
           · show Act.put _ (some 86) _ = _
             simp only [Act.put, List.setIfInBounds_toArray, List.set_cons_zero, List.set_cons_succ, i64_w, i32_w]
             rfl
           refine pure_ (i := 8) (N := some 87) (v := ?_) (a' := ?_) #[true, true, true, true, true, true, true, true, true, false] rfl rfl (by kernel_rfl) (fun _ _ _ h => h) (Or.inl ⟨by rfl, ?_⟩) ?_ ?_
           rotate_left
           · intro w'
             go_simp
             with_reducible rfl
           rotate_left
           · simp only [Act.put, List.setIfInBounds_toArray, List.set_cons_zero, List.set_cons_succ, i64_w, i32_w]
             rfl
           refine last_ (i := 9) (N := none) #[true, true, true, true, true, true, true, true, true, true] rfl rfl (by kernel_rfl) (by decide) (fun K hK => ?_)
           refine skip_ (w1 := ?_) (by rfl) rfl ?_ ?_
           rotate_left
           · go_simp
             rfl
           refine hK.out _ _ ?_
           clear hK K
           refine done_ (by kernel_rfl) ?_
           go_wp2
           go_roundg j
           case measure => have := HJ.out; omega
           case rel => exact ⟨j, a2 + 2, _, ar ++ [⟨false, x⟩], congrArg (Value.int .i64) (by unfold wrap64; have := HJL.out; have := HCN.out; omega), Nat.le_refl _, ⟨by have := HJL.out; simp; omega⟩, ⟨by have := HA2.out; omega⟩, ⟨by have h := HMR.out; rw [mRight, if_neg HZ.out, ← EX.out] at h; exact h⟩, ⟨HI12.out.below4 ((Below.refl _ _).setCell (show w.heap.size + 4 ≤ w6.heap.size by have := HSZ6.out; omega) _)⟩, ⟨blk_put HB12.out 1 _ rfl⟩, ⟨Kept.setCell HK14.out (.inl (.inr (show wo.heap.size ≤ w6.heap.size from HSZ6.out.1))) _⟩, ⟨Kd.R_kept HR12.out (Kept.setCell (Kept.refl _ (fun k => k = w6.heap.size)) (.inl rfl) _) (fun k hk h => by omega)⟩⟩
end Go.Proofs.Ytfdcfihcfegekaa.P
end

section
namespace Go.Proofs.Ytfdcfihcfegekaa.P
open Go.RowKit Go.Proofs.YtfdcfihcfegekaaW.PrintWords Go.Proofs.YtfdcfihcfegekaaW.PrintLast Go.Proofs.YtfdcfihcfegekaaW.PrintMore
attribute [local go_sem] max2_int min2_int max_two min_two max_three min_three max_four min_four   -- for this text's walks alone
set_option linter.unusedVariables false
set_option linter.unusedSimpArgs false
mutual
def regletlaw14_Clear.l0 : Nat → Int → List ByteArray → List (S61) → Int → Int → List (S30) → Option (List ByteArray × (List (S61)) × Int × Int × (List (S30)))
  | 0, _, _, _, _, _, _ => none
  | k + 1, x4, x374000, x374001, x374002, x374003, x374004 => if x4 < (x374004.length : Int) then (if x374001.length < 1353245080339 then (regletlaw14_Clear.l1 k x4 ([] : List (S53)) 0 x374000 (x374001 ++ [(⟨(⟨#[]⟩ : ByteArray), (⟨6, (⟨#[]⟩ : ByteArray), (([wrap64 (97 + x4)] : List Int)), 0, 0, ([] : List (S59))⟩ : S59)⟩ : S61)]) x374002 x374003 x374004) else (none)) else (regletlaw14_Clear.l2 k 0 x374000 x374001 x374002 x374003 x374004)
def regletlaw14_Clear.l1 : Nat → Int → List (S53) → Int → List ByteArray → List (S61) → Int → Int → List (S30) → Option (List ByteArray × (List (S61)) × Int × Int × (List (S30)))
  | 0, _, _, _, _, _, _, _, _ => none
  | k + 1, x4, x5, x6, x374000, x374001, x374002, x374003, x374004 => if 0 ≤ x4 then (if x4 < (x374004.length : Int) then (if x6 < (((rd_T30 x374004 x4).f1).length : Int) then (if 0 ≤ x6 then (if (rd_T53 ((rd_T30 x374004 x4).f1) x6).f0 = true then (if (x374004.length : Int) = 0 then (none) else (if x5.length < 8796093022208 then (regletlaw14_Clear.l1 k x4 (x5 ++ [(⟨(rd_T53 ((rd_T30 x374004 x4).f1) x6).f0, Int.tmod ((rd_T53 ((rd_T30 x374004 x4).f1) x6).f1) (x374004.length : Int)⟩ : S53)]) (wrap64 (x6 + 1)) x374000 x374001 x374002 x374003 x374004) else (none))) else (if x5.length < 8796093022208 then (regletlaw14_Clear.l1 k x4 (x5 ++ [(⟨(rd_T53 ((rd_T30 x374004 x4).f1) x6).f0, (rd_T53 ((rd_T30 x374004 x4).f1) x6).f1⟩ : S53)]) (wrap64 (x6 + 1)) x374000 x374001 x374002 x374003 x374004) else (none))) else (none)) else (if (x5.length : Int) > 0 then (if 0 < (x5.length : Int) then (regletlaw14_Clear.l0 k (wrap64 (x4 + 1)) x374000 x374001 x374002 x374003 (x374004.set (x4 : Int).toNat (⟨(rd_T30 x374004 x4).f0, (x5.set (0 : Int).toNat (⟨true, x4⟩ : S53))⟩ : S30))) else (none)) else (regletlaw14_Clear.l0 k (wrap64 (x4 + 1)) x374000 x374001 x374002 x374003 (x374004.set (x4 : Int).toNat (⟨(rd_T30 x374004 x4).f0, x5⟩ : S30))))) else (none)) else (none)
def regletlaw14_Clear.l2 : Nat → Int → List ByteArray → List (S61) → Int → Int → List (S30) → Option (List ByteArray × (List (S61)) × Int × Int × (List (S30)))
  | 0, _, _, _, _, _, _ => none
  | k + 1, x8, x374000, x374001, x374002, x374003, x374004 => if x8 < (x374004.length : Int) then (regletlaw14_Clear.l3 k x8 0 x374000 x374001 x374002 x374003 x374004) else (some (x374000, x374001, x374002, x374003, x374004))
def regletlaw14_Clear.l3 : Nat → Int → Int → List ByteArray → List (S61) → Int → Int → List (S30) → Option (List ByteArray × (List (S61)) × Int × Int × (List (S30)))
  | 0, _, _, _, _, _, _, _ => none
  | k + 1, x8, x9, x374000, x374001, x374002, x374003, x374004 => if 0 ≤ x8 then (if x8 < (x374004.length : Int) then (if x9 < (((rd_T30 x374004 x8).f1).length : Int) then (if 0 ≤ x9 then (if (rd_T53 ((rd_T30 x374004 x8).f1) x9).f0 = true then (if (x374001.length : Int) = 0 then (none) else (regletlaw14_Clear.l3 k x8 (wrap64 (x9 + 1)) x374000 x374001 x374002 x374003 (x374004.set (x8 : Int).toNat (⟨(rd_T30 x374004 x8).f0, (((rd_T30 x374004 x8).f1).set (x9 : Int).toNat (⟨(rd_T53 ((rd_T30 x374004 x8).f1) x9).f0, Int.tmod ((rd_T53 ((rd_T30 x374004 x8).f1) x9).f1) (x374001.length : Int)⟩ : S53))⟩ : S30)))) else (regletlaw14_Clear.l3 k x8 (wrap64 (x9 + 1)) x374000 x374001 x374002 x374003 x374004)) else (none)) else (regletlaw14_Clear.l2 k (wrap64 (x8 + 1)) x374000 x374001 x374002 x374003 x374004)) else (none)) else (none)
end
def regletlaw14_Clear.f (k : Nat) (l0 : List Int) : Option (List ByteArray × (List (S61)) × Int × Int × (List (S30))) := (regletlaw13_Made.f k l0).bind fun bt362 => (regletlaw14_Clear.l0 k 0 bt362.1 ([] : List (S61)) bt362.2.2.1 bt362.2.2.2.1 bt362.2.2.2.2)
def regletlaw14_Clear.T25 : Bool × List (List Nat × List Nat) := (true, [([], []), ([0], [0]), ([], []), ([1, 2], [1, 2]), ([3], [3]), ([4], [4]), ([], []), ([], []), ([7], [7]), ([], []), ([8, 9], [8, 9]), ([10], [10]), ([11], [11]), ([], []), ([12, 13], [12, 13]), ([14], [14]), ([15], [15]), ([], []), ([17], [17]), ([18], [18]), ([16, 19], [16, 19]), ([5, 6, 0, 1, 2, 3, 4, 5, 6, 7, 8, 9, 10, 11, 12, 13, 14, 15, 16, 17, 18, 19, 20], [5, 6]), ([21, 0, 1, 2, 3, 4, 5, 6, 7, 8, 9, 10, 11, 12, 13, 14, 15, 16, 17, 18, 19, 20], [21]), ([22, 20, 0, 1, 2, 3, 4, 5, 6, 7, 8, 9, 10, 11, 12, 13, 14, 15, 16, 17, 18, 19, 20], [20, 22])])
def regletlaw14_Clear.B25 : List Nat := [0, 1, 0, 7, 15, 31, 0, 0, 128, 0, 896, 1920, 3968, 0, 16256, 32640, 65408, 0, 131072, 393216, 1048448, 2097151, 4194303, 8388607]
theorem regletlaw14_Clear.tab25 : rtab .any (opsOf Try.f12 25) = regletlaw14_Clear.T25 := by kernel_rfl
theorem regletlaw14_Clear.bits25 : waitsOk regletlaw14_Clear.T25.2 regletlaw14_Clear.B25 = true := by kernel_rfl
set_option maxHeartbeats 8000000 in
set_option maxRecDepth 100000 in
theorem regletlaw14_Clear.calls (k : Nat) (A0 : Option Addr) (c0 : Nat) (l0 : List Int) (r1 : List ByteArray) (r2 : List (S61)) (r3 : Int) (r4 : Int) (r5 : List (S30)) (w : World) (hr0 : Kd.C (Kd.int .u8) w A0 l0.length l0) (hc0 : l0.length ≤ c0) (h : regletlaw14_Clear.f k l0 = some (r1, r2, r3, r4, r5)) :
    Calls Try.prog 12 #[.slice A0 l0.length c0] w fun e w' => ∃ v0_ v1_ v4_ : Value, e = .returned (.agg #[v0_, v1_, .int .i64 r3, .int .i64 r4, v4_]) ∧ Kd.R Kd.string 9 w' w.heap.size (fun _ => True) v0_ r1 ∧ Kd.R k61 61 w' w.heap.size (fun _ => True) v1_ r2 ∧ Kd.S k30 30 w' w.heap.size (fun _ => True) v4_ r5 ∧ Below w.heap.size w w' := by
 have hu26 := Try.underlying26
 have hu59 := Try.underlying59
 have hu61 := Try.underlying61
 have hu53 := Try.underlying53
 have HR0 := Aside0.mk hr0
 have HC0 := Aside0.mk hc0
 clear hr0 hc0
 have HB := Aside0.mk (Below.refl w.heap.size w)
 have H : ((regletlaw13_Made.f k l0).bind fun bt362 => (regletlaw14_Clear.l0 k 0 bt362.1 ([] : List (S61)) bt362.2.2.1 bt362.2.2.2.1 bt362.2.2.2.2)) = some (r1, r2, r3, r4, r5) := h
 clear h
 replace H := Option.bind_eq_some_iff.mp H
 obtain ⟨⟨t362, t365, t368, t369, t370⟩, A20, H⟩ := H
 replace H : (regletlaw14_Clear.l0 k 0 t362 ([] : List (S61)) t368 t369 t370) = some (r1, r2, r3, r4, r5) := H
 have A2 := Aside0.mk A20
 clear A20
 have H' := Aside0.mk H
 clear H
 go_enter Try.func12, Try.ntmps12
 go_wp2_with (first | ((with_reducible refine gate_dst (N := 2) rfl ?_); refine box_event ?hg (N := 2) ?hd (cs := #[.slice none 0 0, .slice none 0 0, .int .i64 0, .int .i64 0, .slice none 0 0]) (t := 26) ?hr ?_; (case hd => rfl); (case hg => rfl); (case hr => first | (go_simp; done) | (go_simp; rfl)); intro gb361 hg w3 hbox hb; have n0_ := Aside0.mk (below_step (by repeat (first | (with_reducible first | exact HB.out | apply below_alloc | apply pw_below_drewN | apply below_drew1) | exact HB.out)) hb); have n1_ := Aside0.mk (hbox); have n2_ := Aside0.mk ((by rw [hg]; exact (below_size (by repeat (first | (with_reducible first | exact HB.out | apply below_alloc | apply pw_below_drewN | apply below_drew1) | exact HB.out))) : w.heap.size ≤ gb361)); have n3_ := Aside0.mk ((by rw [hg]; exact (below_size (by repeat (first | (with_reducible first | exact HB.out | apply below_alloc | apply pw_below_drewN | apply below_drew1) | exact HB.out))) : w.heap.size ≤ gb361)); clear HB; have HB := n0_; have BK361 := n1_; have GW361 := n2_; have GE361 := n3_; clear n0_ n1_ n2_ n3_; clear hb hbox hg) | ((with_reducible refine gate_callee (f := 11) rfl ?_); refine goesL_ (some 11) rfl rfl Try.func11 (by kernel_rfl) rfl #[.slice A0 l0.length c0] rfl (by (try simp only [List.map_toArray, List.map_cons, List.map_nil]); first | done | rfl | (simp only [List.length_drop, List.length_take]; rfl)) ?_; (with_reducible refine (regletlaw13_Made.calls k _ _ l0 t362 t365 t368 t369 t370 _ ?side1 ?side2 A2.out).mono ?_); (case side1 => repeat (first | exact (Kd.C_below HR0.out HB.out) | (with_reducible refine Kd.C_alloc ?_ _) | (with_reducible refine Kd.C_drewN ?_ _) | (with_reducible refine Kd.C_drew ?_))); (case side2 => exact HC0.out); rintro e w4 ⟨v363, v366, v371, rfl, ho0, ho1, ho2, hb⟩; refine ⟨_, rfl, ?_⟩; have n0_ := Aside0.mk (Kd.R_lower ho0 (below_size (by repeat (first | (with_reducible first | exact HB.out | apply below_alloc | apply pw_below_drewN | apply below_drew1 | refine below_set ?_ GE361.out) | exact HB.out)))); have n1_ := Aside0.mk (Kd.R_lower ho1 (below_size (by repeat (first | (with_reducible first | exact HB.out | apply below_alloc | apply pw_below_drewN | apply below_drew1 | refine below_set ?_ GE361.out) | exact HB.out)))); have n2_ := Aside0.mk (Kd.S_lower ho2 (below_size (by repeat (first | (with_reducible first | exact HB.out | apply below_alloc | apply pw_below_drewN | apply below_drew1 | refine below_set ?_ GE361.out) | exact HB.out)))); have n3_ := Aside0.mk (blk_below (g := gb361) (o := .cells #[.slice none 0 0, .slice none 0 0, .int .i64 0, .int .i64 0, .slice none 0 0] 26 (0, 0)) (by (with_reducible repeat (first | refine blk_drewN ?_ _ | refine blk_drew ?_ | refine blk_alloc ?_ _)); exact BK361.out) hb); have n4_ := Aside0.mk (below_step (by repeat (first | (with_reducible first | exact HB.out | apply below_alloc | apply pw_below_drewN | apply below_drew1 | refine below_set ?_ GE361.out) | exact HB.out)) hb); clear BK361; clear HB; have HO364 := n0_; have HO367 := n1_; have HO372 := n2_; have BK361 := n3_; have HB := n4_; clear n0_ n1_ n2_ n3_ n4_; (try clear hb); (try clear hb2); (try clear hk); (try clear hi); (try clear ho0); (try clear ho1); (try clear ho2)) | ((with_reducible refine gate_dst (N := 3) rfl ?_); refine box_event ?hg (N := 3) ?hd (cs := #[.slice none 0 0, .slice none 0 0, .int .i64 0, .int .i64 0, .slice none 0 0]) (t := 26) ?hr ?_; (case hd => rfl); (case hg => rfl); (case hr => first | (go_simp; done) | (go_simp; rfl)); intro gb373 hg w5 hbox hb; have n0_ := Aside0.mk (Kd.R_below (by (with_reducible repeat (first | apply Kd.R_alloc | apply Kd.R_drewN | apply Kd.R_drew)); exact HO364.out) hb); have n1_ := Aside0.mk (Kd.R_below (by (with_reducible repeat (first | apply Kd.R_alloc | apply Kd.R_drewN | apply Kd.R_drew)); exact HO367.out) hb); have n2_ := Aside0.mk (Kd.S_below (by (with_reducible repeat (first | apply Kd.S_alloc | apply Kd.S_drewN | apply Kd.S_drew)); exact HO372.out) hb); have n3_ := Aside0.mk (blk_below (g := gb361) (o := .cells #[.slice none 0 0, .slice none 0 0, .int .i64 0, .int .i64 0, .slice none 0 0] 26 (0, 0)) (by (with_reducible repeat (first | refine blk_drewN ?_ _ | refine blk_drew ?_ | refine blk_alloc ?_ _)); exact BK361.out) hb); have n4_ := Aside0.mk (below_step (by repeat (first | (with_reducible first | exact HB.out | apply below_alloc | apply pw_below_drewN | apply below_drew1 | refine below_set ?_ GE361.out) | exact HB.out)) hb); have n5_ := Aside0.mk (hbox); have n6_ := Aside0.mk ((by rw [hg]; exact (below_size (by repeat (first | (with_reducible first | exact HB.out | apply below_alloc | apply pw_below_drewN | apply below_drew1 | refine below_set ?_ GE361.out) | exact HB.out))) : w.heap.size ≤ gb373)); have n7_ := Aside0.mk ((by rw [hg]; exact (below_size (by repeat (first | (with_reducible first | exact HB.out | apply below_alloc | apply pw_below_drewN | apply below_drew1 | refine below_set ?_ GE361.out) | exact HB.out))) : w.heap.size ≤ gb373)); have n8_ := Aside0.mk ((by rw [hg]; exact Nat.ne_of_lt (blk_lt (g := gb361) (o := .cells #[.slice none 0 0, .slice none 0 0, .int .i64 0, .int .i64 0, .slice none 0 0] 26 (0, 0)) (by (with_reducible repeat (first | refine blk_drewN ?_ _ | refine blk_drew ?_ | refine blk_alloc ?_ _)); exact BK361.out)) : gb361 ≠ gb373)); have n9_ := Aside0.mk ((by rw [hg]; exact Nat.ne_of_gt (blk_lt (g := gb361) (o := .cells #[.slice none 0 0, .slice none 0 0, .int .i64 0, .int .i64 0, .slice none 0 0] 26 (0, 0)) (by (with_reducible repeat (first | refine blk_drewN ?_ _ | refine blk_drew ?_ | refine blk_alloc ?_ _)); exact BK361.out)) : gb373 ≠ gb361)); clear HO364; clear HO367; clear HO372; clear BK361; clear HB; have HO364 := n0_; have HO367 := n1_; have HO372 := n2_; have BK361 := n3_; have HB := n4_; have BK373 := n5_; have GW373 := n6_; have GE373 := n7_; have NB361_373 := n8_; have NB373_361 := n9_; clear n0_ n1_ n2_ n3_ n4_ n5_ n6_ n7_ n8_ n9_; clear hb hbox hg; obtain ⟨Ao6, co6, eo6⟩ := Kd.R_slice HO364.out; subst eo6; have hnb7 := NB373_361.out; have hnc7 := NB361_373.out; have hcz8_0 : w5.cell? ⟨gb373, 0, none⟩ = some (.slice none 0 0) := (blk_cell BK373.out 0).trans rfl; have hcz8_1 : w5.cell? ⟨gb373, 1, none⟩ = some (.slice none 0 0) := (blk_cell BK373.out 1).trans rfl; have hcz8_2 : w5.cell? ⟨gb373, 2, none⟩ = some (.int .i64 0) := (blk_cell BK373.out 2).trans rfl; have hcz8_3 : w5.cell? ⟨gb373, 3, none⟩ = some (.int .i64 0) := (blk_cell BK373.out 3).trans rfl; have hcz8_4 : w5.cell? ⟨gb373, 4, none⟩ = some (.slice none 0 0) := (blk_cell BK373.out 4).trans rfl; have hfz8_0 := blk_frozen BK373.out 0; have hfz8_1 := blk_frozen BK373.out 1; have hfz8_2 := blk_frozen BK373.out 2; have hfz8_3 := blk_frozen BK373.out 3; have hfz8_4 := blk_frozen BK373.out 4; obtain ⟨Ao9, co9, eo9⟩ := Kd.R_slice HO367.out; subst eo9; obtain ⟨Ao10, co10, eo10⟩ := Kd.S_slice HO372.out; subst eo10))
 go_loopg [4] k (fun kq v4 w' => ∃ (x4_1 : Int) (x374001_1 : List (S61)) (x374004_1 : List (S30)) (u374001 : Value) (u374004 : Value), v4 = .int .i64 x4_1 ∧ Aside0 (regletlaw14_Clear.l0 kq x4_1 t362 x374001_1 t368 t369 x374004_1 = some (r1, r2, r3, r4, r5)) ∧ Aside0 (kq ≤ k) ∧ Aside0 (Kd.R Kd.string 9 w' w.heap.size (fun _ => True) (.slice Ao6 t362.length co6) t362) ∧ Aside0 (Kd.R k61 61 w' w.heap.size (fun _ => True) u374001 x374001_1) ∧ Aside0 (Kd.S k30 30 w' w.heap.size (fun _ => True) u374004 x374004_1) ∧ Aside0 (w'.heap[gb361]? = some (.cells #[(.slice none 0 0), (.slice none 0 0), .int .i64 0, .int .i64 0, (.slice none 0 0)] 26 (0, 0))) ∧ Aside0 (w'.heap[gb373]? = some (.cells #[(.slice Ao6 t362.length co6), u374001, .int .i64 t368, .int .i64 t369, u374004] 26 (0, 0))) ∧ Aside0 (Below w.heap.size w w'))
 case atStart => exact ⟨(0), (([] : List (S61))), (t370), (.slice none 0 0), (.slice Ao10 t370.length co10), (by first | rfl | (simp; done) | (simp [*]; done)), H', ⟨Nat.le_refl _⟩, ⟨by (with_reducible repeat (first | apply Kd.R_alloc | apply Kd.R_drewN | apply Kd.R_drew)); exact Kd.R_mono (Kd.R_far (p := ⟨gb373, 1, none⟩) (Kd.R_far (p := ⟨gb373, 4, none⟩) (Kd.R_far (p := ⟨gb373, 3, none⟩) (Kd.R_far (p := ⟨gb373, 2, none⟩) (Kd.R_far (p := ⟨gb373, 1, none⟩) (Kd.R_far (p := ⟨gb373, 0, none⟩) (Kd.R_types HO364.out BK373.out (by decide)) (fun _ hk => hk.2) (.slice Ao6 t362.length co6)) (fun _ hk => hk.2) (.slice Ao9 t365.length co9)) (fun _ hk => hk.2) (.int .i64 t368)) (fun _ hk => hk.2) (.int .i64 t369)) (fun _ hk => hk.2) (.slice Ao10 t370.length co10)) (fun _ hk => hk.2) (.slice none 0 0)) (fun _ hk => trivial)⟩, ⟨by first | exact Kd.R_nil _ _ _ _ _ | exact Kd.N_nil _ _ _ _ _ | exact Kd.V_nil _ _ _ _ _ | exact Kd.Q_nil _ _ _ _ _ | exact Kd.S_nil _ _ _ _ _⟩, ⟨by (with_reducible repeat (first | apply Kd.S_alloc | apply Kd.S_drewN | apply Kd.S_drew)); exact Kd.S_mono (Kd.S_far (p := ⟨gb373, 1, none⟩) (Kd.S_far (p := ⟨gb373, 4, none⟩) (Kd.S_far (p := ⟨gb373, 3, none⟩) (Kd.S_far (p := ⟨gb373, 2, none⟩) (Kd.S_far (p := ⟨gb373, 1, none⟩) (Kd.S_far (p := ⟨gb373, 0, none⟩) (Kd.S_types HO372.out BK373.out (by decide)) (fun _ hk => hk.2) (.slice Ao6 t362.length co6)) (fun _ hk => hk.2) (.slice Ao9 t365.length co9)) (fun _ hk => hk.2) (.int .i64 t368)) (fun _ hk => hk.2) (.int .i64 t369)) (fun _ hk => hk.2) (.slice Ao10 t370.length co10)) (fun _ hk => hk.2) (.slice none 0 0)) (fun _ hk => trivial)⟩, ⟨by (with_reducible repeat (first | refine blk_drewN ?_ _ | refine blk_drew ?_ | refine blk_alloc ?_ _)); refine blk_far ?_ NB361_373.out _; (with_reducible repeat (first | refine blk_drewN ?_ _ | refine blk_drew ?_ | refine blk_alloc ?_ _)); refine blk_far ?_ NB361_373.out _; (with_reducible repeat (first | refine blk_drewN ?_ _ | refine blk_drew ?_ | refine blk_alloc ?_ _)); refine blk_far ?_ NB361_373.out _; (with_reducible repeat (first | refine blk_drewN ?_ _ | refine blk_drew ?_ | refine blk_alloc ?_ _)); refine blk_far ?_ NB361_373.out _; (with_reducible repeat (first | refine blk_drewN ?_ _ | refine blk_drew ?_ | refine blk_alloc ?_ _)); refine blk_far ?_ NB361_373.out _; (with_reducible repeat (first | refine blk_drewN ?_ _ | refine blk_drew ?_ | refine blk_alloc ?_ _)); refine blk_far ?_ NB361_373.out _; (with_reducible repeat (first | refine blk_drewN ?_ _ | refine blk_drew ?_ | refine blk_alloc ?_ _)); exact BK361.out⟩, ⟨by (with_reducible repeat (first | refine blk_drewN ?_ _ | refine blk_drew ?_ | refine blk_alloc ?_ _)); refine blk_put (cs := #[.slice Ao6 t362.length co6, .slice Ao9 t365.length co9, .int .i64 t368, .int .i64 t369, .slice Ao10 t370.length co10]) ?_ 1 _ rfl; (with_reducible repeat (first | refine blk_drewN ?_ _ | refine blk_drew ?_ | refine blk_alloc ?_ _)); refine blk_put (cs := #[.slice Ao6 t362.length co6, .slice Ao9 t365.length co9, .int .i64 t368, .int .i64 t369, .slice none 0 0]) ?_ 4 _ rfl; (with_reducible repeat (first | refine blk_drewN ?_ _ | refine blk_drew ?_ | refine blk_alloc ?_ _)); refine blk_put (cs := #[.slice Ao6 t362.length co6, .slice Ao9 t365.length co9, .int .i64 t368, .int .i64 0, .slice none 0 0]) ?_ 3 _ rfl; (with_reducible repeat (first | refine blk_drewN ?_ _ | refine blk_drew ?_ | refine blk_alloc ?_ _)); refine blk_put (cs := #[.slice Ao6 t362.length co6, .slice Ao9 t365.length co9, .int .i64 0, .int .i64 0, .slice none 0 0]) ?_ 2 _ rfl; (with_reducible repeat (first | refine blk_drewN ?_ _ | refine blk_drew ?_ | refine blk_alloc ?_ _)); refine blk_put (cs := #[.slice Ao6 t362.length co6, .slice none 0 0, .int .i64 0, .int .i64 0, .slice none 0 0]) ?_ 1 _ rfl; (with_reducible repeat (first | refine blk_drewN ?_ _ | refine blk_drew ?_ | refine blk_alloc ?_ _)); refine blk_put (cs := #[.slice none 0 0, .slice none 0 0, .int .i64 0, .int .i64 0, .slice none 0 0]) ?_ 0 _ rfl; (with_reducible repeat (first | refine blk_drewN ?_ _ | refine blk_drew ?_ | refine blk_alloc ?_ _)); exact BK373.out⟩, ⟨by repeat (first | (with_reducible first | exact HB.out | apply below_alloc | apply pw_below_drewN | apply below_drew1 | refine below_set ?_ GE361.out | refine below_set ?_ GE373.out) | exact HB.out)⟩⟩
 case round =>
  clear H'
  (try clear c1);(try clear p2);(try clear c7);(try clear hcz8_0);(try clear hcz8_1);(try clear hcz8_2);(try clear hcz8_3);(try clear hcz8_4);(try clear hfz8_0);(try clear hfz8_1);(try clear hfz8_2);(try clear hfz8_3);(try clear hfz8_4)
  obtain ⟨x4_1, x374001_1, x374004_1, u374001, u374004, rfl, HA, HK1, HO_374000, HO_374001, HO_374004, BK361, BK373, HB⟩ := hrel
  cases gk with
  | zero => exact absurd HA.out (by simp [regletlaw14_Clear.l0])
  | succ k1 =>
   have H := HA.out
   clear HA
   simp only [regletlaw14_Clear.l0] at H
   by_cases c11 : x4_1 < (x374004_1.length : Int)
   · rw [if_pos c11] at H
     have c11b0 : decide (x4_1 < (x374004_1.length : Int)) = true := decide_eq_true c11
     clear c11
     obtain ⟨y374, hy374⟩ : ∃ y_ : List Int, y_ = (([wrap64 (97 + x4_1)] : List Int)) := ⟨_, rfl⟩
     replace H : (if x374001_1.length < 1353245080339 then (regletlaw14_Clear.l1 k1 x4_1 ([] : List (S53)) 0 t362 (x374001_1 ++ [(⟨(⟨#[]⟩ : ByteArray), (⟨6, (⟨#[]⟩ : ByteArray), y374, 0, 0, ([] : List (S59))⟩ : S59)⟩ : S61)]) t368 t369 x374004_1) else (none)) = some (r1, r2, r3, r4, r5) := by first | (rw [hy374]; with_reducible exact H) | (have H2_ := (Option.bind_some _ _).symm.trans H; rw [hy374]; with_reducible exact H2_) | (have H2_ := (Option.bind_some _ _).symm.trans H; with_reducible exact H2_) | with_reducible exact H | (rw [hy374]; exact H) | exact H
     have Ny374 := Aside0.mk hy374
     clear hy374
     by_cases c12 : x374001_1.length < 1353245080339
     rotate_left
     · rw [if_neg c12] at H
       exact absurd H (by simp)
     rw [if_pos c12] at H
     have LMc12 := Aside0.mk c12
     clear c12
     obtain ⟨y377, hy377⟩ : ∃ y_ : List (S61), y_ = (x374001_1 ++ [(⟨(⟨#[]⟩ : ByteArray), (⟨6, (⟨#[]⟩ : ByteArray), y374, 0, 0, ([] : List (S59))⟩ : S59)⟩ : S61)]) := ⟨_, rfl⟩
     replace H : (regletlaw14_Clear.l1 k1 x4_1 ([] : List (S53)) 0 t362 y377 t368 t369 x374004_1) = some (r1, r2, r3, r4, r5) := by first | (rw [hy377]; with_reducible exact H) | (have H2_ := (Option.bind_some _ _).symm.trans H; rw [hy377]; with_reducible exact H2_) | (have H2_ := (Option.bind_some _ _).symm.trans H; with_reducible exact H2_) | with_reducible exact H | (rw [hy377]; exact H) | exact H
     have Ny377 := Aside0.mk hy377
     clear hy377
     have H' := Aside0.mk H
     clear H
     have hnb13 := NB373_361.out
     have hnc13 := NB361_373.out
     have hcz14_0 : wr.cell? ⟨gb373, 0, none⟩ = some (.slice Ao6 t362.length co6) := (blk_cell BK373.out 0).trans rfl
     have hcz14_1 : wr.cell? ⟨gb373, 1, none⟩ = some (u374001) := (blk_cell BK373.out 1).trans rfl
     have hcz14_2 : wr.cell? ⟨gb373, 2, none⟩ = some (.int .i64 t368) := (blk_cell BK373.out 2).trans rfl
     have hcz14_3 : wr.cell? ⟨gb373, 3, none⟩ = some (.int .i64 t369) := (blk_cell BK373.out 3).trans rfl
     have hcz14_4 : wr.cell? ⟨gb373, 4, none⟩ = some (u374004) := (blk_cell BK373.out 4).trans rfl
     have hfz14_0 := blk_frozen BK373.out 0
     have hfz14_1 := blk_frozen BK373.out 1
     have hfz14_2 := blk_frozen BK373.out 2
     have hfz14_3 := blk_frozen BK373.out 3
     have hfz14_4 := blk_frozen BK373.out 4
     obtain ⟨Ao15, co15, eo15⟩ := Kd.S_slice HO_374004.out
     subst eo15
     go_wp2_with (first | ((with_reducible refine gate_dst (N := 24) rfl ?_); refine Kd.R_lit (Kd.int .i64) _ 3 ?hg (N := 24) ?hd (xs := ([wrap64 (97 + x4_1)] : List Int)) (inner := [.int .i64 (wrap64 (97 + x4_1))]) (ok := fun _ => True) (okp := fun _ => True) ?hr ?hp (fun _ hk => hk) trivial (Below.refl _ _) (Nat.le_refl _) (by simp) ?_; (case hd => rfl); (case hg => rfl); (case hr => first | (go_simp; done) | (go_simp; rfl)); (case hp => exact (Reps.one (show Kd.M (Kd.int .i64) _ _ _ (wrap64 (97 + x4_1)) [.int .i64 (wrap64 (97 + x4_1))] from rfl) (Reps.none _ _))); intro v375 w16 ho17 hb hg_ hnew_; clear hg_ hnew_; (first | rw [← Ny374.out] at ho17 | (simp only [Int.reduceToNat] at ho17; rw [← Ny374.out] at ho17)); have n0_ := Aside0.mk (Kd.R_below (by (with_reducible repeat (first | apply Kd.R_alloc | apply Kd.R_drewN | apply Kd.R_drew)); exact HO_374000.out) hb); have n1_ := Aside0.mk (Kd.R_elder' (by (with_reducible repeat (first | apply Kd.R_alloc | apply Kd.R_drewN | apply Kd.R_drew)); exact HO_374001.out) (Kd.R_base ho17) hb); have n2_ := Aside0.mk (Kd.S_below (by (with_reducible repeat (first | apply Kd.S_alloc | apply Kd.S_drewN | apply Kd.S_drew)); exact HO_374004.out) hb); have n3_ := Aside0.mk (Kd.R_lower ho17 (below_size (by repeat (first | (with_reducible first | exact HB.out | apply below_alloc | apply pw_below_drewN | apply below_drew1 | refine below_set ?_ GE361.out | refine below_set ?_ GE373.out) | exact HB.out)))); have n4_ := Aside0.mk (blk_below (g := gb361) (o := .cells #[.slice none 0 0, .slice none 0 0, .int .i64 0, .int .i64 0, .slice none 0 0] 26 (0, 0)) (by (with_reducible repeat (first | refine blk_drewN ?_ _ | refine blk_drew ?_ | refine blk_alloc ?_ _)); exact BK361.out) hb); have n5_ := Aside0.mk (blk_below (g := gb373) (o := .cells #[.slice Ao6 t362.length co6, u374001, .int .i64 t368, .int .i64 t369, .slice Ao15 x374004_1.length co15] 26 (0, 0)) (by (with_reducible repeat (first | refine blk_drewN ?_ _ | refine blk_drew ?_ | refine blk_alloc ?_ _)); exact BK373.out) hb); have n6_ := Aside0.mk (below_step (by repeat (first | (with_reducible first | exact HB.out | apply below_alloc | apply pw_below_drewN | apply below_drew1 | refine below_set ?_ GE361.out | refine below_set ?_ GE373.out) | exact HB.out)) hb); clear HO_374000; clear HO_374001; clear HO_374004; clear BK361; clear BK373; clear HB; have HO_374000 := n0_; have HO_374001 := n1_; have HO_374004 := n2_; have HO376 := n3_; have BK361 := n4_; have BK373 := n5_; have HB := n6_; clear n0_ n1_ n2_ n3_ n4_ n5_ n6_; clear hb ho17; obtain ⟨Ao18, co18, eo18⟩ := Kd.R_slice HO376.out; subst eo18) | ((with_reducible refine gate_builtin (b := .append) (xs := #[.tmp 21, .tmp 27]) rfl ?_); at_builtin; refine Kd.R_append k61 (w0 := w) w.heap.size rfl (.tmp 21) (.tmp 27) 23 61 (.agg #[(.string ⟨#[]⟩), (.int .i64 0), (.string ⟨#[]⟩), (.slice none 0 0), (.int .i64 0), (.int .i64 0), (.slice none 0 0)]) 104 rfl Try.underlying23 info61 rfl (by decide) (by omega) u374001 x374001_1 (⟨(⟨#[]⟩ : ByteArray), (⟨6, (⟨#[]⟩ : ByteArray), y374, 0, 0, ([] : List (S59))⟩ : S59)⟩ : S61) [.string (⟨#[]⟩ : ByteArray), .int .i64 6, .string (⟨#[]⟩ : ByteArray), .slice Ao18 y374.length co18, .int .i64 0, .int .i64 0, .slice none 0 0] (fun _ => True) (fun k_ => ((fun _ => True)) k_ ∧ some k_ ≠ (u374001 : Value).ownBlock) rfl rfl ?aP (fun _ hk => hk) ?aF ?aO ?aB ?aS ?aL ?_; (case aP => exact k61_mkM _ _ _ (⟨(⟨#[]⟩ : ByteArray), (⟨6, (⟨#[]⟩ : ByteArray), y374, 0, 0, ([] : List (S59))⟩ : S59)⟩ : S61) (Kd.R_mono (Kd.R_apart' (HO376.out) (Kd.R_typed HO_374001.out) (by decide)) (fun k_ hk => ⟨trivial, hk.2⟩)) (Kd.R_nil _ _ _ _ _)); (case aB => exact (by repeat (first | (with_reducible first | exact HB.out | apply below_alloc | apply pw_below_drewN | apply below_drew1 | refine below_set ?_ GE361.out | refine below_set ?_ GE373.out) | exact HB.out))); (case aF => exact (fun _ _ => trivial)); (case aO => exact (by (with_reducible repeat (first | apply Kd.R_alloc | apply Kd.R_drewN | apply Kd.R_drew)); exact Kd.R_mono HO_374001.out (fun _ hk => trivial))); (case aS => exact (below_size (by repeat (first | (with_reducible first | exact HB.out | apply below_alloc | apply pw_below_drewN | apply below_drew1 | refine below_set ?_ GE361.out | refine below_set ?_ GE373.out) | exact HB.out)))); (case aL => have := LMc12.out; omega); intro v378 w19 ho hb hg hat; rw [← Ny377.out] at ho; have n0_ := Aside0.mk (Kd.R_over' (by (with_reducible repeat (first | apply Kd.R_alloc | apply Kd.R_drewN | apply Kd.R_drew)); exact HO_374000.out) (Kd.R_typed (by (with_reducible repeat (first | apply Kd.R_alloc | apply Kd.R_drewN | apply Kd.R_drew)); exact HO_374001.out)) (by decide) hg); have n1_ := Aside0.mk (Kd.S_over' (by (with_reducible repeat (first | apply Kd.S_alloc | apply Kd.S_drewN | apply Kd.S_drew)); exact HO_374004.out) (Kd.R_typed (by (with_reducible repeat (first | apply Kd.R_alloc | apply Kd.R_drewN | apply Kd.R_drew)); exact HO_374001.out)) (by decide) hg); have n2_ := Aside0.mk (blk_grown (g := gb361) (o := .cells #[.slice none 0 0, .slice none 0 0, .int .i64 0, .int .i64 0, .slice none 0 0] 26 (0, 0)) (by (with_reducible repeat (first | refine blk_drewN ?_ _ | refine blk_drew ?_ | refine blk_alloc ?_ _)); exact BK361.out) hg (Kd.R_ne HO_374001.out BK361.out (by decide))); have n3_ := Aside0.mk (blk_grown (g := gb373) (o := .cells #[.slice Ao6 t362.length co6, u374001, .int .i64 t368, .int .i64 t369, .slice Ao15 x374004_1.length co15] 26 (0, 0)) (by (with_reducible repeat (first | refine blk_drewN ?_ _ | refine blk_drew ?_ | refine blk_alloc ?_ _)); exact BK373.out) hg (Kd.R_ne HO_374001.out BK373.out (by decide))); have n4_ := Aside0.mk (hb); have n5_ := Aside0.mk (ho); clear HO_374000; clear HO_374004; clear BK361; clear BK373; clear HB; clear HO_374001; clear HO376; have HO_374000 := n0_; have HO_374004 := n1_; have BK361 := n2_; have BK373 := n3_; have HB := n4_; have HO379 := n5_; clear n0_ n1_ n2_ n3_ n4_ n5_; clear ho hb hg hat; obtain ⟨Ao20, co20, eo20⟩ := Kd.R_slice HO379.out; subst eo20; have hcz21_0 : w19.cell? ⟨gb373, 0, none⟩ = some (.slice Ao6 t362.length co6) := (blk_cell BK373.out 0).trans rfl; have hcz21_1 : w19.cell? ⟨gb373, 1, none⟩ = some (u374001) := (blk_cell BK373.out 1).trans rfl; have hcz21_2 : w19.cell? ⟨gb373, 2, none⟩ = some (.int .i64 t368) := (blk_cell BK373.out 2).trans rfl; have hcz21_3 : w19.cell? ⟨gb373, 3, none⟩ = some (.int .i64 t369) := (blk_cell BK373.out 3).trans rfl; have hcz21_4 : w19.cell? ⟨gb373, 4, none⟩ = some (.slice Ao15 x374004_1.length co15) := (blk_cell BK373.out 4).trans rfl; have hfz21_0 := blk_frozen BK373.out 0; have hfz21_1 := blk_frozen BK373.out 1; have hfz21_2 := blk_frozen BK373.out 2; have hfz21_3 := blk_frozen BK373.out 3; have hfz21_4 := blk_frozen BK373.out 4))
     go_loopg [5, 6] k1 (fun kq v5 v6 w' => ∃ (x5_2 : List (S53)) (x6_2 : Int), v6 = .int .i64 x6_2 ∧ Aside0 (regletlaw14_Clear.l1 kq x4_1 x5_2 x6_2 t362 y377 t368 t369 x374004_1 = some (r1, r2, r3, r4, r5)) ∧ Aside0 (kq ≤ k1) ∧ Aside0 (Kd.R k53 53 w' w.heap.size (fun _ => True) v5 x5_2) ∧ Aside0 (Kd.R Kd.string 9 w' w.heap.size (fun _ => True) (.slice Ao6 t362.length co6) t362) ∧ Aside0 (Kd.R k61 61 w' w.heap.size (fun _ => True) (.slice Ao20 y377.length co20) y377) ∧ Aside0 (Kd.S k30 30 w' w.heap.size (fun k_ => some k_ ≠ (v5 : Value).ownBlock) (.slice Ao15 x374004_1.length co15) x374004_1) ∧ Aside0 (w'.heap[gb361]? = some (.cells #[(.slice none 0 0), (.slice none 0 0), .int .i64 0, .int .i64 0, (.slice none 0 0)] 26 (0, 0))) ∧ Aside0 (w'.heap[gb373]? = some (.cells #[(.slice Ao6 t362.length co6), (.slice Ao20 y377.length co20), .int .i64 t368, .int .i64 t369, (.slice Ao15 x374004_1.length co15)] 26 (0, 0))) ∧ Aside0 (Below w.heap.size w w'))
     case atStart => exact ⟨(([] : List (S53))), (0), (by first | rfl | (simp; done) | (simp [*]; done)), H', ⟨Nat.le_refl _⟩, ⟨by first | exact Kd.R_nil _ _ _ _ _ | exact Kd.N_nil _ _ _ _ _ | exact Kd.V_nil _ _ _ _ _ | exact Kd.Q_nil _ _ _ _ _ | exact Kd.S_nil _ _ _ _ _⟩, ⟨by (with_reducible repeat (first | apply Kd.R_alloc | apply Kd.R_drewN | apply Kd.R_drew)); exact Kd.R_mono (Kd.R_far (p := ⟨gb373, 1, none⟩) (Kd.R_types HO_374000.out BK373.out (by decide)) (fun _ hk => hk.2) (.slice Ao20 y377.length co20)) (fun _ hk => trivial)⟩, ⟨by (with_reducible repeat (first | apply Kd.R_alloc | apply Kd.R_drewN | apply Kd.R_drew)); exact Kd.R_mono (Kd.R_far (p := ⟨gb373, 1, none⟩) (Kd.R_types HO379.out BK373.out (by decide)) (fun _ hk => hk.2) (.slice Ao20 y377.length co20)) (fun _ hk => trivial)⟩, ⟨by (with_reducible repeat (first | apply Kd.S_alloc | apply Kd.S_drewN | apply Kd.S_drew)); exact Kd.S_mono (Kd.S_far (p := ⟨gb373, 1, none⟩) (Kd.S_types HO_374004.out BK373.out (by decide)) (fun _ hk => hk.2) (.slice Ao20 y377.length co20)) (fun _ hk => (by simp [Value.ownBlock]))⟩, ⟨by (with_reducible repeat (first | refine blk_drewN ?_ _ | refine blk_drew ?_ | refine blk_alloc ?_ _)); refine blk_far ?_ NB361_373.out _; (with_reducible repeat (first | refine blk_drewN ?_ _ | refine blk_drew ?_ | refine blk_alloc ?_ _)); exact BK361.out⟩, ⟨by (with_reducible repeat (first | refine blk_drewN ?_ _ | refine blk_drew ?_ | refine blk_alloc ?_ _)); refine blk_put (cs := #[.slice Ao6 t362.length co6, u374001, .int .i64 t368, .int .i64 t369, .slice Ao15 x374004_1.length co15]) ?_ 1 _ rfl; (with_reducible repeat (first | refine blk_drewN ?_ _ | refine blk_drew ?_ | refine blk_alloc ?_ _)); exact BK373.out⟩, ⟨by repeat (first | (with_reducible first | exact HB.out | apply below_alloc | apply pw_below_drewN | apply below_drew1 | refine below_set ?_ GE361.out | refine below_set ?_ GE373.out) | exact HB.out)⟩⟩
     case round =>
      clear H'
      (try clear c1);(try clear p2);(try clear p6);(try clear c7);(try clear c11);(try clear c11b0);(try clear c12);(try clear c13);(try clear hcz14_0);(try clear hcz14_1);(try clear hcz14_2);(try clear hcz14_3);(try clear hcz14_4);(try clear hcz21_0);(try clear hcz21_1);(try clear hcz21_2);(try clear hcz21_3);(try clear hcz21_4);(try clear hcz8_0);(try clear hcz8_1);(try clear hcz8_2);(try clear hcz8_3)
      (try clear hcz8_4);(try clear hfz14_0);(try clear hfz14_1);(try clear hfz14_2);(try clear hfz14_3);(try clear hfz14_4);(try clear hfz21_0);(try clear hfz21_1);(try clear hfz21_2);(try clear hfz21_3);(try clear hfz21_4);(try clear hfz8_0);(try clear hfz8_1);(try clear hfz8_2);(try clear hfz8_3);(try clear hfz8_4);(try clear p2)
      obtain ⟨x5_2, x6_2, rfl, HA, HK2, HO_5, HO_374000, HO_374001, HO_374004, BK361, BK373, HB⟩ := hrel
      cases gk with
      | zero => exact absurd HA.out (by simp [regletlaw14_Clear.l1])
      | succ k2 =>
       have H := HA.out
       clear HA
       simp only [regletlaw14_Clear.l1] at H
       by_cases c22 : 0 ≤ x4_1
       rotate_left
       · rw [if_neg c22] at H
         exact absurd H (by simp)
       rw [if_pos c22] at H
       have c22b0 : decide (0 ≤ x4_1) = true := decide_eq_true c22
       clear c22
       by_cases c23 : x4_1 < (x374004_1.length : Int)
       rotate_left
       · rw [if_neg c23] at H
         exact absurd H (by simp)
       rw [if_pos c23] at H
       have c23b0 : decide (x4_1 < (x374004_1.length : Int)) = true := decide_eq_true c23
       clear c23
       by_cases c24 : x6_2 < (((rd_T30 x374004_1 x4_1).f1).length : Int)
       · rw [if_pos c24] at H
         have c24b0 : decide (x6_2 < (((rd_T30 x374004_1 x4_1).f1).length : Int)) = true := decide_eq_true c24
         clear c24
         by_cases c25 : 0 ≤ x6_2
         rotate_left
         · rw [if_neg c25] at H
           exact absurd H (by simp)
         rw [if_pos c25] at H
         have c25b0 : decide (0 ≤ x6_2) = true := decide_eq_true c25
         clear c25
         obtain ⟨bq26, hbq26⟩ : ∃ b_ : Bool, b_ = ((rd_T53 ((rd_T30 x374004_1 x4_1).f1) x6_2).f0) := ⟨_, rfl⟩
         replace H : (if bq26 = true then (if (x374004_1.length : Int) = 0 then (none) else (if x5_2.length < 8796093022208 then (regletlaw14_Clear.l1 k2 x4_1 (x5_2 ++ [(⟨bq26, Int.tmod ((rd_T53 ((rd_T30 x374004_1 x4_1).f1) x6_2).f1) (x374004_1.length : Int)⟩ : S53)]) (wrap64 (x6_2 + 1)) t362 y377 t368 t369 x374004_1) else (none))) else (if x5_2.length < 8796093022208 then (regletlaw14_Clear.l1 k2 x4_1 (x5_2 ++ [(⟨bq26, (rd_T53 ((rd_T30 x374004_1 x4_1).f1) x6_2).f1⟩ : S53)]) (wrap64 (x6_2 + 1)) t362 y377 t368 t369 x374004_1) else (none))) = some (r1, r2, r3, r4, r5) := by rw [← hbq26] at H; exact H
         have Nbq26 := Aside0.mk hbq26
         clear hbq26
         by_cases c27 : bq26 = true
         · subst c27
           have H1 : (if (x374004_1.length : Int) = 0 then (none) else (if x5_2.length < 8796093022208 then (regletlaw14_Clear.l1 k2 x4_1 (x5_2 ++ [(⟨true, Int.tmod ((rd_T53 ((rd_T30 x374004_1 x4_1).f1) x6_2).f1) (x374004_1.length : Int)⟩ : S53)]) (wrap64 (x6_2 + 1)) t362 y377 t368 t369 x374004_1) else (none))) = some (r1, r2, r3, r4, r5) := by rw [if_pos rfl] at H; exact H
           clear H
           have H := H1
           clear H1
           by_cases c28 : (x374004_1.length : Int) = 0
           · rw [if_pos c28] at H
             exact absurd H (by simp)
           rw [if_neg c28] at H
           have c28b0 : ((x374004_1.length : Int) == 0) = false := beq_eq_false_iff_ne.mpr c28
           have c28b1 : ((x374004_1.length : Int) != 0) = true := bne_iff_ne.mpr c28
           have c28b2 : ¬ (x374004_1 = []) := fun h_ => c28 (by rw [h_]; rfl)
           by_cases c29 : x5_2.length < 8796093022208
           rotate_left
           · rw [if_neg c29] at H
             exact absurd H (by simp)
           rw [if_pos c29] at H
           have LMc29 := Aside0.mk c29
           clear c29
           obtain ⟨y384, hy384⟩ : ∃ y_ : List (S53), y_ = (x5_2 ++ [(⟨true, Int.tmod ((rd_T53 ((rd_T30 x374004_1 x4_1).f1) x6_2).f1) (x374004_1.length : Int)⟩ : S53)]) := ⟨_, rfl⟩
           replace H : (regletlaw14_Clear.l1 k2 x4_1 y384 (wrap64 (x6_2 + 1)) t362 y377 t368 t369 x374004_1) = some (r1, r2, r3, r4, r5) := by first | (rw [hy384]; with_reducible exact H) | (have H2_ := (Option.bind_some _ _).symm.trans H; rw [hy384]; with_reducible exact H2_) | (have H2_ := (Option.bind_some _ _).symm.trans H; with_reducible exact H2_) | with_reducible exact H | (rw [hy384]; exact H) | exact H
           have Ny384 := Aside0.mk hy384
           clear hy384
           have H' := Aside0.mk H
           clear H
           have hnb30 := NB373_361.out
           have hnc30 := NB361_373.out
           have hcz31_0 : wr.cell? ⟨gb373, 0, none⟩ = some (.slice Ao6 t362.length co6) := (blk_cell BK373.out 0).trans rfl
           have hcz31_1 : wr.cell? ⟨gb373, 1, none⟩ = some (.slice Ao20 y377.length co20) := (blk_cell BK373.out 1).trans rfl
           have hcz31_2 : wr.cell? ⟨gb373, 2, none⟩ = some (.int .i64 t368) := (blk_cell BK373.out 2).trans rfl
           have hcz31_3 : wr.cell? ⟨gb373, 3, none⟩ = some (.int .i64 t369) := (blk_cell BK373.out 3).trans rfl
           have hcz31_4 : wr.cell? ⟨gb373, 4, none⟩ = some (.slice Ao15 x374004_1.length co15) := (blk_cell BK373.out 4).trans rfl
           have hfz31_0 := blk_frozen BK373.out 0
           have hfz31_1 := blk_frozen BK373.out 1
           have hfz31_2 := blk_frozen BK373.out 2
           have hfz31_3 := blk_frozen BK373.out 3
           have hfz31_4 := blk_frozen BK373.out 4
           have p380 : 0 ≤ (x4_1 : Int) := of_decide_eq_true (by first | (with_reducible assumption) | assumption)
           have q380 : x4_1 < (x374004_1.length : Int) := of_decide_eq_true (by first | (with_reducible assumption) | assumption)
           obtain ⟨ad380, A380_1, c380_1, e380, hx380_0, hx380_1, hl380_1, hi380_1⟩ := at_T30 (Kd.S_reads' HO_374004.out).2.2 x4_1 p380 q380
           cases e380
           obtain ⟨ce380, hce380, hMe380, hcc380⟩ := Kd.S_get HO_374004.out z30 x4_1 p380 (by first | exact q380 | exact of_decide_eq_true (by first | (with_reducible assumption) | assumption) | (have e_ := (Kd.S_reads' HO_374004.out).1; omega))
           obtain ⟨ve380_1, rfl, ge380_1⟩ := k30_openM hMe380
           have hv380_1 := hcc380 1 _ rfl
           rw [add_field _ _ 1 (by omega)] at hv380_1
           replace hv380_1 := Option.some.inj (hv380_1.symm.trans hx380_1)
           rw [hv380_1] at ge380_1
           have HL380_1 := Aside0.mk (show Kd.R k53 53 _ _ _ _ ((rd_T30 x374004_1 x4_1).f1) from ge380_1)
           clear hv380_1 ge380_1
           have HX380_1 := Aside0.mk hx380_1
           clear hcc380 hce380
           have HR380_1 := Aside0.mk hi380_1
           have HC380_1 := Aside0.mk hl380_1
           clear hi380_1 hl380_1
           replace p380 := eq_true p380
           replace q380 := eq_true q380
           have p381 : 0 ≤ (x4_1 : Int) := of_decide_eq_true (by first | (with_reducible assumption) | assumption)
           have q381 : x4_1 < (x374004_1.length : Int) := of_decide_eq_true (by first | (with_reducible assumption) | assumption)
           obtain ⟨ad381, A381_1, c381_1, e381, hx381_0, hx381_1, hl381_1, hi381_1⟩ := at_T30 (Kd.S_reads' HO_374004.out).2.2 x4_1 p381 q381
           obtain rfl : ad380 = ad381 := (by injection e381)
           obtain ⟨ce381, hce381, hMe381, hcc381⟩ := Kd.S_get HO_374004.out z30 x4_1 p381 (by first | exact q381 | exact of_decide_eq_true (by first | (with_reducible assumption) | assumption) | (have e_ := (Kd.S_reads' HO_374004.out).1; omega))
           obtain ⟨ve381_1, rfl, ge381_1⟩ := k30_openM hMe381
           have hv381_1 := hcc381 1 _ rfl
           rw [add_field _ _ 1 (by omega)] at hv381_1
           replace hv381_1 := Option.some.inj (hv381_1.symm.trans hx381_1)
           rw [hv381_1] at ge381_1
           have HL381_1 := Aside0.mk (show Kd.R k53 53 _ _ _ _ ((rd_T30 x374004_1 x4_1).f1) from ge381_1)
           clear hv381_1 ge381_1
           have HX381_1 := Aside0.mk hx381_1
           clear hcc381 hce381
           have HR381_1 := Aside0.mk hi381_1
           have HC381_1 := Aside0.mk hl381_1
           clear hi381_1 hl381_1
           replace p381 := eq_true p381
           replace q381 := eq_true q381
           have ea_ := Option.some.inj (hx380_1.symm.trans hx381_1)
           injection ea_ with ea_ en_ ec_
           subst ea_
           subst ec_
           clear en_
           have p382 : 0 ≤ (x6_2 : Int) := of_decide_eq_true (by first | (with_reducible assumption) | assumption)
           have q382 : x6_2 < (((rd_T30 x374004_1 x4_1).f1).length : Int) := of_decide_eq_true (by first | (with_reducible assumption) | assumption)
           obtain ⟨ad382, e382, hx382_0, hx382_1⟩ := at_T53 (by repeat (first | (with_reducible exact HR381_1.out) | (with_reducible refine Kd.C_alloc ?_ _) | (with_reducible refine Kd.C_drewN ?_ _) | (with_reducible refine Kd.C_drew ?_) | exact HR381_1.out)) x6_2 p382 q382
           (try rw [← Nbq26.out] at hx382_0)
           cases e382
           replace p382 := eq_true p382
           replace q382 := eq_true q382
           go_wp2_with (first | ((with_reducible refine gate_dst (N := 7) rfl ?_); refine box_event ?hg (N := 7) ?hd (cs := #[.bool false, .int .i64 0]) (t := 53) ?hr ?_; (case hd => rfl); (case hg => rfl); (case hr => first | (go_simp; done) | (go_simp; rfl)); intro gb383 hg w32 hbox hb; have n0_ := Aside0.mk (Kd.R_below (Kd.R_elderB (by (with_reducible repeat (first | apply Kd.R_alloc | apply Kd.R_drewN | apply Kd.R_drew)); exact HO_5.out) gb383 (Nat.le_of_eq hg.symm)) hb); have n1_ := Aside0.mk (Kd.R_below (by (with_reducible repeat (first | apply Kd.R_alloc | apply Kd.R_drewN | apply Kd.R_drew)); exact HO_374000.out) hb); have n2_ := Aside0.mk (Kd.R_below (by (with_reducible repeat (first | apply Kd.R_alloc | apply Kd.R_drewN | apply Kd.R_drew)); exact HO_374001.out) hb); have n3_ := Aside0.mk (Kd.S_below (Kd.S_elderB (by (with_reducible repeat (first | apply Kd.S_alloc | apply Kd.S_drewN | apply Kd.S_drew)); exact HO_374004.out) gb383 (Nat.le_of_eq hg.symm)) hb); have n4_ := Aside0.mk (Kd.R_below (Kd.R_elderB (by (with_reducible repeat (first | apply Kd.R_alloc | apply Kd.R_drewN | apply Kd.R_drew)); exact HL380_1.out) gb383 (Nat.le_of_eq hg.symm)) hb); have n5_ := Aside0.mk (Kd.R_below (Kd.R_elderB (by (with_reducible repeat (first | apply Kd.R_alloc | apply Kd.R_drewN | apply Kd.R_drew)); exact HL381_1.out) gb383 (Nat.le_of_eq hg.symm)) hb); have n6_ := Aside0.mk (blk_below (g := gb361) (o := .cells #[.slice none 0 0, .slice none 0 0, .int .i64 0, .int .i64 0, .slice none 0 0] 26 (0, 0)) (by (with_reducible repeat (first | refine blk_drewN ?_ _ | refine blk_drew ?_ | refine blk_alloc ?_ _)); exact BK361.out) hb); have n7_ := Aside0.mk (blk_below (g := gb373) (o := .cells #[.slice Ao6 t362.length co6, .slice Ao20 y377.length co20, .int .i64 t368, .int .i64 t369, .slice (some ad380) x374004_1.length co15] 26 (0, 0)) (by (with_reducible repeat (first | refine blk_drewN ?_ _ | refine blk_drew ?_ | refine blk_alloc ?_ _)); exact BK373.out) hb); have n8_ := Aside0.mk (Kd.C_below (by repeat (first | (with_reducible exact HR380_1.out) | (with_reducible refine Kd.C_alloc ?_ _) | (with_reducible refine Kd.C_drewN ?_ _) | (with_reducible refine Kd.C_drew ?_) | exact HR380_1.out)) hb); have n9_ := Aside0.mk (pw_cell_below hb HX380_1.out); have n10_ := Aside0.mk (Kd.C_below (by repeat (first | (with_reducible exact HR381_1.out) | (with_reducible refine Kd.C_alloc ?_ _) | (with_reducible refine Kd.C_drewN ?_ _) | (with_reducible refine Kd.C_drew ?_) | exact HR381_1.out)) hb); have n11_ := Aside0.mk (pw_cell_below hb HX381_1.out); have n12_ := Aside0.mk (below_step (by repeat (first | (with_reducible first | exact HB.out | apply below_alloc | apply pw_below_drewN | apply below_drew1 | refine below_set ?_ GE361.out | refine below_set ?_ GE373.out) | exact HB.out)) hb); have n13_ := Aside0.mk (hbox); have n14_ := Aside0.mk ((by rw [hg]; exact (below_size (by repeat (first | (with_reducible first | exact HB.out | apply below_alloc | apply pw_below_drewN | apply below_drew1 | refine below_set ?_ GE361.out | refine below_set ?_ GE373.out) | exact HB.out))) : w.heap.size ≤ gb383)); have n15_ := Aside0.mk ((by rw [hg]; exact (below_size (by repeat (first | (with_reducible first | exact HB.out | apply below_alloc | apply pw_below_drewN | apply below_drew1 | refine below_set ?_ GE361.out | refine below_set ?_ GE373.out) | exact HB.out))) : w.heap.size ≤ gb383)); have n16_ := Aside0.mk ((by rw [hg]; exact Nat.ne_of_lt (blk_lt (g := gb361) (o := .cells #[.slice none 0 0, .slice none 0 0, .int .i64 0, .int .i64 0, .slice none 0 0] 26 (0, 0)) (by (with_reducible repeat (first | refine blk_drewN ?_ _ | refine blk_drew ?_ | refine blk_alloc ?_ _)); exact BK361.out)) : gb361 ≠ gb383)); have n17_ := Aside0.mk ((by rw [hg]; exact Nat.ne_of_gt (blk_lt (g := gb361) (o := .cells #[.slice none 0 0, .slice none 0 0, .int .i64 0, .int .i64 0, .slice none 0 0] 26 (0, 0)) (by (with_reducible repeat (first | refine blk_drewN ?_ _ | refine blk_drew ?_ | refine blk_alloc ?_ _)); exact BK361.out)) : gb383 ≠ gb361)); have n18_ := Aside0.mk ((by rw [hg]; exact Nat.ne_of_lt (blk_lt (g := gb373) (o := .cells #[.slice Ao6 t362.length co6, .slice Ao20 y377.length co20, .int .i64 t368, .int .i64 t369, .slice (some ad380) x374004_1.length co15] 26 (0, 0)) (by (with_reducible repeat (first | refine blk_drewN ?_ _ | refine blk_drew ?_ | refine blk_alloc ?_ _)); exact BK373.out)) : gb373 ≠ gb383)); have n19_ := Aside0.mk ((by rw [hg]; exact Nat.ne_of_gt (blk_lt (g := gb373) (o := .cells #[.slice Ao6 t362.length co6, .slice Ao20 y377.length co20, .int .i64 t368, .int .i64 t369, .slice (some ad380) x374004_1.length co15] 26 (0, 0)) (by (with_reducible repeat (first | refine blk_drewN ?_ _ | refine blk_drew ?_ | refine blk_alloc ?_ _)); exact BK373.out)) : gb383 ≠ gb373)); clear HO_5; clear HO_374000; clear HO_374001; clear HO_374004; clear HL380_1; clear HL381_1; clear BK361; clear BK373; clear HR380_1; clear HX380_1; clear HR381_1; clear HX381_1; clear HB; have HO_5 := n0_; have HO_374000 := n1_; have HO_374001 := n2_; have HO_374004 := n3_; have HL380_1 := n4_; have HL381_1 := n5_; have BK361 := n6_; have BK373 := n7_; have HR380_1 := n8_; have HX380_1 := n9_; have HR381_1 := n10_; have HX381_1 := n11_; have HB := n12_; have BK383 := n13_; have GW383 := n14_; have GE383 := n15_; have NB361_383 := n16_; have NB383_361 := n17_; have NB373_383 := n18_; have NB383_373 := n19_; clear n0_ n1_ n2_ n3_ n4_ n5_ n6_ n7_ n8_ n9_ n10_ n11_ n12_ n13_ n14_ n15_ n16_ n17_ n18_ n19_; clear hb hbox hg; have hnb33 := NB383_361.out; have hnc33 := NB361_383.out; have hnb34 := NB383_373.out; have hnc34 := NB373_383.out; have hcz35_0 : w32.cell? ⟨gb383, 0, none⟩ = some (.bool false) := (blk_cell BK383.out 0).trans rfl; have hcz35_1 : w32.cell? ⟨gb383, 1, none⟩ = some (.int .i64 0) := (blk_cell BK383.out 1).trans rfl; have hdz35 : ∀ (v0 v1 y : Value), (((w32.setCell ⟨gb383, 0, none⟩ v0).setCell ⟨gb383, 1, none⟩ v1).setCell ⟨gb383, 1, none⟩ y).cell? ⟨gb383, 1, none⟩ = some y := fun v0 v1 y => World.cell?_setCell_same _ _ _ (World.cell?_setCell_same _ _ _ ((World.cell?_setCell_other _ _ _ _ (by simp)).trans hcz35_1)); have hfz35_0 := blk_frozen BK383.out 0; have hfz35_1 := blk_frozen BK383.out 1; have hcz36_0 : w32.cell? ⟨gb373, 0, none⟩ = some (.slice Ao6 t362.length co6) := (blk_cell BK373.out 0).trans rfl; have hcz36_1 : w32.cell? ⟨gb373, 1, none⟩ = some (.slice Ao20 y377.length co20) := (blk_cell BK373.out 1).trans rfl; have hcz36_2 : w32.cell? ⟨gb373, 2, none⟩ = some (.int .i64 t368) := (blk_cell BK373.out 2).trans rfl; have hcz36_3 : w32.cell? ⟨gb373, 3, none⟩ = some (.int .i64 t369) := (blk_cell BK373.out 3).trans rfl; have hcz36_4 : w32.cell? ⟨gb373, 4, none⟩ = some (.slice (some ad380) x374004_1.length co15) := (blk_cell BK373.out 4).trans rfl; have hfz36_0 := blk_frozen BK373.out 0; have hfz36_1 := blk_frozen BK373.out 1; have hfz36_2 := blk_frozen BK373.out 2; have hfz36_3 := blk_frozen BK373.out 3; have hfz36_4 := blk_frozen BK373.out 4) | ((with_reducible refine gate_builtin (b := .append) (xs := #[.tmp 59, .tmp 61]) rfl ?_); at_builtin; refine Kd.R_append k53 (w0 := w) w.heap.size rfl (.tmp 59) (.tmp 61) 28 53 (.agg #[(.bool false), (.int .i64 0)]) 16 rfl Try.underlying28 info53 rfl (by decide) (by omega) u5 x5_2 (⟨true, Int.tmod ((rd_T53 ((rd_T30 x374004_1 x4_1).f1) x6_2).f1) (x374004_1.length : Int)⟩ : S53) [.bool true, .int .i64 (Int.tmod ((rd_T53 ((rd_T30 x374004_1 x4_1).f1) x6_2).f1) (x374004_1.length : Int))] (fun k_ => k_ ≠ gb383) (fun _ => False) rfl (by first | (go_simp; done) | (go_simp; rfl)) ?aP (fun _ hk => hk.elim) ?aF ?aO ?aB ?aS ?aL ?_; (case aP => exact k53_mkM _ _ _ (⟨true, Int.tmod ((rd_T53 ((rd_T30 x374004_1 x4_1).f1) x6_2).f1) (x374004_1.length : Int)⟩ : S53)); (case aB => exact (by repeat (first | (with_reducible first | exact HB.out | apply below_alloc | apply pw_below_drewN | apply below_drew1 | refine below_set ?_ GE361.out | refine below_set ?_ GE373.out | refine below_set ?_ GE383.out) | exact HB.out))); (case aF => exact (fun k_ hk => Kd.freshB (g := gb383) (o := .cells #[.bool true, .int .i64 (Int.tmod ((rd_T53 ((rd_T30 x374004_1 x4_1).f1) x6_2).f1) (x374004_1.length : Int))] 53 (0, 0)) (by (with_reducible repeat (first | refine blk_drewN ?_ _ | refine blk_drew ?_ | refine blk_alloc ?_ _)); refine blk_put (cs := #[.bool true, .int .i64 ((rd_T53 ((rd_T30 x374004_1 x4_1).f1) x6_2).f1)]) ?_ 1 _ rfl; (with_reducible repeat (first | refine blk_drewN ?_ _ | refine blk_drew ?_ | refine blk_alloc ?_ _)); refine blk_put (cs := #[.bool true, .int .i64 0]) ?_ 1 _ rfl; (with_reducible repeat (first | refine blk_drewN ?_ _ | refine blk_drew ?_ | refine blk_alloc ?_ _)); refine blk_put (cs := #[.bool false, .int .i64 0]) ?_ 0 _ rfl; (with_reducible repeat (first | refine blk_drewN ?_ _ | refine blk_drew ?_ | refine blk_alloc ?_ _)); exact BK383.out) k_ hk)); (case aO => exact (by (with_reducible repeat (first | apply Kd.R_alloc | apply Kd.R_drewN | apply Kd.R_drew)); exact Kd.R_mono (Kd.R_far (p := ⟨gb383, 1, none⟩) (Kd.R_far (p := ⟨gb383, 1, none⟩) (Kd.R_far (p := ⟨gb383, 0, none⟩) (Kd.R_mono HO_5.out (fun k_ hk => (⟨hk, hk.2⟩ : _ ∧ k_ ≠ gb383))) (fun _ hk => hk.2) (.bool true)) (fun _ hk => hk.2) (.int .i64 ((rd_T53 ((rd_T30 x374004_1 x4_1).f1) x6_2).f1))) (fun _ hk => hk.2) (.int .i64 (Int.tmod ((rd_T53 ((rd_T30 x374004_1 x4_1).f1) x6_2).f1) (x374004_1.length : Int)))) (fun _ hk => hk.1.2))); (case aS => exact (below_size (by repeat (first | (with_reducible first | exact HB.out | apply below_alloc | apply pw_below_drewN | apply below_drew1 | refine below_set ?_ GE361.out | refine below_set ?_ GE373.out | refine below_set ?_ GE383.out) | exact HB.out)))); (case aL => have := LMc29.out; omega); intro v385 w37 ho hb hg hat; rw [← Ny384.out] at ho; have n0_ := Aside0.mk (Kd.R_over' (by (with_reducible repeat (first | apply Kd.R_alloc | apply Kd.R_drewN | apply Kd.R_drew)); exact (Kd.R_mono (Kd.R_far (p := ⟨gb383, 1, none⟩) (Kd.R_far (p := ⟨gb383, 1, none⟩) (Kd.R_far (p := ⟨gb383, 0, none⟩) (Kd.R_types HO_374000.out BK383.out (by decide)) (fun _ hk => hk.2) (.bool true)) (fun _ hk => hk.2) (.int .i64 ((rd_T53 ((rd_T30 x374004_1 x4_1).f1) x6_2).f1))) (fun _ hk => hk.2) (.int .i64 (Int.tmod ((rd_T53 ((rd_T30 x374004_1 x4_1).f1) x6_2).f1) (x374004_1.length : Int)))) (fun _ h_ => h_.1))) (Kd.R_typed (by (with_reducible repeat (first | apply Kd.R_alloc | apply Kd.R_drewN | apply Kd.R_drew)); exact (Kd.R_mono (Kd.R_far (p := ⟨gb383, 1, none⟩) (Kd.R_far (p := ⟨gb383, 1, none⟩) (Kd.R_far (p := ⟨gb383, 0, none⟩) (Kd.R_mono HO_5.out (fun k_ hk => (⟨hk, hk.2⟩ : _ ∧ k_ ≠ gb383))) (fun _ hk => hk.2) (.bool true)) (fun _ hk => hk.2) (.int .i64 ((rd_T53 ((rd_T30 x374004_1 x4_1).f1) x6_2).f1))) (fun _ hk => hk.2) (.int .i64 (Int.tmod ((rd_T53 ((rd_T30 x374004_1 x4_1).f1) x6_2).f1) (x374004_1.length : Int)))) (fun _ h_ => h_.1)))) (by decide) hg); have n1_ := Aside0.mk (Kd.R_over' (by (with_reducible repeat (first | apply Kd.R_alloc | apply Kd.R_drewN | apply Kd.R_drew)); exact (Kd.R_mono (Kd.R_far (p := ⟨gb383, 1, none⟩) (Kd.R_far (p := ⟨gb383, 1, none⟩) (Kd.R_far (p := ⟨gb383, 0, none⟩) (Kd.R_types HO_374001.out BK383.out (by decide)) (fun _ hk => hk.2) (.bool true)) (fun _ hk => hk.2) (.int .i64 ((rd_T53 ((rd_T30 x374004_1 x4_1).f1) x6_2).f1))) (fun _ hk => hk.2) (.int .i64 (Int.tmod ((rd_T53 ((rd_T30 x374004_1 x4_1).f1) x6_2).f1) (x374004_1.length : Int)))) (fun _ h_ => h_.1))) (Kd.R_typed (by (with_reducible repeat (first | apply Kd.R_alloc | apply Kd.R_drewN | apply Kd.R_drew)); exact (Kd.R_mono (Kd.R_far (p := ⟨gb383, 1, none⟩) (Kd.R_far (p := ⟨gb383, 1, none⟩) (Kd.R_far (p := ⟨gb383, 0, none⟩) (Kd.R_mono HO_5.out (fun k_ hk => (⟨hk, hk.2⟩ : _ ∧ k_ ≠ gb383))) (fun _ hk => hk.2) (.bool true)) (fun _ hk => hk.2) (.int .i64 ((rd_T53 ((rd_T30 x374004_1 x4_1).f1) x6_2).f1))) (fun _ hk => hk.2) (.int .i64 (Int.tmod ((rd_T53 ((rd_T30 x374004_1 x4_1).f1) x6_2).f1) (x374004_1.length : Int)))) (fun _ h_ => h_.1)))) (by decide) hg); have n2_ := Aside0.mk (Kd.S_after (ok := (fun k_ => k_ ≠ gb383)) (by (with_reducible repeat (first | apply Kd.S_alloc | apply Kd.S_drewN | apply Kd.S_drew)); exact Kd.S_mono (Kd.S_far (p := ⟨gb383, 1, none⟩) (Kd.S_far (p := ⟨gb383, 1, none⟩) (Kd.S_far (p := ⟨gb383, 0, none⟩) (Kd.S_mono HO_374004.out (fun k_ hk => (⟨hk, hk.2⟩ : _ ∧ k_ ≠ gb383))) (fun _ hk => hk.2) (.bool true)) (fun _ hk => hk.2) (.int .i64 ((rd_T53 ((rd_T30 x374004_1 x4_1).f1) x6_2).f1))) (fun _ hk => hk.2) (.int .i64 (Int.tmod ((rd_T53 ((rd_T30 x374004_1 x4_1).f1) x6_2).f1) (x374004_1.length : Int)))) (fun _ hk => ⟨hk.1.2, hk.1.1⟩)) hg hat); have n3_ := Aside0.mk (blk_grown (g := gb361) (o := .cells #[.slice none 0 0, .slice none 0 0, .int .i64 0, .int .i64 0, .slice none 0 0] 26 (0, 0)) (by (with_reducible repeat (first | refine blk_drewN ?_ _ | refine blk_drew ?_ | refine blk_alloc ?_ _)); refine blk_far ?_ NB361_383.out _; (with_reducible repeat (first | refine blk_drewN ?_ _ | refine blk_drew ?_ | refine blk_alloc ?_ _)); refine blk_far ?_ NB361_383.out _; (with_reducible repeat (first | refine blk_drewN ?_ _ | refine blk_drew ?_ | refine blk_alloc ?_ _)); refine blk_far ?_ NB361_383.out _; (with_reducible repeat (first | refine blk_drewN ?_ _ | refine blk_drew ?_ | refine blk_alloc ?_ _)); exact BK361.out) hg (Kd.R_ne HO_5.out BK361.out (by decide))); have n4_ := Aside0.mk (blk_grown (g := gb373) (o := .cells #[.slice Ao6 t362.length co6, .slice Ao20 y377.length co20, .int .i64 t368, .int .i64 t369, .slice (some ad380) x374004_1.length co15] 26 (0, 0)) (by (with_reducible repeat (first | refine blk_drewN ?_ _ | refine blk_drew ?_ | refine blk_alloc ?_ _)); refine blk_far ?_ NB373_383.out _; (with_reducible repeat (first | refine blk_drewN ?_ _ | refine blk_drew ?_ | refine blk_alloc ?_ _)); refine blk_far ?_ NB373_383.out _; (with_reducible repeat (first | refine blk_drewN ?_ _ | refine blk_drew ?_ | refine blk_alloc ?_ _)); refine blk_far ?_ NB373_383.out _; (with_reducible repeat (first | refine blk_drewN ?_ _ | refine blk_drew ?_ | refine blk_alloc ?_ _)); exact BK373.out) hg (Kd.R_ne HO_5.out BK373.out (by decide))); have n5_ := Aside0.mk (Kd.R_after (ok := (fun k_ => some k_ ≠ (.slice (some ad380) x374004_1.length co15 : Value).ownBlock ∧ k_ ≠ gb383)) (by (with_reducible repeat (first | apply Kd.R_alloc | apply Kd.R_drewN | apply Kd.R_drew)); exact Kd.R_mono (Kd.R_far (p := ⟨gb383, 1, none⟩) (Kd.R_far (p := ⟨gb383, 1, none⟩) (Kd.R_far (p := ⟨gb383, 0, none⟩) (Kd.R_mono HL380_1.out (fun k_ hk => (⟨hk, hk.2⟩ : _ ∧ k_ ≠ gb383))) (fun _ hk => hk.2) (.bool true)) (fun _ hk => hk.2) (.int .i64 ((rd_T53 ((rd_T30 x374004_1 x4_1).f1) x6_2).f1))) (fun _ hk => hk.2) (.int .i64 (Int.tmod ((rd_T53 ((rd_T30 x374004_1 x4_1).f1) x6_2).f1) (x374004_1.length : Int)))) (fun _ hk => ⟨⟨hk.1.1.2, hk.1.2⟩, hk.1.1.1⟩)) hg hat); have n6_ := Aside0.mk (Kd.R_after (ok := (fun k_ => some k_ ≠ (.slice (some ad380) x374004_1.length co15 : Value).ownBlock ∧ k_ ≠ gb383)) (by (with_reducible repeat (first | apply Kd.R_alloc | apply Kd.R_drewN | apply Kd.R_drew)); exact Kd.R_mono (Kd.R_far (p := ⟨gb383, 1, none⟩) (Kd.R_far (p := ⟨gb383, 1, none⟩) (Kd.R_far (p := ⟨gb383, 0, none⟩) (Kd.R_mono HL381_1.out (fun k_ hk => (⟨hk, hk.2⟩ : _ ∧ k_ ≠ gb383))) (fun _ hk => hk.2) (.bool true)) (fun _ hk => hk.2) (.int .i64 ((rd_T53 ((rd_T30 x374004_1 x4_1).f1) x6_2).f1))) (fun _ hk => hk.2) (.int .i64 (Int.tmod ((rd_T53 ((rd_T30 x374004_1 x4_1).f1) x6_2).f1) (x374004_1.length : Int)))) (fun _ hk => ⟨⟨hk.1.1.2, hk.1.2⟩, hk.1.1.1⟩)) hg hat); have n7_ := Aside0.mk (blk_grown (g := gb383) (o := .cells #[.bool true, .int .i64 (Int.tmod ((rd_T53 ((rd_T30 x374004_1 x4_1).f1) x6_2).f1) (x374004_1.length : Int))] 53 (0, 0)) (by (with_reducible repeat (first | refine blk_drewN ?_ _ | refine blk_drew ?_ | refine blk_alloc ?_ _)); refine blk_put (cs := #[.bool true, .int .i64 ((rd_T53 ((rd_T30 x374004_1 x4_1).f1) x6_2).f1)]) ?_ 1 _ rfl; (with_reducible repeat (first | refine blk_drewN ?_ _ | refine blk_drew ?_ | refine blk_alloc ?_ _)); refine blk_put (cs := #[.bool true, .int .i64 0]) ?_ 1 _ rfl; (with_reducible repeat (first | refine blk_drewN ?_ _ | refine blk_drew ?_ | refine blk_alloc ?_ _)); refine blk_put (cs := #[.bool false, .int .i64 0]) ?_ 0 _ rfl; (with_reducible repeat (first | refine blk_drewN ?_ _ | refine blk_drew ?_ | refine blk_alloc ?_ _)); exact BK383.out) hg (Kd.R_away HO_5.out (fun _ hk => hk.2))); have n8_ := Aside0.mk (hb); have n9_ := Aside0.mk (ho); clear HO_374000; clear HO_374001; clear HO_374004; clear BK361; clear BK373; clear HL380_1; clear HL381_1; clear BK383; clear HB; clear HO_5; have HO_374000 := n0_; have HO_374001 := n1_; have HO_374004 := n2_; have BK361 := n3_; have BK373 := n4_; have HL380_1 := n5_; have HL381_1 := n6_; have BK383 := n7_; have HB := n8_; have HO386 := n9_; clear n0_ n1_ n2_ n3_ n4_ n5_ n6_ n7_ n8_ n9_; clear ho hb hg hat))
           go_roundg k2
           case measure => have := HK1.out; have := HK2.out; omega
           case rel => exact ⟨(y384), (wrap64 (x6_2 + 1)), (by first | rfl | (simp; done) | (simp [*]; done)), H', ⟨by have := HK1.out; have := HK2.out; omega⟩, ⟨by (with_reducible repeat (first | apply Kd.R_alloc | apply Kd.R_drewN | apply Kd.R_drew)); exact Kd.R_mono HO386.out (fun _ hk => trivial)⟩, ⟨by (with_reducible repeat (first | apply Kd.R_alloc | apply Kd.R_drewN | apply Kd.R_drew)); exact HO_374000.out⟩, ⟨by (with_reducible repeat (first | apply Kd.R_alloc | apply Kd.R_drewN | apply Kd.R_drew)); exact HO_374001.out⟩, ⟨by (with_reducible repeat (first | apply Kd.S_alloc | apply Kd.S_drewN | apply Kd.S_drew)); exact Kd.S_mono HO_374004.out (fun _ hk => hk.2)⟩, ⟨by (with_reducible repeat (first | refine blk_drewN ?_ _ | refine blk_drew ?_ | refine blk_alloc ?_ _)); exact BK361.out⟩, ⟨by (with_reducible repeat (first | refine blk_drewN ?_ _ | refine blk_drew ?_ | refine blk_alloc ?_ _)); exact BK373.out⟩, ⟨by repeat (first | (with_reducible first | exact HB.out | apply below_alloc | apply pw_below_drewN | apply below_drew1 | refine below_set ?_ GE361.out | refine below_set ?_ GE373.out | refine below_set ?_ GE383.out) | exact HB.out)⟩⟩
         · replace c27 := Bool.eq_false_iff.mpr c27
           subst c27
           have H1 : (if x5_2.length < 8796093022208 then (regletlaw14_Clear.l1 k2 x4_1 (x5_2 ++ [(⟨false, (rd_T53 ((rd_T30 x374004_1 x4_1).f1) x6_2).f1⟩ : S53)]) (wrap64 (x6_2 + 1)) t362 y377 t368 t369 x374004_1) else (none)) = some (r1, r2, r3, r4, r5) := by rw [if_neg (show ¬ (false = true) by decide)] at H; exact H
           clear H
           have H := H1
           clear H1
           by_cases c38 : x5_2.length < 8796093022208
           rotate_left
           · rw [if_neg c38] at H
             exact absurd H (by simp)
           rw [if_pos c38] at H
           have LMc38 := Aside0.mk c38
           clear c38
           obtain ⟨y387, hy387⟩ : ∃ y_ : List (S53), y_ = (x5_2 ++ [(⟨false, (rd_T53 ((rd_T30 x374004_1 x4_1).f1) x6_2).f1⟩ : S53)]) := ⟨_, rfl⟩
           replace H : (regletlaw14_Clear.l1 k2 x4_1 y387 (wrap64 (x6_2 + 1)) t362 y377 t368 t369 x374004_1) = some (r1, r2, r3, r4, r5) := by first | (rw [hy387]; with_reducible exact H) | (have H2_ := (Option.bind_some _ _).symm.trans H; rw [hy387]; with_reducible exact H2_) | (have H2_ := (Option.bind_some _ _).symm.trans H; with_reducible exact H2_) | with_reducible exact H | (rw [hy387]; exact H) | exact H
           have Ny387 := Aside0.mk hy387
           clear hy387
           have H' := Aside0.mk H
           clear H
           have hnb39 := NB373_361.out
           have hnc39 := NB361_373.out
           have hcz40_0 : wr.cell? ⟨gb373, 0, none⟩ = some (.slice Ao6 t362.length co6) := (blk_cell BK373.out 0).trans rfl
           have hcz40_1 : wr.cell? ⟨gb373, 1, none⟩ = some (.slice Ao20 y377.length co20) := (blk_cell BK373.out 1).trans rfl
           have hcz40_2 : wr.cell? ⟨gb373, 2, none⟩ = some (.int .i64 t368) := (blk_cell BK373.out 2).trans rfl
           have hcz40_3 : wr.cell? ⟨gb373, 3, none⟩ = some (.int .i64 t369) := (blk_cell BK373.out 3).trans rfl
           have hcz40_4 : wr.cell? ⟨gb373, 4, none⟩ = some (.slice Ao15 x374004_1.length co15) := (blk_cell BK373.out 4).trans rfl
           have hfz40_0 := blk_frozen BK373.out 0
           have hfz40_1 := blk_frozen BK373.out 1
           have hfz40_2 := blk_frozen BK373.out 2
           have hfz40_3 := blk_frozen BK373.out 3
           have hfz40_4 := blk_frozen BK373.out 4
           have p380 : 0 ≤ (x4_1 : Int) := of_decide_eq_true (by first | (with_reducible assumption) | assumption)
           have q380 : x4_1 < (x374004_1.length : Int) := of_decide_eq_true (by first | (with_reducible assumption) | assumption)
           obtain ⟨ad380, A380_1, c380_1, e380, hx380_0, hx380_1, hl380_1, hi380_1⟩ := at_T30 (Kd.S_reads' HO_374004.out).2.2 x4_1 p380 q380
           cases e380
           obtain ⟨ce380, hce380, hMe380, hcc380⟩ := Kd.S_get HO_374004.out z30 x4_1 p380 (by first | exact q380 | exact of_decide_eq_true (by first | (with_reducible assumption) | assumption) | (have e_ := (Kd.S_reads' HO_374004.out).1; omega))
           obtain ⟨ve380_1, rfl, ge380_1⟩ := k30_openM hMe380
           have hv380_1 := hcc380 1 _ rfl
           rw [add_field _ _ 1 (by omega)] at hv380_1
           replace hv380_1 := Option.some.inj (hv380_1.symm.trans hx380_1)
           rw [hv380_1] at ge380_1
           have HL380_1 := Aside0.mk (show Kd.R k53 53 _ _ _ _ ((rd_T30 x374004_1 x4_1).f1) from ge380_1)
           clear hv380_1 ge380_1
           have HX380_1 := Aside0.mk hx380_1
           clear hcc380 hce380
           have HR380_1 := Aside0.mk hi380_1
           have HC380_1 := Aside0.mk hl380_1
           clear hi380_1 hl380_1
           replace p380 := eq_true p380
           replace q380 := eq_true q380
           have p381 : 0 ≤ (x4_1 : Int) := of_decide_eq_true (by first | (with_reducible assumption) | assumption)
           have q381 : x4_1 < (x374004_1.length : Int) := of_decide_eq_true (by first | (with_reducible assumption) | assumption)
           obtain ⟨ad381, A381_1, c381_1, e381, hx381_0, hx381_1, hl381_1, hi381_1⟩ := at_T30 (Kd.S_reads' HO_374004.out).2.2 x4_1 p381 q381
           obtain rfl : ad380 = ad381 := (by injection e381)
           obtain ⟨ce381, hce381, hMe381, hcc381⟩ := Kd.S_get HO_374004.out z30 x4_1 p381 (by first | exact q381 | exact of_decide_eq_true (by first | (with_reducible assumption) | assumption) | (have e_ := (Kd.S_reads' HO_374004.out).1; omega))
           obtain ⟨ve381_1, rfl, ge381_1⟩ := k30_openM hMe381
           have hv381_1 := hcc381 1 _ rfl
           rw [add_field _ _ 1 (by omega)] at hv381_1
           replace hv381_1 := Option.some.inj (hv381_1.symm.trans hx381_1)
           rw [hv381_1] at ge381_1
           have HL381_1 := Aside0.mk (show Kd.R k53 53 _ _ _ _ ((rd_T30 x374004_1 x4_1).f1) from ge381_1)
           clear hv381_1 ge381_1
           have HX381_1 := Aside0.mk hx381_1
           clear hcc381 hce381
           have HR381_1 := Aside0.mk hi381_1
           have HC381_1 := Aside0.mk hl381_1
           clear hi381_1 hl381_1
           replace p381 := eq_true p381
           replace q381 := eq_true q381
           have ea_ := Option.some.inj (hx380_1.symm.trans hx381_1)
           injection ea_ with ea_ en_ ec_
           subst ea_
           subst ec_
           clear en_
           have p382 : 0 ≤ (x6_2 : Int) := of_decide_eq_true (by first | (with_reducible assumption) | assumption)
           have q382 : x6_2 < (((rd_T30 x374004_1 x4_1).f1).length : Int) := of_decide_eq_true (by first | (with_reducible assumption) | assumption)
           obtain ⟨ad382, e382, hx382_0, hx382_1⟩ := at_T53 (by repeat (first | (with_reducible exact HR381_1.out) | (with_reducible refine Kd.C_alloc ?_ _) | (with_reducible refine Kd.C_drewN ?_ _) | (with_reducible refine Kd.C_drew ?_) | exact HR381_1.out)) x6_2 p382 q382
           (try rw [← Nbq26.out] at hx382_0)
           cases e382
           replace p382 := eq_true p382
           replace q382 := eq_true q382
           go_wp2_with (first | ((with_reducible refine gate_dst (N := 7) rfl ?_); refine box_event ?hg (N := 7) ?hd (cs := #[.bool false, .int .i64 0]) (t := 53) ?hr ?_; (case hd => rfl); (case hg => rfl); (case hr => first | (go_simp; done) | (go_simp; rfl)); intro gb383 hg w41 hbox hb; have n0_ := Aside0.mk (Kd.R_below (Kd.R_elderB (by (with_reducible repeat (first | apply Kd.R_alloc | apply Kd.R_drewN | apply Kd.R_drew)); exact HO_5.out) gb383 (Nat.le_of_eq hg.symm)) hb); have n1_ := Aside0.mk (Kd.R_below (by (with_reducible repeat (first | apply Kd.R_alloc | apply Kd.R_drewN | apply Kd.R_drew)); exact HO_374000.out) hb); have n2_ := Aside0.mk (Kd.R_below (by (with_reducible repeat (first | apply Kd.R_alloc | apply Kd.R_drewN | apply Kd.R_drew)); exact HO_374001.out) hb); have n3_ := Aside0.mk (Kd.S_below (Kd.S_elderB (by (with_reducible repeat (first | apply Kd.S_alloc | apply Kd.S_drewN | apply Kd.S_drew)); exact HO_374004.out) gb383 (Nat.le_of_eq hg.symm)) hb); have n4_ := Aside0.mk (Kd.R_below (Kd.R_elderB (by (with_reducible repeat (first | apply Kd.R_alloc | apply Kd.R_drewN | apply Kd.R_drew)); exact HL380_1.out) gb383 (Nat.le_of_eq hg.symm)) hb); have n5_ := Aside0.mk (Kd.R_below (Kd.R_elderB (by (with_reducible repeat (first | apply Kd.R_alloc | apply Kd.R_drewN | apply Kd.R_drew)); exact HL381_1.out) gb383 (Nat.le_of_eq hg.symm)) hb); have n6_ := Aside0.mk (blk_below (g := gb361) (o := .cells #[.slice none 0 0, .slice none 0 0, .int .i64 0, .int .i64 0, .slice none 0 0] 26 (0, 0)) (by (with_reducible repeat (first | refine blk_drewN ?_ _ | refine blk_drew ?_ | refine blk_alloc ?_ _)); exact BK361.out) hb); have n7_ := Aside0.mk (blk_below (g := gb373) (o := .cells #[.slice Ao6 t362.length co6, .slice Ao20 y377.length co20, .int .i64 t368, .int .i64 t369, .slice (some ad380) x374004_1.length co15] 26 (0, 0)) (by (with_reducible repeat (first | refine blk_drewN ?_ _ | refine blk_drew ?_ | refine blk_alloc ?_ _)); exact BK373.out) hb); have n8_ := Aside0.mk (Kd.C_below (by repeat (first | (with_reducible exact HR380_1.out) | (with_reducible refine Kd.C_alloc ?_ _) | (with_reducible refine Kd.C_drewN ?_ _) | (with_reducible refine Kd.C_drew ?_) | exact HR380_1.out)) hb); have n9_ := Aside0.mk (pw_cell_below hb HX380_1.out); have n10_ := Aside0.mk (Kd.C_below (by repeat (first | (with_reducible exact HR381_1.out) | (with_reducible refine Kd.C_alloc ?_ _) | (with_reducible refine Kd.C_drewN ?_ _) | (with_reducible refine Kd.C_drew ?_) | exact HR381_1.out)) hb); have n11_ := Aside0.mk (pw_cell_below hb HX381_1.out); have n12_ := Aside0.mk (below_step (by repeat (first | (with_reducible first | exact HB.out | apply below_alloc | apply pw_below_drewN | apply below_drew1 | refine below_set ?_ GE361.out | refine below_set ?_ GE373.out) | exact HB.out)) hb); have n13_ := Aside0.mk (hbox); have n14_ := Aside0.mk ((by rw [hg]; exact (below_size (by repeat (first | (with_reducible first | exact HB.out | apply below_alloc | apply pw_below_drewN | apply below_drew1 | refine below_set ?_ GE361.out | refine below_set ?_ GE373.out) | exact HB.out))) : w.heap.size ≤ gb383)); have n15_ := Aside0.mk ((by rw [hg]; exact (below_size (by repeat (first | (with_reducible first | exact HB.out | apply below_alloc | apply pw_below_drewN | apply below_drew1 | refine below_set ?_ GE361.out | refine below_set ?_ GE373.out) | exact HB.out))) : w.heap.size ≤ gb383)); have n16_ := Aside0.mk ((by rw [hg]; exact Nat.ne_of_lt (blk_lt (g := gb361) (o := .cells #[.slice none 0 0, .slice none 0 0, .int .i64 0, .int .i64 0, .slice none 0 0] 26 (0, 0)) (by (with_reducible repeat (first | refine blk_drewN ?_ _ | refine blk_drew ?_ | refine blk_alloc ?_ _)); exact BK361.out)) : gb361 ≠ gb383)); have n17_ := Aside0.mk ((by rw [hg]; exact Nat.ne_of_gt (blk_lt (g := gb361) (o := .cells #[.slice none 0 0, .slice none 0 0, .int .i64 0, .int .i64 0, .slice none 0 0] 26 (0, 0)) (by (with_reducible repeat (first | refine blk_drewN ?_ _ | refine blk_drew ?_ | refine blk_alloc ?_ _)); exact BK361.out)) : gb383 ≠ gb361)); have n18_ := Aside0.mk ((by rw [hg]; exact Nat.ne_of_lt (blk_lt (g := gb373) (o := .cells #[.slice Ao6 t362.length co6, .slice Ao20 y377.length co20, .int .i64 t368, .int .i64 t369, .slice (some ad380) x374004_1.length co15] 26 (0, 0)) (by (with_reducible repeat (first | refine blk_drewN ?_ _ | refine blk_drew ?_ | refine blk_alloc ?_ _)); exact BK373.out)) : gb373 ≠ gb383)); have n19_ := Aside0.mk ((by rw [hg]; exact Nat.ne_of_gt (blk_lt (g := gb373) (o := .cells #[.slice Ao6 t362.length co6, .slice Ao20 y377.length co20, .int .i64 t368, .int .i64 t369, .slice (some ad380) x374004_1.length co15] 26 (0, 0)) (by (with_reducible repeat (first | refine blk_drewN ?_ _ | refine blk_drew ?_ | refine blk_alloc ?_ _)); exact BK373.out)) : gb383 ≠ gb373)); clear HO_5; clear HO_374000; clear HO_374001; clear HO_374004; clear HL380_1; clear HL381_1; clear BK361; clear BK373; clear HR380_1; clear HX380_1; clear HR381_1; clear HX381_1; clear HB; have HO_5 := n0_; have HO_374000 := n1_; have HO_374001 := n2_; have HO_374004 := n3_; have HL380_1 := n4_; have HL381_1 := n5_; have BK361 := n6_; have BK373 := n7_; have HR380_1 := n8_; have HX380_1 := n9_; have HR381_1 := n10_; have HX381_1 := n11_; have HB := n12_; have BK383 := n13_; have GW383 := n14_; have GE383 := n15_; have NB361_383 := n16_; have NB383_361 := n17_; have NB373_383 := n18_; have NB383_373 := n19_; clear n0_ n1_ n2_ n3_ n4_ n5_ n6_ n7_ n8_ n9_ n10_ n11_ n12_ n13_ n14_ n15_ n16_ n17_ n18_ n19_; clear hb hbox hg; have hnb42 := NB383_361.out; have hnc42 := NB361_383.out; have hnb43 := NB383_373.out; have hnc43 := NB373_383.out; have hcz44_0 : w41.cell? ⟨gb383, 0, none⟩ = some (.bool false) := (blk_cell BK383.out 0).trans rfl; have hcz44_1 : w41.cell? ⟨gb383, 1, none⟩ = some (.int .i64 0) := (blk_cell BK383.out 1).trans rfl; have hdz44 : ∀ (v0 v1 y : Value), (((w41.setCell ⟨gb383, 0, none⟩ v0).setCell ⟨gb383, 1, none⟩ v1).setCell ⟨gb383, 1, none⟩ y).cell? ⟨gb383, 1, none⟩ = some y := fun v0 v1 y => World.cell?_setCell_same _ _ _ (World.cell?_setCell_same _ _ _ ((World.cell?_setCell_other _ _ _ _ (by simp)).trans hcz44_1)); have hfz44_0 := blk_frozen BK383.out 0; have hfz44_1 := blk_frozen BK383.out 1) | ((with_reducible refine gate_builtin (b := .append) (xs := #[.tmp 59, .tmp 61]) rfl ?_); at_builtin; refine Kd.R_append k53 (w0 := w) w.heap.size rfl (.tmp 59) (.tmp 61) 28 53 (.agg #[(.bool false), (.int .i64 0)]) 16 rfl Try.underlying28 info53 rfl (by decide) (by omega) u5 x5_2 (⟨false, (rd_T53 ((rd_T30 x374004_1 x4_1).f1) x6_2).f1⟩ : S53) [.bool false, .int .i64 ((rd_T53 ((rd_T30 x374004_1 x4_1).f1) x6_2).f1)] (fun k_ => k_ ≠ gb383) (fun _ => False) rfl (by first | (go_simp; done) | (go_simp; rfl)) ?aP (fun _ hk => hk.elim) ?aF ?aO ?aB ?aS ?aL ?_; (case aP => exact k53_mkM _ _ _ (⟨false, (rd_T53 ((rd_T30 x374004_1 x4_1).f1) x6_2).f1⟩ : S53)); (case aB => exact (by repeat (first | (with_reducible first | exact HB.out | apply below_alloc | apply pw_below_drewN | apply below_drew1 | refine below_set ?_ GE361.out | refine below_set ?_ GE373.out | refine below_set ?_ GE383.out) | exact HB.out))); (case aF => exact (fun k_ hk => Kd.freshB (g := gb383) (o := .cells #[.bool false, .int .i64 ((rd_T53 ((rd_T30 x374004_1 x4_1).f1) x6_2).f1)] 53 (0, 0)) (by (with_reducible repeat (first | refine blk_drewN ?_ _ | refine blk_drew ?_ | refine blk_alloc ?_ _)); refine blk_put (cs := #[.bool false, .int .i64 0]) ?_ 1 _ rfl; (with_reducible repeat (first | refine blk_drewN ?_ _ | refine blk_drew ?_ | refine blk_alloc ?_ _)); refine blk_put (cs := #[.bool false, .int .i64 0]) ?_ 0 _ rfl; (with_reducible repeat (first | refine blk_drewN ?_ _ | refine blk_drew ?_ | refine blk_alloc ?_ _)); exact BK383.out) k_ hk)); (case aO => exact (by (with_reducible repeat (first | apply Kd.R_alloc | apply Kd.R_drewN | apply Kd.R_drew)); exact Kd.R_mono (Kd.R_far (p := ⟨gb383, 1, none⟩) (Kd.R_far (p := ⟨gb383, 0, none⟩) (Kd.R_mono HO_5.out (fun k_ hk => (⟨hk, hk.2⟩ : _ ∧ k_ ≠ gb383))) (fun _ hk => hk.2) (.bool false)) (fun _ hk => hk.2) (.int .i64 ((rd_T53 ((rd_T30 x374004_1 x4_1).f1) x6_2).f1))) (fun _ hk => hk.1.2))); (case aS => exact (below_size (by repeat (first | (with_reducible first | exact HB.out | apply below_alloc | apply pw_below_drewN | apply below_drew1 | refine below_set ?_ GE361.out | refine below_set ?_ GE373.out | refine below_set ?_ GE383.out) | exact HB.out)))); (case aL => have := LMc38.out; omega); intro v388 w45 ho hb hg hat; rw [← Ny387.out] at ho; have n0_ := Aside0.mk (Kd.R_over' (by (with_reducible repeat (first | apply Kd.R_alloc | apply Kd.R_drewN | apply Kd.R_drew)); exact (Kd.R_mono (Kd.R_far (p := ⟨gb383, 1, none⟩) (Kd.R_far (p := ⟨gb383, 0, none⟩) (Kd.R_types HO_374000.out BK383.out (by decide)) (fun _ hk => hk.2) (.bool false)) (fun _ hk => hk.2) (.int .i64 ((rd_T53 ((rd_T30 x374004_1 x4_1).f1) x6_2).f1))) (fun _ h_ => h_.1))) (Kd.R_typed (by (with_reducible repeat (first | apply Kd.R_alloc | apply Kd.R_drewN | apply Kd.R_drew)); exact (Kd.R_mono (Kd.R_far (p := ⟨gb383, 1, none⟩) (Kd.R_far (p := ⟨gb383, 0, none⟩) (Kd.R_mono HO_5.out (fun k_ hk => (⟨hk, hk.2⟩ : _ ∧ k_ ≠ gb383))) (fun _ hk => hk.2) (.bool false)) (fun _ hk => hk.2) (.int .i64 ((rd_T53 ((rd_T30 x374004_1 x4_1).f1) x6_2).f1))) (fun _ h_ => h_.1)))) (by decide) hg); have n1_ := Aside0.mk (Kd.R_over' (by (with_reducible repeat (first | apply Kd.R_alloc | apply Kd.R_drewN | apply Kd.R_drew)); exact (Kd.R_mono (Kd.R_far (p := ⟨gb383, 1, none⟩) (Kd.R_far (p := ⟨gb383, 0, none⟩) (Kd.R_types HO_374001.out BK383.out (by decide)) (fun _ hk => hk.2) (.bool false)) (fun _ hk => hk.2) (.int .i64 ((rd_T53 ((rd_T30 x374004_1 x4_1).f1) x6_2).f1))) (fun _ h_ => h_.1))) (Kd.R_typed (by (with_reducible repeat (first | apply Kd.R_alloc | apply Kd.R_drewN | apply Kd.R_drew)); exact (Kd.R_mono (Kd.R_far (p := ⟨gb383, 1, none⟩) (Kd.R_far (p := ⟨gb383, 0, none⟩) (Kd.R_mono HO_5.out (fun k_ hk => (⟨hk, hk.2⟩ : _ ∧ k_ ≠ gb383))) (fun _ hk => hk.2) (.bool false)) (fun _ hk => hk.2) (.int .i64 ((rd_T53 ((rd_T30 x374004_1 x4_1).f1) x6_2).f1))) (fun _ h_ => h_.1)))) (by decide) hg); have n2_ := Aside0.mk (Kd.S_after (ok := (fun k_ => k_ ≠ gb383)) (by (with_reducible repeat (first | apply Kd.S_alloc | apply Kd.S_drewN | apply Kd.S_drew)); exact Kd.S_mono (Kd.S_far (p := ⟨gb383, 1, none⟩) (Kd.S_far (p := ⟨gb383, 0, none⟩) (Kd.S_mono HO_374004.out (fun k_ hk => (⟨hk, hk.2⟩ : _ ∧ k_ ≠ gb383))) (fun _ hk => hk.2) (.bool false)) (fun _ hk => hk.2) (.int .i64 ((rd_T53 ((rd_T30 x374004_1 x4_1).f1) x6_2).f1))) (fun _ hk => ⟨hk.1.2, hk.1.1⟩)) hg hat); have n3_ := Aside0.mk (blk_grown (g := gb361) (o := .cells #[.slice none 0 0, .slice none 0 0, .int .i64 0, .int .i64 0, .slice none 0 0] 26 (0, 0)) (by (with_reducible repeat (first | refine blk_drewN ?_ _ | refine blk_drew ?_ | refine blk_alloc ?_ _)); refine blk_far ?_ NB361_383.out _; (with_reducible repeat (first | refine blk_drewN ?_ _ | refine blk_drew ?_ | refine blk_alloc ?_ _)); refine blk_far ?_ NB361_383.out _; (with_reducible repeat (first | refine blk_drewN ?_ _ | refine blk_drew ?_ | refine blk_alloc ?_ _)); exact BK361.out) hg (Kd.R_ne HO_5.out BK361.out (by decide))); have n4_ := Aside0.mk (blk_grown (g := gb373) (o := .cells #[.slice Ao6 t362.length co6, .slice Ao20 y377.length co20, .int .i64 t368, .int .i64 t369, .slice (some ad380) x374004_1.length co15] 26 (0, 0)) (by (with_reducible repeat (first | refine blk_drewN ?_ _ | refine blk_drew ?_ | refine blk_alloc ?_ _)); refine blk_far ?_ NB373_383.out _; (with_reducible repeat (first | refine blk_drewN ?_ _ | refine blk_drew ?_ | refine blk_alloc ?_ _)); refine blk_far ?_ NB373_383.out _; (with_reducible repeat (first | refine blk_drewN ?_ _ | refine blk_drew ?_ | refine blk_alloc ?_ _)); exact BK373.out) hg (Kd.R_ne HO_5.out BK373.out (by decide))); have n5_ := Aside0.mk (Kd.R_after (ok := (fun k_ => some k_ ≠ (.slice (some ad380) x374004_1.length co15 : Value).ownBlock ∧ k_ ≠ gb383)) (by (with_reducible repeat (first | apply Kd.R_alloc | apply Kd.R_drewN | apply Kd.R_drew)); exact Kd.R_mono (Kd.R_far (p := ⟨gb383, 1, none⟩) (Kd.R_far (p := ⟨gb383, 0, none⟩) (Kd.R_mono HL380_1.out (fun k_ hk => (⟨hk, hk.2⟩ : _ ∧ k_ ≠ gb383))) (fun _ hk => hk.2) (.bool false)) (fun _ hk => hk.2) (.int .i64 ((rd_T53 ((rd_T30 x374004_1 x4_1).f1) x6_2).f1))) (fun _ hk => ⟨⟨hk.1.1.2, hk.1.2⟩, hk.1.1.1⟩)) hg hat); have n6_ := Aside0.mk (Kd.R_after (ok := (fun k_ => some k_ ≠ (.slice (some ad380) x374004_1.length co15 : Value).ownBlock ∧ k_ ≠ gb383)) (by (with_reducible repeat (first | apply Kd.R_alloc | apply Kd.R_drewN | apply Kd.R_drew)); exact Kd.R_mono (Kd.R_far (p := ⟨gb383, 1, none⟩) (Kd.R_far (p := ⟨gb383, 0, none⟩) (Kd.R_mono HL381_1.out (fun k_ hk => (⟨hk, hk.2⟩ : _ ∧ k_ ≠ gb383))) (fun _ hk => hk.2) (.bool false)) (fun _ hk => hk.2) (.int .i64 ((rd_T53 ((rd_T30 x374004_1 x4_1).f1) x6_2).f1))) (fun _ hk => ⟨⟨hk.1.1.2, hk.1.2⟩, hk.1.1.1⟩)) hg hat); have n7_ := Aside0.mk (blk_grown (g := gb383) (o := .cells #[.bool false, .int .i64 ((rd_T53 ((rd_T30 x374004_1 x4_1).f1) x6_2).f1)] 53 (0, 0)) (by (with_reducible repeat (first | refine blk_drewN ?_ _ | refine blk_drew ?_ | refine blk_alloc ?_ _)); refine blk_put (cs := #[.bool false, .int .i64 0]) ?_ 1 _ rfl; (with_reducible repeat (first | refine blk_drewN ?_ _ | refine blk_drew ?_ | refine blk_alloc ?_ _)); refine blk_put (cs := #[.bool false, .int .i64 0]) ?_ 0 _ rfl; (with_reducible repeat (first | refine blk_drewN ?_ _ | refine blk_drew ?_ | refine blk_alloc ?_ _)); exact BK383.out) hg (Kd.R_away HO_5.out (fun _ hk => hk.2))); have n8_ := Aside0.mk (hb); have n9_ := Aside0.mk (ho); clear HO_374000; clear HO_374001; clear HO_374004; clear BK361; clear BK373; clear HL380_1; clear HL381_1; clear BK383; clear HB; clear HO_5; have HO_374000 := n0_; have HO_374001 := n1_; have HO_374004 := n2_; have BK361 := n3_; have BK373 := n4_; have HL380_1 := n5_; have HL381_1 := n6_; have BK383 := n7_; have HB := n8_; have HO389 := n9_; clear n0_ n1_ n2_ n3_ n4_ n5_ n6_ n7_ n8_ n9_; clear ho hb hg hat))
           go_roundg k2
           case measure => have := HK1.out; have := HK2.out; omega
           case rel => exact ⟨(y387), (wrap64 (x6_2 + 1)), (by first | rfl | (simp; done) | (simp [*]; done)), H', ⟨by have := HK1.out; have := HK2.out; omega⟩, ⟨by (with_reducible repeat (first | apply Kd.R_alloc | apply Kd.R_drewN | apply Kd.R_drew)); exact Kd.R_mono HO389.out (fun _ hk => trivial)⟩, ⟨by (with_reducible repeat (first | apply Kd.R_alloc | apply Kd.R_drewN | apply Kd.R_drew)); exact HO_374000.out⟩, ⟨by (with_reducible repeat (first | apply Kd.R_alloc | apply Kd.R_drewN | apply Kd.R_drew)); exact HO_374001.out⟩, ⟨by (with_reducible repeat (first | apply Kd.S_alloc | apply Kd.S_drewN | apply Kd.S_drew)); exact Kd.S_mono HO_374004.out (fun _ hk => hk.2)⟩, ⟨by (with_reducible repeat (first | refine blk_drewN ?_ _ | refine blk_drew ?_ | refine blk_alloc ?_ _)); exact BK361.out⟩, ⟨by (with_reducible repeat (first | refine blk_drewN ?_ _ | refine blk_drew ?_ | refine blk_alloc ?_ _)); exact BK373.out⟩, ⟨by repeat (first | (with_reducible first | exact HB.out | apply below_alloc | apply pw_below_drewN | apply below_drew1 | refine below_set ?_ GE361.out | refine below_set ?_ GE373.out | refine below_set ?_ GE383.out) | exact HB.out)⟩⟩
       · rw [if_neg c24] at H
         have c24b0 : decide (x6_2 < (((rd_T30 x374004_1 x4_1).f1).length : Int)) = false := decide_eq_false c24
         clear c24
         by_cases c46 : (x5_2.length : Int) > 0
         · rw [if_pos c46] at H
           have c46b0 : decide (0 < (x5_2.length : Int)) = true := decide_eq_true c46
           have c46b1 : decide (0 < x5_2.length) = true := decide_eq_true (by omega)
           clear c46
           by_cases c47 : 0 < (x5_2.length : Int)
           rotate_left
           · rw [if_neg c47] at H
             exact absurd H (by simp)
           rw [if_pos c47] at H
           have c47b0 : decide (0 < (x5_2.length : Int)) = true := decide_eq_true c47
           have c47b1 : decide (0 < x5_2.length) = true := decide_eq_true (by omega)
           clear c47
           obtain ⟨y390, hy390⟩ : ∃ y_ : List (S53), y_ = (x5_2.set (0 : Int).toNat (⟨true, x4_1⟩ : S53)) := ⟨_, rfl⟩
           replace H : (regletlaw14_Clear.l0 k2 (wrap64 (x4_1 + 1)) t362 y377 t368 t369 (x374004_1.set (x4_1 : Int).toNat (⟨(rd_T30 x374004_1 x4_1).f0, y390⟩ : S30))) = some (r1, r2, r3, r4, r5) := by first | (rw [hy390]; with_reducible exact H) | (have H2_ := (Option.bind_some _ _).symm.trans H; rw [hy390]; with_reducible exact H2_) | (have H2_ := (Option.bind_some _ _).symm.trans H; with_reducible exact H2_) | with_reducible exact H | (rw [hy390]; exact H) | exact H
           have Ny390 := Aside0.mk hy390
           clear hy390
           obtain ⟨y391, hy391⟩ : ∃ y_ : List (S30), y_ = (x374004_1.set (x4_1 : Int).toNat (⟨(rd_T30 x374004_1 x4_1).f0, y390⟩ : S30)) := ⟨_, rfl⟩
           replace H : (regletlaw14_Clear.l0 k2 (wrap64 (x4_1 + 1)) t362 y377 t368 t369 y391) = some (r1, r2, r3, r4, r5) := by first | (rw [hy391]; with_reducible exact H) | (have H2_ := (Option.bind_some _ _).symm.trans H; rw [hy391]; with_reducible exact H2_) | (have H2_ := (Option.bind_some _ _).symm.trans H; with_reducible exact H2_) | with_reducible exact H | (rw [hy391]; exact H) | exact H
           have Ny391 := Aside0.mk hy391
           clear hy391
           have H' := Aside0.mk H
           clear H
           have hnb50 := NB373_361.out
           have hnc50 := NB361_373.out
           have hcz51_0 : wr.cell? ⟨gb373, 0, none⟩ = some (.slice Ao6 t362.length co6) := (blk_cell BK373.out 0).trans rfl
           have hcz51_1 : wr.cell? ⟨gb373, 1, none⟩ = some (.slice Ao20 y377.length co20) := (blk_cell BK373.out 1).trans rfl
           have hcz51_2 : wr.cell? ⟨gb373, 2, none⟩ = some (.int .i64 t368) := (blk_cell BK373.out 2).trans rfl
           have hcz51_3 : wr.cell? ⟨gb373, 3, none⟩ = some (.int .i64 t369) := (blk_cell BK373.out 3).trans rfl
           have hcz51_4 : wr.cell? ⟨gb373, 4, none⟩ = some (.slice Ao15 x374004_1.length co15) := (blk_cell BK373.out 4).trans rfl
           have hfz51_0 := blk_frozen BK373.out 0
           have hfz51_1 := blk_frozen BK373.out 1
           have hfz51_2 := blk_frozen BK373.out 2
           have hfz51_3 := blk_frozen BK373.out 3
           have hfz51_4 := blk_frozen BK373.out 4
           have p380 : 0 ≤ (x4_1 : Int) := of_decide_eq_true (by first | (with_reducible assumption) | assumption)
           have q380 : x4_1 < (x374004_1.length : Int) := of_decide_eq_true (by first | (with_reducible assumption) | assumption)
           obtain ⟨ad380, A380_1, c380_1, e380, hx380_0, hx380_1, hl380_1, hi380_1⟩ := at_T30 (Kd.S_reads' HO_374004.out).2.2 x4_1 p380 q380
           cases e380
           obtain ⟨ce380, hce380, hMe380, hcc380⟩ := Kd.S_get HO_374004.out z30 x4_1 p380 (by first | exact q380 | exact of_decide_eq_true (by first | (with_reducible assumption) | assumption) | (have e_ := (Kd.S_reads' HO_374004.out).1; omega))
           obtain ⟨ve380_1, rfl, ge380_1⟩ := k30_openM hMe380
           have hv380_1 := hcc380 1 _ rfl
           rw [add_field _ _ 1 (by omega)] at hv380_1
           replace hv380_1 := Option.some.inj (hv380_1.symm.trans hx380_1)
           rw [hv380_1] at ge380_1
           have HL380_1 := Aside0.mk (show Kd.R k53 53 _ _ _ _ ((rd_T30 x374004_1 x4_1).f1) from ge380_1)
           clear hv380_1 ge380_1
           have HX380_1 := Aside0.mk hx380_1
           clear hcc380 hce380
           have HR380_1 := Aside0.mk hi380_1
           have HC380_1 := Aside0.mk hl380_1
           clear hi380_1 hl380_1
           replace p380 := eq_true p380
           replace q380 := eq_true q380
           obtain ⟨Ao52, co52, eo52⟩ := Kd.R_slice HO_5.out
           subst eo52
           have p48 : 0 ≤ (0 : Int) := (by omega)
           have q48 : (0 : Int) < ((x5_2.length : Int) : Int) := of_decide_eq_true (by first | (with_reducible assumption) | assumption)
           have qi48 : (0 < x5_2.length) = True := eq_true (by omega)
           obtain ⟨go48, co48, eo48, gb48, gl48, cl48, HG48⟩ := Kd.R_form HO_5.out (by omega)
           (first | cases eo48 | (injection eo48 with ea_ en_ ec_; (first | subst ea_ | (injection ea_ with ea_; subst ea_)); subst ec_; clear en_))
           have GB48 := Aside0.mk gb48
           have GG48 := Aside0.mk HG48
           clear gb48 gl48 HG48
           obtain ⟨ce48, hcl48, hM48, hcc48, hfr48⟩ := Kd.R_elem HO_5.out z53 (0 : Int) p48 q48
           obtain rfl := k53_openM hM48
           have hx48_0 : wr.cell? ⟨go48, (0 : Int).toNat * 2, none⟩ = some (.bool ((rd_T53 x5_2 0).f0)) := hcc48 0 _ rfl
           have hx48_1 : wr.cell? ⟨go48, (0 : Int).toNat * 2 + 1, none⟩ = some (.int .i64 ((rd_T53 x5_2 0).f1)) := hcc48 1 _ rfl
           have hf48_0 : wr.frozen? ⟨go48, (0 : Int).toNat * 2, none⟩ = false := hfr48 0
           have hf48_1 : wr.frozen? ⟨go48, (0 : Int).toNat * 2 + 1, none⟩ = false := hfr48 1
           clear hcl48 hcc48 hfr48; (try clear hM48)
           (try rw [show ((0 : Int)).toNat = 0 from rfl] at hx48_0)
           (try simp only [Nat.reduceMul, Nat.zero_mul, Nat.zero_add, Nat.reduceAdd] at hx48_0)
           (try rw [show ((0 : Int)).toNat = 0 from rfl] at hf48_0)
           (try simp only [Nat.reduceMul, Nat.zero_mul, Nat.zero_add, Nat.reduceAdd] at hf48_0)
           (try rw [show ((0 : Int)).toNat = 0 from rfl] at hx48_1)
           (try simp only [Nat.reduceMul, Nat.zero_mul, Nat.zero_add, Nat.reduceAdd] at hx48_1)
           (try rw [show ((0 : Int)).toNat = 0 from rfl] at hf48_1)
           (try simp only [Nat.reduceMul, Nat.zero_mul, Nat.zero_add, Nat.reduceAdd] at hf48_1)
           replace p48 := eq_true p48
           replace q48 := eq_true q48
           have HX53 := Aside0.mk (show Kd.R k53 53 wr w.heap.size (fun _ => True) (.slice (some ⟨go48, 0, none⟩) x5_2.length co52) x5_2 from (by (with_reducible repeat (first | apply Kd.R_alloc | apply Kd.R_drewN | apply Kd.R_drew)); exact HO_5.out))
           obtain ⟨ce53, hcl53, hM53, hcc53, hfr53⟩ := Kd.R_elem HX53.out z53 (0 : Int) (by omega) (by have h_ : (0 : Int) < ((x5_2.length : Int) : Int) := of_decide_eq_true (by first | (with_reducible assumption) | assumption); first | exact h_ | (have e_ := (Kd.R_reads' HO_5.out).1; omega) | simpa using h_)
           obtain rfl := k53_openM hM53
           have HP53 := Kd.R_seg HX53.out (0 : Int) (by omega) (by have h_ : (0 : Int) < ((x5_2.length : Int) : Int) := of_decide_eq_true (by first | (with_reducible assumption) | assumption); first | exact h_ | (have e_ := (Kd.R_reads' HO_5.out).1; omega) | simpa using h_) (seg := [.bool true, .int .i64 x4_1]) (j := 0) hcl53 hcc53 (show 2 ≤ 2 from by decide) (x' := (⟨true, x4_1⟩ : S53)) (k53_mkM _ _ _ (⟨true, x4_1⟩ : S53) ) (fun _ hk => hk)
           have hx53_0 := hcc53 0 _ rfl
           (try simp only [show (k53).sz = 2 from rfl, Nat.mul_one, Nat.add_zero] at hx53_0)
           (try rw [show ((0 : Int)).toNat = 0 from rfl] at hx53_0)
           (try simp only [Nat.reduceMul, Nat.zero_mul, Nat.zero_add, Nat.reduceAdd] at hx53_0)
           have hf53_0 := hfr53 0
           (try simp only [show (k53).sz = 2 from rfl, Nat.mul_one, Nat.add_zero] at hf53_0)
           (try rw [show ((0 : Int)).toNat = 0 from rfl] at hf53_0)
           (try simp only [Nat.reduceMul, Nat.zero_mul, Nat.zero_add, Nat.reduceAdd] at hf53_0)
           have hx53_1 := hcc53 1 _ rfl
           (try simp only [show (k53).sz = 2 from rfl, Nat.mul_one, Nat.add_zero] at hx53_1)
           (try rw [show ((0 : Int)).toNat = 0 from rfl] at hx53_1)
           (try simp only [Nat.reduceMul, Nat.zero_mul, Nat.zero_add, Nat.reduceAdd] at hx53_1)
           have hf53_1 := hfr53 1
           (try simp only [show (k53).sz = 2 from rfl, Nat.mul_one, Nat.add_zero] at hf53_1)
           (try rw [show ((0 : Int)).toNat = 0 from rfl] at hf53_1)
           (try simp only [Nat.reduceMul, Nat.zero_mul, Nat.zero_add, Nat.reduceAdd] at hf53_1)
           clear hcl53 hcc53 hfr53; (try clear hM53)
           go_wp2_with (first | ((with_reducible refine gate_store (t := 53) (p := 69) rfl ?_); refine store_event (t := 53) (p := 69) (v := ?vo_w54) (w1 := ((wr.setCell ⟨go48, 0, none⟩ (.bool true)).setCell ⟨go48, 1, none⟩ (.int .i64 x4_1))) ?hg ?ho ?hn ?hr ?_; (case ho => rfl); (case hg => rfl); (case hn => rfl); (case hr => first | (go_simp; done) | (go_simp; rfl)); intro w54 hw; have hg : wr.grownBy w54 (some go48) := (by rw [hw]; exact HP53.2); have hp_ : Kd.R k53 53 w54 w.heap.size (fun _ => True) (.slice (some ⟨go48, 0, none⟩) x5_2.length co52) y390 := (by rw [hw, Ny390.out]; exact HP53.1); clear HP53; have n0_ := Aside0.mk (hp_); have n1_ := Aside0.mk (Kd.R_over' (v := (.slice (some ⟨go48, 0, none⟩) x5_2.length co52)) (by (with_reducible repeat (first | apply Kd.R_alloc | apply Kd.R_drewN | apply Kd.R_drew)); exact HO_374000.out) (Kd.R_typed HO_5.out) (by decide) hg); have n2_ := Aside0.mk (Kd.R_over' (v := (.slice (some ⟨go48, 0, none⟩) x5_2.length co52)) (by (with_reducible repeat (first | apply Kd.R_alloc | apply Kd.R_drewN | apply Kd.R_drew)); exact HO_374001.out) (Kd.R_typed HO_5.out) (by decide) hg); have n3_ := Aside0.mk (Kd.S_after (v := (.slice (some ⟨go48, 0, none⟩) x5_2.length co52)) (v1 := (.slice (some ⟨go48, 0, none⟩) x5_2.length co52)) (ok := (fun _ => True)) (by (with_reducible repeat (first | apply Kd.S_alloc | apply Kd.S_drewN | apply Kd.S_drew)); exact Kd.S_mono HO_374004.out (fun _ hk => ⟨trivial, hk⟩)) hg (.inl rfl)); have n4_ := Aside0.mk (blk_grown (g := gb361) (o := .cells #[.slice none 0 0, .slice none 0 0, .int .i64 0, .int .i64 0, .slice none 0 0] 26 (0, 0)) (by (with_reducible repeat (first | refine blk_drewN ?_ _ | refine blk_drew ?_ | refine blk_alloc ?_ _)); exact BK361.out) hg (Kd.R_ne HO_5.out BK361.out (by decide))); have n5_ := Aside0.mk (blk_grown (g := gb373) (o := .cells #[.slice Ao6 t362.length co6, .slice Ao20 y377.length co20, .int .i64 t368, .int .i64 t369, .slice (some ad380) x374004_1.length co15] 26 (0, 0)) (by (with_reducible repeat (first | refine blk_drewN ?_ _ | refine blk_drew ?_ | refine blk_alloc ?_ _)); exact BK373.out) hg (Kd.R_ne HO_5.out BK373.out (by decide))); have n6_ := Aside0.mk (Kd.R_after (v := (.slice (some ⟨go48, 0, none⟩) x5_2.length co52)) (v1 := (.slice (some ⟨go48, 0, none⟩) x5_2.length co52)) (ok := (fun k_ => some k_ ≠ (.slice (some ad380) x374004_1.length co15 : Value).ownBlock)) (by (with_reducible repeat (first | apply Kd.R_alloc | apply Kd.R_drewN | apply Kd.R_drew)); exact Kd.R_mono HL380_1.out (fun _ hk => ⟨hk.2, hk.1⟩)) hg (.inl rfl)); have n7_ := Aside0.mk ((by rw [hw]; exact below_set (below_set (HB.out) GB48.out) GB48.out : Below w.heap.size w w54)); clear HO_5; clear HO_374000; clear HO_374001; clear HO_374004; clear BK361; clear BK373; clear HL380_1; clear HB; have HO_5 := n0_; have HO_374000 := n1_; have HO_374001 := n2_; have HO_374004 := n3_; have BK361 := n4_; have BK373 := n5_; have HL380_1 := n6_; have HB := n7_; clear n0_ n1_ n2_ n3_ n4_ n5_ n6_ n7_; clear hg hw hp_; have hcz55_0 : w54.cell? ⟨gb373, 0, none⟩ = some (.slice Ao6 t362.length co6) := (blk_cell BK373.out 0).trans rfl; have hcz55_1 : w54.cell? ⟨gb373, 1, none⟩ = some (.slice Ao20 y377.length co20) := (blk_cell BK373.out 1).trans rfl; have hcz55_2 : w54.cell? ⟨gb373, 2, none⟩ = some (.int .i64 t368) := (blk_cell BK373.out 2).trans rfl; have hcz55_3 : w54.cell? ⟨gb373, 3, none⟩ = some (.int .i64 t369) := (blk_cell BK373.out 3).trans rfl; have hcz55_4 : w54.cell? ⟨gb373, 4, none⟩ = some (.slice (some ad380) x374004_1.length co15) := (blk_cell BK373.out 4).trans rfl; have hfz55_0 := blk_frozen BK373.out 0; have hfz55_1 := blk_frozen BK373.out 1; have hfz55_2 := blk_frozen BK373.out 2; have hfz55_3 := blk_frozen BK373.out 3; have hfz55_4 := blk_frozen BK373.out 4; have p49 : 0 ≤ (x4_1 : Int) := of_decide_eq_true (by first | (with_reducible assumption) | assumption); have q49 : (x4_1 : Int) < ((x374004_1.length : Int) : Int) := of_decide_eq_true (by first | (with_reducible assumption) | assumption); obtain ⟨go49, co49, eo49, gb49, gl49, cl49, HG49⟩ := Kd.S_form HO_374004.out (by omega); (first | cases eo49 | (injection eo49 with ea_ en_ ec_; (first | subst ea_ | (injection ea_ with ea_; subst ea_)); subst ec_; clear en_)); have GB49 := Aside0.mk gb49; have GG49 := Aside0.mk HG49; clear gb49 gl49 HG49; (first | simp only [add_plain] at hx380_0 | skip); (first | simp only [add_plain] at hx380_1 | skip); (first | simp only [add_plain] at hx381_0 | skip); (first | simp only [add_plain] at hx381_1 | skip); obtain ⟨_, ce49, hcl49, hM49, hcc49, hfr49, _, _⟩ := Kd.S_elem HO_374004.out z30 (x4_1 : Int) p49 q49; obtain ⟨ve49_1, rfl, ge49_1⟩ := k30_openM hM49; have hx49_0 : w54.cell? ⟨go49, (x4_1 : Int).toNat * 2, none⟩ = some (.int .i64 ((rd_T30 x374004_1 x4_1).f0)) := hcc49 0 _ rfl; have hx49_1 : w54.cell? ⟨go49, (x4_1 : Int).toNat * 2 + 1, none⟩ = some (ve49_1) := hcc49 1 _ rfl; have hf49_0 : w54.frozen? ⟨go49, (x4_1 : Int).toNat * 2, none⟩ = false := hfr49 0; have hf49_1 : w54.frozen? ⟨go49, (x4_1 : Int).toNat * 2 + 1, none⟩ = false := hfr49 1; clear hcl49 hcc49 hfr49; (try clear hM49); replace p49 := eq_true p49; replace q49 := eq_true q49; have n_ := Aside0.mk (Kd.S_mono (ok' := (fun k_ => some k_ ≠ (.slice (some ⟨go48, 0, none⟩) x5_2.length co52 : Value).ownBlock)) HO_374004.out (fun k_ hk => hk.2)); clear HO_374004; have HO_374004 := n_; clear n_; have HX56 := Aside0.mk (show Kd.S k30 30 w54 w.heap.size (fun k_ => ((fun _ => True)) k_ ∧ ¬ ((fun k_ => some k_ = (.slice (some ⟨go48, 0, none⟩) x5_2.length co52 : Value).ownBlock)) k_) (.slice (some ⟨go49, 0, none⟩) x374004_1.length co15) x374004_1 from (by (with_reducible repeat (first | apply Kd.S_alloc | apply Kd.S_drewN | apply Kd.S_drew)); exact Kd.S_mono HO_374004.out (fun k_ hk => ⟨trivial, fun e_ => hk e_⟩))); obtain ⟨oki56, ce56, hcl56, hM56, hcc56, hfr56, hoki56, hH56⟩ := Kd.S_elem HX56.out z30 (x4_1 : Int) (of_decide_eq_true (by first | (with_reducible assumption) | assumption)) (by have h_ : (x4_1 : Int) < ((x374004_1.length : Int) : Int) := of_decide_eq_true (by first | (with_reducible assumption) | assumption); first | exact h_ | (have e_ := (Kd.S_reads' HO_374004.out).1; omega) | simpa using h_); obtain ⟨ve56_1, rfl, ge56_1⟩ := k30_openM hM56; have HP56 := Kd.S_seg hH56 (of_decide_eq_true (by first | (with_reducible assumption) | assumption)) (by have h_ : (x4_1 : Int) < ((x374004_1.length : Int) : Int) := of_decide_eq_true (by first | (with_reducible assumption) | assumption); first | exact h_ | (have e_ := (Kd.S_reads' HO_374004.out).1; omega) | simpa using h_) (seg := [.slice (some ⟨go48, 0, none⟩) x5_2.length co52]) (j := 1) (show 2 ≤ 2 from by decide) (x' := (⟨(rd_T30 x374004_1 x4_1).f0, y390⟩ : S30)) (k30_mkM _ _ _ (⟨(rd_T30 x374004_1 x4_1).f0, y390⟩ : S30) (Kd.R_mono (Kd.R_tight rfl (Kd.R_mono (ok' := fun k_ => ((fun _ => True)) k_ ∧ k_ ≠ go49) (Kd.R_apart' (HO_5.out) (Kd.S_typed HO_374004.out) (by decide)) (fun k_ hk => ⟨trivial, fun e_ => (hk.2) (by rw [e_]; rfl)⟩))) (fun _ h_ => Or.inr (h_)))) (fun _ hk => hk) (fun k_ hk_ => ((Kd.R_mono (ok' := fun k_ => ((fun _ => True)) k_ ∧ k_ ≠ go49) (Kd.R_apart' (HO_5.out) (Kd.S_typed HO_374004.out) (by decide)) (fun k_ hk => ⟨trivial, fun e_ => (hk.2) (by rw [e_]; rfl)⟩))).1 k_ hk_.symm); have hx56_1 := hcc56 1 _ rfl; (try simp only [show (k30).sz = 2 from rfl, Nat.mul_one, Nat.add_zero] at hx56_1); have hf56_1 := hfr56 1; (try simp only [show (k30).sz = 2 from rfl, Nat.mul_one, Nat.add_zero] at hf56_1); clear hcl56 hcc56 hfr56; (try clear hM56); clear hoki56 hH56) | ((with_reducible refine gate_store (t := 28) (p := 75) rfl ?_); refine store_event (t := 28) (p := 75) (v := ?vo_w57) (w1 := (w54.setCell ⟨go49, (x4_1 : Int).toNat * 2 + 1, none⟩ (.slice (some ⟨go48, 0, none⟩) x5_2.length co52))) ?hg ?ho ?hn ?hr ?_; (case ho => rfl); (case hg => rfl); (case hn => rfl); (case hr => first | (go_simp; done) | (go_simp; rfl) | (obtain ⟨A_, c_, e_⟩ := Kd.R_slice HO_5.out; rw [e_]; first | (go_simp; done) | (go_simp; rfl))); intro w57 hw; have hg : w54.grownBy w57 (some go49) := (by rw [hw]; exact HP56.2); have hp_ : Kd.S k30 30 w57 w.heap.size (fun _ => True) (.slice (some ⟨go49, 0, none⟩) x374004_1.length co15) y391 := (by rw [hw, Ny391.out]; exact HP56.1); clear HP56; have n0_ := Aside0.mk (Kd.R_over' (v := (.slice (some ⟨go49, 0, none⟩) x374004_1.length co15)) (by (with_reducible repeat (first | apply Kd.R_alloc | apply Kd.R_drewN | apply Kd.R_drew)); exact HO_374000.out) (Kd.S_typed HO_374004.out) (by decide) hg); have n1_ := Aside0.mk (Kd.R_over' (v := (.slice (some ⟨go49, 0, none⟩) x374004_1.length co15)) (by (with_reducible repeat (first | apply Kd.R_alloc | apply Kd.R_drewN | apply Kd.R_drew)); exact HO_374001.out) (Kd.S_typed HO_374004.out) (by decide) hg); have n2_ := Aside0.mk (hp_); have n3_ := Aside0.mk (blk_grown (g := gb361) (o := .cells #[.slice none 0 0, .slice none 0 0, .int .i64 0, .int .i64 0, .slice none 0 0] 26 (0, 0)) (by (with_reducible repeat (first | refine blk_drewN ?_ _ | refine blk_drew ?_ | refine blk_alloc ?_ _)); exact BK361.out) hg (Kd.S_ne HO_374004.out BK361.out (by decide))); have n4_ := Aside0.mk (blk_grown (g := gb373) (o := .cells #[.slice Ao6 t362.length co6, .slice Ao20 y377.length co20, .int .i64 t368, .int .i64 t369, .slice (some ⟨go49, 0, none⟩) x374004_1.length co15] 26 (0, 0)) (by (with_reducible repeat (first | refine blk_drewN ?_ _ | refine blk_drew ?_ | refine blk_alloc ?_ _)); exact BK373.out) hg (Kd.S_ne HO_374004.out BK373.out (by decide))); have n5_ := Aside0.mk (Kd.R_after (v := (.slice (some ⟨go49, 0, none⟩) x374004_1.length co15)) (v1 := (.slice (some ⟨go49, 0, none⟩) x374004_1.length co15)) (ok := (fun k_ => some k_ ≠ (.slice (some ⟨go48, 0, none⟩) x5_2.length co52 : Value).ownBlock)) (by (with_reducible repeat (first | apply Kd.R_alloc | apply Kd.R_drewN | apply Kd.R_drew)); exact Kd.R_mono HL380_1.out (fun _ hk => ⟨hk.2, hk.1⟩)) hg (.inl rfl)); have n6_ := Aside0.mk ((by rw [hw]; exact below_set (HB.out) GB49.out : Below w.heap.size w w57)); clear HO_374000; clear HO_374001; clear HO_374004; clear BK361; clear BK373; clear HL380_1; clear HB; clear HO_5; have HO_374000 := n0_; have HO_374001 := n1_; have HO_374004 := n2_; have BK361 := n3_; have BK373 := n4_; have HL380_1 := n5_; have HB := n6_; clear n0_ n1_ n2_ n3_ n4_ n5_ n6_; clear hg hw hp_))
           go_roundg k2
           case measure => have := HK1.out; have := HK2.out; omega
           case rel => exact ⟨(wrap64 (x4_1 + 1)), (y377), (y391), (.slice Ao20 y377.length co20), (.slice (some ⟨go49, 0, none⟩) x374004_1.length co15), (by first | rfl | (simp; done) | (simp [*]; done)), H', ⟨by have := HK1.out; have := HK2.out; omega⟩, ⟨by (with_reducible repeat (first | apply Kd.R_alloc | apply Kd.R_drewN | apply Kd.R_drew)); exact HO_374000.out⟩, ⟨by (with_reducible repeat (first | apply Kd.R_alloc | apply Kd.R_drewN | apply Kd.R_drew)); exact HO_374001.out⟩, ⟨by (with_reducible repeat (first | apply Kd.S_alloc | apply Kd.S_drewN | apply Kd.S_drew)); exact HO_374004.out⟩, ⟨by (with_reducible repeat (first | refine blk_drewN ?_ _ | refine blk_drew ?_ | refine blk_alloc ?_ _)); exact BK361.out⟩, ⟨by (with_reducible repeat (first | refine blk_drewN ?_ _ | refine blk_drew ?_ | refine blk_alloc ?_ _)); exact BK373.out⟩, ⟨by repeat (first | (with_reducible first | exact HB.out | apply below_alloc | apply pw_below_drewN | apply below_drew1 | refine below_set ?_ GE361.out | refine below_set ?_ GE373.out) | exact HB.out)⟩⟩
         · rw [if_neg c46] at H
           have c46b0 : decide (0 < (x5_2.length : Int)) = false := decide_eq_false c46
           have c46b1 : decide (0 < x5_2.length) = false := decide_eq_false (by omega)
           clear c46
           obtain ⟨y392, hy392⟩ : ∃ y_ : List (S30), y_ = (x374004_1.set (x4_1 : Int).toNat (⟨(rd_T30 x374004_1 x4_1).f0, x5_2⟩ : S30)) := ⟨_, rfl⟩
           replace H : (regletlaw14_Clear.l0 k2 (wrap64 (x4_1 + 1)) t362 y377 t368 t369 y392) = some (r1, r2, r3, r4, r5) := by first | (rw [hy392]; with_reducible exact H) | (have H2_ := (Option.bind_some _ _).symm.trans H; rw [hy392]; with_reducible exact H2_) | (have H2_ := (Option.bind_some _ _).symm.trans H; with_reducible exact H2_) | with_reducible exact H | (rw [hy392]; exact H) | exact H
           have Ny392 := Aside0.mk hy392
           clear hy392
           have H' := Aside0.mk H
           clear H
           have hnb59 := NB373_361.out
           have hnc59 := NB361_373.out
           have hcz60_0 : wr.cell? ⟨gb373, 0, none⟩ = some (.slice Ao6 t362.length co6) := (blk_cell BK373.out 0).trans rfl
           have hcz60_1 : wr.cell? ⟨gb373, 1, none⟩ = some (.slice Ao20 y377.length co20) := (blk_cell BK373.out 1).trans rfl
           have hcz60_2 : wr.cell? ⟨gb373, 2, none⟩ = some (.int .i64 t368) := (blk_cell BK373.out 2).trans rfl
           have hcz60_3 : wr.cell? ⟨gb373, 3, none⟩ = some (.int .i64 t369) := (blk_cell BK373.out 3).trans rfl
           have hcz60_4 : wr.cell? ⟨gb373, 4, none⟩ = some (.slice Ao15 x374004_1.length co15) := (blk_cell BK373.out 4).trans rfl
           have hfz60_0 := blk_frozen BK373.out 0
           have hfz60_1 := blk_frozen BK373.out 1
           have hfz60_2 := blk_frozen BK373.out 2
           have hfz60_3 := blk_frozen BK373.out 3
           have hfz60_4 := blk_frozen BK373.out 4
           have p380 : 0 ≤ (x4_1 : Int) := of_decide_eq_true (by first | (with_reducible assumption) | assumption)
           have q380 : x4_1 < (x374004_1.length : Int) := of_decide_eq_true (by first | (with_reducible assumption) | assumption)
           obtain ⟨ad380, A380_1, c380_1, e380, hx380_0, hx380_1, hl380_1, hi380_1⟩ := at_T30 (Kd.S_reads' HO_374004.out).2.2 x4_1 p380 q380
           cases e380
           obtain ⟨ce380, hce380, hMe380, hcc380⟩ := Kd.S_get HO_374004.out z30 x4_1 p380 (by first | exact q380 | exact of_decide_eq_true (by first | (with_reducible assumption) | assumption) | (have e_ := (Kd.S_reads' HO_374004.out).1; omega))
           obtain ⟨ve380_1, rfl, ge380_1⟩ := k30_openM hMe380
           have hv380_1 := hcc380 1 _ rfl
           rw [add_field _ _ 1 (by omega)] at hv380_1
           replace hv380_1 := Option.some.inj (hv380_1.symm.trans hx380_1)
           rw [hv380_1] at ge380_1
           have HL380_1 := Aside0.mk (show Kd.R k53 53 _ _ _ _ ((rd_T30 x374004_1 x4_1).f1) from ge380_1)
           clear hv380_1 ge380_1
           have HX380_1 := Aside0.mk hx380_1
           clear hcc380 hce380
           have HR380_1 := Aside0.mk hi380_1
           have HC380_1 := Aside0.mk hl380_1
           clear hi380_1 hl380_1
           replace p380 := eq_true p380
           replace q380 := eq_true q380
           obtain ⟨Ao61, co61, eo61⟩ := Kd.R_slice HO_5.out
           subst eo61
           have p58 : 0 ≤ (x4_1 : Int) := of_decide_eq_true (by first | (with_reducible assumption) | assumption)
           have q58 : (x4_1 : Int) < ((x374004_1.length : Int) : Int) := of_decide_eq_true (by first | (with_reducible assumption) | assumption)
           obtain ⟨go58, co58, eo58, gb58, gl58, cl58, HG58⟩ := Kd.S_form HO_374004.out (by omega)
           (first | cases eo58 | (injection eo58 with ea_ en_ ec_; (first | subst ea_ | (injection ea_ with ea_; subst ea_)); subst ec_; clear en_))
           have GB58 := Aside0.mk gb58
           have GG58 := Aside0.mk HG58
           clear gb58 gl58 HG58
           (first | simp only [add_plain] at hx380_0 | skip)
           (first | simp only [add_plain] at hx380_1 | skip)
           obtain ⟨_, ce58, hcl58, hM58, hcc58, hfr58, _, _⟩ := Kd.S_elem HO_374004.out z30 (x4_1 : Int) p58 q58
           obtain ⟨ve58_1, rfl, ge58_1⟩ := k30_openM hM58
           have hx58_0 : wr.cell? ⟨go58, (x4_1 : Int).toNat * 2, none⟩ = some (.int .i64 ((rd_T30 x374004_1 x4_1).f0)) := hcc58 0 _ rfl
           have hx58_1 : wr.cell? ⟨go58, (x4_1 : Int).toNat * 2 + 1, none⟩ = some (ve58_1) := hcc58 1 _ rfl
           have hf58_0 : wr.frozen? ⟨go58, (x4_1 : Int).toNat * 2, none⟩ = false := hfr58 0
           have hf58_1 : wr.frozen? ⟨go58, (x4_1 : Int).toNat * 2 + 1, none⟩ = false := hfr58 1
           clear hcl58 hcc58 hfr58; (try clear hM58)
           replace p58 := eq_true p58
           replace q58 := eq_true q58
           have HX62 := Aside0.mk (show Kd.S k30 30 wr w.heap.size (fun k_ => ((fun _ => True)) k_ ∧ ¬ ((fun k_ => some k_ = (.slice Ao61 x5_2.length co61 : Value).ownBlock)) k_) (.slice (some ⟨go58, 0, none⟩) x374004_1.length co15) x374004_1 from (by (with_reducible repeat (first | apply Kd.S_alloc | apply Kd.S_drewN | apply Kd.S_drew)); exact Kd.S_mono HO_374004.out (fun k_ hk => ⟨trivial, fun e_ => hk e_⟩)))
           obtain ⟨oki62, ce62, hcl62, hM62, hcc62, hfr62, hoki62, hH62⟩ := Kd.S_elem HX62.out z30 (x4_1 : Int) (of_decide_eq_true (by first | (with_reducible assumption) | assumption)) (by have h_ : (x4_1 : Int) < ((x374004_1.length : Int) : Int) := of_decide_eq_true (by first | (with_reducible assumption) | assumption); first | exact h_ | (have e_ := (Kd.S_reads' HO_374004.out).1; omega) | simpa using h_)
           obtain ⟨ve62_1, rfl, ge62_1⟩ := k30_openM hM62
           have HP62 := Kd.S_seg hH62 (of_decide_eq_true (by first | (with_reducible assumption) | assumption)) (by have h_ : (x4_1 : Int) < ((x374004_1.length : Int) : Int) := of_decide_eq_true (by first | (with_reducible assumption) | assumption); first | exact h_ | (have e_ := (Kd.S_reads' HO_374004.out).1; omega) | simpa using h_) (seg := [.slice Ao61 x5_2.length co61]) (j := 1) (show 2 ≤ 2 from by decide) (x' := (⟨(rd_T30 x374004_1 x4_1).f0, x5_2⟩ : S30)) (k30_mkM _ _ _ (⟨(rd_T30 x374004_1 x4_1).f0, x5_2⟩ : S30) (Kd.R_mono (Kd.R_tight rfl (Kd.R_mono (ok' := fun k_ => ((fun _ => True)) k_ ∧ k_ ≠ go58) (Kd.R_apart' (HO_5.out) (Kd.S_typed HO_374004.out) (by decide)) (fun k_ hk => ⟨trivial, fun e_ => (hk.2) (by rw [e_]; rfl)⟩))) (fun _ h_ => Or.inr (h_)))) (fun _ hk => hk) (fun k_ hk_ => ((Kd.R_mono (ok' := fun k_ => ((fun _ => True)) k_ ∧ k_ ≠ go58) (Kd.R_apart' (HO_5.out) (Kd.S_typed HO_374004.out) (by decide)) (fun k_ hk => ⟨trivial, fun e_ => (hk.2) (by rw [e_]; rfl)⟩))).1 k_ hk_.symm)
           have hx62_1 := hcc62 1 _ rfl
           (try simp only [show (k30).sz = 2 from rfl, Nat.mul_one, Nat.add_zero] at hx62_1)
           have hf62_1 := hfr62 1
           (try simp only [show (k30).sz = 2 from rfl, Nat.mul_one, Nat.add_zero] at hf62_1)
           clear hcl62 hcc62 hfr62; (try clear hM62); clear hoki62 hH62
           go_wp2_with (first | ((with_reducible refine gate_store (t := 28) (p := 75) rfl ?_); refine store_event (t := 28) (p := 75) (v := ?vo_w63) (w1 := (wr.setCell ⟨go58, (x4_1 : Int).toNat * 2 + 1, none⟩ (.slice Ao61 x5_2.length co61))) ?hg ?ho ?hn ?hr ?_; (case ho => rfl); (case hg => rfl); (case hn => rfl); (case hr => first | (go_simp; done) | (go_simp; rfl) | (obtain ⟨A_, c_, e_⟩ := Kd.R_slice HO_5.out; rw [e_]; first | (go_simp; done) | (go_simp; rfl))); intro w63 hw; have hg : wr.grownBy w63 (some go58) := (by rw [hw]; exact HP62.2); have hp_ : Kd.S k30 30 w63 w.heap.size (fun _ => True) (.slice (some ⟨go58, 0, none⟩) x374004_1.length co15) y392 := (by rw [hw, Ny392.out]; exact HP62.1); clear HP62; have n0_ := Aside0.mk (Kd.R_over' (v := (.slice (some ⟨go58, 0, none⟩) x374004_1.length co15)) (by (with_reducible repeat (first | apply Kd.R_alloc | apply Kd.R_drewN | apply Kd.R_drew)); exact HO_374000.out) (Kd.S_typed HO_374004.out) (by decide) hg); have n1_ := Aside0.mk (Kd.R_over' (v := (.slice (some ⟨go58, 0, none⟩) x374004_1.length co15)) (by (with_reducible repeat (first | apply Kd.R_alloc | apply Kd.R_drewN | apply Kd.R_drew)); exact HO_374001.out) (Kd.S_typed HO_374004.out) (by decide) hg); have n2_ := Aside0.mk (hp_); have n3_ := Aside0.mk (blk_grown (g := gb361) (o := .cells #[.slice none 0 0, .slice none 0 0, .int .i64 0, .int .i64 0, .slice none 0 0] 26 (0, 0)) (by (with_reducible repeat (first | refine blk_drewN ?_ _ | refine blk_drew ?_ | refine blk_alloc ?_ _)); exact BK361.out) hg (Kd.S_ne HO_374004.out BK361.out (by decide))); have n4_ := Aside0.mk (blk_grown (g := gb373) (o := .cells #[.slice Ao6 t362.length co6, .slice Ao20 y377.length co20, .int .i64 t368, .int .i64 t369, .slice (some ⟨go58, 0, none⟩) x374004_1.length co15] 26 (0, 0)) (by (with_reducible repeat (first | refine blk_drewN ?_ _ | refine blk_drew ?_ | refine blk_alloc ?_ _)); exact BK373.out) hg (Kd.S_ne HO_374004.out BK373.out (by decide))); have n5_ := Aside0.mk (Kd.R_after (v := (.slice (some ⟨go58, 0, none⟩) x374004_1.length co15)) (v1 := (.slice (some ⟨go58, 0, none⟩) x374004_1.length co15)) (ok := (fun k_ => some k_ ≠ (.slice Ao61 x5_2.length co61 : Value).ownBlock)) (by (with_reducible repeat (first | apply Kd.R_alloc | apply Kd.R_drewN | apply Kd.R_drew)); exact HL380_1.out) hg (.inl rfl)); have n6_ := Aside0.mk ((by rw [hw]; exact below_set (HB.out) GB58.out : Below w.heap.size w w63)); clear HO_374000; clear HO_374001; clear HO_374004; clear BK361; clear BK373; clear HL380_1; clear HB; clear HO_5; have HO_374000 := n0_; have HO_374001 := n1_; have HO_374004 := n2_; have BK361 := n3_; have BK373 := n4_; have HL380_1 := n5_; have HB := n6_; clear n0_ n1_ n2_ n3_ n4_ n5_ n6_; clear hg hw hp_))
           go_roundg k2
           case measure => have := HK1.out; have := HK2.out; omega
           case rel => exact ⟨(wrap64 (x4_1 + 1)), (y377), (y392), (.slice Ao20 y377.length co20), (.slice (some ⟨go58, 0, none⟩) x374004_1.length co15), (by first | rfl | (simp; done) | (simp [*]; done)), H', ⟨by have := HK1.out; have := HK2.out; omega⟩, ⟨by (with_reducible repeat (first | apply Kd.R_alloc | apply Kd.R_drewN | apply Kd.R_drew)); exact HO_374000.out⟩, ⟨by (with_reducible repeat (first | apply Kd.R_alloc | apply Kd.R_drewN | apply Kd.R_drew)); exact HO_374001.out⟩, ⟨by (with_reducible repeat (first | apply Kd.S_alloc | apply Kd.S_drewN | apply Kd.S_drew)); exact HO_374004.out⟩, ⟨by (with_reducible repeat (first | refine blk_drewN ?_ _ | refine blk_drew ?_ | refine blk_alloc ?_ _)); exact BK361.out⟩, ⟨by (with_reducible repeat (first | refine blk_drewN ?_ _ | refine blk_drew ?_ | refine blk_alloc ?_ _)); exact BK373.out⟩, ⟨by repeat (first | (with_reducible first | exact HB.out | apply below_alloc | apply pw_below_drewN | apply below_drew1 | refine below_set ?_ GE361.out | refine below_set ?_ GE373.out) | exact HB.out)⟩⟩
   · rw [if_neg c11] at H
     have c11b0 : decide (x4_1 < (x374004_1.length : Int)) = false := decide_eq_false c11
     clear c11
     have H' := Aside0.mk H
     clear H
     have hnb64 := NB373_361.out
     have hnc64 := NB361_373.out
     have hcz65_0 : wr.cell? ⟨gb373, 0, none⟩ = some (.slice Ao6 t362.length co6) := (blk_cell BK373.out 0).trans rfl
     have hcz65_1 : wr.cell? ⟨gb373, 1, none⟩ = some (u374001) := (blk_cell BK373.out 1).trans rfl
     have hcz65_2 : wr.cell? ⟨gb373, 2, none⟩ = some (.int .i64 t368) := (blk_cell BK373.out 2).trans rfl
     have hcz65_3 : wr.cell? ⟨gb373, 3, none⟩ = some (.int .i64 t369) := (blk_cell BK373.out 3).trans rfl
     have hcz65_4 : wr.cell? ⟨gb373, 4, none⟩ = some (u374004) := (blk_cell BK373.out 4).trans rfl
     have hfz65_0 := blk_frozen BK373.out 0
     have hfz65_1 := blk_frozen BK373.out 1
     have hfz65_2 := blk_frozen BK373.out 2
     have hfz65_3 := blk_frozen BK373.out 3
     have hfz65_4 := blk_frozen BK373.out 4
     obtain ⟨Ao66, co66, eo66⟩ := Kd.S_slice HO_374004.out
     subst eo66
     go_wp2
     go_loopg [8] k1 (fun kq v8 w' => ∃ (x8_2 : Int) (x374004_2 : List (S30)) (u374004 : Value), v8 = .int .i64 x8_2 ∧ Aside0 (regletlaw14_Clear.l2 kq x8_2 t362 x374001_1 t368 t369 x374004_2 = some (r1, r2, r3, r4, r5)) ∧ Aside0 (kq ≤ k1) ∧ Aside0 (Kd.R Kd.string 9 w' w.heap.size (fun _ => True) (.slice Ao6 t362.length co6) t362) ∧ Aside0 (Kd.R k61 61 w' w.heap.size (fun _ => True) u374001 x374001_1) ∧ Aside0 (Kd.S k30 30 w' w.heap.size (fun _ => True) u374004 x374004_2) ∧ Aside0 (w'.heap[gb361]? = some (.cells #[(.slice none 0 0), (.slice none 0 0), .int .i64 0, .int .i64 0, (.slice none 0 0)] 26 (0, 0))) ∧ Aside0 (w'.heap[gb373]? = some (.cells #[(.slice Ao6 t362.length co6), u374001, .int .i64 t368, .int .i64 t369, u374004] 26 (0, 0))) ∧ Aside0 (Below w.heap.size w w'))
     case atStart => exact ⟨(0), (x374004_1), (.slice Ao66 x374004_1.length co66), (by first | rfl | (simp; done) | (simp [*]; done)), H', ⟨Nat.le_refl _⟩, ⟨by (with_reducible repeat (first | apply Kd.R_alloc | apply Kd.R_drewN | apply Kd.R_drew)); exact HO_374000.out⟩, ⟨by (with_reducible repeat (first | apply Kd.R_alloc | apply Kd.R_drewN | apply Kd.R_drew)); exact HO_374001.out⟩, ⟨by (with_reducible repeat (first | apply Kd.S_alloc | apply Kd.S_drewN | apply Kd.S_drew)); exact HO_374004.out⟩, ⟨by (with_reducible repeat (first | refine blk_drewN ?_ _ | refine blk_drew ?_ | refine blk_alloc ?_ _)); exact BK361.out⟩, ⟨by (with_reducible repeat (first | refine blk_drewN ?_ _ | refine blk_drew ?_ | refine blk_alloc ?_ _)); exact BK373.out⟩, ⟨by repeat (first | (with_reducible first | exact HB.out | apply below_alloc | apply pw_below_drewN | apply below_drew1 | refine below_set ?_ GE361.out | refine below_set ?_ GE373.out) | exact HB.out)⟩⟩
     case round =>
      clear H'
      (try clear c1);(try clear c2);(try clear p2);(try clear q2);(try clear c3);(try clear p3);(try clear q3);(try clear hx3);(try clear c4);(try clear p4);(try clear q4);(try clear hx4);(try clear qi4);(try clear hf4);(try clear c5);(try clear p5);(try clear q5);(try clear hx5);(try clear hf5);(try clear c6);(try clear p6);(try clear hx6);(try clear hf6);(try clear c7);(try clear c11);(try clear c11b0)
      (try clear c12);(try clear c13);(try clear c22);(try clear c22b0);(try clear c23);(try clear c23b0);(try clear c24);(try clear c24b0);(try clear c25);(try clear c25b0);(try clear q26);(try clear c27);(try clear c28);(try clear c28b0);(try clear c28b1);(try clear c28b2);(try clear c29);(try clear c30);(try clear c33);(try clear c34);(try clear c38);(try clear p38);(try clear q38);(try clear hx38);(try clear c39)
      (try clear c42);(try clear c43);(try clear c46);(try clear c46b0);(try clear c46b1);(try clear c47);(try clear c47b0);(try clear c47b1);(try clear c48);(try clear p48);(try clear q48);(try clear hx48);(try clear qi48);(try clear hf48);(try clear c49);(try clear p49);(try clear q49);(try clear hx49);(try clear hf49);(try clear c50);(try clear c53);(try clear hx53);(try clear hf53);(try clear c56);(try clear hx56)
      (try clear hf56);(try clear c58);(try clear p58);(try clear q58);(try clear hx58);(try clear hf58);(try clear c59);(try clear c62);(try clear hx62);(try clear hf62);(try clear c64);(try clear p64);(try clear hcz14_0);(try clear hcz14_1);(try clear hcz14_2);(try clear hcz14_3);(try clear hcz14_4);(try clear hcz21_0);(try clear hcz21_1);(try clear hcz21_2);(try clear hcz21_3);(try clear hcz21_4);(try clear hcz31_0)
      (try clear hcz31_1);(try clear hcz31_2);(try clear hcz31_3);(try clear hcz31_4);(try clear hcz35_0);(try clear hcz35_1);(try clear hcz36_0);(try clear hcz36_1);(try clear hcz36_2);(try clear hcz36_3);(try clear hcz36_4);(try clear hcz40_0);(try clear hcz40_1);(try clear hcz40_2);(try clear hcz40_3);(try clear hcz40_4);(try clear hcz44_0);(try clear hcz44_1);(try clear hcz51_0);(try clear hcz51_1);(try clear hcz51_2)
      (try clear hcz51_3);(try clear hcz51_4);(try clear hcz55_0);(try clear hcz55_1);(try clear hcz55_2);(try clear hcz55_3);(try clear hcz55_4);(try clear hcz60_0);(try clear hcz60_1);(try clear hcz60_2);(try clear hcz60_3);(try clear hcz60_4);(try clear hcz65_0);(try clear hcz65_1);(try clear hcz65_2);(try clear hcz65_3);(try clear hcz65_4);(try clear hcz8_0);(try clear hcz8_1);(try clear hcz8_2);(try clear hcz8_3)
      (try clear hcz8_4);(try clear hfz14_0);(try clear hfz14_1);(try clear hfz14_2);(try clear hfz14_3);(try clear hfz14_4);(try clear hfz21_0);(try clear hfz21_1);(try clear hfz21_2);(try clear hfz21_3);(try clear hfz21_4);(try clear hfz31_0);(try clear hfz31_1);(try clear hfz31_2);(try clear hfz31_3);(try clear hfz31_4);(try clear hfz35_0);(try clear hfz35_1);(try clear hfz36_0);(try clear hfz36_1);(try clear hfz36_2)
      (try clear hfz36_3);(try clear hfz36_4);(try clear hfz40_0);(try clear hfz40_1);(try clear hfz40_2);(try clear hfz40_3);(try clear hfz40_4);(try clear hfz44_0);(try clear hfz44_1);(try clear hfz51_0);(try clear hfz51_1);(try clear hfz51_2);(try clear hfz51_3);(try clear hfz51_4);(try clear hfz55_0);(try clear hfz55_1);(try clear hfz55_2);(try clear hfz55_3);(try clear hfz55_4);(try clear hfz60_0);(try clear hfz60_1)
      (try clear hfz60_2);(try clear hfz60_3);(try clear hfz60_4);(try clear hfz65_0);(try clear hfz65_1);(try clear hfz65_2);(try clear hfz65_3);(try clear hfz65_4);(try clear hfz8_0);(try clear hfz8_1);(try clear hfz8_2);(try clear hfz8_3);(try clear hfz8_4);(try clear hx380_0);(try clear hx380_1);(try clear hx381_0);(try clear hx381_1);(try clear hx382_0);(try clear hx382_1);(try clear hx48_0);(try clear hx48_1)
      (try clear hx49_0);(try clear hx49_1);(try clear hx53_0);(try clear hx53_1);(try clear hx56_1);(try clear hx58_0);(try clear hx58_1);(try clear hx62_1);(try clear p2);(try clear p380);(try clear p381);(try clear p382);(try clear p48);(try clear p49);(try clear p58);(try clear p6);(try clear q380);(try clear q381);(try clear q382);(try clear q48);(try clear q49);(try clear q58)
      obtain ⟨x8_2, x374004_2, u374004, rfl, HA, HK2, HO_374000, HO_374001, HO_374004, BK361, BK373, HB⟩ := hrel
      cases gk with
      | zero => exact absurd HA.out (by simp [regletlaw14_Clear.l2])
      | succ k2 =>
       have H := HA.out
       clear HA
       simp only [regletlaw14_Clear.l2] at H
       by_cases c67 : x8_2 < (x374004_2.length : Int)
       · rw [if_pos c67] at H
         have c67b0 : decide (x8_2 < (x374004_2.length : Int)) = true := decide_eq_true c67
         clear c67
         have H' := Aside0.mk H
         clear H
         have hnb68 := NB373_361.out
         have hnc68 := NB361_373.out
         have hcz69_0 : wr.cell? ⟨gb373, 0, none⟩ = some (.slice Ao6 t362.length co6) := (blk_cell BK373.out 0).trans rfl
         have hcz69_1 : wr.cell? ⟨gb373, 1, none⟩ = some (u374001) := (blk_cell BK373.out 1).trans rfl
         have hcz69_2 : wr.cell? ⟨gb373, 2, none⟩ = some (.int .i64 t368) := (blk_cell BK373.out 2).trans rfl
         have hcz69_3 : wr.cell? ⟨gb373, 3, none⟩ = some (.int .i64 t369) := (blk_cell BK373.out 3).trans rfl
         have hcz69_4 : wr.cell? ⟨gb373, 4, none⟩ = some (u374004) := (blk_cell BK373.out 4).trans rfl
         have hfz69_0 := blk_frozen BK373.out 0
         have hfz69_1 := blk_frozen BK373.out 1
         have hfz69_2 := blk_frozen BK373.out 2
         have hfz69_3 := blk_frozen BK373.out 3
         have hfz69_4 := blk_frozen BK373.out 4
         obtain ⟨Ao70, co70, eo70⟩ := Kd.S_slice HO_374004.out
         subst eo70
         go_wp2
         go_loopg [9] k2 (fun kq v9 w' => ∃ (x9_3 : Int) (x374004_3 : List (S30)) (u374004 : Value), v9 = .int .i64 x9_3 ∧ Aside0 (regletlaw14_Clear.l3 kq x8_2 x9_3 t362 x374001_1 t368 t369 x374004_3 = some (r1, r2, r3, r4, r5)) ∧ Aside0 (kq ≤ k2) ∧ Aside0 (Kd.R Kd.string 9 w' w.heap.size (fun _ => True) (.slice Ao6 t362.length co6) t362) ∧ Aside0 (Kd.R k61 61 w' w.heap.size (fun _ => True) u374001 x374001_1) ∧ Aside0 (Kd.S k30 30 w' w.heap.size (fun _ => True) u374004 x374004_3) ∧ Aside0 (w'.heap[gb361]? = some (.cells #[(.slice none 0 0), (.slice none 0 0), .int .i64 0, .int .i64 0, (.slice none 0 0)] 26 (0, 0))) ∧ Aside0 (w'.heap[gb373]? = some (.cells #[(.slice Ao6 t362.length co6), u374001, .int .i64 t368, .int .i64 t369, u374004] 26 (0, 0))) ∧ Aside0 (Below w.heap.size w w'))
         case atStart => exact ⟨(0), (x374004_2), (.slice Ao70 x374004_2.length co70), (by first | rfl | (simp; done) | (simp [*]; done)), H', ⟨Nat.le_refl _⟩, ⟨by (with_reducible repeat (first | apply Kd.R_alloc | apply Kd.R_drewN | apply Kd.R_drew)); exact HO_374000.out⟩, ⟨by (with_reducible repeat (first | apply Kd.R_alloc | apply Kd.R_drewN | apply Kd.R_drew)); exact HO_374001.out⟩, ⟨by (with_reducible repeat (first | apply Kd.S_alloc | apply Kd.S_drewN | apply Kd.S_drew)); exact HO_374004.out⟩, ⟨by (with_reducible repeat (first | refine blk_drewN ?_ _ | refine blk_drew ?_ | refine blk_alloc ?_ _)); exact BK361.out⟩, ⟨by (with_reducible repeat (first | refine blk_drewN ?_ _ | refine blk_drew ?_ | refine blk_alloc ?_ _)); exact BK373.out⟩, ⟨by repeat (first | (with_reducible first | exact HB.out | apply below_alloc | apply pw_below_drewN | apply below_drew1 | refine below_set ?_ GE361.out | refine below_set ?_ GE373.out) | exact HB.out)⟩⟩
         case round =>
          clear H'
          (try clear c1);(try clear c2);(try clear p2);(try clear q2);(try clear c3);(try clear p3);(try clear q3);(try clear hx3);(try clear c4);(try clear p4);(try clear q4);(try clear hx4);(try clear qi4);(try clear hf4);(try clear c5);(try clear p5);(try clear q5);(try clear hx5);(try clear hf5);(try clear c6);(try clear p6);(try clear hx6);(try clear hf6);(try clear c7);(try clear c11);(try clear c11b0)
          (try clear c12);(try clear c13);(try clear c22);(try clear c22b0);(try clear c23);(try clear c23b0);(try clear c24);(try clear c24b0);(try clear c25);(try clear c25b0);(try clear q26);(try clear c27);(try clear c28);(try clear c28b0);(try clear c28b1);(try clear c28b2);(try clear c29);(try clear c30);(try clear c33);(try clear c34);(try clear c38);(try clear p38);(try clear q38);(try clear hx38);(try clear c39)
          (try clear c42);(try clear c43);(try clear c46);(try clear c46b0);(try clear c46b1);(try clear c47);(try clear c47b0);(try clear c47b1);(try clear c48);(try clear p48);(try clear q48);(try clear hx48);(try clear qi48);(try clear hf48);(try clear c49);(try clear p49);(try clear q49);(try clear hx49);(try clear hf49);(try clear c50);(try clear c53);(try clear hx53);(try clear hf53);(try clear c56);(try clear hx56)
          (try clear hf56);(try clear c58);(try clear p58);(try clear q58);(try clear hx58);(try clear hf58);(try clear c59);(try clear c62);(try clear hx62);(try clear hf62);(try clear c64);(try clear p64);(try clear c67);(try clear c67b0);(try clear c68);(try clear hcz14_0);(try clear hcz14_1);(try clear hcz14_2);(try clear hcz14_3);(try clear hcz14_4);(try clear hcz21_0);(try clear hcz21_1);(try clear hcz21_2)
          (try clear hcz21_3);(try clear hcz21_4);(try clear hcz31_0);(try clear hcz31_1);(try clear hcz31_2);(try clear hcz31_3);(try clear hcz31_4);(try clear hcz35_0);(try clear hcz35_1);(try clear hcz36_0);(try clear hcz36_1);(try clear hcz36_2);(try clear hcz36_3);(try clear hcz36_4);(try clear hcz40_0);(try clear hcz40_1);(try clear hcz40_2);(try clear hcz40_3);(try clear hcz40_4);(try clear hcz44_0);(try clear hcz44_1)
          (try clear hcz51_0);(try clear hcz51_1);(try clear hcz51_2);(try clear hcz51_3);(try clear hcz51_4);(try clear hcz55_0);(try clear hcz55_1);(try clear hcz55_2);(try clear hcz55_3);(try clear hcz55_4);(try clear hcz60_0);(try clear hcz60_1);(try clear hcz60_2);(try clear hcz60_3);(try clear hcz60_4);(try clear hcz65_0);(try clear hcz65_1);(try clear hcz65_2);(try clear hcz65_3);(try clear hcz65_4);(try clear hcz69_0)
          (try clear hcz69_1);(try clear hcz69_2);(try clear hcz69_3);(try clear hcz69_4);(try clear hcz8_0);(try clear hcz8_1);(try clear hcz8_2);(try clear hcz8_3);(try clear hcz8_4);(try clear hfz14_0);(try clear hfz14_1);(try clear hfz14_2);(try clear hfz14_3);(try clear hfz14_4);(try clear hfz21_0);(try clear hfz21_1);(try clear hfz21_2);(try clear hfz21_3);(try clear hfz21_4);(try clear hfz31_0);(try clear hfz31_1)
          (try clear hfz31_2);(try clear hfz31_3);(try clear hfz31_4);(try clear hfz35_0);(try clear hfz35_1);(try clear hfz36_0);(try clear hfz36_1);(try clear hfz36_2);(try clear hfz36_3);(try clear hfz36_4);(try clear hfz40_0);(try clear hfz40_1);(try clear hfz40_2);(try clear hfz40_3);(try clear hfz40_4);(try clear hfz44_0);(try clear hfz44_1);(try clear hfz51_0);(try clear hfz51_1);(try clear hfz51_2);(try clear hfz51_3)
          (try clear hfz51_4);(try clear hfz55_0);(try clear hfz55_1);(try clear hfz55_2);(try clear hfz55_3);(try clear hfz55_4);(try clear hfz60_0);(try clear hfz60_1);(try clear hfz60_2);(try clear hfz60_3);(try clear hfz60_4);(try clear hfz65_0);(try clear hfz65_1);(try clear hfz65_2);(try clear hfz65_3);(try clear hfz65_4);(try clear hfz69_0);(try clear hfz69_1);(try clear hfz69_2);(try clear hfz69_3);(try clear hfz69_4)
          (try clear hfz8_0);(try clear hfz8_1);(try clear hfz8_2);(try clear hfz8_3);(try clear hfz8_4);(try clear hx380_0);(try clear hx380_1);(try clear hx381_0);(try clear hx381_1);(try clear hx382_0);(try clear hx382_1);(try clear hx48_0);(try clear hx48_1);(try clear hx49_0);(try clear hx49_1);(try clear hx53_0);(try clear hx53_1);(try clear hx56_1);(try clear hx58_0);(try clear hx58_1);(try clear hx62_1)
          (try clear p2);(try clear p3);(try clear p38);(try clear p380);(try clear p381);(try clear p382);(try clear p4);(try clear p48);(try clear p49);(try clear p5);(try clear p58);(try clear p6);(try clear p64);(try clear q2);(try clear q26);(try clear q3);(try clear q38);(try clear q380);(try clear q381);(try clear q382);(try clear q4);(try clear q48);(try clear q49);(try clear q5);(try clear q58)
          obtain ⟨x9_3, x374004_3, u374004, rfl, HA, HK3, HO_374000, HO_374001, HO_374004, BK361, BK373, HB⟩ := hrel
          cases gk with
          | zero => exact absurd HA.out (by simp [regletlaw14_Clear.l3])
          | succ k3 =>
           have H := HA.out
           clear HA
           simp only [regletlaw14_Clear.l3] at H
           by_cases c71 : 0 ≤ x8_2
           rotate_left
           · rw [if_neg c71] at H
             exact absurd H (by simp)
           rw [if_pos c71] at H
           have c71b0 : decide (0 ≤ x8_2) = true := decide_eq_true c71
           clear c71
           by_cases c72 : x8_2 < (x374004_3.length : Int)
           rotate_left
           · rw [if_neg c72] at H
             exact absurd H (by simp)
           rw [if_pos c72] at H
           have c72b0 : decide (x8_2 < (x374004_3.length : Int)) = true := decide_eq_true c72
           clear c72
           by_cases c73 : x9_3 < (((rd_T30 x374004_3 x8_2).f1).length : Int)
           · rw [if_pos c73] at H
             have c73b0 : decide (x9_3 < (((rd_T30 x374004_3 x8_2).f1).length : Int)) = true := decide_eq_true c73
             clear c73
             by_cases c74 : 0 ≤ x9_3
             rotate_left
             · rw [if_neg c74] at H
               exact absurd H (by simp)
             rw [if_pos c74] at H
             have c74b0 : decide (0 ≤ x9_3) = true := decide_eq_true c74
             clear c74
             obtain ⟨bq75, hbq75⟩ : ∃ b_ : Bool, b_ = ((rd_T53 ((rd_T30 x374004_3 x8_2).f1) x9_3).f0) := ⟨_, rfl⟩
             replace H : (if bq75 = true then (if (x374001_1.length : Int) = 0 then (none) else (regletlaw14_Clear.l3 k3 x8_2 (wrap64 (x9_3 + 1)) t362 x374001_1 t368 t369 (x374004_3.set (x8_2 : Int).toNat (⟨(rd_T30 x374004_3 x8_2).f0, (((rd_T30 x374004_3 x8_2).f1).set (x9_3 : Int).toNat (⟨bq75, Int.tmod ((rd_T53 ((rd_T30 x374004_3 x8_2).f1) x9_3).f1) (x374001_1.length : Int)⟩ : S53))⟩ : S30)))) else (regletlaw14_Clear.l3 k3 x8_2 (wrap64 (x9_3 + 1)) t362 x374001_1 t368 t369 x374004_3)) = some (r1, r2, r3, r4, r5) := by rw [← hbq75] at H; exact H
             have Nbq75 := Aside0.mk hbq75
             clear hbq75
             by_cases c76 : bq75 = true
             · subst c76
               have H1 : (if (x374001_1.length : Int) = 0 then (none) else (regletlaw14_Clear.l3 k3 x8_2 (wrap64 (x9_3 + 1)) t362 x374001_1 t368 t369 (x374004_3.set (x8_2 : Int).toNat (⟨(rd_T30 x374004_3 x8_2).f0, (((rd_T30 x374004_3 x8_2).f1).set (x9_3 : Int).toNat (⟨true, Int.tmod ((rd_T53 ((rd_T30 x374004_3 x8_2).f1) x9_3).f1) (x374001_1.length : Int)⟩ : S53))⟩ : S30)))) = some (r1, r2, r3, r4, r5) := by rw [if_pos rfl] at H; exact H
               clear H
               have H := H1
               clear H1
               by_cases c77 : (x374001_1.length : Int) = 0
               · rw [if_pos c77] at H
                 exact absurd H (by simp)
               rw [if_neg c77] at H
               have c77b0 : ((x374001_1.length : Int) == 0) = false := beq_eq_false_iff_ne.mpr c77
               have c77b1 : ((x374001_1.length : Int) != 0) = true := bne_iff_ne.mpr c77
               have c77b2 : ¬ (x374001_1 = []) := fun h_ => c77 (by rw [h_]; rfl)
               obtain ⟨y399, hy399⟩ : ∃ y_ : List (S53), y_ = (((rd_T30 x374004_3 x8_2).f1).set (x9_3 : Int).toNat (⟨true, Int.tmod ((rd_T53 ((rd_T30 x374004_3 x8_2).f1) x9_3).f1) (x374001_1.length : Int)⟩ : S53)) := ⟨_, rfl⟩
               replace H : (regletlaw14_Clear.l3 k3 x8_2 (wrap64 (x9_3 + 1)) t362 x374001_1 t368 t369 (x374004_3.set (x8_2 : Int).toNat (⟨(rd_T30 x374004_3 x8_2).f0, y399⟩ : S30))) = some (r1, r2, r3, r4, r5) := by first | (rw [hy399]; with_reducible exact H) | (have H2_ := (Option.bind_some _ _).symm.trans H; rw [hy399]; with_reducible exact H2_) | (have H2_ := (Option.bind_some _ _).symm.trans H; with_reducible exact H2_) | with_reducible exact H | (rw [hy399]; exact H) | exact H
               have Ny399 := Aside0.mk hy399
               clear hy399
               obtain ⟨y401, hy401⟩ : ∃ y_ : List (S30), y_ = (x374004_3.set (x8_2 : Int).toNat (⟨(rd_T30 x374004_3 x8_2).f0, y399⟩ : S30)) := ⟨_, rfl⟩
               replace H : (regletlaw14_Clear.l3 k3 x8_2 (wrap64 (x9_3 + 1)) t362 x374001_1 t368 t369 y401) = some (r1, r2, r3, r4, r5) := by first | (rw [hy401]; with_reducible exact H) | (have H2_ := (Option.bind_some _ _).symm.trans H; rw [hy401]; with_reducible exact H2_) | (have H2_ := (Option.bind_some _ _).symm.trans H; with_reducible exact H2_) | with_reducible exact H | (rw [hy401]; exact H) | exact H
               have Ny401 := Aside0.mk hy401
               clear hy401
               have H' := Aside0.mk H
               clear H
               have hnb79 := NB373_361.out
               have hnc79 := NB361_373.out
               have hcz80_0 : wr.cell? ⟨gb373, 0, none⟩ = some (.slice Ao6 t362.length co6) := (blk_cell BK373.out 0).trans rfl
               have hcz80_1 : wr.cell? ⟨gb373, 1, none⟩ = some (u374001) := (blk_cell BK373.out 1).trans rfl
               have hcz80_2 : wr.cell? ⟨gb373, 2, none⟩ = some (.int .i64 t368) := (blk_cell BK373.out 2).trans rfl
               have hcz80_3 : wr.cell? ⟨gb373, 3, none⟩ = some (.int .i64 t369) := (blk_cell BK373.out 3).trans rfl
               have hcz80_4 : wr.cell? ⟨gb373, 4, none⟩ = some (u374004) := (blk_cell BK373.out 4).trans rfl
               have hfz80_0 := blk_frozen BK373.out 0
               have hfz80_1 := blk_frozen BK373.out 1
               have hfz80_2 := blk_frozen BK373.out 2
               have hfz80_3 := blk_frozen BK373.out 3
               have hfz80_4 := blk_frozen BK373.out 4
               obtain ⟨Ao81, co81, eo81⟩ := Kd.S_slice HO_374004.out
               subst eo81
               have p393 : 0 ≤ (x8_2 : Int) := of_decide_eq_true (by first | (with_reducible assumption) | assumption)
               have q393 : x8_2 < (x374004_3.length : Int) := of_decide_eq_true (by first | (with_reducible assumption) | assumption)
               obtain ⟨ad393, A393_1, c393_1, e393, hx393_0, hx393_1, hl393_1, hi393_1⟩ := at_T30 (Kd.S_reads' HO_374004.out).2.2 x8_2 p393 q393
               cases e393
               obtain ⟨ce393, hce393, hMe393, hcc393⟩ := Kd.S_get HO_374004.out z30 x8_2 p393 (by first | exact q393 | exact of_decide_eq_true (by first | (with_reducible assumption) | assumption) | (have e_ := (Kd.S_reads' HO_374004.out).1; omega))
               obtain ⟨ve393_1, rfl, ge393_1⟩ := k30_openM hMe393
               have hv393_1 := hcc393 1 _ rfl
               rw [add_field _ _ 1 (by omega)] at hv393_1
               replace hv393_1 := Option.some.inj (hv393_1.symm.trans hx393_1)
               rw [hv393_1] at ge393_1
               have HL393_1 := Aside0.mk (show Kd.R k53 53 _ _ _ _ ((rd_T30 x374004_3 x8_2).f1) from ge393_1)
               clear hv393_1 ge393_1
               have HX393_1 := Aside0.mk hx393_1
               clear hcc393 hce393
               have HR393_1 := Aside0.mk hi393_1
               have HC393_1 := Aside0.mk hl393_1
               clear hi393_1 hl393_1
               replace p393 := eq_true p393
               replace q393 := eq_true q393
               have p394 : 0 ≤ (x8_2 : Int) := of_decide_eq_true (by first | (with_reducible assumption) | assumption)
               have q394 : x8_2 < (x374004_3.length : Int) := of_decide_eq_true (by first | (with_reducible assumption) | assumption)
               obtain ⟨ad394, A394_1, c394_1, e394, hx394_0, hx394_1, hl394_1, hi394_1⟩ := at_T30 (Kd.S_reads' HO_374004.out).2.2 x8_2 p394 q394
               obtain rfl : ad393 = ad394 := (by injection e394)
               obtain ⟨ce394, hce394, hMe394, hcc394⟩ := Kd.S_get HO_374004.out z30 x8_2 p394 (by first | exact q394 | exact of_decide_eq_true (by first | (with_reducible assumption) | assumption) | (have e_ := (Kd.S_reads' HO_374004.out).1; omega))
               obtain ⟨ve394_1, rfl, ge394_1⟩ := k30_openM hMe394
               have hv394_1 := hcc394 1 _ rfl
               rw [add_field _ _ 1 (by omega)] at hv394_1
               replace hv394_1 := Option.some.inj (hv394_1.symm.trans hx394_1)
               rw [hv394_1] at ge394_1
               have HL394_1 := Aside0.mk (show Kd.R k53 53 _ _ _ _ ((rd_T30 x374004_3 x8_2).f1) from ge394_1)
               clear hv394_1 ge394_1
               have HX394_1 := Aside0.mk hx394_1
               clear hcc394 hce394
               have HR394_1 := Aside0.mk hi394_1
               have HC394_1 := Aside0.mk hl394_1
               clear hi394_1 hl394_1
               replace p394 := eq_true p394
               replace q394 := eq_true q394
               have ea_ := Option.some.inj (hx393_1.symm.trans hx394_1)
               injection ea_ with ea_ en_ ec_
               subst ea_
               subst ec_
               clear en_
               have p395 : 0 ≤ (x9_3 : Int) := of_decide_eq_true (by first | (with_reducible assumption) | assumption)
               have q395 : x9_3 < (((rd_T30 x374004_3 x8_2).f1).length : Int) := of_decide_eq_true (by first | (with_reducible assumption) | assumption)
               obtain ⟨ad395, e395, hx395_0, hx395_1⟩ := at_T53 (by repeat (first | (with_reducible exact HR394_1.out) | (with_reducible refine Kd.C_alloc ?_ _) | (with_reducible refine Kd.C_drewN ?_ _) | (with_reducible refine Kd.C_drew ?_) | exact HR394_1.out)) x9_3 p395 q395
               (try rw [← Nbq75.out] at hx395_0)
               cases e395
               replace p395 := eq_true p395
               replace q395 := eq_true q395
               try go_wp2
               have n0_ := Aside0.mk (Kd.R_drew HO_374000.out)
               have n1_ := Aside0.mk (Kd.R_drew HO_374001.out)
               have n2_ := Aside0.mk (Kd.S_drew HO_374004.out)
               have n3_ := Aside0.mk (Kd.R_drew HL393_1.out)
               have n4_ := Aside0.mk (Kd.R_drew HL394_1.out)
               have n5_ := Aside0.mk (blk_drew BK361.out)
               have n6_ := Aside0.mk (blk_drew BK373.out)
               have n7_ := Aside0.mk (Kd.C_drew HR393_1.out)
               have n8_ := Aside0.mk (Kd.C_drew HR394_1.out)
               have n9_ := Aside0.mk (below_drew1 HB.out)
               clear HO_374000
               clear HO_374001
               clear HO_374004
               clear HL393_1
               clear HL394_1
               clear BK361
               clear BK373
               clear HR393_1
               clear HR394_1
               clear HB
               have HO_374000 := n0_
               have HO_374001 := n1_
               have HO_374004 := n2_
               have HL393_1 := n3_
               have HL394_1 := n4_
               have BK361 := n5_
               have BK373 := n6_
               have HR393_1 := n7_
               have HR394_1 := n8_
               have HB := n9_
               clear n0_ n1_ n2_ n3_ n4_ n5_ n6_ n7_ n8_ n9_
               have p396 : 0 ≤ (x8_2 : Int) := of_decide_eq_true (by first | (with_reducible assumption) | assumption)
               have q396 : x8_2 < (x374004_3.length : Int) := of_decide_eq_true (by first | (with_reducible assumption) | assumption)
               obtain ⟨ad396, A396_1, c396_1, e396, hx396_0, hx396_1, hl396_1, hi396_1⟩ := at_T30 (Kd.S_reads' HO_374004.out).2.2 x8_2 p396 q396
               obtain rfl : ad393 = ad396 := (by injection e396)
               obtain ⟨ce396, hce396, hMe396, hcc396⟩ := Kd.S_get HO_374004.out z30 x8_2 p396 (by first | exact q396 | exact of_decide_eq_true (by first | (with_reducible assumption) | assumption) | (have e_ := (Kd.S_reads' HO_374004.out).1; omega))
               obtain ⟨ve396_1, rfl, ge396_1⟩ := k30_openM hMe396
               have hv396_1 := hcc396 1 _ rfl
               rw [add_field _ _ 1 (by omega)] at hv396_1
               replace hv396_1 := Option.some.inj (hv396_1.symm.trans hx396_1)
               rw [hv396_1] at ge396_1
               have HL396_1 := Aside0.mk (show Kd.R k53 53 _ _ _ _ ((rd_T30 x374004_3 x8_2).f1) from ge396_1)
               clear hv396_1 ge396_1
               have HX396_1 := Aside0.mk hx396_1
               clear hcc396 hce396
               have HR396_1 := Aside0.mk hi396_1
               have HC396_1 := Aside0.mk hl396_1
               clear hi396_1 hl396_1
               replace p396 := eq_true p396
               replace q396 := eq_true q396
               have p397 : 0 ≤ (x8_2 : Int) := of_decide_eq_true (by first | (with_reducible assumption) | assumption)
               have q397 : x8_2 < (x374004_3.length : Int) := of_decide_eq_true (by first | (with_reducible assumption) | assumption)
               obtain ⟨ad397, A397_1, c397_1, e397, hx397_0, hx397_1, hl397_1, hi397_1⟩ := at_T30 (Kd.S_reads' HO_374004.out).2.2 x8_2 p397 q397
               obtain rfl : ad393 = ad397 := (by injection e397)
               obtain ⟨ce397, hce397, hMe397, hcc397⟩ := Kd.S_get HO_374004.out z30 x8_2 p397 (by first | exact q397 | exact of_decide_eq_true (by first | (with_reducible assumption) | assumption) | (have e_ := (Kd.S_reads' HO_374004.out).1; omega))
               obtain ⟨ve397_1, rfl, ge397_1⟩ := k30_openM hMe397
               have hv397_1 := hcc397 1 _ rfl
               rw [add_field _ _ 1 (by omega)] at hv397_1
               replace hv397_1 := Option.some.inj (hv397_1.symm.trans hx397_1)
               rw [hv397_1] at ge397_1
               have HL397_1 := Aside0.mk (show Kd.R k53 53 _ _ _ _ ((rd_T30 x374004_3 x8_2).f1) from ge397_1)
               clear hv397_1 ge397_1
               have HX397_1 := Aside0.mk hx397_1
               clear hcc397 hce397
               have HR397_1 := Aside0.mk hi397_1
               have HC397_1 := Aside0.mk hl397_1
               clear hi397_1 hl397_1
               replace p397 := eq_true p397
               replace q397 := eq_true q397
               have ea_ := Option.some.inj (hx396_1.symm.trans hx397_1)
               injection ea_ with ea_ en_ ec_
               subst ea_
               subst ec_
               clear en_
               have p398 : 0 ≤ (x9_3 : Int) := of_decide_eq_true (by first | (with_reducible assumption) | assumption)
               have q398 : x9_3 < (((rd_T30 x374004_3 x8_2).f1).length : Int) := of_decide_eq_true (by first | (with_reducible assumption) | assumption)
               obtain ⟨ad398, e398, hx398_0, hx398_1⟩ := at_T53 (by repeat (first | (with_reducible exact HR397_1.out) | (with_reducible refine Kd.C_alloc ?_ _) | (with_reducible refine Kd.C_drewN ?_ _) | (with_reducible refine Kd.C_drew ?_) | exact HR397_1.out)) x9_3 p398 q398
               (try rw [← Nbq75.out] at hx398_0)
               cases e398
               replace p398 := eq_true p398
               replace q398 := eq_true q398
               obtain ⟨Ao83, co83, eo83⟩ := Kd.R_slice HO_374001.out
               (first | subst eo83 | (injection eo83 with f1_ f2_ f3_; have f4_ := f1_.symm; have f5_ := f3_.symm; clear f1_ f2_ f3_; subst f4_; subst f5_))
               have p78 : 0 ≤ (x9_3 : Int) := of_decide_eq_true (by first | (with_reducible assumption) | assumption)
               have q78 : (x9_3 : Int) < ((((rd_T30 x374004_3 x8_2).f1).length : Int) : Int) := of_decide_eq_true (by first | (with_reducible assumption) | assumption)
               obtain ⟨go78, co78, eo78, gb78, gl78, cl78, HG78⟩ := Kd.R_form HL396_1.out (by omega)
               (first | cases eo78 | (injection eo78 with ea_ en_ ec_; (first | subst ea_ | (injection ea_ with ea_; subst ea_)); subst ec_; clear en_))
               have GB78 := Aside0.mk gb78
               have GG78 := Aside0.mk HG78
               clear gb78 gl78 HG78
               (first | simp only [add_plain] at hx398_0 | skip)
               (first | simp only [add_plain] at hx398_1 | skip)
               obtain ⟨ce78, hcl78, hM78, hcc78, hfr78⟩ := Kd.R_elem HL396_1.out z53 (x9_3 : Int) p78 q78
               obtain rfl := k53_openM hM78
               have hx78_0 : World.cell? _ ⟨go78, (x9_3 : Int).toNat * 2, none⟩ = some (.bool ((rd_T53 ((rd_T30 x374004_3 x8_2).f1) x9_3).f0)) := hcc78 0 _ rfl
               have hx78_1 : World.cell? _ ⟨go78, (x9_3 : Int).toNat * 2 + 1, none⟩ = some (.int .i64 ((rd_T53 ((rd_T30 x374004_3 x8_2).f1) x9_3).f1)) := hcc78 1 _ rfl
               have hf78_0 : World.frozen? _ ⟨go78, (x9_3 : Int).toNat * 2, none⟩ = false := hfr78 0
               have hf78_1 : World.frozen? _ ⟨go78, (x9_3 : Int).toNat * 2 + 1, none⟩ = false := hfr78 1
               clear hcl78 hcc78 hfr78; (try clear hM78)
               replace p78 := eq_true p78
               replace q78 := eq_true q78
               have hq84 : (x8_2 : Int) < (x374004_3.length : Int) := (by have h_ : (x8_2 : Int) < ((x374004_3.length : Int) : Int) := of_decide_eq_true (by first | (with_reducible assumption) | assumption); first | exact h_ | (have e_ := (Kd.S_reads' HO_374004.out).1; omega) | simpa only [List.length_set, List.length_set] using h_)
               obtain ⟨oki84, ce84, hcl84, hM84, hcc84, hok84, hbk84⟩ := Kd.S_borrow HO_374004.out z30 (x8_2 : Int) (of_decide_eq_true (by first | (with_reducible assumption) | assumption)) hq84
               obtain ⟨ve84_1, rfl, ge84_1⟩ := k30_openM hM84
               have hv84 := hcc84 1 _ rfl
               rw [add_field _ _ 1 (by omega)] at hv84
               replace hv84 := Option.some.inj (hv84.symm.trans HX396_1.out)
               subst hv84
               clear hcc84 hcl84
               replace ge84_1 := (show Kd.R k53 53 _ _ _ _ ((rd_T30 x374004_3 x8_2).f1) from ge84_1)
               obtain ⟨cf84, hcl84, hN84, hcc84, hfr84⟩ := Kd.R_elem ge84_1 z53 (x9_3 : Int) (of_decide_eq_true (by first | (with_reducible assumption) | assumption)) (by have h_ : (x9_3 : Int) < ((((rd_T30 x374004_3 x8_2).f1).length : Int) : Int) := of_decide_eq_true (by first | (with_reducible assumption) | assumption); first | exact h_ | (have e_ := (Kd.R_reads' HR396_1.out).1; omega) | simpa using h_)
               obtain rfl := k53_openM hN84
               have HP84 := Kd.R_seg ge84_1 (x9_3 : Int) (of_decide_eq_true (by first | (with_reducible assumption) | assumption)) (by have h_ : (x9_3 : Int) < ((((rd_T30 x374004_3 x8_2).f1).length : Int) : Int) := of_decide_eq_true (by first | (with_reducible assumption) | assumption); first | exact h_ | (have e_ := (Kd.R_reads' HR396_1.out).1; omega) | simpa using h_) (seg := [.int .i64 (Int.tmod ((rd_T53 ((rd_T30 x374004_3 x8_2).f1) x9_3).f1) (x374001_1.length : Int))]) (j := 1) hcl84 hcc84 (show 2 ≤ 2 from by decide) (x' := (⟨true, Int.tmod ((rd_T53 ((rd_T30 x374004_3 x8_2).f1) x9_3).f1) (x374001_1.length : Int)⟩ : S53)) (by have e_ : (((rd_T30 x374004_3 x8_2).f1).getD (x9_3 : Int).toNat z53).f0 = true := Nbq75.out.symm; rw [e_]; exact (k53_mkM _ _ _ (⟨true, Int.tmod ((rd_T53 ((rd_T30 x374004_3 x8_2).f1) x9_3).f1) (x374001_1.length : Int)⟩ : S53))) (fun _ hk => hk)
               clear hcl84 hcc84 hfr84 hN84
               rw [← Ny399.out] at HP84
               have HS84 := hbk84 HP84.2 (fun k_ e_ => by injection e_ with e_; subst e_; exact ge84_1.1 _ rfl) (x' := (⟨(rd_T30 x374004_3 x8_2).f0, y399⟩ : S30)) (k30_mkM _ _ _ (⟨(rd_T30 x374004_3 x8_2).f0, y399⟩ : S30) HP84.1)
               rw [← Ny401.out] at HS84
               have HQ84 := Aside0.mk HS84
               clear HP84 HS84 hbk84 hok84
               refine start_ (n := 24) (S := fun w' => w'.cell? ⟨gb373, 0, none⟩ = some (.slice Ao6 t362.length co6) ∧ w'.cell? ⟨gb373, 1, none⟩ = some (.slice Ao83 x374001_1.length co83) ∧ w'.cell? ⟨gb373, 2, none⟩ = some (.int .i64 t368) ∧ w'.cell? ⟨gb373, 3, none⟩ = some (.int .i64 t369) ∧ w'.cell? ⟨gb373, 4, none⟩ = some (.slice (some ad393) x374004_3.length co81) ∧ w'.cell? (ad393.add ((x8_2).toNat * 2)) = some (.int .i64 ((rd_T30 x374004_3 x8_2).f0)) ∧ w'.cell? ⟨(ad393.add ((x8_2).toNat * 2)).block, (ad393.add ((x8_2).toNat * 2)).off + 1, none⟩ = some (.slice (some (⟨go78, 0, none⟩ : Addr)) ((rd_T30 x374004_3 x8_2).f1).length c396_1) ∧ w'.cell? (ad393.add ((x8_2).toNat * 2)) = some (.int .i64 ((rd_T30 x374004_3 x8_2).f0)) ∧ w'.cell? ⟨(ad393.add ((x8_2).toNat * 2)).block, (ad393.add ((x8_2).toNat * 2)).off + 1, none⟩ = some (.slice (some (⟨go78, 0, none⟩ : Addr)) ((rd_T30 x374004_3 x8_2).f1).length c396_1) ∧ w'.cell? ⟨go78, ((x9_3).toNat * 2), none⟩ = some (.bool (true)) ∧ w'.cell? ⟨go78, ((x9_3).toNat * 2) + 1, none⟩ = some (.int .i64 ((rd_T53 ((rd_T30 x374004_3 x8_2).f1) x9_3).f1))) (ds := [23]) #[false, false, false, false, false, false, false, false, false, false, false, false, false, false, false, false, false, false, false, false, false, false, false, false] (by kernel_rfl) rfl rfl ⟨(blk_cell BK373.out 0).trans rfl, (blk_cell BK373.out 1).trans rfl, (blk_cell BK373.out 2).trans rfl, (blk_cell BK373.out 3).trans rfl, (blk_cell BK373.out 4).trans rfl, hx396_0, hx396_1, hx397_0, hx397_1, hx398_0, hx398_1⟩ (fun hHeld => ?_); refine with_tabW regletlaw14_Clear.tab25 regletlaw14_Clear.bits25 (fun HT_ HW_ => ?_)
               generalize wr.drew = w82 at HO_374000 HO_374001 HO_374004 HL393_1 HL394_1 BK361 BK373 HR393_1 HR394_1 HB GG78 HL396_1 HL397_1 HQ84 HR396_1 HR397_1 HX396_1 HX397_1 hf78_0 hf78_1 hx396_0 hx396_1 hx397_0 hx397_1 hx398_0 hx398_1 hx78_0 hx78_1 hHeld ⊢
               refine pure_ (i := 0) (N := some 104) (v := ?_) (a' := ?_) #[true, false, false, false, false, false, false, false, false, false, false, false, false, false, false, false, false, false, false, false, false, false, false, false] rfl rfl (any_of HT_.out (by kernel_rfl)) (fun _ _ _ h => h) (Or.inl ⟨by rfl, ?_⟩) ?_ ?_
               rotate_left
               · intro w'
                 go_simp
                 with_reducible rfl
               rotate_left
               · simp only [Act.put, List.setIfInBounds_toArray, List.set_cons_zero, List.set_cons_succ, i64_w, i32_w]
                 rfl
               refine pure_ (i := 2) (N := some 106) (v := ?_) (a' := ?_) #[true, false, true, false, false, false, false, false, false, false, false, false, false, false, false, false, false, false, false, false, false, false, false, false] rfl rfl (any_of HT_.out (by kernel_rfl)) (fun _ _ _ h => h) (Or.inl ⟨by rfl, ?_⟩) ?_ ?_
               rotate_left
               · intro w'
                 go_simp
                 with_reducible rfl
               rotate_left
               · simp only [Act.put, List.setIfInBounds_toArray, List.set_cons_zero, List.set_cons_succ, i64_w, i32_w]
                 rfl
               refine pure_ (i := 6) (N := some 110) (v := ?_) (a' := ?_) #[true, false, true, false, false, false, true, false, false, false, false, false, false, false, false, false, false, false, false, false, false, false, false, false] rfl rfl (any_of HT_.out (by kernel_rfl)) (fun _ _ _ h => h) (Or.inl ⟨by rfl, ?_⟩) ?_ ?_
               rotate_left
               · intro w'
                 go_simp
                 with_reducible rfl
               rotate_left
               · simp only [Act.put, List.setIfInBounds_toArray, List.set_cons_zero, List.set_cons_succ, i64_w, i32_w]
                 rfl
               refine pure_ (i := 7) (N := some 111) (v := ?_) (a' := ?_) #[true, false, true, false, false, false, true, true, false, false, false, false, false, false, false, false, false, false, false, false, false, false, false, false] rfl rfl (any_of HT_.out (by kernel_rfl)) (fun _ _ _ h => h) (Or.inl ⟨by rfl, ?_⟩) ?_ ?_
               rotate_left
               · intro w'
                 go_simp
                 with_reducible rfl
               rotate_left
               · simp only [Act.put, List.setIfInBounds_toArray, List.set_cons_zero, List.set_cons_succ, i64_w, i32_w]
                 rfl
               refine pure_ (i := 9) (N := some 113) (v := ?_) (a' := ?_) #[true, false, true, false, false, false, true, true, false, true, false, false, false, false, false, false, false, false, false, false, false, false, false, false] rfl rfl (any_of HT_.out (by kernel_rfl)) (fun _ _ _ h => h) (Or.inl ⟨by rfl, ?_⟩) ?_ ?_
               rotate_left
               · intro w'
                 go_simp
                 with_reducible rfl
               rotate_left
               · simp only [Act.put, List.setIfInBounds_toArray, List.set_cons_zero, List.set_cons_succ, i64_w, i32_w]
                 rfl
               refine pure_ (i := 13) (N := some 117) (v := ?_) (a' := ?_) #[true, false, true, false, false, false, true, true, false, true, false, false, false, true, false, false, false, false, false, false, false, false, false, false] rfl rfl (any_of HT_.out (by kernel_rfl)) (fun _ _ _ h => h) (Or.inl ⟨by rfl, ?_⟩) ?_ ?_
               rotate_left
               · intro w'
                 go_simp
                 with_reducible rfl
               rotate_left
               · simp only [Act.put, List.setIfInBounds_toArray, List.set_cons_zero, List.set_cons_succ, i64_w, i32_w]
                 rfl
               refine pure_ (i := 17) (N := some 121) (v := ?_) (a' := ?_) #[true, false, true, false, false, false, true, true, false, true, false, false, false, true, false, false, false, true, false, false, false, false, false, false] rfl rfl (any_of HT_.out (by kernel_rfl)) (fun _ _ _ h => h) (Or.inl ⟨by rfl, ?_⟩) ?_ ?_
               rotate_left
               · intro w'
                 go_simp
                 with_reducible rfl
               rotate_left
               · simp only [Act.put, List.setIfInBounds_toArray, List.set_cons_zero, List.set_cons_succ, i64_w, i32_w]
                 rfl
               refine take_ (i := 1) (N := some 105) (v := ?_) (a' := ?_) #[true, true, true, false, false, false, true, true, false, true, false, false, false, true, false, false, false, true, false, false, false, false, false, false] rfl rfl (take_ofW HT_.out HW_.out (by kernel_rfl)) (fun _ _ _ h => h) (Or.inl ⟨by rfl, ?_⟩) hHeld ?_ ?_
               rotate_left
               · rintro w' ⟨s0, s1, s2, s3, s4, s5, s6, s7, s8, s9, s10⟩
                 go_simp
                 with_reducible rfl
               rotate_left
               · simp only [Act.put, List.setIfInBounds_toArray, List.set_cons_zero, List.set_cons_succ, i64_w, i32_w]
                 rfl
               refine pure_ (i := 3) (N := some 107) (v := ?_) (a' := ?_) #[true, true, true, true, false, false, true, true, false, true, false, false, false, true, false, false, false, true, false, false, false, false, false, false] rfl rfl (any_of HT_.out (by kernel_rfl)) (fun _ _ _ h => h) (Or.inl ⟨by rfl, ?_⟩) ?_ ?_
               rotate_left
               · intro w'
                 go_simp
                 with_reducible rfl
               rotate_left
               · simp only [Act.put, List.setIfInBounds_toArray, List.set_cons_zero, List.set_cons_succ, i64_w, i32_w]
                 rfl
               refine pure_ (i := 4) (N := some 108) (v := ?_) (a' := ?_) #[true, true, true, true, true, false, true, true, false, true, false, false, false, true, false, false, false, true, false, false, false, false, false, false] rfl rfl (any_of HT_.out (by kernel_rfl)) (fun _ _ _ h => h) (Or.inl ⟨by rfl, ?_⟩) ?_ ?_
               rotate_left
               · intro w'
                 go_simp
                 with_reducible rfl
               rotate_left
               · simp only [Act.put, List.setIfInBounds_toArray, List.set_cons_zero, List.set_cons_succ, i64_w, i32_w]
                 rfl
               refine take_ (i := 5) (N := some 109) (v := ?_) (a' := ?_) #[true, true, true, true, true, true, true, true, false, true, false, false, false, true, false, false, false, true, false, false, false, false, false, false] rfl rfl (take_ofW HT_.out HW_.out (by kernel_rfl)) (fun _ _ _ h => h) (Or.inl ⟨by rfl, ?_⟩) hHeld ?_ ?_
               rotate_left
               · rintro w' ⟨s0, s1, s2, s3, s4, s5, s6, s7, s8, s9, s10⟩
                 go_simp
                 with_reducible rfl
               rotate_left
               · simp only [Act.put, List.setIfInBounds_toArray, List.set_cons_zero, List.set_cons_succ, i64_w, i32_w]
                 rfl
               refine take_ (i := 8) (N := some 112) (v := ?_) (a' := ?_) #[true, true, true, true, true, true, true, true, true, true, false, false, false, true, false, false, false, true, false, false, false, false, false, false] rfl rfl (take_ofW HT_.out HW_.out (by kernel_rfl)) (fun _ _ _ h => h) (Or.inl ⟨by rfl, ?_⟩) hHeld ?_ ?_
               rotate_left
               · rintro w' ⟨s0, s1, s2, s3, s4, s5, s6, s7, s8, s9, s10⟩
                 go_simp
                 with_reducible rfl
               rotate_left
               · simp only [Act.put, List.setIfInBounds_toArray, List.set_cons_zero, List.set_cons_succ, i64_w, i32_w]
                 rfl
               refine pure_ (i := 10) (N := some 114) (v := ?_) (a' := ?_) #[true, true, true, true, true, true, true, true, true, true, true, false, false, true, false, false, false, true, false, false, false, false, false, false] rfl rfl (any_of HT_.out (by kernel_rfl)) (fun _ _ _ h => h) (Or.inl ⟨by rfl, ?_⟩) ?_ ?_
               rotate_left
               · intro w'
                 go_simp
                 with_reducible rfl
               rotate_left
               · simp only [Act.put, List.setIfInBounds_toArray, List.set_cons_zero, List.set_cons_succ, i64_w, i32_w]
                 rfl
               refine pure_ (i := 11) (N := some 115) (v := ?_) (a' := ?_) #[true, true, true, true, true, true, true, true, true, true, true, true, false, true, false, false, false, true, false, false, false, false, false, false] rfl rfl (any_of HT_.out (by kernel_rfl)) (fun _ _ _ h => h) (Or.inl ⟨by rfl, ?_⟩) ?_ ?_
               rotate_left
               · intro w'
                 go_simp
                 with_reducible rfl
               rotate_left
               · simp only [Act.put, List.setIfInBounds_toArray, List.set_cons_zero, List.set_cons_succ, i64_w, i32_w]
                 rfl
               refine take_ (i := 12) (N := some 116) (v := ?_) (a' := ?_) #[true, true, true, true, true, true, true, true, true, true, true, true, true, true, false, false, false, true, false, false, false, false, false, false] rfl rfl (take_ofW HT_.out HW_.out (by kernel_rfl)) (fun _ _ _ h => h) (Or.inl ⟨by rfl, ?_⟩) hHeld ?_ ?_
               rotate_left
               · rintro w' ⟨s0, s1, s2, s3, s4, s5, s6, s7, s8, s9, s10⟩
                 go_simp
                 with_reducible rfl
               rotate_left
               · simp only [Act.put, List.setIfInBounds_toArray, List.set_cons_zero, List.set_cons_succ, i64_w, i32_w]
                 rfl
               refine pure_ (i := 14) (N := some 118) (v := ?_) (a' := ?_) #[true, true, true, true, true, true, true, true, true, true, true, true, true, true, true, false, false, true, false, false, false, false, false, false] rfl rfl (any_of HT_.out (by kernel_rfl)) (fun _ _ _ h => h) (Or.inl ⟨by rfl, ?_⟩) ?_ ?_
               rotate_left
               · intro w'
                 go_simp
                 with_reducible rfl
               rotate_left
               · simp only [Act.put, List.setIfInBounds_toArray, List.set_cons_zero, List.set_cons_succ, i64_w, i32_w]
                 rfl
               refine pure_ (i := 15) (N := some 119) (v := ?_) (a' := ?_) #[true, true, true, true, true, true, true, true, true, true, true, true, true, true, true, true, false, true, false, false, false, false, false, false] rfl rfl (any_of HT_.out (by kernel_rfl)) (fun _ _ _ h => h) (Or.inl ⟨by rfl, ?_⟩) ?_ ?_
               rotate_left
               · intro w'
                 go_simp
                 with_reducible rfl
               rotate_left
               · simp only [Act.put, List.setIfInBounds_toArray, List.set_cons_zero, List.set_cons_succ, i64_w, i32_w]
                 rfl
               refine take_ (i := 16) (N := some 120) (v := ?_) (a' := ?_) #[true, true, true, true, true, true, true, true, true, true, true, true, true, true, true, true, true, true, false, false, false, false, false, false] rfl rfl (take_ofW HT_.out HW_.out (by kernel_rfl)) (fun _ _ _ h => h) (Or.inl ⟨by rfl, ?_⟩) hHeld ?_ ?_
               rotate_left
               · rintro w' ⟨s0, s1, s2, s3, s4, s5, s6, s7, s8, s9, s10⟩
                 go_simp
                 with_reducible rfl
               rotate_left
               · simp only [Act.put, List.setIfInBounds_toArray, List.set_cons_zero, List.set_cons_succ, i64_w, i32_w]
                 rfl
               refine take_ (i := 18) (N := some 122) (v := ?_) (a' := ?_) #[true, true, true, true, true, true, true, true, true, true, true, true, true, true, true, true, true, true, true, false, false, false, false, false] rfl rfl (take_ofW HT_.out HW_.out (by kernel_rfl)) (fun _ _ _ h => h) (Or.inl ⟨by rfl, ?_⟩) hHeld ?_ ?_
               rotate_left
               · rintro w' ⟨s0, s1, s2, s3, s4, s5, s6, s7, s8, s9, s10⟩
                 go_simp
                 with_reducible rfl
               rotate_left
               · simp only [Act.put, List.setIfInBounds_toArray, List.set_cons_zero, List.set_cons_succ, i64_w, i32_w]
                 rfl
               refine pure_ (i := 19) (N := some 123) (v := ?_) (a' := ?_) #[true, true, true, true, true, true, true, true, true, true, true, true, true, true, true, true, true, true, true, true, false, false, false, false] rfl rfl (any_of HT_.out (by kernel_rfl)) (fun _ _ _ h => h) (Or.inl ⟨by rfl, ?_⟩) ?_ ?_
               rotate_left
               · intro w'
                 go_simp
                 with_reducible rfl
               rotate_left
               · simp only [Act.put, List.setIfInBounds_toArray, List.set_cons_zero, List.set_cons_succ, i64_w, i32_w]
                 rfl
               refine pure_ (i := 20) (N := some 124) (v := ?_) (a' := ?_) #[true, true, true, true, true, true, true, true, true, true, true, true, true, true, true, true, true, true, true, true, true, false, false, false] rfl rfl (any_of HT_.out (by kernel_rfl)) (fun _ _ _ h => h) (Or.inl ⟨by rfl, ?_⟩) ?_ ?_
               rotate_left
               · intro w'
                 go_simp
                 with_reducible rfl
               rotate_left
               · simp only [Act.put, List.setIfInBounds_toArray, List.set_cons_zero, List.set_cons_succ, i64_w, i32_w]
                 rfl
               refine pure_ (i := 21) (N := some 125) (v := ?_) (a' := ?_) #[true, true, true, true, true, true, true, true, true, true, true, true, true, true, true, true, true, true, true, true, true, true, false, false] rfl rfl (any_of HT_.out (by kernel_rfl)) (fun _ _ _ h => h) (Or.inl ⟨by rfl, ?_⟩) ?_ ?_
               rotate_left
               · intro w'
                 go_simp
                 with_reducible rfl
               rotate_left
               · simp only [Act.put, List.setIfInBounds_toArray, List.set_cons_zero, List.set_cons_succ, i64_w, i32_w]
                 rfl
               refine pure_ (i := 22) (N := some 126) (v := ?_) (a' := ?_) #[true, true, true, true, true, true, true, true, true, true, true, true, true, true, true, true, true, true, true, true, true, true, true, false] rfl rfl (any_of HT_.out (by kernel_rfl)) (fun _ _ _ h => h) (Or.inl ⟨by rfl, ?_⟩) ?_ ?_
               rotate_left
               · intro w'
                 go_simp
                 with_reducible rfl
               rotate_left
               · simp only [Act.put, List.setIfInBounds_toArray, List.set_cons_zero, List.set_cons_succ, i64_w, i32_w]
                 rfl
               refine last_ (i := 23) (N := none) #[true, true, true, true, true, true, true, true, true, true, true, true, true, true, true, true, true, true, true, true, true, true, true, true] rfl rfl (one_of HT_.out (by kernel_rfl)) (by decide) (fun K hK => ?_)
               refine skip_ (w1 := ?_) (by rfl) rfl ?_ ?_
               rotate_left
               · go_simp
                 rfl
               refine hK.out _ _ ?_
               clear hK K
               refine done_ (done_of HT_.out (by kernel_rfl)) ?_
               try go_wp2
               go_roundg k3
               case measure => have := HK1.out; have := HK2.out; have := HK3.out; omega
               case rel => exact ⟨(wrap64 (x9_3 + 1)), (y401), (.slice (some ad393) x374004_3.length co81), (by first | rfl | (simp; done) | (simp [*]; done)), H', ⟨by have := HK1.out; have := HK2.out; have := HK3.out; omega⟩, ⟨by (with_reducible repeat (first | apply Kd.R_alloc | apply Kd.R_drewN | apply Kd.R_drew)); exact Kd.R_mono (Kd.R_far (p := ⟨go78, (x9_3 : Int).toNat * 2 + 1, none⟩) (Kd.R_types HO_374000.out GG78.out (by decide)) (fun _ hk => hk.2) (.int .i64 (Int.tmod ((rd_T53 ((rd_T30 x374004_3 x8_2).f1) x9_3).f1) (x374001_1.length : Int)))) (fun _ hk => trivial)⟩, ⟨by (with_reducible repeat (first | apply Kd.R_alloc | apply Kd.R_drewN | apply Kd.R_drew)); exact Kd.R_mono (Kd.R_far (p := ⟨go78, (x9_3 : Int).toNat * 2 + 1, none⟩) (Kd.R_types HO_374001.out GG78.out (by decide)) (fun _ hk => hk.2) (.int .i64 (Int.tmod ((rd_T53 ((rd_T30 x374004_3 x8_2).f1) x9_3).f1) (x374001_1.length : Int)))) (fun _ hk => trivial)⟩, ⟨by (with_reducible repeat (first | apply Kd.S_alloc | apply Kd.S_drewN | apply Kd.S_drew)); exact HQ84.out⟩, ⟨by (with_reducible repeat (first | refine blk_drewN ?_ _ | refine blk_drew ?_ | refine blk_alloc ?_ _)); refine blk_far ?_ (by have h_ := Kd.R_ne HL396_1.out BK361.out (by decide); intro e_; exact h_ (by rw [e_]; rfl)) _; (with_reducible repeat (first | refine blk_drewN ?_ _ | refine blk_drew ?_ | refine blk_alloc ?_ _)); exact BK361.out⟩, ⟨by (with_reducible repeat (first | refine blk_drewN ?_ _ | refine blk_drew ?_ | refine blk_alloc ?_ _)); refine blk_far ?_ (by have h_ := Kd.R_ne HL396_1.out BK373.out (by decide); intro e_; exact h_ (by rw [e_]; rfl)) _; (with_reducible repeat (first | refine blk_drewN ?_ _ | refine blk_drew ?_ | refine blk_alloc ?_ _)); exact BK373.out⟩, ⟨by repeat (first | (with_reducible first | exact HB.out | apply below_alloc | apply pw_below_drewN | apply below_drew1 | refine below_set ?_ GB78.out | refine below_set ?_ GE361.out | refine below_set ?_ GE373.out) | exact HB.out)⟩⟩
             · replace c76 := Bool.eq_false_iff.mpr c76
               subst c76
               have H1 : (regletlaw14_Clear.l3 k3 x8_2 (wrap64 (x9_3 + 1)) t362 x374001_1 t368 t369 x374004_3) = some (r1, r2, r3, r4, r5) := by rw [if_neg (show ¬ (false = true) by decide)] at H; exact H
               clear H
               have H := H1
               clear H1
               have H' := Aside0.mk H
               clear H
               have hnb86 := NB373_361.out
               have hnc86 := NB361_373.out
               have hcz87_0 : wr.cell? ⟨gb373, 0, none⟩ = some (.slice Ao6 t362.length co6) := (blk_cell BK373.out 0).trans rfl
               have hcz87_1 : wr.cell? ⟨gb373, 1, none⟩ = some (u374001) := (blk_cell BK373.out 1).trans rfl
               have hcz87_2 : wr.cell? ⟨gb373, 2, none⟩ = some (.int .i64 t368) := (blk_cell BK373.out 2).trans rfl
               have hcz87_3 : wr.cell? ⟨gb373, 3, none⟩ = some (.int .i64 t369) := (blk_cell BK373.out 3).trans rfl
               have hcz87_4 : wr.cell? ⟨gb373, 4, none⟩ = some (u374004) := (blk_cell BK373.out 4).trans rfl
               have hfz87_0 := blk_frozen BK373.out 0
               have hfz87_1 := blk_frozen BK373.out 1
               have hfz87_2 := blk_frozen BK373.out 2
               have hfz87_3 := blk_frozen BK373.out 3
               have hfz87_4 := blk_frozen BK373.out 4
               obtain ⟨Ao88, co88, eo88⟩ := Kd.S_slice HO_374004.out
               subst eo88
               have p393 : 0 ≤ (x8_2 : Int) := of_decide_eq_true (by first | (with_reducible assumption) | assumption)
               have q393 : x8_2 < (x374004_3.length : Int) := of_decide_eq_true (by first | (with_reducible assumption) | assumption)
               obtain ⟨ad393, A393_1, c393_1, e393, hx393_0, hx393_1, hl393_1, hi393_1⟩ := at_T30 (Kd.S_reads' HO_374004.out).2.2 x8_2 p393 q393
               cases e393
               obtain ⟨ce393, hce393, hMe393, hcc393⟩ := Kd.S_get HO_374004.out z30 x8_2 p393 (by first | exact q393 | exact of_decide_eq_true (by first | (with_reducible assumption) | assumption) | (have e_ := (Kd.S_reads' HO_374004.out).1; omega))
               obtain ⟨ve393_1, rfl, ge393_1⟩ := k30_openM hMe393
               have hv393_1 := hcc393 1 _ rfl
               rw [add_field _ _ 1 (by omega)] at hv393_1
               replace hv393_1 := Option.some.inj (hv393_1.symm.trans hx393_1)
               rw [hv393_1] at ge393_1
               have HL393_1 := Aside0.mk (show Kd.R k53 53 _ _ _ _ ((rd_T30 x374004_3 x8_2).f1) from ge393_1)
               clear hv393_1 ge393_1
               have HX393_1 := Aside0.mk hx393_1
               clear hcc393 hce393
               have HR393_1 := Aside0.mk hi393_1
               have HC393_1 := Aside0.mk hl393_1
               clear hi393_1 hl393_1
               replace p393 := eq_true p393
               replace q393 := eq_true q393
               have p394 : 0 ≤ (x8_2 : Int) := of_decide_eq_true (by first | (with_reducible assumption) | assumption)
               have q394 : x8_2 < (x374004_3.length : Int) := of_decide_eq_true (by first | (with_reducible assumption) | assumption)
               obtain ⟨ad394, A394_1, c394_1, e394, hx394_0, hx394_1, hl394_1, hi394_1⟩ := at_T30 (Kd.S_reads' HO_374004.out).2.2 x8_2 p394 q394
               obtain rfl : ad393 = ad394 := (by injection e394)
               obtain ⟨ce394, hce394, hMe394, hcc394⟩ := Kd.S_get HO_374004.out z30 x8_2 p394 (by first | exact q394 | exact of_decide_eq_true (by first | (with_reducible assumption) | assumption) | (have e_ := (Kd.S_reads' HO_374004.out).1; omega))
               obtain ⟨ve394_1, rfl, ge394_1⟩ := k30_openM hMe394
               have hv394_1 := hcc394 1 _ rfl
               rw [add_field _ _ 1 (by omega)] at hv394_1
               replace hv394_1 := Option.some.inj (hv394_1.symm.trans hx394_1)
               rw [hv394_1] at ge394_1
               have HL394_1 := Aside0.mk (show Kd.R k53 53 _ _ _ _ ((rd_T30 x374004_3 x8_2).f1) from ge394_1)
               clear hv394_1 ge394_1
               have HX394_1 := Aside0.mk hx394_1
               clear hcc394 hce394
               have HR394_1 := Aside0.mk hi394_1
               have HC394_1 := Aside0.mk hl394_1
               clear hi394_1 hl394_1
               replace p394 := eq_true p394
               replace q394 := eq_true q394
               have ea_ := Option.some.inj (hx393_1.symm.trans hx394_1)
               injection ea_ with ea_ en_ ec_
               subst ea_
               subst ec_
               clear en_
               have p395 : 0 ≤ (x9_3 : Int) := of_decide_eq_true (by first | (with_reducible assumption) | assumption)
               have q395 : x9_3 < (((rd_T30 x374004_3 x8_2).f1).length : Int) := of_decide_eq_true (by first | (with_reducible assumption) | assumption)
               obtain ⟨ad395, e395, hx395_0, hx395_1⟩ := at_T53 (by repeat (first | (with_reducible exact HR394_1.out) | (with_reducible refine Kd.C_alloc ?_ _) | (with_reducible refine Kd.C_drewN ?_ _) | (with_reducible refine Kd.C_drew ?_) | exact HR394_1.out)) x9_3 p395 q395
               (try rw [← Nbq75.out] at hx395_0)
               cases e395
               replace p395 := eq_true p395
               replace q395 := eq_true q395
               go_wp2
               go_roundg k3
               case measure => have := HK1.out; have := HK2.out; have := HK3.out; omega
               case rel => exact ⟨(wrap64 (x9_3 + 1)), (x374004_3), (.slice (some ad393) x374004_3.length co88), (by first | rfl | (simp; done) | (simp [*]; done)), H', ⟨by have := HK1.out; have := HK2.out; have := HK3.out; omega⟩, ⟨by (with_reducible repeat (first | apply Kd.R_alloc | apply Kd.R_drewN | apply Kd.R_drew)); exact HO_374000.out⟩, ⟨by (with_reducible repeat (first | apply Kd.R_alloc | apply Kd.R_drewN | apply Kd.R_drew)); exact HO_374001.out⟩, ⟨by (with_reducible repeat (first | apply Kd.S_alloc | apply Kd.S_drewN | apply Kd.S_drew)); exact HO_374004.out⟩, ⟨by (with_reducible repeat (first | refine blk_drewN ?_ _ | refine blk_drew ?_ | refine blk_alloc ?_ _)); exact BK361.out⟩, ⟨by (with_reducible repeat (first | refine blk_drewN ?_ _ | refine blk_drew ?_ | refine blk_alloc ?_ _)); exact BK373.out⟩, ⟨by repeat (first | (with_reducible first | exact HB.out | apply below_alloc | apply pw_below_drewN | apply below_drew1 | refine below_set ?_ GE361.out | refine below_set ?_ GE373.out) | exact HB.out)⟩⟩
           · rw [if_neg c73] at H
             have c73b0 : decide (x9_3 < (((rd_T30 x374004_3 x8_2).f1).length : Int)) = false := decide_eq_false c73
             clear c73
             have H' := Aside0.mk H
             clear H
             have hnb89 := NB373_361.out
             have hnc89 := NB361_373.out
             have hcz90_0 : wr.cell? ⟨gb373, 0, none⟩ = some (.slice Ao6 t362.length co6) := (blk_cell BK373.out 0).trans rfl
             have hcz90_1 : wr.cell? ⟨gb373, 1, none⟩ = some (u374001) := (blk_cell BK373.out 1).trans rfl
             have hcz90_2 : wr.cell? ⟨gb373, 2, none⟩ = some (.int .i64 t368) := (blk_cell BK373.out 2).trans rfl
             have hcz90_3 : wr.cell? ⟨gb373, 3, none⟩ = some (.int .i64 t369) := (blk_cell BK373.out 3).trans rfl
             have hcz90_4 : wr.cell? ⟨gb373, 4, none⟩ = some (u374004) := (blk_cell BK373.out 4).trans rfl
             have hfz90_0 := blk_frozen BK373.out 0
             have hfz90_1 := blk_frozen BK373.out 1
             have hfz90_2 := blk_frozen BK373.out 2
             have hfz90_3 := blk_frozen BK373.out 3
             have hfz90_4 := blk_frozen BK373.out 4
             obtain ⟨Ao91, co91, eo91⟩ := Kd.S_slice HO_374004.out
             subst eo91
             have p393 : 0 ≤ (x8_2 : Int) := of_decide_eq_true (by first | (with_reducible assumption) | assumption)
             have q393 : x8_2 < (x374004_3.length : Int) := of_decide_eq_true (by first | (with_reducible assumption) | assumption)
             obtain ⟨ad393, A393_1, c393_1, e393, hx393_0, hx393_1, hl393_1, hi393_1⟩ := at_T30 (Kd.S_reads' HO_374004.out).2.2 x8_2 p393 q393
             cases e393
             obtain ⟨ce393, hce393, hMe393, hcc393⟩ := Kd.S_get HO_374004.out z30 x8_2 p393 (by first | exact q393 | exact of_decide_eq_true (by first | (with_reducible assumption) | assumption) | (have e_ := (Kd.S_reads' HO_374004.out).1; omega))
             obtain ⟨ve393_1, rfl, ge393_1⟩ := k30_openM hMe393
             have hv393_1 := hcc393 1 _ rfl
             rw [add_field _ _ 1 (by omega)] at hv393_1
             replace hv393_1 := Option.some.inj (hv393_1.symm.trans hx393_1)
             rw [hv393_1] at ge393_1
             have HL393_1 := Aside0.mk (show Kd.R k53 53 _ _ _ _ ((rd_T30 x374004_3 x8_2).f1) from ge393_1)
             clear hv393_1 ge393_1
             have HX393_1 := Aside0.mk hx393_1
             clear hcc393 hce393
             have HR393_1 := Aside0.mk hi393_1
             have HC393_1 := Aside0.mk hl393_1
             clear hi393_1 hl393_1
             replace p393 := eq_true p393
             replace q393 := eq_true q393
             go_wp2
             go_roundg k3
             case measure => have := HK1.out; have := HK2.out; have := HK3.out; omega
             case rel => exact ⟨(wrap64 (x8_2 + 1)), (x374004_3), (.slice (some ad393) x374004_3.length co91), (by first | rfl | (simp; done) | (simp [*]; done)), H', ⟨by have := HK1.out; have := HK2.out; have := HK3.out; omega⟩, ⟨by (with_reducible repeat (first | apply Kd.R_alloc | apply Kd.R_drewN | apply Kd.R_drew)); exact HO_374000.out⟩, ⟨by (with_reducible repeat (first | apply Kd.R_alloc | apply Kd.R_drewN | apply Kd.R_drew)); exact HO_374001.out⟩, ⟨by (with_reducible repeat (first | apply Kd.S_alloc | apply Kd.S_drewN | apply Kd.S_drew)); exact HO_374004.out⟩, ⟨by (with_reducible repeat (first | refine blk_drewN ?_ _ | refine blk_drew ?_ | refine blk_alloc ?_ _)); exact BK361.out⟩, ⟨by (with_reducible repeat (first | refine blk_drewN ?_ _ | refine blk_drew ?_ | refine blk_alloc ?_ _)); exact BK373.out⟩, ⟨by repeat (first | (with_reducible first | exact HB.out | apply below_alloc | apply pw_below_drewN | apply below_drew1 | refine below_set ?_ GE361.out | refine below_set ?_ GE373.out) | exact HB.out)⟩⟩
       · rw [if_neg c67] at H
         have c67b0 : decide (x8_2 < (x374004_2.length : Int)) = false := decide_eq_false c67
         clear c67
         simp only [Option.some.injEq, Prod.mk.injEq] at H
         obtain ⟨rfl, rfl, rfl, rfl, rfl⟩ := H
         have hnb92 := NB373_361.out
         have hnc92 := NB361_373.out
         have hcz93_0 : wr.cell? ⟨gb373, 0, none⟩ = some (.slice Ao6 t362.length co6) := (blk_cell BK373.out 0).trans rfl
         have hcz93_1 : wr.cell? ⟨gb373, 1, none⟩ = some (u374001) := (blk_cell BK373.out 1).trans rfl
         have hcz93_2 : wr.cell? ⟨gb373, 2, none⟩ = some (.int .i64 t368) := (blk_cell BK373.out 2).trans rfl
         have hcz93_3 : wr.cell? ⟨gb373, 3, none⟩ = some (.int .i64 t369) := (blk_cell BK373.out 3).trans rfl
         have hcz93_4 : wr.cell? ⟨gb373, 4, none⟩ = some (u374004) := (blk_cell BK373.out 4).trans rfl
         have hfz93_0 := blk_frozen BK373.out 0
         have hfz93_1 := blk_frozen BK373.out 1
         have hfz93_2 := blk_frozen BK373.out 2
         have hfz93_3 := blk_frozen BK373.out 3
         have hfz93_4 := blk_frozen BK373.out 4
         obtain ⟨Ao94, co94, eo94⟩ := Kd.S_slice HO_374004.out
         subst eo94
         have hcz95_0 : wr.cell? ⟨gb361, 0, none⟩ = some (.slice none 0 0) := (blk_cell BK361.out 0).trans rfl
         have hcz95_1 : wr.cell? ⟨gb361, 1, none⟩ = some (.slice none 0 0) := (blk_cell BK361.out 1).trans rfl
         have hcz95_2 : wr.cell? ⟨gb361, 2, none⟩ = some (.int .i64 0) := (blk_cell BK361.out 2).trans rfl
         have hcz95_3 : wr.cell? ⟨gb361, 3, none⟩ = some (.int .i64 0) := (blk_cell BK361.out 3).trans rfl
         have hcz95_4 : wr.cell? ⟨gb361, 4, none⟩ = some (.slice none 0 0) := (blk_cell BK361.out 4).trans rfl
         have hfz95_0 := blk_frozen BK361.out 0
         have hfz95_1 := blk_frozen BK361.out 1
         have hfz95_2 := blk_frozen BK361.out 2
         have hfz95_3 := blk_frozen BK361.out 3
         have hfz95_4 := blk_frozen BK361.out 4
         obtain ⟨Ao96, co96, eo96⟩ := Kd.R_slice HO_374001.out
         subst eo96
         go_wp2
         refine bodyPost_ret (results_cell_row rfl _ _ gb361 26 #[.slice Ao6 t362.length co6, .slice Ao96 x374001_1.length co96, .int .i64 t368, .int .i64 t369, .slice Ao94 x374004_2.length co94] (0, 0) _ rfl (by (with_reducible repeat (first | refine blk_drewN ?_ _ | refine blk_drew ?_ | refine blk_alloc ?_ _)); refine blk_put (cs := #[.slice Ao6 t362.length co6, .slice Ao96 x374001_1.length co96, .int .i64 t368, .int .i64 t369, .slice none 0 0]) ?_ 4 _ rfl; (with_reducible repeat (first | refine blk_drewN ?_ _ | refine blk_drew ?_ | refine blk_alloc ?_ _)); refine blk_put (cs := #[.slice Ao6 t362.length co6, .slice Ao96 x374001_1.length co96, .int .i64 t368, .int .i64 0, .slice none 0 0]) ?_ 3 _ rfl; (with_reducible repeat (first | refine blk_drewN ?_ _ | refine blk_drew ?_ | refine blk_alloc ?_ _)); refine blk_put (cs := #[.slice Ao6 t362.length co6, .slice Ao96 x374001_1.length co96, .int .i64 0, .int .i64 0, .slice none 0 0]) ?_ 2 _ rfl; (with_reducible repeat (first | refine blk_drewN ?_ _ | refine blk_drew ?_ | refine blk_alloc ?_ _)); refine blk_put (cs := #[.slice Ao6 t362.length co6, .slice none 0 0, .int .i64 0, .int .i64 0, .slice none 0 0]) ?_ 1 _ rfl; (with_reducible repeat (first | refine blk_drewN ?_ _ | refine blk_drew ?_ | refine blk_alloc ?_ _)); refine blk_put (cs := #[.slice none 0 0, .slice none 0 0, .int .i64 0, .int .i64 0, .slice none 0 0]) ?_ 0 _ rfl; (with_reducible repeat (first | refine blk_drewN ?_ _ | refine blk_drew ?_ | refine blk_alloc ?_ _)); exact BK361.out) Try.underlying26 rfl (by kernel_rfl)) rfl ?_
         exact ⟨_, _, _, by first | rfl | (simp [errW_none, errW_some] <;> rfl) | (simp [*, errW_none, errW_some] <;> rfl), by (with_reducible repeat (first | apply Kd.R_alloc | apply Kd.R_drewN | apply Kd.R_drew)); exact Kd.R_mono (Kd.R_far (p := ⟨gb361, 4, none⟩) (Kd.R_far (p := ⟨gb361, 3, none⟩) (Kd.R_far (p := ⟨gb361, 2, none⟩) (Kd.R_far (p := ⟨gb361, 1, none⟩) (Kd.R_far (p := ⟨gb361, 0, none⟩) (Kd.R_types HO_374000.out BK361.out (by decide)) (fun _ hk => hk.2) (.slice Ao6 t362.length co6)) (fun _ hk => hk.2) (.slice Ao96 x374001_1.length co96)) (fun _ hk => hk.2) (.int .i64 t368)) (fun _ hk => hk.2) (.int .i64 t369)) (fun _ hk => hk.2) (.slice Ao94 x374004_2.length co94)) (fun _ hk => trivial), by (with_reducible repeat (first | apply Kd.R_alloc | apply Kd.R_drewN | apply Kd.R_drew)); exact Kd.R_mono (Kd.R_far (p := ⟨gb361, 4, none⟩) (Kd.R_far (p := ⟨gb361, 3, none⟩) (Kd.R_far (p := ⟨gb361, 2, none⟩) (Kd.R_far (p := ⟨gb361, 1, none⟩) (Kd.R_far (p := ⟨gb361, 0, none⟩) (Kd.R_types HO_374001.out BK361.out (by decide)) (fun _ hk => hk.2) (.slice Ao6 t362.length co6)) (fun _ hk => hk.2) (.slice Ao96 x374001_1.length co96)) (fun _ hk => hk.2) (.int .i64 t368)) (fun _ hk => hk.2) (.int .i64 t369)) (fun _ hk => hk.2) (.slice Ao94 x374004_2.length co94)) (fun _ hk => trivial), by (with_reducible repeat (first | apply Kd.S_alloc | apply Kd.S_drewN | apply Kd.S_drew)); exact Kd.S_mono (Kd.S_far (p := ⟨gb361, 4, none⟩) (Kd.S_far (p := ⟨gb361, 3, none⟩) (Kd.S_far (p := ⟨gb361, 2, none⟩) (Kd.S_far (p := ⟨gb361, 1, none⟩) (Kd.S_far (p := ⟨gb361, 0, none⟩) (Kd.S_types HO_374004.out BK361.out (by decide)) (fun _ hk => hk.2) (.slice Ao6 t362.length co6)) (fun _ hk => hk.2) (.slice Ao96 x374001_1.length co96)) (fun _ hk => hk.2) (.int .i64 t368)) (fun _ hk => hk.2) (.int .i64 t369)) (fun _ hk => hk.2) (.slice Ao94 x374004_2.length co94)) (fun _ hk => trivial), by repeat (first | (with_reducible first | exact HB.out | apply below_alloc | apply pw_below_drewN | apply below_drew1 | refine below_set ?_ GE361.out | refine below_set ?_ GE373.out) | exact HB.out)⟩
attribute [local go_sem] max2_int min2_int max_two min_two max_three min_three max_four min_four   -- for this text's walks alone
set_option linter.unusedVariables false
set_option linter.unusedSimpArgs false
theorem eqA50 (d : Nat) (w : World) (x0 y0 : Int) (x1 y1 : Int) (x2 y2 : Int) (x3 y3 : Int) :
    (Op.equalIn (d + 2) 50 (.agg #[.int .i64 x0, .int .i64 x1, .int .i64 x2, .int .i64 x3]) (.agg #[.int .i64 y0, .int .i64 y1, .int .i64 y2, .int .i64 y3])).run Try.prog w = .ok (x0 == y0 && (x1 == y1 && (x2 == y2 && (x3 == y3)))) w := by
 refine eqA_of Try.underlying50 (by kernel_rfl) ?_
 refine eqf_cons (by rfl) (by go_simp; rfl) (by go_simp; rfl) (by go_simp) ?_
 refine eqf_cons (by rfl) (by go_simp; rfl) (by go_simp; rfl) (by go_simp) ?_
 refine eqf_cons (by rfl) (by go_simp; rfl) (by go_simp; rfl) (by go_simp) ?_
 exact eqf_last (by rfl) (by go_simp; rfl) (by go_simp; rfl) (by go_simp)
end Go.Proofs.Ytfdcfihcfegekaa.P
end
