/- Packed texts of this claim: the walks of the functions, and their plain laws; see the claim's last text. -/
import Derived.Test.YtfdcfihcfegekaaRows
import Derived.ChangeArms
import Derived.DataReads
import Derived.DataElems
import Derived.ChangeOld
import Derived.Test.YtfdcfihcfegekaaProg
import Derived.Below
import Derived.Deep.Draws
import Derived.Deep.AppendLies
import Derived.Maps.AppendAt
import Derived.OwnWalk
import Derived.Laws.BytesArg
import Derived.Laws.MakeOwn
import Derived.Laws.OwnMore
import Derived.Deep.OwnRows
import Derived.Tactics
import Derived.Lib.ConvBytes
import Derived.Laws.Slices
import Derived.WalkKit
import Derived.KernelRfl
import Derived.RowKit3
import Derived.Deep.LoopGhost
import Derived.Deep.QuietTactic
import Derived.BigQuiet
import Derived.WideLaws
import Derived.Deep.DeepCutAuto
import Derived.Deep.CutBlock
import Derived.Deep.RegionHeld3
import Derived.Laws.Rows
import Derived.Lib.AppendStr
import Derived.ArgAppend
import Derived.Laws.IdiomCopy
import Derived.OrdersHeld
import Derived.Laws.BitsLemmas
import Derived.RowKit
import Derived.Laws.Runes
import Derived.Test.YtfdcfihcfegekaaKPredictAny1
section
namespace Go.Proofs.Ytfdcfihcfegekaa.Open
open Go.RowKit Go.Proofs.YtfdcfihcfegekaaW.PrintWords
set_option linter.unusedVariables false
theorem one_le {H : Type} (d : DataW H) : 1 ≤ Rows.uptoBulk d:=by
 cases d with
 | lit l => cases l <;> simp [Rows.uptoBulk]
 | nil => simp [Rows.uptoBulk]
 | ptr d => simp [Rows.uptoBulk]
 | slice elems spare => simp [Rows.uptoBulk]
 | agg parts => simp [Rows.uptoBulk]
 | iface t d => simp [Rows.uptoBulk]
 | map entries => simp [Rows.uptoBulk]
 | held h => simp [Rows.uptoBulk]
def szL {α : Type} (sz : α → Nat) : List α → Nat
  | [] => 1
  | x :: xs => sz x + szL sz xs
theorem szL_length {α : Type} {sz : α → Nat} (h : ∀ x,1 ≤ sz x) : ∀ xs : List α,xs.length + 1 ≤ szL sz xs
  | [] => Nat.le_refl _
  | x :: xs => by have:=szL_length h xs;have:=h x;simp only [szL,List.length_cons];omega
variable {H : Type} {enc : TypeId × Value → H} {P : Program} {W : World}
def OpenS (enc : TypeId × Value → H) (P : Program) (W : World) {α : Type} (d : Kd α) (sz : α → Nat) (t : TypeId) (n : Nat) : Prop :=
  ∀ fuel,fuel ≤ n → ∀ (cs : List Value) (x : DataW H × List MemPlace),DataW.trod enc P W 0 (fun _ => true) true fuel t cs = some x → ∃ a,d.K W a cs ∧ sz a ≤ Rows.uptoBulk x.1
theorem OpenS.le {α : Type} {d : Kd α} {sz : α → Nat} {t : TypeId} {n m : Nat} (h : OpenS enc P W d sz t n) (hm : m ≤ n) : OpenS enc P W d sz t m:=fun f hf => h f (Nat.le_trans hf hm)
theorem openS_zero {α : Type} {d : Kd α} {sz : α → Nat} {t : TypeId} : OpenS enc P W d sz t 0:=fun f hf cs x h => by
  obtain rfl : f = 0:=by omega
  simp [DataW.trod] at h
theorem openS_int {t : TypeId} {k : IntKind} (ht : P.underlying t = some (.int k)) (n : Nat) : OpenS enc P W (Kd.int k) (fun _ => 1) t n:=fun f _ cs x h => by
  obtain ⟨a,rfl,rfl,_⟩ := DataW.trod_int ht h
  exact ⟨a,rfl,one_le _⟩
theorem openS_bool {t : TypeId} (ht : P.underlying t = some .bool) (n : Nat) : OpenS enc P W Kd.bool (fun _ => 1) t n:=fun f _ cs x h => by
  obtain ⟨a,rfl,rfl⟩ := DataW.trod_bool ht h
  exact ⟨a,rfl,one_le _⟩
theorem openS_string {t : TypeId} (ht : P.underlying t = some .string) (n : Nat) : OpenS enc P W Kd.string (fun _ => 1) t n:=fun f _ cs x h => by
  obtain ⟨a,rfl,rfl,_⟩ := DataW.trod_string ht h
  exact ⟨a,rfl,one_le _⟩
theorem list_of {α : Type} {p : Nat → α → Prop} : ∀ n : Nat,(∀ i,i < n → ∃ a,p i a) → ∃ xs : List α,xs.length = n ∧ ∀ i x,xs[i]? = some x → p i x
  | 0,_ => ⟨[],rfl,fun i x h => by simp at h⟩
  | n + 1,h => by
    obtain ⟨xs,hl,hp⟩ := list_of n (fun i hi => h i (by omega))
    obtain ⟨a,ha⟩ := h n (by omega)
    refine ⟨xs ++ [a],by simp [hl],fun i x hx => ?_⟩
    rcases Nat.lt_or_ge i xs.length with hi | hi
    · rw [List.getElem?_append_left hi] at hx;exact hp i x hx
    · have hi2 : i < (xs ++ [a]).length:=(List.getElem?_eq_some_iff.1 hx).1
      have : i = xs.length:=by simp at hi2;omega
      subst this
      rw [List.getElem?_append_right (Nat.le_refl _)] at hx
      simp at hx
      rw [← hx,hl];exact ha
theorem bulk_all {α : Type} {sz : α → Nat} : ∀ (xs : List α) (es : List (DataW H)),xs.length = es.length → (∀ (i : Nat) (x : α) (e : DataW H),xs[i]? = some x → es[i]? = some e → sz x ≤ Rows.uptoBulk e) → szL sz xs ≤ Rows.uptoBulkAll es + 1
  | [],[],_,_ => by simp [szL,Rows.uptoBulkAll]
  | x :: xs,e :: es,hl,h => by
    have h0:=h 0 x e rfl rfl
    have ih:=bulk_all xs es (by simpa using hl) (fun i y f hy hf => h (i + 1) y f hy hf)
    simp only [szL,Rows.uptoBulkAll];omega
theorem cells_cell {base : Nat} {a : Addr} {n : Nat} {cs : List Value} (h : W.cells? base a n = some cs) : cs.length = n ∧ ∀ i u,cs[i]? = some u → W.cell? (a.add i) = some u:=by
 obtain ⟨h1,h2,h3⟩ := World.cells?_some h
 refine ⟨h2,fun i u hu => ?_⟩
 have hi : i < n:=by rw [← h2];exact (List.getElem?_eq_some_iff.1 hu).1
 rw [← hu];exact h3 i hi
theorem openS_slice {α : Type} {d : Kd α} {sz : α → Nat} {t e : TypeId} {n : Nat} (ht : P.underlying t = some (.slice e)) (hc : P.cellsOf e = d.sz) (h : OpenS enc P W d sz e n) : OpenS enc P W (Kd.slice e d) (szL sz) t (n + 1) := fun f hf cs x hx => by
  rcases DataW.trod_slice ht hx with ⟨rfl,rfl⟩ | ⟨a,len,cap,elems,rest,m,hfm,rfl,rfl,_,hlen,hcap,hel,hat,_,_⟩
  · exact ⟨[],⟨none,0,rfl,Nat.le_refl _,rfl,Nat.zero_le _,fun h => by simp at h⟩,one_le _⟩
  · obtain ⟨xs,hl,hp⟩ := list_of (p:=fun i (y : α) => ∃ cs' z,W.cells? 0 (a.add (i * P.cellsOf e)) (P.cellsOf e) = some cs' ∧ elems[i]? = some z ∧ d.K W y cs' ∧ sz y ≤ Rows.uptoBulk z.1) len (fun i hi => by
      have h1:=hat i hi
      have h2 : i < elems.length:=by omega
      rw [List.getElem?_eq_getElem h2] at h1
      obtain ⟨cs',hcs,hz⟩ := Option.bind_eq_some_iff.1 h1
      obtain ⟨y,hy1,hy2⟩ := h m (by omega) cs' _ hz
      exact ⟨y,cs',_,hcs,List.getElem?_eq_getElem h2,hy1,hy2⟩)
    subst hl
    refine ⟨xs,⟨some a,cap,rfl,hlen,rfl,?_,fun _ => ⟨a,rfl,fun j p hj => ?_⟩⟩,?_⟩
    · have : maxLen ≤ 9223372036854775807:=by decide
      omega
    · obtain ⟨cs',z,h1,_,h2,_⟩ := hp j p hj
      rw [hc] at h1
      refine ⟨cs',d.K_len h2,h2,fun i u hu => ?_⟩
      have h3:=(cells_cell h1).2 i u hu
      rwa [Addr.add_add a] at h3
    · simp only [Rows.uptoBulk]
      have:=bulk_all (H:=H) (sz:=sz) xs (elems.map (·.1)) (by simp [hel]) (fun i y e' hy he => by
        obtain ⟨cs',z,_,h1,_,h2⟩ := hp i y hy
        rw [List.getElem?_map,h1] at he
        obtain rfl:=Option.some.inj he
        exact h2)
      omega
def OpenF (enc : TypeId × Value → H) (P : Program) (W : World) {α : Type} (d : Kd α) (sz : α → Nat) (fs : List Field) (off n : Nat) : Prop :=
  ∀ fuel,fuel ≤ n → ∀ (cs : List Value) (xs : List (DataW H × List MemPlace)),cs.length = off + d.sz → xs.length = fs.length → (∀ (i : Nat) (f : Field),fs[i]? = some f → DataW.trod enc P W 0 (fun _ => true) true fuel f.type ((cs.drop f.offset).take (P.cellsOf f.type)) = xs[i]?) →
    ∃ a,d.K W a (cs.drop off) ∧ sz a ≤ Rows.uptoBulkAll (xs.map (·.1))
theorem openF_one {α : Type} {d : Kd α} {sz : α → Nat} {f : Field} {off n : Nat} (ho : f.offset = off) (hc : P.cellsOf f.type = d.sz) (h : OpenS enc P W d sz f.type n) : OpenF enc P W d sz [f] off n:=fun fuel hf cs xs hl hx hat => by
  match xs,hx with
  | [x],_ =>
    have h1:=hat 0 f rfl
    rw [ho,hc,List.take_of_length_le (by rw [List.length_drop];omega)] at h1
    obtain ⟨a,ha,hs⟩ := h fuel hf _ x h1
    exact ⟨a,ha,by simpa [Rows.uptoBulkAll] using hs⟩
theorem openF_cons {α β : Type} {d1 : Kd α} {d2 : Kd β} {s1 : α → Nat} {s2 : β → Nat} {f : Field} {fs : List Field} {off n : Nat} (ho : f.offset = off) (hc : P.cellsOf f.type = d1.sz) (h1 : OpenS enc P W d1 s1 f.type n) (h2 : OpenF enc P W d2 s2 fs (off + d1.sz) n) :
    OpenF enc P W (Kd.pair d1 d2) (fun p => s1 p.1 + s2 p.2) (f :: fs) off n:=fun fuel hf cs xs hl hx hat => by
  match xs,hx with
  | x :: xs,hx =>
    have h3:=hat 0 f rfl
    rw [ho,hc] at h3
    obtain ⟨a,ha,hs⟩ := h1 fuel hf _ x h3
    obtain ⟨b,hb,ht⟩ := h2 fuel hf cs xs (by rw [hl];show off + (d1.sz + d2.sz) = _;omega) (by simpa using hx) (fun i g hg => hat (i + 1) g hg)
    refine ⟨(a,b),⟨(cs.drop off).take d1.sz,(cs.drop off).drop d1.sz,(List.take_append_drop _ _).symm,ha,by rw [List.drop_drop];exact hb⟩,?_⟩
    simp only [List.map_cons,Rows.uptoBulkAll];omega
theorem openS_struct {α : Type} {d : Kd α} {sz : α → Nat} {t : TypeId} {fs : Array Field} {n : Nat} (ht : P.underlying t = some (.struct fs)) (hc : P.cellsOf t = d.sz) (h : OpenF enc P W d sz fs.toList 0 n) : OpenS enc P W d (fun a => sz a + 1) t (n + 1) := fun f hf cs x hx => by
  obtain ⟨xs,m,rfl,rfl,hl,hx,hat⟩ := DataW.trod_struct ht hx
  obtain ⟨a,ha,hs⟩ := h m (by omega) cs xs (by omega) (by simpa using hx) (fun i f hf => hat i f (by simpa using hf))
  exact ⟨a,by simpa using ha,by simp only [Rows.uptoBulk];omega⟩
theorem openS_iso {α β : Type} {d : Kd α} {sz : α → Nat} {t : TypeId} {n : Nat} (f : β → α) (hf : ∀ a,∃ b,f b = a) (h : OpenS enc P W d sz t n) : OpenS enc P W (Kd.iso d f) (fun b => sz (f b)) t n:=fun k hk cs x hx => by
  obtain ⟨a,ha,hs⟩ := h k hk cs x hx
  obtain ⟨b,rfl⟩ := hf a
  exact ⟨b,ha,hs⟩
theorem openS_sz {α : Type} {d : Kd α} {sz sz' : α → Nat} {t : TypeId} {n : Nat} (h : OpenS enc P W d sz t n) (hs : ∀ a,sz' a ≤ sz a) : OpenS enc P W d sz' t n:=fun k hk cs x hx => by
  obtain ⟨a,ha,h1⟩ := h k hk cs x hx
  exact ⟨a,ha,Nat.le_trans (hs a) h1⟩
end Go.Proofs.Ytfdcfihcfegekaa.Open
end

section
namespace Go.Proofs.Ytfdcfihcfegekaa.P
open Go.RowKit Go.Proofs.YtfdcfihcfegekaaW.PrintWords Go.Proofs.YtfdcfihcfegekaaW.PrintLast Go.Proofs.YtfdcfihcfegekaaW.PrintMore
attribute [local go_sem] max2_int min2_int max_two min_two max_three min_three max_four min_four   -- for this text's walks alone
set_option linter.unusedVariables false
set_option linter.unusedSimpArgs false
def errW : Option Int → Value
  | none => .nilIface
  | some c => .iface 0 (.int .i64 c)
theorem errW_none : errW none = .nilIface:=rfl
theorem errW_some (c : Int) : errW (some c) = .iface 0 (.int .i64 c) := rfl
theorem info3 : (Try.prog.info? 3).map (fun i => (i.zero,i.size,i.bytes)) = some (some (.int .i64 0),1,8) := by kernel_rfl
theorem info4 : (Try.prog.info? 4).map (fun i => (i.zero,i.size,i.bytes)) = some (some (.bool false),1,1) := by kernel_rfl
theorem info30 : (Try.prog.info? 30).map (fun i => (i.zero,i.size,i.bytes)) = some (some (.agg #[(.int .i64 0),(.slice none 0 0)]),2,32) := by kernel_rfl
theorem info43 : (Try.prog.info? 43).map (fun i => (i.zero,i.size,i.bytes)) = some (some (.slice none 0 0),1,24) := by kernel_rfl
theorem info50 : (Try.prog.info? 50).map (fun i => (i.zero,i.size,i.bytes)) = some (some (.agg #[(.int .i64 0),(.int .i64 0),(.int .i64 0),(.int .i64 0)]),4,32) := by kernel_rfl
theorem info61 : (Try.prog.info? 61).map (fun i => (i.zero,i.size,i.bytes)) = some (some (.agg #[(.string ⟨#[]⟩),(.int .i64 0),(.string ⟨#[]⟩),(.slice none 0 0),(.int .i64 0),(.int .i64 0),(.slice none 0 0)]),7,104) := by kernel_rfl
theorem info65 : (Try.prog.info? 65).map (fun i => (i.zero,i.size,i.bytes)) = some (some (.slice none 0 0),1,24) := by kernel_rfl
theorem info84 : (Try.prog.info? 84).map (fun i => (i.zero,i.size,i.bytes)) = some (some (.slice none 0 0),1,24) := by kernel_rfl
def rd_L3 (xs : List (List Int)) (i : Int) : (List Int) := xs.getD i.toNat ([] : List Int)
theorem at_L3 {w : World} {A : Option Addr} {n : Nat} {xs : List (List Int)} (h : Kd.C (Kd.slice 3 (Kd.int .i64)) w A n xs) (i : Int) (h0 : 0 ≤ i) (h1 : i < n) : ∃ ad A0 c0,A = some ad ∧ w.cell? (ad.add i.toNat) = some (.slice A0 (rd_L3 xs i).length c0) ∧ (rd_L3 xs i).length ≤ c0 ∧ (Kd.int .i64).C w A0 (rd_L3 xs i).length (rd_L3 xs i) := by
 obtain ⟨ad,c,e,_,hK,hc0⟩ := Kd.C_get h ([] : List Int) i h0 h1
 have hc : ∀ j u,c[j]? = some u → w.cell? (ad.add (i.toNat * 1 + j)) = some u:=hc0
 obtain ⟨A0,c0,rfl,l0,g0⟩ := hK
 exact ⟨ad,A0,c0,e,by have hq:=hc 0 _ rfl;rwa [Nat.mul_one,Nat.add_zero] at hq,l0,g0⟩
structure S59 where
  f0 : Int
  f1 : ByteArray
  f2 : (List Int)
  f3 : Int
  f4 : Int
  f5 : (List S59)
def z59 : S59:=⟨(0 : Int),(⟨#[]⟩ : ByteArray),([] : List Int),(0 : Int),(0 : Int),([] : List S59)⟩
def F59 (d : Kd S59) : Kd S59:=Kd.iso (Kd.pair (Kd.int .i64) (Kd.pair Kd.string (Kd.pair (Kd.slice 3 (Kd.int .i64)) (Kd.pair (Kd.int .i64) (Kd.pair (Kd.int .i64) (Kd.slice 59 d)))))) (fun x : S59 => (x.f0,x.f1,x.f2,x.f3,x.f4,x.f5))
theorem mono59 : Kd.Mono F59:=Kd.mono_iso _ (Kd.mono_pair (Kd.mono_const _) (Kd.mono_pair (Kd.mono_const _) (Kd.mono_pair (Kd.mono_const _) (Kd.mono_pair (Kd.mono_const _) (Kd.mono_pair (Kd.mono_const _) (Kd.mono_slice 59 Kd.mono_id))))))
theorem sub59 : Kd.Sub F59 [3,59] := Kd.sub_iso _ (Kd.sub_pair (Kd.sub_const _ (by decide)) (Kd.sub_pair (Kd.sub_const _ (by decide)) (Kd.sub_pair (Kd.sub_const _ (by decide)) (Kd.sub_pair (Kd.sub_const _ (by decide)) (Kd.sub_pair (Kd.sub_const _ (by decide)) (Kd.sub_slice 59 (by decide) Kd.sub_id))))))
theorem sz59 : ∀ n,(Kd.upto F59 6 [3,59] n).sz = 6:=Kd.upto_sz (fun _ => rfl)
def k59 : Kd S59:=Kd.fix F59 6 [3,59] sz59 (Kd.upto_E sub59)
theorem k59_mk (w : World) (x : S59) {A2 : Option Addr} {c2 : Nat} (l2 : x.f2.length ≤ c2) (g2 : (Kd.int .i64).C w A2 x.f2.length x.f2) {A5 : Option Addr} {c5 : Nat} (l5 : x.f5.length ≤ c5) (g5 : k59.C w A5 x.f5.length x.f5) : k59.K w x [.int .i64 x.f0,.string x.f1,.slice A2 x.f2.length c2,.int .i64 x.f3,.int .i64 x.f4,.slice A5 x.f5.length c5] := by
 obtain ⟨n5,q5⟩ := Kd.fix_C_back mono59 g5
 have r5:=Kd.upto_C_le mono59 sz59 (show n5 ≤ n5 by omega) q5
 exact ⟨n5 + 1,⟨[.int .i64 x.f0],[.string x.f1,.slice A2 x.f2.length c2,.int .i64 x.f3,.int .i64 x.f4,.slice A5 x.f5.length c5],rfl,rfl,⟨[.string x.f1],[.slice A2 x.f2.length c2,.int .i64 x.f3,.int .i64 x.f4,.slice A5 x.f5.length c5],rfl,rfl,⟨[.slice A2 x.f2.length c2],[.int .i64 x.f3,.int .i64 x.f4,.slice A5 x.f5.length c5],rfl,⟨A2,c2,rfl,l2,g2⟩,⟨[.int .i64 x.f3],[.int .i64 x.f4,.slice A5 x.f5.length c5],rfl,rfl,⟨[.int .i64 x.f4],[.slice A5 x.f5.length c5],rfl,rfl,⟨A5,c5,rfl,l5,r5⟩⟩⟩⟩⟩⟩⟩
structure S61 where
  f0 : ByteArray
  f1 : S59
def z61 : S61:=⟨(⟨#[]⟩ : ByteArray),z59⟩
def k61 : Kd S61:=Kd.iso (Kd.pair Kd.string k59) (fun x : S61 => (x.f0,x.f1))
theorem k61_mk (w : World) (x : S61) {A3 : Option Addr} {c3 : Nat} (l3 : x.f1.f2.length ≤ c3) (g3 : (Kd.int .i64).C w A3 x.f1.f2.length x.f1.f2) {A6 : Option Addr} {c6 : Nat} (l6 : x.f1.f5.length ≤ c6) (g6 : k59.C w A6 x.f1.f5.length x.f1.f5) : k61.K w x [.string x.f0,.int .i64 x.f1.f0,.string x.f1.f1,.slice A3 x.f1.f2.length c3,.int .i64 x.f1.f3,.int .i64 x.f1.f4,.slice A6 x.f1.f5.length c6] := ⟨[.string x.f0],[.int .i64 x.f1.f0,.string x.f1.f1,.slice A3 x.f1.f2.length c3,.int .i64 x.f1.f3,.int .i64 x.f1.f4,.slice A6 x.f1.f5.length c6],rfl,rfl,(k59_mk w x.f1 l3 g3 l6 g6)⟩
theorem k61_mkF (W : World) (ok : Nat → Prop) (x : S61) {A3 : Option Addr} {c3 : Nat} (l3 : x.f1.f2.length ≤ c3) (g3 : Kd.F (Kd.int .i64) W ok A3 x.f1.f2.length x.f1.f2) {A6 : Option Addr} {c6 : Nat} (l6 : x.f1.f5.length ≤ c6) (g6 : Kd.F k59 W ok A6 x.f1.f5.length x.f1.f5) : Kd.FK k61 W ok x [.string x.f0,.int .i64 x.f1.f0,.string x.f1.f1,.slice A3 x.f1.f2.length c3,.int .i64 x.f1.f3,.int .i64 x.f1.f4,.slice A6 x.f1.f5.length c6] := fun W2 hW => k61_mk W2 x l3 (g3 W2 hW) l6 (g6 W2 hW)
structure S53 where
  f0 : Bool
  f1 : Int
def z53 : S53:=⟨false,(0 : Int)⟩
def k53 : Kd S53:=Kd.iso (Kd.pair Kd.bool (Kd.int .i64)) (fun x : S53 => (x.f0,x.f1))
theorem k53_heap : Kd.Heap k53:=Kd.heap_iso _ (Kd.heap_pair Kd.heap_bool (Kd.heap_int .i64))
theorem k53_open {w : World} {x : S53} {cs : List Value} (h : k53.K w x cs) : cs = [.bool x.f0,.int .i64 x.f1] := by
 obtain ⟨_,_,rfl,rfl,rfl⟩ := h
 exact rfl
theorem k53_mkM (w : World) (base : Nat) (ok : Nat → Prop) (x : S53)  : k53.M w base ok x [.bool x.f0,.int .i64 x.f1] := ⟨[.bool x.f0],[.int .i64 x.f1],rfl,rfl,rfl⟩
def rd_T53 (xs : List S53) (i : Int) : S53:=xs.getD i.toNat z53
theorem at_T53 {w : World} {A : Option Addr} {n : Nat} {xs : List S53} (h : Kd.C k53 w A n xs) (i : Int) (h0 : 0 ≤ i) (h1 : i < n) : ∃ ad ,A = some ad ∧ w.cell? (ad.add (i.toNat * 2)) = some (.bool (rd_T53 xs i).f0) ∧ w.cell? ⟨(ad.add (i.toNat * 2)).block,(ad.add (i.toNat * 2)).off + 1,none⟩ = some (.int .i64 (rd_T53 xs i).f1) := by
 obtain ⟨ad,c,e,_,hK,hc0⟩ := Kd.C_get h z53 i h0 h1
 have hc : ∀ j u,c[j]? = some u → w.cell? (ad.add (i.toNat * 2 + j)) = some u:=hc0
 obtain rfl:=k53_open hK
 exact ⟨ad,e,hc 0 _ rfl,by rw [← add_field _ _ 1 (by omega)];exact hc 1 _ rfl⟩
structure S30 where
  f0 : Int
  f1 : (List S53)
def z30 : S30:=⟨(0 : Int),([] : List S53)⟩
def k30 : Kd S30:=Kd.iso (Kd.pair (Kd.int .i64) (Kd.slice 53 k53)) (fun x : S30 => (x.f0,x.f1))
theorem k30_heap : Kd.Heap k30:=Kd.heap_iso _ (Kd.heap_pair (Kd.heap_int .i64) (Kd.heap_slice 53 k53_heap))
theorem k30_open {w : World} {x : S30} {cs : List Value} (h : k30.K w x cs) : ∃ A1 c1,cs = [.int .i64 x.f0,.slice A1 x.f1.length c1] ∧ x.f1.length ≤ c1 ∧ k53.C w A1 x.f1.length x.f1:=by
 obtain ⟨_,_,rfl,rfl,⟨A1,c1,rfl,l1,g1⟩⟩ := h
 exact ⟨A1,c1,rfl,l1,g1⟩
theorem k30_mk (w : World) (x : S30) {A1 : Option Addr} {c1 : Nat} (l1 : x.f1.length ≤ c1) (g1 : k53.C w A1 x.f1.length x.f1) : k30.K w x [.int .i64 x.f0,.slice A1 x.f1.length c1] := ⟨[.int .i64 x.f0],[.slice A1 x.f1.length c1],rfl,rfl,⟨A1,c1,rfl,l1,g1⟩⟩
theorem k30_mkF (W : World) (ok : Nat → Prop) (x : S30) {A1 : Option Addr} {c1 : Nat} (l1 : x.f1.length ≤ c1) (g1 : Kd.F k53 W ok A1 x.f1.length x.f1) : Kd.FK k30 W ok x [.int .i64 x.f0,.slice A1 x.f1.length c1] := fun W2 hW => k30_mk W2 x l1 (g1 W2 hW)
def rd_T30 (xs : List S30) (i : Int) : S30:=xs.getD i.toNat z30
theorem at_T30 {w : World} {A : Option Addr} {n : Nat} {xs : List S30} (h : Kd.C k30 w A n xs) (i : Int) (h0 : 0 ≤ i) (h1 : i < n) : ∃ ad A1 c1,A = some ad ∧ w.cell? (ad.add (i.toNat * 2)) = some (.int .i64 (rd_T30 xs i).f0) ∧ w.cell? ⟨(ad.add (i.toNat * 2)).block,(ad.add (i.toNat * 2)).off + 1,none⟩ = some (.slice A1 (rd_T30 xs i).f1.length c1) ∧ (rd_T30 xs i).f1.length ≤ c1 ∧ k53.C w A1 (rd_T30 xs i).f1.length (rd_T30 xs i).f1:=by
 obtain ⟨ad,c,e,_,hK,hc0⟩ := Kd.C_get h z30 i h0 h1
 have hc : ∀ j u,c[j]? = some u → w.cell? (ad.add (i.toNat * 2 + j)) = some u:=hc0
 obtain ⟨A1,c1,rfl,l1,g1⟩ := k30_open hK
 exact ⟨ad,A1,c1,e,hc 0 _ rfl,by rw [← add_field _ _ 1 (by omega)];exact hc 1 _ rfl,l1,g1⟩
def rd_L13 (xs : List (List Bool)) (i : Int) : (List Bool) := xs.getD i.toNat ([] : List Bool)
theorem at_L13 {w : World} {A : Option Addr} {n : Nat} {xs : List (List Bool)} (h : Kd.C (Kd.slice 4 Kd.bool) w A n xs) (i : Int) (h0 : 0 ≤ i) (h1 : i < n) : ∃ ad A0 c0,A = some ad ∧ w.cell? (ad.add i.toNat) = some (.slice A0 (rd_L13 xs i).length c0) ∧ (rd_L13 xs i).length ≤ c0 ∧ Kd.bool.C w A0 (rd_L13 xs i).length (rd_L13 xs i) := by
 obtain ⟨ad,c,e,_,hK,hc0⟩ := Kd.C_get h ([] : List Bool) i h0 h1
 have hc : ∀ j u,c[j]? = some u → w.cell? (ad.add (i.toNat * 1 + j)) = some u:=hc0
 obtain ⟨A0,c0,rfl,l0,g0⟩ := hK
 exact ⟨ad,A0,c0,e,by have hq:=hc 0 _ rfl;rwa [Nat.mul_one,Nat.add_zero] at hq,l0,g0⟩
structure S50 where
  f0 : Int
  f1 : Int
  f2 : Int
  f3 : Int
def z50 : S50:=⟨(0 : Int),(0 : Int),(0 : Int),(0 : Int)⟩
def k50 : Kd S50:=Kd.iso (Kd.pair (Kd.int .i64) (Kd.pair (Kd.int .i64) (Kd.pair (Kd.int .i64) (Kd.int .i64)))) (fun x : S50 => (x.f0,x.f1,x.f2,x.f3))
theorem k50_open {w : World} {x : S50} {cs : List Value} (h : k50.K w x cs) : cs = [.int .i64 x.f0,.int .i64 x.f1,.int .i64 x.f2,.int .i64 x.f3] := by
 obtain ⟨_,_,rfl,rfl,⟨_,_,rfl,rfl,⟨_,_,rfl,rfl,rfl⟩⟩⟩ := h
 exact rfl
theorem k50_mkM (w : World) (base : Nat) (ok : Nat → Prop) (x : S50)  : k50.M w base ok x [.int .i64 x.f0,.int .i64 x.f1,.int .i64 x.f2,.int .i64 x.f3] := ⟨[.int .i64 x.f0],[.int .i64 x.f1,.int .i64 x.f2,.int .i64 x.f3],rfl,rfl,⟨[.int .i64 x.f1],[.int .i64 x.f2,.int .i64 x.f3],rfl,rfl,⟨[.int .i64 x.f2],[.int .i64 x.f3],rfl,rfl,rfl⟩⟩⟩
def rd_T50 (xs : List S50) (i : Int) : S50:=xs.getD i.toNat z50
theorem at_T50 {w : World} {A : Option Addr} {n : Nat} {xs : List S50} (h : Kd.C k50 w A n xs) (i : Int) (h0 : 0 ≤ i) (h1 : i < n) : ∃ ad ,A = some ad ∧ w.cell? (ad.add (i.toNat * 4)) = some (.int .i64 (rd_T50 xs i).f0) ∧ w.cell? ⟨(ad.add (i.toNat * 4)).block,(ad.add (i.toNat * 4)).off + 1,none⟩ = some (.int .i64 (rd_T50 xs i).f1) ∧ w.cell? ⟨(ad.add (i.toNat * 4)).block,(ad.add (i.toNat * 4)).off + 2,none⟩ = some (.int .i64 (rd_T50 xs i).f2) ∧ w.cell? ⟨(ad.add (i.toNat * 4)).block,(ad.add (i.toNat * 4)).off + 3,none⟩ = some (.int .i64 (rd_T50 xs i).f3) := by
 obtain ⟨ad,c,e,_,hK,hc0⟩ := Kd.C_get h z50 i h0 h1
 have hc : ∀ j u,c[j]? = some u → w.cell? (ad.add (i.toNat * 4 + j)) = some u:=hc0
 obtain rfl:=k50_open hK
 exact ⟨ad,e,hc 0 _ rfl,by rw [← add_field _ _ 1 (by omega)];exact hc 1 _ rfl,by rw [← add_field _ _ 2 (by omega)];exact hc 2 _ rfl,by rw [← add_field _ _ 3 (by omega)];exact hc 3 _ rfl⟩
end Go.Proofs.Ytfdcfihcfegekaa.P
end

section
namespace Go.Proofs.Ytfdcfihcfegekaa.Open
open Go.RowKit Go.Proofs.YtfdcfihcfegekaaW.PrintWords Go.Proofs.Ytfdcfihcfegekaa.P
set_option linter.unusedVariables false
variable {H : Type} {enc : TypeId × Value → H} {W : World}
theorem openSym (n : Nat) : OpenS enc Try.prog W k53 (fun _ => 1) 53 n:=by
 cases n with
 | zero => exact openS_zero
 | succ n => exact openS_sz (openS_iso _ (fun a => ⟨⟨a.1,a.2⟩,rfl⟩) (openS_struct Try.underlying53 (by kernel_rfl) (openF_cons rfl (by kernel_rfl) (openS_bool Try.underlying4 n) (openF_one rfl (by kernel_rfl) (openS_int Try.underlying3 n))))) (fun _ => by omega)
theorem openProd (n : Nat) : OpenS enc Try.prog W k30 (fun p => p.f1.length + 1) 30 n:=by
 cases n with
 | zero => exact openS_zero
 | succ n => exact openS_sz (openS_iso _ (fun a => ⟨⟨a.1,a.2⟩,rfl⟩) (openS_struct Try.underlying30 (by kernel_rfl) (openF_cons rfl (by kernel_rfl) (openS_int Try.underlying3 n) (openF_one rfl (by kernel_rfl) ((openS_slice Try.underlying28 (by kernel_rfl) (openSym n)).le (Nat.le_succ n)))))) (fun p => by
  have:=szL_length (sz:=fun _ : S53 => 1) (fun _ => Nat.le_refl _) p.f1
  simp only
  omega)
theorem openExpr : ∀ n : Nat,OpenS enc Try.prog W k59 (fun _ => 1) 59 n
  | 0 => openS_zero
  | n + 1 => by
    have ih:=openExpr n
    have h : OpenS enc Try.prog W (F59 k59) (fun _ => 1) 59 (n + 1) :=
      openS_sz (openS_iso _ (fun a => ⟨⟨a.1,a.2.1,a.2.2.1,a.2.2.2.1,a.2.2.2.2.1,a.2.2.2.2.2⟩,rfl⟩) (openS_struct Try.underlying59 (by kernel_rfl) (openF_cons rfl (by kernel_rfl) (openS_int Try.underlying3 n) (openF_cons rfl (by kernel_rfl) (openS_string Try.underlying9 n) (openF_cons rfl (by kernel_rfl) ((openS_slice Try.underlying43 (by kernel_rfl) (openS_int Try.underlying3 n)).le (Nat.le_succ n)) (openF_cons rfl (by kernel_rfl) (openS_int Try.underlying3 n) (openF_cons rfl (by kernel_rfl) (openS_int Try.underlying3 n) (openF_one rfl (by kernel_rfl) ((openS_slice Try.underlying57 (by kernel_rfl) ih).le (Nat.le_succ n)))))))))) (fun _ => by omega)
    intro f hf cs x hx
    obtain ⟨a,ha,hs⟩ := h f hf cs x hx
    obtain ⟨_,_,rfl,rfl,⟨_,_,rfl,rfl,⟨_,_,rfl,⟨A2,c2,rfl,l2,g2⟩,⟨_,_,rfl,rfl,⟨_,_,rfl,rfl,⟨A5,c5,rfl,l5,g5⟩⟩⟩⟩⟩⟩ := ha
    exact ⟨a,k59_mk W a l2 g2 l5 g5,hs⟩
theorem openTok (n : Nat) : OpenS enc Try.prog W k61 (fun _ => 1) 61 n:=by
 cases n with
 | zero => exact openS_zero
 | succ n => exact openS_sz (openS_iso _ (fun a => ⟨⟨a.1,a.2⟩,rfl⟩) (openS_struct Try.underlying61 (by kernel_rfl) (openF_cons rfl (by kernel_rfl) (openS_string Try.underlying9 n) (openF_one rfl (by kernel_rfl) (openExpr n))))) (fun _ => by omega)
theorem open_syntax {cs : Array Value} {d : DataW H} {ps : List MemPlace} (h : DataW.Trod enc Try.prog W 0 (fun _ => true) true 26 (.agg cs) d ps) : ∃ (A0 : Option Addr) (c0 : Nat) (l0 : List ByteArray) (A1 : Option Addr) (c1 : Nat) (l1 : List S61) (a2 a3 : Int) (A4 : Option Addr) (c4 : Nat) (l4 : List S30),
    cs = #[.slice A0 l0.length c0,.slice A1 l1.length c1,.int .i64 a2,.int .i64 a3,.slice A4 l4.length c4] ∧ Kd.string.C W A0 l0.length l0 ∧ l0.length ≤ c0 ∧ k61.C W A1 l1.length l1 ∧ l1.length ≤ c1 ∧ k30.C W A4 l4.length l4 ∧ l4.length ≤ c4 ∧
    l0.length + l1.length + szL (fun p : S30 => p.f1.length + 1) l4 ≤ Rows.uptoBulk d:=by
 obtain ⟨fuel,hf⟩ := h
 cases fuel with
 | zero => simp [DataW.trod] at hf
 | succ n =>
  obtain ⟨⟨l0,l1,a2,a3,l4⟩,hK,hs⟩ := openS_struct (enc:=enc) (P:=Try.prog) (W:=W) (n:=n) Try.underlying26 (by kernel_rfl) (openF_cons rfl (by kernel_rfl) ((openS_slice Try.underlying22 (by kernel_rfl) (openS_string Try.underlying9 n)).le (Nat.le_succ n)) (openF_cons rfl (by kernel_rfl) ((openS_slice Try.underlying23 (by kernel_rfl) (openTok n)).le (Nat.le_succ n)) (openF_cons rfl (by kernel_rfl) (openS_int Try.underlying3 n) (openF_cons rfl (by kernel_rfl) (openS_int Try.underlying3 n) (openF_one rfl (by kernel_rfl) ((openS_slice Try.underlying24 (by kernel_rfl) (openProd n)).le (Nat.le_succ n))))))) (n + 1) (Nat.le_refl _) _ _ hf
  obtain ⟨_,_,e,⟨A0,c0,rfl,h0,g0⟩,⟨_,_,rfl,⟨A1,c1,rfl,h1,g1⟩,⟨_,_,rfl,rfl,⟨_,_,rfl,rfl,⟨A4,c4,rfl,h4,g4⟩⟩⟩⟩⟩ := hK
  refine ⟨A0,c0,l0,A1,c1,l1,a2,a3,A4,c4,l4,?_,g0,h0,g1,h1,g4,h4,?_⟩
  · have e2 : cs.toList = [.slice A0 l0.length c0,.slice A1 l1.length c1,.int .i64 a2,.int .i64 a3,.slice A4 l4.length c4] := by simpa [Value.cells] using e
    exact Array.toList_inj.1 e2
  · have s0:=szL_length (sz:=fun _ : ByteArray => 1) (fun _ => Nat.le_refl _) l0
    have s1:=szL_length (sz:=fun _ : S61 => 1) (fun _ => Nat.le_refl _) l1
    simp only at hs
    omega
end Go.Proofs.Ytfdcfihcfegekaa.Open
end

section
namespace Go.Proofs.Ytfdcfihcfegekaa.P
open Go.RowKit Go.Proofs.YtfdcfihcfegekaaW.PrintWords Go.Proofs.YtfdcfihcfegekaaW.PrintLast Go.Proofs.YtfdcfihcfegekaaW.PrintMore
attribute [local go_sem] max2_int min2_int max_two min_two max_three min_three max_four min_four   -- for this text's walks alone
set_option linter.unusedVariables false
set_option linter.unusedSimpArgs false
mutual
def predict_rows.l0 : Nat → List (List Int) → Int → Int → List ByteArray → List (S61) → Int → Int → List (S30) → Option ((List (List Int)))
  | 0,_,_,_,_,_,_,_,_ => none
  | k + 1,x3,x11,x12,x170000,x170001,x170002,x170003,x170004 => if x12 < x11 then (if 0 ≤ (wrap64 ((x170001.length : Int) + 1)) then (if (wrap64 ((x170001.length : Int) + 1) : Int).toNat ≤ 35184372088832 then (if 0 ≤ x12 then (if x12 < (x3.length : Int) then ((some (x3.set (x12 : Int).toNat (List.replicate (wrap64 ((x170001.length : Int) + 1) : Int).toNat 0) : List (List Int))).bind fun y176 => (predict_rows.l1 k y176 x12 x11 x12 ((rd_L3 y176 x12).length : Int) 0 x170000 x170001 x170002 x170003 x170004)) else (none)) else (none)) else (none)) else (none)) else (some x3)
def predict_rows.l1 : Nat → List (List Int) → Int → Int → Int → Int → Int → List ByteArray → List (S61) → Int → Int → List (S30) → Option ((List (List Int)))
  | 0,_,_,_,_,_,_,_,_,_,_,_ => none
  | k + 1,x3,x4,x11,x12,x27,x28,x170000,x170001,x170002,x170003,x170004 => if x28 < x27 then (if 0 ≤ x4 then (if x4 < (x3.length : Int) then (if 0 ≤ x28 then (if x28 < ((rd_L3 x3 x4).length : Int) then (predict_rows.l1 k (x3.set (x4 : Int).toNat ((rd_L3 x3 x4).set (x28 : Int).toNat (-1))) x4 x11 x12 x27 (wrap64 (x28 + 1)) x170000 x170001 x170002 x170003 x170004) else (none)) else (none)) else (none)) else (none)) else (predict_rows.l0 k x3 x11 (wrap64 (x12 + 1)) x170000 x170001 x170002 x170003 x170004)
end
def predict_rows.f (k : Nat) (l0_0 : List ByteArray) (l0_1 : List (S61)) (a0_2 : Int) (a0_3 : Int) (l0_4 : List (S30)) : Option ((List (List Int))) := if 0 ≤ (l0_0.length : Int) then (if ((l0_0.length : Int) : Int).toNat ≤ 11728124029610 then ((some (List.replicate ((l0_0.length : Int) : Int).toNat [] : List (List Int))).bind fun y170 => (predict_rows.l0 k y170 (y170.length : Int) 0 l0_0 l0_1 a0_2 a0_3 l0_4)) else (none)) else (none)
set_option maxHeartbeats 8000000 in
set_option maxRecDepth 100000 in
theorem predict_rows.calls (k : Nat) (A0_0 : Option Addr) (c0_0 : Nat) (l0_0 : List ByteArray) (A0_1 : Option Addr) (c0_1 : Nat) (l0_1 : List (S61)) (a0_2 : Int) (a0_3 : Int) (A0_4 : Option Addr) (c0_4 : Nat) (l0_4 : List (S30)) (r : List (List Int)) (w : World) (hr0_0 : Kd.C Kd.string w A0_0 l0_0.length l0_0) (hc0_0 : l0_0.length ≤ c0_0) (hr0_1 : Kd.C k61 w A0_1 l0_1.length l0_1) (hc0_1 : l0_1.length ≤ c0_1) (hr0_4 : Kd.C k30 w A0_4 l0_4.length l0_4) (hc0_4 : l0_4.length ≤ c0_4) (h : predict_rows.f k l0_0 l0_1 a0_2 a0_3 l0_4 = some r) :
    Calls Try.prog 24 #[.agg #[.slice A0_0 l0_0.length c0_0,.slice A0_1 l0_1.length c0_1,.int .i64 a0_2,.int .i64 a0_3,.slice A0_4 l0_4.length c0_4]] w fun e w' => ∃ v0_ : Value,e = .returned (v0_) ∧ Kd.S (Kd.slice 3 (Kd.int .i64)) 43 w' w.heap.size (fun _ => True) v0_ r ∧ Below w.heap.size w w' := by
 have hu26:=Try.underlying26
 have HR0_0:=Aside0.mk hr0_0
 have HC0_0:=Aside0.mk hc0_0
 clear hr0_0 hc0_0
 have HR0_1:=Aside0.mk hr0_1
 have HC0_1:=Aside0.mk hc0_1
 clear hr0_1 hc0_1
 have HR0_4:=Aside0.mk hr0_4
 have HC0_4:=Aside0.mk hc0_4
 clear hr0_4 hc0_4
 have HB:=Aside0.mk (Below.refl w.heap.size w)
 have H : (if 0 ≤ (l0_0.length : Int) then (if ((l0_0.length : Int) : Int).toNat ≤ 11728124029610 then ((some (List.replicate ((l0_0.length : Int) : Int).toNat [] : List (List Int))).bind fun y170 => (predict_rows.l0 k y170 (y170.length : Int) 0 l0_0 l0_1 a0_2 a0_3 l0_4)) else (none)) else (none)) = some r:=h
 clear h
 by_cases c2 : 0 ≤ (l0_0.length : Int)
 rotate_left
 · rw [if_neg c2] at H
   exact absurd H (by simp)
 rw [if_pos c2] at H
 have c2b0:=eq_true c2
 have c2b1 : decide (0 ≤ (l0_0.length : Int)) = true:=decide_eq_true c2
 clear c2
 by_cases c3 : ((l0_0.length : Int) : Int).toNat ≤ 11728124029610
 rotate_left
 · rw [if_neg c3] at H
   exact absurd H (by simp)
 rw [if_pos c3] at H
 have c3b0:=eq_true c3
 have c3b1 : decide (((l0_0.length : Int) : Int).toNat ≤ 11728124029610) = true:=decide_eq_true c3
 clear c3
 obtain ⟨y170,hy170⟩ : ∃ y_ : List (List Int),y_ = (List.replicate ((l0_0.length : Int) : Int).toNat []) := ⟨_,rfl⟩
 replace H : (predict_rows.l0 k y170 (y170.length : Int) 0 l0_0 l0_1 a0_2 a0_3 l0_4) = some r:=by first | (rw [hy170];with_reducible exact H) | (have H2_:=(Option.bind_some _ _).symm.trans H;rw [hy170];with_reducible exact H2_) | (have H2_:=(Option.bind_some _ _).symm.trans H;with_reducible exact H2_) | with_reducible exact H | (rw [hy170];exact H) | exact H
 have Ny170:=Aside0.mk hy170
 clear hy170
 have H' := Aside0.mk H
 clear H
 go_enter Try.func24,Try.ntmps24
 go_wp2_with (first | ((with_reducible refine gate_dst (N:=1) rfl ?_);refine box_event ?hg (N:=1) ?hd (cs:=#[.slice A0_0 l0_0.length c0_0,.slice A0_1 l0_1.length c0_1,.int .i64 a0_2,.int .i64 a0_3,.slice A0_4 l0_4.length c0_4]) (t:=26) ?hr ?_;(case hd => rfl);(case hg => rfl);(case hr => first | (go_simp;done) | (go_simp;rfl));intro gb169 hg w4 hbox hb;have n0_:=Aside0.mk (below_step (by repeat (first | (with_reducible first | exact HB.out | apply below_alloc | apply pw_below_drewN | apply below_drew1) | exact HB.out)) hb);have n1_:=Aside0.mk (hbox);have n2_:=Aside0.mk ((by rw [hg];exact (below_size (by repeat (first | (with_reducible first | exact HB.out | apply below_alloc | apply pw_below_drewN | apply below_drew1) | exact HB.out))) : w.heap.size ≤ gb169));have n3_:=Aside0.mk ((by rw [hg];exact (below_size (by repeat (first | (with_reducible first | exact HB.out | apply below_alloc | apply pw_below_drewN | apply below_drew1) | exact HB.out))) : w.heap.size ≤ gb169));clear HB;have HB:=n0_;have BK169:=n1_;have GW169:=n2_;have GE169:=n3_;clear n0_ n1_ n2_ n3_;clear hb hbox hg;have hcz5_0 : w4.cell? ⟨gb169,0,none⟩ = some (.slice A0_0 l0_0.length c0_0) := (blk_cell BK169.out 0).trans rfl;have hcz5_1 : w4.cell? ⟨gb169,1,none⟩ = some (.slice A0_1 l0_1.length c0_1) := (blk_cell BK169.out 1).trans rfl;have hcz5_2 : w4.cell? ⟨gb169,2,none⟩ = some (.int .i64 a0_2) := (blk_cell BK169.out 2).trans rfl;have hcz5_3 : w4.cell? ⟨gb169,3,none⟩ = some (.int .i64 a0_3) := (blk_cell BK169.out 3).trans rfl;have hcz5_4 : w4.cell? ⟨gb169,4,none⟩ = some (.slice A0_4 l0_4.length c0_4) := (blk_cell BK169.out 4).trans rfl;have hfz5_0:=blk_frozen BK169.out 0;have hfz5_1:=blk_frozen BK169.out 1;have hfz5_2:=blk_frozen BK169.out 2;have hfz5_3:=blk_frozen BK169.out 3;have hfz5_4:=blk_frozen BK169.out 4) | ((with_reducible refine gate_dst (N:=9) rfl ?_);refine Kd.S_make (Kd.slice 3 (Kd.int .i64)) _ 43 rfl (N:=9) rfl 36 _ _ rfl (l0_0.length : Int) rfl rfl Try.underlying36 (.slice none 0 0) 24 info43 rfl (by decide) (by omega) [] (ok:=fun _ => True) (okp:=fun _ => True) ⟨_,rfl,Kd.R_nil _ _ _ _ _⟩ (fun _ hk => hk) trivial (of_decide_eq_true (by first | (with_reducible assumption) | assumption)) (Nat.le_trans (Nat.mul_le_mul_right _ (of_decide_eq_true (by first | (with_reducible assumption) | assumption) : (l0_0.length : Int).toNat ≤ 11728124029610)) (by omega)) (Below.refl _ _) (Nat.le_refl _) ?_;intro v171 w6 ho7 hb hg_ hnew_;clear hg_ hnew_;(first | rw [← Ny170.out] at ho7 | (simp only [Int.reduceToNat] at ho7;rw [← Ny170.out] at ho7));have n0_:=Aside0.mk (Kd.S_lower ho7 (below_size (by repeat (first | (with_reducible first | exact HB.out | apply below_alloc | apply pw_below_drewN | apply below_drew1 | refine below_set ?_ GE169.out) | exact HB.out))));have n1_:=Aside0.mk (blk_below (g:=gb169) (o := .cells #[.slice A0_0 l0_0.length c0_0,.slice A0_1 l0_1.length c0_1,.int .i64 a0_2,.int .i64 a0_3,.slice A0_4 l0_4.length c0_4] 26 (0,0)) (by (with_reducible repeat (first | refine blk_drewN ?_ _ | refine blk_drew ?_ | refine blk_alloc ?_ _));exact BK169.out) hb);have n2_:=Aside0.mk (below_step (by repeat (first | (with_reducible first | exact HB.out | apply below_alloc | apply pw_below_drewN | apply below_drew1 | refine below_set ?_ GE169.out) | exact HB.out)) hb);clear BK169;clear HB;have HO172:=n0_;have BK169:=n1_;have HB:=n2_;clear n0_ n1_ n2_;clear hb ho7;obtain ⟨Ao8,co8,eo8⟩ := Kd.S_slice HO172.out;subst eo8))
 go_loopg [12] k (fun kq v12 w' => ∃ (x3_1 : List (List Int)) (x12_1 : Int),v12 = .int .i64 x12_1 ∧ Aside0 (predict_rows.l0 kq x3_1 (y170.length : Int) x12_1 l0_0 l0_1 a0_2 a0_3 l0_4 = some r) ∧ Aside0 (kq ≤ k) ∧ Aside0 (Kd.S (Kd.slice 3 (Kd.int .i64)) 43 w' w.heap.size (fun _ => True) (.slice Ao8 y170.length co8) x3_1) ∧ Aside0 (w'.heap[gb169]? = some (.cells #[(.slice A0_0 l0_0.length c0_0),(.slice A0_1 l0_1.length c0_1),.int .i64 a0_2,.int .i64 a0_3,(.slice A0_4 l0_4.length c0_4)] 26 (0,0))) ∧ Aside0 (Below w.heap.size w w'))
 case atStart => exact ⟨(y170),(0),(by first | rfl | (simp;done) | (simp [*];done)),H',⟨Nat.le_refl _⟩,⟨by (with_reducible repeat (first | apply Kd.S_alloc | apply Kd.S_drewN | apply Kd.S_drew));exact HO172.out⟩,⟨by (with_reducible repeat (first | refine blk_drewN ?_ _ | refine blk_drew ?_ | refine blk_alloc ?_ _));exact BK169.out⟩,⟨by repeat (first | (with_reducible first | exact HB.out | apply below_alloc | apply pw_below_drewN | apply below_drew1 | refine below_set ?_ GE169.out) | exact HB.out)⟩⟩
 case round =>
  clear H'
  (try clear c2);(try clear c2b0);(try clear c2b1);(try clear p2);(try clear c3);(try clear c3b0);(try clear c3b1);(try clear hcz5_0);(try clear hcz5_1);(try clear hcz5_2);(try clear hcz5_3);(try clear hcz5_4);(try clear hfz5_0);(try clear hfz5_1);(try clear hfz5_2);(try clear hfz5_3);(try clear hfz5_4)
  obtain ⟨x3_1,x12_1,rfl,HA,HK1,HO_3,BK169,HB⟩ := hrel
  have hl3_1:=(Kd.S_reads' HO_3.out).1
  rw [hl3_1] at HO_3
  (try simp only [hl3_1])
  (try simp only [hl3_1] at BK169)
  cases gk with
  | zero => exact absurd HA.out (by simp [predict_rows.l0])
  | succ k1 =>
   have H:=HA.out
   clear HA
   simp only [predict_rows.l0] at H
   by_cases c9 : x12_1 < (y170.length : Int)
   · rw [if_pos c9] at H
     have c9b0 : decide (x12_1 < (y170.length : Int)) = true:=decide_eq_true c9
     (try (have c9z0:=c9b0;simp only [hl3_1] at c9z0))
     clear c9
     obtain ⟨ji10,hji10⟩ : ∃ j_ : Int,(wrap64 ((l0_1.length : Int) + 1)) = j_:=⟨_,rfl⟩
     replace H : (if 0 ≤ (ji10) then (if (ji10 : Int).toNat ≤ 35184372088832 then (if 0 ≤ x12_1 then (if x12_1 < (x3_1.length : Int) then ((some (x3_1.set (x12_1 : Int).toNat (List.replicate (ji10 : Int).toNat 0) : List (List Int))).bind fun y176 => (predict_rows.l1 k1 y176 x12_1 (y170.length : Int) x12_1 ((rd_L3 y176 x12_1).length : Int) 0 l0_0 l0_1 a0_2 a0_3 l0_4)) else (none)) else (none)) else (none)) else (none)) = some r:=by first | (rw [hji10] at H;exact H) | (simp only [hji10] at H ⊢;exact H)
     have hji10w : (IntKind.i64.wrap ((l0_1.length : Int) + 1)) = ji10:=(i64_w _).trans hji10
     by_cases c11 : 0 ≤ (ji10)
     rotate_left
     · rw [if_neg c11] at H
       exact absurd H (by simp)
     rw [if_pos c11] at H
     have c11b0:=eq_true c11
     have c11b1 : decide (0 ≤ (ji10)) = true:=decide_eq_true c11
     clear c11
     by_cases c12 : (ji10 : Int).toNat ≤ 35184372088832
     rotate_left
     · rw [if_neg c12] at H
       exact absurd H (by simp)
     rw [if_pos c12] at H
     have c12b0:=eq_true c12
     have c12b1 : decide ((ji10 : Int).toNat ≤ 35184372088832) = true:=decide_eq_true c12
     clear c12
     obtain ⟨y173,hy173⟩ : ∃ y_ : List Int,y_ = (List.replicate (ji10 : Int).toNat 0) := ⟨_,rfl⟩
     replace H : (if 0 ≤ x12_1 then (if x12_1 < (x3_1.length : Int) then ((some (x3_1.set (x12_1 : Int).toNat y173 : List (List Int))).bind fun y176 => (predict_rows.l1 k1 y176 x12_1 (y170.length : Int) x12_1 ((rd_L3 y176 x12_1).length : Int) 0 l0_0 l0_1 a0_2 a0_3 l0_4)) else (none)) else (none)) = some r:=by first | (rw [hy173];with_reducible exact H) | (have H2_:=(Option.bind_some _ _).symm.trans H;rw [hy173];with_reducible exact H2_) | (have H2_:=(Option.bind_some _ _).symm.trans H;with_reducible exact H2_) | with_reducible exact H | (rw [hy173];exact H) | exact H
     have Ny173:=Aside0.mk hy173
     clear hy173
     by_cases c13 : 0 ≤ x12_1
     rotate_left
     · rw [if_neg c13] at H
       exact absurd H (by simp)
     rw [if_pos c13] at H
     have c13b0 : decide (0 ≤ x12_1) = true:=decide_eq_true c13
     clear c13
     by_cases c14 : x12_1 < (x3_1.length : Int)
     rotate_left
     · rw [if_neg c14] at H
       exact absurd H (by simp)
     rw [if_pos c14] at H
     have c14b0 : decide (x12_1 < (x3_1.length : Int)) = true:=decide_eq_true c14
     (try (have c14z0:=c14b0;simp only [hl3_1] at c14z0))
     clear c14
     obtain ⟨y176,hy176⟩ : ∃ y_ : List (List Int),y_ = (x3_1.set (x12_1 : Int).toNat y173) := ⟨_,rfl⟩
     replace H : (predict_rows.l1 k1 y176 x12_1 (y170.length : Int) x12_1 ((rd_L3 y176 x12_1).length : Int) 0 l0_0 l0_1 a0_2 a0_3 l0_4) = some r:=by first | (rw [hy176];with_reducible exact H) | (have H2_:=(Option.bind_some _ _).symm.trans H;rw [hy176];with_reducible exact H2_) | (have H2_:=(Option.bind_some _ _).symm.trans H;with_reducible exact H2_) | with_reducible exact H | (rw [hy176];exact H) | exact H
     have Ny176:=Aside0.mk hy176
     clear hy176
     have H' := Aside0.mk H
     clear H
     have hcz16_0 : wr.cell? ⟨gb169,0,none⟩ = some (.slice A0_0 l0_0.length c0_0) := (blk_cell BK169.out 0).trans rfl
     have hcz16_1 : wr.cell? ⟨gb169,1,none⟩ = some (.slice A0_1 l0_1.length c0_1) := (blk_cell BK169.out 1).trans rfl
     have hcz16_2 : wr.cell? ⟨gb169,2,none⟩ = some (.int .i64 a0_2) := (blk_cell BK169.out 2).trans rfl
     have hcz16_3 : wr.cell? ⟨gb169,3,none⟩ = some (.int .i64 a0_3) := (blk_cell BK169.out 3).trans rfl
     have hcz16_4 : wr.cell? ⟨gb169,4,none⟩ = some (.slice A0_4 l0_4.length c0_4) := (blk_cell BK169.out 4).trans rfl
     have hfz16_0:=blk_frozen BK169.out 0
     have hfz16_1:=blk_frozen BK169.out 1
     have hfz16_2:=blk_frozen BK169.out 2
     have hfz16_3:=blk_frozen BK169.out 3
     have hfz16_4:=blk_frozen BK169.out 4
     go_wp2_with (first | ((with_reducible refine gate_dst (N:=21) rfl ?_);refine Kd.R_make (Kd.int .i64) _ 3 rfl (N:=21) rfl 43 _ _ rfl ji10 rfl rfl Try.underlying43 (.int .i64 0) 8 info3 rfl (by decide) (by omega) 0 (ok:=fun _ => True) (okp:=fun _ => True) rfl (fun _ hk => hk) trivial (of_decide_eq_true (by first | (with_reducible assumption) | assumption)) (Nat.le_trans (Nat.mul_le_mul_right _ (of_decide_eq_true (by first | (with_reducible assumption) | assumption) : ji10.toNat ≤ 35184372088832)) (by omega)) (Below.refl _ _) (Nat.le_refl _) ?_;intro v174 w17 ho18 hb hg_ hnew_;clear hg_ hnew_;(first | rw [← Ny173.out] at ho18 | (simp only [Int.reduceToNat] at ho18;rw [← Ny173.out] at ho18));have n0_:=Aside0.mk (Kd.S_elder' (by (with_reducible repeat (first | apply Kd.S_alloc | apply Kd.S_drewN | apply Kd.S_drew));exact HO_3.out) (Kd.R_base ho18) hb);have n1_:=Aside0.mk (Kd.R_lower ho18 (below_size (by repeat (first | (with_reducible first | exact HB.out | apply below_alloc | apply pw_below_drewN | apply below_drew1 | refine below_set ?_ GE169.out) | exact HB.out))));have n2_:=Aside0.mk (blk_below (g:=gb169) (o := .cells #[.slice A0_0 l0_0.length c0_0,.slice A0_1 l0_1.length c0_1,.int .i64 a0_2,.int .i64 a0_3,.slice A0_4 l0_4.length c0_4] 26 (0,0)) (by (with_reducible repeat (first | refine blk_drewN ?_ _ | refine blk_drew ?_ | refine blk_alloc ?_ _));exact BK169.out) hb);have n3_:=Aside0.mk (below_step (by repeat (first | (with_reducible first | exact HB.out | apply below_alloc | apply pw_below_drewN | apply below_drew1 | refine below_set ?_ GE169.out) | exact HB.out)) hb);clear HO_3;clear BK169;clear HB;have HO_3:=n0_;have HO175:=n1_;have BK169:=n2_;have HB:=n3_;clear n0_ n1_ n2_ n3_;clear hb ho18;have p15 : 0 ≤ (x12_1 : Int) := of_decide_eq_true (by first | (with_reducible assumption) | assumption);have q15 : (x12_1 : Int) < ((x3_1.length : Int) : Int) := of_decide_eq_true (by first | (with_reducible assumption) | assumption);obtain ⟨go15,co15,eo15,gb15,gl15,cl15,HG15⟩ := Kd.S_form HO_3.out (by omega);(first | cases eo15 | (injection eo15 with ea_ en_ ec_;(first | subst ea_ | (injection ea_ with ea_;subst ea_));subst ec_;clear en_));have GB15:=Aside0.mk gb15;have GG15:=Aside0.mk HG15;clear gb15 gl15 HG15;obtain ⟨_,ce15,hcl15,hM15,hcc15,hfr15,_,_⟩ := Kd.S_elem HO_3.out [] (x12_1 : Int) p15 q15;obtain ⟨ve15_0,rfl,ge15_0⟩ := hM15;have hx15_0:=hcc15 0 _ rfl;have hf15_0:=hfr15 0;(try simp only [show ((Kd.slice 3 (Kd.int .i64))).sz = 1 from rfl,Nat.mul_one,Nat.add_zero] at hx15_0);(try simp only [show ((Kd.slice 3 (Kd.int .i64))).sz = 1 from rfl,Nat.mul_one,Nat.add_zero] at hf15_0);clear hcl15 hcc15 hfr15;(try clear hM15);replace p15:=eq_true p15;replace q15:=eq_true q15;have n_:=Aside0.mk (Kd.S_mono (ok' := (fun k_ => some k_ ≠ (v174 : Value).ownBlock)) HO_3.out (fun k_ hk => hk.2));clear HO_3;have HO_3:=n_;clear n_;have HX19:=Aside0.mk (show Kd.S (Kd.slice 3 (Kd.int .i64)) 43 w17 w.heap.size (fun k_ => ((fun _ => True)) k_ ∧ ¬ ((fun k_ => some k_ = (v174 : Value).ownBlock)) k_) (.slice (some ⟨go15,0,none⟩) x3_1.length co8) x3_1 from (by (with_reducible repeat (first | apply Kd.S_alloc | apply Kd.S_drewN | apply Kd.S_drew));exact Kd.S_mono HO_3.out (fun k_ hk => ⟨trivial,fun e_ => hk e_⟩)));obtain ⟨oki19,ce19,hcl19,hM19,hcc19,hfr19,hoki19,hH19⟩ := Kd.S_elem HX19.out [] (x12_1 : Int) (of_decide_eq_true (by first | (with_reducible assumption) | assumption)) (by have h_ : (x12_1 : Int) < ((x3_1.length : Int) : Int) := of_decide_eq_true (by first | (with_reducible assumption) | assumption);first | exact h_ | (have e_:=(Kd.S_reads' HO_3.out).1;omega) | simpa using h_);obtain ⟨ve19_0,rfl,ge19_0⟩ := hM19;have HP19:=Kd.S_seg hH19 (of_decide_eq_true (by first | (with_reducible assumption) | assumption)) (by have h_ : (x12_1 : Int) < ((x3_1.length : Int) : Int) := of_decide_eq_true (by first | (with_reducible assumption) | assumption);first | exact h_ | (have e_:=(Kd.S_reads' HO_3.out).1;omega) | simpa using h_) (seg := [v174]) (j:=0) (show 1 ≤ 1 from by decide) (x' := y173) (Kd.M_row (Kd.R_mono (Kd.R_tight rfl (Kd.R_mono (ok' := fun k_ => ((fun _ => True)) k_ ∧ k_ ≠ go15) (Kd.R_apart' (HO175.out) (Kd.S_typed HO_3.out) (by decide)) (fun k_ hk => ⟨trivial,fun e_ => (hk.2) (by rw [e_];rfl)⟩))) (fun _ h_ => Or.inr (h_)))) (fun _ hk => hk) (fun k_ hk_ => ((Kd.R_mono (ok' := fun k_ => ((fun _ => True)) k_ ∧ k_ ≠ go15) (Kd.R_apart' (HO175.out) (Kd.S_typed HO_3.out) (by decide)) (fun k_ hk => ⟨trivial,fun e_ => (hk.2) (by rw [e_];rfl)⟩))).1 k_ hk_.symm);have hx19_0:=hcc19 0 _ rfl;(try simp only [show ((Kd.slice 3 (Kd.int .i64))).sz = 1 from rfl,Nat.mul_one,Nat.add_zero] at hx19_0);have hf19_0:=hfr19 0;(try simp only [show ((Kd.slice 3 (Kd.int .i64))).sz = 1 from rfl,Nat.mul_one,Nat.add_zero] at hf19_0);clear hcl19 hcc19 hfr19;(try clear hM19);clear hoki19 hH19;(try simp only [show ((Kd.slice 3 (Kd.int .i64))).sz = 1 from rfl,Nat.mul_one,Nat.add_zero] at HP19)) | ((with_reducible refine gate_store (t:=43) (p:=22) rfl ?_);refine store_event (t:=43) (p:=22) (v:=?vo_w20) (w1:=(w17.setCell ⟨go15,(x12_1 : Int).toNat,none⟩ (v174))) ?hg ?ho ?hn ?hr ?_;(case ho => rfl);(case hg => rfl);(case hn => rfl);(case hr => first | (go_simp;done) | (go_simp;rfl) | (obtain ⟨A_,c_,e_⟩ := Kd.R_slice HO175.out;rw [e_];first | (go_simp;done) | (go_simp;rfl)));intro w20 hw;have hg : w17.grownBy w20 (some go15) := (by rw [hw];exact HP19.2);have hp_ : Kd.S (Kd.slice 3 (Kd.int .i64)) 43 w20 w.heap.size (fun _ => True) (.slice (some ⟨go15,0,none⟩) x3_1.length co8) y176:=(by rw [hw,Ny176.out];exact HP19.1);clear HP19;have n0_:=Aside0.mk (hp_);have n1_:=Aside0.mk (blk_grown (g:=gb169) (o := .cells #[.slice A0_0 l0_0.length c0_0,.slice A0_1 l0_1.length c0_1,.int .i64 a0_2,.int .i64 a0_3,.slice A0_4 l0_4.length c0_4] 26 (0,0)) (by (with_reducible repeat (first | refine blk_drewN ?_ _ | refine blk_drew ?_ | refine blk_alloc ?_ _));exact BK169.out) hg (Kd.S_ne HO_3.out BK169.out (by decide)));have n2_:=Aside0.mk ((by rw [hw];exact below_set (HB.out) GB15.out : Below w.heap.size w w20));clear HO_3;clear BK169;clear HB;clear HO175;have HO_3:=n0_;have BK169:=n1_;have HB:=n2_;clear n0_ n1_ n2_;clear hg hw hp_;have p177 : 0 ≤ (x12_1 : Int) := of_decide_eq_true (by first | (with_reducible assumption) | assumption);have q177 : x12_1 < (y176.length : Int) := (by have h_ : (x12_1 : Int) < ((x3_1.length : Int) : Int) := of_decide_eq_true (by first | (with_reducible assumption) | assumption);first | (have e_:=(Kd.S_reads' HO_3.out).1;omega) | simpa only [Ny176.out,List.length_set] using h_);have ql177 : ((x12_1 : Int) < ((x3_1.length : Int) : Int)) = True:=eq_true (of_decide_eq_true (by first | (with_reducible assumption) | assumption));obtain ⟨ad177,A177_0,c177_0,e177,hx177_0,hl177_0,hi177_0⟩ := at_L3 (Kd.S_reads' HO_3.out).2.2 x12_1 p177 q177;obtain rfl : (⟨go15,0,none⟩ : Addr) = ad177:=(by injection e177);obtain ⟨ce177,hce177,hMe177,hcc177⟩ := Kd.S_get HO_3.out [] x12_1 p177 (by first | exact q177 | exact of_decide_eq_true (by first | (with_reducible assumption) | assumption) | (have e_:=(Kd.S_reads' HO_3.out).1;omega));obtain ⟨ve177_0,rfl,ge177_0⟩ := hMe177;have hv177_0:=hcc177 0 _ rfl;rw [Nat.add_zero,show ((Kd.slice 3 (Kd.int .i64))).sz = 1 from rfl,Nat.mul_one] at hv177_0;replace hv177_0:=Option.some.inj (hv177_0.symm.trans hx177_0);rw [hv177_0] at ge177_0;have HL177_0:=Aside0.mk (show Kd.R (Kd.int .i64) 3 _ _ _ _ (rd_L3 y176 x12_1) from ge177_0);clear hv177_0 ge177_0;have HX177_0:=Aside0.mk hx177_0;clear hcc177 hce177;(first | simp only [add_plain] at hx177_0 | simp only [add_at] at hx177_0 | simp only [Addr.add,Nat.zero_add] at hx177_0 | skip);have HR177_0:=Aside0.mk hi177_0;have HC177_0:=Aside0.mk hl177_0;clear hi177_0 hl177_0;replace p177:=eq_true p177;replace q177:=eq_true q177))
     go_loopg [28] k1 (fun kq v28 w' => ∃ (x3_2 : List (List Int)) (x28_2 : Int),v28 = .int .i64 x28_2 ∧ Aside0 (predict_rows.l1 kq x3_2 x12_1 (y170.length : Int) x12_1 ((rd_L3 y176 x12_1).length : Int) x28_2 l0_0 l0_1 a0_2 a0_3 l0_4 = some r) ∧ Aside0 (kq ≤ k1) ∧ Aside0 (Kd.S (Kd.slice 3 (Kd.int .i64)) 43 w' w.heap.size (fun _ => True) (.slice (some ⟨go15,0,none⟩) x3_1.length co8) x3_2) ∧ Aside0 (w'.heap[gb169]? = some (.cells #[(.slice A0_0 l0_0.length c0_0),(.slice A0_1 l0_1.length c0_1),.int .i64 a0_2,.int .i64 a0_3,(.slice A0_4 l0_4.length c0_4)] 26 (0,0))) ∧ Aside0 (Below w.heap.size w w'))
     case atStart => exact ⟨(y176),(0),(by first | rfl | (simp;done) | (simp [*];done)),H',⟨Nat.le_refl _⟩,⟨by (try simp only [hl3_1]);(with_reducible repeat (first | apply Kd.S_alloc | apply Kd.S_drewN | apply Kd.S_drew));exact HO_3.out⟩,⟨by (try simp only [hl3_1]);(with_reducible repeat (first | refine blk_drewN ?_ _ | refine blk_drew ?_ | refine blk_alloc ?_ _));exact BK169.out⟩,⟨by repeat (first | (with_reducible first | exact HB.out | apply below_alloc | apply pw_below_drewN | apply below_drew1 | refine below_set ?_ GE169.out) | exact HB.out)⟩⟩
     case round =>
      clear H'
      (try clear c1);(try clear p1);(try clear q1);(try clear hx1);(try clear hf1);(try clear c2);(try clear c2b0);(try clear c2b1);(try clear p2);(try clear c3);(try clear c3b0);(try clear c3b1);(try clear p6);(try clear c9);(try clear c9b0);(try clear c11);(try clear c11b0);(try clear c11b1);(try clear c12);(try clear c12b0);(try clear c12b1);(try clear c13);(try clear c13b0);(try clear c14);(try clear c14b0)
      (try clear c15);(try clear p15);(try clear q15);(try clear hx15);(try clear hf15);(try clear c17);(try clear p17);(try clear q17);(try clear hx17);(try clear c19);(try clear hx19);(try clear hf19);(try clear hcz16_0);(try clear hcz16_1);(try clear hcz16_2);(try clear hcz16_3);(try clear hcz16_4);(try clear hcz5_0);(try clear hcz5_1);(try clear hcz5_2);(try clear hcz5_3);(try clear hcz5_4);(try clear hfz16_0)
      (try clear hfz16_1);(try clear hfz16_2);(try clear hfz16_3);(try clear hfz16_4);(try clear hfz5_0);(try clear hfz5_1);(try clear hfz5_2);(try clear hfz5_3);(try clear hfz5_4);(try clear hx15_0);(try clear hx177_0);(try clear hx19_0);(try clear p15);(try clear p177);(try clear p2);(try clear q15);(try clear q177)
      obtain ⟨x3_2,x28_2,rfl,HA,HK2,HO_3,BK169,HB⟩ := hrel
      have hl3_2:=(Kd.S_reads' HO_3.out).1
      rw [hl3_2] at HO_3
      (try simp only [hl3_2])
      (try simp only [hl3_2] at BK169)
      cases gk with
      | zero => exact absurd HA.out (by simp [predict_rows.l1])
      | succ k2 =>
       have H:=HA.out
       clear HA
       simp only [predict_rows.l1] at H
       by_cases c21 : x28_2 < ((rd_L3 y176 x12_1).length : Int)
       · rw [if_pos c21] at H
         have c21b0 : decide (x28_2 < ((rd_L3 y176 x12_1).length : Int)) = true:=decide_eq_true c21
         (try (have c21z0:=c21b0;simp only [hl3_1,hl3_2] at c21z0))
         clear c21
         by_cases c22 : 0 ≤ x12_1
         rotate_left
         · rw [if_neg c22] at H
           exact absurd H (by simp)
         rw [if_pos c22] at H
         have c22b0 : decide (0 ≤ x12_1) = true:=decide_eq_true c22
         clear c22
         by_cases c23 : x12_1 < (x3_2.length : Int)
         rotate_left
         · rw [if_neg c23] at H
           exact absurd H (by simp)
         rw [if_pos c23] at H
         have c23b0 : decide (x12_1 < (x3_2.length : Int)) = true:=decide_eq_true c23
         (try (have c23z0:=c23b0;simp only [hl3_1,hl3_2] at c23z0))
         clear c23
         by_cases c24 : 0 ≤ x28_2
         rotate_left
         · rw [if_neg c24] at H
           exact absurd H (by simp)
         rw [if_pos c24] at H
         have c24b0 : decide (0 ≤ x28_2) = true:=decide_eq_true c24
         clear c24
         by_cases c25 : x28_2 < ((rd_L3 x3_2 x12_1).length : Int)
         rotate_left
         · rw [if_neg c25] at H
           exact absurd H (by simp)
         rw [if_pos c25] at H
         have c25b0 : decide (x28_2 < ((rd_L3 x3_2 x12_1).length : Int)) = true:=decide_eq_true c25
         (try (have c25z0:=c25b0;simp only [hl3_1,hl3_2] at c25z0))
         clear c25
         obtain ⟨y179,hy179⟩ : ∃ y_ : List Int,y_ = ((rd_L3 x3_2 x12_1).set (x28_2 : Int).toNat (-1)) := ⟨_,rfl⟩
         replace H : (predict_rows.l1 k2 (x3_2.set (x12_1 : Int).toNat y179) x12_1 (y170.length : Int) x12_1 ((rd_L3 y176 x12_1).length : Int) (wrap64 (x28_2 + 1)) l0_0 l0_1 a0_2 a0_3 l0_4) = some r:=by first | (rw [hy179];with_reducible exact H) | (have H2_:=(Option.bind_some _ _).symm.trans H;rw [hy179];with_reducible exact H2_) | (have H2_:=(Option.bind_some _ _).symm.trans H;with_reducible exact H2_) | with_reducible exact H | (rw [hy179];exact H) | exact H
         have Ny179:=Aside0.mk hy179
         clear hy179
         obtain ⟨y181,hy181⟩ : ∃ y_ : List (List Int),y_ = (x3_2.set (x12_1 : Int).toNat y179) := ⟨_,rfl⟩
         replace H : (predict_rows.l1 k2 y181 x12_1 (y170.length : Int) x12_1 ((rd_L3 y176 x12_1).length : Int) (wrap64 (x28_2 + 1)) l0_0 l0_1 a0_2 a0_3 l0_4) = some r:=by first | (rw [hy181];with_reducible exact H) | (have H2_:=(Option.bind_some _ _).symm.trans H;rw [hy181];with_reducible exact H2_) | (have H2_:=(Option.bind_some _ _).symm.trans H;with_reducible exact H2_) | with_reducible exact H | (rw [hy181];exact H) | exact H
         have Ny181:=Aside0.mk hy181
         clear hy181
         have H' := Aside0.mk H
         clear H
         have p178 : 0 ≤ (x12_1 : Int) := of_decide_eq_true (by first | (with_reducible assumption) | assumption)
         have q178 : x12_1 < (x3_2.length : Int) := of_decide_eq_true (by first | (with_reducible assumption) | assumption)
         obtain ⟨ad178,A178_0,c178_0,e178,hx178_0,hl178_0,hi178_0⟩ := at_L3 (Kd.S_reads' HO_3.out).2.2 x12_1 p178 q178
         obtain rfl : (⟨go15,0,none⟩ : Addr) = ad178:=(by injection e178)
         obtain ⟨ce178,hce178,hMe178,hcc178⟩ := Kd.S_get HO_3.out [] x12_1 p178 (by first | exact q178 | exact of_decide_eq_true (by first | (with_reducible assumption) | assumption) | (have e_:=(Kd.S_reads' HO_3.out).1;omega))
         obtain ⟨ve178_0,rfl,ge178_0⟩ := hMe178
         have hv178_0:=hcc178 0 _ rfl
         rw [Nat.add_zero,show ((Kd.slice 3 (Kd.int .i64))).sz = 1 from rfl,Nat.mul_one] at hv178_0
         replace hv178_0:=Option.some.inj (hv178_0.symm.trans hx178_0)
         rw [hv178_0] at ge178_0
         have HL178_0:=Aside0.mk (show Kd.R (Kd.int .i64) 3 _ _ _ _ (rd_L3 x3_2 x12_1) from ge178_0)
         clear hv178_0 ge178_0
         have HX178_0:=Aside0.mk hx178_0
         clear hcc178 hce178
         (first | simp only [add_plain] at hx178_0 | simp only [add_at] at hx178_0 | simp only [Addr.add,Nat.zero_add] at hx178_0 | skip)
         have HR178_0:=Aside0.mk hi178_0
         have HC178_0:=Aside0.mk hl178_0
         clear hi178_0 hl178_0
         replace p178:=eq_true p178
         replace q178:=eq_true q178
         have p26 : 0 ≤ (x28_2 : Int) := of_decide_eq_true (by first | (with_reducible assumption) | assumption)
         have q26 : (x28_2 : Int) < (((rd_L3 x3_2 x12_1).length : Int) : Int) := of_decide_eq_true (by first | (with_reducible assumption) | assumption)
         obtain ⟨go26,co26,eo26,gb26,gl26,cl26,HG26⟩ := Kd.R_form HL178_0.out (by omega)
         (first | cases eo26 | (injection eo26 with ea_ en_ ec_;(first | subst ea_ | (injection ea_ with ea_;subst ea_));subst ec_;clear en_))
         have GB26:=Aside0.mk gb26
         have GG26:=Aside0.mk HG26
         clear gb26 gl26 HG26
         obtain ⟨hx26_0,hf26_0⟩ := Kd.R_celln 0 HL178_0.out (x28_2 : Int) p26 q26
         replace p26:=eq_true p26
         replace q26:=eq_true q26
         have hq27 : (x12_1 : Int) < (x3_2.length : Int) := (by have h_ : (x12_1 : Int) < ((x3_2.length : Int) : Int) := of_decide_eq_true (by first | (with_reducible assumption) | assumption);first | exact h_ | (have e_:=(Kd.S_reads' HO_3.out).1;omega) | simpa only [List.length_set,List.length_set] using h_)
         obtain ⟨oki27,ce27,hcl27,hM27,hcc27,hok27,hbk27⟩ := Kd.S_borrow HO_3.out [] (x12_1 : Int) (of_decide_eq_true (by first | (with_reducible assumption) | assumption)) hq27
         obtain ⟨ve27_0,rfl,ge27_0⟩ := hM27
         have hv27:=hcc27 0 _ rfl
         rw [Nat.add_zero,show ((Kd.slice 3 (Kd.int .i64))).sz = 1 from rfl,Nat.mul_one] at hv27
         replace hv27:=Option.some.inj (hv27.symm.trans HX178_0.out)
         subst hv27
         clear hcc27 hcl27
         replace ge27_0:=(show Kd.R (Kd.int .i64) 3 _ _ _ _ (rd_L3 x3_2 x12_1) from ge27_0)
         have HP27:=Kd.R_putg ge27_0 (x28_2 : Int) (-1)
         go_wp2_with (first | ((with_reducible refine gate_store (t:=3) (p:=36) rfl ?_);refine store_event (t:=3) (p:=36) (v:=?vo_w28) (w1:=(wr.setCell ⟨go26,(x28_2 : Int).toNat,none⟩ (.int .i64 (-1)))) ?hg ?ho ?hn ?hr ?_;(case ho => rfl);(case hg => rfl);(case hn => rfl);(case hr => first | (go_simp;done) | (go_simp;rfl));intro w28 hw;have hg : wr.grownBy w28 (some go26) := (by rw [hw];exact HP27.2);have hz_ : Kd.R (Kd.int .i64) 3 w28 w.heap.size oki27 (.slice (some ⟨go26,0,none⟩) (rd_L3 x3_2 x12_1).length c178_0) y179:=(by rw [hw,Ny179.out];exact HP27.1);have hp_ : Kd.S (Kd.slice 3 (Kd.int .i64)) 43 w28 w.heap.size (fun _ => True) (.slice (some ⟨go15,0,none⟩) x3_2.length co8) y181:=(by rw [Ny181.out];exact hbk27 hg (fun k_ e_ => by injection e_ with e_;subst e_;exact ge27_0.1 _ rfl) (Kd.M_row hz_));have hm_:=Kd.R_mono hz_ hok27;clear HP27 hbk27;have n0_:=Aside0.mk (hp_);have n1_:=Aside0.mk (blk_grown (g:=gb169) (o := .cells #[.slice A0_0 l0_0.length c0_0,.slice A0_1 l0_1.length c0_1,.int .i64 a0_2,.int .i64 a0_3,.slice A0_4 l0_4.length c0_4] 26 (0,0)) (by (with_reducible repeat (first | refine blk_drewN ?_ _ | refine blk_drew ?_ | refine blk_alloc ?_ _));exact BK169.out) hg (Kd.R_ne HL178_0.out BK169.out (by decide)));have n2_:=Aside0.mk ((by rw [hw];exact below_set (HB.out) GB26.out : Below w.heap.size w w28));have n3_:=Aside0.mk (hm_);have n4_:=Aside0.mk ((Kd.R_reads' hm_).2.1);clear HO_3;clear BK169;clear HB;clear HL178_0;have HO_3:=n0_;have BK169:=n1_;have HB:=n2_;have HL182:=n3_;have HC180:=n4_;clear n0_ n1_ n2_ n3_ n4_;clear hg hw hp_ hz_ hm_ hok27))
         (try simp only [← hl3_2])
         go_roundg k2
         case measure => have:=HK1.out;have:=HK2.out;omega
         case rel => exact ⟨(y181),(wrap64 (x28_2 + 1)),(by first | rfl | (simp;done) | (simp [*];done)),H',⟨by have:=HK1.out;have:=HK2.out;omega⟩,⟨by (try simp only [hl3_1]);(try simp only [hl3_2]);(with_reducible repeat (first | apply Kd.S_alloc | apply Kd.S_drewN | apply Kd.S_drew));exact HO_3.out⟩,⟨by (try simp only [hl3_1]);(try simp only [hl3_2]);(with_reducible repeat (first | refine blk_drewN ?_ _ | refine blk_drew ?_ | refine blk_alloc ?_ _));exact BK169.out⟩,⟨by repeat (first | (with_reducible first | exact HB.out | apply below_alloc | apply pw_below_drewN | apply below_drew1 | refine below_set ?_ GE169.out) | exact HB.out)⟩⟩
       · rw [if_neg c21] at H
         have c21b0 : decide (x28_2 < ((rd_L3 y176 x12_1).length : Int)) = false:=decide_eq_false c21
         (try (have c21z0:=c21b0;simp only [hl3_1,hl3_2] at c21z0))
         clear c21
         have H' := Aside0.mk H
         clear H
         go_wp2
         (try simp only [← hl3_1,← hl3_2])
         go_roundg k2
         case measure => have:=HK1.out;have:=HK2.out;omega
         case rel => exact ⟨(x3_2),(wrap64 (x12_1 + 1)),(by first | rfl | (simp;done) | (simp [*];done)),H',⟨by have:=HK1.out;have:=HK2.out;omega⟩,⟨by (try simp only [hl3_1]);(try simp only [hl3_2]);(with_reducible repeat (first | apply Kd.S_alloc | apply Kd.S_drewN | apply Kd.S_drew));exact HO_3.out⟩,⟨by (try simp only [hl3_1]);(try simp only [hl3_2]);(with_reducible repeat (first | refine blk_drewN ?_ _ | refine blk_drew ?_ | refine blk_alloc ?_ _));exact BK169.out⟩,⟨by repeat (first | (with_reducible first | exact HB.out | apply below_alloc | apply pw_below_drewN | apply below_drew1 | refine below_set ?_ GE169.out) | exact HB.out)⟩⟩
   · rw [if_neg c9] at H
     have c9b0 : decide (x12_1 < (y170.length : Int)) = false:=decide_eq_false c9
     (try (have c9z0:=c9b0;simp only [hl3_1] at c9z0))
     clear c9
     obtain rfl:=Option.some.inj H
     go_wp2
     go_ret
     exact ⟨_,by first | rfl | (simp [errW_none,errW_some] <;> rfl) | (simp [*,errW_none,errW_some] <;> rfl),by (with_reducible repeat (first | apply Kd.S_alloc | apply Kd.S_drewN | apply Kd.S_drew));exact HO_3.out,by repeat (first | (with_reducible first | exact HB.out | apply below_alloc | apply pw_below_drewN | apply below_drew1 | refine below_set ?_ GE169.out) | exact HB.out)⟩
def regletref13_SameInts.l0 : Nat → List Int → List Int → Int → Option (Bool)
  | 0,_,_,_ => none
  | k + 1,x0,x1,x5 => if x5 < (x0.length : Int) then (if 0 ≤ x5 then (if x5 < (x1.length : Int) then (if (rd x0 x5) = (rd x1 x5) then (regletref13_SameInts.l0 k x0 x1 (wrap64 (x5 + 1))) else (some false)) else (none)) else (none)) else (some true)
def regletref13_SameInts.f (k : Nat) (l0 : List Int) (l1 : List Int) : Option (Bool) := if (l0.length : Int) = (l1.length : Int) then (regletref13_SameInts.l0 k l0 l1 0) else (some false)
set_option maxHeartbeats 8000000 in
set_option maxRecDepth 100000 in
theorem regletref13_SameInts.calls (k : Nat) (A0 : Option Addr) (c0 : Nat) (l0 : List Int) (A1 : Option Addr) (c1 : Nat) (l1 : List Int) (r : Bool) (w : World) (hr0 : Kd.C (Kd.int .i64) w A0 l0.length l0) (hc0 : l0.length ≤ c0) (hr1 : Kd.C (Kd.int .i64) w A1 l1.length l1) (hc1 : l1.length ≤ c1) (h : regletref13_SameInts.f k l0 l1 = some r) :
    Calls Try.prog 33 #[.slice A0 l0.length c0,.slice A1 l1.length c1] w fun e w' => e = .returned (.bool r) ∧ Drawn0 w w' := by
 have HR0:=Aside0.mk hr0
 have HC0:=Aside0.mk hc0
 clear hr0 hc0
 have HR1:=Aside0.mk hr1
 have HC1:=Aside0.mk hc1
 clear hr1 hc1
 have H : (if (l0.length : Int) = (l1.length : Int) then (regletref13_SameInts.l0 k l0 l1 0) else (some false)) = some r:=h
 clear h
 by_cases c3 : (l0.length : Int) = (l1.length : Int)
 · rw [if_pos c3] at H
   have c3b0 : ((l0.length : Int) == (l1.length : Int)) = true:=beq_iff_eq.mpr c3
   have c3b1 : ((l0.length : Int) != (l1.length : Int)) = false:=bne_eq_false_iff_eq.mpr c3
   have c3b2 : (l0.length == l1.length) = true:=by first | simpa using c3 | (simp at c3 ⊢;omega)
   clear c3
   have H' := Aside0.mk H
   clear H
   go_enter Try.func33,Try.ntmps33
   go_wp2
   repeat (go_quiet (fail);try go_wp2)
   go_loopg [5] k (fun kq v5 w' => ∃ (x5_1 : Int),v5 = .int .i64 x5_1 ∧ Aside0 (regletref13_SameInts.l0 kq l0 l1 x5_1 = some r) ∧ Aside0 (kq ≤ k) ∧ Drawn0 w w')
   case atStart => exact ⟨(0),(by first | rfl | (simp;done) | (simp [*];done)),H',⟨Nat.le_refl _⟩,by repeat (first | exact Drawn0.refl _ | apply Drawn0.step)⟩
   case round =>
    clear H'
    (try clear c1);(try clear p2);(try clear c3);(try clear c3b0);(try clear c3b1);(try clear c3b2)
    obtain ⟨x5_1,rfl,HA,HK1,⟨m1,rfl⟩⟩ := hrel
    cases gk with
    | zero => exact absurd HA.out (by simp [regletref13_SameInts.l0])
    | succ k1 =>
     have H:=HA.out
     clear HA
     simp only [regletref13_SameInts.l0] at H
     by_cases c4 : x5_1 < (l0.length : Int)
     · rw [if_pos c4] at H
       have c4b0 : decide (x5_1 < (l0.length : Int)) = true:=decide_eq_true c4
       clear c4
       by_cases c5 : 0 ≤ x5_1
       rotate_left
       · rw [if_neg c5] at H
         exact absurd H (by simp)
       rw [if_pos c5] at H
       have c5b0 : decide (0 ≤ x5_1) = true:=decide_eq_true c5
       clear c5
       by_cases c6 : x5_1 < (l1.length : Int)
       rotate_left
       · rw [if_neg c6] at H
         exact absurd H (by simp)
       rw [if_pos c6] at H
       have c6b0 : decide (x5_1 < (l1.length : Int)) = true:=decide_eq_true c6
       clear c6
       by_cases c7 : (rd l0 x5_1) = (rd l1 x5_1)
       · rw [if_pos c7] at H
         have c7b0 : ((rd l0 x5_1) == (rd l1 x5_1)) = true:=beq_iff_eq.mpr c7
         have c7b1 : ((rd l0 x5_1) != (rd l1 x5_1)) = false:=bne_eq_false_iff_eq.mpr c7
         clear c7
         have H' := Aside0.mk H
         clear H
         have p183 : 0 ≤ (x5_1 : Int) := of_decide_eq_true (by first | (with_reducible assumption) | assumption)
         have q183 : x5_1 < (l0.length : Int) := of_decide_eq_true (by first | (with_reducible assumption) | assumption)
         obtain ⟨ad183,e183,hx183_0⟩ := Kd.at_int HR0.out x5_1 p183 q183
         cases e183
         replace p183:=eq_true p183
         replace q183:=eq_true q183
         have p184 : 0 ≤ (x5_1 : Int) := of_decide_eq_true (by first | (with_reducible assumption) | assumption)
         have q184 : x5_1 < (l1.length : Int) := of_decide_eq_true (by first | (with_reducible assumption) | assumption)
         obtain ⟨ad184,e184,hx184_0⟩ := Kd.at_int HR1.out x5_1 p184 q184
         cases e184
         replace p184:=eq_true p184
         replace q184:=eq_true q184
         go_wp2
         repeat (go_quiet (fail);try go_wp2)
         go_roundg k1
         case measure => have:=HK1.out;omega
         case rel => exact ⟨(wrap64 (x5_1 + 1)),(by first | rfl | (simp;done) | (simp [*];done)),H',⟨by have:=HK1.out;omega⟩,by repeat (first | exact Drawn0.refl _ | apply Drawn0.step)⟩
       · rw [if_neg c7] at H
         have c7b0 : ((rd l0 x5_1) == (rd l1 x5_1)) = false:=beq_eq_false_iff_ne.mpr c7
         have c7b1 : ((rd l0 x5_1) != (rd l1 x5_1)) = true:=bne_iff_ne.mpr c7
         obtain rfl:=Option.some.inj H
         have p183 : 0 ≤ (x5_1 : Int) := of_decide_eq_true (by first | (with_reducible assumption) | assumption)
         have q183 : x5_1 < (l0.length : Int) := of_decide_eq_true (by first | (with_reducible assumption) | assumption)
         obtain ⟨ad183,e183,hx183_0⟩ := Kd.at_int HR0.out x5_1 p183 q183
         cases e183
         replace p183:=eq_true p183
         replace q183:=eq_true q183
         have p184 : 0 ≤ (x5_1 : Int) := of_decide_eq_true (by first | (with_reducible assumption) | assumption)
         have q184 : x5_1 < (l1.length : Int) := of_decide_eq_true (by first | (with_reducible assumption) | assumption)
         obtain ⟨ad184,e184,hx184_0⟩ := Kd.at_int HR1.out x5_1 p184 q184
         cases e184
         replace p184:=eq_true p184
         replace q184:=eq_true q184
         go_wp2
         repeat (go_quiet (fail);try go_wp2)
         go_ret
         exact ⟨by first | rfl | (simp;done) | (simp [*];done),by repeat (first | exact Drawn0.refl _ | apply Drawn0.step)⟩
     · rw [if_neg c4] at H
       have c4b0 : decide (x5_1 < (l0.length : Int)) = false:=decide_eq_false c4
       clear c4
       obtain rfl:=Option.some.inj H
       go_wp2
       repeat (go_quiet (fail);try go_wp2)
       go_ret
       exact ⟨by first | rfl | (simp;done) | (simp [*];done),by repeat (first | exact Drawn0.refl _ | apply Drawn0.step)⟩
 · rw [if_neg c3] at H
   have c3b0 : ((l0.length : Int) == (l1.length : Int)) = false:=beq_eq_false_iff_ne.mpr c3
   have c3b1 : ((l0.length : Int) != (l1.length : Int)) = true:=bne_iff_ne.mpr c3
   have c3b2 : (l0.length == l1.length) = false:=by first | simpa using c3 | (simp at c3 ⊢;omega)
   obtain rfl:=Option.some.inj H
   go_enter Try.func33,Try.ntmps33
   go_wp2
   repeat (go_quiet (fail);try go_wp2)
   go_ret
   exact ⟨by first | rfl | (simp;done) | (simp [*];done),by repeat (first | exact Drawn0.refl _ | apply Drawn0.step)⟩
def regletref13_SameLists.l0 : Nat → List (List Int) → List (List Int) → Int → Option (Bool)
  | 0,_,_,_ => none
  | k + 1,x0,x1,x5 => if x5 < (x0.length : Int) then (if 0 ≤ x5 then (if x5 < (x1.length : Int) then ((regletref13_SameInts.f k (rd_L3 x0 x5) (rd_L3 x1 x5)).bind fun t187 => (if t187 = true then (regletref13_SameLists.l0 k x0 x1 (wrap64 (x5 + 1))) else (some false))) else (none)) else (none)) else (some true)
def regletref13_SameLists.f (k : Nat) (l0 : List (List Int)) (l1 : List (List Int)) : Option (Bool) := if (l0.length : Int) = (l1.length : Int) then (regletref13_SameLists.l0 k l0 l1 0) else (some false)
set_option maxHeartbeats 8000000 in
set_option maxRecDepth 100000 in
theorem regletref13_SameLists.calls (k : Nat) (A0 : Option Addr) (c0 : Nat) (l0 : List (List Int)) (A1 : Option Addr) (c1 : Nat) (l1 : List (List Int)) (r : Bool) (w : World) (hr0 : Kd.C (Kd.slice 3 (Kd.int .i64)) w A0 l0.length l0) (hc0 : l0.length ≤ c0) (hr1 : Kd.C (Kd.slice 3 (Kd.int .i64)) w A1 l1.length l1) (hc1 : l1.length ≤ c1) (h : regletref13_SameLists.f k l0 l1 = some r) :
    Calls Try.prog 18 #[.slice A0 l0.length c0,.slice A1 l1.length c1] w fun e w' => e = .returned (.bool r) ∧ Drawn0 w w' := by
 have HR0:=Aside0.mk hr0
 have HC0:=Aside0.mk hc0
 clear hr0 hc0
 have HR1:=Aside0.mk hr1
 have HC1:=Aside0.mk hc1
 clear hr1 hc1
 have H : (if (l0.length : Int) = (l1.length : Int) then (regletref13_SameLists.l0 k l0 l1 0) else (some false)) = some r:=h
 clear h
 by_cases c3 : (l0.length : Int) = (l1.length : Int)
 · rw [if_pos c3] at H
   have c3b0 : ((l0.length : Int) == (l1.length : Int)) = true:=beq_iff_eq.mpr c3
   have c3b1 : ((l0.length : Int) != (l1.length : Int)) = false:=bne_eq_false_iff_eq.mpr c3
   have c3b2 : (l0.length == l1.length) = true:=by first | simpa using c3 | (simp at c3 ⊢;omega)
   clear c3
   have H' := Aside0.mk H
   clear H
   go_enter Try.func18,Try.ntmps18
   go_wp2
   repeat (go_quiet (fail);try go_wp2)
   go_loopg [5] k (fun kq v5 w' => ∃ (x5_1 : Int),v5 = .int .i64 x5_1 ∧ Aside0 (regletref13_SameLists.l0 kq l0 l1 x5_1 = some r) ∧ Aside0 (kq ≤ k) ∧ Drawn0 w w')
   case atStart => exact ⟨(0),(by first | rfl | (simp;done) | (simp [*];done)),H',⟨Nat.le_refl _⟩,by repeat (first | exact Drawn0.refl _ | apply Drawn0.step)⟩
   case round =>
    clear H'
    (try clear c1);(try clear p2);(try clear c3);(try clear c3b0);(try clear c3b1);(try clear c3b2)
    obtain ⟨x5_1,rfl,HA,HK1,⟨m1,rfl⟩⟩ := hrel
    cases gk with
    | zero => exact absurd HA.out (by simp [regletref13_SameLists.l0])
    | succ k1 =>
     have H:=HA.out
     clear HA
     simp only [regletref13_SameLists.l0] at H
     by_cases c4 : x5_1 < (l0.length : Int)
     · rw [if_pos c4] at H
       have c4b0 : decide (x5_1 < (l0.length : Int)) = true:=decide_eq_true c4
       clear c4
       by_cases c5 : 0 ≤ x5_1
       rotate_left
       · rw [if_neg c5] at H
         exact absurd H (by simp)
       rw [if_pos c5] at H
       have c5b0 : decide (0 ≤ x5_1) = true:=decide_eq_true c5
       clear c5
       by_cases c6 : x5_1 < (l1.length : Int)
       rotate_left
       · rw [if_neg c6] at H
         exact absurd H (by simp)
       rw [if_pos c6] at H
       have c6b0 : decide (x5_1 < (l1.length : Int)) = true:=decide_eq_true c6
       clear c6
       replace H:=Option.bind_eq_some_iff.mp H
       obtain ⟨t187,A70,H⟩ := H
       replace H : (if t187 = true then (regletref13_SameLists.l0 k1 l0 l1 (wrap64 (x5_1 + 1))) else (some false)) = some r:=H
       have A7:=Aside0.mk A70
       clear A70
       by_cases c8 : t187 = true
       · subst c8
         have H1 : (regletref13_SameLists.l0 k1 l0 l1 (wrap64 (x5_1 + 1))) = some r:=by rw [if_pos rfl] at H;exact H
         clear H
         have H:=H1
         clear H1
         have H' := Aside0.mk H
         clear H
         have p185 : 0 ≤ (x5_1 : Int) := of_decide_eq_true (by first | (with_reducible assumption) | assumption)
         have q185 : x5_1 < (l0.length : Int) := of_decide_eq_true (by first | (with_reducible assumption) | assumption)
         obtain ⟨ad185,A185_0,c185_0,e185,hx185_0,hl185_0,hi185_0⟩ := at_L3 HR0.out x5_1 p185 q185
         cases e185
         have HR185_0:=Aside0.mk hi185_0
         have HC185_0:=Aside0.mk hl185_0
         clear hi185_0 hl185_0
         replace p185:=eq_true p185
         replace q185:=eq_true q185
         have p186 : 0 ≤ (x5_1 : Int) := of_decide_eq_true (by first | (with_reducible assumption) | assumption)
         have q186 : x5_1 < (l1.length : Int) := of_decide_eq_true (by first | (with_reducible assumption) | assumption)
         obtain ⟨ad186,A186_0,c186_0,e186,hx186_0,hl186_0,hi186_0⟩ := at_L3 HR1.out x5_1 p186 q186
         cases e186
         have HR186_0:=Aside0.mk hi186_0
         have HC186_0:=Aside0.mk hl186_0
         clear hi186_0 hl186_0
         replace p186:=eq_true p186
         replace q186:=eq_true q186
         go_wp2_with (first | (go_at_call 33;(with_reducible refine (regletref13_SameInts.calls k1 _ _ (rd_L3 l0 x5_1) _ _ (rd_L3 l1 x5_1) true _ ?side1 ?side2 ?side3 ?side4 A7.out).mono ?_);(case side1 => repeat (first | exact HR185_0.out | (with_reducible refine Kd.C_alloc ?_ _) | (with_reducible refine Kd.C_drewN ?_ _) | (with_reducible refine Kd.C_drew ?_)));(case side2 => exact HC185_0.out);(case side3 => repeat (first | exact HR186_0.out | (with_reducible refine Kd.C_alloc ?_ _) | (with_reducible refine Kd.C_drewN ?_ _) | (with_reducible refine Kd.C_drew ?_)));(case side4 => exact HC186_0.out);rintro e w' ⟨rfl,⟨nd,rfl⟩⟩;(try first | exact ⟨rfl,_,World.drewN_drewN _ _ _⟩ | exact ⟨rfl,_,Eq.trans (World.drewN_drewN _ _ _) (congrArg (World.drewN _) (Nat.add_assoc _ _ _))⟩)))
         repeat (go_quiet (first | (go_at_call 33;(with_reducible refine (regletref13_SameInts.calls k1 _ _ (rd_L3 l0 x5_1) _ _ (rd_L3 l1 x5_1) true _ ?side1 ?side2 ?side3 ?side4 A7.out).mono ?_);(case side1 => repeat (first | exact HR185_0.out | (with_reducible refine Kd.C_alloc ?_ _) | (with_reducible refine Kd.C_drewN ?_ _) | (with_reducible refine Kd.C_drew ?_)));(case side2 => exact HC185_0.out);(case side3 => repeat (first | exact HR186_0.out | (with_reducible refine Kd.C_alloc ?_ _) | (with_reducible refine Kd.C_drewN ?_ _) | (with_reducible refine Kd.C_drew ?_)));(case side4 => exact HC186_0.out);rintro e w' ⟨rfl,⟨nd,rfl⟩⟩;(try first | exact ⟨rfl,_,World.drewN_drewN _ _ _⟩ | exact ⟨rfl,_,Eq.trans (World.drewN_drewN _ _ _) (congrArg (World.drewN _) (Nat.add_assoc _ _ _))⟩)));try go_wp2_with (first | (go_at_call 33;(with_reducible refine (regletref13_SameInts.calls k1 _ _ (rd_L3 l0 x5_1) _ _ (rd_L3 l1 x5_1) true _ ?side1 ?side2 ?side3 ?side4 A7.out).mono ?_);(case side1 => repeat (first | exact HR185_0.out | (with_reducible refine Kd.C_alloc ?_ _) | (with_reducible refine Kd.C_drewN ?_ _) | (with_reducible refine Kd.C_drew ?_)));(case side2 => exact HC185_0.out);(case side3 => repeat (first | exact HR186_0.out | (with_reducible refine Kd.C_alloc ?_ _) | (with_reducible refine Kd.C_drewN ?_ _) | (with_reducible refine Kd.C_drew ?_)));(case side4 => exact HC186_0.out);rintro e w' ⟨rfl,⟨nd,rfl⟩⟩;(try first | exact ⟨rfl,_,World.drewN_drewN _ _ _⟩ | exact ⟨rfl,_,Eq.trans (World.drewN_drewN _ _ _) (congrArg (World.drewN _) (Nat.add_assoc _ _ _))⟩))))
         go_roundg k1
         case measure => have:=HK1.out;omega
         case rel => exact ⟨(wrap64 (x5_1 + 1)),(by first | rfl | (simp;done) | (simp [*];done)),H',⟨by have:=HK1.out;omega⟩,by repeat (first | exact Drawn0.refl _ | apply Drawn0.step)⟩
       · replace c8:=Bool.eq_false_iff.mpr c8
         subst c8
         have H1 : (some false) = some r:=by rw [if_neg (show ¬ (false = true) by decide)] at H;exact H
         clear H
         have H:=H1
         clear H1
         obtain rfl:=Option.some.inj H
         have p185 : 0 ≤ (x5_1 : Int) := of_decide_eq_true (by first | (with_reducible assumption) | assumption)
         have q185 : x5_1 < (l0.length : Int) := of_decide_eq_true (by first | (with_reducible assumption) | assumption)
         obtain ⟨ad185,A185_0,c185_0,e185,hx185_0,hl185_0,hi185_0⟩ := at_L3 HR0.out x5_1 p185 q185
         cases e185
         have HR185_0:=Aside0.mk hi185_0
         have HC185_0:=Aside0.mk hl185_0
         clear hi185_0 hl185_0
         replace p185:=eq_true p185
         replace q185:=eq_true q185
         have p186 : 0 ≤ (x5_1 : Int) := of_decide_eq_true (by first | (with_reducible assumption) | assumption)
         have q186 : x5_1 < (l1.length : Int) := of_decide_eq_true (by first | (with_reducible assumption) | assumption)
         obtain ⟨ad186,A186_0,c186_0,e186,hx186_0,hl186_0,hi186_0⟩ := at_L3 HR1.out x5_1 p186 q186
         cases e186
         have HR186_0:=Aside0.mk hi186_0
         have HC186_0:=Aside0.mk hl186_0
         clear hi186_0 hl186_0
         replace p186:=eq_true p186
         replace q186:=eq_true q186
         go_wp2_with (first | (go_at_call 33;(with_reducible refine (regletref13_SameInts.calls k1 _ _ (rd_L3 l0 x5_1) _ _ (rd_L3 l1 x5_1) false _ ?side1 ?side2 ?side3 ?side4 A7.out).mono ?_);(case side1 => repeat (first | exact HR185_0.out | (with_reducible refine Kd.C_alloc ?_ _) | (with_reducible refine Kd.C_drewN ?_ _) | (with_reducible refine Kd.C_drew ?_)));(case side2 => exact HC185_0.out);(case side3 => repeat (first | exact HR186_0.out | (with_reducible refine Kd.C_alloc ?_ _) | (with_reducible refine Kd.C_drewN ?_ _) | (with_reducible refine Kd.C_drew ?_)));(case side4 => exact HC186_0.out);rintro e w' ⟨rfl,⟨nd,rfl⟩⟩;(try first | exact ⟨rfl,_,World.drewN_drewN _ _ _⟩ | exact ⟨rfl,_,Eq.trans (World.drewN_drewN _ _ _) (congrArg (World.drewN _) (Nat.add_assoc _ _ _))⟩)))
         repeat (go_quiet (first | (go_at_call 33;(with_reducible refine (regletref13_SameInts.calls k1 _ _ (rd_L3 l0 x5_1) _ _ (rd_L3 l1 x5_1) false _ ?side1 ?side2 ?side3 ?side4 A7.out).mono ?_);(case side1 => repeat (first | exact HR185_0.out | (with_reducible refine Kd.C_alloc ?_ _) | (with_reducible refine Kd.C_drewN ?_ _) | (with_reducible refine Kd.C_drew ?_)));(case side2 => exact HC185_0.out);(case side3 => repeat (first | exact HR186_0.out | (with_reducible refine Kd.C_alloc ?_ _) | (with_reducible refine Kd.C_drewN ?_ _) | (with_reducible refine Kd.C_drew ?_)));(case side4 => exact HC186_0.out);rintro e w' ⟨rfl,⟨nd,rfl⟩⟩;(try first | exact ⟨rfl,_,World.drewN_drewN _ _ _⟩ | exact ⟨rfl,_,Eq.trans (World.drewN_drewN _ _ _) (congrArg (World.drewN _) (Nat.add_assoc _ _ _))⟩)));try go_wp2_with (first | (go_at_call 33;(with_reducible refine (regletref13_SameInts.calls k1 _ _ (rd_L3 l0 x5_1) _ _ (rd_L3 l1 x5_1) false _ ?side1 ?side2 ?side3 ?side4 A7.out).mono ?_);(case side1 => repeat (first | exact HR185_0.out | (with_reducible refine Kd.C_alloc ?_ _) | (with_reducible refine Kd.C_drewN ?_ _) | (with_reducible refine Kd.C_drew ?_)));(case side2 => exact HC185_0.out);(case side3 => repeat (first | exact HR186_0.out | (with_reducible refine Kd.C_alloc ?_ _) | (with_reducible refine Kd.C_drewN ?_ _) | (with_reducible refine Kd.C_drew ?_)));(case side4 => exact HC186_0.out);rintro e w' ⟨rfl,⟨nd,rfl⟩⟩;(try first | exact ⟨rfl,_,World.drewN_drewN _ _ _⟩ | exact ⟨rfl,_,Eq.trans (World.drewN_drewN _ _ _) (congrArg (World.drewN _) (Nat.add_assoc _ _ _))⟩))))
         go_ret
         exact ⟨by first | rfl | (simp;done) | (simp [*];done),by repeat (first | exact Drawn0.refl _ | apply Drawn0.step)⟩
     · rw [if_neg c4] at H
       have c4b0 : decide (x5_1 < (l0.length : Int)) = false:=decide_eq_false c4
       clear c4
       obtain rfl:=Option.some.inj H
       go_wp2
       repeat (go_quiet (fail);try go_wp2)
       go_ret
       exact ⟨by first | rfl | (simp;done) | (simp [*];done),by repeat (first | exact Drawn0.refl _ | apply Drawn0.step)⟩
 · rw [if_neg c3] at H
   have c3b0 : ((l0.length : Int) == (l1.length : Int)) = false:=beq_eq_false_iff_ne.mpr c3
   have c3b1 : ((l0.length : Int) != (l1.length : Int)) = true:=bne_iff_ne.mpr c3
   have c3b2 : (l0.length == l1.length) = false:=by first | simpa using c3 | (simp at c3 ⊢;omega)
   obtain rfl:=Option.some.inj H
   go_enter Try.func18,Try.ntmps18
   go_wp2
   repeat (go_quiet (fail);try go_wp2)
   go_ret
   exact ⟨by first | rfl | (simp;done) | (simp [*];done),by repeat (first | exact Drawn0.refl _ | apply Drawn0.step)⟩
attribute [local go_sem] max2_int min2_int max_two min_two max_three min_three max_four min_four   -- for this text's walks alone
set_option linter.unusedVariables false
set_option linter.unusedSimpArgs false
theorem eqA50 (d : Nat) (w : World) (x0 y0 : Int) (x1 y1 : Int) (x2 y2 : Int) (x3 y3 : Int) :
    (Op.equalIn (d + 2) 50 (.agg #[.int .i64 x0,.int .i64 x1,.int .i64 x2,.int .i64 x3]) (.agg #[.int .i64 y0,.int .i64 y1,.int .i64 y2,.int .i64 y3])).run Try.prog w = .ok (x0 == y0 && (x1 == y1 && (x2 == y2 && (x3 == y3)))) w:=by
 refine eqA_of Try.underlying50 (by kernel_rfl) ?_
 refine eqf_cons (by rfl) (by go_simp;rfl) (by go_simp;rfl) (by go_simp) ?_
 refine eqf_cons (by rfl) (by go_simp;rfl) (by go_simp;rfl) (by go_simp) ?_
 refine eqf_cons (by rfl) (by go_simp;rfl) (by go_simp;rfl) (by go_simp) ?_
 exact eqf_last (by rfl) (by go_simp;rfl) (by go_simp;rfl) (by go_simp)
attribute [local go_sem] max2_int min2_int max_two min_two max_three min_three max_four min_four   -- for this text's walks alone
set_option linter.unusedVariables false
set_option linter.unusedSimpArgs false
attribute [local go_sem high] eqA50
def regletref13_list.l0 : Nat → List Bool → List Int → Int → Option (List Int)
  | 0,_,_,_ => none
  | k + 1,x0,x3,x4 => if x4 < (x0.length : Int) then (if 0 ≤ x4 then (if rdOf false x0 x4 = true then (if x3.length < 17592186044416 then (regletref13_list.l0 k x0 (x3 ++ [x4]) (wrap64 (x4 + 1))) else (none)) else (regletref13_list.l0 k x0 x3 (wrap64 (x4 + 1)))) else (none)) else (some x3)
def regletref13_list.f (k : Nat) (l0 : List Bool) : Option (List Int) := regletref13_list.l0 k l0 ([] : List Int) 0
set_option maxHeartbeats 8000000 in
set_option maxRecDepth 100000 in
theorem regletref13_list.calls (k : Nat) (A0 : Option Addr) (c0 : Nat) (l0 : List Bool) (r : List Int) (w : World) (hr0 : Kd.C Kd.bool w A0 l0.length l0) (hc0 : l0.length ≤ c0) (h : regletref13_list.f k l0 = some r) :
    Calls Try.prog 32 #[.slice A0 l0.length c0] w fun e w' => ∃ v0_ : Value,e = .returned (v0_) ∧ Kd.R (Kd.int .i64) 3 w' w.heap.size (fun _ => True) v0_ r ∧ Below w.heap.size w w' := by
 have HR0:=Aside0.mk hr0
 have HC0:=Aside0.mk hc0
 clear hr0 hc0
 have HB:=Aside0.mk (Below.refl w.heap.size w)
 have H : (regletref13_list.l0 k l0 ([] : List Int) 0) = some r:=h
 clear h
 have H' := Aside0.mk H
 clear H
 go_enter Try.func32,Try.ntmps32
 go_wp2
 go_loopg [3,4] k (fun kq v3 v4 w' => ∃ (x3_1 : List Int) (x4_1 : Int),v4 = .int .i64 x4_1 ∧ Aside0 (regletref13_list.l0 kq l0 x3_1 x4_1 = some r) ∧ Aside0 (kq ≤ k) ∧ Aside0 (Kd.R (Kd.int .i64) 3 w' w.heap.size (fun _ => True) v3 x3_1) ∧ Aside0 (Below w.heap.size w w'))
 case atStart => exact ⟨(([] : List Int)),(0),(by first | rfl | (simp;done) | (simp [*];done)),H',⟨Nat.le_refl _⟩,⟨by first | exact Kd.R_nil _ _ _ _ _ | exact Kd.N_nil _ _ _ _ _ | exact Kd.V_nil _ _ _ _ _ | exact Kd.Q_nil _ _ _ _ _ | exact Kd.S_nil _ _ _ _ _⟩,⟨by repeat (first | (with_reducible first | exact HB.out | apply below_alloc | apply pw_below_drewN | apply below_drew1) | exact HB.out)⟩⟩
 case round =>
  clear H'
  obtain ⟨x3_1,x4_1,rfl,HA,HK1,HO_3,HB⟩ := hrel
  cases gk with
  | zero => exact absurd HA.out (by simp [regletref13_list.l0])
  | succ k1 =>
   have H:=HA.out
   clear HA
   simp only [regletref13_list.l0] at H
   by_cases c2 : x4_1 < (l0.length : Int)
   · rw [if_pos c2] at H
     have c2b0 : decide (x4_1 < (l0.length : Int)) = true:=decide_eq_true c2
     clear c2
     by_cases c3 : 0 ≤ x4_1
     rotate_left
     · rw [if_neg c3] at H
       exact absurd H (by simp)
     rw [if_pos c3] at H
     have c3b0 : decide (0 ≤ x4_1) = true:=decide_eq_true c3
     clear c3
     obtain ⟨bq4,hbq4⟩ : ∃ b_ : Bool,b_ = (rdOf false l0 x4_1) := ⟨_,rfl⟩
     replace H : (if bq4 = true then (if x3_1.length < 17592186044416 then (regletref13_list.l0 k1 l0 (x3_1 ++ [x4_1]) (wrap64 (x4_1 + 1))) else (none)) else (regletref13_list.l0 k1 l0 x3_1 (wrap64 (x4_1 + 1)))) = some r:=by rw [← hbq4] at H;exact H
     have Nbq4:=Aside0.mk hbq4
     clear hbq4
     by_cases c5 : bq4 = true
     · subst c5
       have H1 : (if x3_1.length < 17592186044416 then (regletref13_list.l0 k1 l0 (x3_1 ++ [x4_1]) (wrap64 (x4_1 + 1))) else (none)) = some r:=by rw [if_pos rfl] at H;exact H
       clear H
       have H:=H1
       clear H1
       by_cases c6 : x3_1.length < 17592186044416
       rotate_left
       · rw [if_neg c6] at H
         exact absurd H (by simp)
       rw [if_pos c6] at H
       have LMc6:=Aside0.mk c6
       clear c6
       obtain ⟨y281,hy281⟩ : ∃ y_ : List Int,y_ = (x3_1 ++ [x4_1]) := ⟨_,rfl⟩
       replace H : (regletref13_list.l0 k1 l0 y281 (wrap64 (x4_1 + 1))) = some r:=by first | (rw [hy281];with_reducible exact H) | (have H2_:=(Option.bind_some _ _).symm.trans H;rw [hy281];with_reducible exact H2_) | (have H2_:=(Option.bind_some _ _).symm.trans H;with_reducible exact H2_) | with_reducible exact H | (rw [hy281];exact H) | exact H
       have Ny281:=Aside0.mk hy281
       clear hy281
       have H' := Aside0.mk H
       clear H
       have p280 : 0 ≤ (x4_1 : Int) := of_decide_eq_true (by first | (with_reducible assumption) | assumption)
       have q280 : x4_1 < (l0.length : Int) := of_decide_eq_true (by first | (with_reducible assumption) | assumption)
       obtain ⟨ad280,e280,hx280_0⟩ := Kd.at_bool HR0.out x4_1 p280 q280
       (try rw [← Nbq4.out] at hx280_0)
       cases e280
       replace hx280_0:=(HB.out.cell (World.block_lt_of_cell? w _ hx280_0)).trans hx280_0
       replace p280:=eq_true p280
       replace q280:=eq_true q280
       go_wp2_with (first | ((with_reducible refine gate_builtin (b := .append) (xs:=#[.tmp 15,.tmp 17]) rfl ?_);at_builtin;refine Kd.R_append (Kd.int .i64) (w0:=w) w.heap.size rfl (.tmp 15) (.tmp 17) 43 3 (.int .i64 0) 8 rfl Try.underlying43 info3 rfl (by decide) (by omega) u3 x3_1 x4_1 [.int .i64 x4_1] (fun _ => True) (fun _ => False) rfl rfl ?aP (fun _ hk => hk.elim) ?aF ?aO ?aB ?aS ?aL ?_;(case aP => exact rfl);(case aB => exact (by repeat (first | (with_reducible first | exact HB.out | apply below_alloc | apply pw_below_drewN | apply below_drew1) | exact HB.out)));(case aF => exact (fun _ _ => trivial));(case aO => exact (by (with_reducible repeat (first | apply Kd.R_alloc | apply Kd.R_drewN | apply Kd.R_drew));exact HO_3.out));(case aS => exact (below_size (by repeat (first | (with_reducible first | exact HB.out | apply below_alloc | apply pw_below_drewN | apply below_drew1) | exact HB.out))));(case aL => have:=LMc6.out;omega);intro v282 w7 ho hb hg hat;rw [← Ny281.out] at ho;have n0_:=Aside0.mk (hb);have n1_:=Aside0.mk (ho);clear HB;clear HO_3;have HB:=n0_;have HO283:=n1_;clear n0_ n1_;clear ho hb hg hat))
       go_roundg k1
       case measure => have:=HK1.out;omega
       case rel => exact ⟨(y281),(wrap64 (x4_1 + 1)),(by first | rfl | (simp;done) | (simp [*];done)),H',⟨by have:=HK1.out;omega⟩,⟨by (with_reducible repeat (first | apply Kd.R_alloc | apply Kd.R_drewN | apply Kd.R_drew));exact HO283.out⟩,⟨by repeat (first | (with_reducible first | exact HB.out | apply below_alloc | apply pw_below_drewN | apply below_drew1) | exact HB.out)⟩⟩
     · replace c5:=Bool.eq_false_iff.mpr c5
       subst c5
       have H1 : (regletref13_list.l0 k1 l0 x3_1 (wrap64 (x4_1 + 1))) = some r:=by rw [if_neg (show ¬ (false = true) by decide)] at H;exact H
       clear H
       have H:=H1
       clear H1
       have H' := Aside0.mk H
       clear H
       have p280 : 0 ≤ (x4_1 : Int) := of_decide_eq_true (by first | (with_reducible assumption) | assumption)
       have q280 : x4_1 < (l0.length : Int) := of_decide_eq_true (by first | (with_reducible assumption) | assumption)
       obtain ⟨ad280,e280,hx280_0⟩ := Kd.at_bool HR0.out x4_1 p280 q280
       (try rw [← Nbq4.out] at hx280_0)
       cases e280
       replace hx280_0:=(HB.out.cell (World.block_lt_of_cell? w _ hx280_0)).trans hx280_0
       replace p280:=eq_true p280
       replace q280:=eq_true q280
       go_wp2
       go_roundg k1
       case measure => have:=HK1.out;omega
       case rel => exact ⟨(x3_1),(wrap64 (x4_1 + 1)),(by first | rfl | (simp;done) | (simp [*];done)),H',⟨by have:=HK1.out;omega⟩,⟨by (with_reducible repeat (first | apply Kd.R_alloc | apply Kd.R_drewN | apply Kd.R_drew));exact HO_3.out⟩,⟨by repeat (first | (with_reducible first | exact HB.out | apply below_alloc | apply pw_below_drewN | apply below_drew1) | exact HB.out)⟩⟩
   · rw [if_neg c2] at H
     have c2b0 : decide (x4_1 < (l0.length : Int)) = false:=decide_eq_false c2
     clear c2
     obtain rfl:=Option.some.inj H
     go_wp2
     go_ret
     exact ⟨_,by first | rfl | (simp [errW_none,errW_some] <;> rfl) | (simp [*,errW_none,errW_some] <;> rfl),by (with_reducible repeat (first | apply Kd.R_alloc | apply Kd.R_drewN | apply Kd.R_drew));exact HO_3.out,by repeat (first | (with_reducible first | exact HB.out | apply below_alloc | apply pw_below_drewN | apply below_drew1) | exact HB.out)⟩
def regletref13_lists.l0 : Nat → List (List Bool) → List (List Int) → Int → Option ((List (List Int)))
  | 0,_,_,_ => none
  | k + 1,x0,x3,x4 => if x4 < (x0.length : Int) then (if 0 ≤ x4 then ((regletref13_list.f k (rd_L13 x0 x4)).bind fun t285 => (if x3.length < 5864062014805 then (regletref13_lists.l0 k x0 (x3 ++ [t285]) (wrap64 (x4 + 1))) else (none))) else (none)) else (some x3)
def regletref13_lists.f (k : Nat) (l0 : List (List Bool)) : Option ((List (List Int))) := regletref13_lists.l0 k l0 ([] : List (List Int)) 0
set_option maxHeartbeats 8000000 in
set_option maxRecDepth 100000 in
theorem regletref13_lists.calls (k : Nat) (A0 : Option Addr) (c0 : Nat) (l0 : List (List Bool)) (r : List (List Int)) (w : World) (hr0 : Kd.C (Kd.slice 4 Kd.bool) w A0 l0.length l0) (hc0 : l0.length ≤ c0) (h : regletref13_lists.f k l0 = some r) :
    Calls Try.prog 31 #[.slice A0 l0.length c0] w fun e w' => ∃ v0_ : Value,e = .returned (v0_) ∧ Kd.S (Kd.slice 3 (Kd.int .i64)) 43 w' w.heap.size (fun _ => True) v0_ r ∧ Below w.heap.size w w' := by
 have HR0:=Aside0.mk hr0
 have HC0:=Aside0.mk hc0
 clear hr0 hc0
 have HB:=Aside0.mk (Below.refl w.heap.size w)
 have H : (regletref13_lists.l0 k l0 ([] : List (List Int)) 0) = some r:=h
 clear h
 have H' := Aside0.mk H
 clear H
 go_enter Try.func31,Try.ntmps31
 go_wp2
 go_loopg [3,4] k (fun kq v3 v4 w' => ∃ (x3_1 : List (List Int)) (x4_1 : Int),v4 = .int .i64 x4_1 ∧ Aside0 (regletref13_lists.l0 kq l0 x3_1 x4_1 = some r) ∧ Aside0 (kq ≤ k) ∧ Aside0 (Kd.S (Kd.slice 3 (Kd.int .i64)) 43 w' w.heap.size (fun _ => True) v3 x3_1) ∧ Aside0 (Below w.heap.size w w'))
 case atStart => exact ⟨(([] : List (List Int))),(0),(by first | rfl | (simp;done) | (simp [*];done)),H',⟨Nat.le_refl _⟩,⟨by first | exact Kd.S_nil _ _ _ _ _ | exact Kd.N_nil _ _ _ _ _ | exact Kd.V_nil _ _ _ _ _ | exact Kd.Q_nil _ _ _ _ _ | exact Kd.R_nil _ _ _ _ _⟩,⟨by repeat (first | (with_reducible first | exact HB.out | apply below_alloc | apply pw_below_drewN | apply below_drew1) | exact HB.out)⟩⟩
 case round =>
  clear H'
  obtain ⟨x3_1,x4_1,rfl,HA,HK1,HO_3,HB⟩ := hrel
  cases gk with
  | zero => exact absurd HA.out (by simp [regletref13_lists.l0])
  | succ k1 =>
   have H:=HA.out
   clear HA
   simp only [regletref13_lists.l0] at H
   by_cases c2 : x4_1 < (l0.length : Int)
   · rw [if_pos c2] at H
     have c2b0 : decide (x4_1 < (l0.length : Int)) = true:=decide_eq_true c2
     clear c2
     by_cases c3 : 0 ≤ x4_1
     rotate_left
     · rw [if_neg c3] at H
       exact absurd H (by simp)
     rw [if_pos c3] at H
     have c3b0 : decide (0 ≤ x4_1) = true:=decide_eq_true c3
     clear c3
     replace H:=Option.bind_eq_some_iff.mp H
     obtain ⟨t285,A40,H⟩ := H
     replace H : (if x3_1.length < 5864062014805 then (regletref13_lists.l0 k1 l0 (x3_1 ++ [t285]) (wrap64 (x4_1 + 1))) else (none)) = some r:=H
     have A4:=Aside0.mk A40
     clear A40
     by_cases c5 : x3_1.length < 5864062014805
     rotate_left
     · rw [if_neg c5] at H
       exact absurd H (by simp)
     rw [if_pos c5] at H
     have LMc5:=Aside0.mk c5
     clear c5
     obtain ⟨y288,hy288⟩ : ∃ y_ : List (List Int),y_ = (x3_1 ++ [t285]) := ⟨_,rfl⟩
     replace H : (regletref13_lists.l0 k1 l0 y288 (wrap64 (x4_1 + 1))) = some r:=by first | (rw [hy288];with_reducible exact H) | (have H2_:=(Option.bind_some _ _).symm.trans H;rw [hy288];with_reducible exact H2_) | (have H2_:=(Option.bind_some _ _).symm.trans H;with_reducible exact H2_) | with_reducible exact H | (rw [hy288];exact H) | exact H
     have Ny288:=Aside0.mk hy288
     clear hy288
     have H' := Aside0.mk H
     clear H
     have p284 : 0 ≤ (x4_1 : Int) := of_decide_eq_true (by first | (with_reducible assumption) | assumption)
     have q284 : x4_1 < (l0.length : Int) := of_decide_eq_true (by first | (with_reducible assumption) | assumption)
     obtain ⟨ad284,A284_0,c284_0,e284,hx284_0,hl284_0,hi284_0⟩ := at_L13 HR0.out x4_1 p284 q284
     cases e284
     replace hx284_0:=(HB.out.cell (World.block_lt_of_cell? w _ hx284_0)).trans hx284_0
     have HR284_0:=Aside0.mk hi284_0
     have HC284_0:=Aside0.mk hl284_0
     clear hi284_0 hl284_0
     replace p284:=eq_true p284
     replace q284:=eq_true q284
     go_wp2_with (first | ((with_reducible refine gate_callee (f:=32) rfl ?_);refine goesL_ (some 16) rfl rfl Try.func32 (by kernel_rfl) rfl #[.slice A284_0 (rd_L13 l0 x4_1).length c284_0] rfl (by (try simp only [List.map_toArray,List.map_cons,List.map_nil]);first | done | rfl | (simp only [List.length_drop,List.length_take];rfl)) ?_;(with_reducible refine (regletref13_list.calls k1 _ _ (rd_L13 l0 x4_1) t285 _ ?side1 ?side2 A4.out).mono ?_);(case side1 => repeat (first | exact (Kd.C_below HR284_0.out HB.out) | (with_reducible refine Kd.C_alloc ?_ _) | (with_reducible refine Kd.C_drewN ?_ _) | (with_reducible refine Kd.C_drew ?_)));(case side2 => exact HC284_0.out);rintro e w6 ⟨v286,rfl,ho0,hb⟩;refine ⟨_,rfl,?_⟩;have n0_:=Aside0.mk (Kd.S_elder' (by (with_reducible repeat (first | apply Kd.S_alloc | apply Kd.S_drewN | apply Kd.S_drew));exact HO_3.out) (Kd.R_base ho0) hb);have n1_:=Aside0.mk (Kd.R_lower ho0 (below_size (by repeat (first | (with_reducible first | exact HB.out | apply below_alloc | apply pw_below_drewN | apply below_drew1) | exact HB.out))));have n2_:=Aside0.mk (below_step (by repeat (first | (with_reducible first | exact HB.out | apply below_alloc | apply pw_below_drewN | apply below_drew1) | exact HB.out)) hb);clear HO_3;clear HB;have HO_3:=n0_;have HO287:=n1_;have HB:=n2_;clear n0_ n1_ n2_;(try clear hb);(try clear hb2);(try clear hk);(try clear hi);(try clear ho0);obtain ⟨Ao8,co8,eo8⟩ := Kd.R_slice HO287.out;subst eo8) | ((with_reducible refine gate_builtin (b := .append) (xs:=#[.tmp 11,.tmp 17]) rfl ?_);at_builtin;refine Kd.S_append (Kd.slice 3 (Kd.int .i64)) (w0:=w) w.heap.size rfl (.tmp 11) (.tmp 17) 35 43 (.slice none 0 0) 24 rfl Try.underlying35 info43 rfl (by decide) (by omega) u3 x3_1 t285 [.slice Ao8 t285.length co8] (fun _ => True) (fun k_ => some k_ = (.slice Ao8 t285.length co8 : Value).ownBlock) rfl rfl ?aP (fun k_ hk_ => ((Kd.R_mono (ok' := fun k_ => ((fun _ => True)) k_ ∧ some k_ ≠ (u3 : Value).ownBlock) (Kd.R_apart' (HO287.out) (Kd.S_typed HO_3.out) (by decide)) (fun k_ hk => ⟨trivial,hk.2⟩))).1 k_ hk_.symm) ?aF ?aO ?aB ?aS ?aL ?_;(case aP => exact Kd.M_row (Kd.R_mono (Kd.R_tight rfl (Kd.R_mono (ok' := fun k_ => ((fun _ => True)) k_ ∧ some k_ ≠ (u3 : Value).ownBlock) (Kd.R_apart' (HO287.out) (Kd.S_typed HO_3.out) (by decide)) (fun k_ hk => ⟨trivial,hk.2⟩))) (fun _ h_ => h_)));(case aB => exact (by repeat (first | (with_reducible first | exact HB.out | apply below_alloc | apply pw_below_drewN | apply below_drew1) | exact HB.out)));(case aF => exact (fun _ _ => trivial));(case aO => exact (by (with_reducible repeat (first | apply Kd.S_alloc | apply Kd.S_drewN | apply Kd.S_drew));exact Kd.S_mono HO_3.out (fun k_ hk => ⟨trivial,fun e_ => hk.2 e_⟩)));(case aS => exact (below_size (by repeat (first | (with_reducible first | exact HB.out | apply below_alloc | apply pw_below_drewN | apply below_drew1) | exact HB.out))));(case aL => have:=LMc5.out;omega);intro v289 w7 ho hb hg hat;rw [← Ny288.out] at ho;have n0_:=Aside0.mk (hb);have n1_:=Aside0.mk (ho);clear HB;clear HO_3;clear HO287;have HB:=n0_;have HO290:=n1_;clear n0_ n1_;clear ho hb hg hat))
     go_roundg k1
     case measure => have:=HK1.out;omega
     case rel => exact ⟨(y288),(wrap64 (x4_1 + 1)),(by first | rfl | (simp;done) | (simp [*];done)),H',⟨by have:=HK1.out;omega⟩,⟨by (with_reducible repeat (first | apply Kd.S_alloc | apply Kd.S_drewN | apply Kd.S_drew));exact HO290.out⟩,⟨by repeat (first | (with_reducible first | exact HB.out | apply below_alloc | apply pw_below_drewN | apply below_drew1) | exact HB.out)⟩⟩
   · rw [if_neg c2] at H
     have c2b0 : decide (x4_1 < (l0.length : Int)) = false:=decide_eq_false c2
     clear c2
     obtain rfl:=Option.some.inj H
     go_wp2
     go_ret
     exact ⟨_,by first | rfl | (simp [errW_none,errW_some] <;> rfl) | (simp [*,errW_none,errW_some] <;> rfl),by (with_reducible repeat (first | apply Kd.S_alloc | apply Kd.S_drewN | apply Kd.S_drew));exact HO_3.out,by repeat (first | (with_reducible first | exact HB.out | apply below_alloc | apply pw_below_drewN | apply below_drew1) | exact HB.out)⟩
def regletref14_has.l0 : Nat → List Int → Int → Int → Option (Bool)
  | 0,_,_,_ => none
  | k + 1,x0,x1,x5 => if x5 < (x0.length : Int) then (if 0 ≤ x5 then (if (rd x0 x5) = x1 then (some true) else (regletref14_has.l0 k x0 x1 (wrap64 (x5 + 1)))) else (none)) else (some false)
def regletref14_has.f (k : Nat) (l0 : List Int) (a1 : Int) : Option (Bool) := regletref14_has.l0 k l0 a1 0
set_option maxHeartbeats 8000000 in
set_option maxRecDepth 100000 in
theorem regletref14_has.calls (k : Nat) (A0 : Option Addr) (c0 : Nat) (l0 : List Int) (a1 : Int) (r : Bool) (w : World) (hr0 : Kd.C (Kd.int .i64) w A0 l0.length l0) (hc0 : l0.length ≤ c0) (h : regletref14_has.f k l0 a1 = some r) :
    Calls Try.prog 34 #[.slice A0 l0.length c0,.int .i64 a1] w fun e w' => e = .returned (.bool r) ∧ Drawn0 w w' := by
 have HR0:=Aside0.mk hr0
 have HC0:=Aside0.mk hc0
 clear hr0 hc0
 have H : (regletref14_has.l0 k l0 a1 0) = some r:=h
 clear h
 have H' := Aside0.mk H
 clear H
 go_enter Try.func34,Try.ntmps34
 go_wp2
 go_loopg [5] k (fun kq v5 w' => ∃ (x5_1 : Int),v5 = .int .i64 x5_1 ∧ Aside0 (regletref14_has.l0 kq l0 a1 x5_1 = some r) ∧ Aside0 (kq ≤ k) ∧ Drawn0 w w')
 case atStart => exact ⟨(0),(by first | rfl | (simp;done) | (simp [*];done)),H',⟨Nat.le_refl _⟩,by repeat (first | exact Drawn0.refl _ | apply Drawn0.step)⟩
 case round =>
  clear H'
  (try clear p2)
  obtain ⟨x5_1,rfl,HA,HK1,⟨m1,rfl⟩⟩ := hrel
  cases gk with
  | zero => exact absurd HA.out (by simp [regletref14_has.l0])
  | succ k1 =>
   have H:=HA.out
   clear HA
   simp only [regletref14_has.l0] at H
   by_cases c3 : x5_1 < (l0.length : Int)
   · rw [if_pos c3] at H
     have c3b0 : decide (x5_1 < (l0.length : Int)) = true:=decide_eq_true c3
     clear c3
     by_cases c4 : 0 ≤ x5_1
     rotate_left
     · rw [if_neg c4] at H
       exact absurd H (by simp)
     rw [if_pos c4] at H
     have c4b0 : decide (0 ≤ x5_1) = true:=decide_eq_true c4
     clear c4
     by_cases c5 : (rd l0 x5_1) = a1
     · rw [if_pos c5] at H
       have c5b0 : ((rd l0 x5_1) == a1) = true:=beq_iff_eq.mpr c5
       have c5b1 : ((rd l0 x5_1) != a1) = false:=bne_eq_false_iff_eq.mpr c5
       clear c5
       obtain rfl:=Option.some.inj H
       have p291 : 0 ≤ (x5_1 : Int) := of_decide_eq_true (by first | (with_reducible assumption) | assumption)
       have q291 : x5_1 < (l0.length : Int) := of_decide_eq_true (by first | (with_reducible assumption) | assumption)
       obtain ⟨ad291,e291,hx291_0⟩ := Kd.at_int HR0.out x5_1 p291 q291
       cases e291
       replace p291:=eq_true p291
       replace q291:=eq_true q291
       go_wp2
       go_ret
       exact ⟨by first | rfl | (simp;done) | (simp [*];done),by repeat (first | exact Drawn0.refl _ | apply Drawn0.step)⟩
     · rw [if_neg c5] at H
       have c5b0 : ((rd l0 x5_1) == a1) = false:=beq_eq_false_iff_ne.mpr c5
       have c5b1 : ((rd l0 x5_1) != a1) = true:=bne_iff_ne.mpr c5
       have H' := Aside0.mk H
       clear H
       have p291 : 0 ≤ (x5_1 : Int) := of_decide_eq_true (by first | (with_reducible assumption) | assumption)
       have q291 : x5_1 < (l0.length : Int) := of_decide_eq_true (by first | (with_reducible assumption) | assumption)
       obtain ⟨ad291,e291,hx291_0⟩ := Kd.at_int HR0.out x5_1 p291 q291
       cases e291
       replace p291:=eq_true p291
       replace q291:=eq_true q291
       go_wp2
       go_roundg k1
       case measure => have:=HK1.out;omega
       case rel => exact ⟨(wrap64 (x5_1 + 1)),(by first | rfl | (simp;done) | (simp [*];done)),H',⟨by have:=HK1.out;omega⟩,by repeat (first | exact Drawn0.refl _ | apply Drawn0.step)⟩
   · rw [if_neg c3] at H
     have c3b0 : decide (x5_1 < (l0.length : Int)) = false:=decide_eq_false c3
     clear c3
     obtain rfl:=Option.some.inj H
     go_wp2
     go_ret
     exact ⟨by first | rfl | (simp;done) | (simp [*];done),by repeat (first | exact Drawn0.refl _ | apply Drawn0.step)⟩
def regletref14_SameClashes.l0 : Nat → List (S50) → List (S50) → Int → Option (Bool)
  | 0,_,_,_ => none
  | k + 1,x0,x1,x5 => if x5 < (x0.length : Int) then (if 0 ≤ x5 then (if x5 < (x1.length : Int) then (if (!(((rd_T50 x0 x5).f0) == ((rd_T50 x1 x5).f0)) || (!(((rd_T50 x0 x5).f1) == ((rd_T50 x1 x5).f1)) || (!(((rd_T50 x0 x5).f2) == ((rd_T50 x1 x5).f2)) || (!(((rd_T50 x0 x5).f3) == ((rd_T50 x1 x5).f3)))))) = true then (some false) else (regletref14_SameClashes.l0 k x0 x1 (wrap64 (x5 + 1)))) else (none)) else (none)) else (some true)
def regletref14_SameClashes.f (k : Nat) (l0 : List (S50)) (l1 : List (S50)) : Option (Bool) := if (l0.length : Int) = (l1.length : Int) then (regletref14_SameClashes.l0 k l0 l1 0) else (some false)
set_option maxHeartbeats 8000000 in
set_option maxRecDepth 100000 in
theorem regletref14_SameClashes.calls (k : Nat) (A0 : Option Addr) (c0 : Nat) (l0 : List (S50)) (A1 : Option Addr) (c1 : Nat) (l1 : List (S50)) (r : Bool) (w : World) (hr0 : Kd.C k50 w A0 l0.length l0) (hc0 : l0.length ≤ c0) (hr1 : Kd.C k50 w A1 l1.length l1) (hc1 : l1.length ≤ c1) (h : regletref14_SameClashes.f k l0 l1 = some r) :
    Calls Try.prog 20 #[.slice A0 l0.length c0,.slice A1 l1.length c1] w fun e w' => e = .returned (.bool r) ∧ Drawn0 w w' := by
 have hu50:=Try.underlying50
 have HR0:=Aside0.mk hr0
 have HC0:=Aside0.mk hc0
 clear hr0 hc0
 have HR1:=Aside0.mk hr1
 have HC1:=Aside0.mk hc1
 clear hr1 hc1
 have H : (if (l0.length : Int) = (l1.length : Int) then (regletref14_SameClashes.l0 k l0 l1 0) else (some false)) = some r:=h
 clear h
 by_cases c3 : (l0.length : Int) = (l1.length : Int)
 · rw [if_pos c3] at H
   have c3b0 : ((l0.length : Int) == (l1.length : Int)) = true:=beq_iff_eq.mpr c3
   have c3b1 : ((l0.length : Int) != (l1.length : Int)) = false:=bne_eq_false_iff_eq.mpr c3
   have c3b2 : (l0.length == l1.length) = true:=by first | simpa using c3 | (simp at c3 ⊢;omega)
   clear c3
   have H' := Aside0.mk H
   clear H
   go_enter Try.func20,Try.ntmps20
   go_wp2
   repeat (go_quiet (fail);try go_wp2)
   go_loopg [5] k (fun kq v5 w' => ∃ (x5_1 : Int),v5 = .int .i64 x5_1 ∧ Aside0 (regletref14_SameClashes.l0 kq l0 l1 x5_1 = some r) ∧ Aside0 (kq ≤ k) ∧ Drawn0 w w')
   case atStart => exact ⟨(0),(by first | rfl | (simp;done) | (simp [*];done)),H',⟨Nat.le_refl _⟩,by repeat (first | exact Drawn0.refl _ | apply Drawn0.step)⟩
   case round =>
    clear H'
    (try clear c1);(try clear c2);(try clear p2);(try clear c3);(try clear c3b0);(try clear c3b1);(try clear c3b2)
    obtain ⟨x5_1,rfl,HA,HK1,⟨m1,rfl⟩⟩ := hrel
    cases gk with
    | zero => exact absurd HA.out (by simp [regletref14_SameClashes.l0])
    | succ k1 =>
     have H:=HA.out
     clear HA
     simp only [regletref14_SameClashes.l0] at H
     by_cases c4 : x5_1 < (l0.length : Int)
     · rw [if_pos c4] at H
       have c4b0 : decide (x5_1 < (l0.length : Int)) = true:=decide_eq_true c4
       clear c4
       by_cases c5 : 0 ≤ x5_1
       rotate_left
       · rw [if_neg c5] at H
         exact absurd H (by simp)
       rw [if_pos c5] at H
       have c5b0 : decide (0 ≤ x5_1) = true:=decide_eq_true c5
       clear c5
       by_cases c6 : x5_1 < (l1.length : Int)
       rotate_left
       · rw [if_neg c6] at H
         exact absurd H (by simp)
       rw [if_pos c6] at H
       have c6b0 : decide (x5_1 < (l1.length : Int)) = true:=decide_eq_true c6
       clear c6
       by_cases c7 : (!(((rd_T50 l0 x5_1).f0) == ((rd_T50 l1 x5_1).f0)) || (!(((rd_T50 l0 x5_1).f1) == ((rd_T50 l1 x5_1).f1)) || (!(((rd_T50 l0 x5_1).f2) == ((rd_T50 l1 x5_1).f2)) || (!(((rd_T50 l0 x5_1).f3) == ((rd_T50 l1 x5_1).f3)))))) = true
       · rw [if_pos c7] at H
         have c7b0 : (!(((rd_T50 l0 x5_1).f0) == ((rd_T50 l1 x5_1).f0)) || (!(((rd_T50 l0 x5_1).f1) == ((rd_T50 l1 x5_1).f1)) || (!(((rd_T50 l0 x5_1).f2) == ((rd_T50 l1 x5_1).f2)) || (!(((rd_T50 l0 x5_1).f3) == ((rd_T50 l1 x5_1).f3)))))) = true:=c7
         clear c7
         obtain rfl:=Option.some.inj H
         have p325 : 0 ≤ (x5_1 : Int) := of_decide_eq_true (by first | (with_reducible assumption) | assumption)
         have q325 : x5_1 < (l0.length : Int) := of_decide_eq_true (by first | (with_reducible assumption) | assumption)
         obtain ⟨ad325,e325,hx325_0,hx325_1,hx325_2,hx325_3⟩ := at_T50 HR0.out x5_1 p325 q325
         cases e325
         replace p325:=eq_true p325
         replace q325:=eq_true q325
         have p326 : 0 ≤ (x5_1 : Int) := of_decide_eq_true (by first | (with_reducible assumption) | assumption)
         have q326 : x5_1 < (l1.length : Int) := of_decide_eq_true (by first | (with_reducible assumption) | assumption)
         obtain ⟨ad326,e326,hx326_0,hx326_1,hx326_2,hx326_3⟩ := at_T50 HR1.out x5_1 p326 q326
         cases e326
         replace p326:=eq_true p326
         replace q326:=eq_true q326
         go_wp2
         repeat (go_quiet (fail);try go_wp2)
         go_ret
         exact ⟨by first | rfl | (simp;done) | (simp [*];done),by repeat (first | exact Drawn0.refl _ | apply Drawn0.step)⟩
       · rw [if_neg c7] at H
         have c7b0 : (!(((rd_T50 l0 x5_1).f0) == ((rd_T50 l1 x5_1).f0)) || (!(((rd_T50 l0 x5_1).f1) == ((rd_T50 l1 x5_1).f1)) || (!(((rd_T50 l0 x5_1).f2) == ((rd_T50 l1 x5_1).f2)) || (!(((rd_T50 l0 x5_1).f3) == ((rd_T50 l1 x5_1).f3)))))) = false:=by simpa using c7
         clear c7
         have H' := Aside0.mk H
         clear H
         have p325 : 0 ≤ (x5_1 : Int) := of_decide_eq_true (by first | (with_reducible assumption) | assumption)
         have q325 : x5_1 < (l0.length : Int) := of_decide_eq_true (by first | (with_reducible assumption) | assumption)
         obtain ⟨ad325,e325,hx325_0,hx325_1,hx325_2,hx325_3⟩ := at_T50 HR0.out x5_1 p325 q325
         cases e325
         replace p325:=eq_true p325
         replace q325:=eq_true q325
         have p326 : 0 ≤ (x5_1 : Int) := of_decide_eq_true (by first | (with_reducible assumption) | assumption)
         have q326 : x5_1 < (l1.length : Int) := of_decide_eq_true (by first | (with_reducible assumption) | assumption)
         obtain ⟨ad326,e326,hx326_0,hx326_1,hx326_2,hx326_3⟩ := at_T50 HR1.out x5_1 p326 q326
         cases e326
         replace p326:=eq_true p326
         replace q326:=eq_true q326
         go_wp2
         repeat (go_quiet (fail);try go_wp2)
         go_roundg k1
         case measure => have:=HK1.out;omega
         case rel => exact ⟨(wrap64 (x5_1 + 1)),(by first | rfl | (simp;done) | (simp [*];done)),H',⟨by have:=HK1.out;omega⟩,by repeat (first | exact Drawn0.refl _ | apply Drawn0.step)⟩
     · rw [if_neg c4] at H
       have c4b0 : decide (x5_1 < (l0.length : Int)) = false:=decide_eq_false c4
       clear c4
       obtain rfl:=Option.some.inj H
       go_wp2
       repeat (go_quiet (fail);try go_wp2)
       go_ret
       exact ⟨by first | rfl | (simp;done) | (simp [*];done),by repeat (first | exact Drawn0.refl _ | apply Drawn0.step)⟩
 · rw [if_neg c3] at H
   have c3b0 : ((l0.length : Int) == (l1.length : Int)) = false:=beq_eq_false_iff_ne.mpr c3
   have c3b1 : ((l0.length : Int) != (l1.length : Int)) = true:=bne_iff_ne.mpr c3
   have c3b2 : (l0.length == l1.length) = false:=by first | simpa using c3 | (simp at c3 ⊢;omega)
   obtain rfl:=Option.some.inj H
   go_enter Try.func20,Try.ntmps20
   go_wp2
   repeat (go_quiet (fail);try go_wp2)
   go_ret
   exact ⟨by first | rfl | (simp;done) | (simp [*];done),by repeat (first | exact Drawn0.refl _ | apply Drawn0.step)⟩
attribute [local go_sem] max2_int min2_int max_two min_two max_three min_three max_four min_four   -- for this text's walks alone
set_option linter.unusedVariables false
set_option linter.unusedSimpArgs false
mutual
def regletref13_Right.l0 : Nat → Int → List ByteArray → List (S61) → Int → Int → List (S30) → Option (Bool)
  | 0,_,_,_,_,_,_ => none
  | k + 1,x3,x225000,x225001,x225002,x225003,x225004 => if x3 < (x225004.length : Int) then (if 0 ≤ x3 then (if ((rd_T30 x225004 x3).f0) < 0 then (regletref13_Right.j1 k x3 true x225000 x225001 x225002 x225003 x225004 ((rd_T30 x225004 x3).f0) ((rd_T30 x225004 x3).f1)) else (regletref13_Right.j1 k x3 (decide (((rd_T30 x225004 x3).f0) ≥ (x225000.length : Int))) x225000 x225001 x225002 x225003 x225004 ((rd_T30 x225004 x3).f0) ((rd_T30 x225004 x3).f1))) else (none)) else (some true)
def regletref13_Right.j1 : Nat → Int → Bool → List ByteArray → List (S61) → Int → Int → List (S30) → Int → List (S53) → Option (Bool)
  | 0,_,_,_,_,_,_,_,_,_ => none
  | k + 1,x3,x29,x225000,x225001,x225002,x225003,x225004,x227000,x227001 => if x29 = true then (some false) else (regletref13_Right.l1 k x3 0 x225000 x225001 x225002 x225003 x225004 x227000 x227001)
def regletref13_Right.l1 : Nat → Int → Int → List ByteArray → List (S61) → Int → Int → List (S30) → Int → List (S53) → Option (Bool)
  | 0,_,_,_,_,_,_,_,_,_ => none
  | k + 1,x3,x5,x225000,x225001,x225002,x225003,x225004,x227000,x227001 => if x5 < (x227001.length : Int) then (if 0 ≤ x5 then (if (rd_T53 x227001 x5).f0 = true then (if ((rd_T53 x227001 x5).f1) < 0 then (some false) else (if ((rd_T53 x227001 x5).f1) ≥ (x225001.length : Int) then (some false) else (regletref13_Right.l1 k x3 (wrap64 (x5 + 1)) x225000 x225001 x225002 x225003 x225004 x227000 x227001))) else (if ((rd_T53 x227001 x5).f1) < 0 then (some false) else (if ((rd_T53 x227001 x5).f1) ≥ (x225000.length : Int) then (some false) else (regletref13_Right.l1 k x3 (wrap64 (x5 + 1)) x225000 x225001 x225002 x225003 x225004 x227000 x227001)))) else (none)) else (regletref13_Right.l0 k (wrap64 (x3 + 1)) x225000 x225001 x225002 x225003 x225004)
end
def regletref13_Right.f (k : Nat) (l0_0 : List ByteArray) (l0_1 : List (S61)) (a0_2 : Int) (a0_3 : Int) (l0_4 : List (S30)) : Option (Bool) := regletref13_Right.l0 k 0 l0_0 l0_1 a0_2 a0_3 l0_4
set_option maxHeartbeats 8000000 in
set_option maxRecDepth 100000 in
theorem regletref13_Right.calls (k : Nat) (A0_0 : Option Addr) (c0_0 : Nat) (l0_0 : List ByteArray) (A0_1 : Option Addr) (c0_1 : Nat) (l0_1 : List (S61)) (a0_2 : Int) (a0_3 : Int) (A0_4 : Option Addr) (c0_4 : Nat) (l0_4 : List (S30)) (r : Bool) (w : World) (hr0_0 : Kd.C Kd.string w A0_0 l0_0.length l0_0) (hc0_0 : l0_0.length ≤ c0_0) (hr0_1 : Kd.C k61 w A0_1 l0_1.length l0_1) (hc0_1 : l0_1.length ≤ c0_1) (hr0_4 : Kd.C k30 w A0_4 l0_4.length l0_4) (hc0_4 : l0_4.length ≤ c0_4) (h : regletref13_Right.f k l0_0 l0_1 a0_2 a0_3 l0_4 = some r) :
    Calls Try.prog 25 #[.agg #[.slice A0_0 l0_0.length c0_0,.slice A0_1 l0_1.length c0_1,.int .i64 a0_2,.int .i64 a0_3,.slice A0_4 l0_4.length c0_4]] w fun e w' => e = .returned (.bool r) ∧ Below w.heap.size w w' := by
 have hu26:=Try.underlying26
 have hu30:=Try.underlying30
 have HR0_0:=Aside0.mk hr0_0
 have HC0_0:=Aside0.mk hc0_0
 clear hr0_0 hc0_0
 have HR0_1:=Aside0.mk hr0_1
 have HC0_1:=Aside0.mk hc0_1
 clear hr0_1 hc0_1
 have HR0_4:=Aside0.mk hr0_4
 have HC0_4:=Aside0.mk hc0_4
 clear hr0_4 hc0_4
 have HB:=Aside0.mk (Below.refl w.heap.size w)
 have H : (regletref13_Right.l0 k 0 l0_0 l0_1 a0_2 a0_3 l0_4) = some r:=h
 clear h
 have H' := Aside0.mk H
 clear H
 go_enter Try.func25,Try.ntmps25
 go_wp2_with (first | ((with_reducible refine gate_dst (N:=1) rfl ?_);(try (refine gate_guard (by rfl) ?_;dsimp only));refine box_event ?hg (N:=1) ?hd (cs:=#[.slice A0_0 l0_0.length c0_0,.slice A0_1 l0_1.length c0_1,.int .i64 a0_2,.int .i64 a0_3,.slice A0_4 l0_4.length c0_4]) (t:=26) ?hr ?_;(case hd => rfl);(case hg => rfl);(case hr => first | (go_simp;done) | (go_simp;rfl));intro gb224 hg w2 hbox hb;have n0_:=Aside0.mk (below_step (by repeat (first | (with_reducible first | exact HB.out | apply below_alloc | apply pw_below_drewN | apply below_drew1) | exact HB.out)) hb);have n1_:=Aside0.mk (hbox);have n2_:=Aside0.mk ((by rw [hg];exact (below_size (by repeat (first | (with_reducible first | exact HB.out | apply below_alloc | apply pw_below_drewN | apply below_drew1) | exact HB.out))) : w.heap.size ≤ gb224));have n3_:=Aside0.mk ((by rw [hg];exact (below_size (by repeat (first | (with_reducible first | exact HB.out | apply below_alloc | apply pw_below_drewN | apply below_drew1) | exact HB.out))) : w.heap.size ≤ gb224));clear HB;have HB:=n0_;have BK224:=n1_;have GW224:=n2_;have GE224:=n3_;clear n0_ n1_ n2_ n3_;clear hb hbox hg))
 go_loopg [3] k (fun kq v3 w' => ∃ (x3_1 : Int),v3 = .int .i64 x3_1 ∧ Aside0 (regletref13_Right.l0 kq x3_1 l0_0 l0_1 a0_2 a0_3 l0_4 = some r) ∧ Aside0 (kq ≤ k) ∧ Aside0 (w'.heap[gb224]? = some (.cells #[(.slice A0_0 l0_0.length c0_0),(.slice A0_1 l0_1.length c0_1),.int .i64 a0_2,.int .i64 a0_3,(.slice A0_4 l0_4.length c0_4)] 26 (0,0))) ∧ Aside0 (Below w.heap.size w w'))
 case atStart => exact ⟨(0),(by first | rfl | (simp;done) | (simp [*];done)),H',⟨Nat.le_refl _⟩,⟨by (with_reducible repeat (first | refine blk_drewN ?_ _ | refine blk_drew ?_ | refine blk_alloc ?_ _));exact BK224.out⟩,⟨by repeat (first | (with_reducible first | exact HB.out | apply below_alloc | apply pw_below_drewN | apply below_drew1 | refine below_set ?_ GE224.out) | exact HB.out)⟩⟩
 case round =>
  clear H'
  (try clear c2);(try clear p2)
  obtain ⟨x3_1,rfl,HA,HK1,BK224,HB⟩ := hrel
  cases gk with
  | zero => exact absurd HA.out (by simp [regletref13_Right.l0])
  | succ k1 =>
   have H:=HA.out
   clear HA
   simp only [regletref13_Right.l0] at H
   by_cases c3 : x3_1 < (l0_4.length : Int)
   · rw [if_pos c3] at H
     have c3b0 : decide (x3_1 < (l0_4.length : Int)) = true:=decide_eq_true c3
     clear c3
     by_cases c4 : 0 ≤ x3_1
     rotate_left
     · rw [if_neg c4] at H
       exact absurd H (by simp)
     rw [if_pos c4] at H
     have c4b0 : decide (0 ≤ x3_1) = true:=decide_eq_true c4
     clear c4
     have HC5:=Aside0.mk H
     clear H
     have hcz6_0 : wr.cell? ⟨gb224,0,none⟩ = some (.slice A0_0 l0_0.length c0_0) := (blk_cell BK224.out 0).trans rfl
     have hcz6_1 : wr.cell? ⟨gb224,1,none⟩ = some (.slice A0_1 l0_1.length c0_1) := (blk_cell BK224.out 1).trans rfl
     have hcz6_2 : wr.cell? ⟨gb224,2,none⟩ = some (.int .i64 a0_2) := (blk_cell BK224.out 2).trans rfl
     have hcz6_3 : wr.cell? ⟨gb224,3,none⟩ = some (.int .i64 a0_3) := (blk_cell BK224.out 3).trans rfl
     have hcz6_4 : wr.cell? ⟨gb224,4,none⟩ = some (.slice A0_4 l0_4.length c0_4) := (blk_cell BK224.out 4).trans rfl
     have hfz6_0:=blk_frozen BK224.out 0
     have hfz6_1:=blk_frozen BK224.out 1
     have hfz6_2:=blk_frozen BK224.out 2
     have hfz6_3:=blk_frozen BK224.out 3
     have hfz6_4:=blk_frozen BK224.out 4
     have p225 : 0 ≤ (x3_1 : Int) := of_decide_eq_true (by first | (with_reducible assumption) | assumption)
     have q225 : x3_1 < (l0_4.length : Int) := of_decide_eq_true (by first | (with_reducible assumption) | assumption)
     obtain ⟨ad225,A225_1,c225_1,e225,hx225_0,hx225_1,hl225_1,hi225_1⟩ := at_T30 HR0_4.out x3_1 p225 q225
     cases e225
     replace hx225_0:=(HB.out.cell (World.block_lt_of_cell? w _ hx225_0)).trans hx225_0
     replace hx225_1:=(HB.out.cell (World.block_lt_of_cell? w _ hx225_1)).trans hx225_1
     have HR225_1:=Aside0.mk hi225_1
     have HC225_1:=Aside0.mk hl225_1
     clear hi225_1 hl225_1
     replace p225:=eq_true p225
     replace q225:=eq_true q225
     go_upto_region 5 with (first | ((with_reducible refine gate_dst (N:=4) rfl ?_);(try (refine gate_guard (by rfl) ?_;dsimp only));refine box_event ?hg (N:=4) ?hd (cs:=#[.int .i64 0,.slice none 0 0]) (t:=30) ?hr ?_;(case hd => rfl);(case hg => rfl);(case hr => first | (go_simp;done) | (go_simp;rfl));intro gb226 hg w7 hbox hb;have n0_:=Aside0.mk (blk_below (g:=gb224) (o := .cells #[.slice A0_0 l0_0.length c0_0,.slice A0_1 l0_1.length c0_1,.int .i64 a0_2,.int .i64 a0_3,.slice (some ad225) l0_4.length c0_4] 26 (0,0)) (by (with_reducible repeat (first | refine blk_drewN ?_ _ | refine blk_drew ?_ | refine blk_alloc ?_ _));exact BK224.out) hb);have n1_:=Aside0.mk (below_step (by repeat (first | (with_reducible first | exact HB.out | apply below_alloc | apply pw_below_drewN | apply below_drew1 | refine below_set ?_ GE224.out) | exact HB.out)) hb);have n2_:=Aside0.mk (hbox);have n3_:=Aside0.mk ((by rw [hg];exact (below_size (by repeat (first | (with_reducible first | exact HB.out | apply below_alloc | apply pw_below_drewN | apply below_drew1 | refine below_set ?_ GE224.out) | exact HB.out))) : w.heap.size ≤ gb226));have n4_:=Aside0.mk ((by rw [hg];exact (below_size (by repeat (first | (with_reducible first | exact HB.out | apply below_alloc | apply pw_below_drewN | apply below_drew1 | refine below_set ?_ GE224.out) | exact HB.out))) : w.heap.size ≤ gb226));have n5_:=Aside0.mk ((by rw [hg];exact Nat.ne_of_lt (blk_lt (g:=gb224) (o := .cells #[.slice A0_0 l0_0.length c0_0,.slice A0_1 l0_1.length c0_1,.int .i64 a0_2,.int .i64 a0_3,.slice (some ad225) l0_4.length c0_4] 26 (0,0)) (by (with_reducible repeat (first | refine blk_drewN ?_ _ | refine blk_drew ?_ | refine blk_alloc ?_ _));exact BK224.out)) : gb224 ≠ gb226));have n6_:=Aside0.mk ((by rw [hg];exact Nat.ne_of_gt (blk_lt (g:=gb224) (o := .cells #[.slice A0_0 l0_0.length c0_0,.slice A0_1 l0_1.length c0_1,.int .i64 a0_2,.int .i64 a0_3,.slice (some ad225) l0_4.length c0_4] 26 (0,0)) (by (with_reducible repeat (first | refine blk_drewN ?_ _ | refine blk_drew ?_ | refine blk_alloc ?_ _));exact BK224.out)) : gb226 ≠ gb224));clear BK224;clear HB;have BK224:=n0_;have HB:=n1_;have BK226:=n2_;have GW226:=n3_;have GE226:=n4_;have NB224_226:=n5_;have NB226_224:=n6_;clear n0_ n1_ n2_ n3_ n4_ n5_ n6_;clear hb hbox hg;have hnb8:=NB226_224.out;have hnc8:=NB224_226.out;have hcz9_0 : w7.cell? ⟨gb226,0,none⟩ = some (.int .i64 0) := (blk_cell BK226.out 0).trans rfl;have hcz9_1 : w7.cell? ⟨gb226,1,none⟩ = some (.slice none 0 0) := (blk_cell BK226.out 1).trans rfl;have hfz9_0:=blk_frozen BK226.out 0;have hfz9_1:=blk_frozen BK226.out 1))
     (try simp only [Act.put,List.setIfInBounds_toArray,List.set_cons_zero,List.set_cons_succ])
     go_cut [29] (fun v29 wc => ∃ (kq : Nat) (x29_4 : Bool),v29 = .bool x29_4 ∧ Aside0 (regletref13_Right.j1 kq x3_1 x29_4 l0_0 l0_1 a0_2 a0_3 l0_4 ((rd_T30 l0_4 x3_1).f0) ((rd_T30 l0_4 x3_1).f1) = some r) ∧ Aside0 (kq ≤ k1) ∧ Aside0 (wc.heap[gb224]? = some (.cells #[(.slice A0_0 l0_0.length c0_0),(.slice A0_1 l0_1.length c0_1),.int .i64 a0_2,.int .i64 a0_3,(.slice (some ad225) l0_4.length c0_4)] 26 (0,0))) ∧ Aside0 (wc.heap[gb226]? = some (.cells #[.int .i64 ((rd_T30 l0_4 x3_1).f0),(.slice A225_1 ((rd_T30 l0_4 x3_1).f1).length c225_1)] 30 (0,0))) ∧ Aside0 (Below w.heap.size w wc))
     case first =>
      have H:=HC5.out
      clear HC5
      by_cases c10 : ((rd_T30 l0_4 x3_1).f0) < 0
      · rw [if_pos c10] at H
        have c10b0 : decide (((rd_T30 l0_4 x3_1).f0) < 0) = true:=decide_eq_true c10
        clear c10
        (first | rw [c10b0] | (simp only [i64_w,i32_w];rw [c10b0]) | skip)
        have H' := Aside0.mk H
        clear H
        have hnb11:=NB226_224.out
        have hnc11:=NB224_226.out
        have hcz12_0 : w7.cell? ⟨gb226,0,none⟩ = some (.int .i64 0) := (blk_cell BK226.out 0).trans rfl
        have hcz12_1 : w7.cell? ⟨gb226,1,none⟩ = some (.slice none 0 0) := (blk_cell BK226.out 1).trans rfl
        have hfz12_0:=blk_frozen BK226.out 0
        have hfz12_1:=blk_frozen BK226.out 1
        go_wp2
        go_meet
        case rel => exact ⟨_,(true),(by first | rfl | (simp;done) | (simp [*];done)),H',⟨by have:=HK1.out;first | omega | exact Nat.le_refl _⟩,⟨by (with_reducible repeat (first | refine blk_drewN ?_ _ | refine blk_drew ?_ | refine blk_alloc ?_ _));refine blk_far ?_ NB224_226.out _;(with_reducible repeat (first | refine blk_drewN ?_ _ | refine blk_drew ?_ | refine blk_alloc ?_ _));refine blk_far ?_ NB224_226.out _;(with_reducible repeat (first | refine blk_drewN ?_ _ | refine blk_drew ?_ | refine blk_alloc ?_ _));exact BK224.out⟩,⟨by (with_reducible repeat (first | refine blk_drewN ?_ _ | refine blk_drew ?_ | refine blk_alloc ?_ _));refine blk_put (cs:=#[.int .i64 ((rd_T30 l0_4 x3_1).f0),.slice none 0 0]) ?_ 1 _ rfl;(with_reducible repeat (first | refine blk_drewN ?_ _ | refine blk_drew ?_ | refine blk_alloc ?_ _));refine blk_put (cs:=#[.int .i64 0,.slice none 0 0]) ?_ 0 _ rfl;(with_reducible repeat (first | refine blk_drewN ?_ _ | refine blk_drew ?_ | refine blk_alloc ?_ _));exact BK226.out⟩,⟨by repeat (first | (with_reducible first | exact HB.out | apply below_alloc | apply pw_below_drewN | apply below_drew1 | refine below_set ?_ GE224.out | refine below_set ?_ GE226.out) | exact HB.out)⟩⟩
      · rw [if_neg c10] at H
        have c10b0 : decide (((rd_T30 l0_4 x3_1).f0) < 0) = false:=decide_eq_false c10
        clear c10
        (first | rw [c10b0] | (simp only [i64_w,i32_w];rw [c10b0]) | skip)
        have H' := Aside0.mk H
        clear H
        have hnb13:=NB226_224.out
        have hnc13:=NB224_226.out
        have hcz14_0 : w7.cell? ⟨gb226,0,none⟩ = some (.int .i64 0) := (blk_cell BK226.out 0).trans rfl
        have hcz14_1 : w7.cell? ⟨gb226,1,none⟩ = some (.slice none 0 0) := (blk_cell BK226.out 1).trans rfl
        have hfz14_0:=blk_frozen BK226.out 0
        have hfz14_1:=blk_frozen BK226.out 1
        have hcz15_0 : w7.cell? ⟨gb224,0,none⟩ = some (.slice A0_0 l0_0.length c0_0) := (blk_cell BK224.out 0).trans rfl
        have hcz15_1 : w7.cell? ⟨gb224,1,none⟩ = some (.slice A0_1 l0_1.length c0_1) := (blk_cell BK224.out 1).trans rfl
        have hcz15_2 : w7.cell? ⟨gb224,2,none⟩ = some (.int .i64 a0_2) := (blk_cell BK224.out 2).trans rfl
        have hcz15_3 : w7.cell? ⟨gb224,3,none⟩ = some (.int .i64 a0_3) := (blk_cell BK224.out 3).trans rfl
        have hcz15_4 : w7.cell? ⟨gb224,4,none⟩ = some (.slice (some ad225) l0_4.length c0_4) := (blk_cell BK224.out 4).trans rfl
        have hfz15_0:=blk_frozen BK224.out 0
        have hfz15_1:=blk_frozen BK224.out 1
        have hfz15_2:=blk_frozen BK224.out 2
        have hfz15_3:=blk_frozen BK224.out 3
        have hfz15_4:=blk_frozen BK224.out 4
        go_wp2
        go_meet
        case rel => exact ⟨_,(decide (((rd_T30 l0_4 x3_1).f0) ≥ (l0_0.length : Int))),(by first | rfl | (simp;done) | (simp [*];done)),H',⟨by have:=HK1.out;first | omega | exact Nat.le_refl _⟩,⟨by (with_reducible repeat (first | refine blk_drewN ?_ _ | refine blk_drew ?_ | refine blk_alloc ?_ _));refine blk_far ?_ NB224_226.out _;(with_reducible repeat (first | refine blk_drewN ?_ _ | refine blk_drew ?_ | refine blk_alloc ?_ _));refine blk_far ?_ NB224_226.out _;(with_reducible repeat (first | refine blk_drewN ?_ _ | refine blk_drew ?_ | refine blk_alloc ?_ _));exact BK224.out⟩,⟨by (with_reducible repeat (first | refine blk_drewN ?_ _ | refine blk_drew ?_ | refine blk_alloc ?_ _));refine blk_put (cs:=#[.int .i64 ((rd_T30 l0_4 x3_1).f0),.slice none 0 0]) ?_ 1 _ rfl;(with_reducible repeat (first | refine blk_drewN ?_ _ | refine blk_drew ?_ | refine blk_alloc ?_ _));refine blk_put (cs:=#[.int .i64 0,.slice none 0 0]) ?_ 0 _ rfl;(with_reducible repeat (first | refine blk_drewN ?_ _ | refine blk_drew ?_ | refine blk_alloc ?_ _));exact BK226.out⟩,⟨by repeat (first | (with_reducible first | exact HB.out | apply below_alloc | apply pw_below_drewN | apply below_drew1 | refine below_set ?_ GE224.out | refine below_set ?_ GE226.out) | exact HB.out)⟩⟩
     case rest =>
      clear HC5
      (try clear c1);(try clear c2);(try clear p2);(try clear q2);(try clear hx2);(try clear c3);(try clear c3b0);(try clear c4);(try clear c4b0);(try clear c8);(try clear c10);(try clear c10b0);(try clear c11);(try clear c13);(try clear hcz12_0);(try clear hcz12_1);(try clear hcz14_0);(try clear hcz14_1);(try clear hcz15_0);(try clear hcz15_1);(try clear hcz15_2);(try clear hcz15_3);(try clear hcz15_4)
      (try clear hcz6_0);(try clear hcz6_1);(try clear hcz6_2);(try clear hcz6_3);(try clear hcz6_4);(try clear hcz9_0);(try clear hcz9_1);(try clear hfz12_0);(try clear hfz12_1);(try clear hfz14_0);(try clear hfz14_1);(try clear hfz15_0);(try clear hfz15_1);(try clear hfz15_2);(try clear hfz15_3);(try clear hfz15_4);(try clear hfz6_0);(try clear hfz6_1);(try clear hfz6_2);(try clear hfz6_3);(try clear hfz6_4)
      (try clear hfz9_0);(try clear hfz9_1);(try clear hx225_0);(try clear hx225_1);(try clear p2);(try clear p225);(try clear q225)
      obtain ⟨kq,x29_4,rfl,HA,HJ4,BK224,BK226,HB⟩ := hcut
      cases kq with
      | zero => exact absurd HA.out (by simp [regletref13_Right.j1])
      | succ kj4 =>
       have H:=HA.out
       clear HA
       simp only [regletref13_Right.j1] at H
       by_cases c16 : x29_4 = true
       · subst c16
         have H1 : (some false) = some r:=by rw [if_pos rfl] at H;exact H
         clear H
         have H:=H1
         clear H1
         obtain rfl:=Option.some.inj H
         go_wp2
         go_ret
         exact ⟨by first | rfl | (simp [errW_none,errW_some] <;> rfl) | (simp [*,errW_none,errW_some] <;> rfl),by repeat (first | (with_reducible first | exact HB.out | apply below_alloc | apply pw_below_drewN | apply below_drew1 | refine below_set ?_ GE224.out | refine below_set ?_ GE226.out) | exact HB.out)⟩
       · replace c16:=Bool.eq_false_iff.mpr c16
         subst c16
         have H1 : (regletref13_Right.l1 kj4 x3_1 0 l0_0 l0_1 a0_2 a0_3 l0_4 ((rd_T30 l0_4 x3_1).f0) ((rd_T30 l0_4 x3_1).f1)) = some r:=by rw [if_neg (show ¬ (false = true) by decide)] at H;exact H
         clear H
         have H:=H1
         clear H1
         have H' := Aside0.mk H
         clear H
         go_wp2
         go_loopg [5] kj4 (fun kq v5 w' => ∃ (x5_3 : Int),v5 = .int .i64 x5_3 ∧ Aside0 (regletref13_Right.l1 kq x3_1 x5_3 l0_0 l0_1 a0_2 a0_3 l0_4 ((rd_T30 l0_4 x3_1).f0) ((rd_T30 l0_4 x3_1).f1) = some r) ∧ Aside0 (kq ≤ kj4) ∧ Aside0 (w'.heap[gb224]? = some (.cells #[(.slice A0_0 l0_0.length c0_0),(.slice A0_1 l0_1.length c0_1),.int .i64 a0_2,.int .i64 a0_3,(.slice (some ad225) l0_4.length c0_4)] 26 (0,0))) ∧ Aside0 (w'.heap[gb226]? = some (.cells #[.int .i64 ((rd_T30 l0_4 x3_1).f0),(.slice A225_1 ((rd_T30 l0_4 x3_1).f1).length c225_1)] 30 (0,0))) ∧ Aside0 (Below w.heap.size w w'))
         case atStart => exact ⟨(0),(by first | rfl | (simp;done) | (simp [*];done)),H',⟨Nat.le_refl _⟩,⟨by (with_reducible repeat (first | refine blk_drewN ?_ _ | refine blk_drew ?_ | refine blk_alloc ?_ _));exact BK224.out⟩,⟨by (with_reducible repeat (first | refine blk_drewN ?_ _ | refine blk_drew ?_ | refine blk_alloc ?_ _));exact BK226.out⟩,⟨by repeat (first | (with_reducible first | exact HB.out | apply below_alloc | apply pw_below_drewN | apply below_drew1 | refine below_set ?_ GE224.out | refine below_set ?_ GE226.out) | exact HB.out)⟩⟩
         case round =>
          clear H'
          (try clear c1);(try clear c2);(try clear p2);(try clear q2);(try clear hx2);(try clear c3);(try clear c3b0);(try clear c4);(try clear c4b0);(try clear c8);(try clear c10);(try clear c10b0);(try clear c11);(try clear c13);(try clear c16);(try clear hcz12_0);(try clear hcz12_1);(try clear hcz14_0);(try clear hcz14_1);(try clear hcz15_0);(try clear hcz15_1);(try clear hcz15_2);(try clear hcz15_3);(try clear hcz15_4)
          (try clear hcz6_0);(try clear hcz6_1);(try clear hcz6_2);(try clear hcz6_3);(try clear hcz6_4);(try clear hcz9_0);(try clear hcz9_1);(try clear hfz12_0);(try clear hfz12_1);(try clear hfz14_0);(try clear hfz14_1);(try clear hfz15_0);(try clear hfz15_1);(try clear hfz15_2);(try clear hfz15_3);(try clear hfz15_4);(try clear hfz6_0);(try clear hfz6_1);(try clear hfz6_2);(try clear hfz6_3);(try clear hfz6_4)
          (try clear hfz9_0);(try clear hfz9_1);(try clear hx225_0);(try clear hx225_1);(try clear p2);(try clear p225);(try clear q2);(try clear q225)
          obtain ⟨x5_3,rfl,HA,HK3,BK224,BK226,HB⟩ := hrel
          cases gk with
          | zero => exact absurd HA.out (by simp [regletref13_Right.l1])
          | succ k3 =>
           have H:=HA.out
           clear HA
           simp only [regletref13_Right.l1] at H
           by_cases c17 : x5_3 < (((rd_T30 l0_4 x3_1).f1).length : Int)
           · rw [if_pos c17] at H
             have c17b0 : decide (x5_3 < (((rd_T30 l0_4 x3_1).f1).length : Int)) = true:=decide_eq_true c17
             clear c17
             by_cases c18 : 0 ≤ x5_3
             rotate_left
             · rw [if_neg c18] at H
               exact absurd H (by simp)
             rw [if_pos c18] at H
             have c18b0 : decide (0 ≤ x5_3) = true:=decide_eq_true c18
             clear c18
             obtain ⟨bq19,hbq19⟩ : ∃ b_ : Bool,b_ = ((rd_T53 ((rd_T30 l0_4 x3_1).f1) x5_3).f0) := ⟨_,rfl⟩
             replace H : (if bq19 = true then (if ((rd_T53 ((rd_T30 l0_4 x3_1).f1) x5_3).f1) < 0 then (some false) else (if ((rd_T53 ((rd_T30 l0_4 x3_1).f1) x5_3).f1) ≥ (l0_1.length : Int) then (some false) else (regletref13_Right.l1 k3 x3_1 (wrap64 (x5_3 + 1)) l0_0 l0_1 a0_2 a0_3 l0_4 ((rd_T30 l0_4 x3_1).f0) ((rd_T30 l0_4 x3_1).f1)))) else (if ((rd_T53 ((rd_T30 l0_4 x3_1).f1) x5_3).f1) < 0 then (some false) else (if ((rd_T53 ((rd_T30 l0_4 x3_1).f1) x5_3).f1) ≥ (l0_0.length : Int) then (some false) else (regletref13_Right.l1 k3 x3_1 (wrap64 (x5_3 + 1)) l0_0 l0_1 a0_2 a0_3 l0_4 ((rd_T30 l0_4 x3_1).f0) ((rd_T30 l0_4 x3_1).f1))))) = some r:=by rw [← hbq19] at H;exact H
             have Nbq19:=Aside0.mk hbq19
             clear hbq19
             by_cases c20 : bq19 = true
             · subst c20
               have H1 : (if ((rd_T53 ((rd_T30 l0_4 x3_1).f1) x5_3).f1) < 0 then (some false) else (if ((rd_T53 ((rd_T30 l0_4 x3_1).f1) x5_3).f1) ≥ (l0_1.length : Int) then (some false) else (regletref13_Right.l1 k3 x3_1 (wrap64 (x5_3 + 1)) l0_0 l0_1 a0_2 a0_3 l0_4 ((rd_T30 l0_4 x3_1).f0) ((rd_T30 l0_4 x3_1).f1)))) = some r:=by rw [if_pos rfl] at H;exact H
               clear H
               have H:=H1
               clear H1
               by_cases c21 : ((rd_T53 ((rd_T30 l0_4 x3_1).f1) x5_3).f1) < 0
               · rw [if_pos c21] at H
                 have c21b0 : decide (((rd_T53 ((rd_T30 l0_4 x3_1).f1) x5_3).f1) < 0) = true:=decide_eq_true c21
                 clear c21
                 obtain rfl:=Option.some.inj H
                 have hnb22:=NB226_224.out
                 have hnc22:=NB224_226.out
                 have hcz23_0 : wr.cell? ⟨gb226,0,none⟩ = some (.int .i64 ((rd_T30 l0_4 x3_1).f0)) := (blk_cell BK226.out 0).trans rfl
                 have hcz23_1 : wr.cell? ⟨gb226,1,none⟩ = some (.slice A225_1 ((rd_T30 l0_4 x3_1).f1).length c225_1) := (blk_cell BK226.out 1).trans rfl
                 have hfz23_0:=blk_frozen BK226.out 0
                 have hfz23_1:=blk_frozen BK226.out 1
                 have hcz24_0 : wr.cell? ⟨gb224,0,none⟩ = some (.slice A0_0 l0_0.length c0_0) := (blk_cell BK224.out 0).trans rfl
                 have hcz24_1 : wr.cell? ⟨gb224,1,none⟩ = some (.slice A0_1 l0_1.length c0_1) := (blk_cell BK224.out 1).trans rfl
                 have hcz24_2 : wr.cell? ⟨gb224,2,none⟩ = some (.int .i64 a0_2) := (blk_cell BK224.out 2).trans rfl
                 have hcz24_3 : wr.cell? ⟨gb224,3,none⟩ = some (.int .i64 a0_3) := (blk_cell BK224.out 3).trans rfl
                 have hcz24_4 : wr.cell? ⟨gb224,4,none⟩ = some (.slice (some ad225) l0_4.length c0_4) := (blk_cell BK224.out 4).trans rfl
                 have hfz24_0:=blk_frozen BK224.out 0
                 have hfz24_1:=blk_frozen BK224.out 1
                 have hfz24_2:=blk_frozen BK224.out 2
                 have hfz24_3:=blk_frozen BK224.out 3
                 have hfz24_4:=blk_frozen BK224.out 4
                 have p227 : 0 ≤ (x5_3 : Int) := of_decide_eq_true (by first | (with_reducible assumption) | assumption)
                 have q227 : x5_3 < (((rd_T30 l0_4 x3_1).f1).length : Int) := of_decide_eq_true (by first | (with_reducible assumption) | assumption)
                 obtain ⟨ad227,e227,hx227_0,hx227_1⟩ := at_T53 HR225_1.out x5_3 p227 q227
                 (try rw [← Nbq19.out] at hx227_0)
                 cases e227
                 replace hx227_0:=(HB.out.cell (World.block_lt_of_cell? w _ hx227_0)).trans hx227_0
                 replace hx227_1:=(HB.out.cell (World.block_lt_of_cell? w _ hx227_1)).trans hx227_1
                 replace p227:=eq_true p227
                 replace q227:=eq_true q227
                 have p228 : 0 ≤ (x5_3 : Int) := of_decide_eq_true (by first | (with_reducible assumption) | assumption)
                 have q228 : x5_3 < (((rd_T30 l0_4 x3_1).f1).length : Int) := of_decide_eq_true (by first | (with_reducible assumption) | assumption)
                 obtain ⟨ad228,e228,hx228_0,hx228_1⟩ := at_T53 HR225_1.out x5_3 p228 q228
                 (try rw [← Nbq19.out] at hx228_0)
                 obtain rfl : ad227 = ad228:=(by injection e228)
                 replace hx228_0:=(HB.out.cell (World.block_lt_of_cell? w _ hx228_0)).trans hx228_0
                 replace hx228_1:=(HB.out.cell (World.block_lt_of_cell? w _ hx228_1)).trans hx228_1
                 replace p228:=eq_true p228
                 replace q228:=eq_true q228
                 go_wp2
                 go_ret
                 exact ⟨by first | rfl | (simp [errW_none,errW_some] <;> rfl) | (simp [*,errW_none,errW_some] <;> rfl),by repeat (first | (with_reducible first | exact HB.out | apply below_alloc | apply pw_below_drewN | apply below_drew1 | refine below_set ?_ GE224.out | refine below_set ?_ GE226.out) | exact HB.out)⟩
               · rw [if_neg c21] at H
                 have c21b0 : decide (((rd_T53 ((rd_T30 l0_4 x3_1).f1) x5_3).f1) < 0) = false:=decide_eq_false c21
                 clear c21
                 by_cases c25 : ((rd_T53 ((rd_T30 l0_4 x3_1).f1) x5_3).f1) ≥ (l0_1.length : Int)
                 · rw [if_pos c25] at H
                   have c25b0 : decide ((l0_1.length : Int) ≤ ((rd_T53 ((rd_T30 l0_4 x3_1).f1) x5_3).f1)) = true:=decide_eq_true c25
                   clear c25
                   obtain rfl:=Option.some.inj H
                   have hnb26:=NB226_224.out
                   have hnc26:=NB224_226.out
                   have hcz27_0 : wr.cell? ⟨gb226,0,none⟩ = some (.int .i64 ((rd_T30 l0_4 x3_1).f0)) := (blk_cell BK226.out 0).trans rfl
                   have hcz27_1 : wr.cell? ⟨gb226,1,none⟩ = some (.slice A225_1 ((rd_T30 l0_4 x3_1).f1).length c225_1) := (blk_cell BK226.out 1).trans rfl
                   have hfz27_0:=blk_frozen BK226.out 0
                   have hfz27_1:=blk_frozen BK226.out 1
                   have hcz28_0 : wr.cell? ⟨gb224,0,none⟩ = some (.slice A0_0 l0_0.length c0_0) := (blk_cell BK224.out 0).trans rfl
                   have hcz28_1 : wr.cell? ⟨gb224,1,none⟩ = some (.slice A0_1 l0_1.length c0_1) := (blk_cell BK224.out 1).trans rfl
                   have hcz28_2 : wr.cell? ⟨gb224,2,none⟩ = some (.int .i64 a0_2) := (blk_cell BK224.out 2).trans rfl
                   have hcz28_3 : wr.cell? ⟨gb224,3,none⟩ = some (.int .i64 a0_3) := (blk_cell BK224.out 3).trans rfl
                   have hcz28_4 : wr.cell? ⟨gb224,4,none⟩ = some (.slice (some ad225) l0_4.length c0_4) := (blk_cell BK224.out 4).trans rfl
                   have hfz28_0:=blk_frozen BK224.out 0
                   have hfz28_1:=blk_frozen BK224.out 1
                   have hfz28_2:=blk_frozen BK224.out 2
                   have hfz28_3:=blk_frozen BK224.out 3
                   have hfz28_4:=blk_frozen BK224.out 4
                   have p227 : 0 ≤ (x5_3 : Int) := of_decide_eq_true (by first | (with_reducible assumption) | assumption)
                   have q227 : x5_3 < (((rd_T30 l0_4 x3_1).f1).length : Int) := of_decide_eq_true (by first | (with_reducible assumption) | assumption)
                   obtain ⟨ad227,e227,hx227_0,hx227_1⟩ := at_T53 HR225_1.out x5_3 p227 q227
                   (try rw [← Nbq19.out] at hx227_0)
                   cases e227
                   replace hx227_0:=(HB.out.cell (World.block_lt_of_cell? w _ hx227_0)).trans hx227_0
                   replace hx227_1:=(HB.out.cell (World.block_lt_of_cell? w _ hx227_1)).trans hx227_1
                   replace p227:=eq_true p227
                   replace q227:=eq_true q227
                   have p228 : 0 ≤ (x5_3 : Int) := of_decide_eq_true (by first | (with_reducible assumption) | assumption)
                   have q228 : x5_3 < (((rd_T30 l0_4 x3_1).f1).length : Int) := of_decide_eq_true (by first | (with_reducible assumption) | assumption)
                   obtain ⟨ad228,e228,hx228_0,hx228_1⟩ := at_T53 HR225_1.out x5_3 p228 q228
                   (try rw [← Nbq19.out] at hx228_0)
                   obtain rfl : ad227 = ad228:=(by injection e228)
                   replace hx228_0:=(HB.out.cell (World.block_lt_of_cell? w _ hx228_0)).trans hx228_0
                   replace hx228_1:=(HB.out.cell (World.block_lt_of_cell? w _ hx228_1)).trans hx228_1
                   replace p228:=eq_true p228
                   replace q228:=eq_true q228
                   have p229 : 0 ≤ (x5_3 : Int) := of_decide_eq_true (by first | (with_reducible assumption) | assumption)
                   have q229 : x5_3 < (((rd_T30 l0_4 x3_1).f1).length : Int) := of_decide_eq_true (by first | (with_reducible assumption) | assumption)
                   obtain ⟨ad229,e229,hx229_0,hx229_1⟩ := at_T53 HR225_1.out x5_3 p229 q229
                   (try rw [← Nbq19.out] at hx229_0)
                   obtain rfl : ad227 = ad229:=(by injection e229)
                   replace hx229_0:=(HB.out.cell (World.block_lt_of_cell? w _ hx229_0)).trans hx229_0
                   replace hx229_1:=(HB.out.cell (World.block_lt_of_cell? w _ hx229_1)).trans hx229_1
                   replace p229:=eq_true p229
                   replace q229:=eq_true q229
                   go_wp2
                   go_ret
                   exact ⟨by first | rfl | (simp [errW_none,errW_some] <;> rfl) | (simp [*,errW_none,errW_some] <;> rfl),by repeat (first | (with_reducible first | exact HB.out | apply below_alloc | apply pw_below_drewN | apply below_drew1 | refine below_set ?_ GE224.out | refine below_set ?_ GE226.out) | exact HB.out)⟩
                 · rw [if_neg c25] at H
                   have c25b0 : decide ((l0_1.length : Int) ≤ ((rd_T53 ((rd_T30 l0_4 x3_1).f1) x5_3).f1)) = false:=decide_eq_false c25
                   clear c25
                   have H' := Aside0.mk H
                   clear H
                   have hnb29:=NB226_224.out
                   have hnc29:=NB224_226.out
                   have hcz30_0 : wr.cell? ⟨gb226,0,none⟩ = some (.int .i64 ((rd_T30 l0_4 x3_1).f0)) := (blk_cell BK226.out 0).trans rfl
                   have hcz30_1 : wr.cell? ⟨gb226,1,none⟩ = some (.slice A225_1 ((rd_T30 l0_4 x3_1).f1).length c225_1) := (blk_cell BK226.out 1).trans rfl
                   have hfz30_0:=blk_frozen BK226.out 0
                   have hfz30_1:=blk_frozen BK226.out 1
                   have hcz31_0 : wr.cell? ⟨gb224,0,none⟩ = some (.slice A0_0 l0_0.length c0_0) := (blk_cell BK224.out 0).trans rfl
                   have hcz31_1 : wr.cell? ⟨gb224,1,none⟩ = some (.slice A0_1 l0_1.length c0_1) := (blk_cell BK224.out 1).trans rfl
                   have hcz31_2 : wr.cell? ⟨gb224,2,none⟩ = some (.int .i64 a0_2) := (blk_cell BK224.out 2).trans rfl
                   have hcz31_3 : wr.cell? ⟨gb224,3,none⟩ = some (.int .i64 a0_3) := (blk_cell BK224.out 3).trans rfl
                   have hcz31_4 : wr.cell? ⟨gb224,4,none⟩ = some (.slice (some ad225) l0_4.length c0_4) := (blk_cell BK224.out 4).trans rfl
                   have hfz31_0:=blk_frozen BK224.out 0
                   have hfz31_1:=blk_frozen BK224.out 1
                   have hfz31_2:=blk_frozen BK224.out 2
                   have hfz31_3:=blk_frozen BK224.out 3
                   have hfz31_4:=blk_frozen BK224.out 4
                   have p227 : 0 ≤ (x5_3 : Int) := of_decide_eq_true (by first | (with_reducible assumption) | assumption)
                   have q227 : x5_3 < (((rd_T30 l0_4 x3_1).f1).length : Int) := of_decide_eq_true (by first | (with_reducible assumption) | assumption)
                   obtain ⟨ad227,e227,hx227_0,hx227_1⟩ := at_T53 HR225_1.out x5_3 p227 q227
                   (try rw [← Nbq19.out] at hx227_0)
                   cases e227
                   replace hx227_0:=(HB.out.cell (World.block_lt_of_cell? w _ hx227_0)).trans hx227_0
                   replace hx227_1:=(HB.out.cell (World.block_lt_of_cell? w _ hx227_1)).trans hx227_1
                   replace p227:=eq_true p227
                   replace q227:=eq_true q227
                   have p228 : 0 ≤ (x5_3 : Int) := of_decide_eq_true (by first | (with_reducible assumption) | assumption)
                   have q228 : x5_3 < (((rd_T30 l0_4 x3_1).f1).length : Int) := of_decide_eq_true (by first | (with_reducible assumption) | assumption)
                   obtain ⟨ad228,e228,hx228_0,hx228_1⟩ := at_T53 HR225_1.out x5_3 p228 q228
                   (try rw [← Nbq19.out] at hx228_0)
                   obtain rfl : ad227 = ad228:=(by injection e228)
                   replace hx228_0:=(HB.out.cell (World.block_lt_of_cell? w _ hx228_0)).trans hx228_0
                   replace hx228_1:=(HB.out.cell (World.block_lt_of_cell? w _ hx228_1)).trans hx228_1
                   replace p228:=eq_true p228
                   replace q228:=eq_true q228
                   have p229 : 0 ≤ (x5_3 : Int) := of_decide_eq_true (by first | (with_reducible assumption) | assumption)
                   have q229 : x5_3 < (((rd_T30 l0_4 x3_1).f1).length : Int) := of_decide_eq_true (by first | (with_reducible assumption) | assumption)
                   obtain ⟨ad229,e229,hx229_0,hx229_1⟩ := at_T53 HR225_1.out x5_3 p229 q229
                   (try rw [← Nbq19.out] at hx229_0)
                   obtain rfl : ad227 = ad229:=(by injection e229)
                   replace hx229_0:=(HB.out.cell (World.block_lt_of_cell? w _ hx229_0)).trans hx229_0
                   replace hx229_1:=(HB.out.cell (World.block_lt_of_cell? w _ hx229_1)).trans hx229_1
                   replace p229:=eq_true p229
                   replace q229:=eq_true q229
                   go_wp2
                   go_roundg k3
                   case measure => have:=HK1.out;have:=HJ4.out;have:=HK3.out;omega
                   case rel => exact ⟨(wrap64 (x5_3 + 1)),(by first | rfl | (simp;done) | (simp [*];done)),H',⟨by have:=HK1.out;have:=HJ4.out;have:=HK3.out;omega⟩,⟨by (with_reducible repeat (first | refine blk_drewN ?_ _ | refine blk_drew ?_ | refine blk_alloc ?_ _));exact BK224.out⟩,⟨by (with_reducible repeat (first | refine blk_drewN ?_ _ | refine blk_drew ?_ | refine blk_alloc ?_ _));exact BK226.out⟩,⟨by repeat (first | (with_reducible first | exact HB.out | apply below_alloc | apply pw_below_drewN | apply below_drew1 | refine below_set ?_ GE224.out | refine below_set ?_ GE226.out) | exact HB.out)⟩⟩
             · replace c20:=Bool.eq_false_iff.mpr c20
               subst c20
               have H1 : (if ((rd_T53 ((rd_T30 l0_4 x3_1).f1) x5_3).f1) < 0 then (some false) else (if ((rd_T53 ((rd_T30 l0_4 x3_1).f1) x5_3).f1) ≥ (l0_0.length : Int) then (some false) else (regletref13_Right.l1 k3 x3_1 (wrap64 (x5_3 + 1)) l0_0 l0_1 a0_2 a0_3 l0_4 ((rd_T30 l0_4 x3_1).f0) ((rd_T30 l0_4 x3_1).f1)))) = some r:=by rw [if_neg (show ¬ (false = true) by decide)] at H;exact H
               clear H
               have H:=H1
               clear H1
               by_cases c32 : ((rd_T53 ((rd_T30 l0_4 x3_1).f1) x5_3).f1) < 0
               · rw [if_pos c32] at H
                 have c32b0 : decide (((rd_T53 ((rd_T30 l0_4 x3_1).f1) x5_3).f1) < 0) = true:=decide_eq_true c32
                 clear c32
                 obtain rfl:=Option.some.inj H
                 have hnb33:=NB226_224.out
                 have hnc33:=NB224_226.out
                 have hcz34_0 : wr.cell? ⟨gb226,0,none⟩ = some (.int .i64 ((rd_T30 l0_4 x3_1).f0)) := (blk_cell BK226.out 0).trans rfl
                 have hcz34_1 : wr.cell? ⟨gb226,1,none⟩ = some (.slice A225_1 ((rd_T30 l0_4 x3_1).f1).length c225_1) := (blk_cell BK226.out 1).trans rfl
                 have hfz34_0:=blk_frozen BK226.out 0
                 have hfz34_1:=blk_frozen BK226.out 1
                 have hcz35_0 : wr.cell? ⟨gb224,0,none⟩ = some (.slice A0_0 l0_0.length c0_0) := (blk_cell BK224.out 0).trans rfl
                 have hcz35_1 : wr.cell? ⟨gb224,1,none⟩ = some (.slice A0_1 l0_1.length c0_1) := (blk_cell BK224.out 1).trans rfl
                 have hcz35_2 : wr.cell? ⟨gb224,2,none⟩ = some (.int .i64 a0_2) := (blk_cell BK224.out 2).trans rfl
                 have hcz35_3 : wr.cell? ⟨gb224,3,none⟩ = some (.int .i64 a0_3) := (blk_cell BK224.out 3).trans rfl
                 have hcz35_4 : wr.cell? ⟨gb224,4,none⟩ = some (.slice (some ad225) l0_4.length c0_4) := (blk_cell BK224.out 4).trans rfl
                 have hfz35_0:=blk_frozen BK224.out 0
                 have hfz35_1:=blk_frozen BK224.out 1
                 have hfz35_2:=blk_frozen BK224.out 2
                 have hfz35_3:=blk_frozen BK224.out 3
                 have hfz35_4:=blk_frozen BK224.out 4
                 have p227 : 0 ≤ (x5_3 : Int) := of_decide_eq_true (by first | (with_reducible assumption) | assumption)
                 have q227 : x5_3 < (((rd_T30 l0_4 x3_1).f1).length : Int) := of_decide_eq_true (by first | (with_reducible assumption) | assumption)
                 obtain ⟨ad227,e227,hx227_0,hx227_1⟩ := at_T53 HR225_1.out x5_3 p227 q227
                 (try rw [← Nbq19.out] at hx227_0)
                 cases e227
                 replace hx227_0:=(HB.out.cell (World.block_lt_of_cell? w _ hx227_0)).trans hx227_0
                 replace hx227_1:=(HB.out.cell (World.block_lt_of_cell? w _ hx227_1)).trans hx227_1
                 replace p227:=eq_true p227
                 replace q227:=eq_true q227
                 have p230 : 0 ≤ (x5_3 : Int) := of_decide_eq_true (by first | (with_reducible assumption) | assumption)
                 have q230 : x5_3 < (((rd_T30 l0_4 x3_1).f1).length : Int) := of_decide_eq_true (by first | (with_reducible assumption) | assumption)
                 obtain ⟨ad230,e230,hx230_0,hx230_1⟩ := at_T53 HR225_1.out x5_3 p230 q230
                 (try rw [← Nbq19.out] at hx230_0)
                 obtain rfl : ad227 = ad230:=(by injection e230)
                 replace hx230_0:=(HB.out.cell (World.block_lt_of_cell? w _ hx230_0)).trans hx230_0
                 replace hx230_1:=(HB.out.cell (World.block_lt_of_cell? w _ hx230_1)).trans hx230_1
                 replace p230:=eq_true p230
                 replace q230:=eq_true q230
                 go_wp2
                 go_ret
                 exact ⟨by first | rfl | (simp [errW_none,errW_some] <;> rfl) | (simp [*,errW_none,errW_some] <;> rfl),by repeat (first | (with_reducible first | exact HB.out | apply below_alloc | apply pw_below_drewN | apply below_drew1 | refine below_set ?_ GE224.out | refine below_set ?_ GE226.out) | exact HB.out)⟩
               · rw [if_neg c32] at H
                 have c32b0 : decide (((rd_T53 ((rd_T30 l0_4 x3_1).f1) x5_3).f1) < 0) = false:=decide_eq_false c32
                 clear c32
                 by_cases c36 : ((rd_T53 ((rd_T30 l0_4 x3_1).f1) x5_3).f1) ≥ (l0_0.length : Int)
                 · rw [if_pos c36] at H
                   have c36b0 : decide ((l0_0.length : Int) ≤ ((rd_T53 ((rd_T30 l0_4 x3_1).f1) x5_3).f1)) = true:=decide_eq_true c36
                   clear c36
                   obtain rfl:=Option.some.inj H
                   have hnb37:=NB226_224.out
                   have hnc37:=NB224_226.out
                   have hcz38_0 : wr.cell? ⟨gb226,0,none⟩ = some (.int .i64 ((rd_T30 l0_4 x3_1).f0)) := (blk_cell BK226.out 0).trans rfl
                   have hcz38_1 : wr.cell? ⟨gb226,1,none⟩ = some (.slice A225_1 ((rd_T30 l0_4 x3_1).f1).length c225_1) := (blk_cell BK226.out 1).trans rfl
                   have hfz38_0:=blk_frozen BK226.out 0
                   have hfz38_1:=blk_frozen BK226.out 1
                   have hcz39_0 : wr.cell? ⟨gb224,0,none⟩ = some (.slice A0_0 l0_0.length c0_0) := (blk_cell BK224.out 0).trans rfl
                   have hcz39_1 : wr.cell? ⟨gb224,1,none⟩ = some (.slice A0_1 l0_1.length c0_1) := (blk_cell BK224.out 1).trans rfl
                   have hcz39_2 : wr.cell? ⟨gb224,2,none⟩ = some (.int .i64 a0_2) := (blk_cell BK224.out 2).trans rfl
                   have hcz39_3 : wr.cell? ⟨gb224,3,none⟩ = some (.int .i64 a0_3) := (blk_cell BK224.out 3).trans rfl
                   have hcz39_4 : wr.cell? ⟨gb224,4,none⟩ = some (.slice (some ad225) l0_4.length c0_4) := (blk_cell BK224.out 4).trans rfl
                   have hfz39_0:=blk_frozen BK224.out 0
                   have hfz39_1:=blk_frozen BK224.out 1
                   have hfz39_2:=blk_frozen BK224.out 2
                   have hfz39_3:=blk_frozen BK224.out 3
                   have hfz39_4:=blk_frozen BK224.out 4
                   have p227 : 0 ≤ (x5_3 : Int) := of_decide_eq_true (by first | (with_reducible assumption) | assumption)
                   have q227 : x5_3 < (((rd_T30 l0_4 x3_1).f1).length : Int) := of_decide_eq_true (by first | (with_reducible assumption) | assumption)
                   obtain ⟨ad227,e227,hx227_0,hx227_1⟩ := at_T53 HR225_1.out x5_3 p227 q227
                   (try rw [← Nbq19.out] at hx227_0)
                   cases e227
                   replace hx227_0:=(HB.out.cell (World.block_lt_of_cell? w _ hx227_0)).trans hx227_0
                   replace hx227_1:=(HB.out.cell (World.block_lt_of_cell? w _ hx227_1)).trans hx227_1
                   replace p227:=eq_true p227
                   replace q227:=eq_true q227
                   have p230 : 0 ≤ (x5_3 : Int) := of_decide_eq_true (by first | (with_reducible assumption) | assumption)
                   have q230 : x5_3 < (((rd_T30 l0_4 x3_1).f1).length : Int) := of_decide_eq_true (by first | (with_reducible assumption) | assumption)
                   obtain ⟨ad230,e230,hx230_0,hx230_1⟩ := at_T53 HR225_1.out x5_3 p230 q230
                   (try rw [← Nbq19.out] at hx230_0)
                   obtain rfl : ad227 = ad230:=(by injection e230)
                   replace hx230_0:=(HB.out.cell (World.block_lt_of_cell? w _ hx230_0)).trans hx230_0
                   replace hx230_1:=(HB.out.cell (World.block_lt_of_cell? w _ hx230_1)).trans hx230_1
                   replace p230:=eq_true p230
                   replace q230:=eq_true q230
                   have p231 : 0 ≤ (x5_3 : Int) := of_decide_eq_true (by first | (with_reducible assumption) | assumption)
                   have q231 : x5_3 < (((rd_T30 l0_4 x3_1).f1).length : Int) := of_decide_eq_true (by first | (with_reducible assumption) | assumption)
                   obtain ⟨ad231,e231,hx231_0,hx231_1⟩ := at_T53 HR225_1.out x5_3 p231 q231
                   (try rw [← Nbq19.out] at hx231_0)
                   obtain rfl : ad227 = ad231:=(by injection e231)
                   replace hx231_0:=(HB.out.cell (World.block_lt_of_cell? w _ hx231_0)).trans hx231_0
                   replace hx231_1:=(HB.out.cell (World.block_lt_of_cell? w _ hx231_1)).trans hx231_1
                   replace p231:=eq_true p231
                   replace q231:=eq_true q231
                   go_wp2
                   go_ret
                   exact ⟨by first | rfl | (simp [errW_none,errW_some] <;> rfl) | (simp [*,errW_none,errW_some] <;> rfl),by repeat (first | (with_reducible first | exact HB.out | apply below_alloc | apply pw_below_drewN | apply below_drew1 | refine below_set ?_ GE224.out | refine below_set ?_ GE226.out) | exact HB.out)⟩
                 · rw [if_neg c36] at H
                   have c36b0 : decide ((l0_0.length : Int) ≤ ((rd_T53 ((rd_T30 l0_4 x3_1).f1) x5_3).f1)) = false:=decide_eq_false c36
                   clear c36
                   have H' := Aside0.mk H
                   clear H
                   have hnb40:=NB226_224.out
                   have hnc40:=NB224_226.out
                   have hcz41_0 : wr.cell? ⟨gb226,0,none⟩ = some (.int .i64 ((rd_T30 l0_4 x3_1).f0)) := (blk_cell BK226.out 0).trans rfl
                   have hcz41_1 : wr.cell? ⟨gb226,1,none⟩ = some (.slice A225_1 ((rd_T30 l0_4 x3_1).f1).length c225_1) := (blk_cell BK226.out 1).trans rfl
                   have hfz41_0:=blk_frozen BK226.out 0
                   have hfz41_1:=blk_frozen BK226.out 1
                   have hcz42_0 : wr.cell? ⟨gb224,0,none⟩ = some (.slice A0_0 l0_0.length c0_0) := (blk_cell BK224.out 0).trans rfl
                   have hcz42_1 : wr.cell? ⟨gb224,1,none⟩ = some (.slice A0_1 l0_1.length c0_1) := (blk_cell BK224.out 1).trans rfl
                   have hcz42_2 : wr.cell? ⟨gb224,2,none⟩ = some (.int .i64 a0_2) := (blk_cell BK224.out 2).trans rfl
                   have hcz42_3 : wr.cell? ⟨gb224,3,none⟩ = some (.int .i64 a0_3) := (blk_cell BK224.out 3).trans rfl
                   have hcz42_4 : wr.cell? ⟨gb224,4,none⟩ = some (.slice (some ad225) l0_4.length c0_4) := (blk_cell BK224.out 4).trans rfl
                   have hfz42_0:=blk_frozen BK224.out 0
                   have hfz42_1:=blk_frozen BK224.out 1
                   have hfz42_2:=blk_frozen BK224.out 2
                   have hfz42_3:=blk_frozen BK224.out 3
                   have hfz42_4:=blk_frozen BK224.out 4
                   have p227 : 0 ≤ (x5_3 : Int) := of_decide_eq_true (by first | (with_reducible assumption) | assumption)
                   have q227 : x5_3 < (((rd_T30 l0_4 x3_1).f1).length : Int) := of_decide_eq_true (by first | (with_reducible assumption) | assumption)
                   obtain ⟨ad227,e227,hx227_0,hx227_1⟩ := at_T53 HR225_1.out x5_3 p227 q227
                   (try rw [← Nbq19.out] at hx227_0)
                   cases e227
                   replace hx227_0:=(HB.out.cell (World.block_lt_of_cell? w _ hx227_0)).trans hx227_0
                   replace hx227_1:=(HB.out.cell (World.block_lt_of_cell? w _ hx227_1)).trans hx227_1
                   replace p227:=eq_true p227
                   replace q227:=eq_true q227
                   have p230 : 0 ≤ (x5_3 : Int) := of_decide_eq_true (by first | (with_reducible assumption) | assumption)
                   have q230 : x5_3 < (((rd_T30 l0_4 x3_1).f1).length : Int) := of_decide_eq_true (by first | (with_reducible assumption) | assumption)
                   obtain ⟨ad230,e230,hx230_0,hx230_1⟩ := at_T53 HR225_1.out x5_3 p230 q230
                   (try rw [← Nbq19.out] at hx230_0)
                   obtain rfl : ad227 = ad230:=(by injection e230)
                   replace hx230_0:=(HB.out.cell (World.block_lt_of_cell? w _ hx230_0)).trans hx230_0
                   replace hx230_1:=(HB.out.cell (World.block_lt_of_cell? w _ hx230_1)).trans hx230_1
                   replace p230:=eq_true p230
                   replace q230:=eq_true q230
                   have p231 : 0 ≤ (x5_3 : Int) := of_decide_eq_true (by first | (with_reducible assumption) | assumption)
                   have q231 : x5_3 < (((rd_T30 l0_4 x3_1).f1).length : Int) := of_decide_eq_true (by first | (with_reducible assumption) | assumption)
                   obtain ⟨ad231,e231,hx231_0,hx231_1⟩ := at_T53 HR225_1.out x5_3 p231 q231
                   (try rw [← Nbq19.out] at hx231_0)
                   obtain rfl : ad227 = ad231:=(by injection e231)
                   replace hx231_0:=(HB.out.cell (World.block_lt_of_cell? w _ hx231_0)).trans hx231_0
                   replace hx231_1:=(HB.out.cell (World.block_lt_of_cell? w _ hx231_1)).trans hx231_1
                   replace p231:=eq_true p231
                   replace q231:=eq_true q231
                   go_wp2
                   go_roundg k3
                   case measure => have:=HK1.out;have:=HJ4.out;have:=HK3.out;omega
                   case rel => exact ⟨(wrap64 (x5_3 + 1)),(by first | rfl | (simp;done) | (simp [*];done)),H',⟨by have:=HK1.out;have:=HJ4.out;have:=HK3.out;omega⟩,⟨by (with_reducible repeat (first | refine blk_drewN ?_ _ | refine blk_drew ?_ | refine blk_alloc ?_ _));exact BK224.out⟩,⟨by (with_reducible repeat (first | refine blk_drewN ?_ _ | refine blk_drew ?_ | refine blk_alloc ?_ _));exact BK226.out⟩,⟨by repeat (first | (with_reducible first | exact HB.out | apply below_alloc | apply pw_below_drewN | apply below_drew1 | refine below_set ?_ GE224.out | refine below_set ?_ GE226.out) | exact HB.out)⟩⟩
           · rw [if_neg c17] at H
             have c17b0 : decide (x5_3 < (((rd_T30 l0_4 x3_1).f1).length : Int)) = false:=decide_eq_false c17
             clear c17
             have H' := Aside0.mk H
             clear H
             have hnb43:=NB226_224.out
             have hnc43:=NB224_226.out
             have hcz44_0 : wr.cell? ⟨gb226,0,none⟩ = some (.int .i64 ((rd_T30 l0_4 x3_1).f0)) := (blk_cell BK226.out 0).trans rfl
             have hcz44_1 : wr.cell? ⟨gb226,1,none⟩ = some (.slice A225_1 ((rd_T30 l0_4 x3_1).f1).length c225_1) := (blk_cell BK226.out 1).trans rfl
             have hfz44_0:=blk_frozen BK226.out 0
             have hfz44_1:=blk_frozen BK226.out 1
             go_wp2
             go_roundg k3
             case measure => have:=HK1.out;have:=HJ4.out;have:=HK3.out;omega
             case rel => exact ⟨(wrap64 (x3_1 + 1)),(by first | rfl | (simp;done) | (simp [*];done)),H',⟨by have:=HK1.out;have:=HJ4.out;have:=HK3.out;omega⟩,⟨by (with_reducible repeat (first | refine blk_drewN ?_ _ | refine blk_drew ?_ | refine blk_alloc ?_ _));exact BK224.out⟩,⟨by repeat (first | (with_reducible first | exact HB.out | apply below_alloc | apply pw_below_drewN | apply below_drew1 | refine below_set ?_ GE224.out | refine below_set ?_ GE226.out) | exact HB.out)⟩⟩
   · rw [if_neg c3] at H
     have c3b0 : decide (x3_1 < (l0_4.length : Int)) = false:=decide_eq_false c3
     clear c3
     obtain rfl:=Option.some.inj H
     have hcz45_0 : wr.cell? ⟨gb224,0,none⟩ = some (.slice A0_0 l0_0.length c0_0) := (blk_cell BK224.out 0).trans rfl
     have hcz45_1 : wr.cell? ⟨gb224,1,none⟩ = some (.slice A0_1 l0_1.length c0_1) := (blk_cell BK224.out 1).trans rfl
     have hcz45_2 : wr.cell? ⟨gb224,2,none⟩ = some (.int .i64 a0_2) := (blk_cell BK224.out 2).trans rfl
     have hcz45_3 : wr.cell? ⟨gb224,3,none⟩ = some (.int .i64 a0_3) := (blk_cell BK224.out 3).trans rfl
     have hcz45_4 : wr.cell? ⟨gb224,4,none⟩ = some (.slice A0_4 l0_4.length c0_4) := (blk_cell BK224.out 4).trans rfl
     have hfz45_0:=blk_frozen BK224.out 0
     have hfz45_1:=blk_frozen BK224.out 1
     have hfz45_2:=blk_frozen BK224.out 2
     have hfz45_3:=blk_frozen BK224.out 3
     have hfz45_4:=blk_frozen BK224.out 4
     go_wp2
     go_ret
     exact ⟨by first | rfl | (simp [errW_none,errW_some] <;> rfl) | (simp [*,errW_none,errW_some] <;> rfl),by repeat (first | (with_reducible first | exact HB.out | apply below_alloc | apply pw_below_drewN | apply below_drew1 | refine below_set ?_ GE224.out) | exact HB.out)⟩
def regletref13_marks.l0 : Nat → List (List Bool) → Int → List ByteArray → List (S61) → Int → Int → List (S30) → Option ((List (List Bool)))
  | 0,_,_,_,_,_,_,_ => none
  | k + 1,x3,x4,x233000,x233001,x233002,x233003,x233004 => if x4 < (x233000.length : Int) then (if 0 ≤ (wrap64 ((x233001.length : Int) + 1)) then (if (wrap64 ((x233001.length : Int) + 1) : Int).toNat ≤ 281474976710656 then (if x3.length < 5864062014805 then (regletref13_marks.l0 k (x3 ++ [(List.replicate (wrap64 ((x233001.length : Int) + 1) : Int).toNat false)]) (wrap64 (x4 + 1)) x233000 x233001 x233002 x233003 x233004) else (none)) else (none)) else (none)) else (some x3)
def regletref13_marks.f (k : Nat) (l0_0 : List ByteArray) (l0_1 : List (S61)) (a0_2 : Int) (a0_3 : Int) (l0_4 : List (S30)) : Option ((List (List Bool))) := regletref13_marks.l0 k ([] : List (List Bool)) 0 l0_0 l0_1 a0_2 a0_3 l0_4
set_option maxHeartbeats 8000000 in
set_option maxRecDepth 100000 in
theorem regletref13_marks.calls (k : Nat) (A0_0 : Option Addr) (c0_0 : Nat) (l0_0 : List ByteArray) (A0_1 : Option Addr) (c0_1 : Nat) (l0_1 : List (S61)) (a0_2 : Int) (a0_3 : Int) (A0_4 : Option Addr) (c0_4 : Nat) (l0_4 : List (S30)) (r : List (List Bool)) (w : World) (hr0_0 : Kd.C Kd.string w A0_0 l0_0.length l0_0) (hc0_0 : l0_0.length ≤ c0_0) (hr0_1 : Kd.C k61 w A0_1 l0_1.length l0_1) (hc0_1 : l0_1.length ≤ c0_1) (hr0_4 : Kd.C k30 w A0_4 l0_4.length l0_4) (hc0_4 : l0_4.length ≤ c0_4) (h : regletref13_marks.f k l0_0 l0_1 a0_2 a0_3 l0_4 = some r) :
    Calls Try.prog 26 #[.agg #[.slice A0_0 l0_0.length c0_0,.slice A0_1 l0_1.length c0_1,.int .i64 a0_2,.int .i64 a0_3,.slice A0_4 l0_4.length c0_4]] w fun e w' => ∃ v0_ : Value,e = .returned (v0_) ∧ Kd.S (Kd.slice 4 Kd.bool) 65 w' w.heap.size (fun _ => True) v0_ r ∧ Below w.heap.size w w' := by
 have hu26:=Try.underlying26
 have HR0_0:=Aside0.mk hr0_0
 have HC0_0:=Aside0.mk hc0_0
 clear hr0_0 hc0_0
 have HR0_1:=Aside0.mk hr0_1
 have HC0_1:=Aside0.mk hc0_1
 clear hr0_1 hc0_1
 have HR0_4:=Aside0.mk hr0_4
 have HC0_4:=Aside0.mk hc0_4
 clear hr0_4 hc0_4
 have HB:=Aside0.mk (Below.refl w.heap.size w)
 have H : (regletref13_marks.l0 k ([] : List (List Bool)) 0 l0_0 l0_1 a0_2 a0_3 l0_4) = some r:=h
 clear h
 have H' := Aside0.mk H
 clear H
 go_enter Try.func26,Try.ntmps26
 go_wp2_with (first | ((with_reducible refine gate_dst (N:=1) rfl ?_);refine box_event ?hg (N:=1) ?hd (cs:=#[.slice A0_0 l0_0.length c0_0,.slice A0_1 l0_1.length c0_1,.int .i64 a0_2,.int .i64 a0_3,.slice A0_4 l0_4.length c0_4]) (t:=26) ?hr ?_;(case hd => rfl);(case hg => rfl);(case hr => first | (go_simp;done) | (go_simp;rfl));intro gb232 hg w2 hbox hb;have n0_:=Aside0.mk (below_step (by repeat (first | (with_reducible first | exact HB.out | apply below_alloc | apply pw_below_drewN | apply below_drew1) | exact HB.out)) hb);have n1_:=Aside0.mk (hbox);have n2_:=Aside0.mk ((by rw [hg];exact (below_size (by repeat (first | (with_reducible first | exact HB.out | apply below_alloc | apply pw_below_drewN | apply below_drew1) | exact HB.out))) : w.heap.size ≤ gb232));have n3_:=Aside0.mk ((by rw [hg];exact (below_size (by repeat (first | (with_reducible first | exact HB.out | apply below_alloc | apply pw_below_drewN | apply below_drew1) | exact HB.out))) : w.heap.size ≤ gb232));clear HB;have HB:=n0_;have BK232:=n1_;have GW232:=n2_;have GE232:=n3_;clear n0_ n1_ n2_ n3_;clear hb hbox hg))
 go_loopg [3,4] k (fun kq v3 v4 w' => ∃ (x3_1 : List (List Bool)) (x4_1 : Int),v4 = .int .i64 x4_1 ∧ Aside0 (regletref13_marks.l0 kq x3_1 x4_1 l0_0 l0_1 a0_2 a0_3 l0_4 = some r) ∧ Aside0 (kq ≤ k) ∧ Aside0 (Kd.S (Kd.slice 4 Kd.bool) 65 w' w.heap.size (fun _ => True) v3 x3_1) ∧ Aside0 (w'.heap[gb232]? = some (.cells #[(.slice A0_0 l0_0.length c0_0),(.slice A0_1 l0_1.length c0_1),.int .i64 a0_2,.int .i64 a0_3,(.slice A0_4 l0_4.length c0_4)] 26 (0,0))) ∧ Aside0 (Below w.heap.size w w'))
 case atStart => exact ⟨(([] : List (List Bool))),(0),(by first | rfl | (simp;done) | (simp [*];done)),H',⟨Nat.le_refl _⟩,⟨by first | exact Kd.S_nil _ _ _ _ _ | exact Kd.N_nil _ _ _ _ _ | exact Kd.V_nil _ _ _ _ _ | exact Kd.Q_nil _ _ _ _ _ | exact Kd.R_nil _ _ _ _ _⟩,⟨by (with_reducible repeat (first | refine blk_drewN ?_ _ | refine blk_drew ?_ | refine blk_alloc ?_ _));exact BK232.out⟩,⟨by repeat (first | (with_reducible first | exact HB.out | apply below_alloc | apply pw_below_drewN | apply below_drew1 | refine below_set ?_ GE232.out) | exact HB.out)⟩⟩
 case round =>
  clear H'
  (try clear c2);(try clear p2)
  obtain ⟨x3_1,x4_1,rfl,HA,HK1,HO_3,BK232,HB⟩ := hrel
  cases gk with
  | zero => exact absurd HA.out (by simp [regletref13_marks.l0])
  | succ k1 =>
   have H:=HA.out
   clear HA
   simp only [regletref13_marks.l0] at H
   by_cases c3 : x4_1 < (l0_0.length : Int)
   · rw [if_pos c3] at H
     have c3b0 : decide (x4_1 < (l0_0.length : Int)) = true:=decide_eq_true c3
     clear c3
     obtain ⟨ji4,hji4⟩ : ∃ j_ : Int,(wrap64 ((l0_1.length : Int) + 1)) = j_:=⟨_,rfl⟩
     replace H : (if 0 ≤ (ji4) then (if (ji4 : Int).toNat ≤ 281474976710656 then (if x3_1.length < 5864062014805 then (regletref13_marks.l0 k1 (x3_1 ++ [(List.replicate (ji4 : Int).toNat false)]) (wrap64 (x4_1 + 1)) l0_0 l0_1 a0_2 a0_3 l0_4) else (none)) else (none)) else (none)) = some r:=by first | (rw [hji4] at H;exact H) | (simp only [hji4] at H ⊢;exact H)
     have hji4w : (IntKind.i64.wrap ((l0_1.length : Int) + 1)) = ji4:=(i64_w _).trans hji4
     by_cases c5 : 0 ≤ (ji4)
     rotate_left
     · rw [if_neg c5] at H
       exact absurd H (by simp)
     rw [if_pos c5] at H
     have c5b0:=eq_true c5
     have c5b1 : decide (0 ≤ (ji4)) = true:=decide_eq_true c5
     clear c5
     by_cases c6 : (ji4 : Int).toNat ≤ 281474976710656
     rotate_left
     · rw [if_neg c6] at H
       exact absurd H (by simp)
     rw [if_pos c6] at H
     have c6b0:=eq_true c6
     have c6b1 : decide ((ji4 : Int).toNat ≤ 281474976710656) = true:=decide_eq_true c6
     clear c6
     obtain ⟨y233,hy233⟩ : ∃ y_ : List Bool,y_ = (List.replicate (ji4 : Int).toNat false) := ⟨_,rfl⟩
     replace H : (if x3_1.length < 5864062014805 then (regletref13_marks.l0 k1 (x3_1 ++ [y233]) (wrap64 (x4_1 + 1)) l0_0 l0_1 a0_2 a0_3 l0_4) else (none)) = some r:=by first | (rw [hy233];with_reducible exact H) | (have H2_:=(Option.bind_some _ _).symm.trans H;rw [hy233];with_reducible exact H2_) | (have H2_:=(Option.bind_some _ _).symm.trans H;with_reducible exact H2_) | with_reducible exact H | (rw [hy233];exact H) | exact H
     have Ny233:=Aside0.mk hy233
     clear hy233
     by_cases c7 : x3_1.length < 5864062014805
     rotate_left
     · rw [if_neg c7] at H
       exact absurd H (by simp)
     rw [if_pos c7] at H
     have LMc7:=Aside0.mk c7
     clear c7
     obtain ⟨y236,hy236⟩ : ∃ y_ : List (List Bool),y_ = (x3_1 ++ [y233]) := ⟨_,rfl⟩
     replace H : (regletref13_marks.l0 k1 y236 (wrap64 (x4_1 + 1)) l0_0 l0_1 a0_2 a0_3 l0_4) = some r:=by first | (rw [hy236];with_reducible exact H) | (have H2_:=(Option.bind_some _ _).symm.trans H;rw [hy236];with_reducible exact H2_) | (have H2_:=(Option.bind_some _ _).symm.trans H;with_reducible exact H2_) | with_reducible exact H | (rw [hy236];exact H) | exact H
     have Ny236:=Aside0.mk hy236
     clear hy236
     have H' := Aside0.mk H
     clear H
     have hcz8_0 : wr.cell? ⟨gb232,0,none⟩ = some (.slice A0_0 l0_0.length c0_0) := (blk_cell BK232.out 0).trans rfl
     have hcz8_1 : wr.cell? ⟨gb232,1,none⟩ = some (.slice A0_1 l0_1.length c0_1) := (blk_cell BK232.out 1).trans rfl
     have hcz8_2 : wr.cell? ⟨gb232,2,none⟩ = some (.int .i64 a0_2) := (blk_cell BK232.out 2).trans rfl
     have hcz8_3 : wr.cell? ⟨gb232,3,none⟩ = some (.int .i64 a0_3) := (blk_cell BK232.out 3).trans rfl
     have hcz8_4 : wr.cell? ⟨gb232,4,none⟩ = some (.slice A0_4 l0_4.length c0_4) := (blk_cell BK232.out 4).trans rfl
     have hfz8_0:=blk_frozen BK232.out 0
     have hfz8_1:=blk_frozen BK232.out 1
     have hfz8_2:=blk_frozen BK232.out 2
     have hfz8_3:=blk_frozen BK232.out 3
     have hfz8_4:=blk_frozen BK232.out 4
     go_wp2_with (first | ((with_reducible refine gate_dst (N:=17) rfl ?_);refine Kd.R_make Kd.bool _ 4 rfl (N:=17) rfl 65 _ _ rfl ji4 rfl rfl Try.underlying65 (.bool false) 1 info4 rfl (by decide) (by omega) false (ok:=fun _ => True) (okp:=fun _ => True) rfl (fun _ hk => hk) trivial (of_decide_eq_true (by first | (with_reducible assumption) | assumption)) (Nat.le_trans (Nat.mul_le_mul_right _ (of_decide_eq_true (by first | (with_reducible assumption) | assumption) : ji4.toNat ≤ 281474976710656)) (by omega)) (Below.refl _ _) (Nat.le_refl _) ?_;intro v234 w9 ho10 hb hg_ hnew_;clear hg_ hnew_;(first | rw [← Ny233.out] at ho10 | (simp only [Int.reduceToNat] at ho10;rw [← Ny233.out] at ho10));have n0_:=Aside0.mk (Kd.S_elder' (by (with_reducible repeat (first | apply Kd.S_alloc | apply Kd.S_drewN | apply Kd.S_drew));exact HO_3.out) (Kd.R_base ho10) hb);have n1_:=Aside0.mk (Kd.R_lower ho10 (below_size (by repeat (first | (with_reducible first | exact HB.out | apply below_alloc | apply pw_below_drewN | apply below_drew1 | refine below_set ?_ GE232.out) | exact HB.out))));have n2_:=Aside0.mk (blk_below (g:=gb232) (o := .cells #[.slice A0_0 l0_0.length c0_0,.slice A0_1 l0_1.length c0_1,.int .i64 a0_2,.int .i64 a0_3,.slice A0_4 l0_4.length c0_4] 26 (0,0)) (by (with_reducible repeat (first | refine blk_drewN ?_ _ | refine blk_drew ?_ | refine blk_alloc ?_ _));exact BK232.out) hb);have n3_:=Aside0.mk (below_step (by repeat (first | (with_reducible first | exact HB.out | apply below_alloc | apply pw_below_drewN | apply below_drew1 | refine below_set ?_ GE232.out) | exact HB.out)) hb);clear HO_3;clear BK232;clear HB;have HO_3:=n0_;have HO235:=n1_;have BK232:=n2_;have HB:=n3_;clear n0_ n1_ n2_ n3_;clear hb ho10;obtain ⟨Ao12,co12,eo12⟩ := Kd.R_slice HO235.out;subst eo12) | ((with_reducible refine gate_builtin (b := .append) (xs:=#[.tmp 12,.tmp 18]) rfl ?_);at_builtin;refine Kd.S_append (Kd.slice 4 Kd.bool) (w0:=w) w.heap.size rfl (.tmp 12) (.tmp 18) 62 65 (.slice none 0 0) 24 rfl Try.underlying62 info65 rfl (by decide) (by omega) u3 x3_1 y233 [.slice Ao12 y233.length co12] (fun _ => True) (fun k_ => some k_ = (.slice Ao12 y233.length co12 : Value).ownBlock) rfl rfl ?aP (fun k_ hk_ => ((Kd.R_mono (ok' := fun k_ => ((fun _ => True)) k_ ∧ some k_ ≠ (u3 : Value).ownBlock) (Kd.R_apart' (HO235.out) (Kd.S_typed HO_3.out) (by decide)) (fun k_ hk => ⟨trivial,hk.2⟩))).1 k_ hk_.symm) ?aF ?aO ?aB ?aS ?aL ?_;(case aP => exact Kd.M_row (Kd.R_mono (Kd.R_tight rfl (Kd.R_mono (ok' := fun k_ => ((fun _ => True)) k_ ∧ some k_ ≠ (u3 : Value).ownBlock) (Kd.R_apart' (HO235.out) (Kd.S_typed HO_3.out) (by decide)) (fun k_ hk => ⟨trivial,hk.2⟩))) (fun _ h_ => h_)));(case aB => exact (by repeat (first | (with_reducible first | exact HB.out | apply below_alloc | apply pw_below_drewN | apply below_drew1 | refine below_set ?_ GE232.out) | exact HB.out)));(case aF => exact (fun _ _ => trivial));(case aO => exact (by (with_reducible repeat (first | apply Kd.S_alloc | apply Kd.S_drewN | apply Kd.S_drew));exact Kd.S_mono HO_3.out (fun k_ hk => ⟨trivial,fun e_ => hk.2 e_⟩)));(case aS => exact (below_size (by repeat (first | (with_reducible first | exact HB.out | apply below_alloc | apply pw_below_drewN | apply below_drew1 | refine below_set ?_ GE232.out) | exact HB.out))));(case aL => have:=LMc7.out;omega);intro v237 w11 ho hb hg hat;rw [← Ny236.out] at ho;have n0_:=Aside0.mk (blk_grown (g:=gb232) (o := .cells #[.slice A0_0 l0_0.length c0_0,.slice A0_1 l0_1.length c0_1,.int .i64 a0_2,.int .i64 a0_3,.slice A0_4 l0_4.length c0_4] 26 (0,0)) (by (with_reducible repeat (first | refine blk_drewN ?_ _ | refine blk_drew ?_ | refine blk_alloc ?_ _));exact BK232.out) hg (Kd.S_ne HO_3.out BK232.out (by decide)));have n1_:=Aside0.mk (hb);have n2_:=Aside0.mk (ho);clear BK232;clear HB;clear HO_3;clear HO235;have BK232:=n0_;have HB:=n1_;have HO238:=n2_;clear n0_ n1_ n2_;clear ho hb hg hat))
     go_roundg k1
     case measure => have:=HK1.out;omega
     case rel => exact ⟨(y236),(wrap64 (x4_1 + 1)),(by first | rfl | (simp;done) | (simp [*];done)),H',⟨by have:=HK1.out;omega⟩,⟨by (with_reducible repeat (first | apply Kd.S_alloc | apply Kd.S_drewN | apply Kd.S_drew));exact HO238.out⟩,⟨by (with_reducible repeat (first | refine blk_drewN ?_ _ | refine blk_drew ?_ | refine blk_alloc ?_ _));exact BK232.out⟩,⟨by repeat (first | (with_reducible first | exact HB.out | apply below_alloc | apply pw_below_drewN | apply below_drew1 | refine below_set ?_ GE232.out) | exact HB.out)⟩⟩
   · rw [if_neg c3] at H
     have c3b0 : decide (x4_1 < (l0_0.length : Int)) = false:=decide_eq_false c3
     clear c3
     obtain rfl:=Option.some.inj H
     have hcz13_0 : wr.cell? ⟨gb232,0,none⟩ = some (.slice A0_0 l0_0.length c0_0) := (blk_cell BK232.out 0).trans rfl
     have hcz13_1 : wr.cell? ⟨gb232,1,none⟩ = some (.slice A0_1 l0_1.length c0_1) := (blk_cell BK232.out 1).trans rfl
     have hcz13_2 : wr.cell? ⟨gb232,2,none⟩ = some (.int .i64 a0_2) := (blk_cell BK232.out 2).trans rfl
     have hcz13_3 : wr.cell? ⟨gb232,3,none⟩ = some (.int .i64 a0_3) := (blk_cell BK232.out 3).trans rfl
     have hcz13_4 : wr.cell? ⟨gb232,4,none⟩ = some (.slice A0_4 l0_4.length c0_4) := (blk_cell BK232.out 4).trans rfl
     have hfz13_0:=blk_frozen BK232.out 0
     have hfz13_1:=blk_frozen BK232.out 1
     have hfz13_2:=blk_frozen BK232.out 2
     have hfz13_3:=blk_frozen BK232.out 3
     have hfz13_4:=blk_frozen BK232.out 4
     go_wp2
     go_ret
     exact ⟨_,by first | rfl | (simp [errW_none,errW_some] <;> rfl) | (simp [*,errW_none,errW_some] <;> rfl),by (with_reducible repeat (first | apply Kd.S_alloc | apply Kd.S_drewN | apply Kd.S_drew));exact HO_3.out,by repeat (first | (with_reducible first | exact HB.out | apply below_alloc | apply pw_below_drewN | apply below_drew1 | refine below_set ?_ GE232.out) | exact HB.out)⟩
end Go.Proofs.Ytfdcfihcfegekaa.P
end

section
namespace Go.Proofs.Ytfdcfihcfegekaa.R
open Go.RowKit Go.Proofs.YtfdcfihcfegekaaW.PrintWords Go.Proofs.YtfdcfihcfegekaaW.PrintLast Go.Proofs.YtfdcfihcfegekaaW.PrintMore
variable {α : Type} {d : Kd α} {t e : Nat} {w : World} {base n cap : Nat} {ok : Nat → Prop} {A : Option Addr} {v : Value} {m : List (List α)}
theorem S_row (hE : d.E = []) (h : Kd.S (Kd.slice t d) e w base ok (.slice A n cap) m) (i : Int) (h0 : 0 ≤ i) (h1 : i < m.length) :
    ∃ (g : Nat) (v : Value) (P : Nat → Prop),A = some ⟨g,0,none⟩ ∧ w.cell? ⟨g,i.toNat,none⟩ = some v ∧ d.R t w base P v (m.getD i.toNat []) ∧ (∀ k,P k → ok k ∧ k ≠ g) ∧
      ∀ (w1 : World) (P' : Nat → Prop) (row' : List α),Kept w w1 P → d.R t w1 base P' v row' → Kd.S (Kd.slice t d) e w1 base ok (.slice A n cap) (m.set i.toNat row') := by
 obtain ⟨g,cap',hv,_⟩ := Kd.S_form h (by omega)
 injection hv with hA hn hc
 subst hA
 subst hn
 subst hc
 obtain ⟨oki,c,hcl,hM,hcell,hoki,hH⟩ := Kd.S_lend h ([] : List α) i h0 h1
 obtain ⟨v,rfl,hR⟩ := hM
 refine ⟨g,v,oki,rfl,?_,hR,hoki,fun w1 P' row' hk hR' => ?_⟩
 · have:=hcell 0 v rfl
   rwa [show (Kd.slice t d).sz = 1 from rfl,Nat.mul_one,Nat.add_zero] at this
 · have hH' := Kd.H_step hH (fun k _ hn hlt => hk.2 k hlt hn)
   exact Kd.H_back hH' (Kd.M_row (Kd.R_tight hE hR')) (fun k hk' => hR.1 k hk'.symm)
theorem at_rows {xs : List (List α)} (h : Kd.C (Kd.slice t d) w A n xs) (i : Int) (h0 : 0 ≤ i) (h1 : i < n) : ∃ ad A0 c0,A = some ad ∧ w.cell? (ad.add i.toNat) = some (.slice A0 (xs.getD i.toNat []).length c0) ∧ (xs.getD i.toNat []).length ≤ c0 ∧ d.C w A0 (xs.getD i.toNat []).length (xs.getD i.toNat []) := by
 obtain ⟨ad,c,e,_,hK,hc0⟩ := Kd.C_get h ([] : List α) i h0 h1
 have hc : ∀ j u,c[j]? = some u → w.cell? (ad.add (i.toNat * 1 + j)) = some u:=hc0
 obtain ⟨A0,c0,rfl,l0,g0⟩ := hK
 exact ⟨ad,A0,c0,e,by have hq:=hc 0 _ rfl;rwa [Nat.mul_one,Nat.add_zero] at hq,l0,g0⟩
theorem S_put {g : Nat} {okv : Nat → Prop} {row : List α} (hE : d.E = []) (hte : t ≠ e) (h : Kd.S (Kd.slice t d) e w base (fun k => some k ≠ v.ownBlock) (.slice (some ⟨g,0,none⟩) n cap) m) (hR : d.R t w base okv v row) (i : Int) (h0 : 0 ≤ i) (h1 : i < m.length) :
    Kd.S (Kd.slice t d) e (w.setCell ⟨g,i.toNat,none⟩ v) base (fun _ => True) (.slice (some ⟨g,0,none⟩) n cap) (m.set i.toNat row) ∧ w.grownBy (w.setCell ⟨g,i.toNat,none⟩ v) (some g) ∧ ∃ u,w.cell? ⟨g,i.toNat,none⟩ = some u ∧ w.frozen? ⟨g,i.toNat,none⟩ = false:=by
 have hn:=(Kd.S_reads' h).1
 subst hn
 have HX : Kd.S (Kd.slice t d) e w base (fun k_ => ((fun _ => True)) k_ ∧ ¬ ((fun k_ => some k_ = (v : Value).ownBlock)) k_) (.slice (some ⟨g,0,none⟩) m.length cap) m:=Kd.S_mono h (fun k_ hk => ⟨trivial,fun e_ => hk e_⟩)
 obtain ⟨oki,ce,hcl,hM,hcc,hfr,hoki,hH⟩ := Kd.S_elem HX ([] : List α) i h0 h1
 obtain ⟨ve,rfl,ge⟩ := hM
 have hR' : d.R t w base (fun k => True ∧ k ≠ g) v row:=Kd.R_mono (ok' := fun k_ => True ∧ k_ ≠ g) (Kd.R_apart' hR (Kd.S_typed h) (by rw [hE];simpa using hte)) (fun k_ hk => ⟨trivial,fun e_ => hk.2 (by rw [e_];rfl)⟩)
 have HP:=Kd.S_seg hH h0 h1 (seg := [v]) (j:=0) (show 1 ≤ 1 from by decide) (x' := row) (Kd.M_row (Kd.R_mono (Kd.R_tight hE hR') (fun _ h_ => Or.inr (h_)))) (fun _ hk => hk) (fun k_ hk_ => hR'.1 k_ hk_.symm)
 have hx:=hcc 0 _ rfl
 have hf:=hfr 0
 simp only [show (Kd.slice t d).sz = 1 from rfl,Nat.mul_one,Nat.add_zero] at hx hf HP
 exact ⟨HP.1,HP.2,ve,hx,hf⟩
end Go.Proofs.Ytfdcfihcfegekaa.R
end

section
namespace Go.Proofs.Ytfdcfihcfegekaa.P
open Go.RowKit Go.Proofs.YtfdcfihcfegekaaW.PrintWords Go.Proofs.YtfdcfihcfegekaaW.PrintLast Go.Proofs.YtfdcfihcfegekaaW.PrintMore
attribute [local go_sem] max2_int min2_int max_two min_two max_three min_three max_four min_four   -- for this text's walks alone
set_option linter.unusedVariables false
set_option linter.unusedSimpArgs false
def regletref13_join.l0 : Nat → List Bool → List Bool → Bool → Int → Option (Bool × List Bool)
  | 0,_,_,_,_ => none
  | k + 1,x0,x1,x5,x6 => if x6 < (x0.length : Int) then (if x5 = true then (if 0 ≤ x6 then (if rdOf false x0 x6 = true then (regletref13_join.l0 k (x0.set (x6 : Int).toNat true) x1 true (wrap64 (x6 + 1))) else (if x6 < (x1.length : Int) then (regletref13_join.l0 k (x0.set (x6 : Int).toNat (rdOf false x1 x6)) x1 true (wrap64 (x6 + 1))) else (none))) else (none)) else (if 0 ≤ x6 then (if x6 < (x1.length : Int) then (if rdOf false x1 x6 = true then (if rdOf false x0 x6 = true then (regletref13_join.l0 k (x0.set (x6 : Int).toNat true) x1 (!(rdOf false x0 x6)) (wrap64 (x6 + 1))) else (regletref13_join.l0 k (x0.set (x6 : Int).toNat (rdOf false x1 x6)) x1 (!(rdOf false x0 x6)) (wrap64 (x6 + 1)))) else (if rdOf false x0 x6 = true then (regletref13_join.l0 k (x0.set (x6 : Int).toNat true) x1 false (wrap64 (x6 + 1))) else (regletref13_join.l0 k (x0.set (x6 : Int).toNat (rdOf false x1 x6)) x1 false (wrap64 (x6 + 1))))) else (none)) else (none))) else (some (x5,x0))
def regletref13_join.f (k : Nat) (l0 : List Bool) (l1 : List Bool) : Option (Bool × List Bool) := regletref13_join.l0 k l0 l1 false 0
set_option maxHeartbeats 8000000 in
set_option maxRecDepth 100000 in
theorem regletref13_join.calls (k : Nat) (P0_ : Nat → Prop) (u9000_ : Value) (l0 : List Bool) (A1 : Option Addr) (c1 : Nat) (l1 : List Bool) (r1 : Bool) (r2 : List Bool) (w0 w : World) (hB : Below w0.heap.size w0 w) (ho0 : Kd.R Kd.bool 4 w w0.heap.size P0_ u9000_ l0) (hr1 : ∀ W_,Kept w W_ (fun k_ => P0_ k_) → Kd.C Kd.bool W_ A1 l1.length l1) (hc1 : l1.length ≤ c1) (h : regletref13_join.f k l0 l1 = some (r1,r2)) :
    Calls Try.prog 30 #[u9000_,.slice A1 l1.length c1] w fun e w' => e = .returned (.bool r1) ∧ Kd.R Kd.bool 4 w' w0.heap.size (fun k_ => (P0_ k_ ∨ w.heap.size ≤ k_)) u9000_ r2 ∧ Below w0.heap.size w0 w' ∧ Kept w w' (fun k_ => P0_ k_) := by
 have HO0:=Aside0.mk (show Kd.R Kd.bool 4 w w0.heap.size (fun k_ => (P0_ k_ ∨ w.heap.size ≤ k_)) u9000_ l0 from Kd.R_mono ho0 (fun k_ hk => (.inl hk)))
 have HR1:=Aside0.mk hr1
 have HC1:=Aside0.mk hc1
 clear hr1 hc1
 have HK:=Aside0.mk (Kept.refl w (fun k_ => P0_ k_))
 have HW0:=Aside0.mk hB.size
 have HB:=Aside0.mk hB
 clear hB
 have H : (regletref13_join.l0 k l0 l1 false 0) = some (r1,r2) := h
 clear h
 have H' := Aside0.mk H
 clear H
 go_enter Try.func30,Try.ntmps30
 go_wp2
 go_loopg [5,6] k (fun kq v5 v6 w' => ∃ (x0_1 : List Bool) (x5_1 : Bool) (x6_1 : Int),v5 = .bool x5_1 ∧ v6 = .int .i64 x6_1 ∧ Aside0 (regletref13_join.l0 kq x0_1 l1 x5_1 x6_1 = some (r1,r2)) ∧ Aside0 (kq ≤ k) ∧ Aside0 (Kd.R Kd.bool 4 w' w0.heap.size (fun k_ => (P0_ k_ ∨ w.heap.size ≤ k_)) u9000_ x0_1) ∧ Aside0 (Kept w w' (fun k_ => P0_ k_)) ∧ Aside0 (Below w0.heap.size w0 w'))
 case atStart => exact ⟨(l0),(false),(0),(by first | rfl | (simp;done) | (simp [*];done)),(by first | rfl | (simp;done) | (simp [*];done)),H',⟨Nat.le_refl _⟩,⟨by (with_reducible repeat (first | apply Kd.R_alloc | apply Kd.R_drewN | apply Kd.R_drew));exact HO0.out⟩,⟨by repeat (first | (with_reducible first | exact HK.out | apply Kept.alloc | apply Kept.drewN | apply Kept.drew) | exact HK.out)⟩,⟨by repeat (first | (with_reducible first | exact HB.out | apply below_alloc | apply pw_below_drewN | apply below_drew1) | exact HB.out)⟩⟩
 case round =>
  clear H'
  (try clear c1);(try clear p2)
  obtain ⟨x0_1,x5_1,x6_1,rfl,rfl,HA,HK1,HO_0,HK,HB⟩ := hrel
  cases gk with
  | zero => exact absurd HA.out (by simp [regletref13_join.l0])
  | succ k1 =>
   have H:=HA.out
   clear HA
   simp only [regletref13_join.l0] at H
   by_cases c3 : x6_1 < (x0_1.length : Int)
   · rw [if_pos c3] at H
     have c3b0 : decide (x6_1 < (x0_1.length : Int)) = true:=decide_eq_true c3
     clear c3
     by_cases c4 : x5_1 = true
     · subst c4
       have H1 : (if 0 ≤ x6_1 then (if rdOf false x0_1 x6_1 = true then (regletref13_join.l0 k1 (x0_1.set (x6_1 : Int).toNat true) l1 true (wrap64 (x6_1 + 1))) else (if x6_1 < (l1.length : Int) then (regletref13_join.l0 k1 (x0_1.set (x6_1 : Int).toNat (rdOf false l1 x6_1)) l1 true (wrap64 (x6_1 + 1))) else (none))) else (none)) = some (r1,r2) := by rw [if_pos rfl] at H;exact H
       clear H
       have H:=H1
       clear H1
       by_cases c5 : 0 ≤ x6_1
       rotate_left
       · rw [if_neg c5] at H
         exact absurd H (by simp)
       rw [if_pos c5] at H
       have c5b0 : decide (0 ≤ x6_1) = true:=decide_eq_true c5
       clear c5
       obtain ⟨bq6,hbq6⟩ : ∃ b_ : Bool,b_ = (rdOf false x0_1 x6_1) := ⟨_,rfl⟩
       replace H : (if bq6 = true then (regletref13_join.l0 k1 (x0_1.set (x6_1 : Int).toNat true) l1 true (wrap64 (x6_1 + 1))) else (if x6_1 < (l1.length : Int) then (regletref13_join.l0 k1 (x0_1.set (x6_1 : Int).toNat (rdOf false l1 x6_1)) l1 true (wrap64 (x6_1 + 1))) else (none))) = some (r1,r2) := by rw [← hbq6] at H;exact H
       have Nbq6:=Aside0.mk hbq6
       clear hbq6
       by_cases c7 : bq6 = true
       · subst c7
         have H1 : (regletref13_join.l0 k1 (x0_1.set (x6_1 : Int).toNat true) l1 true (wrap64 (x6_1 + 1))) = some (r1,r2) := by rw [if_pos rfl] at H;exact H
         clear H
         have H:=H1
         clear H1
         obtain ⟨y254,hy254⟩ : ∃ y_ : List Bool,y_ = (x0_1.set (x6_1 : Int).toNat true) := ⟨_,rfl⟩
         replace H : (regletref13_join.l0 k1 y254 l1 true (wrap64 (x6_1 + 1))) = some (r1,r2) := by first | (rw [hy254];with_reducible exact H) | (have H2_:=(Option.bind_some _ _).symm.trans H;rw [hy254];with_reducible exact H2_) | (have H2_:=(Option.bind_some _ _).symm.trans H;with_reducible exact H2_) | with_reducible exact H | (rw [hy254];exact H) | exact H
         have Ny254:=Aside0.mk hy254
         clear hy254
         have H' := Aside0.mk H
         clear H
         obtain ⟨Ao9,co9,eo9⟩ := Kd.R_slice HO_0.out
         subst eo9
         have p253 : 0 ≤ (x6_1 : Int) := of_decide_eq_true (by first | (with_reducible assumption) | assumption)
         have q253 : x6_1 < (x0_1.length : Int) := of_decide_eq_true (by first | (with_reducible assumption) | assumption)
         obtain ⟨ad253,e253,hx253_0⟩ := Kd.at_bool (Kd.R_reads' HO_0.out).2.2 x6_1 p253 q253
         (try rw [← Nbq6.out] at hx253_0)
         cases e253
         replace p253:=eq_true p253
         replace q253:=eq_true q253
         have p8 : 0 ≤ (x6_1 : Int) := of_decide_eq_true (by first | (with_reducible assumption) | assumption)
         have q8 : (x6_1 : Int) < ((x0_1.length : Int) : Int) := of_decide_eq_true (by first | (with_reducible assumption) | assumption)
         obtain ⟨go8,co8,eo8,gb8,gl8,cl8,HG8⟩ := Kd.R_form HO_0.out (by omega)
         (first | cases eo8 | (injection eo8 with ea_ en_ ec_;(first | subst ea_ | (injection ea_ with ea_;subst ea_));subst ec_;clear en_))
         have GB8:=Aside0.mk gb8
         have GG8:=Aside0.mk HG8
         clear gb8 gl8 HG8
         have HMgo8:=Aside0.mk (show (P0_ go8 ∨ w.heap.size ≤ go8) from (HO_0.out.1 _ rfl))
         (first | simp only [add_plain] at hx253_0 | skip)
         obtain ⟨hx8_0,hf8_0⟩ := Kd.R_celln false HO_0.out (x6_1 : Int) p8 q8
         replace p8:=eq_true p8
         replace q8:=eq_true q8
         have HP10:=Kd.R_putg HO_0.out (x6_1 : Int) true
         go_wp2_with (first | ((with_reducible refine gate_store (t:=4) (p:=39) rfl ?_);refine store_event (t:=4) (p:=39) (v:=?vo_w11) (w1:=(wr.setCell ⟨go8,(x6_1 : Int).toNat,none⟩ (.bool true))) ?hg ?ho ?hn ?hr ?_;(case ho => rfl);(case hg => rfl);(case hn => rfl);(case hr => first | (go_simp;done) | (go_simp;rfl));intro w11 hw;have hg : wr.grownBy w11 (some go8) := (by rw [hw];exact HP10.2);have hp_ : Kd.R Kd.bool 4 w11 w0.heap.size (fun k_ => (P0_ k_ ∨ w.heap.size ≤ k_)) (.slice (some ⟨go8,0,none⟩) x0_1.length co9) y254:=(by rw [hw,Ny254.out];exact HP10.1);clear HP10;have n0_:=Aside0.mk (hp_);have n1_:=Aside0.mk ((by rw [hw];exact below_set (HB.out) GB8.out : Below w0.heap.size w0 w11));have n2_:=Aside0.mk (Kept.of_grown (S:=(fun k_ => P0_ k_)) hg (by repeat (first | (with_reducible first | exact HK.out | apply Kept.alloc | apply Kept.drewN | apply Kept.drew) | exact HK.out)) (fun k_ e_ => (HO_0.out.1 k_ e_)));clear HO_0;clear HB;clear HK;have HO_0:=n0_;have HB:=n1_;have HK:=n2_;clear n0_ n1_ n2_;clear hg hw hp_))
         go_roundg k1
         case measure => have:=HK1.out;omega
         case rel => exact ⟨(y254),(true),(wrap64 (x6_1 + 1)),(by first | rfl | (simp;done) | (simp [*];done)),(by first | rfl | (simp;done) | (simp [*];done)),H',⟨by have:=HK1.out;omega⟩,⟨by (with_reducible repeat (first | apply Kd.R_alloc | apply Kd.R_drewN | apply Kd.R_drew));exact HO_0.out⟩,⟨by repeat (first | (with_reducible first | exact HK.out | apply Kept.alloc | apply Kept.drewN | apply Kept.drew) | exact HK.out)⟩,⟨by repeat (first | (with_reducible first | exact HB.out | apply below_alloc | apply pw_below_drewN | apply below_drew1) | exact HB.out)⟩⟩
       · replace c7:=Bool.eq_false_iff.mpr c7
         subst c7
         have H1 : (if x6_1 < (l1.length : Int) then (regletref13_join.l0 k1 (x0_1.set (x6_1 : Int).toNat (rdOf false l1 x6_1)) l1 true (wrap64 (x6_1 + 1))) else (none)) = some (r1,r2) := by rw [if_neg (show ¬ (false = true) by decide)] at H;exact H
         clear H
         have H:=H1
         clear H1
         by_cases c12 : x6_1 < (l1.length : Int)
         rotate_left
         · rw [if_neg c12] at H
           exact absurd H (by simp)
         rw [if_pos c12] at H
         have c12b0 : decide (x6_1 < (l1.length : Int)) = true:=decide_eq_true c12
         clear c12
         obtain ⟨y256,hy256⟩ : ∃ y_ : List Bool,y_ = (x0_1.set (x6_1 : Int).toNat (rdOf false l1 x6_1)) := ⟨_,rfl⟩
         replace H : (regletref13_join.l0 k1 y256 l1 true (wrap64 (x6_1 + 1))) = some (r1,r2) := by first | (rw [hy256];with_reducible exact H) | (have H2_:=(Option.bind_some _ _).symm.trans H;rw [hy256];with_reducible exact H2_) | (have H2_:=(Option.bind_some _ _).symm.trans H;with_reducible exact H2_) | with_reducible exact H | (rw [hy256];exact H) | exact H
         have Ny256:=Aside0.mk hy256
         clear hy256
         have H' := Aside0.mk H
         clear H
         obtain ⟨Ao14,co14,eo14⟩ := Kd.R_slice HO_0.out
         subst eo14
         have p253 : 0 ≤ (x6_1 : Int) := of_decide_eq_true (by first | (with_reducible assumption) | assumption)
         have q253 : x6_1 < (x0_1.length : Int) := of_decide_eq_true (by first | (with_reducible assumption) | assumption)
         obtain ⟨ad253,e253,hx253_0⟩ := Kd.at_bool (Kd.R_reads' HO_0.out).2.2 x6_1 p253 q253
         (try rw [← Nbq6.out] at hx253_0)
         cases e253
         replace p253:=eq_true p253
         replace q253:=eq_true q253
         have p255 : 0 ≤ (x6_1 : Int) := of_decide_eq_true (by first | (with_reducible assumption) | assumption)
         have q255 : x6_1 < (l1.length : Int) := of_decide_eq_true (by first | (with_reducible assumption) | assumption)
         obtain ⟨ad255,e255,hx255_0⟩ := Kd.at_bool (Kd.C_kept_now HR1.out HK.out) x6_1 p255 q255
         (try rw [← Nbq6.out] at hx255_0)
         cases e255
         replace p255:=eq_true p255
         replace q255:=eq_true q255
         have p13 : 0 ≤ (x6_1 : Int) := of_decide_eq_true (by first | (with_reducible assumption) | assumption)
         have q13 : (x6_1 : Int) < ((x0_1.length : Int) : Int) := of_decide_eq_true (by first | (with_reducible assumption) | assumption)
         obtain ⟨go13,co13,eo13,gb13,gl13,cl13,HG13⟩ := Kd.R_form HO_0.out (by omega)
         (first | cases eo13 | (injection eo13 with ea_ en_ ec_;(first | subst ea_ | (injection ea_ with ea_;subst ea_));subst ec_;clear en_))
         have GB13:=Aside0.mk gb13
         have GG13:=Aside0.mk HG13
         clear gb13 gl13 HG13
         have HMgo13:=Aside0.mk (show (P0_ go13 ∨ w.heap.size ≤ go13) from (HO_0.out.1 _ rfl))
         (first | simp only [add_plain] at hx253_0 | skip)
         obtain ⟨hx13_0,hf13_0⟩ := Kd.R_celln false HO_0.out (x6_1 : Int) p13 q13
         replace p13:=eq_true p13
         replace q13:=eq_true q13
         have HP15:=Kd.R_putg HO_0.out (x6_1 : Int) (rdOf false l1 x6_1)
         go_wp2_with (first | ((with_reducible refine gate_store (t:=4) (p:=39) rfl ?_);refine store_event (t:=4) (p:=39) (v:=?vo_w16) (w1:=(wr.setCell ⟨go13,(x6_1 : Int).toNat,none⟩ (.bool (rdOf false l1 x6_1)))) ?hg ?ho ?hn ?hr ?_;(case ho => rfl);(case hg => rfl);(case hn => rfl);(case hr => first | (go_simp;done) | (go_simp;rfl));intro w16 hw;have hg : wr.grownBy w16 (some go13) := (by rw [hw];exact HP15.2);have hp_ : Kd.R Kd.bool 4 w16 w0.heap.size (fun k_ => (P0_ k_ ∨ w.heap.size ≤ k_)) (.slice (some ⟨go13,0,none⟩) x0_1.length co14) y256:=(by rw [hw,Ny256.out];exact HP15.1);clear HP15;have n0_:=Aside0.mk (hp_);have n1_:=Aside0.mk ((by rw [hw];exact below_set (HB.out) GB13.out : Below w0.heap.size w0 w16));have n2_:=Aside0.mk (Kept.of_grown (S:=(fun k_ => P0_ k_)) hg (by repeat (first | (with_reducible first | exact HK.out | apply Kept.alloc | apply Kept.drewN | apply Kept.drew) | exact HK.out)) (fun k_ e_ => (HO_0.out.1 k_ e_)));clear HO_0;clear HB;clear HK;have HO_0:=n0_;have HB:=n1_;have HK:=n2_;clear n0_ n1_ n2_;clear hg hw hp_))
         go_roundg k1
         case measure => have:=HK1.out;omega
         case rel => exact ⟨(y256),(true),(wrap64 (x6_1 + 1)),(by first | rfl | (simp;done) | (simp [*];done)),(by first | rfl | (simp;done) | (simp [*];done)),H',⟨by have:=HK1.out;omega⟩,⟨by (with_reducible repeat (first | apply Kd.R_alloc | apply Kd.R_drewN | apply Kd.R_drew));exact HO_0.out⟩,⟨by repeat (first | (with_reducible first | exact HK.out | apply Kept.alloc | apply Kept.drewN | apply Kept.drew) | exact HK.out)⟩,⟨by repeat (first | (with_reducible first | exact HB.out | apply below_alloc | apply pw_below_drewN | apply below_drew1) | exact HB.out)⟩⟩
     · replace c4:=Bool.eq_false_iff.mpr c4
       subst c4
       have H1 : (if 0 ≤ x6_1 then (if x6_1 < (l1.length : Int) then (if rdOf false l1 x6_1 = true then (if rdOf false x0_1 x6_1 = true then (regletref13_join.l0 k1 (x0_1.set (x6_1 : Int).toNat true) l1 (!(rdOf false x0_1 x6_1)) (wrap64 (x6_1 + 1))) else (regletref13_join.l0 k1 (x0_1.set (x6_1 : Int).toNat (rdOf false l1 x6_1)) l1 (!(rdOf false x0_1 x6_1)) (wrap64 (x6_1 + 1)))) else (if rdOf false x0_1 x6_1 = true then (regletref13_join.l0 k1 (x0_1.set (x6_1 : Int).toNat true) l1 false (wrap64 (x6_1 + 1))) else (regletref13_join.l0 k1 (x0_1.set (x6_1 : Int).toNat (rdOf false l1 x6_1)) l1 false (wrap64 (x6_1 + 1))))) else (none)) else (none)) = some (r1,r2) := by rw [if_neg (show ¬ (false = true) by decide)] at H;exact H
       clear H
       have H:=H1
       clear H1
       by_cases c17 : 0 ≤ x6_1
       rotate_left
       · rw [if_neg c17] at H
         exact absurd H (by simp)
       rw [if_pos c17] at H
       have c17b0 : decide (0 ≤ x6_1) = true:=decide_eq_true c17
       clear c17
       by_cases c18 : x6_1 < (l1.length : Int)
       rotate_left
       · rw [if_neg c18] at H
         exact absurd H (by simp)
       rw [if_pos c18] at H
       have c18b0 : decide (x6_1 < (l1.length : Int)) = true:=decide_eq_true c18
       clear c18
       obtain ⟨bq19,hbq19⟩ : ∃ b_ : Bool,b_ = (rdOf false l1 x6_1) := ⟨_,rfl⟩
       replace H : (if bq19 = true then (if rdOf false x0_1 x6_1 = true then (regletref13_join.l0 k1 (x0_1.set (x6_1 : Int).toNat true) l1 (!(rdOf false x0_1 x6_1)) (wrap64 (x6_1 + 1))) else (regletref13_join.l0 k1 (x0_1.set (x6_1 : Int).toNat (bq19)) l1 (!(rdOf false x0_1 x6_1)) (wrap64 (x6_1 + 1)))) else (if rdOf false x0_1 x6_1 = true then (regletref13_join.l0 k1 (x0_1.set (x6_1 : Int).toNat true) l1 false (wrap64 (x6_1 + 1))) else (regletref13_join.l0 k1 (x0_1.set (x6_1 : Int).toNat (bq19)) l1 false (wrap64 (x6_1 + 1))))) = some (r1,r2) := by rw [← hbq19] at H;exact H
       have Nbq19:=Aside0.mk hbq19
       clear hbq19
       by_cases c20 : bq19 = true
       · subst c20
         have H1 : (if rdOf false x0_1 x6_1 = true then (regletref13_join.l0 k1 (x0_1.set (x6_1 : Int).toNat true) l1 (!(rdOf false x0_1 x6_1)) (wrap64 (x6_1 + 1))) else (regletref13_join.l0 k1 (x0_1.set (x6_1 : Int).toNat (true)) l1 (!(rdOf false x0_1 x6_1)) (wrap64 (x6_1 + 1)))) = some (r1,r2) := by rw [if_pos rfl] at H;exact H
         clear H
         have H:=H1
         clear H1
         obtain ⟨bq21,hbq21⟩ : ∃ b_ : Bool,b_ = (rdOf false x0_1 x6_1) := ⟨_,rfl⟩
         replace H : (if bq21 = true then (regletref13_join.l0 k1 (x0_1.set (x6_1 : Int).toNat true) l1 (!(bq21)) (wrap64 (x6_1 + 1))) else (regletref13_join.l0 k1 (x0_1.set (x6_1 : Int).toNat (true)) l1 (!(bq21)) (wrap64 (x6_1 + 1)))) = some (r1,r2) := by rw [← hbq21] at H;exact H
         have Nbq21:=Aside0.mk hbq21
         clear hbq21
         by_cases c22 : bq21 = true
         · subst c22
           have H1 : (regletref13_join.l0 k1 (x0_1.set (x6_1 : Int).toNat true) l1 (!(true)) (wrap64 (x6_1 + 1))) = some (r1,r2) := by rw [if_pos rfl] at H;exact H
           clear H
           have H:=H1
           clear H1
           obtain ⟨y260,hy260⟩ : ∃ y_ : List Bool,y_ = (x0_1.set (x6_1 : Int).toNat true) := ⟨_,rfl⟩
           replace H : (regletref13_join.l0 k1 y260 l1 (!(true)) (wrap64 (x6_1 + 1))) = some (r1,r2) := by first | (rw [hy260];with_reducible exact H) | (have H2_:=(Option.bind_some _ _).symm.trans H;rw [hy260];with_reducible exact H2_) | (have H2_:=(Option.bind_some _ _).symm.trans H;with_reducible exact H2_) | with_reducible exact H | (rw [hy260];exact H) | exact H
           have Ny260:=Aside0.mk hy260
           clear hy260
           have H' := Aside0.mk H
           clear H
           obtain ⟨Ao24,co24,eo24⟩ := Kd.R_slice HO_0.out
           subst eo24
           have p257 : 0 ≤ (x6_1 : Int) := of_decide_eq_true (by first | (with_reducible assumption) | assumption)
           have q257 : x6_1 < (l1.length : Int) := of_decide_eq_true (by first | (with_reducible assumption) | assumption)
           obtain ⟨ad257,e257,hx257_0⟩ := Kd.at_bool (Kd.C_kept_now HR1.out HK.out) x6_1 p257 q257
           (try rw [← Nbq19.out] at hx257_0)
           (try rw [← Nbq21.out] at hx257_0)
           cases e257
           replace p257:=eq_true p257
           replace q257:=eq_true q257
           have p258 : 0 ≤ (x6_1 : Int) := of_decide_eq_true (by first | (with_reducible assumption) | assumption)
           have q258 : x6_1 < (x0_1.length : Int) := of_decide_eq_true (by first | (with_reducible assumption) | assumption)
           obtain ⟨ad258,e258,hx258_0⟩ := Kd.at_bool (Kd.R_reads' HO_0.out).2.2 x6_1 p258 q258
           (try rw [← Nbq19.out] at hx258_0)
           (try rw [← Nbq21.out] at hx258_0)
           cases e258
           replace p258:=eq_true p258
           replace q258:=eq_true q258
           have p259 : 0 ≤ (x6_1 : Int) := of_decide_eq_true (by first | (with_reducible assumption) | assumption)
           have q259 : x6_1 < (x0_1.length : Int) := of_decide_eq_true (by first | (with_reducible assumption) | assumption)
           obtain ⟨ad259,e259,hx259_0⟩ := Kd.at_bool (Kd.R_reads' HO_0.out).2.2 x6_1 p259 q259
           (try rw [← Nbq19.out] at hx259_0)
           (try rw [← Nbq21.out] at hx259_0)
           obtain rfl : ad258 = ad259:=(by injection e259)
           replace p259:=eq_true p259
           replace q259:=eq_true q259
           have p23 : 0 ≤ (x6_1 : Int) := of_decide_eq_true (by first | (with_reducible assumption) | assumption)
           have q23 : (x6_1 : Int) < ((x0_1.length : Int) : Int) := of_decide_eq_true (by first | (with_reducible assumption) | assumption)
           obtain ⟨go23,co23,eo23,gb23,gl23,cl23,HG23⟩ := Kd.R_form HO_0.out (by omega)
           (first | cases eo23 | (injection eo23 with ea_ en_ ec_;(first | subst ea_ | (injection ea_ with ea_;subst ea_));subst ec_;clear en_))
           have GB23:=Aside0.mk gb23
           have GG23:=Aside0.mk HG23
           clear gb23 gl23 HG23
           have HMgo23:=Aside0.mk (show (P0_ go23 ∨ w.heap.size ≤ go23) from (HO_0.out.1 _ rfl))
           (first | simp only [add_plain] at hx258_0 | skip)
           (first | simp only [add_plain] at hx259_0 | skip)
           obtain ⟨hx23_0,hf23_0⟩ := Kd.R_celln false HO_0.out (x6_1 : Int) p23 q23
           replace p23:=eq_true p23
           replace q23:=eq_true q23
           have HP25:=Kd.R_putg HO_0.out (x6_1 : Int) true
           go_wp2_with (first | ((with_reducible refine gate_store (t:=4) (p:=39) rfl ?_);refine store_event (t:=4) (p:=39) (v:=?vo_w26) (w1:=(wr.setCell ⟨go23,(x6_1 : Int).toNat,none⟩ (.bool true))) ?hg ?ho ?hn ?hr ?_;(case ho => rfl);(case hg => rfl);(case hn => rfl);(case hr => first | (go_simp;done) | (go_simp;rfl));intro w26 hw;have hg : wr.grownBy w26 (some go23) := (by rw [hw];exact HP25.2);have hp_ : Kd.R Kd.bool 4 w26 w0.heap.size (fun k_ => (P0_ k_ ∨ w.heap.size ≤ k_)) (.slice (some ⟨go23,0,none⟩) x0_1.length co24) y260:=(by rw [hw,Ny260.out];exact HP25.1);clear HP25;have n0_:=Aside0.mk (hp_);have n1_:=Aside0.mk ((by rw [hw];exact below_set (HB.out) GB23.out : Below w0.heap.size w0 w26));have n2_:=Aside0.mk (Kept.of_grown (S:=(fun k_ => P0_ k_)) hg (by repeat (first | (with_reducible first | exact HK.out | apply Kept.alloc | apply Kept.drewN | apply Kept.drew) | exact HK.out)) (fun k_ e_ => (HO_0.out.1 k_ e_)));clear HO_0;clear HB;clear HK;have HO_0:=n0_;have HB:=n1_;have HK:=n2_;clear n0_ n1_ n2_;clear hg hw hp_))
           go_roundg k1
           case measure => have:=HK1.out;omega
           case rel => exact ⟨(y260),(!(true)),(wrap64 (x6_1 + 1)),(by first | rfl | (simp;done) | (simp [*];done)),(by first | rfl | (simp;done) | (simp [*];done)),H',⟨by have:=HK1.out;omega⟩,⟨by (with_reducible repeat (first | apply Kd.R_alloc | apply Kd.R_drewN | apply Kd.R_drew));exact HO_0.out⟩,⟨by repeat (first | (with_reducible first | exact HK.out | apply Kept.alloc | apply Kept.drewN | apply Kept.drew) | exact HK.out)⟩,⟨by repeat (first | (with_reducible first | exact HB.out | apply below_alloc | apply pw_below_drewN | apply below_drew1) | exact HB.out)⟩⟩
         · replace c22:=Bool.eq_false_iff.mpr c22
           subst c22
           have H1 : (regletref13_join.l0 k1 (x0_1.set (x6_1 : Int).toNat (true)) l1 (!(false)) (wrap64 (x6_1 + 1))) = some (r1,r2) := by rw [if_neg (show ¬ (false = true) by decide)] at H;exact H
           clear H
           have H:=H1
           clear H1
           obtain ⟨y262,hy262⟩ : ∃ y_ : List Bool,y_ = (x0_1.set (x6_1 : Int).toNat (true)) := ⟨_,rfl⟩
           replace H : (regletref13_join.l0 k1 y262 l1 (!(false)) (wrap64 (x6_1 + 1))) = some (r1,r2) := by first | (rw [hy262];with_reducible exact H) | (have H2_:=(Option.bind_some _ _).symm.trans H;rw [hy262];with_reducible exact H2_) | (have H2_:=(Option.bind_some _ _).symm.trans H;with_reducible exact H2_) | with_reducible exact H | (rw [hy262];exact H) | exact H
           have Ny262:=Aside0.mk hy262
           clear hy262
           have H' := Aside0.mk H
           clear H
           obtain ⟨Ao28,co28,eo28⟩ := Kd.R_slice HO_0.out
           subst eo28
           have p257 : 0 ≤ (x6_1 : Int) := of_decide_eq_true (by first | (with_reducible assumption) | assumption)
           have q257 : x6_1 < (l1.length : Int) := of_decide_eq_true (by first | (with_reducible assumption) | assumption)
           obtain ⟨ad257,e257,hx257_0⟩ := Kd.at_bool (Kd.C_kept_now HR1.out HK.out) x6_1 p257 q257
           (try rw [← Nbq19.out] at hx257_0)
           (try rw [← Nbq21.out] at hx257_0)
           cases e257
           replace p257:=eq_true p257
           replace q257:=eq_true q257
           have p258 : 0 ≤ (x6_1 : Int) := of_decide_eq_true (by first | (with_reducible assumption) | assumption)
           have q258 : x6_1 < (x0_1.length : Int) := of_decide_eq_true (by first | (with_reducible assumption) | assumption)
           obtain ⟨ad258,e258,hx258_0⟩ := Kd.at_bool (Kd.R_reads' HO_0.out).2.2 x6_1 p258 q258
           (try rw [← Nbq19.out] at hx258_0)
           (try rw [← Nbq21.out] at hx258_0)
           cases e258
           replace p258:=eq_true p258
           replace q258:=eq_true q258
           have p259 : 0 ≤ (x6_1 : Int) := of_decide_eq_true (by first | (with_reducible assumption) | assumption)
           have q259 : x6_1 < (x0_1.length : Int) := of_decide_eq_true (by first | (with_reducible assumption) | assumption)
           obtain ⟨ad259,e259,hx259_0⟩ := Kd.at_bool (Kd.R_reads' HO_0.out).2.2 x6_1 p259 q259
           (try rw [← Nbq19.out] at hx259_0)
           (try rw [← Nbq21.out] at hx259_0)
           obtain rfl : ad258 = ad259:=(by injection e259)
           replace p259:=eq_true p259
           replace q259:=eq_true q259
           have p261 : 0 ≤ (x6_1 : Int) := of_decide_eq_true (by first | (with_reducible assumption) | assumption)
           have q261 : x6_1 < (l1.length : Int) := of_decide_eq_true (by first | (with_reducible assumption) | assumption)
           obtain ⟨ad261,e261,hx261_0⟩ := Kd.at_bool (Kd.C_kept_now HR1.out HK.out) x6_1 p261 q261
           (try rw [← Nbq19.out] at hx261_0)
           (try rw [← Nbq21.out] at hx261_0)
           obtain rfl : ad257 = ad261:=(by injection e261)
           replace p261:=eq_true p261
           replace q261:=eq_true q261
           have p27 : 0 ≤ (x6_1 : Int) := of_decide_eq_true (by first | (with_reducible assumption) | assumption)
           have q27 : (x6_1 : Int) < ((x0_1.length : Int) : Int) := of_decide_eq_true (by first | (with_reducible assumption) | assumption)
           obtain ⟨go27,co27,eo27,gb27,gl27,cl27,HG27⟩ := Kd.R_form HO_0.out (by omega)
           (first | cases eo27 | (injection eo27 with ea_ en_ ec_;(first | subst ea_ | (injection ea_ with ea_;subst ea_));subst ec_;clear en_))
           have GB27:=Aside0.mk gb27
           have GG27:=Aside0.mk HG27
           clear gb27 gl27 HG27
           have HMgo27:=Aside0.mk (show (P0_ go27 ∨ w.heap.size ≤ go27) from (HO_0.out.1 _ rfl))
           (first | simp only [add_plain] at hx258_0 | skip)
           (first | simp only [add_plain] at hx259_0 | skip)
           obtain ⟨hx27_0,hf27_0⟩ := Kd.R_celln false HO_0.out (x6_1 : Int) p27 q27
           replace p27:=eq_true p27
           replace q27:=eq_true q27
           have HP29:=Kd.R_putg HO_0.out (x6_1 : Int) true
           go_wp2_with (first | ((with_reducible refine gate_store (t:=4) (p:=39) rfl ?_);refine store_event (t:=4) (p:=39) (v:=?vo_w30) (w1:=(wr.setCell ⟨go27,(x6_1 : Int).toNat,none⟩ (.bool true))) ?hg ?ho ?hn ?hr ?_;(case ho => rfl);(case hg => rfl);(case hn => rfl);(case hr => first | (go_simp;done) | (go_simp;rfl));intro w30 hw;have hg : wr.grownBy w30 (some go27) := (by rw [hw];exact HP29.2);have hp_ : Kd.R Kd.bool 4 w30 w0.heap.size (fun k_ => (P0_ k_ ∨ w.heap.size ≤ k_)) (.slice (some ⟨go27,0,none⟩) x0_1.length co28) y262:=(by rw [hw,Ny262.out];exact HP29.1);clear HP29;have n0_:=Aside0.mk (hp_);have n1_:=Aside0.mk ((by rw [hw];exact below_set (HB.out) GB27.out : Below w0.heap.size w0 w30));have n2_:=Aside0.mk (Kept.of_grown (S:=(fun k_ => P0_ k_)) hg (by repeat (first | (with_reducible first | exact HK.out | apply Kept.alloc | apply Kept.drewN | apply Kept.drew) | exact HK.out)) (fun k_ e_ => (HO_0.out.1 k_ e_)));clear HO_0;clear HB;clear HK;have HO_0:=n0_;have HB:=n1_;have HK:=n2_;clear n0_ n1_ n2_;clear hg hw hp_))
           go_roundg k1
           case measure => have:=HK1.out;omega
           case rel => exact ⟨(y262),(!(false)),(wrap64 (x6_1 + 1)),(by first | rfl | (simp;done) | (simp [*];done)),(by first | rfl | (simp;done) | (simp [*];done)),H',⟨by have:=HK1.out;omega⟩,⟨by (with_reducible repeat (first | apply Kd.R_alloc | apply Kd.R_drewN | apply Kd.R_drew));exact HO_0.out⟩,⟨by repeat (first | (with_reducible first | exact HK.out | apply Kept.alloc | apply Kept.drewN | apply Kept.drew) | exact HK.out)⟩,⟨by repeat (first | (with_reducible first | exact HB.out | apply below_alloc | apply pw_below_drewN | apply below_drew1) | exact HB.out)⟩⟩
       · replace c20:=Bool.eq_false_iff.mpr c20
         subst c20
         have H1 : (if rdOf false x0_1 x6_1 = true then (regletref13_join.l0 k1 (x0_1.set (x6_1 : Int).toNat true) l1 false (wrap64 (x6_1 + 1))) else (regletref13_join.l0 k1 (x0_1.set (x6_1 : Int).toNat (false)) l1 false (wrap64 (x6_1 + 1)))) = some (r1,r2) := by rw [if_neg (show ¬ (false = true) by decide)] at H;exact H
         clear H
         have H:=H1
         clear H1
         obtain ⟨bq31,hbq31⟩ : ∃ b_ : Bool,b_ = (rdOf false x0_1 x6_1) := ⟨_,rfl⟩
         replace H : (if bq31 = true then (regletref13_join.l0 k1 (x0_1.set (x6_1 : Int).toNat true) l1 false (wrap64 (x6_1 + 1))) else (regletref13_join.l0 k1 (x0_1.set (x6_1 : Int).toNat (false)) l1 false (wrap64 (x6_1 + 1)))) = some (r1,r2) := by rw [← hbq31] at H;exact H
         have Nbq31:=Aside0.mk hbq31
         clear hbq31
         by_cases c32 : bq31 = true
         · subst c32
           have H1 : (regletref13_join.l0 k1 (x0_1.set (x6_1 : Int).toNat true) l1 false (wrap64 (x6_1 + 1))) = some (r1,r2) := by rw [if_pos rfl] at H;exact H
           clear H
           have H:=H1
           clear H1
           obtain ⟨y264,hy264⟩ : ∃ y_ : List Bool,y_ = (x0_1.set (x6_1 : Int).toNat true) := ⟨_,rfl⟩
           replace H : (regletref13_join.l0 k1 y264 l1 false (wrap64 (x6_1 + 1))) = some (r1,r2) := by first | (rw [hy264];with_reducible exact H) | (have H2_:=(Option.bind_some _ _).symm.trans H;rw [hy264];with_reducible exact H2_) | (have H2_:=(Option.bind_some _ _).symm.trans H;with_reducible exact H2_) | with_reducible exact H | (rw [hy264];exact H) | exact H
           have Ny264:=Aside0.mk hy264
           clear hy264
           have H' := Aside0.mk H
           clear H
           obtain ⟨Ao34,co34,eo34⟩ := Kd.R_slice HO_0.out
           subst eo34
           have p257 : 0 ≤ (x6_1 : Int) := of_decide_eq_true (by first | (with_reducible assumption) | assumption)
           have q257 : x6_1 < (l1.length : Int) := of_decide_eq_true (by first | (with_reducible assumption) | assumption)
           obtain ⟨ad257,e257,hx257_0⟩ := Kd.at_bool (Kd.C_kept_now HR1.out HK.out) x6_1 p257 q257
           (try rw [← Nbq19.out] at hx257_0)
           (try rw [← Nbq31.out] at hx257_0)
           cases e257
           replace p257:=eq_true p257
           replace q257:=eq_true q257
           have p263 : 0 ≤ (x6_1 : Int) := of_decide_eq_true (by first | (with_reducible assumption) | assumption)
           have q263 : x6_1 < (x0_1.length : Int) := of_decide_eq_true (by first | (with_reducible assumption) | assumption)
           obtain ⟨ad263,e263,hx263_0⟩ := Kd.at_bool (Kd.R_reads' HO_0.out).2.2 x6_1 p263 q263
           (try rw [← Nbq19.out] at hx263_0)
           (try rw [← Nbq31.out] at hx263_0)
           cases e263
           replace p263:=eq_true p263
           replace q263:=eq_true q263
           have p33 : 0 ≤ (x6_1 : Int) := of_decide_eq_true (by first | (with_reducible assumption) | assumption)
           have q33 : (x6_1 : Int) < ((x0_1.length : Int) : Int) := of_decide_eq_true (by first | (with_reducible assumption) | assumption)
           obtain ⟨go33,co33,eo33,gb33,gl33,cl33,HG33⟩ := Kd.R_form HO_0.out (by omega)
           (first | cases eo33 | (injection eo33 with ea_ en_ ec_;(first | subst ea_ | (injection ea_ with ea_;subst ea_));subst ec_;clear en_))
           have GB33:=Aside0.mk gb33
           have GG33:=Aside0.mk HG33
           clear gb33 gl33 HG33
           have HMgo33:=Aside0.mk (show (P0_ go33 ∨ w.heap.size ≤ go33) from (HO_0.out.1 _ rfl))
           (first | simp only [add_plain] at hx263_0 | skip)
           obtain ⟨hx33_0,hf33_0⟩ := Kd.R_celln false HO_0.out (x6_1 : Int) p33 q33
           replace p33:=eq_true p33
           replace q33:=eq_true q33
           have HP35:=Kd.R_putg HO_0.out (x6_1 : Int) true
           go_wp2_with (first | ((with_reducible refine gate_store (t:=4) (p:=39) rfl ?_);refine store_event (t:=4) (p:=39) (v:=?vo_w36) (w1:=(wr.setCell ⟨go33,(x6_1 : Int).toNat,none⟩ (.bool true))) ?hg ?ho ?hn ?hr ?_;(case ho => rfl);(case hg => rfl);(case hn => rfl);(case hr => first | (go_simp;done) | (go_simp;rfl));intro w36 hw;have hg : wr.grownBy w36 (some go33) := (by rw [hw];exact HP35.2);have hp_ : Kd.R Kd.bool 4 w36 w0.heap.size (fun k_ => (P0_ k_ ∨ w.heap.size ≤ k_)) (.slice (some ⟨go33,0,none⟩) x0_1.length co34) y264:=(by rw [hw,Ny264.out];exact HP35.1);clear HP35;have n0_:=Aside0.mk (hp_);have n1_:=Aside0.mk ((by rw [hw];exact below_set (HB.out) GB33.out : Below w0.heap.size w0 w36));have n2_:=Aside0.mk (Kept.of_grown (S:=(fun k_ => P0_ k_)) hg (by repeat (first | (with_reducible first | exact HK.out | apply Kept.alloc | apply Kept.drewN | apply Kept.drew) | exact HK.out)) (fun k_ e_ => (HO_0.out.1 k_ e_)));clear HO_0;clear HB;clear HK;have HO_0:=n0_;have HB:=n1_;have HK:=n2_;clear n0_ n1_ n2_;clear hg hw hp_))
           go_roundg k1
           case measure => have:=HK1.out;omega
           case rel => exact ⟨(y264),(false),(wrap64 (x6_1 + 1)),(by first | rfl | (simp;done) | (simp [*];done)),(by first | rfl | (simp;done) | (simp [*];done)),H',⟨by have:=HK1.out;omega⟩,⟨by (with_reducible repeat (first | apply Kd.R_alloc | apply Kd.R_drewN | apply Kd.R_drew));exact HO_0.out⟩,⟨by repeat (first | (with_reducible first | exact HK.out | apply Kept.alloc | apply Kept.drewN | apply Kept.drew) | exact HK.out)⟩,⟨by repeat (first | (with_reducible first | exact HB.out | apply below_alloc | apply pw_below_drewN | apply below_drew1) | exact HB.out)⟩⟩
         · replace c32:=Bool.eq_false_iff.mpr c32
           subst c32
           have H1 : (regletref13_join.l0 k1 (x0_1.set (x6_1 : Int).toNat (false)) l1 false (wrap64 (x6_1 + 1))) = some (r1,r2) := by rw [if_neg (show ¬ (false = true) by decide)] at H;exact H
           clear H
           have H:=H1
           clear H1
           obtain ⟨y266,hy266⟩ : ∃ y_ : List Bool,y_ = (x0_1.set (x6_1 : Int).toNat (false)) := ⟨_,rfl⟩
           replace H : (regletref13_join.l0 k1 y266 l1 false (wrap64 (x6_1 + 1))) = some (r1,r2) := by first | (rw [hy266];with_reducible exact H) | (have H2_:=(Option.bind_some _ _).symm.trans H;rw [hy266];with_reducible exact H2_) | (have H2_:=(Option.bind_some _ _).symm.trans H;with_reducible exact H2_) | with_reducible exact H | (rw [hy266];exact H) | exact H
           have Ny266:=Aside0.mk hy266
           clear hy266
           have H' := Aside0.mk H
           clear H
           obtain ⟨Ao38,co38,eo38⟩ := Kd.R_slice HO_0.out
           subst eo38
           have p257 : 0 ≤ (x6_1 : Int) := of_decide_eq_true (by first | (with_reducible assumption) | assumption)
           have q257 : x6_1 < (l1.length : Int) := of_decide_eq_true (by first | (with_reducible assumption) | assumption)
           obtain ⟨ad257,e257,hx257_0⟩ := Kd.at_bool (Kd.C_kept_now HR1.out HK.out) x6_1 p257 q257
           (try rw [← Nbq19.out] at hx257_0)
           (try rw [← Nbq31.out] at hx257_0)
           cases e257
           replace p257:=eq_true p257
           replace q257:=eq_true q257
           have p263 : 0 ≤ (x6_1 : Int) := of_decide_eq_true (by first | (with_reducible assumption) | assumption)
           have q263 : x6_1 < (x0_1.length : Int) := of_decide_eq_true (by first | (with_reducible assumption) | assumption)
           obtain ⟨ad263,e263,hx263_0⟩ := Kd.at_bool (Kd.R_reads' HO_0.out).2.2 x6_1 p263 q263
           (try rw [← Nbq19.out] at hx263_0)
           (try rw [← Nbq31.out] at hx263_0)
           cases e263
           replace p263:=eq_true p263
           replace q263:=eq_true q263
           have p265 : 0 ≤ (x6_1 : Int) := of_decide_eq_true (by first | (with_reducible assumption) | assumption)
           have q265 : x6_1 < (l1.length : Int) := of_decide_eq_true (by first | (with_reducible assumption) | assumption)
           obtain ⟨ad265,e265,hx265_0⟩ := Kd.at_bool (Kd.C_kept_now HR1.out HK.out) x6_1 p265 q265
           (try rw [← Nbq19.out] at hx265_0)
           (try rw [← Nbq31.out] at hx265_0)
           obtain rfl : ad257 = ad265:=(by injection e265)
           replace p265:=eq_true p265
           replace q265:=eq_true q265
           have p37 : 0 ≤ (x6_1 : Int) := of_decide_eq_true (by first | (with_reducible assumption) | assumption)
           have q37 : (x6_1 : Int) < ((x0_1.length : Int) : Int) := of_decide_eq_true (by first | (with_reducible assumption) | assumption)
           obtain ⟨go37,co37,eo37,gb37,gl37,cl37,HG37⟩ := Kd.R_form HO_0.out (by omega)
           (first | cases eo37 | (injection eo37 with ea_ en_ ec_;(first | subst ea_ | (injection ea_ with ea_;subst ea_));subst ec_;clear en_))
           have GB37:=Aside0.mk gb37
           have GG37:=Aside0.mk HG37
           clear gb37 gl37 HG37
           have HMgo37:=Aside0.mk (show (P0_ go37 ∨ w.heap.size ≤ go37) from (HO_0.out.1 _ rfl))
           (first | simp only [add_plain] at hx263_0 | skip)
           obtain ⟨hx37_0,hf37_0⟩ := Kd.R_celln false HO_0.out (x6_1 : Int) p37 q37
           replace p37:=eq_true p37
           replace q37:=eq_true q37
           have HP39:=Kd.R_putg HO_0.out (x6_1 : Int) false
           go_wp2_with (first | ((with_reducible refine gate_store (t:=4) (p:=39) rfl ?_);refine store_event (t:=4) (p:=39) (v:=?vo_w40) (w1:=(wr.setCell ⟨go37,(x6_1 : Int).toNat,none⟩ (.bool false))) ?hg ?ho ?hn ?hr ?_;(case ho => rfl);(case hg => rfl);(case hn => rfl);(case hr => first | (go_simp;done) | (go_simp;rfl));intro w40 hw;have hg : wr.grownBy w40 (some go37) := (by rw [hw];exact HP39.2);have hp_ : Kd.R Kd.bool 4 w40 w0.heap.size (fun k_ => (P0_ k_ ∨ w.heap.size ≤ k_)) (.slice (some ⟨go37,0,none⟩) x0_1.length co38) y266:=(by rw [hw,Ny266.out];exact HP39.1);clear HP39;have n0_:=Aside0.mk (hp_);have n1_:=Aside0.mk ((by rw [hw];exact below_set (HB.out) GB37.out : Below w0.heap.size w0 w40));have n2_:=Aside0.mk (Kept.of_grown (S:=(fun k_ => P0_ k_)) hg (by repeat (first | (with_reducible first | exact HK.out | apply Kept.alloc | apply Kept.drewN | apply Kept.drew) | exact HK.out)) (fun k_ e_ => (HO_0.out.1 k_ e_)));clear HO_0;clear HB;clear HK;have HO_0:=n0_;have HB:=n1_;have HK:=n2_;clear n0_ n1_ n2_;clear hg hw hp_))
           go_roundg k1
           case measure => have:=HK1.out;omega
           case rel => exact ⟨(y266),(false),(wrap64 (x6_1 + 1)),(by first | rfl | (simp;done) | (simp [*];done)),(by first | rfl | (simp;done) | (simp [*];done)),H',⟨by have:=HK1.out;omega⟩,⟨by (with_reducible repeat (first | apply Kd.R_alloc | apply Kd.R_drewN | apply Kd.R_drew));exact HO_0.out⟩,⟨by repeat (first | (with_reducible first | exact HK.out | apply Kept.alloc | apply Kept.drewN | apply Kept.drew) | exact HK.out)⟩,⟨by repeat (first | (with_reducible first | exact HB.out | apply below_alloc | apply pw_below_drewN | apply below_drew1) | exact HB.out)⟩⟩
   · rw [if_neg c3] at H
     have c3b0 : decide (x6_1 < (x0_1.length : Int)) = false:=decide_eq_false c3
     clear c3
     simp only [Option.some.injEq,Prod.mk.injEq] at H
     obtain ⟨rfl,rfl⟩ := H
     obtain ⟨Ao41,co41,eo41⟩ := Kd.R_slice HO_0.out
     subst eo41
     go_wp2
     go_ret
     exact ⟨by first | rfl | (simp [errW_none,errW_some] <;> rfl) | (simp [*,errW_none,errW_some] <;> rfl),by (with_reducible repeat (first | apply Kd.R_alloc | apply Kd.R_drewN | apply Kd.R_drew));exact HO_0.out,by repeat (first | (with_reducible first | exact HB.out | apply below_alloc | apply pw_below_drewN | apply below_drew1) | exact HB.out),by repeat (first | (with_reducible first | exact HK.out | apply Kept.alloc | apply Kept.drewN | apply Kept.drew) | exact HK.out)⟩
def regletref13_begins.l0 : Nat → List (S53) → List (List Bool) → List Bool → List Bool → Int → Option (List Bool × Bool)
  | 0,_,_,_,_,_ => none
  | k + 1,x1,x2,x3,x10,x11 => if x11 < (x1.length : Int) then (if 0 ≤ x11 then (if (rd_T53 x1 x11).f0 = true then (if 0 ≤ ((rd_T53 x1 x11).f1) then (if ((rd_T53 x1 x11).f1) < (x10.length : Int) then (some ((x10.set (((rd_T53 x1 x11).f1) : Int).toNat true),false)) else (none)) else (none)) else (if 0 ≤ ((rd_T53 x1 x11).f1) then (if ((rd_T53 x1 x11).f1) < (x2.length : Int) then ((regletref13_join.f k x10 (rd_L13 x2 ((rd_T53 x1 x11).f1))).bind fun bt276 => (if ((rd_T53 x1 x11).f1) < (x3.length : Int) then (if (rdOf false x3 ((rd_T53 x1 x11).f1) = true) then (regletref13_begins.l0 k x1 x2 x3 bt276.2 (wrap64 (x11 + 1))) else (some (bt276.2,false))) else (none))) else (none)) else (none))) else (none)) else (some (x10,true))
def regletref13_begins.f (k : Nat) (l0_0 : List ByteArray) (l0_1 : List (S61)) (a0_2 : Int) (a0_3 : Int) (l0_4 : List (S30)) (l1 : List (S53)) (l2 : List (List Bool)) (l3 : List Bool) : Option (List Bool × Bool) := if 0 ≤ (wrap64 ((l0_1.length : Int) + 1)) then (if (wrap64 ((l0_1.length : Int) + 1) : Int).toNat ≤ 281474976710656 then (regletref13_begins.l0 k l1 l2 l3 (List.replicate (wrap64 ((l0_1.length : Int) + 1) : Int).toNat false) 0) else (none)) else (none)
set_option maxHeartbeats 8000000 in
set_option maxRecDepth 100000 in
theorem regletref13_begins.calls (k : Nat) (A0_0 : Option Addr) (c0_0 : Nat) (l0_0 : List ByteArray) (A0_1 : Option Addr) (c0_1 : Nat) (l0_1 : List (S61)) (a0_2 : Int) (a0_3 : Int) (A0_4 : Option Addr) (c0_4 : Nat) (l0_4 : List (S30)) (A1 : Option Addr) (c1 : Nat) (l1 : List (S53)) (A2 : Option Addr) (c2 : Nat) (l2 : List (List Bool)) (A3 : Option Addr) (c3 : Nat) (l3 : List Bool) (r1 : List Bool) (r2 : Bool) (w : World) (hr0_0 : Kd.C Kd.string w A0_0 l0_0.length l0_0) (hc0_0 : l0_0.length ≤ c0_0) (hr0_1 : Kd.C k61 w A0_1 l0_1.length l0_1) (hc0_1 : l0_1.length ≤ c0_1) (hr0_4 : Kd.C k30 w A0_4 l0_4.length l0_4) (hc0_4 : l0_4.length ≤ c0_4) (hr1 : Kd.C k53 w A1 l1.length l1) (hc1 : l1.length ≤ c1) (hr2 : Kd.C (Kd.slice 4 Kd.bool) w A2 l2.length l2) (hc2 : l2.length ≤ c2) (hr3 : Kd.C Kd.bool w A3 l3.length l3) (hc3 : l3.length ≤ c3) (h : regletref13_begins.f k l0_0 l0_1 a0_2 a0_3 l0_4 l1 l2 l3 = some (r1,r2)) :
    Calls Try.prog 29 #[.agg #[.slice A0_0 l0_0.length c0_0,.slice A0_1 l0_1.length c0_1,.int .i64 a0_2,.int .i64 a0_3,.slice A0_4 l0_4.length c0_4],.slice A1 l1.length c1,.slice A2 l2.length c2,.slice A3 l3.length c3] w fun e w' => ∃ v0_ : Value,e = .returned (.tuple #[v0_,.bool r2]) ∧ Kd.R Kd.bool 4 w' w.heap.size (fun _ => True) v0_ r1 ∧ Below w.heap.size w w' := by
 have hu26:=Try.underlying26
 have HR0_0:=Aside0.mk hr0_0
 have HC0_0:=Aside0.mk hc0_0
 clear hr0_0 hc0_0
 have HR0_1:=Aside0.mk hr0_1
 have HC0_1:=Aside0.mk hc0_1
 clear hr0_1 hc0_1
 have HR0_4:=Aside0.mk hr0_4
 have HC0_4:=Aside0.mk hc0_4
 clear hr0_4 hc0_4
 have HR1:=Aside0.mk hr1
 have HC1:=Aside0.mk hc1
 clear hr1 hc1
 have HR2:=Aside0.mk hr2
 have HC2:=Aside0.mk hc2
 clear hr2 hc2
 have HR3:=Aside0.mk hr3
 have HC3:=Aside0.mk hc3
 clear hr3 hc3
 have HB:=Aside0.mk (Below.refl w.heap.size w)
 have H : (if 0 ≤ (wrap64 ((l0_1.length : Int) + 1)) then (if (wrap64 ((l0_1.length : Int) + 1) : Int).toNat ≤ 281474976710656 then (regletref13_begins.l0 k l1 l2 l3 (List.replicate (wrap64 ((l0_1.length : Int) + 1) : Int).toNat false) 0) else (none)) else (none)) = some (r1,r2) := h
 clear h
 obtain ⟨ji5,hji5⟩ : ∃ j_ : Int,(wrap64 ((l0_1.length : Int) + 1)) = j_:=⟨_,rfl⟩
 replace H : (if 0 ≤ (ji5) then (if (ji5 : Int).toNat ≤ 281474976710656 then (regletref13_begins.l0 k l1 l2 l3 (List.replicate (ji5 : Int).toNat false) 0) else (none)) else (none)) = some (r1,r2) := by first | (rw [hji5] at H;exact H) | (simp only [hji5] at H ⊢;exact H)
 have hji5w : (IntKind.i64.wrap ((l0_1.length : Int) + 1)) = ji5:=(i64_w _).trans hji5
 by_cases c6 : 0 ≤ (ji5)
 rotate_left
 · rw [if_neg c6] at H
   exact absurd H (by simp)
 rw [if_pos c6] at H
 have c6b0:=eq_true c6
 have c6b1 : decide (0 ≤ (ji5)) = true:=decide_eq_true c6
 clear c6
 by_cases c7 : (ji5 : Int).toNat ≤ 281474976710656
 rotate_left
 · rw [if_neg c7] at H
   exact absurd H (by simp)
 rw [if_pos c7] at H
 have c7b0:=eq_true c7
 have c7b1 : decide ((ji5 : Int).toNat ≤ 281474976710656) = true:=decide_eq_true c7
 clear c7
 obtain ⟨y268,hy268⟩ : ∃ y_ : List Bool,y_ = (List.replicate (ji5 : Int).toNat false) := ⟨_,rfl⟩
 replace H : (regletref13_begins.l0 k l1 l2 l3 y268 0) = some (r1,r2) := by first | (rw [hy268];with_reducible exact H) | (have H2_:=(Option.bind_some _ _).symm.trans H;rw [hy268];with_reducible exact H2_) | (have H2_:=(Option.bind_some _ _).symm.trans H;with_reducible exact H2_) | with_reducible exact H | (rw [hy268];exact H) | exact H
 have Ny268:=Aside0.mk hy268
 clear hy268
 have H' := Aside0.mk H
 clear H
 go_enter Try.func29,Try.ntmps29
 go_wp2_with (first | ((with_reducible refine gate_dst (N:=4) rfl ?_);refine box_event ?hg (N:=4) ?hd (cs:=#[.slice A0_0 l0_0.length c0_0,.slice A0_1 l0_1.length c0_1,.int .i64 a0_2,.int .i64 a0_3,.slice A0_4 l0_4.length c0_4]) (t:=26) ?hr ?_;(case hd => rfl);(case hg => rfl);(case hr => first | (go_simp;done) | (go_simp;rfl));intro gb267 hg w8 hbox hb;have n0_:=Aside0.mk (below_step (by repeat (first | (with_reducible first | exact HB.out | apply below_alloc | apply pw_below_drewN | apply below_drew1) | exact HB.out)) hb);have n1_:=Aside0.mk (hbox);have n2_:=Aside0.mk ((by rw [hg];exact (below_size (by repeat (first | (with_reducible first | exact HB.out | apply below_alloc | apply pw_below_drewN | apply below_drew1) | exact HB.out))) : w.heap.size ≤ gb267));have n3_:=Aside0.mk ((by rw [hg];exact (below_size (by repeat (first | (with_reducible first | exact HB.out | apply below_alloc | apply pw_below_drewN | apply below_drew1) | exact HB.out))) : w.heap.size ≤ gb267));clear HB;have HB:=n0_;have BK267:=n1_;have GW267:=n2_;have GE267:=n3_;clear n0_ n1_ n2_ n3_;clear hb hbox hg;have hcz9_0 : w8.cell? ⟨gb267,0,none⟩ = some (.slice A0_0 l0_0.length c0_0) := (blk_cell BK267.out 0).trans rfl;have hcz9_1 : w8.cell? ⟨gb267,1,none⟩ = some (.slice A0_1 l0_1.length c0_1) := (blk_cell BK267.out 1).trans rfl;have hcz9_2 : w8.cell? ⟨gb267,2,none⟩ = some (.int .i64 a0_2) := (blk_cell BK267.out 2).trans rfl;have hcz9_3 : w8.cell? ⟨gb267,3,none⟩ = some (.int .i64 a0_3) := (blk_cell BK267.out 3).trans rfl;have hcz9_4 : w8.cell? ⟨gb267,4,none⟩ = some (.slice A0_4 l0_4.length c0_4) := (blk_cell BK267.out 4).trans rfl;have hfz9_0:=blk_frozen BK267.out 0;have hfz9_1:=blk_frozen BK267.out 1;have hfz9_2:=blk_frozen BK267.out 2;have hfz9_3:=blk_frozen BK267.out 3;have hfz9_4:=blk_frozen BK267.out 4) | ((with_reducible refine gate_dst (N:=16) rfl ?_);refine Kd.R_make Kd.bool _ 4 rfl (N:=16) rfl 65 _ _ rfl ji5 rfl rfl Try.underlying65 (.bool false) 1 info4 rfl (by decide) (by omega) false (ok:=fun _ => True) (okp:=fun _ => True) rfl (fun _ hk => hk) trivial (of_decide_eq_true (by first | (with_reducible assumption) | assumption)) (Nat.le_trans (Nat.mul_le_mul_right _ (of_decide_eq_true (by first | (with_reducible assumption) | assumption) : ji5.toNat ≤ 281474976710656)) (by omega)) (Below.refl _ _) (Nat.le_refl _) ?_;intro v269 w10 ho11 hb hg_ hnew_;clear hg_ hnew_;(first | rw [← Ny268.out] at ho11 | (simp only [Int.reduceToNat] at ho11;rw [← Ny268.out] at ho11));have n0_:=Aside0.mk (Kd.R_lower ho11 (below_size (by repeat (first | (with_reducible first | exact HB.out | apply below_alloc | apply pw_below_drewN | apply below_drew1 | refine below_set ?_ GE267.out) | exact HB.out))));have n1_:=Aside0.mk (blk_below (g:=gb267) (o := .cells #[.slice A0_0 l0_0.length c0_0,.slice A0_1 l0_1.length c0_1,.int .i64 a0_2,.int .i64 a0_3,.slice A0_4 l0_4.length c0_4] 26 (0,0)) (by (with_reducible repeat (first | refine blk_drewN ?_ _ | refine blk_drew ?_ | refine blk_alloc ?_ _));exact BK267.out) hb);have n2_:=Aside0.mk (below_step (by repeat (first | (with_reducible first | exact HB.out | apply below_alloc | apply pw_below_drewN | apply below_drew1 | refine below_set ?_ GE267.out) | exact HB.out)) hb);clear BK267;clear HB;have HO270:=n0_;have BK267:=n1_;have HB:=n2_;clear n0_ n1_ n2_;clear hb ho11))
 go_loopg [11] k (fun kq v11 w' => ∃ (x10_1 : List Bool) (x11_1 : Int),v11 = .int .i64 x11_1 ∧ Aside0 (regletref13_begins.l0 kq l1 l2 l3 x10_1 x11_1 = some (r1,r2)) ∧ Aside0 (kq ≤ k) ∧ Aside0 (Kd.R Kd.bool 4 w' w.heap.size (fun _ => True) v269 x10_1) ∧ Aside0 (w'.heap[gb267]? = some (.cells #[(.slice A0_0 l0_0.length c0_0),(.slice A0_1 l0_1.length c0_1),.int .i64 a0_2,.int .i64 a0_3,(.slice A0_4 l0_4.length c0_4)] 26 (0,0))) ∧ Aside0 (Below w.heap.size w w'))
 case atStart => exact ⟨(y268),(0),(by first | rfl | (simp;done) | (simp [*];done)),H',⟨Nat.le_refl _⟩,⟨by (with_reducible repeat (first | apply Kd.R_alloc | apply Kd.R_drewN | apply Kd.R_drew));exact HO270.out⟩,⟨by (with_reducible repeat (first | refine blk_drewN ?_ _ | refine blk_drew ?_ | refine blk_alloc ?_ _));exact BK267.out⟩,⟨by repeat (first | (with_reducible first | exact HB.out | apply below_alloc | apply pw_below_drewN | apply below_drew1 | refine below_set ?_ GE267.out) | exact HB.out)⟩⟩
 case round =>
  clear H'
  (try clear c1);(try clear c2);(try clear p2);(try clear c3);(try clear c6);(try clear c6b0);(try clear c6b1);(try clear p6);(try clear c7);(try clear c7b0);(try clear c7b1);(try clear hcz9_0);(try clear hcz9_1);(try clear hcz9_2);(try clear hcz9_3);(try clear hcz9_4);(try clear hfz9_0);(try clear hfz9_1);(try clear hfz9_2);(try clear hfz9_3);(try clear hfz9_4)
  obtain ⟨x10_1,x11_1,rfl,HA,HK1,HO_10,BK267,HB⟩ := hrel
  cases gk with
  | zero => exact absurd HA.out (by simp [regletref13_begins.l0])
  | succ k1 =>
   have H:=HA.out
   clear HA
   simp only [regletref13_begins.l0] at H
   by_cases c12 : x11_1 < (l1.length : Int)
   · rw [if_pos c12] at H
     have c12b0 : decide (x11_1 < (l1.length : Int)) = true:=decide_eq_true c12
     clear c12
     by_cases c13 : 0 ≤ x11_1
     rotate_left
     · rw [if_neg c13] at H
       exact absurd H (by simp)
     rw [if_pos c13] at H
     have c13b0 : decide (0 ≤ x11_1) = true:=decide_eq_true c13
     clear c13
     obtain ⟨bq14,hbq14⟩ : ∃ b_ : Bool,b_ = ((rd_T53 l1 x11_1).f0) := ⟨_,rfl⟩
     replace H : (if bq14 = true then (if 0 ≤ ((rd_T53 l1 x11_1).f1) then (if ((rd_T53 l1 x11_1).f1) < (x10_1.length : Int) then (some ((x10_1.set (((rd_T53 l1 x11_1).f1) : Int).toNat true),false)) else (none)) else (none)) else (if 0 ≤ ((rd_T53 l1 x11_1).f1) then (if ((rd_T53 l1 x11_1).f1) < (l2.length : Int) then ((regletref13_join.f k1 x10_1 (rd_L13 l2 ((rd_T53 l1 x11_1).f1))).bind fun bt276 => (if ((rd_T53 l1 x11_1).f1) < (l3.length : Int) then (if (rdOf false l3 ((rd_T53 l1 x11_1).f1) = true) then (regletref13_begins.l0 k1 l1 l2 l3 bt276.2 (wrap64 (x11_1 + 1))) else (some (bt276.2,false))) else (none))) else (none)) else (none))) = some (r1,r2) := by rw [← hbq14] at H;exact H
     have Nbq14:=Aside0.mk hbq14
     clear hbq14
     by_cases c15 : bq14 = true
     · subst c15
       have H1 : (if 0 ≤ ((rd_T53 l1 x11_1).f1) then (if ((rd_T53 l1 x11_1).f1) < (x10_1.length : Int) then (some ((x10_1.set (((rd_T53 l1 x11_1).f1) : Int).toNat true),false)) else (none)) else (none)) = some (r1,r2) := by rw [if_pos rfl] at H;exact H
       clear H
       have H:=H1
       clear H1
       by_cases c16 : 0 ≤ ((rd_T53 l1 x11_1).f1)
       rotate_left
       · rw [if_neg c16] at H
         exact absurd H (by simp)
       rw [if_pos c16] at H
       have c16b0 : decide (0 ≤ ((rd_T53 l1 x11_1).f1)) = true:=decide_eq_true c16
       clear c16
       by_cases c17 : ((rd_T53 l1 x11_1).f1) < (x10_1.length : Int)
       rotate_left
       · rw [if_neg c17] at H
         exact absurd H (by simp)
       rw [if_pos c17] at H
       have c17b0 : decide (((rd_T53 l1 x11_1).f1) < (x10_1.length : Int)) = true:=decide_eq_true c17
       clear c17
       obtain ⟨y273,hy273⟩ : ∃ y_ : List Bool,y_ = (x10_1.set (((rd_T53 l1 x11_1).f1) : Int).toNat true) := ⟨_,rfl⟩
       replace H : (some (y273,false)) = some (r1,r2) := by first | (rw [hy273];with_reducible exact H) | (have H2_:=(Option.bind_some _ _).symm.trans H;rw [hy273];with_reducible exact H2_) | (have H2_:=(Option.bind_some _ _).symm.trans H;with_reducible exact H2_) | with_reducible exact H | (rw [hy273];exact H) | exact H
       have Ny273:=Aside0.mk hy273
       clear hy273
       simp only [Option.some.injEq,Prod.mk.injEq] at H
       obtain ⟨rfl,rfl⟩ := H
       have p271 : 0 ≤ (x11_1 : Int) := of_decide_eq_true (by first | (with_reducible assumption) | assumption)
       have q271 : x11_1 < (l1.length : Int) := of_decide_eq_true (by first | (with_reducible assumption) | assumption)
       obtain ⟨ad271,e271,hx271_0,hx271_1⟩ := at_T53 HR1.out x11_1 p271 q271
       (try rw [← Nbq14.out] at hx271_0)
       cases e271
       replace hx271_0:=(HB.out.cell (World.block_lt_of_cell? w _ hx271_0)).trans hx271_0
       replace hx271_1:=(HB.out.cell (World.block_lt_of_cell? w _ hx271_1)).trans hx271_1
       replace p271:=eq_true p271
       replace q271:=eq_true q271
       have p272 : 0 ≤ (x11_1 : Int) := of_decide_eq_true (by first | (with_reducible assumption) | assumption)
       have q272 : x11_1 < (l1.length : Int) := of_decide_eq_true (by first | (with_reducible assumption) | assumption)
       obtain ⟨ad272,e272,hx272_0,hx272_1⟩ := at_T53 HR1.out x11_1 p272 q272
       (try rw [← Nbq14.out] at hx272_0)
       obtain rfl : ad271 = ad272:=(by injection e272)
       replace hx272_0:=(HB.out.cell (World.block_lt_of_cell? w _ hx272_0)).trans hx272_0
       replace hx272_1:=(HB.out.cell (World.block_lt_of_cell? w _ hx272_1)).trans hx272_1
       replace p272:=eq_true p272
       replace q272:=eq_true q272
       have p18 : 0 ≤ (((rd_T53 l1 x11_1).f1) : Int) := of_decide_eq_true (by first | (with_reducible assumption) | assumption)
       have q18 : (((rd_T53 l1 x11_1).f1) : Int) < ((x10_1.length : Int) : Int) := of_decide_eq_true (by first | (with_reducible assumption) | assumption)
       obtain ⟨go18,co18,eo18,gb18,gl18,cl18,HG18⟩ := Kd.R_form HO_10.out (by omega)
       (first | cases eo18 | (injection eo18 with ea_ en_ ec_;(first | subst ea_ | (injection ea_ with ea_;subst ea_));subst ec_;clear en_))
       have GB18:=Aside0.mk gb18
       have GG18:=Aside0.mk HG18
       clear gb18 gl18 HG18
       obtain ⟨hx18_0,hf18_0⟩ := Kd.R_celln false HO_10.out (((rd_T53 l1 x11_1).f1) : Int) p18 q18
       replace p18:=eq_true p18
       replace q18:=eq_true q18
       have HP19:=Kd.R_putg HO_10.out (((rd_T53 l1 x11_1).f1) : Int) true
       go_wp2_with (first | ((with_reducible refine gate_store (t:=4) (p:=34) rfl ?_);refine store_event (t:=4) (p:=34) (v:=?vo_w20) (w1:=(wr.setCell ⟨go18,(((rd_T53 l1 x11_1).f1) : Int).toNat,none⟩ (.bool true))) ?hg ?ho ?hn ?hr ?_;(case ho => rfl);(case hg => rfl);(case hn => rfl);(case hr => first | (go_simp;done) | (go_simp;rfl));intro w20 hw;have hg : wr.grownBy w20 (some go18) := (by rw [hw];exact HP19.2);have hp_ : Kd.R Kd.bool 4 w20 w.heap.size (fun _ => True) (.slice (some ⟨go18,0,none⟩) x10_1.length co18) y273:=(by rw [hw,Ny273.out];exact HP19.1);clear HP19;have n0_:=Aside0.mk (hp_);have n1_:=Aside0.mk (blk_grown (g:=gb267) (o := .cells #[.slice A0_0 l0_0.length c0_0,.slice A0_1 l0_1.length c0_1,.int .i64 a0_2,.int .i64 a0_3,.slice A0_4 l0_4.length c0_4] 26 (0,0)) (by (with_reducible repeat (first | refine blk_drewN ?_ _ | refine blk_drew ?_ | refine blk_alloc ?_ _));exact BK267.out) hg (Kd.R_ne HO_10.out BK267.out (by decide)));have n2_:=Aside0.mk ((by rw [hw];exact below_set (HB.out) GB18.out : Below w.heap.size w w20));clear HO_10;clear BK267;clear HB;have HO_10:=n0_;have BK267:=n1_;have HB:=n2_;clear n0_ n1_ n2_;clear hg hw hp_))
       go_ret2
       exact ⟨_,by first | rfl | (simp [errW_none,errW_some] <;> rfl) | (simp only [← hji5];first | rfl | (simp [errW_none,errW_some] <;> rfl)) | (simp [*,errW_none,errW_some] <;> rfl),by (with_reducible repeat (first | apply Kd.R_alloc | apply Kd.R_drewN | apply Kd.R_drew));exact HO_10.out,by repeat (first | (with_reducible first | exact HB.out | apply below_alloc | apply pw_below_drewN | apply below_drew1 | refine below_set ?_ GE267.out) | exact HB.out)⟩
     · replace c15:=Bool.eq_false_iff.mpr c15
       subst c15
       have H1 : (if 0 ≤ ((rd_T53 l1 x11_1).f1) then (if ((rd_T53 l1 x11_1).f1) < (l2.length : Int) then ((regletref13_join.f k1 x10_1 (rd_L13 l2 ((rd_T53 l1 x11_1).f1))).bind fun bt276 => (if ((rd_T53 l1 x11_1).f1) < (l3.length : Int) then (if (rdOf false l3 ((rd_T53 l1 x11_1).f1) = true) then (regletref13_begins.l0 k1 l1 l2 l3 bt276.2 (wrap64 (x11_1 + 1))) else (some (bt276.2,false))) else (none))) else (none)) else (none)) = some (r1,r2) := by rw [if_neg (show ¬ (false = true) by decide)] at H;exact H
       clear H
       have H:=H1
       clear H1
       by_cases c21 : 0 ≤ ((rd_T53 l1 x11_1).f1)
       rotate_left
       · rw [if_neg c21] at H
         exact absurd H (by simp)
       rw [if_pos c21] at H
       have c21b0 : decide (0 ≤ ((rd_T53 l1 x11_1).f1)) = true:=decide_eq_true c21
       clear c21
       by_cases c22 : ((rd_T53 l1 x11_1).f1) < (l2.length : Int)
       rotate_left
       · rw [if_neg c22] at H
         exact absurd H (by simp)
       rw [if_pos c22] at H
       have c22b0 : decide (((rd_T53 l1 x11_1).f1) < (l2.length : Int)) = true:=decide_eq_true c22
       clear c22
       replace H:=Option.bind_eq_some_iff.mp H
       obtain ⟨⟨t276,t277⟩,A230,H⟩ := H
       replace H : (if ((rd_T53 l1 x11_1).f1) < (l3.length : Int) then (if (rdOf false l3 ((rd_T53 l1 x11_1).f1) = true) then (regletref13_begins.l0 k1 l1 l2 l3 t277 (wrap64 (x11_1 + 1))) else (some (t277,false))) else (none)) = some (r1,r2) := H
       have A23:=Aside0.mk A230
       clear A230
       by_cases c24 : ((rd_T53 l1 x11_1).f1) < (l3.length : Int)
       rotate_left
       · rw [if_neg c24] at H
         exact absurd H (by simp)
       rw [if_pos c24] at H
       have c24b0 : decide (((rd_T53 l1 x11_1).f1) < (l3.length : Int)) = true:=decide_eq_true c24
       clear c24
       obtain ⟨bq25,hbq25⟩ : ∃ b_ : Bool,b_ = (rdOf false l3 ((rd_T53 l1 x11_1).f1)) := ⟨_,rfl⟩
       replace H : (if (bq25 = true) then (regletref13_begins.l0 k1 l1 l2 l3 t277 (wrap64 (x11_1 + 1))) else (some (t277,false))) = some (r1,r2) := by rw [← hbq25] at H;exact H
       have Nbq25:=Aside0.mk hbq25
       clear hbq25
       by_cases c26 : (bq25 = true)
       · subst c26
         have H1 : (regletref13_begins.l0 k1 l1 l2 l3 t277 (wrap64 (x11_1 + 1))) = some (r1,r2) := by rw [if_pos rfl] at H;exact H
         clear H
         have H:=H1
         clear H1
         have H' := Aside0.mk H
         clear H
         have p271 : 0 ≤ (x11_1 : Int) := of_decide_eq_true (by first | (with_reducible assumption) | assumption)
         have q271 : x11_1 < (l1.length : Int) := of_decide_eq_true (by first | (with_reducible assumption) | assumption)
         obtain ⟨ad271,e271,hx271_0,hx271_1⟩ := at_T53 HR1.out x11_1 p271 q271
         (try rw [← Nbq14.out] at hx271_0)
         (try rw [← Nbq25.out] at hx271_0)
         cases e271
         replace hx271_0:=(HB.out.cell (World.block_lt_of_cell? w _ hx271_0)).trans hx271_0
         replace hx271_1:=(HB.out.cell (World.block_lt_of_cell? w _ hx271_1)).trans hx271_1
         replace p271:=eq_true p271
         replace q271:=eq_true q271
         have p274 : 0 ≤ (x11_1 : Int) := of_decide_eq_true (by first | (with_reducible assumption) | assumption)
         have q274 : x11_1 < (l1.length : Int) := of_decide_eq_true (by first | (with_reducible assumption) | assumption)
         obtain ⟨ad274,e274,hx274_0,hx274_1⟩ := at_T53 HR1.out x11_1 p274 q274
         (try rw [← Nbq14.out] at hx274_0)
         (try rw [← Nbq25.out] at hx274_0)
         obtain rfl : ad271 = ad274:=(by injection e274)
         replace hx274_0:=(HB.out.cell (World.block_lt_of_cell? w _ hx274_0)).trans hx274_0
         replace hx274_1:=(HB.out.cell (World.block_lt_of_cell? w _ hx274_1)).trans hx274_1
         replace p274:=eq_true p274
         replace q274:=eq_true q274
         have p275 : 0 ≤ (((rd_T53 l1 x11_1).f1) : Int) := of_decide_eq_true (by first | (with_reducible assumption) | assumption)
         have q275 : ((rd_T53 l1 x11_1).f1) < (l2.length : Int) := of_decide_eq_true (by first | (with_reducible assumption) | assumption)
         obtain ⟨ad275,A275_0,c275_0,e275,hx275_0,hl275_0,hi275_0⟩ := at_L13 HR2.out ((rd_T53 l1 x11_1).f1) p275 q275
         cases e275
         replace hx275_0:=(HB.out.cell (World.block_lt_of_cell? w _ hx275_0)).trans hx275_0
         have HR275_0:=Aside0.mk hi275_0
         have HC275_0:=Aside0.mk hl275_0
         clear hi275_0 hl275_0
         replace p275:=eq_true p275
         replace q275:=eq_true q275
         obtain ⟨Ao27,co27,eo27⟩ := Kd.R_slice HO_10.out
         subst eo27
         go_wp2_with (first | ((with_reducible refine gate_callee (f:=30) rfl ?_);refine goesL_ (some 45) rfl rfl Try.func30 (by kernel_rfl) rfl #[.slice Ao27 x10_1.length co27,.slice A275_0 (rd_L13 l2 ((rd_T53 l1 x11_1).f1)).length c275_0] rfl (by (try simp only [List.map_toArray,List.map_cons,List.map_nil]);first | done | rfl | (simp only [List.length_drop,List.length_take];rfl)) ?_;(with_reducible refine (regletref13_join.calls k1 (fun k_ => some k_ = (.slice Ao27 x10_1.length co27 : Value).ownBlock) (.slice Ao27 x10_1.length co27) x10_1 _ _ (rd_L13 l2 ((rd_T53 l1 x11_1).f1)) t276 t277 w _ ?side1 ?side2 ?side3 ?side4 A23.out).mono ?_);(case side1 => repeat (first | (with_reducible first | exact HB.out | apply below_alloc | apply pw_below_drewN | apply below_drew1 | refine below_set ?_ GE267.out) | exact HB.out));(case side2 => exact Kd.R_tight rfl HO_10.out);(case side3 => exact Kd.C_kept_came Kd.heap_bool HR275_0.out (by repeat (first | (with_reducible first | exact HB.out | apply below_alloc | apply pw_below_drewN | apply below_drew1 | refine below_set ?_ GE267.out) | exact HB.out)) (fun k_ hs_ => (fun e_ => Kd.R_base HO_10.out k_ e_.symm) hs_));(case side4 => exact HC275_0.out);rintro e w28 ⟨rfl,hy0,hb,hkp⟩;refine ⟨_,rfl,?_⟩;have n0_:=Aside0.mk (Kd.R_reok rfl hy0 (fun k_ e_ => HO_10.out.1 k_ e_));have n1_:=Aside0.mk (blk_kept (by (with_reducible repeat (first | refine blk_drewN ?_ _ | refine blk_drew ?_ | refine blk_alloc ?_ _));exact BK267.out) hkp (fun hs_ => (fun e_ => (Kd.R_ne HO_10.out BK267.out (by decide)) e_) hs_));have n2_:=Aside0.mk (hb);clear HO_10;clear BK267;clear HB;have HO_10:=n0_;have BK267:=n1_;have HB:=n2_;clear n0_ n1_ n2_;(try clear hb);(try clear hkp);(try clear hy0);have p278 : 0 ≤ (x11_1 : Int) := of_decide_eq_true (by first | (with_reducible assumption) | assumption);have q278 : x11_1 < (l1.length : Int) := of_decide_eq_true (by first | (with_reducible assumption) | assumption);obtain ⟨ad278,e278,hx278_0,hx278_1⟩ := at_T53 HR1.out x11_1 p278 q278;(try rw [← Nbq14.out] at hx278_0);(try rw [← Nbq25.out] at hx278_0);obtain rfl : ad271 = ad278:=(by injection e278);replace hx278_0:=(HB.out.cell (World.block_lt_of_cell? w _ hx278_0)).trans hx278_0;replace hx278_1:=(HB.out.cell (World.block_lt_of_cell? w _ hx278_1)).trans hx278_1;replace p278:=eq_true p278;replace q278:=eq_true q278;have p279 : 0 ≤ (((rd_T53 l1 x11_1).f1) : Int) := of_decide_eq_true (by first | (with_reducible assumption) | assumption);have q279 : ((rd_T53 l1 x11_1).f1) < (l3.length : Int) := of_decide_eq_true (by first | (with_reducible assumption) | assumption);obtain ⟨ad279,e279,hx279_0⟩ := Kd.at_bool HR3.out ((rd_T53 l1 x11_1).f1) p279 q279;(try rw [← Nbq14.out] at hx279_0);(try rw [← Nbq25.out] at hx279_0);cases e279;replace hx279_0:=(HB.out.cell (World.block_lt_of_cell? w _ hx279_0)).trans hx279_0;replace p279:=eq_true p279;replace q279:=eq_true q279))
         go_roundg k1
         case measure => have:=HK1.out;omega
         case rel => exact ⟨(t277),(wrap64 (x11_1 + 1)),(by first | rfl | (simp;done) | (simp [*];done)),H',⟨by have:=HK1.out;omega⟩,⟨by (with_reducible repeat (first | apply Kd.R_alloc | apply Kd.R_drewN | apply Kd.R_drew));exact HO_10.out⟩,⟨by (with_reducible repeat (first | refine blk_drewN ?_ _ | refine blk_drew ?_ | refine blk_alloc ?_ _));exact BK267.out⟩,⟨by repeat (first | (with_reducible first | exact HB.out | apply below_alloc | apply pw_below_drewN | apply below_drew1 | refine below_set ?_ GE267.out) | exact HB.out)⟩⟩
       · replace c26:=Bool.eq_false_iff.mpr c26
         subst c26
         have H1 : (some (t277,false)) = some (r1,r2) := by rw [if_neg (show ¬ (false = true) by decide)] at H;exact H
         clear H
         have H:=H1
         clear H1
         simp only [Option.some.injEq,Prod.mk.injEq] at H
         obtain ⟨rfl,rfl⟩ := H
         have p271 : 0 ≤ (x11_1 : Int) := of_decide_eq_true (by first | (with_reducible assumption) | assumption)
         have q271 : x11_1 < (l1.length : Int) := of_decide_eq_true (by first | (with_reducible assumption) | assumption)
         obtain ⟨ad271,e271,hx271_0,hx271_1⟩ := at_T53 HR1.out x11_1 p271 q271
         (try rw [← Nbq14.out] at hx271_0)
         (try rw [← Nbq25.out] at hx271_0)
         cases e271
         replace hx271_0:=(HB.out.cell (World.block_lt_of_cell? w _ hx271_0)).trans hx271_0
         replace hx271_1:=(HB.out.cell (World.block_lt_of_cell? w _ hx271_1)).trans hx271_1
         replace p271:=eq_true p271
         replace q271:=eq_true q271
         have p274 : 0 ≤ (x11_1 : Int) := of_decide_eq_true (by first | (with_reducible assumption) | assumption)
         have q274 : x11_1 < (l1.length : Int) := of_decide_eq_true (by first | (with_reducible assumption) | assumption)
         obtain ⟨ad274,e274,hx274_0,hx274_1⟩ := at_T53 HR1.out x11_1 p274 q274
         (try rw [← Nbq14.out] at hx274_0)
         (try rw [← Nbq25.out] at hx274_0)
         obtain rfl : ad271 = ad274:=(by injection e274)
         replace hx274_0:=(HB.out.cell (World.block_lt_of_cell? w _ hx274_0)).trans hx274_0
         replace hx274_1:=(HB.out.cell (World.block_lt_of_cell? w _ hx274_1)).trans hx274_1
         replace p274:=eq_true p274
         replace q274:=eq_true q274
         have p275 : 0 ≤ (((rd_T53 l1 x11_1).f1) : Int) := of_decide_eq_true (by first | (with_reducible assumption) | assumption)
         have q275 : ((rd_T53 l1 x11_1).f1) < (l2.length : Int) := of_decide_eq_true (by first | (with_reducible assumption) | assumption)
         obtain ⟨ad275,A275_0,c275_0,e275,hx275_0,hl275_0,hi275_0⟩ := at_L13 HR2.out ((rd_T53 l1 x11_1).f1) p275 q275
         cases e275
         replace hx275_0:=(HB.out.cell (World.block_lt_of_cell? w _ hx275_0)).trans hx275_0
         have HR275_0:=Aside0.mk hi275_0
         have HC275_0:=Aside0.mk hl275_0
         clear hi275_0 hl275_0
         replace p275:=eq_true p275
         replace q275:=eq_true q275
         obtain ⟨Ao29,co29,eo29⟩ := Kd.R_slice HO_10.out
         subst eo29
         go_wp2_with (first | ((with_reducible refine gate_callee (f:=30) rfl ?_);refine goesL_ (some 45) rfl rfl Try.func30 (by kernel_rfl) rfl #[.slice Ao29 x10_1.length co29,.slice A275_0 (rd_L13 l2 ((rd_T53 l1 x11_1).f1)).length c275_0] rfl (by (try simp only [List.map_toArray,List.map_cons,List.map_nil]);first | done | rfl | (simp only [List.length_drop,List.length_take];rfl)) ?_;(with_reducible refine (regletref13_join.calls k1 (fun k_ => some k_ = (.slice Ao29 x10_1.length co29 : Value).ownBlock) (.slice Ao29 x10_1.length co29) x10_1 _ _ (rd_L13 l2 ((rd_T53 l1 x11_1).f1)) t276 t277 w _ ?side1 ?side2 ?side3 ?side4 A23.out).mono ?_);(case side1 => repeat (first | (with_reducible first | exact HB.out | apply below_alloc | apply pw_below_drewN | apply below_drew1 | refine below_set ?_ GE267.out) | exact HB.out));(case side2 => exact Kd.R_tight rfl HO_10.out);(case side3 => exact Kd.C_kept_came Kd.heap_bool HR275_0.out (by repeat (first | (with_reducible first | exact HB.out | apply below_alloc | apply pw_below_drewN | apply below_drew1 | refine below_set ?_ GE267.out) | exact HB.out)) (fun k_ hs_ => (fun e_ => Kd.R_base HO_10.out k_ e_.symm) hs_));(case side4 => exact HC275_0.out);rintro e w30 ⟨rfl,hy0,hb,hkp⟩;refine ⟨_,rfl,?_⟩;have n0_:=Aside0.mk (Kd.R_reok rfl hy0 (fun k_ e_ => HO_10.out.1 k_ e_));have n1_:=Aside0.mk (blk_kept (by (with_reducible repeat (first | refine blk_drewN ?_ _ | refine blk_drew ?_ | refine blk_alloc ?_ _));exact BK267.out) hkp (fun hs_ => (fun e_ => (Kd.R_ne HO_10.out BK267.out (by decide)) e_) hs_));have n2_:=Aside0.mk (hb);clear HO_10;clear BK267;clear HB;have HO_10:=n0_;have BK267:=n1_;have HB:=n2_;clear n0_ n1_ n2_;(try clear hb);(try clear hkp);(try clear hy0);have p278 : 0 ≤ (x11_1 : Int) := of_decide_eq_true (by first | (with_reducible assumption) | assumption);have q278 : x11_1 < (l1.length : Int) := of_decide_eq_true (by first | (with_reducible assumption) | assumption);obtain ⟨ad278,e278,hx278_0,hx278_1⟩ := at_T53 HR1.out x11_1 p278 q278;(try rw [← Nbq14.out] at hx278_0);(try rw [← Nbq25.out] at hx278_0);obtain rfl : ad271 = ad278:=(by injection e278);replace hx278_0:=(HB.out.cell (World.block_lt_of_cell? w _ hx278_0)).trans hx278_0;replace hx278_1:=(HB.out.cell (World.block_lt_of_cell? w _ hx278_1)).trans hx278_1;replace p278:=eq_true p278;replace q278:=eq_true q278;have p279 : 0 ≤ (((rd_T53 l1 x11_1).f1) : Int) := of_decide_eq_true (by first | (with_reducible assumption) | assumption);have q279 : ((rd_T53 l1 x11_1).f1) < (l3.length : Int) := of_decide_eq_true (by first | (with_reducible assumption) | assumption);obtain ⟨ad279,e279,hx279_0⟩ := Kd.at_bool HR3.out ((rd_T53 l1 x11_1).f1) p279 q279;(try rw [← Nbq14.out] at hx279_0);(try rw [← Nbq25.out] at hx279_0);cases e279;replace hx279_0:=(HB.out.cell (World.block_lt_of_cell? w _ hx279_0)).trans hx279_0;replace p279:=eq_true p279;replace q279:=eq_true q279))
         go_ret2
         exact ⟨_,by first | rfl | (simp [errW_none,errW_some] <;> rfl) | (simp only [← hji5];first | rfl | (simp [errW_none,errW_some] <;> rfl)) | (simp [*,errW_none,errW_some] <;> rfl),by (with_reducible repeat (first | apply Kd.R_alloc | apply Kd.R_drewN | apply Kd.R_drew));exact HO_10.out,by repeat (first | (with_reducible first | exact HB.out | apply below_alloc | apply pw_below_drewN | apply below_drew1 | refine below_set ?_ GE267.out) | exact HB.out)⟩
   · rw [if_neg c12] at H
     have c12b0 : decide (x11_1 < (l1.length : Int)) = false:=decide_eq_false c12
     clear c12
     simp only [Option.some.injEq,Prod.mk.injEq] at H
     obtain ⟨rfl,rfl⟩ := H
     go_wp2
     go_ret2
     exact ⟨_,by first | rfl | (simp [errW_none,errW_some] <;> rfl) | (simp only [← hji5];first | rfl | (simp [errW_none,errW_some] <;> rfl)) | (simp [*,errW_none,errW_some] <;> rfl),by (with_reducible repeat (first | apply Kd.R_alloc | apply Kd.R_drewN | apply Kd.R_drew));exact HO_10.out,by repeat (first | (with_reducible first | exact HB.out | apply below_alloc | apply pw_below_drewN | apply below_drew1 | refine below_set ?_ GE267.out) | exact HB.out)⟩
end Go.Proofs.Ytfdcfihcfegekaa.P
end
