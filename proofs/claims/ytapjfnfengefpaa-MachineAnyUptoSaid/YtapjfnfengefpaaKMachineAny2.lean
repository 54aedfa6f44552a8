/- Packed texts of this claim: the walks of the functions, and their plain laws; see the claim's last text. -/
import Derived.Test.YtapjfnfengefpaaRows
import Derived.ChangeArms
import Derived.DataReads
import Derived.DataElems
import Derived.ChangeOld
import Derived.Test.YtapjfnfengefpaaProg
import Derived.Below
import Derived.Deep.Draws
import Derived.Deep.AppendLies
import Derived.Maps.AppendAt
import Derived.OwnWalk
import Derived.Laws.BytesArg
import Derived.Laws.MakeOwn
import Derived.Laws.OwnMore
import Derived.Deep.OwnRows
import Derived.Tactics
import Derived.Lib.ConvBytes
import Derived.Laws.Slices
import Derived.WalkKit
import Derived.KernelRfl
import Derived.RowKit3
import Derived.Deep.LoopGhost
import Derived.Deep.QuietTactic
import Derived.BigQuiet
import Derived.WideLaws
import Derived.Deep.DeepCutAuto
import Derived.Deep.CutBlock
import Derived.Deep.RegionHeld3
import Derived.Laws.Rows
import Derived.Lib.AppendStr
import Derived.ArgAppend
import Derived.Laws.IdiomCopy
import Derived.OrdersHeld
import Derived.Laws.BitsLemmas
import Derived.RowKit
import Derived.Laws.Runes
import Derived.Shelf.Abstract
import Derived.Test.YtapjfnfengefpaaKMachineAny1
section
namespace Go.Proofs.Ytapjfnfengefpaa.Open
open Go.RowKit Go.Proofs.YtapjfnfengefpaaW.PrintWords
set_option linter.unusedVariables false
theorem one_le {H : Type} (d : DataW H) : 1 ≤ Rows.uptoBulk d:=by
 cases d with
 | lit l => cases l <;> simp [Rows.uptoBulk]
 | nil => simp [Rows.uptoBulk]
 | ptr d => simp [Rows.uptoBulk]
 | slice elems spare => simp [Rows.uptoBulk]
 | agg parts => simp [Rows.uptoBulk]
 | iface t d => simp [Rows.uptoBulk]
 | map entries => simp [Rows.uptoBulk]
 | held h => simp [Rows.uptoBulk]
def szL {α : Type} (sz : α → Nat) : List α → Nat
  | [] => 1
  | x :: xs => sz x + szL sz xs
theorem szL_length {α : Type} {sz : α → Nat} (h : ∀ x,1 ≤ sz x) : ∀ xs : List α,xs.length + 1 ≤ szL sz xs
  | [] => Nat.le_refl _
  | x :: xs => by have:=szL_length h xs;have:=h x;simp only [szL,List.length_cons];omega
theorem szL_mem {α : Type} {sz : α → Nat} {x : α} : ∀ {xs : List α},x ∈ xs → sz x ≤ szL sz xs
  | y :: xs,h => by
    rcases List.mem_cons.1 h with rfl | h
    · simp only [szL];omega
    · have:=szL_mem (sz:=sz) h;simp only [szL];omega
variable {H : Type} {enc : TypeId × Value → H} {P : Program} {W : World}
def OpenS (enc : TypeId × Value → H) (P : Program) (W : World) {α : Type} (d : Kd α) (sz : α → Nat) (t : TypeId) (n : Nat) : Prop :=
  ∀ fuel,fuel ≤ n → ∀ (cs : List Value) (x : DataW H × List MemPlace),DataW.trod enc P W 0 (fun _ => true) true fuel t cs = some x → ∃ a,d.K W a cs ∧ sz a ≤ Rows.uptoBulk x.1
theorem OpenS.le {α : Type} {d : Kd α} {sz : α → Nat} {t : TypeId} {n m : Nat} (h : OpenS enc P W d sz t n) (hm : m ≤ n) : OpenS enc P W d sz t m:=fun f hf => h f (Nat.le_trans hf hm)
theorem openS_zero {α : Type} {d : Kd α} {sz : α → Nat} {t : TypeId} : OpenS enc P W d sz t 0:=fun f hf cs x h => by
  obtain rfl : f = 0:=by omega
  simp [DataW.trod] at h
theorem openS_int {t : TypeId} {k : IntKind} (ht : P.underlying t = some (.int k)) (n : Nat) : OpenS enc P W (Kd.int k) (fun _ => 1) t n:=fun f _ cs x h => by
  obtain ⟨a,rfl,rfl,_⟩ := DataW.trod_int ht h
  exact ⟨a,rfl,one_le _⟩
theorem openS_bool {t : TypeId} (ht : P.underlying t = some .bool) (n : Nat) : OpenS enc P W Kd.bool (fun _ => 1) t n:=fun f _ cs x h => by
  obtain ⟨a,rfl,rfl⟩ := DataW.trod_bool ht h
  exact ⟨a,rfl,one_le _⟩
theorem openS_string {t : TypeId} (ht : P.underlying t = some .string) (n : Nat) : OpenS enc P W Kd.string (fun _ => 1) t n:=fun f _ cs x h => by
  obtain ⟨a,rfl,rfl,_⟩ := DataW.trod_string ht h
  exact ⟨a,rfl,one_le _⟩
theorem list_of {α : Type} {p : Nat → α → Prop} : ∀ n : Nat,(∀ i,i < n → ∃ a,p i a) → ∃ xs : List α,xs.length = n ∧ ∀ i x,xs[i]? = some x → p i x
  | 0,_ => ⟨[],rfl,fun i x h => by simp at h⟩
  | n + 1,h => by
    obtain ⟨xs,hl,hp⟩ := list_of n (fun i hi => h i (by omega))
    obtain ⟨a,ha⟩ := h n (by omega)
    refine ⟨xs ++ [a],by simp [hl],fun i x hx => ?_⟩
    rcases Nat.lt_or_ge i xs.length with hi | hi
    · rw [List.getElem?_append_left hi] at hx;exact hp i x hx
    · have hi2 : i < (xs ++ [a]).length:=(List.getElem?_eq_some_iff.1 hx).1
      have : i = xs.length:=by simp at hi2;omega
      subst this
      rw [List.getElem?_append_right (Nat.le_refl _)] at hx
      simp at hx
      rw [← hx,hl];exact ha
theorem bulk_all {α : Type} {sz : α → Nat} : ∀ (xs : List α) (es : List (DataW H)),xs.length = es.length → (∀ (i : Nat) (x : α) (e : DataW H),xs[i]? = some x → es[i]? = some e → sz x ≤ Rows.uptoBulk e) → szL sz xs ≤ Rows.uptoBulkAll es + 1
  | [],[],_,_ => by simp [szL,Rows.uptoBulkAll]
  | x :: xs,e :: es,hl,h => by
    have h0:=h 0 x e rfl rfl
    have ih:=bulk_all xs es (by simpa using hl) (fun i y f hy hf => h (i + 1) y f hy hf)
    simp only [szL,Rows.uptoBulkAll];omega
theorem cells_cell {base : Nat} {a : Addr} {n : Nat} {cs : List Value} (h : W.cells? base a n = some cs) : cs.length = n ∧ ∀ i u,cs[i]? = some u → W.cell? (a.add i) = some u:=by
 obtain ⟨h1,h2,h3⟩ := World.cells?_some h
 refine ⟨h2,fun i u hu => ?_⟩
 have hi : i < n:=by rw [← h2];exact (List.getElem?_eq_some_iff.1 hu).1
 rw [← hu];exact h3 i hi
theorem openS_slice {α : Type} {d : Kd α} {sz : α → Nat} {t e : TypeId} {n : Nat} (ht : P.underlying t = some (.slice e)) (hc : P.cellsOf e = d.sz) (h : OpenS enc P W d sz e n) : OpenS enc P W (Kd.slice e d) (szL sz) t (n + 1) := fun f hf cs x hx => by
  rcases DataW.trod_slice ht hx with ⟨rfl,rfl⟩ | ⟨a,len,cap,elems,rest,m,hfm,rfl,rfl,_,hlen,hcap,hel,hat,_,_⟩
  · exact ⟨[],⟨none,0,rfl,Nat.le_refl _,rfl,Nat.zero_le _,fun h => by simp at h⟩,one_le _⟩
  · obtain ⟨xs,hl,hp⟩ := list_of (p:=fun i (y : α) => ∃ cs' z,W.cells? 0 (a.add (i * P.cellsOf e)) (P.cellsOf e) = some cs' ∧ elems[i]? = some z ∧ d.K W y cs' ∧ sz y ≤ Rows.uptoBulk z.1) len (fun i hi => by
      have h1:=hat i hi
      have h2 : i < elems.length:=by omega
      rw [List.getElem?_eq_getElem h2] at h1
      obtain ⟨cs',hcs,hz⟩ := Option.bind_eq_some_iff.1 h1
      obtain ⟨y,hy1,hy2⟩ := h m (by omega) cs' _ hz
      exact ⟨y,cs',_,hcs,List.getElem?_eq_getElem h2,hy1,hy2⟩)
    subst hl
    refine ⟨xs,⟨some a,cap,rfl,hlen,rfl,?_,fun _ => ⟨a,rfl,fun j p hj => ?_⟩⟩,?_⟩
    · have : maxLen ≤ 9223372036854775807:=by decide
      omega
    · obtain ⟨cs',z,h1,_,h2,_⟩ := hp j p hj
      rw [hc] at h1
      refine ⟨cs',d.K_len h2,h2,fun i u hu => ?_⟩
      have h3:=(cells_cell h1).2 i u hu
      rwa [Addr.add_add a] at h3
    · simp only [Rows.uptoBulk]
      have:=bulk_all (H:=H) (sz:=sz) xs (elems.map (·.1)) (by simp [hel]) (fun i y e' hy he => by
        obtain ⟨cs',z,_,h1,_,h2⟩ := hp i y hy
        rw [List.getElem?_map,h1] at he
        obtain rfl:=Option.some.inj he
        exact h2)
      omega
def OpenF (enc : TypeId × Value → H) (P : Program) (W : World) {α : Type} (d : Kd α) (sz : α → Nat) (fs : List Field) (off n : Nat) : Prop :=
  ∀ fuel,fuel ≤ n → ∀ (cs : List Value) (xs : List (DataW H × List MemPlace)),cs.length = off + d.sz → xs.length = fs.length → (∀ (i : Nat) (f : Field),fs[i]? = some f → DataW.trod enc P W 0 (fun _ => true) true fuel f.type ((cs.drop f.offset).take (P.cellsOf f.type)) = xs[i]?) →
    ∃ a,d.K W a (cs.drop off) ∧ sz a ≤ Rows.uptoBulkAll (xs.map (·.1))
theorem openF_one {α : Type} {d : Kd α} {sz : α → Nat} {f : Field} {off n : Nat} (ho : f.offset = off) (hc : P.cellsOf f.type = d.sz) (h : OpenS enc P W d sz f.type n) : OpenF enc P W d sz [f] off n:=fun fuel hf cs xs hl hx hat => by
  match xs,hx with
  | [x],_ =>
    have h1:=hat 0 f rfl
    rw [ho,hc,List.take_of_length_le (by rw [List.length_drop];omega)] at h1
    obtain ⟨a,ha,hs⟩ := h fuel hf _ x h1
    exact ⟨a,ha,by simpa [Rows.uptoBulkAll] using hs⟩
theorem openF_cons {α β : Type} {d1 : Kd α} {d2 : Kd β} {s1 : α → Nat} {s2 : β → Nat} {f : Field} {fs : List Field} {off n : Nat} (ho : f.offset = off) (hc : P.cellsOf f.type = d1.sz) (h1 : OpenS enc P W d1 s1 f.type n) (h2 : OpenF enc P W d2 s2 fs (off + d1.sz) n) :
    OpenF enc P W (Kd.pair d1 d2) (fun p => s1 p.1 + s2 p.2) (f :: fs) off n:=fun fuel hf cs xs hl hx hat => by
  match xs,hx with
  | x :: xs,hx =>
    have h3:=hat 0 f rfl
    rw [ho,hc] at h3
    obtain ⟨a,ha,hs⟩ := h1 fuel hf _ x h3
    obtain ⟨b,hb,ht⟩ := h2 fuel hf cs xs (by rw [hl];show off + (d1.sz + d2.sz) = _;omega) (by simpa using hx) (fun i g hg => hat (i + 1) g hg)
    refine ⟨(a,b),⟨(cs.drop off).take d1.sz,(cs.drop off).drop d1.sz,(List.take_append_drop _ _).symm,ha,by rw [List.drop_drop];exact hb⟩,?_⟩
    simp only [List.map_cons,Rows.uptoBulkAll];omega
theorem openS_struct {α : Type} {d : Kd α} {sz : α → Nat} {t : TypeId} {fs : Array Field} {n : Nat} (ht : P.underlying t = some (.struct fs)) (hc : P.cellsOf t = d.sz) (h : OpenF enc P W d sz fs.toList 0 n) : OpenS enc P W d (fun a => sz a + 1) t (n + 1) := fun f hf cs x hx => by
  obtain ⟨xs,m,rfl,rfl,hl,hx,hat⟩ := DataW.trod_struct ht hx
  obtain ⟨a,ha,hs⟩ := h m (by omega) cs xs (by omega) (by simpa using hx) (fun i f hf => hat i f (by simpa using hf))
  exact ⟨a,by simpa using ha,by simp only [Rows.uptoBulk];omega⟩
theorem openS_iso {α β : Type} {d : Kd α} {sz : α → Nat} {t : TypeId} {n : Nat} (f : β → α) (hf : ∀ a,∃ b,f b = a) (h : OpenS enc P W d sz t n) : OpenS enc P W (Kd.iso d f) (fun b => sz (f b)) t n:=fun k hk cs x hx => by
  obtain ⟨a,ha,hs⟩ := h k hk cs x hx
  obtain ⟨b,rfl⟩ := hf a
  exact ⟨b,ha,hs⟩
theorem openS_sz {α : Type} {d : Kd α} {sz sz' : α → Nat} {t : TypeId} {n : Nat} (h : OpenS enc P W d sz t n) (hs : ∀ a,sz' a ≤ sz a) : OpenS enc P W d sz' t n:=fun k hk cs x hx => by
  obtain ⟨a,ha,h1⟩ := h k hk cs x hx
  exact ⟨a,ha,Nat.le_trans (hs a) h1⟩
end Go.Proofs.Ytapjfnfengefpaa.Open
end

section
namespace Go.Proofs.Ytapjfnfengefpaa.P
open Go.RowKit Go.Proofs.YtapjfnfengefpaaW.PrintWords Go.Proofs.YtapjfnfengefpaaW.PrintLast Go.Proofs.YtapjfnfengefpaaW.PrintMore
attribute [local go_sem] max2_int min2_int max_two min_two max_three min_three max_four min_four   -- for this text's walks alone
set_option linter.unusedVariables false
set_option linter.unusedSimpArgs false
def errW : Option Int → Value
  | none => .nilIface
  | some c => .iface 0 (.int .i64 c)
theorem errW_none : errW none = .nilIface:=rfl
theorem errW_some (c : Int) : errW (some c) = .iface 0 (.int .i64 c) := rfl
theorem info3 : (Try.prog.info? 3).map (fun i => (i.zero,i.size,i.bytes)) = some (some (.int .i64 0),1,8) := by kernel_rfl
theorem info43 : (Try.prog.info? 43).map (fun i => (i.zero,i.size,i.bytes)) = some (some (.agg #[(.bool false),(.int .i64 0)]),2,16) := by kernel_rfl
theorem info72 : (Try.prog.info? 72).map (fun i => (i.zero,i.size,i.bytes)) = some (some (.agg #[(.string ⟨#[]⟩),(.int .i64 0),(.string ⟨#[]⟩),(.slice none 0 0),(.int .i64 0),(.int .i64 0),(.slice none 0 0)]),7,104) := by kernel_rfl
structure S43 where
  f0 : Bool
  f1 : Int
def z43 : S43:=⟨false,(0 : Int)⟩
def k43 : Kd S43:=Kd.iso (Kd.pair Kd.bool (Kd.int .i64)) (fun x : S43 => (x.f0,x.f1))
theorem k43_open {w : World} {x : S43} {cs : List Value} (h : k43.K w x cs) : cs = [.bool x.f0,.int .i64 x.f1] := by
 obtain ⟨_,_,rfl,rfl,rfl⟩ := h
 exact rfl
theorem k43_mkM (w : World) (base : Nat) (ok : Nat → Prop) (x : S43)  : k43.M w base ok x [.bool x.f0,.int .i64 x.f1] := ⟨[.bool x.f0],[.int .i64 x.f1],rfl,rfl,rfl⟩
def rd_T43 (xs : List S43) (i : Int) : S43:=xs.getD i.toNat z43
theorem at_T43 {w : World} {A : Option Addr} {n : Nat} {xs : List S43} (h : Kd.C k43 w A n xs) (i : Int) (h0 : 0 ≤ i) (h1 : i < n) : ∃ ad ,A = some ad ∧ w.cell? (ad.add (i.toNat * 2)) = some (.bool (rd_T43 xs i).f0) ∧ w.cell? ⟨(ad.add (i.toNat * 2)).block,(ad.add (i.toNat * 2)).off + 1,none⟩ = some (.int .i64 (rd_T43 xs i).f1) := by
 obtain ⟨ad,c,e,_,hK,hc0⟩ := Kd.C_get h z43 i h0 h1
 have hc : ∀ j u,c[j]? = some u → w.cell? (ad.add (i.toNat * 2 + j)) = some u:=hc0
 obtain rfl:=k43_open hK
 exact ⟨ad,e,hc 0 _ rfl,by rw [← add_field _ _ 1 (by omega)];exact hc 1 _ rfl⟩
def rd_L5 (xs : List (List Int)) (i : Int) : (List Int) := xs.getD i.toNat ([] : List Int)
theorem at_L5 {w : World} {A : Option Addr} {n : Nat} {xs : List (List Int)} (h : Kd.C (Kd.slice 3 (Kd.int .i64)) w A n xs) (i : Int) (h0 : 0 ≤ i) (h1 : i < n) : ∃ ad A0 c0,A = some ad ∧ w.cell? (ad.add i.toNat) = some (.slice A0 (rd_L5 xs i).length c0) ∧ (rd_L5 xs i).length ≤ c0 ∧ (Kd.int .i64).C w A0 (rd_L5 xs i).length (rd_L5 xs i) := by
 obtain ⟨ad,c,e,_,hK,hc0⟩ := Kd.C_get h ([] : List Int) i h0 h1
 have hc : ∀ j u,c[j]? = some u → w.cell? (ad.add (i.toNat * 1 + j)) = some u:=hc0
 obtain ⟨A0,c0,rfl,l0,g0⟩ := hK
 exact ⟨ad,A0,c0,e,by have hq:=hc 0 _ rfl;rwa [Nat.mul_one,Nat.add_zero] at hq,l0,g0⟩
structure S70 where
  f0 : Int
  f1 : ByteArray
  f2 : (List Int)
  f3 : Int
  f4 : Int
  f5 : (List S70)
def z70 : S70:=⟨(0 : Int),(⟨#[]⟩ : ByteArray),([] : List Int),(0 : Int),(0 : Int),([] : List S70)⟩
def F70 (d : Kd S70) : Kd S70:=Kd.iso (Kd.pair (Kd.int .i64) (Kd.pair Kd.string (Kd.pair (Kd.slice 3 (Kd.int .i64)) (Kd.pair (Kd.int .i64) (Kd.pair (Kd.int .i64) (Kd.slice 70 d)))))) (fun x : S70 => (x.f0,x.f1,x.f2,x.f3,x.f4,x.f5))
theorem mono70 : Kd.Mono F70:=Kd.mono_iso _ (Kd.mono_pair (Kd.mono_const _) (Kd.mono_pair (Kd.mono_const _) (Kd.mono_pair (Kd.mono_const _) (Kd.mono_pair (Kd.mono_const _) (Kd.mono_pair (Kd.mono_const _) (Kd.mono_slice 70 Kd.mono_id))))))
theorem sub70 : Kd.Sub F70 [3,70] := Kd.sub_iso _ (Kd.sub_pair (Kd.sub_const _ (by decide)) (Kd.sub_pair (Kd.sub_const _ (by decide)) (Kd.sub_pair (Kd.sub_const _ (by decide)) (Kd.sub_pair (Kd.sub_const _ (by decide)) (Kd.sub_pair (Kd.sub_const _ (by decide)) (Kd.sub_slice 70 (by decide) Kd.sub_id))))))
theorem sz70 : ∀ n,(Kd.upto F70 6 [3,70] n).sz = 6:=Kd.upto_sz (fun _ => rfl)
def k70 : Kd S70:=Kd.fix F70 6 [3,70] sz70 (Kd.upto_E sub70)
theorem k70_mk (w : World) (x : S70) {A2 : Option Addr} {c2 : Nat} (l2 : x.f2.length ≤ c2) (g2 : (Kd.int .i64).C w A2 x.f2.length x.f2) {A5 : Option Addr} {c5 : Nat} (l5 : x.f5.length ≤ c5) (g5 : k70.C w A5 x.f5.length x.f5) : k70.K w x [.int .i64 x.f0,.string x.f1,.slice A2 x.f2.length c2,.int .i64 x.f3,.int .i64 x.f4,.slice A5 x.f5.length c5] := by
 obtain ⟨n5,q5⟩ := Kd.fix_C_back mono70 g5
 have r5:=Kd.upto_C_le mono70 sz70 (show n5 ≤ n5 by omega) q5
 exact ⟨n5 + 1,⟨[.int .i64 x.f0],[.string x.f1,.slice A2 x.f2.length c2,.int .i64 x.f3,.int .i64 x.f4,.slice A5 x.f5.length c5],rfl,rfl,⟨[.string x.f1],[.slice A2 x.f2.length c2,.int .i64 x.f3,.int .i64 x.f4,.slice A5 x.f5.length c5],rfl,rfl,⟨[.slice A2 x.f2.length c2],[.int .i64 x.f3,.int .i64 x.f4,.slice A5 x.f5.length c5],rfl,⟨A2,c2,rfl,l2,g2⟩,⟨[.int .i64 x.f3],[.int .i64 x.f4,.slice A5 x.f5.length c5],rfl,rfl,⟨[.int .i64 x.f4],[.slice A5 x.f5.length c5],rfl,rfl,⟨A5,c5,rfl,l5,r5⟩⟩⟩⟩⟩⟩⟩
structure S72 where
  f0 : ByteArray
  f1 : S70
def z72 : S72:=⟨(⟨#[]⟩ : ByteArray),z70⟩
def k72 : Kd S72:=Kd.iso (Kd.pair Kd.string k70) (fun x : S72 => (x.f0,x.f1))
theorem k72_mk (w : World) (x : S72) {A3 : Option Addr} {c3 : Nat} (l3 : x.f1.f2.length ≤ c3) (g3 : (Kd.int .i64).C w A3 x.f1.f2.length x.f1.f2) {A6 : Option Addr} {c6 : Nat} (l6 : x.f1.f5.length ≤ c6) (g6 : k70.C w A6 x.f1.f5.length x.f1.f5) : k72.K w x [.string x.f0,.int .i64 x.f1.f0,.string x.f1.f1,.slice A3 x.f1.f2.length c3,.int .i64 x.f1.f3,.int .i64 x.f1.f4,.slice A6 x.f1.f5.length c6] := ⟨[.string x.f0],[.int .i64 x.f1.f0,.string x.f1.f1,.slice A3 x.f1.f2.length c3,.int .i64 x.f1.f3,.int .i64 x.f1.f4,.slice A6 x.f1.f5.length c6],rfl,rfl,(k70_mk w x.f1 l3 g3 l6 g6)⟩
theorem k72_mkF (W : World) (ok : Nat → Prop) (x : S72) {A3 : Option Addr} {c3 : Nat} (l3 : x.f1.f2.length ≤ c3) (g3 : Kd.F (Kd.int .i64) W ok A3 x.f1.f2.length x.f1.f2) {A6 : Option Addr} {c6 : Nat} (l6 : x.f1.f5.length ≤ c6) (g6 : Kd.F k70 W ok A6 x.f1.f5.length x.f1.f5) : Kd.FK k72 W ok x [.string x.f0,.int .i64 x.f1.f0,.string x.f1.f1,.slice A3 x.f1.f2.length c3,.int .i64 x.f1.f3,.int .i64 x.f1.f4,.slice A6 x.f1.f5.length c6] := fun W2 hW => k72_mk W2 x l3 (g3 W2 hW) l6 (g6 W2 hW)
structure S35 where
  f0 : Int
  f1 : (List S43)
def z35 : S35:=⟨(0 : Int),([] : List S43)⟩
def k35 : Kd S35:=Kd.iso (Kd.pair (Kd.int .i64) (Kd.slice 43 k43)) (fun x : S35 => (x.f0,x.f1))
theorem k35_open {w : World} {x : S35} {cs : List Value} (h : k35.K w x cs) : ∃ A1 c1,cs = [.int .i64 x.f0,.slice A1 x.f1.length c1] ∧ x.f1.length ≤ c1 ∧ k43.C w A1 x.f1.length x.f1:=by
 obtain ⟨_,_,rfl,rfl,⟨A1,c1,rfl,l1,g1⟩⟩ := h
 exact ⟨A1,c1,rfl,l1,g1⟩
theorem k35_mk (w : World) (x : S35) {A1 : Option Addr} {c1 : Nat} (l1 : x.f1.length ≤ c1) (g1 : k43.C w A1 x.f1.length x.f1) : k35.K w x [.int .i64 x.f0,.slice A1 x.f1.length c1] := ⟨[.int .i64 x.f0],[.slice A1 x.f1.length c1],rfl,rfl,⟨A1,c1,rfl,l1,g1⟩⟩
theorem k35_mkF (W : World) (ok : Nat → Prop) (x : S35) {A1 : Option Addr} {c1 : Nat} (l1 : x.f1.length ≤ c1) (g1 : Kd.F k43 W ok A1 x.f1.length x.f1) : Kd.FK k35 W ok x [.int .i64 x.f0,.slice A1 x.f1.length c1] := fun W2 hW => k35_mk W2 x l1 (g1 W2 hW)
def rd_T35 (xs : List S35) (i : Int) : S35:=xs.getD i.toNat z35
theorem at_T35 {w : World} {A : Option Addr} {n : Nat} {xs : List S35} (h : Kd.C k35 w A n xs) (i : Int) (h0 : 0 ≤ i) (h1 : i < n) : ∃ ad A1 c1,A = some ad ∧ w.cell? (ad.add (i.toNat * 2)) = some (.int .i64 (rd_T35 xs i).f0) ∧ w.cell? ⟨(ad.add (i.toNat * 2)).block,(ad.add (i.toNat * 2)).off + 1,none⟩ = some (.slice A1 (rd_T35 xs i).f1.length c1) ∧ (rd_T35 xs i).f1.length ≤ c1 ∧ k43.C w A1 (rd_T35 xs i).f1.length (rd_T35 xs i).f1:=by
 obtain ⟨ad,c,e,_,hK,hc0⟩ := Kd.C_get h z35 i h0 h1
 have hc : ∀ j u,c[j]? = some u → w.cell? (ad.add (i.toNat * 2 + j)) = some u:=hc0
 obtain ⟨A1,c1,rfl,l1,g1⟩ := k35_open hK
 exact ⟨ad,A1,c1,e,hc 0 _ rfl,by rw [← add_field _ _ 1 (by omega)];exact hc 1 _ rfl,l1,g1⟩
end Go.Proofs.Ytapjfnfengefpaa.P
end

section
namespace Go.Proofs.Ytapjfnfengefpaa.Open
open Go.RowKit Go.Proofs.YtapjfnfengefpaaW.PrintWords Go.Proofs.Ytapjfnfengefpaa.P
set_option linter.unusedVariables false
variable {H : Type} {enc : TypeId × Value → H} {W : World}
theorem openSym (n : Nat) : OpenS enc Try.prog W k43 (fun _ => 1) 43 n:=by
 cases n with
 | zero => exact openS_zero
 | succ n => exact openS_sz (openS_iso _ (fun a => ⟨⟨a.1,a.2⟩,rfl⟩) (openS_struct Try.underlying43 (by kernel_rfl) (openF_cons rfl (by kernel_rfl) (openS_bool Try.underlying4 n) (openF_one rfl (by kernel_rfl) (openS_int Try.underlying3 n))))) (fun _ => by omega)
theorem openProd (n : Nat) : OpenS enc Try.prog W k35 (fun p => p.f1.length + 1) 35 n:=by
 cases n with
 | zero => exact openS_zero
 | succ n => exact openS_sz (openS_iso _ (fun a => ⟨⟨a.1,a.2⟩,rfl⟩) (openS_struct Try.underlying35 (by kernel_rfl) (openF_cons rfl (by kernel_rfl) (openS_int Try.underlying3 n) (openF_one rfl (by kernel_rfl) ((openS_slice Try.underlying29 (by kernel_rfl) (openSym n)).le (Nat.le_succ n)))))) (fun p => by
  have:=szL_length (sz:=fun _ : S43 => 1) (fun _ => Nat.le_refl _) p.f1
  simp only
  omega)
theorem openExpr : ∀ n : Nat,OpenS enc Try.prog W k70 (fun _ => 1) 70 n
  | 0 => openS_zero
  | n + 1 => by
    have ih:=openExpr n
    have h : OpenS enc Try.prog W (F70 k70) (fun _ => 1) 70 (n + 1) :=
      openS_sz (openS_iso _ (fun a => ⟨⟨a.1,a.2.1,a.2.2.1,a.2.2.2.1,a.2.2.2.2.1,a.2.2.2.2.2⟩,rfl⟩) (openS_struct Try.underlying70 (by kernel_rfl) (openF_cons rfl (by kernel_rfl) (openS_int Try.underlying3 n) (openF_cons rfl (by kernel_rfl) (openS_string Try.underlying9 n) (openF_cons rfl (by kernel_rfl) ((openS_slice Try.underlying32 (by kernel_rfl) (openS_int Try.underlying3 n)).le (Nat.le_succ n)) (openF_cons rfl (by kernel_rfl) (openS_int Try.underlying3 n) (openF_cons rfl (by kernel_rfl) (openS_int Try.underlying3 n) (openF_one rfl (by kernel_rfl) ((openS_slice Try.underlying68 (by kernel_rfl) ih).le (Nat.le_succ n)))))))))) (fun _ => by omega)
    intro f hf cs x hx
    obtain ⟨a,ha,hs⟩ := h f hf cs x hx
    obtain ⟨_,_,rfl,rfl,⟨_,_,rfl,rfl,⟨_,_,rfl,⟨A2,c2,rfl,l2,g2⟩,⟨_,_,rfl,rfl,⟨_,_,rfl,rfl,⟨A5,c5,rfl,l5,g5⟩⟩⟩⟩⟩⟩ := ha
    exact ⟨a,k70_mk W a l2 g2 l5 g5,hs⟩
theorem openTok (n : Nat) : OpenS enc Try.prog W k72 (fun _ => 1) 72 n:=by
 cases n with
 | zero => exact openS_zero
 | succ n => exact openS_sz (openS_iso _ (fun a => ⟨⟨a.1,a.2⟩,rfl⟩) (openS_struct Try.underlying72 (by kernel_rfl) (openF_cons rfl (by kernel_rfl) (openS_string Try.underlying9 n) (openF_one rfl (by kernel_rfl) (openExpr n))))) (fun _ => by omega)
theorem open_syntax {cs : Array Value} {d : DataW H} {ps : List MemPlace} (h : DataW.Trod enc Try.prog W 0 (fun _ => true) true 26 (.agg cs) d ps) : ∃ (A0 : Option Addr) (c0 : Nat) (l0 : List ByteArray) (A1 : Option Addr) (c1 : Nat) (l1 : List S72) (a2 a3 : Int) (A4 : Option Addr) (c4 : Nat) (l4 : List S35),
    cs = #[.slice A0 l0.length c0,.slice A1 l1.length c1,.int .i64 a2,.int .i64 a3,.slice A4 l4.length c4] ∧ Kd.string.C W A0 l0.length l0 ∧ l0.length ≤ c0 ∧ k72.C W A1 l1.length l1 ∧ l1.length ≤ c1 ∧ k35.C W A4 l4.length l4 ∧ l4.length ≤ c4 ∧
    l0.length + l1.length + szL (fun p : S35 => p.f1.length + 1) l4 ≤ Rows.uptoBulk d:=by
 obtain ⟨fuel,hf⟩ := h
 cases fuel with
 | zero => simp [DataW.trod] at hf
 | succ n =>
  obtain ⟨⟨l0,l1,a2,a3,l4⟩,hK,hs⟩ := openS_struct (enc:=enc) (P:=Try.prog) (W:=W) (n:=n) Try.underlying26 (by kernel_rfl) (openF_cons rfl (by kernel_rfl) ((openS_slice Try.underlying22 (by kernel_rfl) (openS_string Try.underlying9 n)).le (Nat.le_succ n)) (openF_cons rfl (by kernel_rfl) ((openS_slice Try.underlying23 (by kernel_rfl) (openTok n)).le (Nat.le_succ n)) (openF_cons rfl (by kernel_rfl) (openS_int Try.underlying3 n) (openF_cons rfl (by kernel_rfl) (openS_int Try.underlying3 n) (openF_one rfl (by kernel_rfl) ((openS_slice Try.underlying24 (by kernel_rfl) (openProd n)).le (Nat.le_succ n))))))) (n + 1) (Nat.le_refl _) _ _ hf
  obtain ⟨_,_,e,⟨A0,c0,rfl,h0,g0⟩,⟨_,_,rfl,⟨A1,c1,rfl,h1,g1⟩,⟨_,_,rfl,rfl,⟨_,_,rfl,rfl,⟨A4,c4,rfl,h4,g4⟩⟩⟩⟩⟩ := hK
  refine ⟨A0,c0,l0,A1,c1,l1,a2,a3,A4,c4,l4,?_,g0,h0,g1,h1,g4,h4,?_⟩
  · have e2 : cs.toList = [.slice A0 l0.length c0,.slice A1 l1.length c1,.int .i64 a2,.int .i64 a3,.slice A4 l4.length c4] := by simpa [Value.cells] using e
    exact Array.toList_inj.1 e2
  · have s0:=szL_length (sz:=fun _ : ByteArray => 1) (fun _ => Nat.le_refl _) l0
    have s1:=szL_length (sz:=fun _ : S72 => 1) (fun _ => Nat.le_refl _) l1
    simp only at hs
    omega
variable {H : Type} {enc : TypeId × Value → H} {W : World}
theorem open_table {v : Value} {d : DataW H} {ps : List MemPlace} {a : Option Addr} {len cap : Nat} (hv : v = .slice a len cap) (h : DataW.Trod enc Try.prog W 0 (fun _ => true) true 28 v d ps) : ∃ (A : Option Addr) (c : Nat) (l : List (List Int)),v = .slice A l.length c ∧ l.length ≤ c ∧ Kd.C (Kd.slice 3 (Kd.int .i64)) W A l.length l ∧ szL (szL (fun _ : Int => 1)) l ≤ Rows.uptoBulk d:=by
 obtain ⟨fuel,hf⟩ := h
 obtain ⟨l,⟨A,c,e,hl,hc⟩,hs⟩ := openS_slice Try.underlying28 (by kernel_rfl) (openS_slice Try.underlying32 (by kernel_rfl) (openS_int (enc:=enc) (W:=W) Try.underlying3 fuel)) fuel (by omega) _ _ hf
 subst hv
 exact ⟨A,c,l,by simpa [Value.cells] using e,hl,hc,hs⟩
theorem open_list {v : Value} {d : DataW H} {ps : List MemPlace} {a : Option Addr} {len cap : Nat} (hv : v = .slice a len cap) (h : DataW.Trod enc Try.prog W 0 (fun _ => true) true 32 v d ps) : ∃ (A : Option Addr) (c : Nat) (l : List Int),v = .slice A l.length c ∧ l.length ≤ c ∧ Kd.C (Kd.int .i64) W A l.length l ∧ l.length ≤ Rows.uptoBulk d:=by
 obtain ⟨fuel,hf⟩ := h
 obtain ⟨l,⟨A,c,e,hl,hc⟩,hs⟩ := openS_slice Try.underlying32 (by kernel_rfl) (openS_int (enc:=enc) (W:=W) Try.underlying3 fuel) fuel (by omega) _ _ hf
 subst hv
 refine ⟨A,c,l,by simpa [Value.cells] using e,hl,hc,?_⟩
 have:=szL_length (sz:=fun _ : Int => 1) (fun _ => Nat.le_refl _) l
 exact Nat.le_trans (by omega) hs
theorem open_machine {cs : Array Value} {d : DataW H} {ps : List MemPlace} (h : DataW.Trod enc Try.prog W 0 (fun _ => true) true 31 (.agg cs) d ps) : ∃ (A0 : Option Addr) (c0 : Nat) (l0 : List S43) (b : Bool),
    cs = #[.slice A0 l0.length c0,.bool b] ∧ k43.C W A0 l0.length l0 ∧ l0.length ≤ c0 ∧ l0.length ≤ Rows.uptoBulk d:=by
 obtain ⟨fuel,hf⟩ := h
 cases fuel with
 | zero => simp [DataW.trod] at hf
 | succ n =>
  obtain ⟨⟨l0,b⟩,hK,hs⟩ := openS_struct (enc:=enc) (P:=Try.prog) (W:=W) (n:=n) Try.underlying31 (by kernel_rfl) (openF_cons rfl (by kernel_rfl) ((openS_slice Try.underlying29 (by kernel_rfl) (openSym n)).le (Nat.le_succ n)) (openF_one rfl (by kernel_rfl) (openS_bool Try.underlying4 n))) (n + 1) (Nat.le_refl _) _ _ hf
  obtain ⟨_,_,e,⟨A0,c0,rfl,h0,g0⟩,rfl⟩ := hK
  refine ⟨A0,c0,l0,b,?_,g0,h0,?_⟩
  · have e2 : cs.toList = [.slice A0 l0.length c0,.bool b] := by simpa [Value.cells] using e
    exact Array.toList_inj.1 e2
  · have s0:=szL_length (sz:=fun _ : S43 => 1) (fun _ => Nat.le_refl _) l0
    simp only at hs
    omega
end Go.Proofs.Ytapjfnfengefpaa.Open
end

section
namespace Go.Proofs.Ytapjfnfengefpaa.P
open Go.RowKit Go.Proofs.YtapjfnfengefpaaW.PrintWords Go.Proofs.YtapjfnfengefpaaW.PrintLast Go.Proofs.YtapjfnfengefpaaW.PrintMore
attribute [local go_sem] max2_int min2_int max_two min_two max_three min_three max_four min_four   -- for this text's walks alone
set_option linter.unusedVariables false
set_option linter.unusedSimpArgs false
theorem eqA43 (d : Nat) (w : World) (x0 y0 : Bool) (x1 y1 : Int) :
    (Op.equalIn (d + 2) 43 (.agg #[.bool x0,.int .i64 x1]) (.agg #[.bool y0,.int .i64 y1])).run Try.prog w = .ok (x0 == y0 && (x1 == y1)) w:=by
 refine eqA_of Try.underlying43 (by kernel_rfl) ?_
 refine eqf_cons (by rfl) (by go_simp;rfl) (by go_simp;rfl) (by go_simp) ?_
 exact eqf_last (by rfl) (by go_simp;rfl) (by go_simp;rfl) (by go_simp)
attribute [local go_sem] max2_int min2_int max_two min_two max_three min_three max_four min_four   -- for this text's walks alone
set_option linter.unusedVariables false
set_option linter.unusedSimpArgs false
attribute [local go_sem high] eqA43
mutual
def regletref16_Same.j0 : Nat → Bool → List (S43) → Bool → List (S43) → Bool → Option (Bool)
  | 0,_,_,_,_,_ => none
  | k + 1,x19,x102000,x102001,x103000,x103001 => if x19 = true then (some false) else (regletref16_Same.l0 k 0 x102000 x102001 x103000 x103001)
def regletref16_Same.l0 : Nat → Int → List (S43) → Bool → List (S43) → Bool → Option (Bool)
  | 0,_,_,_,_,_ => none
  | k + 1,x5,x102000,x102001,x103000,x103001 => if x5 < (x102000.length : Int) then (if 0 ≤ x5 then (if x5 < (x103000.length : Int) then (if (!(((rd_T43 x102000 x5).f0) == ((rd_T43 x103000 x5).f0)) || (!(((rd_T43 x102000 x5).f1) == ((rd_T43 x103000 x5).f1)))) = true then (some false) else (regletref16_Same.l0 k (wrap64 (x5 + 1)) x102000 x102001 x103000 x103001)) else (none)) else (none)) else (some true)
end
def regletref16_Same.f (k : Nat) (l0_0 : List (S43)) (a0_1 : Bool) (l1_0 : List (S43)) (a1_1 : Bool) : Option (Bool) := if (a0_1 != a1_1) = true then (regletref16_Same.j0 k true l0_0 a0_1 l1_0 a1_1) else (regletref16_Same.j0 k ((l0_0.length : Int) != (l1_0.length : Int)) l0_0 a0_1 l1_0 a1_1)
theorem regletref16_Same.mono_l : ∀ k,(∀ y0 y1 y2 y3 y4,LeO (regletref16_Same.j0 k y0 y1 y2 y3 y4) (regletref16_Same.j0 (k + 1) y0 y1 y2 y3 y4)) ∧ (∀ y0 y1 y2 y3 y4,LeO (regletref16_Same.l0 k y0 y1 y2 y3 y4) (regletref16_Same.l0 (k + 1) y0 y1 y2 y3 y4))
  | 0 => ⟨fun _ _ _ _ _ r h => by simp [regletref16_Same.j0] at h,fun _ _ _ _ _ r h => by simp [regletref16_Same.l0] at h⟩
  | k + 1 => by
    obtain ⟨ih0,ih1⟩ := regletref16_Same.mono_l k
    refine ⟨?_,?_⟩
    · intro y0 y1 y2 y3 y4
      unfold regletref16_Same.j0
      repeat' first
      | (with_reducible exact ih0 _ _ _ _ _)
      | (with_reducible exact ih1 _ _ _ _ _)
      | (with_reducible exact LeO.refl _)
      | (with_reducible exact LeO.none _)
      | (with_reducible refine LeO.ite ?_ ?_)
      | (with_reducible refine LeO.bind ?_ (fun _ => ?_))
      | exact ih0 _ _ _ _ _
      | exact ih1 _ _ _ _ _
      | exact LeO.none _
      | refine LeO.ite ?_ ?_
      | refine LeO.bind ?_ (fun _ => ?_)
    · intro y0 y1 y2 y3 y4
      unfold regletref16_Same.l0
      repeat' first
      | (with_reducible exact ih0 _ _ _ _ _)
      | (with_reducible exact ih1 _ _ _ _ _)
      | (with_reducible exact LeO.refl _)
      | (with_reducible exact LeO.none _)
      | (with_reducible refine LeO.ite ?_ ?_)
      | (with_reducible refine LeO.bind ?_ (fun _ => ?_))
      | exact ih0 _ _ _ _ _
      | exact ih1 _ _ _ _ _
      | exact LeO.none _
      | refine LeO.ite ?_ ?_
      | refine LeO.bind ?_ (fun _ => ?_)
theorem regletref16_Same.mono : ∀ a0 a1 a2 a3 k,LeO (regletref16_Same.f k a0 a1 a2 a3) (regletref16_Same.f (k + 1) a0 a1 a2 a3) := by
 intro a0 a1 a2 a3 k
 obtain ⟨ih0,ih1⟩ := regletref16_Same.mono_l k
 unfold regletref16_Same.f
 repeat' first
     | (with_reducible exact ih0 _ _ _ _ _)
     | (with_reducible exact ih1 _ _ _ _ _)
     | (with_reducible exact LeO.refl _)
     | (with_reducible exact LeO.none _)
     | (with_reducible refine LeO.ite ?_ ?_)
     | (with_reducible refine LeO.bind ?_ (fun _ => ?_))
     | exact ih0 _ _ _ _ _
     | exact ih1 _ _ _ _ _
     | exact LeO.none _
     | refine LeO.ite ?_ ?_
     | refine LeO.bind ?_ (fun _ => ?_)
set_option maxHeartbeats 8000000 in
set_option maxRecDepth 100000 in
theorem regletref16_Same.calls (k : Nat) (A0_0 : Option Addr) (c0_0 : Nat) (l0_0 : List (S43)) (a0_1 : Bool) (A1_0 : Option Addr) (c1_0 : Nat) (l1_0 : List (S43)) (a1_1 : Bool) (r : Bool) (w : World) (hr0_0 : Kd.C k43 w A0_0 l0_0.length l0_0) (hc0_0 : l0_0.length ≤ c0_0) (hr1_0 : Kd.C k43 w A1_0 l1_0.length l1_0) (hc1_0 : l1_0.length ≤ c1_0) (h : regletref16_Same.f k l0_0 a0_1 l1_0 a1_1 = some r) :
    Calls Try.prog 16 #[.agg #[.slice A0_0 l0_0.length c0_0,.bool a0_1],.agg #[.slice A1_0 l1_0.length c1_0,.bool a1_1]] w fun e w' => e = .returned (.bool r) ∧ Below w.heap.size w w' := by
 have hu31:=Try.underlying31
 have hu43:=Try.underlying43
 have HR0_0:=Aside0.mk hr0_0
 have HC0_0:=Aside0.mk hc0_0
 clear hr0_0 hc0_0
 have HR1_0:=Aside0.mk hr1_0
 have HC1_0:=Aside0.mk hc1_0
 clear hr1_0 hc1_0
 have HB:=Aside0.mk (Below.refl w.heap.size w)
 have H : (if (a0_1 != a1_1) = true then (regletref16_Same.j0 k true l0_0 a0_1 l1_0 a1_1) else (regletref16_Same.j0 k ((l0_0.length : Int) != (l1_0.length : Int)) l0_0 a0_1 l1_0 a1_1)) = some r:=h
 clear h
 have HC3:=Aside0.mk H
 clear H
 go_enter Try.func16,Try.ntmps16
 go_upto_region 1 with (first | ((with_reducible refine gate_dst (N:=2) rfl ?_);(try (refine gate_guard (by rfl) ?_;dsimp only));refine box_event ?hg (N:=2) ?hd (cs:=#[.slice A0_0 l0_0.length c0_0,.bool a0_1]) (t:=31) ?hr ?_;(case hd => rfl);(case hg => rfl);(case hr => first | (go_simp;done) | (go_simp;rfl));intro gb101 hg w4 hbox hb;have n0_:=Aside0.mk (below_step (by repeat (first | (with_reducible first | exact HB.out | apply below_alloc | apply pw_below_drewN | apply below_drew1) | exact HB.out)) hb);have n1_:=Aside0.mk (hbox);have n2_:=Aside0.mk ((by rw [hg];exact (below_size (by repeat (first | (with_reducible first | exact HB.out | apply below_alloc | apply pw_below_drewN | apply below_drew1) | exact HB.out))) : w.heap.size ≤ gb101));have n3_:=Aside0.mk ((by rw [hg];exact (below_size (by repeat (first | (with_reducible first | exact HB.out | apply below_alloc | apply pw_below_drewN | apply below_drew1) | exact HB.out))) : w.heap.size ≤ gb101));clear HB;have HB:=n0_;have BK101:=n1_;have GW101:=n2_;have GE101:=n3_;clear n0_ n1_ n2_ n3_;clear hb hbox hg) | ((with_reducible refine gate_dst (N:=3) rfl ?_);(try (refine gate_guard (by rfl) ?_;dsimp only));refine box_event ?hg (N:=3) ?hd (cs:=#[.slice A1_0 l1_0.length c1_0,.bool a1_1]) (t:=31) ?hr ?_;(case hd => rfl);(case hg => rfl);(case hr => first | (go_simp;done) | (go_simp;rfl));intro gb102 hg w5 hbox hb;have n0_:=Aside0.mk (blk_below (g:=gb101) (o := .cells #[.slice A0_0 l0_0.length c0_0,.bool a0_1] 31 (0,0)) (by (with_reducible repeat (first | refine blk_drewN ?_ _ | refine blk_drew ?_ | refine blk_alloc ?_ _));exact BK101.out) hb);have n1_:=Aside0.mk (below_step (by repeat (first | (with_reducible first | exact HB.out | apply below_alloc | apply pw_below_drewN | apply below_drew1 | refine below_set ?_ GE101.out) | exact HB.out)) hb);have n2_:=Aside0.mk (hbox);have n3_:=Aside0.mk ((by rw [hg];exact (below_size (by repeat (first | (with_reducible first | exact HB.out | apply below_alloc | apply pw_below_drewN | apply below_drew1 | refine below_set ?_ GE101.out) | exact HB.out))) : w.heap.size ≤ gb102));have n4_:=Aside0.mk ((by rw [hg];exact (below_size (by repeat (first | (with_reducible first | exact HB.out | apply below_alloc | apply pw_below_drewN | apply below_drew1 | refine below_set ?_ GE101.out) | exact HB.out))) : w.heap.size ≤ gb102));have n5_:=Aside0.mk ((by rw [hg];exact Nat.ne_of_lt (blk_lt (g:=gb101) (o := .cells #[.slice A0_0 l0_0.length c0_0,.bool a0_1] 31 (0,0)) (by (with_reducible repeat (first | refine blk_drewN ?_ _ | refine blk_drew ?_ | refine blk_alloc ?_ _));exact BK101.out)) : gb101 ≠ gb102));have n6_:=Aside0.mk ((by rw [hg];exact Nat.ne_of_gt (blk_lt (g:=gb101) (o := .cells #[.slice A0_0 l0_0.length c0_0,.bool a0_1] 31 (0,0)) (by (with_reducible repeat (first | refine blk_drewN ?_ _ | refine blk_drew ?_ | refine blk_alloc ?_ _));exact BK101.out)) : gb102 ≠ gb101));clear BK101;clear HB;have BK101:=n0_;have HB:=n1_;have BK102:=n2_;have GW102:=n3_;have GE102:=n4_;have NB101_102:=n5_;have NB102_101:=n6_;clear n0_ n1_ n2_ n3_ n4_ n5_ n6_;clear hb hbox hg))
 repeat (go_quiet (first | ((with_reducible refine gate_dst (N:=2) rfl ?_);(try (refine gate_guard (by rfl) ?_;dsimp only));refine box_event ?hg (N:=2) ?hd (cs:=#[.slice A0_0 l0_0.length c0_0,.bool a0_1]) (t:=31) ?hr ?_;(case hd => rfl);(case hg => rfl);(case hr => first | (go_simp;done) | (go_simp;rfl));intro gb101 hg w4 hbox hb;have n0_:=Aside0.mk (below_step (by repeat (first | (with_reducible first | exact HB.out | apply below_alloc | apply pw_below_drewN | apply below_drew1) | exact HB.out)) hb);have n1_:=Aside0.mk (hbox);have n2_:=Aside0.mk ((by rw [hg];exact (below_size (by repeat (first | (with_reducible first | exact HB.out | apply below_alloc | apply pw_below_drewN | apply below_drew1) | exact HB.out))) : w.heap.size ≤ gb101));have n3_:=Aside0.mk ((by rw [hg];exact (below_size (by repeat (first | (with_reducible first | exact HB.out | apply below_alloc | apply pw_below_drewN | apply below_drew1) | exact HB.out))) : w.heap.size ≤ gb101));clear HB;have HB:=n0_;have BK101:=n1_;have GW101:=n2_;have GE101:=n3_;clear n0_ n1_ n2_ n3_;clear hb hbox hg) | ((with_reducible refine gate_dst (N:=3) rfl ?_);(try (refine gate_guard (by rfl) ?_;dsimp only));refine box_event ?hg (N:=3) ?hd (cs:=#[.slice A1_0 l1_0.length c1_0,.bool a1_1]) (t:=31) ?hr ?_;(case hd => rfl);(case hg => rfl);(case hr => first | (go_simp;done) | (go_simp;rfl));intro gb102 hg w5 hbox hb;have n0_:=Aside0.mk (blk_below (g:=gb101) (o := .cells #[.slice A0_0 l0_0.length c0_0,.bool a0_1] 31 (0,0)) (by (with_reducible repeat (first | refine blk_drewN ?_ _ | refine blk_drew ?_ | refine blk_alloc ?_ _));exact BK101.out) hb);have n1_:=Aside0.mk (below_step (by repeat (first | (with_reducible first | exact HB.out | apply below_alloc | apply pw_below_drewN | apply below_drew1 | refine below_set ?_ GE101.out) | exact HB.out)) hb);have n2_:=Aside0.mk (hbox);have n3_:=Aside0.mk ((by rw [hg];exact (below_size (by repeat (first | (with_reducible first | exact HB.out | apply below_alloc | apply pw_below_drewN | apply below_drew1 | refine below_set ?_ GE101.out) | exact HB.out))) : w.heap.size ≤ gb102));have n4_:=Aside0.mk ((by rw [hg];exact (below_size (by repeat (first | (with_reducible first | exact HB.out | apply below_alloc | apply pw_below_drewN | apply below_drew1 | refine below_set ?_ GE101.out) | exact HB.out))) : w.heap.size ≤ gb102));have n5_:=Aside0.mk ((by rw [hg];exact Nat.ne_of_lt (blk_lt (g:=gb101) (o := .cells #[.slice A0_0 l0_0.length c0_0,.bool a0_1] 31 (0,0)) (by (with_reducible repeat (first | refine blk_drewN ?_ _ | refine blk_drew ?_ | refine blk_alloc ?_ _));exact BK101.out)) : gb101 ≠ gb102));have n6_:=Aside0.mk ((by rw [hg];exact Nat.ne_of_gt (blk_lt (g:=gb101) (o := .cells #[.slice A0_0 l0_0.length c0_0,.bool a0_1] 31 (0,0)) (by (with_reducible repeat (first | refine blk_drewN ?_ _ | refine blk_drew ?_ | refine blk_alloc ?_ _));exact BK101.out)) : gb102 ≠ gb101));clear BK101;clear HB;have BK101:=n0_;have HB:=n1_;have BK102:=n2_;have GW102:=n3_;have GE102:=n4_;have NB101_102:=n5_;have NB102_101:=n6_;clear n0_ n1_ n2_ n3_ n4_ n5_ n6_;clear hb hbox hg));go_upto_region 1 with (first | ((with_reducible refine gate_dst (N:=2) rfl ?_);(try (refine gate_guard (by rfl) ?_;dsimp only));refine box_event ?hg (N:=2) ?hd (cs:=#[.slice A0_0 l0_0.length c0_0,.bool a0_1]) (t:=31) ?hr ?_;(case hd => rfl);(case hg => rfl);(case hr => first | (go_simp;done) | (go_simp;rfl));intro gb101 hg w4 hbox hb;have n0_:=Aside0.mk (below_step (by repeat (first | (with_reducible first | exact HB.out | apply below_alloc | apply pw_below_drewN | apply below_drew1) | exact HB.out)) hb);have n1_:=Aside0.mk (hbox);have n2_:=Aside0.mk ((by rw [hg];exact (below_size (by repeat (first | (with_reducible first | exact HB.out | apply below_alloc | apply pw_below_drewN | apply below_drew1) | exact HB.out))) : w.heap.size ≤ gb101));have n3_:=Aside0.mk ((by rw [hg];exact (below_size (by repeat (first | (with_reducible first | exact HB.out | apply below_alloc | apply pw_below_drewN | apply below_drew1) | exact HB.out))) : w.heap.size ≤ gb101));clear HB;have HB:=n0_;have BK101:=n1_;have GW101:=n2_;have GE101:=n3_;clear n0_ n1_ n2_ n3_;clear hb hbox hg) | ((with_reducible refine gate_dst (N:=3) rfl ?_);(try (refine gate_guard (by rfl) ?_;dsimp only));refine box_event ?hg (N:=3) ?hd (cs:=#[.slice A1_0 l1_0.length c1_0,.bool a1_1]) (t:=31) ?hr ?_;(case hd => rfl);(case hg => rfl);(case hr => first | (go_simp;done) | (go_simp;rfl));intro gb102 hg w5 hbox hb;have n0_:=Aside0.mk (blk_below (g:=gb101) (o := .cells #[.slice A0_0 l0_0.length c0_0,.bool a0_1] 31 (0,0)) (by (with_reducible repeat (first | refine blk_drewN ?_ _ | refine blk_drew ?_ | refine blk_alloc ?_ _));exact BK101.out) hb);have n1_:=Aside0.mk (below_step (by repeat (first | (with_reducible first | exact HB.out | apply below_alloc | apply pw_below_drewN | apply below_drew1 | refine below_set ?_ GE101.out) | exact HB.out)) hb);have n2_:=Aside0.mk (hbox);have n3_:=Aside0.mk ((by rw [hg];exact (below_size (by repeat (first | (with_reducible first | exact HB.out | apply below_alloc | apply pw_below_drewN | apply below_drew1 | refine below_set ?_ GE101.out) | exact HB.out))) : w.heap.size ≤ gb102));have n4_:=Aside0.mk ((by rw [hg];exact (below_size (by repeat (first | (with_reducible first | exact HB.out | apply below_alloc | apply pw_below_drewN | apply below_drew1 | refine below_set ?_ GE101.out) | exact HB.out))) : w.heap.size ≤ gb102));have n5_:=Aside0.mk ((by rw [hg];exact Nat.ne_of_lt (blk_lt (g:=gb101) (o := .cells #[.slice A0_0 l0_0.length c0_0,.bool a0_1] 31 (0,0)) (by (with_reducible repeat (first | refine blk_drewN ?_ _ | refine blk_drew ?_ | refine blk_alloc ?_ _));exact BK101.out)) : gb101 ≠ gb102));have n6_:=Aside0.mk ((by rw [hg];exact Nat.ne_of_gt (blk_lt (g:=gb101) (o := .cells #[.slice A0_0 l0_0.length c0_0,.bool a0_1] 31 (0,0)) (by (with_reducible repeat (first | refine blk_drewN ?_ _ | refine blk_drew ?_ | refine blk_alloc ?_ _));exact BK101.out)) : gb102 ≠ gb101));clear BK101;clear HB;have BK101:=n0_;have HB:=n1_;have BK102:=n2_;have GW102:=n3_;have GE102:=n4_;have NB101_102:=n5_;have NB102_101:=n6_;clear n0_ n1_ n2_ n3_ n4_ n5_ n6_;clear hb hbox hg)))
 (try simp only [Act.put,List.setIfInBounds_toArray,List.set_cons_zero,List.set_cons_succ])
 go_cut [19] (fun v19 wc => ∃ (kq : Nat) (x19_2 : Bool),v19 = .bool x19_2 ∧ Aside0 (regletref16_Same.j0 kq x19_2 l0_0 a0_1 l1_0 a1_1 = some r) ∧ Aside0 (kq ≤ k) ∧ Aside0 (wc.heap[gb101]? = some (.cells #[(.slice A0_0 l0_0.length c0_0),.bool a0_1] 31 (0,0))) ∧ Aside0 (wc.heap[gb102]? = some (.cells #[(.slice A1_0 l1_0.length c1_0),.bool a1_1] 31 (0,0))) ∧ Aside0 (Below w.heap.size w wc))
 case first =>
  have H:=HC3.out
  clear HC3
  by_cases c6 : (a0_1 != a1_1) = true
  · rw [if_pos c6] at H
    have c6b0 : (a0_1 != a1_1) = true:=c6
    (try (have c6b1 : decide (a0_1 = a1_1) = false:=by simpa using c6))
    (try (have c6b2 : (a0_1 == a1_1) = false:=by simpa using c6))
    (try (have c6b3 : ¬ (a0_1 = a1_1) := by simpa using c6))
    clear c6
    (first | rw [c6b0] | (simp only [i64_w,i32_w];rw [c6b0]) | skip)
    have H' := Aside0.mk H
    clear H
    have hnb7:=NB101_102.out
    have hnc7:=NB102_101.out
    have hcz8_0 : w5.cell? ⟨gb101,0,none⟩ = some (.slice A0_0 l0_0.length c0_0) := (blk_cell BK101.out 0).trans rfl
    have hcz8_1 : w5.cell? ⟨gb101,1,none⟩ = some (.bool a0_1) := (blk_cell BK101.out 1).trans rfl
    have hfz8_0:=blk_frozen BK101.out 0
    have hfz8_1:=blk_frozen BK101.out 1
    have hcz9_0 : w5.cell? ⟨gb102,0,none⟩ = some (.slice A1_0 l1_0.length c1_0) := (blk_cell BK102.out 0).trans rfl
    have hcz9_1 : w5.cell? ⟨gb102,1,none⟩ = some (.bool a1_1) := (blk_cell BK102.out 1).trans rfl
    have hfz9_0:=blk_frozen BK102.out 0
    have hfz9_1:=blk_frozen BK102.out 1
    go_wp2
    repeat (go_quiet (fail);try go_wp2)
    go_meet
    case rel => exact ⟨_,(true),(by first | rfl | (simp;done) | (simp [*];done)),H',⟨by first | omega | exact Nat.le_refl _⟩,⟨by (with_reducible repeat (first | refine blk_drewN ?_ _ | refine blk_drew ?_ | refine blk_alloc ?_ _));exact BK101.out⟩,⟨by (with_reducible repeat (first | refine blk_drewN ?_ _ | refine blk_drew ?_ | refine blk_alloc ?_ _));exact BK102.out⟩,⟨by repeat (first | (with_reducible first | exact HB.out | apply below_alloc | apply pw_below_drewN | apply below_drew1 | refine below_set ?_ GE101.out | refine below_set ?_ GE102.out) | exact HB.out)⟩⟩
  · rw [if_neg c6] at H
    have c6b0 : (a0_1 != a1_1) = false:=by simpa using c6
    (try (have c6b1 : decide (a0_1 = a1_1) = true:=by simpa using c6))
    (try (have c6b2 : (a0_1 == a1_1) = true:=by simpa using c6))
    clear c6
    (first | rw [c6b0] | (simp only [i64_w,i32_w];rw [c6b0]) | skip)
    have H' := Aside0.mk H
    clear H
    have hnb10:=NB101_102.out
    have hnc10:=NB102_101.out
    have hcz11_0 : w5.cell? ⟨gb101,0,none⟩ = some (.slice A0_0 l0_0.length c0_0) := (blk_cell BK101.out 0).trans rfl
    have hcz11_1 : w5.cell? ⟨gb101,1,none⟩ = some (.bool a0_1) := (blk_cell BK101.out 1).trans rfl
    have hfz11_0:=blk_frozen BK101.out 0
    have hfz11_1:=blk_frozen BK101.out 1
    have hcz12_0 : w5.cell? ⟨gb102,0,none⟩ = some (.slice A1_0 l1_0.length c1_0) := (blk_cell BK102.out 0).trans rfl
    have hcz12_1 : w5.cell? ⟨gb102,1,none⟩ = some (.bool a1_1) := (blk_cell BK102.out 1).trans rfl
    have hfz12_0:=blk_frozen BK102.out 0
    have hfz12_1:=blk_frozen BK102.out 1
    go_wp2
    repeat (go_quiet (fail);try go_wp2)
    go_meet
    case rel => exact ⟨_,(((l0_0.length : Int) != (l1_0.length : Int))),(by first | rfl | (simp;done) | (simp [*];done)),H',⟨by first | omega | exact Nat.le_refl _⟩,⟨by (with_reducible repeat (first | refine blk_drewN ?_ _ | refine blk_drew ?_ | refine blk_alloc ?_ _));exact BK101.out⟩,⟨by (with_reducible repeat (first | refine blk_drewN ?_ _ | refine blk_drew ?_ | refine blk_alloc ?_ _));exact BK102.out⟩,⟨by repeat (first | (with_reducible first | exact HB.out | apply below_alloc | apply pw_below_drewN | apply below_drew1 | refine below_set ?_ GE101.out | refine below_set ?_ GE102.out) | exact HB.out)⟩⟩
 case rest =>
  clear HC3
  (try clear c1);(try clear p2);(try clear c6);(try clear c6b0);(try clear c6b1);(try clear c6b2);(try clear c7);(try clear c10);(try clear hcz11_0);(try clear hcz11_1);(try clear hcz12_0);(try clear hcz12_1);(try clear hcz8_0);(try clear hcz8_1);(try clear hcz9_0);(try clear hcz9_1);(try clear hfz11_0);(try clear hfz11_1);(try clear hfz12_0);(try clear hfz12_1);(try clear hfz8_0);(try clear hfz8_1)
  (try clear hfz9_0);(try clear hfz9_1)
  obtain ⟨kq,x19_2,rfl,HA,HJ2,BK101,BK102,HB⟩ := hcut
  cases kq with
  | zero => exact absurd HA.out (by simp [regletref16_Same.j0])
  | succ kj2 =>
   have H:=HA.out
   clear HA
   simp only [regletref16_Same.j0] at H
   by_cases c13 : x19_2 = true
   · subst c13
     have H1 : (some false) = some r:=by rw [if_pos rfl] at H;exact H
     clear H
     have H:=H1
     clear H1
     obtain rfl:=Option.some.inj H
     go_wp2
     repeat (go_quiet (fail);try go_wp2)
     go_ret
     exact ⟨by first | rfl | (simp [errW_none,errW_some] <;> rfl) | (simp [*,errW_none,errW_some] <;> rfl),by repeat (first | (with_reducible first | exact HB.out | apply below_alloc | apply pw_below_drewN | apply below_drew1 | refine below_set ?_ GE101.out | refine below_set ?_ GE102.out) | exact HB.out)⟩
   · replace c13:=Bool.eq_false_iff.mpr c13
     subst c13
     have H1 : (regletref16_Same.l0 kj2 0 l0_0 a0_1 l1_0 a1_1) = some r:=by rw [if_neg (show ¬ (false = true) by decide)] at H;exact H
     clear H
     have H:=H1
     clear H1
     have H' := Aside0.mk H
     clear H
     go_wp2
     repeat (go_quiet (fail);try go_wp2)
     go_loopg [5] kj2 (fun kq v5 w' => ∃ (x5_2 : Int),v5 = .int .i64 x5_2 ∧ Aside0 (regletref16_Same.l0 kq x5_2 l0_0 a0_1 l1_0 a1_1 = some r) ∧ Aside0 (kq ≤ kj2) ∧ Aside0 (w'.heap[gb101]? = some (.cells #[(.slice A0_0 l0_0.length c0_0),.bool a0_1] 31 (0,0))) ∧ Aside0 (w'.heap[gb102]? = some (.cells #[(.slice A1_0 l1_0.length c1_0),.bool a1_1] 31 (0,0))) ∧ Aside0 (Below w.heap.size w w'))
     case atStart => exact ⟨(0),(by first | rfl | (simp;done) | (simp [*];done)),H',⟨Nat.le_refl _⟩,⟨by (with_reducible repeat (first | refine blk_drewN ?_ _ | refine blk_drew ?_ | refine blk_alloc ?_ _));exact BK101.out⟩,⟨by (with_reducible repeat (first | refine blk_drewN ?_ _ | refine blk_drew ?_ | refine blk_alloc ?_ _));exact BK102.out⟩,⟨by repeat (first | (with_reducible first | exact HB.out | apply below_alloc | apply pw_below_drewN | apply below_drew1 | refine below_set ?_ GE101.out | refine below_set ?_ GE102.out) | exact HB.out)⟩⟩
     case round =>
      clear H'
      (try clear c1);(try clear p2);(try clear c6);(try clear c6b0);(try clear c6b1);(try clear c6b2);(try clear c7);(try clear c10);(try clear c13);(try clear hcz11_0);(try clear hcz11_1);(try clear hcz12_0);(try clear hcz12_1);(try clear hcz8_0);(try clear hcz8_1);(try clear hcz9_0);(try clear hcz9_1);(try clear hfz11_0);(try clear hfz11_1);(try clear hfz12_0);(try clear hfz12_1);(try clear hfz8_0);(try clear hfz8_1)
      (try clear hfz9_0);(try clear hfz9_1);(try clear p2)
      obtain ⟨x5_2,rfl,HA,HK2,BK101,BK102,HB⟩ := hrel
      cases gk with
      | zero => exact absurd HA.out (by simp [regletref16_Same.l0])
      | succ k2 =>
       have H:=HA.out
       clear HA
       simp only [regletref16_Same.l0] at H
       by_cases c14 : x5_2 < (l0_0.length : Int)
       · rw [if_pos c14] at H
         have c14b0 : decide (x5_2 < (l0_0.length : Int)) = true:=decide_eq_true c14
         clear c14
         by_cases c15 : 0 ≤ x5_2
         rotate_left
         · rw [if_neg c15] at H
           exact absurd H (by simp)
         rw [if_pos c15] at H
         have c15b0 : decide (0 ≤ x5_2) = true:=decide_eq_true c15
         clear c15
         by_cases c16 : x5_2 < (l1_0.length : Int)
         rotate_left
         · rw [if_neg c16] at H
           exact absurd H (by simp)
         rw [if_pos c16] at H
         have c16b0 : decide (x5_2 < (l1_0.length : Int)) = true:=decide_eq_true c16
         clear c16
         by_cases c17 : (!(((rd_T43 l0_0 x5_2).f0) == ((rd_T43 l1_0 x5_2).f0)) || (!(((rd_T43 l0_0 x5_2).f1) == ((rd_T43 l1_0 x5_2).f1)))) = true
         · rw [if_pos c17] at H
           have c17b0 : (!(((rd_T43 l0_0 x5_2).f0) == ((rd_T43 l1_0 x5_2).f0)) || (!(((rd_T43 l0_0 x5_2).f1) == ((rd_T43 l1_0 x5_2).f1)))) = true:=c17
           clear c17
           obtain rfl:=Option.some.inj H
           have hnb18:=NB101_102.out
           have hnc18:=NB102_101.out
           have hcz19_0 : wr.cell? ⟨gb101,0,none⟩ = some (.slice A0_0 l0_0.length c0_0) := (blk_cell BK101.out 0).trans rfl
           have hcz19_1 : wr.cell? ⟨gb101,1,none⟩ = some (.bool a0_1) := (blk_cell BK101.out 1).trans rfl
           have hfz19_0:=blk_frozen BK101.out 0
           have hfz19_1:=blk_frozen BK101.out 1
           have p103 : 0 ≤ (x5_2 : Int) := of_decide_eq_true (by first | (with_reducible assumption) | assumption)
           have q103 : x5_2 < (l0_0.length : Int) := of_decide_eq_true (by first | (with_reducible assumption) | assumption)
           obtain ⟨ad103,e103,hx103_0,hx103_1⟩ := at_T43 HR0_0.out x5_2 p103 q103
           cases e103
           replace hx103_0:=(HB.out.cell (World.block_lt_of_cell? w _ hx103_0)).trans hx103_0
           replace hx103_1:=(HB.out.cell (World.block_lt_of_cell? w _ hx103_1)).trans hx103_1
           replace p103:=eq_true p103
           replace q103:=eq_true q103
           have hcz20_0 : wr.cell? ⟨gb102,0,none⟩ = some (.slice A1_0 l1_0.length c1_0) := (blk_cell BK102.out 0).trans rfl
           have hcz20_1 : wr.cell? ⟨gb102,1,none⟩ = some (.bool a1_1) := (blk_cell BK102.out 1).trans rfl
           have hfz20_0:=blk_frozen BK102.out 0
           have hfz20_1:=blk_frozen BK102.out 1
           have p104 : 0 ≤ (x5_2 : Int) := of_decide_eq_true (by first | (with_reducible assumption) | assumption)
           have q104 : x5_2 < (l1_0.length : Int) := of_decide_eq_true (by first | (with_reducible assumption) | assumption)
           obtain ⟨ad104,e104,hx104_0,hx104_1⟩ := at_T43 HR1_0.out x5_2 p104 q104
           cases e104
           replace hx104_0:=(HB.out.cell (World.block_lt_of_cell? w _ hx104_0)).trans hx104_0
           replace hx104_1:=(HB.out.cell (World.block_lt_of_cell? w _ hx104_1)).trans hx104_1
           replace p104:=eq_true p104
           replace q104:=eq_true q104
           go_wp2
           repeat (go_quiet (fail);try go_wp2)
           go_ret
           exact ⟨by first | rfl | (simp [errW_none,errW_some] <;> rfl) | (simp [*,errW_none,errW_some] <;> rfl),by repeat (first | (with_reducible first | exact HB.out | apply below_alloc | apply pw_below_drewN | apply below_drew1 | refine below_set ?_ GE101.out | refine below_set ?_ GE102.out) | exact HB.out)⟩
         · rw [if_neg c17] at H
           have c17b0 : (!(((rd_T43 l0_0 x5_2).f0) == ((rd_T43 l1_0 x5_2).f0)) || (!(((rd_T43 l0_0 x5_2).f1) == ((rd_T43 l1_0 x5_2).f1)))) = false:=by simpa using c17
           clear c17
           have H' := Aside0.mk H
           clear H
           have hnb21:=NB101_102.out
           have hnc21:=NB102_101.out
           have hcz22_0 : wr.cell? ⟨gb101,0,none⟩ = some (.slice A0_0 l0_0.length c0_0) := (blk_cell BK101.out 0).trans rfl
           have hcz22_1 : wr.cell? ⟨gb101,1,none⟩ = some (.bool a0_1) := (blk_cell BK101.out 1).trans rfl
           have hfz22_0:=blk_frozen BK101.out 0
           have hfz22_1:=blk_frozen BK101.out 1
           have p103 : 0 ≤ (x5_2 : Int) := of_decide_eq_true (by first | (with_reducible assumption) | assumption)
           have q103 : x5_2 < (l0_0.length : Int) := of_decide_eq_true (by first | (with_reducible assumption) | assumption)
           obtain ⟨ad103,e103,hx103_0,hx103_1⟩ := at_T43 HR0_0.out x5_2 p103 q103
           cases e103
           replace hx103_0:=(HB.out.cell (World.block_lt_of_cell? w _ hx103_0)).trans hx103_0
           replace hx103_1:=(HB.out.cell (World.block_lt_of_cell? w _ hx103_1)).trans hx103_1
           replace p103:=eq_true p103
           replace q103:=eq_true q103
           have hcz23_0 : wr.cell? ⟨gb102,0,none⟩ = some (.slice A1_0 l1_0.length c1_0) := (blk_cell BK102.out 0).trans rfl
           have hcz23_1 : wr.cell? ⟨gb102,1,none⟩ = some (.bool a1_1) := (blk_cell BK102.out 1).trans rfl
           have hfz23_0:=blk_frozen BK102.out 0
           have hfz23_1:=blk_frozen BK102.out 1
           have p104 : 0 ≤ (x5_2 : Int) := of_decide_eq_true (by first | (with_reducible assumption) | assumption)
           have q104 : x5_2 < (l1_0.length : Int) := of_decide_eq_true (by first | (with_reducible assumption) | assumption)
           obtain ⟨ad104,e104,hx104_0,hx104_1⟩ := at_T43 HR1_0.out x5_2 p104 q104
           cases e104
           replace hx104_0:=(HB.out.cell (World.block_lt_of_cell? w _ hx104_0)).trans hx104_0
           replace hx104_1:=(HB.out.cell (World.block_lt_of_cell? w _ hx104_1)).trans hx104_1
           replace p104:=eq_true p104
           replace q104:=eq_true q104
           go_wp2
           repeat (go_quiet (fail);try go_wp2)
           go_roundg k2
           case measure => have:=HJ2.out;have:=HK2.out;omega
           case rel => exact ⟨(wrap64 (x5_2 + 1)),(by first | rfl | (simp;done) | (simp [*];done)),H',⟨by have:=HJ2.out;have:=HK2.out;omega⟩,⟨by (with_reducible repeat (first | refine blk_drewN ?_ _ | refine blk_drew ?_ | refine blk_alloc ?_ _));exact BK101.out⟩,⟨by (with_reducible repeat (first | refine blk_drewN ?_ _ | refine blk_drew ?_ | refine blk_alloc ?_ _));exact BK102.out⟩,⟨by repeat (first | (with_reducible first | exact HB.out | apply below_alloc | apply pw_below_drewN | apply below_drew1 | refine below_set ?_ GE101.out | refine below_set ?_ GE102.out) | exact HB.out)⟩⟩
       · rw [if_neg c14] at H
         have c14b0 : decide (x5_2 < (l0_0.length : Int)) = false:=decide_eq_false c14
         clear c14
         obtain rfl:=Option.some.inj H
         have hnb24:=NB101_102.out
         have hnc24:=NB102_101.out
         have hcz25_0 : wr.cell? ⟨gb101,0,none⟩ = some (.slice A0_0 l0_0.length c0_0) := (blk_cell BK101.out 0).trans rfl
         have hcz25_1 : wr.cell? ⟨gb101,1,none⟩ = some (.bool a0_1) := (blk_cell BK101.out 1).trans rfl
         have hfz25_0:=blk_frozen BK101.out 0
         have hfz25_1:=blk_frozen BK101.out 1
         go_wp2
         repeat (go_quiet (fail);try go_wp2)
         go_ret
         exact ⟨by first | rfl | (simp [errW_none,errW_some] <;> rfl) | (simp [*,errW_none,errW_some] <;> rfl),by repeat (first | (with_reducible first | exact HB.out | apply below_alloc | apply pw_below_drewN | apply below_drew1 | refine below_set ?_ GE101.out | refine below_set ?_ GE102.out) | exact HB.out)⟩
def machine_Start.f  : Option ((List (S43)) × Bool) := some ((([(⟨false,0⟩ : S43)] : List (S43))),false)
set_option maxHeartbeats 8000000 in
set_option maxRecDepth 100000 in
theorem machine_Start.calls  (r1 : List (S43)) (r2 : Bool) (w : World) (h : machine_Start.f  = some (r1,r2)) :
    Calls Try.prog 17 #[] w fun e w' => ∃ v0_ : Value,e = .returned (.agg #[v0_,.bool r2]) ∧ Kd.R k43 43 w' w.heap.size (fun _ => True) v0_ r1 ∧ Below w.heap.size w w' := by
 have hu31:=Try.underlying31
 have hu43:=Try.underlying43
 have HB:=Aside0.mk (Below.refl w.heap.size w)
 have H : (some ((([(⟨false,0⟩ : S43)] : List (S43))),false)) = some (r1,r2) := h
 clear h
 obtain ⟨y106,hy106⟩ : ∃ y_ : List (S43),y_ = (([(⟨false,0⟩ : S43)] : List (S43))) := ⟨_,rfl⟩
 replace H : (some (y106,false)) = some (r1,r2) := by first | (rw [hy106];with_reducible exact H) | (have H2_:=(Option.bind_some _ _).symm.trans H;rw [hy106];with_reducible exact H2_) | (have H2_:=(Option.bind_some _ _).symm.trans H;with_reducible exact H2_) | with_reducible exact H | (rw [hy106];exact H) | exact H
 have Ny106:=Aside0.mk hy106
 clear hy106
 simp only [Option.some.injEq,Prod.mk.injEq] at H
 obtain ⟨rfl,rfl⟩ := H
 go_enter Try.func17,Try.ntmps17
 go_wp2_with (first | ((with_reducible refine gate_dst (N:=0) rfl ?_);refine box_event ?hg (N:=0) ?hd (cs:=#[.slice none 0 0,.bool false]) (t:=31) ?hr ?_;(case hd => rfl);(case hg => rfl);(case hr => first | (go_simp;done) | (go_simp;rfl));intro gb105 hg w1 hbox hb;have n0_:=Aside0.mk (below_step (by repeat (first | (with_reducible first | exact HB.out | apply below_alloc | apply pw_below_drewN | apply below_drew1) | exact HB.out)) hb);have n1_:=Aside0.mk (hbox);have n2_:=Aside0.mk ((by rw [hg];exact (below_size (by repeat (first | (with_reducible first | exact HB.out | apply below_alloc | apply pw_below_drewN | apply below_drew1) | exact HB.out))) : w.heap.size ≤ gb105));have n3_:=Aside0.mk ((by rw [hg];exact (below_size (by repeat (first | (with_reducible first | exact HB.out | apply below_alloc | apply pw_below_drewN | apply below_drew1) | exact HB.out))) : w.heap.size ≤ gb105));clear HB;have HB:=n0_;have BK105:=n1_;have GW105:=n2_;have GE105:=n3_;clear n0_ n1_ n2_ n3_;clear hb hbox hg) | ((with_reducible refine gate_dst (N:=2) rfl ?_);refine Kd.R_lit k43 _ 43 ?hg (N:=2) ?hd (xs:=([(⟨false,0⟩ : S43)] : List (S43))) (inner := [.bool false,.int .i64 0]) (ok:=fun _ => True) (okp:=fun _ => True) ?hr ?hp (fun _ hk => hk) trivial (Below.refl _ _) (Nat.le_refl _) (by simp) ?_;(case hd => rfl);(case hg => rfl);(case hr => first | (go_simp;done) | (go_simp;rfl));(case hp => exact (Reps.c2 (show Kd.M k43 _ _ _ (⟨false,0⟩ : S43) [.bool false,.int .i64 0] from (k43_mkM _ _ _ (⟨false,0⟩ : S43) )) (Reps.none _ _)));intro v107 w2 ho3 hb hg_ hnew_;clear hg_ hnew_;(first | rw [← Ny106.out] at ho3 | (simp only [Int.reduceToNat] at ho3;rw [← Ny106.out] at ho3));have n0_:=Aside0.mk (Kd.R_lower ho3 (below_size (by repeat (first | (with_reducible first | exact HB.out | apply below_alloc | apply pw_below_drewN | apply below_drew1 | refine below_set ?_ GE105.out) | exact HB.out))));have n1_:=Aside0.mk (blk_below (g:=gb105) (o := .cells #[.slice none 0 0,.bool false] 31 (0,0)) (by (with_reducible repeat (first | refine blk_drewN ?_ _ | refine blk_drew ?_ | refine blk_alloc ?_ _));exact BK105.out) hb);have n2_:=Aside0.mk (below_step (by repeat (first | (with_reducible first | exact HB.out | apply below_alloc | apply pw_below_drewN | apply below_drew1 | refine below_set ?_ GE105.out) | exact HB.out)) hb);clear BK105;clear HB;have HO108:=n0_;have BK105:=n1_;have HB:=n2_;clear n0_ n1_ n2_;clear hb ho3;obtain ⟨Ao4,co4,eo4⟩ := Kd.R_slice HO108.out;subst eo4;have hcz5_0 : w2.cell? ⟨gb105,0,none⟩ = some (.slice none 0 0) := (blk_cell BK105.out 0).trans rfl;have hcz5_1 : w2.cell? ⟨gb105,1,none⟩ = some (.bool false) := (blk_cell BK105.out 1).trans rfl;have hfz5_0:=blk_frozen BK105.out 0;have hfz5_1:=blk_frozen BK105.out 1))
 refine bodyPost_ret (results_cell_row rfl _ _ gb105 31 #[.slice Ao4 y106.length co4,.bool false] (0,0) _ rfl (by (with_reducible repeat (first | refine blk_drewN ?_ _ | refine blk_drew ?_ | refine blk_alloc ?_ _));refine blk_put (cs:=#[.slice Ao4 y106.length co4,.bool false]) ?_ 1 _ rfl;(with_reducible repeat (first | refine blk_drewN ?_ _ | refine blk_drew ?_ | refine blk_alloc ?_ _));refine blk_put (cs:=#[.slice none 0 0,.bool false]) ?_ 0 _ rfl;(with_reducible repeat (first | refine blk_drewN ?_ _ | refine blk_drew ?_ | refine blk_alloc ?_ _));exact BK105.out) Try.underlying31 rfl (by kernel_rfl)) rfl ?_
 exact ⟨_,by first | rfl | (simp [errW_none,errW_some] <;> rfl) | (simp [*,errW_none,errW_some] <;> rfl),by (with_reducible repeat (first | apply Kd.R_alloc | apply Kd.R_drewN | apply Kd.R_drew));exact Kd.R_mono (Kd.R_far (p:=⟨gb105,1,none⟩) (Kd.R_far (p:=⟨gb105,0,none⟩) (Kd.R_types HO108.out BK105.out (by decide)) (fun _ hk => hk.2) (.slice Ao4 y106.length co4)) (fun _ hk => hk.2) (.bool false)) (fun _ hk => trivial),by repeat (first | (with_reducible first | exact HB.out | apply below_alloc | apply pw_below_drewN | apply below_drew1 | refine below_set ?_ GE105.out) | exact HB.out)⟩
def machine_dead.f  : Option ((List (S43)) × Bool) := some (([] : List (S43)),true)
set_option maxHeartbeats 8000000 in
set_option maxRecDepth 100000 in
theorem machine_dead.calls  (r1 : List (S43)) (r2 : Bool) (w : World) (h : machine_dead.f  = some (r1,r2)) :
    Calls Try.prog 36 #[] w fun e w' => ∃ v0_ : Value,e = .returned (.agg #[v0_,.bool r2]) ∧ Kd.R k43 43 w' w.heap.size (fun _ => True) v0_ r1 ∧ Below w.heap.size w w' := by
 have hu31:=Try.underlying31
 have HB:=Aside0.mk (Below.refl w.heap.size w)
 have H : (some (([] : List (S43)),true)) = some (r1,r2) := h
 clear h
 simp only [Option.some.injEq,Prod.mk.injEq] at H
 obtain ⟨rfl,rfl⟩ := H
 go_enter Try.func36,Try.ntmps36
 go_wp2_with (first | ((with_reducible refine gate_dst (N:=0) rfl ?_);refine box_event ?hg (N:=0) ?hd (cs:=#[.slice none 0 0,.bool false]) (t:=31) ?hr ?_;(case hd => rfl);(case hg => rfl);(case hr => first | (go_simp;done) | (go_simp;rfl));intro gb110 hg w1 hbox hb;have n0_:=Aside0.mk (below_step (by repeat (first | (with_reducible first | exact HB.out | apply below_alloc | apply pw_below_drewN | apply below_drew1) | exact HB.out)) hb);have n1_:=Aside0.mk (hbox);have n2_:=Aside0.mk ((by rw [hg];exact (below_size (by repeat (first | (with_reducible first | exact HB.out | apply below_alloc | apply pw_below_drewN | apply below_drew1) | exact HB.out))) : w.heap.size ≤ gb110));have n3_:=Aside0.mk ((by rw [hg];exact (below_size (by repeat (first | (with_reducible first | exact HB.out | apply below_alloc | apply pw_below_drewN | apply below_drew1) | exact HB.out))) : w.heap.size ≤ gb110));clear HB;have HB:=n0_;have BK110:=n1_;have GW110:=n2_;have GE110:=n3_;clear n0_ n1_ n2_ n3_;clear hb hbox hg;have hcz2_0 : w1.cell? ⟨gb110,0,none⟩ = some (.slice none 0 0) := (blk_cell BK110.out 0).trans rfl;have hcz2_1 : w1.cell? ⟨gb110,1,none⟩ = some (.bool false) := (blk_cell BK110.out 1).trans rfl;have hfz2_0:=blk_frozen BK110.out 0;have hfz2_1:=blk_frozen BK110.out 1))
 refine bodyPost_ret (results_cell_row rfl _ _ gb110 31 #[.slice none 0 0,.bool true] (0,0) _ rfl (by (with_reducible repeat (first | refine blk_drewN ?_ _ | refine blk_drew ?_ | refine blk_alloc ?_ _));refine blk_put (cs:=#[.slice none 0 0,.bool false]) ?_ 1 _ rfl;(with_reducible repeat (first | refine blk_drewN ?_ _ | refine blk_drew ?_ | refine blk_alloc ?_ _));refine blk_put (cs:=#[.slice none 0 0,.bool false]) ?_ 0 _ rfl;(with_reducible repeat (first | refine blk_drewN ?_ _ | refine blk_drew ?_ | refine blk_alloc ?_ _));exact BK110.out) Try.underlying31 rfl (by kernel_rfl)) rfl ?_
 exact ⟨_,by first | rfl | (simp [errW_none,errW_some] <;> rfl) | (simp [*,errW_none,errW_some] <;> rfl),by first | exact Kd.R_nil _ _ _ _ _ | exact Kd.N_nil _ _ _ _ _ | exact Kd.V_nil _ _ _ _ _ | exact Kd.Q_nil _ _ _ _ _ | exact Kd.S_nil _ _ _ _ _,by repeat (first | (with_reducible first | exact HB.out | apply below_alloc | apply pw_below_drewN | apply below_drew1 | refine below_set ?_ GE110.out) | exact HB.out)⟩
def regletref13_SameInts.l0 : Nat → List Int → List Int → Int → Option (Bool)
  | 0,_,_,_ => none
  | k + 1,x0,x1,x5 => if x5 < (x0.length : Int) then (if 0 ≤ x5 then (if x5 < (x1.length : Int) then (if (rd x0 x5) = (rd x1 x5) then (regletref13_SameInts.l0 k x0 x1 (wrap64 (x5 + 1))) else (some false)) else (none)) else (none)) else (some true)
def regletref13_SameInts.f (k : Nat) (l0 : List Int) (l1 : List Int) : Option (Bool) := if (l0.length : Int) = (l1.length : Int) then (regletref13_SameInts.l0 k l0 l1 0) else (some false)
theorem regletref13_SameInts.mono_l : ∀ k,(∀ y0 y1 y2,LeO (regletref13_SameInts.l0 k y0 y1 y2) (regletref13_SameInts.l0 (k + 1) y0 y1 y2))
  | 0 => fun _ _ _ r h => by simp [regletref13_SameInts.l0] at h
  | k + 1 => by
    have ih0:=regletref13_SameInts.mono_l k
    · intro y0 y1 y2
      unfold regletref13_SameInts.l0
      repeat' first
      | (with_reducible exact ih0 _ _ _)
      | (with_reducible exact LeO.refl _)
      | (with_reducible exact LeO.none _)
      | (with_reducible refine LeO.ite ?_ ?_)
      | (with_reducible refine LeO.bind ?_ (fun _ => ?_))
      | exact ih0 _ _ _
      | exact LeO.none _
      | refine LeO.ite ?_ ?_
      | refine LeO.bind ?_ (fun _ => ?_)
theorem regletref13_SameInts.mono : ∀ a0 a1 k,LeO (regletref13_SameInts.f k a0 a1) (regletref13_SameInts.f (k + 1) a0 a1) := by
 intro a0 a1 k
 have ih0:=regletref13_SameInts.mono_l k
 unfold regletref13_SameInts.f
 repeat' first
     | (with_reducible exact ih0 _ _ _)
     | (with_reducible exact LeO.refl _)
     | (with_reducible exact LeO.none _)
     | (with_reducible refine LeO.ite ?_ ?_)
     | (with_reducible refine LeO.bind ?_ (fun _ => ?_))
     | exact ih0 _ _ _
     | exact LeO.none _
     | refine LeO.ite ?_ ?_
     | refine LeO.bind ?_ (fun _ => ?_)
set_option maxHeartbeats 8000000 in
set_option maxRecDepth 100000 in
theorem regletref13_SameInts.calls (k : Nat) (A0 : Option Addr) (c0 : Nat) (l0 : List Int) (A1 : Option Addr) (c1 : Nat) (l1 : List Int) (r : Bool) (w : World) (hr0 : Kd.C (Kd.int .i64) w A0 l0.length l0) (hc0 : l0.length ≤ c0) (hr1 : Kd.C (Kd.int .i64) w A1 l1.length l1) (hc1 : l1.length ≤ c1) (h : regletref13_SameInts.f k l0 l1 = some r) :
    Calls Try.prog 24 #[.slice A0 l0.length c0,.slice A1 l1.length c1] w fun e w' => e = .returned (.bool r) ∧ Drawn0 w w' := by
 have HR0:=Aside0.mk hr0
 have HC0:=Aside0.mk hc0
 clear hr0 hc0
 have HR1:=Aside0.mk hr1
 have HC1:=Aside0.mk hc1
 clear hr1 hc1
 have H : (if (l0.length : Int) = (l1.length : Int) then (regletref13_SameInts.l0 k l0 l1 0) else (some false)) = some r:=h
 clear h
 by_cases c3 : (l0.length : Int) = (l1.length : Int)
 · rw [if_pos c3] at H
   have c3b0 : ((l0.length : Int) == (l1.length : Int)) = true:=beq_iff_eq.mpr c3
   have c3b1 : ((l0.length : Int) != (l1.length : Int)) = false:=bne_eq_false_iff_eq.mpr c3
   have c3b2 : (l0.length == l1.length) = true:=by first | simpa using c3 | (simp at c3 ⊢;omega)
   clear c3
   have H' := Aside0.mk H
   clear H
   go_enter Try.func24,Try.ntmps24
   go_wp2
   repeat (go_quiet (fail);try go_wp2)
   go_loopg [5] k (fun kq v5 w' => ∃ (x5_1 : Int),v5 = .int .i64 x5_1 ∧ Aside0 (regletref13_SameInts.l0 kq l0 l1 x5_1 = some r) ∧ Aside0 (kq ≤ k) ∧ Drawn0 w w')
   case atStart => exact ⟨(0),(by first | rfl | (simp;done) | (simp [*];done)),H',⟨Nat.le_refl _⟩,by repeat (first | exact Drawn0.refl _ | apply Drawn0.step)⟩
   case round =>
    clear H'
    (try clear c1);(try clear c2);(try clear p2);(try clear c3);(try clear c3b0);(try clear c3b1);(try clear c3b2)
    obtain ⟨x5_1,rfl,HA,HK1,⟨m1,rfl⟩⟩ := hrel
    cases gk with
    | zero => exact absurd HA.out (by simp [regletref13_SameInts.l0])
    | succ k1 =>
     have H:=HA.out
     clear HA
     simp only [regletref13_SameInts.l0] at H
     by_cases c4 : x5_1 < (l0.length : Int)
     · rw [if_pos c4] at H
       have c4b0 : decide (x5_1 < (l0.length : Int)) = true:=decide_eq_true c4
       clear c4
       by_cases c5 : 0 ≤ x5_1
       rotate_left
       · rw [if_neg c5] at H
         exact absurd H (by simp)
       rw [if_pos c5] at H
       have c5b0 : decide (0 ≤ x5_1) = true:=decide_eq_true c5
       clear c5
       by_cases c6 : x5_1 < (l1.length : Int)
       rotate_left
       · rw [if_neg c6] at H
         exact absurd H (by simp)
       rw [if_pos c6] at H
       have c6b0 : decide (x5_1 < (l1.length : Int)) = true:=decide_eq_true c6
       clear c6
       by_cases c7 : (rd l0 x5_1) = (rd l1 x5_1)
       · rw [if_pos c7] at H
         have c7b0 : ((rd l0 x5_1) == (rd l1 x5_1)) = true:=beq_iff_eq.mpr c7
         have c7b1 : ((rd l0 x5_1) != (rd l1 x5_1)) = false:=bne_eq_false_iff_eq.mpr c7
         clear c7
         have H' := Aside0.mk H
         clear H
         have p143 : 0 ≤ (x5_1 : Int) := of_decide_eq_true (by first | (with_reducible assumption) | assumption)
         have q143 : x5_1 < (l0.length : Int) := of_decide_eq_true (by first | (with_reducible assumption) | assumption)
         obtain ⟨ad143,e143,hx143_0⟩ := Kd.at_int HR0.out x5_1 p143 q143
         cases e143
         replace p143:=eq_true p143
         replace q143:=eq_true q143
         have p144 : 0 ≤ (x5_1 : Int) := of_decide_eq_true (by first | (with_reducible assumption) | assumption)
         have q144 : x5_1 < (l1.length : Int) := of_decide_eq_true (by first | (with_reducible assumption) | assumption)
         obtain ⟨ad144,e144,hx144_0⟩ := Kd.at_int HR1.out x5_1 p144 q144
         cases e144
         replace p144:=eq_true p144
         replace q144:=eq_true q144
         go_wp2
         repeat (go_quiet (fail);try go_wp2)
         go_roundg k1
         case measure => have:=HK1.out;omega
         case rel => exact ⟨(wrap64 (x5_1 + 1)),(by first | rfl | (simp;done) | (simp [*];done)),H',⟨by have:=HK1.out;omega⟩,by repeat (first | exact Drawn0.refl _ | apply Drawn0.step)⟩
       · rw [if_neg c7] at H
         have c7b0 : ((rd l0 x5_1) == (rd l1 x5_1)) = false:=beq_eq_false_iff_ne.mpr c7
         have c7b1 : ((rd l0 x5_1) != (rd l1 x5_1)) = true:=bne_iff_ne.mpr c7
         obtain rfl:=Option.some.inj H
         have p143 : 0 ≤ (x5_1 : Int) := of_decide_eq_true (by first | (with_reducible assumption) | assumption)
         have q143 : x5_1 < (l0.length : Int) := of_decide_eq_true (by first | (with_reducible assumption) | assumption)
         obtain ⟨ad143,e143,hx143_0⟩ := Kd.at_int HR0.out x5_1 p143 q143
         cases e143
         replace p143:=eq_true p143
         replace q143:=eq_true q143
         have p144 : 0 ≤ (x5_1 : Int) := of_decide_eq_true (by first | (with_reducible assumption) | assumption)
         have q144 : x5_1 < (l1.length : Int) := of_decide_eq_true (by first | (with_reducible assumption) | assumption)
         obtain ⟨ad144,e144,hx144_0⟩ := Kd.at_int HR1.out x5_1 p144 q144
         cases e144
         replace p144:=eq_true p144
         replace q144:=eq_true q144
         go_wp2
         repeat (go_quiet (fail);try go_wp2)
         go_ret
         exact ⟨by first | rfl | (simp;done) | (simp [*];done),by repeat (first | exact Drawn0.refl _ | apply Drawn0.step)⟩
     · rw [if_neg c4] at H
       have c4b0 : decide (x5_1 < (l0.length : Int)) = false:=decide_eq_false c4
       clear c4
       obtain rfl:=Option.some.inj H
       go_wp2
       repeat (go_quiet (fail);try go_wp2)
       go_ret
       exact ⟨by first | rfl | (simp;done) | (simp [*];done),by repeat (first | exact Drawn0.refl _ | apply Drawn0.step)⟩
 · rw [if_neg c3] at H
   have c3b0 : ((l0.length : Int) == (l1.length : Int)) = false:=beq_eq_false_iff_ne.mpr c3
   have c3b1 : ((l0.length : Int) != (l1.length : Int)) = true:=bne_iff_ne.mpr c3
   have c3b2 : (l0.length == l1.length) = false:=by first | simpa using c3 | (simp at c3 ⊢;omega)
   obtain rfl:=Option.some.inj H
   go_enter Try.func24,Try.ntmps24
   go_wp2
   repeat (go_quiet (fail);try go_wp2)
   go_ret
   exact ⟨by first | rfl | (simp;done) | (simp [*];done),by repeat (first | exact Drawn0.refl _ | apply Drawn0.step)⟩
attribute [local go_sem] max2_int min2_int max_two min_two max_three min_three max_four min_four   -- for this text's walks alone
set_option linter.unusedVariables false
set_option linter.unusedSimpArgs false
def regletref16_Start.f  : Option ((List (S43)) × Bool) := some ((([(⟨false,0⟩ : S43)] : List (S43))),false)
set_option maxHeartbeats 8000000 in
set_option maxRecDepth 100000 in
theorem regletref16_Start.calls  (r1 : List (S43)) (r2 : Bool) (w : World) (h : regletref16_Start.f  = some (r1,r2)) :
    Calls Try.prog 18 #[] w fun e w' => ∃ v0_ : Value,e = .returned (.agg #[v0_,.bool r2]) ∧ Kd.R k43 43 w' w.heap.size (fun _ => True) v0_ r1 ∧ Below w.heap.size w w' := by
 have hu31:=Try.underlying31
 have hu43:=Try.underlying43
 have HB:=Aside0.mk (Below.refl w.heap.size w)
 have H : (some ((([(⟨false,0⟩ : S43)] : List (S43))),false)) = some (r1,r2) := h
 clear h
 obtain ⟨y278,hy278⟩ : ∃ y_ : List (S43),y_ = (([(⟨false,0⟩ : S43)] : List (S43))) := ⟨_,rfl⟩
 replace H : (some (y278,false)) = some (r1,r2) := by first | (rw [hy278];with_reducible exact H) | (have H2_:=(Option.bind_some _ _).symm.trans H;rw [hy278];with_reducible exact H2_) | (have H2_:=(Option.bind_some _ _).symm.trans H;with_reducible exact H2_) | with_reducible exact H | (rw [hy278];exact H) | exact H
 have Ny278:=Aside0.mk hy278
 clear hy278
 simp only [Option.some.injEq,Prod.mk.injEq] at H
 obtain ⟨rfl,rfl⟩ := H
 go_enter Try.func18,Try.ntmps18
 go_wp2_with (first | ((with_reducible refine gate_dst (N:=0) rfl ?_);refine box_event ?hg (N:=0) ?hd (cs:=#[.slice none 0 0,.bool false]) (t:=31) ?hr ?_;(case hd => rfl);(case hg => rfl);(case hr => first | (go_simp;done) | (go_simp;rfl));intro gb277 hg w1 hbox hb;have n0_:=Aside0.mk (below_step (by repeat (first | (with_reducible first | exact HB.out | apply below_alloc | apply pw_below_drewN | apply below_drew1) | exact HB.out)) hb);have n1_:=Aside0.mk (hbox);have n2_:=Aside0.mk ((by rw [hg];exact (below_size (by repeat (first | (with_reducible first | exact HB.out | apply below_alloc | apply pw_below_drewN | apply below_drew1) | exact HB.out))) : w.heap.size ≤ gb277));have n3_:=Aside0.mk ((by rw [hg];exact (below_size (by repeat (first | (with_reducible first | exact HB.out | apply below_alloc | apply pw_below_drewN | apply below_drew1) | exact HB.out))) : w.heap.size ≤ gb277));clear HB;have HB:=n0_;have BK277:=n1_;have GW277:=n2_;have GE277:=n3_;clear n0_ n1_ n2_ n3_;clear hb hbox hg) | ((with_reducible refine gate_dst (N:=2) rfl ?_);refine Kd.R_lit k43 _ 43 ?hg (N:=2) ?hd (xs:=([(⟨false,0⟩ : S43)] : List (S43))) (inner := [.bool false,.int .i64 0]) (ok:=fun _ => True) (okp:=fun _ => True) ?hr ?hp (fun _ hk => hk) trivial (Below.refl _ _) (Nat.le_refl _) (by simp) ?_;(case hd => rfl);(case hg => rfl);(case hr => first | (go_simp;done) | (go_simp;rfl));(case hp => exact (Reps.c2 (show Kd.M k43 _ _ _ (⟨false,0⟩ : S43) [.bool false,.int .i64 0] from (k43_mkM _ _ _ (⟨false,0⟩ : S43) )) (Reps.none _ _)));intro v279 w2 ho3 hb hg_ hnew_;clear hg_ hnew_;(first | rw [← Ny278.out] at ho3 | (simp only [Int.reduceToNat] at ho3;rw [← Ny278.out] at ho3));have n0_:=Aside0.mk (Kd.R_lower ho3 (below_size (by repeat (first | (with_reducible first | exact HB.out | apply below_alloc | apply pw_below_drewN | apply below_drew1 | refine below_set ?_ GE277.out) | exact HB.out))));have n1_:=Aside0.mk (blk_below (g:=gb277) (o := .cells #[.slice none 0 0,.bool false] 31 (0,0)) (by (with_reducible repeat (first | refine blk_drewN ?_ _ | refine blk_drew ?_ | refine blk_alloc ?_ _));exact BK277.out) hb);have n2_:=Aside0.mk (below_step (by repeat (first | (with_reducible first | exact HB.out | apply below_alloc | apply pw_below_drewN | apply below_drew1 | refine below_set ?_ GE277.out) | exact HB.out)) hb);clear BK277;clear HB;have HO280:=n0_;have BK277:=n1_;have HB:=n2_;clear n0_ n1_ n2_;clear hb ho3;obtain ⟨Ao4,co4,eo4⟩ := Kd.R_slice HO280.out;subst eo4;have hcz5_0 : w2.cell? ⟨gb277,0,none⟩ = some (.slice none 0 0) := (blk_cell BK277.out 0).trans rfl;have hcz5_1 : w2.cell? ⟨gb277,1,none⟩ = some (.bool false) := (blk_cell BK277.out 1).trans rfl;have hfz5_0:=blk_frozen BK277.out 0;have hfz5_1:=blk_frozen BK277.out 1))
 refine bodyPost_ret (results_cell_row rfl _ _ gb277 31 #[.slice Ao4 y278.length co4,.bool false] (0,0) _ rfl (by (with_reducible repeat (first | refine blk_drewN ?_ _ | refine blk_drew ?_ | refine blk_alloc ?_ _));refine blk_put (cs:=#[.slice Ao4 y278.length co4,.bool false]) ?_ 1 _ rfl;(with_reducible repeat (first | refine blk_drewN ?_ _ | refine blk_drew ?_ | refine blk_alloc ?_ _));refine blk_put (cs:=#[.slice none 0 0,.bool false]) ?_ 0 _ rfl;(with_reducible repeat (first | refine blk_drewN ?_ _ | refine blk_drew ?_ | refine blk_alloc ?_ _));exact BK277.out) Try.underlying31 rfl (by kernel_rfl)) rfl ?_
 exact ⟨_,by first | rfl | (simp [errW_none,errW_some] <;> rfl) | (simp [*,errW_none,errW_some] <;> rfl),by (with_reducible repeat (first | apply Kd.R_alloc | apply Kd.R_drewN | apply Kd.R_drew));exact Kd.R_mono (Kd.R_far (p:=⟨gb277,1,none⟩) (Kd.R_far (p:=⟨gb277,0,none⟩) (Kd.R_types HO280.out BK277.out (by decide)) (fun _ hk => hk.2) (.slice Ao4 y278.length co4)) (fun _ hk => hk.2) (.bool false)) (fun _ hk => trivial),by repeat (first | (with_reducible first | exact HB.out | apply below_alloc | apply pw_below_drewN | apply below_drew1 | refine below_set ?_ GE277.out) | exact HB.out)⟩
attribute [local go_sem] max2_int min2_int max_two min_two max_three min_three max_four min_four   -- for this text's walks alone
set_option linter.unusedVariables false
set_option linter.unusedSimpArgs false
mutual
def regletref13_Right.l0 : Nat → Int → List ByteArray → List (S72) → Int → Int → List (S35) → Option (Bool)
  | 0,_,_,_,_,_,_ => none
  | k + 1,x3,x209000,x209001,x209002,x209003,x209004 => if x3 < (x209004.length : Int) then (if 0 ≤ x3 then (if ((rd_T35 x209004 x3).f0) < 0 then (regletref13_Right.j1 k x3 true x209000 x209001 x209002 x209003 x209004 ((rd_T35 x209004 x3).f0) ((rd_T35 x209004 x3).f1)) else (regletref13_Right.j1 k x3 (decide (((rd_T35 x209004 x3).f0) ≥ (x209000.length : Int))) x209000 x209001 x209002 x209003 x209004 ((rd_T35 x209004 x3).f0) ((rd_T35 x209004 x3).f1))) else (none)) else (some true)
def regletref13_Right.j1 : Nat → Int → Bool → List ByteArray → List (S72) → Int → Int → List (S35) → Int → List (S43) → Option (Bool)
  | 0,_,_,_,_,_,_,_,_,_ => none
  | k + 1,x3,x29,x209000,x209001,x209002,x209003,x209004,x211000,x211001 => if x29 = true then (some false) else (regletref13_Right.l1 k x3 0 x209000 x209001 x209002 x209003 x209004 x211000 x211001)
def regletref13_Right.l1 : Nat → Int → Int → List ByteArray → List (S72) → Int → Int → List (S35) → Int → List (S43) → Option (Bool)
  | 0,_,_,_,_,_,_,_,_,_ => none
  | k + 1,x3,x5,x209000,x209001,x209002,x209003,x209004,x211000,x211001 => if x5 < (x211001.length : Int) then (if 0 ≤ x5 then (if (rd_T43 x211001 x5).f0 = true then (if ((rd_T43 x211001 x5).f1) < 0 then (some false) else (if ((rd_T43 x211001 x5).f1) ≥ (x209001.length : Int) then (some false) else (regletref13_Right.l1 k x3 (wrap64 (x5 + 1)) x209000 x209001 x209002 x209003 x209004 x211000 x211001))) else (if ((rd_T43 x211001 x5).f1) < 0 then (some false) else (if ((rd_T43 x211001 x5).f1) ≥ (x209000.length : Int) then (some false) else (regletref13_Right.l1 k x3 (wrap64 (x5 + 1)) x209000 x209001 x209002 x209003 x209004 x211000 x211001)))) else (none)) else (regletref13_Right.l0 k (wrap64 (x3 + 1)) x209000 x209001 x209002 x209003 x209004)
end
def regletref13_Right.f (k : Nat) (l0_0 : List ByteArray) (l0_1 : List (S72)) (a0_2 : Int) (a0_3 : Int) (l0_4 : List (S35)) : Option (Bool) := regletref13_Right.l0 k 0 l0_0 l0_1 a0_2 a0_3 l0_4
set_option maxHeartbeats 8000000 in
set_option maxRecDepth 100000 in
theorem regletref13_Right.calls (k : Nat) (A0_0 : Option Addr) (c0_0 : Nat) (l0_0 : List ByteArray) (A0_1 : Option Addr) (c0_1 : Nat) (l0_1 : List (S72)) (a0_2 : Int) (a0_3 : Int) (A0_4 : Option Addr) (c0_4 : Nat) (l0_4 : List (S35)) (r : Bool) (w : World) (hr0_0 : Kd.C Kd.string w A0_0 l0_0.length l0_0) (hc0_0 : l0_0.length ≤ c0_0) (hr0_1 : Kd.C k72 w A0_1 l0_1.length l0_1) (hc0_1 : l0_1.length ≤ c0_1) (hr0_4 : Kd.C k35 w A0_4 l0_4.length l0_4) (hc0_4 : l0_4.length ≤ c0_4) (h : regletref13_Right.f k l0_0 l0_1 a0_2 a0_3 l0_4 = some r) :
    Calls Try.prog 30 #[.agg #[.slice A0_0 l0_0.length c0_0,.slice A0_1 l0_1.length c0_1,.int .i64 a0_2,.int .i64 a0_3,.slice A0_4 l0_4.length c0_4]] w fun e w' => e = .returned (.bool r) ∧ Below w.heap.size w w' := by
 have hu26:=Try.underlying26
 have hu35:=Try.underlying35
 have HR0_0:=Aside0.mk hr0_0
 have HC0_0:=Aside0.mk hc0_0
 clear hr0_0 hc0_0
 have HR0_1:=Aside0.mk hr0_1
 have HC0_1:=Aside0.mk hc0_1
 clear hr0_1 hc0_1
 have HR0_4:=Aside0.mk hr0_4
 have HC0_4:=Aside0.mk hc0_4
 clear hr0_4 hc0_4
 have HB:=Aside0.mk (Below.refl w.heap.size w)
 have H : (regletref13_Right.l0 k 0 l0_0 l0_1 a0_2 a0_3 l0_4) = some r:=h
 clear h
 have H' := Aside0.mk H
 clear H
 go_enter Try.func30,Try.ntmps30
 go_wp2_with (first | ((with_reducible refine gate_dst (N:=1) rfl ?_);(try (refine gate_guard (by rfl) ?_;dsimp only));refine box_event ?hg (N:=1) ?hd (cs:=#[.slice A0_0 l0_0.length c0_0,.slice A0_1 l0_1.length c0_1,.int .i64 a0_2,.int .i64 a0_3,.slice A0_4 l0_4.length c0_4]) (t:=26) ?hr ?_;(case hd => rfl);(case hg => rfl);(case hr => first | (go_simp;done) | (go_simp;rfl));intro gb208 hg w2 hbox hb;have n0_:=Aside0.mk (below_step (by repeat (first | (with_reducible first | exact HB.out | apply below_alloc | apply pw_below_drewN | apply below_drew1) | exact HB.out)) hb);have n1_:=Aside0.mk (hbox);have n2_:=Aside0.mk ((by rw [hg];exact (below_size (by repeat (first | (with_reducible first | exact HB.out | apply below_alloc | apply pw_below_drewN | apply below_drew1) | exact HB.out))) : w.heap.size ≤ gb208));have n3_:=Aside0.mk ((by rw [hg];exact (below_size (by repeat (first | (with_reducible first | exact HB.out | apply below_alloc | apply pw_below_drewN | apply below_drew1) | exact HB.out))) : w.heap.size ≤ gb208));clear HB;have HB:=n0_;have BK208:=n1_;have GW208:=n2_;have GE208:=n3_;clear n0_ n1_ n2_ n3_;clear hb hbox hg))
 go_loopg [3] k (fun kq v3 w' => ∃ (x3_1 : Int),v3 = .int .i64 x3_1 ∧ Aside0 (regletref13_Right.l0 kq x3_1 l0_0 l0_1 a0_2 a0_3 l0_4 = some r) ∧ Aside0 (kq ≤ k) ∧ Aside0 (w'.heap[gb208]? = some (.cells #[(.slice A0_0 l0_0.length c0_0),(.slice A0_1 l0_1.length c0_1),.int .i64 a0_2,.int .i64 a0_3,(.slice A0_4 l0_4.length c0_4)] 26 (0,0))) ∧ Aside0 (Below w.heap.size w w'))
 case atStart => exact ⟨(0),(by first | rfl | (simp;done) | (simp [*];done)),H',⟨Nat.le_refl _⟩,⟨by (with_reducible repeat (first | refine blk_drewN ?_ _ | refine blk_drew ?_ | refine blk_alloc ?_ _));exact BK208.out⟩,⟨by repeat (first | (with_reducible first | exact HB.out | apply below_alloc | apply pw_below_drewN | apply below_drew1 | refine below_set ?_ GE208.out) | exact HB.out)⟩⟩
 case round =>
  clear H'
  (try clear p2)
  obtain ⟨x3_1,rfl,HA,HK1,BK208,HB⟩ := hrel
  cases gk with
  | zero => exact absurd HA.out (by simp [regletref13_Right.l0])
  | succ k1 =>
   have H:=HA.out
   clear HA
   simp only [regletref13_Right.l0] at H
   by_cases c3 : x3_1 < (l0_4.length : Int)
   · rw [if_pos c3] at H
     have c3b0 : decide (x3_1 < (l0_4.length : Int)) = true:=decide_eq_true c3
     clear c3
     by_cases c4 : 0 ≤ x3_1
     rotate_left
     · rw [if_neg c4] at H
       exact absurd H (by simp)
     rw [if_pos c4] at H
     have c4b0 : decide (0 ≤ x3_1) = true:=decide_eq_true c4
     clear c4
     have HC5:=Aside0.mk H
     clear H
     have hcz6_0 : wr.cell? ⟨gb208,0,none⟩ = some (.slice A0_0 l0_0.length c0_0) := (blk_cell BK208.out 0).trans rfl
     have hcz6_1 : wr.cell? ⟨gb208,1,none⟩ = some (.slice A0_1 l0_1.length c0_1) := (blk_cell BK208.out 1).trans rfl
     have hcz6_2 : wr.cell? ⟨gb208,2,none⟩ = some (.int .i64 a0_2) := (blk_cell BK208.out 2).trans rfl
     have hcz6_3 : wr.cell? ⟨gb208,3,none⟩ = some (.int .i64 a0_3) := (blk_cell BK208.out 3).trans rfl
     have hcz6_4 : wr.cell? ⟨gb208,4,none⟩ = some (.slice A0_4 l0_4.length c0_4) := (blk_cell BK208.out 4).trans rfl
     have hfz6_0:=blk_frozen BK208.out 0
     have hfz6_1:=blk_frozen BK208.out 1
     have hfz6_2:=blk_frozen BK208.out 2
     have hfz6_3:=blk_frozen BK208.out 3
     have hfz6_4:=blk_frozen BK208.out 4
     have p209 : 0 ≤ (x3_1 : Int) := of_decide_eq_true (by first | (with_reducible assumption) | assumption)
     have q209 : x3_1 < (l0_4.length : Int) := of_decide_eq_true (by first | (with_reducible assumption) | assumption)
     obtain ⟨ad209,A209_1,c209_1,e209,hx209_0,hx209_1,hl209_1,hi209_1⟩ := at_T35 HR0_4.out x3_1 p209 q209
     cases e209
     replace hx209_0:=(HB.out.cell (World.block_lt_of_cell? w _ hx209_0)).trans hx209_0
     replace hx209_1:=(HB.out.cell (World.block_lt_of_cell? w _ hx209_1)).trans hx209_1
     have HR209_1:=Aside0.mk hi209_1
     have HC209_1:=Aside0.mk hl209_1
     clear hi209_1 hl209_1
     replace p209:=eq_true p209
     replace q209:=eq_true q209
     go_upto_region 5 with (first | ((with_reducible refine gate_dst (N:=4) rfl ?_);(try (refine gate_guard (by rfl) ?_;dsimp only));refine box_event ?hg (N:=4) ?hd (cs:=#[.int .i64 0,.slice none 0 0]) (t:=35) ?hr ?_;(case hd => rfl);(case hg => rfl);(case hr => first | (go_simp;done) | (go_simp;rfl));intro gb210 hg w7 hbox hb;have n0_:=Aside0.mk (blk_below (g:=gb208) (o := .cells #[.slice A0_0 l0_0.length c0_0,.slice A0_1 l0_1.length c0_1,.int .i64 a0_2,.int .i64 a0_3,.slice (some ad209) l0_4.length c0_4] 26 (0,0)) (by (with_reducible repeat (first | refine blk_drewN ?_ _ | refine blk_drew ?_ | refine blk_alloc ?_ _));exact BK208.out) hb);have n1_:=Aside0.mk (below_step (by repeat (first | (with_reducible first | exact HB.out | apply below_alloc | apply pw_below_drewN | apply below_drew1 | refine below_set ?_ GE208.out) | exact HB.out)) hb);have n2_:=Aside0.mk (hbox);have n3_:=Aside0.mk ((by rw [hg];exact (below_size (by repeat (first | (with_reducible first | exact HB.out | apply below_alloc | apply pw_below_drewN | apply below_drew1 | refine below_set ?_ GE208.out) | exact HB.out))) : w.heap.size ≤ gb210));have n4_:=Aside0.mk ((by rw [hg];exact (below_size (by repeat (first | (with_reducible first | exact HB.out | apply below_alloc | apply pw_below_drewN | apply below_drew1 | refine below_set ?_ GE208.out) | exact HB.out))) : w.heap.size ≤ gb210));have n5_:=Aside0.mk ((by rw [hg];exact Nat.ne_of_lt (blk_lt (g:=gb208) (o := .cells #[.slice A0_0 l0_0.length c0_0,.slice A0_1 l0_1.length c0_1,.int .i64 a0_2,.int .i64 a0_3,.slice (some ad209) l0_4.length c0_4] 26 (0,0)) (by (with_reducible repeat (first | refine blk_drewN ?_ _ | refine blk_drew ?_ | refine blk_alloc ?_ _));exact BK208.out)) : gb208 ≠ gb210));have n6_:=Aside0.mk ((by rw [hg];exact Nat.ne_of_gt (blk_lt (g:=gb208) (o := .cells #[.slice A0_0 l0_0.length c0_0,.slice A0_1 l0_1.length c0_1,.int .i64 a0_2,.int .i64 a0_3,.slice (some ad209) l0_4.length c0_4] 26 (0,0)) (by (with_reducible repeat (first | refine blk_drewN ?_ _ | refine blk_drew ?_ | refine blk_alloc ?_ _));exact BK208.out)) : gb210 ≠ gb208));clear BK208;clear HB;have BK208:=n0_;have HB:=n1_;have BK210:=n2_;have GW210:=n3_;have GE210:=n4_;have NB208_210:=n5_;have NB210_208:=n6_;clear n0_ n1_ n2_ n3_ n4_ n5_ n6_;clear hb hbox hg;have hnb8:=NB210_208.out;have hnc8:=NB208_210.out;have hcz9_0 : w7.cell? ⟨gb210,0,none⟩ = some (.int .i64 0) := (blk_cell BK210.out 0).trans rfl;have hcz9_1 : w7.cell? ⟨gb210,1,none⟩ = some (.slice none 0 0) := (blk_cell BK210.out 1).trans rfl;have hfz9_0:=blk_frozen BK210.out 0;have hfz9_1:=blk_frozen BK210.out 1))
     (try simp only [Act.put,List.setIfInBounds_toArray,List.set_cons_zero,List.set_cons_succ])
     go_cut [29] (fun v29 wc => ∃ (kq : Nat) (x29_4 : Bool),v29 = .bool x29_4 ∧ Aside0 (regletref13_Right.j1 kq x3_1 x29_4 l0_0 l0_1 a0_2 a0_3 l0_4 ((rd_T35 l0_4 x3_1).f0) ((rd_T35 l0_4 x3_1).f1) = some r) ∧ Aside0 (kq ≤ k1) ∧ Aside0 (wc.heap[gb208]? = some (.cells #[(.slice A0_0 l0_0.length c0_0),(.slice A0_1 l0_1.length c0_1),.int .i64 a0_2,.int .i64 a0_3,(.slice (some ad209) l0_4.length c0_4)] 26 (0,0))) ∧ Aside0 (wc.heap[gb210]? = some (.cells #[.int .i64 ((rd_T35 l0_4 x3_1).f0),(.slice A209_1 ((rd_T35 l0_4 x3_1).f1).length c209_1)] 35 (0,0))) ∧ Aside0 (Below w.heap.size w wc))
     case first =>
      have H:=HC5.out
      clear HC5
      by_cases c10 : ((rd_T35 l0_4 x3_1).f0) < 0
      · rw [if_pos c10] at H
        have c10b0 : decide (((rd_T35 l0_4 x3_1).f0) < 0) = true:=decide_eq_true c10
        clear c10
        (first | rw [c10b0] | (simp only [i64_w,i32_w];rw [c10b0]) | skip)
        have H' := Aside0.mk H
        clear H
        have hnb11:=NB210_208.out
        have hnc11:=NB208_210.out
        have hcz12_0 : w7.cell? ⟨gb210,0,none⟩ = some (.int .i64 0) := (blk_cell BK210.out 0).trans rfl
        have hcz12_1 : w7.cell? ⟨gb210,1,none⟩ = some (.slice none 0 0) := (blk_cell BK210.out 1).trans rfl
        have hfz12_0:=blk_frozen BK210.out 0
        have hfz12_1:=blk_frozen BK210.out 1
        go_wp2
        go_meet
        case rel => exact ⟨_,(true),(by first | rfl | (simp;done) | (simp [*];done)),H',⟨by have:=HK1.out;first | omega | exact Nat.le_refl _⟩,⟨by (with_reducible repeat (first | refine blk_drewN ?_ _ | refine blk_drew ?_ | refine blk_alloc ?_ _));refine blk_far ?_ NB208_210.out _;(with_reducible repeat (first | refine blk_drewN ?_ _ | refine blk_drew ?_ | refine blk_alloc ?_ _));refine blk_far ?_ NB208_210.out _;(with_reducible repeat (first | refine blk_drewN ?_ _ | refine blk_drew ?_ | refine blk_alloc ?_ _));exact BK208.out⟩,⟨by (with_reducible repeat (first | refine blk_drewN ?_ _ | refine blk_drew ?_ | refine blk_alloc ?_ _));refine blk_put (cs:=#[.int .i64 ((rd_T35 l0_4 x3_1).f0),.slice none 0 0]) ?_ 1 _ rfl;(with_reducible repeat (first | refine blk_drewN ?_ _ | refine blk_drew ?_ | refine blk_alloc ?_ _));refine blk_put (cs:=#[.int .i64 0,.slice none 0 0]) ?_ 0 _ rfl;(with_reducible repeat (first | refine blk_drewN ?_ _ | refine blk_drew ?_ | refine blk_alloc ?_ _));exact BK210.out⟩,⟨by repeat (first | (with_reducible first | exact HB.out | apply below_alloc | apply pw_below_drewN | apply below_drew1 | refine below_set ?_ GE208.out | refine below_set ?_ GE210.out) | exact HB.out)⟩⟩
      · rw [if_neg c10] at H
        have c10b0 : decide (((rd_T35 l0_4 x3_1).f0) < 0) = false:=decide_eq_false c10
        clear c10
        (first | rw [c10b0] | (simp only [i64_w,i32_w];rw [c10b0]) | skip)
        have H' := Aside0.mk H
        clear H
        have hnb13:=NB210_208.out
        have hnc13:=NB208_210.out
        have hcz14_0 : w7.cell? ⟨gb210,0,none⟩ = some (.int .i64 0) := (blk_cell BK210.out 0).trans rfl
        have hcz14_1 : w7.cell? ⟨gb210,1,none⟩ = some (.slice none 0 0) := (blk_cell BK210.out 1).trans rfl
        have hfz14_0:=blk_frozen BK210.out 0
        have hfz14_1:=blk_frozen BK210.out 1
        have hcz15_0 : w7.cell? ⟨gb208,0,none⟩ = some (.slice A0_0 l0_0.length c0_0) := (blk_cell BK208.out 0).trans rfl
        have hcz15_1 : w7.cell? ⟨gb208,1,none⟩ = some (.slice A0_1 l0_1.length c0_1) := (blk_cell BK208.out 1).trans rfl
        have hcz15_2 : w7.cell? ⟨gb208,2,none⟩ = some (.int .i64 a0_2) := (blk_cell BK208.out 2).trans rfl
        have hcz15_3 : w7.cell? ⟨gb208,3,none⟩ = some (.int .i64 a0_3) := (blk_cell BK208.out 3).trans rfl
        have hcz15_4 : w7.cell? ⟨gb208,4,none⟩ = some (.slice (some ad209) l0_4.length c0_4) := (blk_cell BK208.out 4).trans rfl
        have hfz15_0:=blk_frozen BK208.out 0
        have hfz15_1:=blk_frozen BK208.out 1
        have hfz15_2:=blk_frozen BK208.out 2
        have hfz15_3:=blk_frozen BK208.out 3
        have hfz15_4:=blk_frozen BK208.out 4
        go_wp2
        go_meet
        case rel => exact ⟨_,(decide (((rd_T35 l0_4 x3_1).f0) ≥ (l0_0.length : Int))),(by first | rfl | (simp;done) | (simp [*];done)),H',⟨by have:=HK1.out;first | omega | exact Nat.le_refl _⟩,⟨by (with_reducible repeat (first | refine blk_drewN ?_ _ | refine blk_drew ?_ | refine blk_alloc ?_ _));refine blk_far ?_ NB208_210.out _;(with_reducible repeat (first | refine blk_drewN ?_ _ | refine blk_drew ?_ | refine blk_alloc ?_ _));refine blk_far ?_ NB208_210.out _;(with_reducible repeat (first | refine blk_drewN ?_ _ | refine blk_drew ?_ | refine blk_alloc ?_ _));exact BK208.out⟩,⟨by (with_reducible repeat (first | refine blk_drewN ?_ _ | refine blk_drew ?_ | refine blk_alloc ?_ _));refine blk_put (cs:=#[.int .i64 ((rd_T35 l0_4 x3_1).f0),.slice none 0 0]) ?_ 1 _ rfl;(with_reducible repeat (first | refine blk_drewN ?_ _ | refine blk_drew ?_ | refine blk_alloc ?_ _));refine blk_put (cs:=#[.int .i64 0,.slice none 0 0]) ?_ 0 _ rfl;(with_reducible repeat (first | refine blk_drewN ?_ _ | refine blk_drew ?_ | refine blk_alloc ?_ _));exact BK210.out⟩,⟨by repeat (first | (with_reducible first | exact HB.out | apply below_alloc | apply pw_below_drewN | apply below_drew1 | refine below_set ?_ GE208.out | refine below_set ?_ GE210.out) | exact HB.out)⟩⟩
     case rest =>
      clear HC5
      (try clear c1);(try clear c2);(try clear p2);(try clear q2);(try clear hx2);(try clear c3);(try clear c3b0);(try clear c4);(try clear c4b0);(try clear c8);(try clear c10);(try clear c10b0);(try clear c11);(try clear c13);(try clear hcz12_0);(try clear hcz12_1);(try clear hcz14_0);(try clear hcz14_1);(try clear hcz15_0);(try clear hcz15_1);(try clear hcz15_2);(try clear hcz15_3);(try clear hcz15_4)
      (try clear hcz6_0);(try clear hcz6_1);(try clear hcz6_2);(try clear hcz6_3);(try clear hcz6_4);(try clear hcz9_0);(try clear hcz9_1);(try clear hfz12_0);(try clear hfz12_1);(try clear hfz14_0);(try clear hfz14_1);(try clear hfz15_0);(try clear hfz15_1);(try clear hfz15_2);(try clear hfz15_3);(try clear hfz15_4);(try clear hfz6_0);(try clear hfz6_1);(try clear hfz6_2);(try clear hfz6_3);(try clear hfz6_4)
      (try clear hfz9_0);(try clear hfz9_1);(try clear hx209_0);(try clear hx209_1);(try clear p2);(try clear p209);(try clear q209)
      obtain ⟨kq,x29_4,rfl,HA,HJ4,BK208,BK210,HB⟩ := hcut
      cases kq with
      | zero => exact absurd HA.out (by simp [regletref13_Right.j1])
      | succ kj4 =>
       have H:=HA.out
       clear HA
       simp only [regletref13_Right.j1] at H
       by_cases c16 : x29_4 = true
       · subst c16
         have H1 : (some false) = some r:=by rw [if_pos rfl] at H;exact H
         clear H
         have H:=H1
         clear H1
         obtain rfl:=Option.some.inj H
         go_wp2
         go_ret
         exact ⟨by first | rfl | (simp [errW_none,errW_some] <;> rfl) | (simp [*,errW_none,errW_some] <;> rfl),by repeat (first | (with_reducible first | exact HB.out | apply below_alloc | apply pw_below_drewN | apply below_drew1 | refine below_set ?_ GE208.out | refine below_set ?_ GE210.out) | exact HB.out)⟩
       · replace c16:=Bool.eq_false_iff.mpr c16
         subst c16
         have H1 : (regletref13_Right.l1 kj4 x3_1 0 l0_0 l0_1 a0_2 a0_3 l0_4 ((rd_T35 l0_4 x3_1).f0) ((rd_T35 l0_4 x3_1).f1)) = some r:=by rw [if_neg (show ¬ (false = true) by decide)] at H;exact H
         clear H
         have H:=H1
         clear H1
         have H' := Aside0.mk H
         clear H
         go_wp2
         go_loopg [5] kj4 (fun kq v5 w' => ∃ (x5_3 : Int),v5 = .int .i64 x5_3 ∧ Aside0 (regletref13_Right.l1 kq x3_1 x5_3 l0_0 l0_1 a0_2 a0_3 l0_4 ((rd_T35 l0_4 x3_1).f0) ((rd_T35 l0_4 x3_1).f1) = some r) ∧ Aside0 (kq ≤ kj4) ∧ Aside0 (w'.heap[gb208]? = some (.cells #[(.slice A0_0 l0_0.length c0_0),(.slice A0_1 l0_1.length c0_1),.int .i64 a0_2,.int .i64 a0_3,(.slice (some ad209) l0_4.length c0_4)] 26 (0,0))) ∧ Aside0 (w'.heap[gb210]? = some (.cells #[.int .i64 ((rd_T35 l0_4 x3_1).f0),(.slice A209_1 ((rd_T35 l0_4 x3_1).f1).length c209_1)] 35 (0,0))) ∧ Aside0 (Below w.heap.size w w'))
         case atStart => exact ⟨(0),(by first | rfl | (simp;done) | (simp [*];done)),H',⟨Nat.le_refl _⟩,⟨by (with_reducible repeat (first | refine blk_drewN ?_ _ | refine blk_drew ?_ | refine blk_alloc ?_ _));exact BK208.out⟩,⟨by (with_reducible repeat (first | refine blk_drewN ?_ _ | refine blk_drew ?_ | refine blk_alloc ?_ _));exact BK210.out⟩,⟨by repeat (first | (with_reducible first | exact HB.out | apply below_alloc | apply pw_below_drewN | apply below_drew1 | refine below_set ?_ GE208.out | refine below_set ?_ GE210.out) | exact HB.out)⟩⟩
         case round =>
          clear H'
          (try clear c1);(try clear c2);(try clear p2);(try clear q2);(try clear hx2);(try clear c3);(try clear c3b0);(try clear c4);(try clear c4b0);(try clear c8);(try clear c10);(try clear c10b0);(try clear c11);(try clear c13);(try clear c16);(try clear hcz12_0);(try clear hcz12_1);(try clear hcz14_0);(try clear hcz14_1);(try clear hcz15_0);(try clear hcz15_1);(try clear hcz15_2);(try clear hcz15_3);(try clear hcz15_4)
          (try clear hcz6_0);(try clear hcz6_1);(try clear hcz6_2);(try clear hcz6_3);(try clear hcz6_4);(try clear hcz9_0);(try clear hcz9_1);(try clear hfz12_0);(try clear hfz12_1);(try clear hfz14_0);(try clear hfz14_1);(try clear hfz15_0);(try clear hfz15_1);(try clear hfz15_2);(try clear hfz15_3);(try clear hfz15_4);(try clear hfz6_0);(try clear hfz6_1);(try clear hfz6_2);(try clear hfz6_3);(try clear hfz6_4)
          (try clear hfz9_0);(try clear hfz9_1);(try clear hx209_0);(try clear hx209_1);(try clear p2);(try clear p209);(try clear q2);(try clear q209)
          obtain ⟨x5_3,rfl,HA,HK3,BK208,BK210,HB⟩ := hrel
          cases gk with
          | zero => exact absurd HA.out (by simp [regletref13_Right.l1])
          | succ k3 =>
           have H:=HA.out
           clear HA
           simp only [regletref13_Right.l1] at H
           by_cases c17 : x5_3 < (((rd_T35 l0_4 x3_1).f1).length : Int)
           · rw [if_pos c17] at H
             have c17b0 : decide (x5_3 < (((rd_T35 l0_4 x3_1).f1).length : Int)) = true:=decide_eq_true c17
             clear c17
             by_cases c18 : 0 ≤ x5_3
             rotate_left
             · rw [if_neg c18] at H
               exact absurd H (by simp)
             rw [if_pos c18] at H
             have c18b0 : decide (0 ≤ x5_3) = true:=decide_eq_true c18
             clear c18
             obtain ⟨bq19,hbq19⟩ : ∃ b_ : Bool,b_ = ((rd_T43 ((rd_T35 l0_4 x3_1).f1) x5_3).f0) := ⟨_,rfl⟩
             replace H : (if bq19 = true then (if ((rd_T43 ((rd_T35 l0_4 x3_1).f1) x5_3).f1) < 0 then (some false) else (if ((rd_T43 ((rd_T35 l0_4 x3_1).f1) x5_3).f1) ≥ (l0_1.length : Int) then (some false) else (regletref13_Right.l1 k3 x3_1 (wrap64 (x5_3 + 1)) l0_0 l0_1 a0_2 a0_3 l0_4 ((rd_T35 l0_4 x3_1).f0) ((rd_T35 l0_4 x3_1).f1)))) else (if ((rd_T43 ((rd_T35 l0_4 x3_1).f1) x5_3).f1) < 0 then (some false) else (if ((rd_T43 ((rd_T35 l0_4 x3_1).f1) x5_3).f1) ≥ (l0_0.length : Int) then (some false) else (regletref13_Right.l1 k3 x3_1 (wrap64 (x5_3 + 1)) l0_0 l0_1 a0_2 a0_3 l0_4 ((rd_T35 l0_4 x3_1).f0) ((rd_T35 l0_4 x3_1).f1))))) = some r:=by rw [← hbq19] at H;exact H
             have Nbq19:=Aside0.mk hbq19
             clear hbq19
             by_cases c20 : bq19 = true
             · subst c20
               have H1 : (if ((rd_T43 ((rd_T35 l0_4 x3_1).f1) x5_3).f1) < 0 then (some false) else (if ((rd_T43 ((rd_T35 l0_4 x3_1).f1) x5_3).f1) ≥ (l0_1.length : Int) then (some false) else (regletref13_Right.l1 k3 x3_1 (wrap64 (x5_3 + 1)) l0_0 l0_1 a0_2 a0_3 l0_4 ((rd_T35 l0_4 x3_1).f0) ((rd_T35 l0_4 x3_1).f1)))) = some r:=by rw [if_pos rfl] at H;exact H
               clear H
               have H:=H1
               clear H1
               by_cases c21 : ((rd_T43 ((rd_T35 l0_4 x3_1).f1) x5_3).f1) < 0
               · rw [if_pos c21] at H
                 have c21b0 : decide (((rd_T43 ((rd_T35 l0_4 x3_1).f1) x5_3).f1) < 0) = true:=decide_eq_true c21
                 clear c21
                 obtain rfl:=Option.some.inj H
                 have hnb22:=NB210_208.out
                 have hnc22:=NB208_210.out
                 have hcz23_0 : wr.cell? ⟨gb210,0,none⟩ = some (.int .i64 ((rd_T35 l0_4 x3_1).f0)) := (blk_cell BK210.out 0).trans rfl
                 have hcz23_1 : wr.cell? ⟨gb210,1,none⟩ = some (.slice A209_1 ((rd_T35 l0_4 x3_1).f1).length c209_1) := (blk_cell BK210.out 1).trans rfl
                 have hfz23_0:=blk_frozen BK210.out 0
                 have hfz23_1:=blk_frozen BK210.out 1
                 have hcz24_0 : wr.cell? ⟨gb208,0,none⟩ = some (.slice A0_0 l0_0.length c0_0) := (blk_cell BK208.out 0).trans rfl
                 have hcz24_1 : wr.cell? ⟨gb208,1,none⟩ = some (.slice A0_1 l0_1.length c0_1) := (blk_cell BK208.out 1).trans rfl
                 have hcz24_2 : wr.cell? ⟨gb208,2,none⟩ = some (.int .i64 a0_2) := (blk_cell BK208.out 2).trans rfl
                 have hcz24_3 : wr.cell? ⟨gb208,3,none⟩ = some (.int .i64 a0_3) := (blk_cell BK208.out 3).trans rfl
                 have hcz24_4 : wr.cell? ⟨gb208,4,none⟩ = some (.slice (some ad209) l0_4.length c0_4) := (blk_cell BK208.out 4).trans rfl
                 have hfz24_0:=blk_frozen BK208.out 0
                 have hfz24_1:=blk_frozen BK208.out 1
                 have hfz24_2:=blk_frozen BK208.out 2
                 have hfz24_3:=blk_frozen BK208.out 3
                 have hfz24_4:=blk_frozen BK208.out 4
                 have p211 : 0 ≤ (x5_3 : Int) := of_decide_eq_true (by first | (with_reducible assumption) | assumption)
                 have q211 : x5_3 < (((rd_T35 l0_4 x3_1).f1).length : Int) := of_decide_eq_true (by first | (with_reducible assumption) | assumption)
                 obtain ⟨ad211,e211,hx211_0,hx211_1⟩ := at_T43 HR209_1.out x5_3 p211 q211
                 (try rw [← Nbq19.out] at hx211_0)
                 cases e211
                 replace hx211_0:=(HB.out.cell (World.block_lt_of_cell? w _ hx211_0)).trans hx211_0
                 replace hx211_1:=(HB.out.cell (World.block_lt_of_cell? w _ hx211_1)).trans hx211_1
                 replace p211:=eq_true p211
                 replace q211:=eq_true q211
                 have p212 : 0 ≤ (x5_3 : Int) := of_decide_eq_true (by first | (with_reducible assumption) | assumption)
                 have q212 : x5_3 < (((rd_T35 l0_4 x3_1).f1).length : Int) := of_decide_eq_true (by first | (with_reducible assumption) | assumption)
                 obtain ⟨ad212,e212,hx212_0,hx212_1⟩ := at_T43 HR209_1.out x5_3 p212 q212
                 (try rw [← Nbq19.out] at hx212_0)
                 obtain rfl : ad211 = ad212:=(by injection e212)
                 replace hx212_0:=(HB.out.cell (World.block_lt_of_cell? w _ hx212_0)).trans hx212_0
                 replace hx212_1:=(HB.out.cell (World.block_lt_of_cell? w _ hx212_1)).trans hx212_1
                 replace p212:=eq_true p212
                 replace q212:=eq_true q212
                 go_wp2
                 go_ret
                 exact ⟨by first | rfl | (simp [errW_none,errW_some] <;> rfl) | (simp [*,errW_none,errW_some] <;> rfl),by repeat (first | (with_reducible first | exact HB.out | apply below_alloc | apply pw_below_drewN | apply below_drew1 | refine below_set ?_ GE208.out | refine below_set ?_ GE210.out) | exact HB.out)⟩
               · rw [if_neg c21] at H
                 have c21b0 : decide (((rd_T43 ((rd_T35 l0_4 x3_1).f1) x5_3).f1) < 0) = false:=decide_eq_false c21
                 clear c21
                 by_cases c25 : ((rd_T43 ((rd_T35 l0_4 x3_1).f1) x5_3).f1) ≥ (l0_1.length : Int)
                 · rw [if_pos c25] at H
                   have c25b0 : decide ((l0_1.length : Int) ≤ ((rd_T43 ((rd_T35 l0_4 x3_1).f1) x5_3).f1)) = true:=decide_eq_true c25
                   clear c25
                   obtain rfl:=Option.some.inj H
                   have hnb26:=NB210_208.out
                   have hnc26:=NB208_210.out
                   have hcz27_0 : wr.cell? ⟨gb210,0,none⟩ = some (.int .i64 ((rd_T35 l0_4 x3_1).f0)) := (blk_cell BK210.out 0).trans rfl
                   have hcz27_1 : wr.cell? ⟨gb210,1,none⟩ = some (.slice A209_1 ((rd_T35 l0_4 x3_1).f1).length c209_1) := (blk_cell BK210.out 1).trans rfl
                   have hfz27_0:=blk_frozen BK210.out 0
                   have hfz27_1:=blk_frozen BK210.out 1
                   have hcz28_0 : wr.cell? ⟨gb208,0,none⟩ = some (.slice A0_0 l0_0.length c0_0) := (blk_cell BK208.out 0).trans rfl
                   have hcz28_1 : wr.cell? ⟨gb208,1,none⟩ = some (.slice A0_1 l0_1.length c0_1) := (blk_cell BK208.out 1).trans rfl
                   have hcz28_2 : wr.cell? ⟨gb208,2,none⟩ = some (.int .i64 a0_2) := (blk_cell BK208.out 2).trans rfl
                   have hcz28_3 : wr.cell? ⟨gb208,3,none⟩ = some (.int .i64 a0_3) := (blk_cell BK208.out 3).trans rfl
                   have hcz28_4 : wr.cell? ⟨gb208,4,none⟩ = some (.slice (some ad209) l0_4.length c0_4) := (blk_cell BK208.out 4).trans rfl
                   have hfz28_0:=blk_frozen BK208.out 0
                   have hfz28_1:=blk_frozen BK208.out 1
                   have hfz28_2:=blk_frozen BK208.out 2
                   have hfz28_3:=blk_frozen BK208.out 3
                   have hfz28_4:=blk_frozen BK208.out 4
                   have p211 : 0 ≤ (x5_3 : Int) := of_decide_eq_true (by first | (with_reducible assumption) | assumption)
                   have q211 : x5_3 < (((rd_T35 l0_4 x3_1).f1).length : Int) := of_decide_eq_true (by first | (with_reducible assumption) | assumption)
                   obtain ⟨ad211,e211,hx211_0,hx211_1⟩ := at_T43 HR209_1.out x5_3 p211 q211
                   (try rw [← Nbq19.out] at hx211_0)
                   cases e211
                   replace hx211_0:=(HB.out.cell (World.block_lt_of_cell? w _ hx211_0)).trans hx211_0
                   replace hx211_1:=(HB.out.cell (World.block_lt_of_cell? w _ hx211_1)).trans hx211_1
                   replace p211:=eq_true p211
                   replace q211:=eq_true q211
                   have p212 : 0 ≤ (x5_3 : Int) := of_decide_eq_true (by first | (with_reducible assumption) | assumption)
                   have q212 : x5_3 < (((rd_T35 l0_4 x3_1).f1).length : Int) := of_decide_eq_true (by first | (with_reducible assumption) | assumption)
                   obtain ⟨ad212,e212,hx212_0,hx212_1⟩ := at_T43 HR209_1.out x5_3 p212 q212
                   (try rw [← Nbq19.out] at hx212_0)
                   obtain rfl : ad211 = ad212:=(by injection e212)
                   replace hx212_0:=(HB.out.cell (World.block_lt_of_cell? w _ hx212_0)).trans hx212_0
                   replace hx212_1:=(HB.out.cell (World.block_lt_of_cell? w _ hx212_1)).trans hx212_1
                   replace p212:=eq_true p212
                   replace q212:=eq_true q212
                   have p213 : 0 ≤ (x5_3 : Int) := of_decide_eq_true (by first | (with_reducible assumption) | assumption)
                   have q213 : x5_3 < (((rd_T35 l0_4 x3_1).f1).length : Int) := of_decide_eq_true (by first | (with_reducible assumption) | assumption)
                   obtain ⟨ad213,e213,hx213_0,hx213_1⟩ := at_T43 HR209_1.out x5_3 p213 q213
                   (try rw [← Nbq19.out] at hx213_0)
                   obtain rfl : ad211 = ad213:=(by injection e213)
                   replace hx213_0:=(HB.out.cell (World.block_lt_of_cell? w _ hx213_0)).trans hx213_0
                   replace hx213_1:=(HB.out.cell (World.block_lt_of_cell? w _ hx213_1)).trans hx213_1
                   replace p213:=eq_true p213
                   replace q213:=eq_true q213
                   go_wp2
                   go_ret
                   exact ⟨by first | rfl | (simp [errW_none,errW_some] <;> rfl) | (simp [*,errW_none,errW_some] <;> rfl),by repeat (first | (with_reducible first | exact HB.out | apply below_alloc | apply pw_below_drewN | apply below_drew1 | refine below_set ?_ GE208.out | refine below_set ?_ GE210.out) | exact HB.out)⟩
                 · rw [if_neg c25] at H
                   have c25b0 : decide ((l0_1.length : Int) ≤ ((rd_T43 ((rd_T35 l0_4 x3_1).f1) x5_3).f1)) = false:=decide_eq_false c25
                   clear c25
                   have H' := Aside0.mk H
                   clear H
                   have hnb29:=NB210_208.out
                   have hnc29:=NB208_210.out
                   have hcz30_0 : wr.cell? ⟨gb210,0,none⟩ = some (.int .i64 ((rd_T35 l0_4 x3_1).f0)) := (blk_cell BK210.out 0).trans rfl
                   have hcz30_1 : wr.cell? ⟨gb210,1,none⟩ = some (.slice A209_1 ((rd_T35 l0_4 x3_1).f1).length c209_1) := (blk_cell BK210.out 1).trans rfl
                   have hfz30_0:=blk_frozen BK210.out 0
                   have hfz30_1:=blk_frozen BK210.out 1
                   have hcz31_0 : wr.cell? ⟨gb208,0,none⟩ = some (.slice A0_0 l0_0.length c0_0) := (blk_cell BK208.out 0).trans rfl
                   have hcz31_1 : wr.cell? ⟨gb208,1,none⟩ = some (.slice A0_1 l0_1.length c0_1) := (blk_cell BK208.out 1).trans rfl
                   have hcz31_2 : wr.cell? ⟨gb208,2,none⟩ = some (.int .i64 a0_2) := (blk_cell BK208.out 2).trans rfl
                   have hcz31_3 : wr.cell? ⟨gb208,3,none⟩ = some (.int .i64 a0_3) := (blk_cell BK208.out 3).trans rfl
                   have hcz31_4 : wr.cell? ⟨gb208,4,none⟩ = some (.slice (some ad209) l0_4.length c0_4) := (blk_cell BK208.out 4).trans rfl
                   have hfz31_0:=blk_frozen BK208.out 0
                   have hfz31_1:=blk_frozen BK208.out 1
                   have hfz31_2:=blk_frozen BK208.out 2
                   have hfz31_3:=blk_frozen BK208.out 3
                   have hfz31_4:=blk_frozen BK208.out 4
                   have p211 : 0 ≤ (x5_3 : Int) := of_decide_eq_true (by first | (with_reducible assumption) | assumption)
                   have q211 : x5_3 < (((rd_T35 l0_4 x3_1).f1).length : Int) := of_decide_eq_true (by first | (with_reducible assumption) | assumption)
                   obtain ⟨ad211,e211,hx211_0,hx211_1⟩ := at_T43 HR209_1.out x5_3 p211 q211
                   (try rw [← Nbq19.out] at hx211_0)
                   cases e211
                   replace hx211_0:=(HB.out.cell (World.block_lt_of_cell? w _ hx211_0)).trans hx211_0
                   replace hx211_1:=(HB.out.cell (World.block_lt_of_cell? w _ hx211_1)).trans hx211_1
                   replace p211:=eq_true p211
                   replace q211:=eq_true q211
                   have p212 : 0 ≤ (x5_3 : Int) := of_decide_eq_true (by first | (with_reducible assumption) | assumption)
                   have q212 : x5_3 < (((rd_T35 l0_4 x3_1).f1).length : Int) := of_decide_eq_true (by first | (with_reducible assumption) | assumption)
                   obtain ⟨ad212,e212,hx212_0,hx212_1⟩ := at_T43 HR209_1.out x5_3 p212 q212
                   (try rw [← Nbq19.out] at hx212_0)
                   obtain rfl : ad211 = ad212:=(by injection e212)
                   replace hx212_0:=(HB.out.cell (World.block_lt_of_cell? w _ hx212_0)).trans hx212_0
                   replace hx212_1:=(HB.out.cell (World.block_lt_of_cell? w _ hx212_1)).trans hx212_1
                   replace p212:=eq_true p212
                   replace q212:=eq_true q212
                   have p213 : 0 ≤ (x5_3 : Int) := of_decide_eq_true (by first | (with_reducible assumption) | assumption)
                   have q213 : x5_3 < (((rd_T35 l0_4 x3_1).f1).length : Int) := of_decide_eq_true (by first | (with_reducible assumption) | assumption)
                   obtain ⟨ad213,e213,hx213_0,hx213_1⟩ := at_T43 HR209_1.out x5_3 p213 q213
                   (try rw [← Nbq19.out] at hx213_0)
                   obtain rfl : ad211 = ad213:=(by injection e213)
                   replace hx213_0:=(HB.out.cell (World.block_lt_of_cell? w _ hx213_0)).trans hx213_0
                   replace hx213_1:=(HB.out.cell (World.block_lt_of_cell? w _ hx213_1)).trans hx213_1
                   replace p213:=eq_true p213
                   replace q213:=eq_true q213
                   go_wp2
                   go_roundg k3
                   case measure => have:=HK1.out;have:=HJ4.out;have:=HK3.out;omega
                   case rel => exact ⟨(wrap64 (x5_3 + 1)),(by first | rfl | (simp;done) | (simp [*];done)),H',⟨by have:=HK1.out;have:=HJ4.out;have:=HK3.out;omega⟩,⟨by (with_reducible repeat (first | refine blk_drewN ?_ _ | refine blk_drew ?_ | refine blk_alloc ?_ _));exact BK208.out⟩,⟨by (with_reducible repeat (first | refine blk_drewN ?_ _ | refine blk_drew ?_ | refine blk_alloc ?_ _));exact BK210.out⟩,⟨by repeat (first | (with_reducible first | exact HB.out | apply below_alloc | apply pw_below_drewN | apply below_drew1 | refine below_set ?_ GE208.out | refine below_set ?_ GE210.out) | exact HB.out)⟩⟩
             · replace c20:=Bool.eq_false_iff.mpr c20
               subst c20
               have H1 : (if ((rd_T43 ((rd_T35 l0_4 x3_1).f1) x5_3).f1) < 0 then (some false) else (if ((rd_T43 ((rd_T35 l0_4 x3_1).f1) x5_3).f1) ≥ (l0_0.length : Int) then (some false) else (regletref13_Right.l1 k3 x3_1 (wrap64 (x5_3 + 1)) l0_0 l0_1 a0_2 a0_3 l0_4 ((rd_T35 l0_4 x3_1).f0) ((rd_T35 l0_4 x3_1).f1)))) = some r:=by rw [if_neg (show ¬ (false = true) by decide)] at H;exact H
               clear H
               have H:=H1
               clear H1
               by_cases c32 : ((rd_T43 ((rd_T35 l0_4 x3_1).f1) x5_3).f1) < 0
               · rw [if_pos c32] at H
                 have c32b0 : decide (((rd_T43 ((rd_T35 l0_4 x3_1).f1) x5_3).f1) < 0) = true:=decide_eq_true c32
                 clear c32
                 obtain rfl:=Option.some.inj H
                 have hnb33:=NB210_208.out
                 have hnc33:=NB208_210.out
                 have hcz34_0 : wr.cell? ⟨gb210,0,none⟩ = some (.int .i64 ((rd_T35 l0_4 x3_1).f0)) := (blk_cell BK210.out 0).trans rfl
                 have hcz34_1 : wr.cell? ⟨gb210,1,none⟩ = some (.slice A209_1 ((rd_T35 l0_4 x3_1).f1).length c209_1) := (blk_cell BK210.out 1).trans rfl
                 have hfz34_0:=blk_frozen BK210.out 0
                 have hfz34_1:=blk_frozen BK210.out 1
                 have hcz35_0 : wr.cell? ⟨gb208,0,none⟩ = some (.slice A0_0 l0_0.length c0_0) := (blk_cell BK208.out 0).trans rfl
                 have hcz35_1 : wr.cell? ⟨gb208,1,none⟩ = some (.slice A0_1 l0_1.length c0_1) := (blk_cell BK208.out 1).trans rfl
                 have hcz35_2 : wr.cell? ⟨gb208,2,none⟩ = some (.int .i64 a0_2) := (blk_cell BK208.out 2).trans rfl
                 have hcz35_3 : wr.cell? ⟨gb208,3,none⟩ = some (.int .i64 a0_3) := (blk_cell BK208.out 3).trans rfl
                 have hcz35_4 : wr.cell? ⟨gb208,4,none⟩ = some (.slice (some ad209) l0_4.length c0_4) := (blk_cell BK208.out 4).trans rfl
                 have hfz35_0:=blk_frozen BK208.out 0
                 have hfz35_1:=blk_frozen BK208.out 1
                 have hfz35_2:=blk_frozen BK208.out 2
                 have hfz35_3:=blk_frozen BK208.out 3
                 have hfz35_4:=blk_frozen BK208.out 4
                 have p211 : 0 ≤ (x5_3 : Int) := of_decide_eq_true (by first | (with_reducible assumption) | assumption)
                 have q211 : x5_3 < (((rd_T35 l0_4 x3_1).f1).length : Int) := of_decide_eq_true (by first | (with_reducible assumption) | assumption)
                 obtain ⟨ad211,e211,hx211_0,hx211_1⟩ := at_T43 HR209_1.out x5_3 p211 q211
                 (try rw [← Nbq19.out] at hx211_0)
                 cases e211
                 replace hx211_0:=(HB.out.cell (World.block_lt_of_cell? w _ hx211_0)).trans hx211_0
                 replace hx211_1:=(HB.out.cell (World.block_lt_of_cell? w _ hx211_1)).trans hx211_1
                 replace p211:=eq_true p211
                 replace q211:=eq_true q211
                 have p214 : 0 ≤ (x5_3 : Int) := of_decide_eq_true (by first | (with_reducible assumption) | assumption)
                 have q214 : x5_3 < (((rd_T35 l0_4 x3_1).f1).length : Int) := of_decide_eq_true (by first | (with_reducible assumption) | assumption)
                 obtain ⟨ad214,e214,hx214_0,hx214_1⟩ := at_T43 HR209_1.out x5_3 p214 q214
                 (try rw [← Nbq19.out] at hx214_0)
                 obtain rfl : ad211 = ad214:=(by injection e214)
                 replace hx214_0:=(HB.out.cell (World.block_lt_of_cell? w _ hx214_0)).trans hx214_0
                 replace hx214_1:=(HB.out.cell (World.block_lt_of_cell? w _ hx214_1)).trans hx214_1
                 replace p214:=eq_true p214
                 replace q214:=eq_true q214
                 go_wp2
                 go_ret
                 exact ⟨by first | rfl | (simp [errW_none,errW_some] <;> rfl) | (simp [*,errW_none,errW_some] <;> rfl),by repeat (first | (with_reducible first | exact HB.out | apply below_alloc | apply pw_below_drewN | apply below_drew1 | refine below_set ?_ GE208.out | refine below_set ?_ GE210.out) | exact HB.out)⟩
               · rw [if_neg c32] at H
                 have c32b0 : decide (((rd_T43 ((rd_T35 l0_4 x3_1).f1) x5_3).f1) < 0) = false:=decide_eq_false c32
                 clear c32
                 by_cases c36 : ((rd_T43 ((rd_T35 l0_4 x3_1).f1) x5_3).f1) ≥ (l0_0.length : Int)
                 · rw [if_pos c36] at H
                   have c36b0 : decide ((l0_0.length : Int) ≤ ((rd_T43 ((rd_T35 l0_4 x3_1).f1) x5_3).f1)) = true:=decide_eq_true c36
                   clear c36
                   obtain rfl:=Option.some.inj H
                   have hnb37:=NB210_208.out
                   have hnc37:=NB208_210.out
                   have hcz38_0 : wr.cell? ⟨gb210,0,none⟩ = some (.int .i64 ((rd_T35 l0_4 x3_1).f0)) := (blk_cell BK210.out 0).trans rfl
                   have hcz38_1 : wr.cell? ⟨gb210,1,none⟩ = some (.slice A209_1 ((rd_T35 l0_4 x3_1).f1).length c209_1) := (blk_cell BK210.out 1).trans rfl
                   have hfz38_0:=blk_frozen BK210.out 0
                   have hfz38_1:=blk_frozen BK210.out 1
                   have hcz39_0 : wr.cell? ⟨gb208,0,none⟩ = some (.slice A0_0 l0_0.length c0_0) := (blk_cell BK208.out 0).trans rfl
                   have hcz39_1 : wr.cell? ⟨gb208,1,none⟩ = some (.slice A0_1 l0_1.length c0_1) := (blk_cell BK208.out 1).trans rfl
                   have hcz39_2 : wr.cell? ⟨gb208,2,none⟩ = some (.int .i64 a0_2) := (blk_cell BK208.out 2).trans rfl
                   have hcz39_3 : wr.cell? ⟨gb208,3,none⟩ = some (.int .i64 a0_3) := (blk_cell BK208.out 3).trans rfl
                   have hcz39_4 : wr.cell? ⟨gb208,4,none⟩ = some (.slice (some ad209) l0_4.length c0_4) := (blk_cell BK208.out 4).trans rfl
                   have hfz39_0:=blk_frozen BK208.out 0
                   have hfz39_1:=blk_frozen BK208.out 1
                   have hfz39_2:=blk_frozen BK208.out 2
                   have hfz39_3:=blk_frozen BK208.out 3
                   have hfz39_4:=blk_frozen BK208.out 4
                   have p211 : 0 ≤ (x5_3 : Int) := of_decide_eq_true (by first | (with_reducible assumption) | assumption)
                   have q211 : x5_3 < (((rd_T35 l0_4 x3_1).f1).length : Int) := of_decide_eq_true (by first | (with_reducible assumption) | assumption)
                   obtain ⟨ad211,e211,hx211_0,hx211_1⟩ := at_T43 HR209_1.out x5_3 p211 q211
                   (try rw [← Nbq19.out] at hx211_0)
                   cases e211
                   replace hx211_0:=(HB.out.cell (World.block_lt_of_cell? w _ hx211_0)).trans hx211_0
                   replace hx211_1:=(HB.out.cell (World.block_lt_of_cell? w _ hx211_1)).trans hx211_1
                   replace p211:=eq_true p211
                   replace q211:=eq_true q211
                   have p214 : 0 ≤ (x5_3 : Int) := of_decide_eq_true (by first | (with_reducible assumption) | assumption)
                   have q214 : x5_3 < (((rd_T35 l0_4 x3_1).f1).length : Int) := of_decide_eq_true (by first | (with_reducible assumption) | assumption)
                   obtain ⟨ad214,e214,hx214_0,hx214_1⟩ := at_T43 HR209_1.out x5_3 p214 q214
                   (try rw [← Nbq19.out] at hx214_0)
                   obtain rfl : ad211 = ad214:=(by injection e214)
                   replace hx214_0:=(HB.out.cell (World.block_lt_of_cell? w _ hx214_0)).trans hx214_0
                   replace hx214_1:=(HB.out.cell (World.block_lt_of_cell? w _ hx214_1)).trans hx214_1
                   replace p214:=eq_true p214
                   replace q214:=eq_true q214
                   have p215 : 0 ≤ (x5_3 : Int) := of_decide_eq_true (by first | (with_reducible assumption) | assumption)
                   have q215 : x5_3 < (((rd_T35 l0_4 x3_1).f1).length : Int) := of_decide_eq_true (by first | (with_reducible assumption) | assumption)
                   obtain ⟨ad215,e215,hx215_0,hx215_1⟩ := at_T43 HR209_1.out x5_3 p215 q215
                   (try rw [← Nbq19.out] at hx215_0)
                   obtain rfl : ad211 = ad215:=(by injection e215)
                   replace hx215_0:=(HB.out.cell (World.block_lt_of_cell? w _ hx215_0)).trans hx215_0
                   replace hx215_1:=(HB.out.cell (World.block_lt_of_cell? w _ hx215_1)).trans hx215_1
                   replace p215:=eq_true p215
                   replace q215:=eq_true q215
                   go_wp2
                   go_ret
                   exact ⟨by first | rfl | (simp [errW_none,errW_some] <;> rfl) | (simp [*,errW_none,errW_some] <;> rfl),by repeat (first | (with_reducible first | exact HB.out | apply below_alloc | apply pw_below_drewN | apply below_drew1 | refine below_set ?_ GE208.out | refine below_set ?_ GE210.out) | exact HB.out)⟩
                 · rw [if_neg c36] at H
                   have c36b0 : decide ((l0_0.length : Int) ≤ ((rd_T43 ((rd_T35 l0_4 x3_1).f1) x5_3).f1)) = false:=decide_eq_false c36
                   clear c36
                   have H' := Aside0.mk H
                   clear H
                   have hnb40:=NB210_208.out
                   have hnc40:=NB208_210.out
                   have hcz41_0 : wr.cell? ⟨gb210,0,none⟩ = some (.int .i64 ((rd_T35 l0_4 x3_1).f0)) := (blk_cell BK210.out 0).trans rfl
                   have hcz41_1 : wr.cell? ⟨gb210,1,none⟩ = some (.slice A209_1 ((rd_T35 l0_4 x3_1).f1).length c209_1) := (blk_cell BK210.out 1).trans rfl
                   have hfz41_0:=blk_frozen BK210.out 0
                   have hfz41_1:=blk_frozen BK210.out 1
                   have hcz42_0 : wr.cell? ⟨gb208,0,none⟩ = some (.slice A0_0 l0_0.length c0_0) := (blk_cell BK208.out 0).trans rfl
                   have hcz42_1 : wr.cell? ⟨gb208,1,none⟩ = some (.slice A0_1 l0_1.length c0_1) := (blk_cell BK208.out 1).trans rfl
                   have hcz42_2 : wr.cell? ⟨gb208,2,none⟩ = some (.int .i64 a0_2) := (blk_cell BK208.out 2).trans rfl
                   have hcz42_3 : wr.cell? ⟨gb208,3,none⟩ = some (.int .i64 a0_3) := (blk_cell BK208.out 3).trans rfl
                   have hcz42_4 : wr.cell? ⟨gb208,4,none⟩ = some (.slice (some ad209) l0_4.length c0_4) := (blk_cell BK208.out 4).trans rfl
                   have hfz42_0:=blk_frozen BK208.out 0
                   have hfz42_1:=blk_frozen BK208.out 1
                   have hfz42_2:=blk_frozen BK208.out 2
                   have hfz42_3:=blk_frozen BK208.out 3
                   have hfz42_4:=blk_frozen BK208.out 4
                   have p211 : 0 ≤ (x5_3 : Int) := of_decide_eq_true (by first | (with_reducible assumption) | assumption)
                   have q211 : x5_3 < (((rd_T35 l0_4 x3_1).f1).length : Int) := of_decide_eq_true (by first | (with_reducible assumption) | assumption)
                   obtain ⟨ad211,e211,hx211_0,hx211_1⟩ := at_T43 HR209_1.out x5_3 p211 q211
                   (try rw [← Nbq19.out] at hx211_0)
                   cases e211
                   replace hx211_0:=(HB.out.cell (World.block_lt_of_cell? w _ hx211_0)).trans hx211_0
                   replace hx211_1:=(HB.out.cell (World.block_lt_of_cell? w _ hx211_1)).trans hx211_1
                   replace p211:=eq_true p211
                   replace q211:=eq_true q211
                   have p214 : 0 ≤ (x5_3 : Int) := of_decide_eq_true (by first | (with_reducible assumption) | assumption)
                   have q214 : x5_3 < (((rd_T35 l0_4 x3_1).f1).length : Int) := of_decide_eq_true (by first | (with_reducible assumption) | assumption)
                   obtain ⟨ad214,e214,hx214_0,hx214_1⟩ := at_T43 HR209_1.out x5_3 p214 q214
                   (try rw [← Nbq19.out] at hx214_0)
                   obtain rfl : ad211 = ad214:=(by injection e214)
                   replace hx214_0:=(HB.out.cell (World.block_lt_of_cell? w _ hx214_0)).trans hx214_0
                   replace hx214_1:=(HB.out.cell (World.block_lt_of_cell? w _ hx214_1)).trans hx214_1
                   replace p214:=eq_true p214
                   replace q214:=eq_true q214
                   have p215 : 0 ≤ (x5_3 : Int) := of_decide_eq_true (by first | (with_reducible assumption) | assumption)
                   have q215 : x5_3 < (((rd_T35 l0_4 x3_1).f1).length : Int) := of_decide_eq_true (by first | (with_reducible assumption) | assumption)
                   obtain ⟨ad215,e215,hx215_0,hx215_1⟩ := at_T43 HR209_1.out x5_3 p215 q215
                   (try rw [← Nbq19.out] at hx215_0)
                   obtain rfl : ad211 = ad215:=(by injection e215)
                   replace hx215_0:=(HB.out.cell (World.block_lt_of_cell? w _ hx215_0)).trans hx215_0
                   replace hx215_1:=(HB.out.cell (World.block_lt_of_cell? w _ hx215_1)).trans hx215_1
                   replace p215:=eq_true p215
                   replace q215:=eq_true q215
                   go_wp2
                   go_roundg k3
                   case measure => have:=HK1.out;have:=HJ4.out;have:=HK3.out;omega
                   case rel => exact ⟨(wrap64 (x5_3 + 1)),(by first | rfl | (simp;done) | (simp [*];done)),H',⟨by have:=HK1.out;have:=HJ4.out;have:=HK3.out;omega⟩,⟨by (with_reducible repeat (first | refine blk_drewN ?_ _ | refine blk_drew ?_ | refine blk_alloc ?_ _));exact BK208.out⟩,⟨by (with_reducible repeat (first | refine blk_drewN ?_ _ | refine blk_drew ?_ | refine blk_alloc ?_ _));exact BK210.out⟩,⟨by repeat (first | (with_reducible first | exact HB.out | apply below_alloc | apply pw_below_drewN | apply below_drew1 | refine below_set ?_ GE208.out | refine below_set ?_ GE210.out) | exact HB.out)⟩⟩
           · rw [if_neg c17] at H
             have c17b0 : decide (x5_3 < (((rd_T35 l0_4 x3_1).f1).length : Int)) = false:=decide_eq_false c17
             clear c17
             have H' := Aside0.mk H
             clear H
             have hnb43:=NB210_208.out
             have hnc43:=NB208_210.out
             have hcz44_0 : wr.cell? ⟨gb210,0,none⟩ = some (.int .i64 ((rd_T35 l0_4 x3_1).f0)) := (blk_cell BK210.out 0).trans rfl
             have hcz44_1 : wr.cell? ⟨gb210,1,none⟩ = some (.slice A209_1 ((rd_T35 l0_4 x3_1).f1).length c209_1) := (blk_cell BK210.out 1).trans rfl
             have hfz44_0:=blk_frozen BK210.out 0
             have hfz44_1:=blk_frozen BK210.out 1
             go_wp2
             go_roundg k3
             case measure => have:=HK1.out;have:=HJ4.out;have:=HK3.out;omega
             case rel => exact ⟨(wrap64 (x3_1 + 1)),(by first | rfl | (simp;done) | (simp [*];done)),H',⟨by have:=HK1.out;have:=HJ4.out;have:=HK3.out;omega⟩,⟨by (with_reducible repeat (first | refine blk_drewN ?_ _ | refine blk_drew ?_ | refine blk_alloc ?_ _));exact BK208.out⟩,⟨by repeat (first | (with_reducible first | exact HB.out | apply below_alloc | apply pw_below_drewN | apply below_drew1 | refine below_set ?_ GE208.out | refine below_set ?_ GE210.out) | exact HB.out)⟩⟩
   · rw [if_neg c3] at H
     have c3b0 : decide (x3_1 < (l0_4.length : Int)) = false:=decide_eq_false c3
     clear c3
     obtain rfl:=Option.some.inj H
     have hcz45_0 : wr.cell? ⟨gb208,0,none⟩ = some (.slice A0_0 l0_0.length c0_0) := (blk_cell BK208.out 0).trans rfl
     have hcz45_1 : wr.cell? ⟨gb208,1,none⟩ = some (.slice A0_1 l0_1.length c0_1) := (blk_cell BK208.out 1).trans rfl
     have hcz45_2 : wr.cell? ⟨gb208,2,none⟩ = some (.int .i64 a0_2) := (blk_cell BK208.out 2).trans rfl
     have hcz45_3 : wr.cell? ⟨gb208,3,none⟩ = some (.int .i64 a0_3) := (blk_cell BK208.out 3).trans rfl
     have hcz45_4 : wr.cell? ⟨gb208,4,none⟩ = some (.slice A0_4 l0_4.length c0_4) := (blk_cell BK208.out 4).trans rfl
     have hfz45_0:=blk_frozen BK208.out 0
     have hfz45_1:=blk_frozen BK208.out 1
     have hfz45_2:=blk_frozen BK208.out 2
     have hfz45_3:=blk_frozen BK208.out 3
     have hfz45_4:=blk_frozen BK208.out 4
     go_wp2
     go_ret
     exact ⟨by first | rfl | (simp [errW_none,errW_some] <;> rfl) | (simp [*,errW_none,errW_some] <;> rfl),by repeat (first | (with_reducible first | exact HB.out | apply below_alloc | apply pw_below_drewN | apply below_drew1 | refine below_set ?_ GE208.out) | exact HB.out)⟩
attribute [local go_sem] max2_int min2_int max_two min_two max_three min_three max_four min_four   -- for this text's walks alone
set_option linter.unusedVariables false
set_option linter.unusedSimpArgs false
mutual
def regletref16_Right.j0 : Nat → List (List Int) → Bool → List ByteArray → List (S72) → Int → Int → List (S35) → Option (Bool)
  | 0,_,_,_,_,_,_,_ => none
  | k + 1,x1,x23,x217000,x217001,x217002,x217003,x217004 => if x23 = true then (some false) else (regletref16_Right.l0 k x1 0 x217000 x217001 x217002 x217003 x217004)
def regletref16_Right.l0 : Nat → List (List Int) → Int → List ByteArray → List (S72) → Int → Int → List (S35) → Option (Bool)
  | 0,_,_,_,_,_,_,_ => none
  | k + 1,x1,x5,x217000,x217001,x217002,x217003,x217004 => if x5 < (x1.length : Int) then (if 0 ≤ x5 then (if ((rd_L5 x1 x5).length : Int) = (wrap64 ((x217001.length : Int) + 1)) then (regletref16_Right.l1 k x1 x5 0 x217000 x217001 x217002 x217003 x217004) else (some false)) else (none)) else (some true)
def regletref16_Right.l1 : Nat → List (List Int) → Int → Int → List ByteArray → List (S72) → Int → Int → List (S35) → Option (Bool)
  | 0,_,_,_,_,_,_,_,_ => none
  | k + 1,x1,x5,x6,x217000,x217001,x217002,x217003,x217004 => if 0 ≤ x5 then (if x5 < (x1.length : Int) then (if x6 < ((rd_L5 x1 x5).length : Int) then (if 0 ≤ x6 then (if (rd (rd_L5 x1 x5) x6) < (-1) then (some false) else (if (rd (rd_L5 x1 x5) x6) ≥ (x217004.length : Int) then (some false) else (if (rd (rd_L5 x1 x5) x6) ≥ 0 then (if 0 ≤ (rd (rd_L5 x1 x5) x6) then (if (rd (rd_L5 x1 x5) x6) < (x217004.length : Int) then (if ((rd_T35 x217004 (rd (rd_L5 x1 x5) x6)).f0) = x5 then (regletref16_Right.l1 k x1 x5 (wrap64 (x6 + 1)) x217000 x217001 x217002 x217003 x217004) else (some false)) else (none)) else (none)) else (regletref16_Right.l1 k x1 x5 (wrap64 (x6 + 1)) x217000 x217001 x217002 x217003 x217004)))) else (none)) else (regletref16_Right.l0 k x1 (wrap64 (x5 + 1)) x217000 x217001 x217002 x217003 x217004)) else (none)) else (none)
end
def regletref16_Right.f (k : Nat) (l0_0 : List ByteArray) (l0_1 : List (S72)) (a0_2 : Int) (a0_3 : Int) (l0_4 : List (S35)) (l1 : List (List Int)) : Option (Bool) := (regletref13_Right.f k l0_0 l0_1 a0_2 a0_3 l0_4).bind fun t217 => (if t217 = true then (if (l0_0.length : Int) = 0 then (regletref16_Right.j0 k l1 true l0_0 l0_1 a0_2 a0_3 l0_4) else (regletref16_Right.j0 k l1 ((l1.length : Int) != (l0_0.length : Int)) l0_0 l0_1 a0_2 a0_3 l0_4)) else (regletref16_Right.j0 k l1 true l0_0 l0_1 a0_2 a0_3 l0_4))
set_option maxHeartbeats 8000000 in
set_option maxRecDepth 100000 in
theorem regletref16_Right.calls (k : Nat) (A0_0 : Option Addr) (c0_0 : Nat) (l0_0 : List ByteArray) (A0_1 : Option Addr) (c0_1 : Nat) (l0_1 : List (S72)) (a0_2 : Int) (a0_3 : Int) (A0_4 : Option Addr) (c0_4 : Nat) (l0_4 : List (S35)) (A1 : Option Addr) (c1 : Nat) (l1 : List (List Int)) (r : Bool) (w : World) (hr0_0 : Kd.C Kd.string w A0_0 l0_0.length l0_0) (hc0_0 : l0_0.length ≤ c0_0) (hr0_1 : Kd.C k72 w A0_1 l0_1.length l0_1) (hc0_1 : l0_1.length ≤ c0_1) (hr0_4 : Kd.C k35 w A0_4 l0_4.length l0_4) (hc0_4 : l0_4.length ≤ c0_4) (hr1 : Kd.C (Kd.slice 3 (Kd.int .i64)) w A1 l1.length l1) (hc1 : l1.length ≤ c1) (h : regletref16_Right.f k l0_0 l0_1 a0_2 a0_3 l0_4 l1 = some r) :
    Calls Try.prog 27 #[.agg #[.slice A0_0 l0_0.length c0_0,.slice A0_1 l0_1.length c0_1,.int .i64 a0_2,.int .i64 a0_3,.slice A0_4 l0_4.length c0_4],.slice A1 l1.length c1] w fun e w' => e = .returned (.bool r) ∧ Below w.heap.size w w' := by
 have hu26:=Try.underlying26
 have HR0_0:=Aside0.mk hr0_0
 have HC0_0:=Aside0.mk hc0_0
 clear hr0_0 hc0_0
 have HR0_1:=Aside0.mk hr0_1
 have HC0_1:=Aside0.mk hc0_1
 clear hr0_1 hc0_1
 have HR0_4:=Aside0.mk hr0_4
 have HC0_4:=Aside0.mk hc0_4
 clear hr0_4 hc0_4
 have HR1:=Aside0.mk hr1
 have HC1:=Aside0.mk hc1
 clear hr1 hc1
 have HB:=Aside0.mk (Below.refl w.heap.size w)
 have H : ((regletref13_Right.f k l0_0 l0_1 a0_2 a0_3 l0_4).bind fun t217 => (if t217 = true then (if (l0_0.length : Int) = 0 then (regletref16_Right.j0 k l1 true l0_0 l0_1 a0_2 a0_3 l0_4) else (regletref16_Right.j0 k l1 ((l1.length : Int) != (l0_0.length : Int)) l0_0 l0_1 a0_2 a0_3 l0_4)) else (regletref16_Right.j0 k l1 true l0_0 l0_1 a0_2 a0_3 l0_4))) = some r:=h
 clear h
 have HC3:=Aside0.mk H
 clear H
 go_enter Try.func27,Try.ntmps27
 go_upto_region 1 with (first | ((with_reducible refine gate_dst (N:=2) rfl ?_);(try (refine gate_guard (by rfl) ?_;dsimp only));refine box_event ?hg (N:=2) ?hd (cs:=#[.slice A0_0 l0_0.length c0_0,.slice A0_1 l0_1.length c0_1,.int .i64 a0_2,.int .i64 a0_3,.slice A0_4 l0_4.length c0_4]) (t:=26) ?hr ?_;(case hd => rfl);(case hg => rfl);(case hr => first | (go_simp;done) | (go_simp;rfl));intro gb216 hg w4 hbox hb;have n0_:=Aside0.mk (below_step (by repeat (first | (with_reducible first | exact HB.out | apply below_alloc | apply pw_below_drewN | apply below_drew1) | exact HB.out)) hb);have n1_:=Aside0.mk (hbox);have n2_:=Aside0.mk ((by rw [hg];exact (below_size (by repeat (first | (with_reducible first | exact HB.out | apply below_alloc | apply pw_below_drewN | apply below_drew1) | exact HB.out))) : w.heap.size ≤ gb216));have n3_:=Aside0.mk ((by rw [hg];exact (below_size (by repeat (first | (with_reducible first | exact HB.out | apply below_alloc | apply pw_below_drewN | apply below_drew1) | exact HB.out))) : w.heap.size ≤ gb216));clear HB;have HB:=n0_;have BK216:=n1_;have GW216:=n2_;have GE216:=n3_;clear n0_ n1_ n2_ n3_;clear hb hbox hg))
 repeat (go_quiet (first | ((with_reducible refine gate_dst (N:=2) rfl ?_);(try (refine gate_guard (by rfl) ?_;dsimp only));refine box_event ?hg (N:=2) ?hd (cs:=#[.slice A0_0 l0_0.length c0_0,.slice A0_1 l0_1.length c0_1,.int .i64 a0_2,.int .i64 a0_3,.slice A0_4 l0_4.length c0_4]) (t:=26) ?hr ?_;(case hd => rfl);(case hg => rfl);(case hr => first | (go_simp;done) | (go_simp;rfl));intro gb216 hg w4 hbox hb;have n0_:=Aside0.mk (below_step (by repeat (first | (with_reducible first | exact HB.out | apply below_alloc | apply pw_below_drewN | apply below_drew1) | exact HB.out)) hb);have n1_:=Aside0.mk (hbox);have n2_:=Aside0.mk ((by rw [hg];exact (below_size (by repeat (first | (with_reducible first | exact HB.out | apply below_alloc | apply pw_below_drewN | apply below_drew1) | exact HB.out))) : w.heap.size ≤ gb216));have n3_:=Aside0.mk ((by rw [hg];exact (below_size (by repeat (first | (with_reducible first | exact HB.out | apply below_alloc | apply pw_below_drewN | apply below_drew1) | exact HB.out))) : w.heap.size ≤ gb216));clear HB;have HB:=n0_;have BK216:=n1_;have GW216:=n2_;have GE216:=n3_;clear n0_ n1_ n2_ n3_;clear hb hbox hg));go_upto_region 1 with (first | ((with_reducible refine gate_dst (N:=2) rfl ?_);(try (refine gate_guard (by rfl) ?_;dsimp only));refine box_event ?hg (N:=2) ?hd (cs:=#[.slice A0_0 l0_0.length c0_0,.slice A0_1 l0_1.length c0_1,.int .i64 a0_2,.int .i64 a0_3,.slice A0_4 l0_4.length c0_4]) (t:=26) ?hr ?_;(case hd => rfl);(case hg => rfl);(case hr => first | (go_simp;done) | (go_simp;rfl));intro gb216 hg w4 hbox hb;have n0_:=Aside0.mk (below_step (by repeat (first | (with_reducible first | exact HB.out | apply below_alloc | apply pw_below_drewN | apply below_drew1) | exact HB.out)) hb);have n1_:=Aside0.mk (hbox);have n2_:=Aside0.mk ((by rw [hg];exact (below_size (by repeat (first | (with_reducible first | exact HB.out | apply below_alloc | apply pw_below_drewN | apply below_drew1) | exact HB.out))) : w.heap.size ≤ gb216));have n3_:=Aside0.mk ((by rw [hg];exact (below_size (by repeat (first | (with_reducible first | exact HB.out | apply below_alloc | apply pw_below_drewN | apply below_drew1) | exact HB.out))) : w.heap.size ≤ gb216));clear HB;have HB:=n0_;have BK216:=n1_;have GW216:=n2_;have GE216:=n3_;clear n0_ n1_ n2_ n3_;clear hb hbox hg)))
 (try simp only [Act.put,List.setIfInBounds_toArray,List.set_cons_zero,List.set_cons_succ])
 go_cut [23] (fun v23 wc => ∃ (kq : Nat) (x23_2 : Bool),v23 = .bool x23_2 ∧ Aside0 (regletref16_Right.j0 kq l1 x23_2 l0_0 l0_1 a0_2 a0_3 l0_4 = some r) ∧ Aside0 (kq ≤ k) ∧ Aside0 (wc.heap[gb216]? = some (.cells #[(.slice A0_0 l0_0.length c0_0),(.slice A0_1 l0_1.length c0_1),.int .i64 a0_2,.int .i64 a0_3,(.slice A0_4 l0_4.length c0_4)] 26 (0,0))) ∧ Aside0 (Below w.heap.size w wc))
 case first =>
  have H:=HC3.out
  clear HC3
  replace H:=Option.bind_eq_some_iff.mp H
  obtain ⟨t217,A50,H⟩ := H
  replace H : (if t217 = true then (if (l0_0.length : Int) = 0 then (regletref16_Right.j0 k l1 true l0_0 l0_1 a0_2 a0_3 l0_4) else (regletref16_Right.j0 k l1 ((l1.length : Int) != (l0_0.length : Int)) l0_0 l0_1 a0_2 a0_3 l0_4)) else (regletref16_Right.j0 k l1 true l0_0 l0_1 a0_2 a0_3 l0_4)) = some r:=H
  have A5:=Aside0.mk A50
  clear A50
  by_cases c6 : t217 = true
  · subst c6
    have H1 : (if (l0_0.length : Int) = 0 then (regletref16_Right.j0 k l1 true l0_0 l0_1 a0_2 a0_3 l0_4) else (regletref16_Right.j0 k l1 ((l1.length : Int) != (l0_0.length : Int)) l0_0 l0_1 a0_2 a0_3 l0_4)) = some r:=by rw [if_pos rfl] at H;exact H
    clear H
    have H:=H1
    clear H1
    by_cases c7 : (l0_0.length : Int) = 0
    · rw [if_pos c7] at H
      have c7b0 : ((l0_0.length : Int) == 0) = true:=beq_iff_eq.mpr c7
      have c7b1 : ((l0_0.length : Int) != 0) = false:=bne_eq_false_iff_eq.mpr c7
      clear c7
      (first | rw [c7b0] | (simp only [i64_w,i32_w];rw [c7b0]) | skip)
      have H' := Aside0.mk H
      clear H
      have hcz8_0 : w4.cell? ⟨gb216,0,none⟩ = some (.slice A0_0 l0_0.length c0_0) := (blk_cell BK216.out 0).trans rfl
      have hcz8_1 : w4.cell? ⟨gb216,1,none⟩ = some (.slice A0_1 l0_1.length c0_1) := (blk_cell BK216.out 1).trans rfl
      have hcz8_2 : w4.cell? ⟨gb216,2,none⟩ = some (.int .i64 a0_2) := (blk_cell BK216.out 2).trans rfl
      have hcz8_3 : w4.cell? ⟨gb216,3,none⟩ = some (.int .i64 a0_3) := (blk_cell BK216.out 3).trans rfl
      have hcz8_4 : w4.cell? ⟨gb216,4,none⟩ = some (.slice A0_4 l0_4.length c0_4) := (blk_cell BK216.out 4).trans rfl
      have hfz8_0:=blk_frozen BK216.out 0
      have hfz8_1:=blk_frozen BK216.out 1
      have hfz8_2:=blk_frozen BK216.out 2
      have hfz8_3:=blk_frozen BK216.out 3
      have hfz8_4:=blk_frozen BK216.out 4
      go_wp2_with (first | (go_at_call 30;(with_reducible refine (regletref13_Right.calls k _ _ l0_0 _ _ l0_1 a0_2 a0_3 _ _ l0_4 true _ ?side1 ?side2 ?side3 ?side4 ?side5 ?side6 A5.out).mono ?_);(case side1 => repeat (first | exact (Kd.C_below HR0_0.out HB.out) | (with_reducible refine Kd.C_alloc ?_ _) | (with_reducible refine Kd.C_drewN ?_ _) | (with_reducible refine Kd.C_drew ?_)));(case side2 => exact HC0_0.out);(case side3 => repeat (first | exact (Kd.C_below HR0_1.out HB.out) | (with_reducible refine Kd.C_alloc ?_ _) | (with_reducible refine Kd.C_drewN ?_ _) | (with_reducible refine Kd.C_drew ?_)));(case side4 => exact HC0_1.out);(case side5 => repeat (first | exact (Kd.C_below HR0_4.out HB.out) | (with_reducible refine Kd.C_alloc ?_ _) | (with_reducible refine Kd.C_drewN ?_ _) | (with_reducible refine Kd.C_drew ?_)));(case side6 => exact HC0_4.out);rintro e w9 ⟨rfl,hb⟩;have n0_:=Aside0.mk (blk_below (g:=gb216) (o := .cells #[.slice A0_0 l0_0.length c0_0,.slice A0_1 l0_1.length c0_1,.int .i64 a0_2,.int .i64 a0_3,.slice A0_4 l0_4.length c0_4] 26 (0,0)) (by (with_reducible repeat (first | refine blk_drewN ?_ _ | refine blk_drew ?_ | refine blk_alloc ?_ _));exact BK216.out) hb);have n1_:=Aside0.mk (below_step (by repeat (first | (with_reducible first | exact HB.out | apply below_alloc | apply pw_below_drewN | apply below_drew1 | refine below_set ?_ GE216.out) | exact HB.out)) hb);clear BK216;clear HB;have BK216:=n0_;have HB:=n1_;clear n0_ n1_;(try clear hb);(try clear hb2);(try clear hk);(try clear hi);have hcz10_0 : w9.cell? ⟨gb216,0,none⟩ = some (.slice A0_0 l0_0.length c0_0) := (blk_cell BK216.out 0).trans rfl;have hcz10_1 : w9.cell? ⟨gb216,1,none⟩ = some (.slice A0_1 l0_1.length c0_1) := (blk_cell BK216.out 1).trans rfl;have hcz10_2 : w9.cell? ⟨gb216,2,none⟩ = some (.int .i64 a0_2) := (blk_cell BK216.out 2).trans rfl;have hcz10_3 : w9.cell? ⟨gb216,3,none⟩ = some (.int .i64 a0_3) := (blk_cell BK216.out 3).trans rfl;have hcz10_4 : w9.cell? ⟨gb216,4,none⟩ = some (.slice A0_4 l0_4.length c0_4) := (blk_cell BK216.out 4).trans rfl;have hfz10_0:=blk_frozen BK216.out 0;have hfz10_1:=blk_frozen BK216.out 1;have hfz10_2:=blk_frozen BK216.out 2;have hfz10_3:=blk_frozen BK216.out 3;have hfz10_4:=blk_frozen BK216.out 4))
      repeat (go_quiet (first | (go_at_call 30;(with_reducible refine (regletref13_Right.calls k _ _ l0_0 _ _ l0_1 a0_2 a0_3 _ _ l0_4 true _ ?side1 ?side2 ?side3 ?side4 ?side5 ?side6 A5.out).mono ?_);(case side1 => repeat (first | exact (Kd.C_below HR0_0.out HB.out) | (with_reducible refine Kd.C_alloc ?_ _) | (with_reducible refine Kd.C_drewN ?_ _) | (with_reducible refine Kd.C_drew ?_)));(case side2 => exact HC0_0.out);(case side3 => repeat (first | exact (Kd.C_below HR0_1.out HB.out) | (with_reducible refine Kd.C_alloc ?_ _) | (with_reducible refine Kd.C_drewN ?_ _) | (with_reducible refine Kd.C_drew ?_)));(case side4 => exact HC0_1.out);(case side5 => repeat (first | exact (Kd.C_below HR0_4.out HB.out) | (with_reducible refine Kd.C_alloc ?_ _) | (with_reducible refine Kd.C_drewN ?_ _) | (with_reducible refine Kd.C_drew ?_)));(case side6 => exact HC0_4.out);rintro e w9 ⟨rfl,hb⟩;have n0_:=Aside0.mk (blk_below (g:=gb216) (o := .cells #[.slice A0_0 l0_0.length c0_0,.slice A0_1 l0_1.length c0_1,.int .i64 a0_2,.int .i64 a0_3,.slice A0_4 l0_4.length c0_4] 26 (0,0)) (by (with_reducible repeat (first | refine blk_drewN ?_ _ | refine blk_drew ?_ | refine blk_alloc ?_ _));exact BK216.out) hb);have n1_:=Aside0.mk (below_step (by repeat (first | (with_reducible first | exact HB.out | apply below_alloc | apply pw_below_drewN | apply below_drew1 | refine below_set ?_ GE216.out) | exact HB.out)) hb);clear BK216;clear HB;have BK216:=n0_;have HB:=n1_;clear n0_ n1_;(try clear hb);(try clear hb2);(try clear hk);(try clear hi);have hcz10_0 : w9.cell? ⟨gb216,0,none⟩ = some (.slice A0_0 l0_0.length c0_0) := (blk_cell BK216.out 0).trans rfl;have hcz10_1 : w9.cell? ⟨gb216,1,none⟩ = some (.slice A0_1 l0_1.length c0_1) := (blk_cell BK216.out 1).trans rfl;have hcz10_2 : w9.cell? ⟨gb216,2,none⟩ = some (.int .i64 a0_2) := (blk_cell BK216.out 2).trans rfl;have hcz10_3 : w9.cell? ⟨gb216,3,none⟩ = some (.int .i64 a0_3) := (blk_cell BK216.out 3).trans rfl;have hcz10_4 : w9.cell? ⟨gb216,4,none⟩ = some (.slice A0_4 l0_4.length c0_4) := (blk_cell BK216.out 4).trans rfl;have hfz10_0:=blk_frozen BK216.out 0;have hfz10_1:=blk_frozen BK216.out 1;have hfz10_2:=blk_frozen BK216.out 2;have hfz10_3:=blk_frozen BK216.out 3;have hfz10_4:=blk_frozen BK216.out 4));try go_wp2_with (first | (go_at_call 30;(with_reducible refine (regletref13_Right.calls k _ _ l0_0 _ _ l0_1 a0_2 a0_3 _ _ l0_4 true _ ?side1 ?side2 ?side3 ?side4 ?side5 ?side6 A5.out).mono ?_);(case side1 => repeat (first | exact (Kd.C_below HR0_0.out HB.out) | (with_reducible refine Kd.C_alloc ?_ _) | (with_reducible refine Kd.C_drewN ?_ _) | (with_reducible refine Kd.C_drew ?_)));(case side2 => exact HC0_0.out);(case side3 => repeat (first | exact (Kd.C_below HR0_1.out HB.out) | (with_reducible refine Kd.C_alloc ?_ _) | (with_reducible refine Kd.C_drewN ?_ _) | (with_reducible refine Kd.C_drew ?_)));(case side4 => exact HC0_1.out);(case side5 => repeat (first | exact (Kd.C_below HR0_4.out HB.out) | (with_reducible refine Kd.C_alloc ?_ _) | (with_reducible refine Kd.C_drewN ?_ _) | (with_reducible refine Kd.C_drew ?_)));(case side6 => exact HC0_4.out);rintro e w9 ⟨rfl,hb⟩;have n0_:=Aside0.mk (blk_below (g:=gb216) (o := .cells #[.slice A0_0 l0_0.length c0_0,.slice A0_1 l0_1.length c0_1,.int .i64 a0_2,.int .i64 a0_3,.slice A0_4 l0_4.length c0_4] 26 (0,0)) (by (with_reducible repeat (first | refine blk_drewN ?_ _ | refine blk_drew ?_ | refine blk_alloc ?_ _));exact BK216.out) hb);have n1_:=Aside0.mk (below_step (by repeat (first | (with_reducible first | exact HB.out | apply below_alloc | apply pw_below_drewN | apply below_drew1 | refine below_set ?_ GE216.out) | exact HB.out)) hb);clear BK216;clear HB;have BK216:=n0_;have HB:=n1_;clear n0_ n1_;(try clear hb);(try clear hb2);(try clear hk);(try clear hi);have hcz10_0 : w9.cell? ⟨gb216,0,none⟩ = some (.slice A0_0 l0_0.length c0_0) := (blk_cell BK216.out 0).trans rfl;have hcz10_1 : w9.cell? ⟨gb216,1,none⟩ = some (.slice A0_1 l0_1.length c0_1) := (blk_cell BK216.out 1).trans rfl;have hcz10_2 : w9.cell? ⟨gb216,2,none⟩ = some (.int .i64 a0_2) := (blk_cell BK216.out 2).trans rfl;have hcz10_3 : w9.cell? ⟨gb216,3,none⟩ = some (.int .i64 a0_3) := (blk_cell BK216.out 3).trans rfl;have hcz10_4 : w9.cell? ⟨gb216,4,none⟩ = some (.slice A0_4 l0_4.length c0_4) := (blk_cell BK216.out 4).trans rfl;have hfz10_0:=blk_frozen BK216.out 0;have hfz10_1:=blk_frozen BK216.out 1;have hfz10_2:=blk_frozen BK216.out 2;have hfz10_3:=blk_frozen BK216.out 3;have hfz10_4:=blk_frozen BK216.out 4)))
      go_meet
      case rel => exact ⟨_,(true),(by first | rfl | (simp;done) | (simp [*];done)),H',⟨by first | omega | exact Nat.le_refl _⟩,⟨by (with_reducible repeat (first | refine blk_drewN ?_ _ | refine blk_drew ?_ | refine blk_alloc ?_ _));exact BK216.out⟩,⟨by repeat (first | (with_reducible first | exact HB.out | apply below_alloc | apply pw_below_drewN | apply below_drew1 | refine below_set ?_ GE216.out) | exact HB.out)⟩⟩
    · rw [if_neg c7] at H
      have c7b0 : ((l0_0.length : Int) == 0) = false:=beq_eq_false_iff_ne.mpr c7
      have c7b1 : ((l0_0.length : Int) != 0) = true:=bne_iff_ne.mpr c7
      have c7b2 : ¬ (l0_0 = []) := fun h_ => c7 (by rw [h_];rfl)
      (first | rw [c7b0] | (simp only [i64_w,i32_w];rw [c7b0]) | skip)
      have H' := Aside0.mk H
      clear H
      have hcz11_0 : w4.cell? ⟨gb216,0,none⟩ = some (.slice A0_0 l0_0.length c0_0) := (blk_cell BK216.out 0).trans rfl
      have hcz11_1 : w4.cell? ⟨gb216,1,none⟩ = some (.slice A0_1 l0_1.length c0_1) := (blk_cell BK216.out 1).trans rfl
      have hcz11_2 : w4.cell? ⟨gb216,2,none⟩ = some (.int .i64 a0_2) := (blk_cell BK216.out 2).trans rfl
      have hcz11_3 : w4.cell? ⟨gb216,3,none⟩ = some (.int .i64 a0_3) := (blk_cell BK216.out 3).trans rfl
      have hcz11_4 : w4.cell? ⟨gb216,4,none⟩ = some (.slice A0_4 l0_4.length c0_4) := (blk_cell BK216.out 4).trans rfl
      have hfz11_0:=blk_frozen BK216.out 0
      have hfz11_1:=blk_frozen BK216.out 1
      have hfz11_2:=blk_frozen BK216.out 2
      have hfz11_3:=blk_frozen BK216.out 3
      have hfz11_4:=blk_frozen BK216.out 4
      go_wp2_with (first | (go_at_call 30;(with_reducible refine (regletref13_Right.calls k _ _ l0_0 _ _ l0_1 a0_2 a0_3 _ _ l0_4 true _ ?side1 ?side2 ?side3 ?side4 ?side5 ?side6 A5.out).mono ?_);(case side1 => repeat (first | exact (Kd.C_below HR0_0.out HB.out) | (with_reducible refine Kd.C_alloc ?_ _) | (with_reducible refine Kd.C_drewN ?_ _) | (with_reducible refine Kd.C_drew ?_)));(case side2 => exact HC0_0.out);(case side3 => repeat (first | exact (Kd.C_below HR0_1.out HB.out) | (with_reducible refine Kd.C_alloc ?_ _) | (with_reducible refine Kd.C_drewN ?_ _) | (with_reducible refine Kd.C_drew ?_)));(case side4 => exact HC0_1.out);(case side5 => repeat (first | exact (Kd.C_below HR0_4.out HB.out) | (with_reducible refine Kd.C_alloc ?_ _) | (with_reducible refine Kd.C_drewN ?_ _) | (with_reducible refine Kd.C_drew ?_)));(case side6 => exact HC0_4.out);rintro e w12 ⟨rfl,hb⟩;have n0_:=Aside0.mk (blk_below (g:=gb216) (o := .cells #[.slice A0_0 l0_0.length c0_0,.slice A0_1 l0_1.length c0_1,.int .i64 a0_2,.int .i64 a0_3,.slice A0_4 l0_4.length c0_4] 26 (0,0)) (by (with_reducible repeat (first | refine blk_drewN ?_ _ | refine blk_drew ?_ | refine blk_alloc ?_ _));exact BK216.out) hb);have n1_:=Aside0.mk (below_step (by repeat (first | (with_reducible first | exact HB.out | apply below_alloc | apply pw_below_drewN | apply below_drew1 | refine below_set ?_ GE216.out) | exact HB.out)) hb);clear BK216;clear HB;have BK216:=n0_;have HB:=n1_;clear n0_ n1_;(try clear hb);(try clear hb2);(try clear hk);(try clear hi);have hcz13_0 : w12.cell? ⟨gb216,0,none⟩ = some (.slice A0_0 l0_0.length c0_0) := (blk_cell BK216.out 0).trans rfl;have hcz13_1 : w12.cell? ⟨gb216,1,none⟩ = some (.slice A0_1 l0_1.length c0_1) := (blk_cell BK216.out 1).trans rfl;have hcz13_2 : w12.cell? ⟨gb216,2,none⟩ = some (.int .i64 a0_2) := (blk_cell BK216.out 2).trans rfl;have hcz13_3 : w12.cell? ⟨gb216,3,none⟩ = some (.int .i64 a0_3) := (blk_cell BK216.out 3).trans rfl;have hcz13_4 : w12.cell? ⟨gb216,4,none⟩ = some (.slice A0_4 l0_4.length c0_4) := (blk_cell BK216.out 4).trans rfl;have hfz13_0:=blk_frozen BK216.out 0;have hfz13_1:=blk_frozen BK216.out 1;have hfz13_2:=blk_frozen BK216.out 2;have hfz13_3:=blk_frozen BK216.out 3;have hfz13_4:=blk_frozen BK216.out 4))
      repeat (go_quiet (first | (go_at_call 30;(with_reducible refine (regletref13_Right.calls k _ _ l0_0 _ _ l0_1 a0_2 a0_3 _ _ l0_4 true _ ?side1 ?side2 ?side3 ?side4 ?side5 ?side6 A5.out).mono ?_);(case side1 => repeat (first | exact (Kd.C_below HR0_0.out HB.out) | (with_reducible refine Kd.C_alloc ?_ _) | (with_reducible refine Kd.C_drewN ?_ _) | (with_reducible refine Kd.C_drew ?_)));(case side2 => exact HC0_0.out);(case side3 => repeat (first | exact (Kd.C_below HR0_1.out HB.out) | (with_reducible refine Kd.C_alloc ?_ _) | (with_reducible refine Kd.C_drewN ?_ _) | (with_reducible refine Kd.C_drew ?_)));(case side4 => exact HC0_1.out);(case side5 => repeat (first | exact (Kd.C_below HR0_4.out HB.out) | (with_reducible refine Kd.C_alloc ?_ _) | (with_reducible refine Kd.C_drewN ?_ _) | (with_reducible refine Kd.C_drew ?_)));(case side6 => exact HC0_4.out);rintro e w12 ⟨rfl,hb⟩;have n0_:=Aside0.mk (blk_below (g:=gb216) (o := .cells #[.slice A0_0 l0_0.length c0_0,.slice A0_1 l0_1.length c0_1,.int .i64 a0_2,.int .i64 a0_3,.slice A0_4 l0_4.length c0_4] 26 (0,0)) (by (with_reducible repeat (first | refine blk_drewN ?_ _ | refine blk_drew ?_ | refine blk_alloc ?_ _));exact BK216.out) hb);have n1_:=Aside0.mk (below_step (by repeat (first | (with_reducible first | exact HB.out | apply below_alloc | apply pw_below_drewN | apply below_drew1 | refine below_set ?_ GE216.out) | exact HB.out)) hb);clear BK216;clear HB;have BK216:=n0_;have HB:=n1_;clear n0_ n1_;(try clear hb);(try clear hb2);(try clear hk);(try clear hi);have hcz13_0 : w12.cell? ⟨gb216,0,none⟩ = some (.slice A0_0 l0_0.length c0_0) := (blk_cell BK216.out 0).trans rfl;have hcz13_1 : w12.cell? ⟨gb216,1,none⟩ = some (.slice A0_1 l0_1.length c0_1) := (blk_cell BK216.out 1).trans rfl;have hcz13_2 : w12.cell? ⟨gb216,2,none⟩ = some (.int .i64 a0_2) := (blk_cell BK216.out 2).trans rfl;have hcz13_3 : w12.cell? ⟨gb216,3,none⟩ = some (.int .i64 a0_3) := (blk_cell BK216.out 3).trans rfl;have hcz13_4 : w12.cell? ⟨gb216,4,none⟩ = some (.slice A0_4 l0_4.length c0_4) := (blk_cell BK216.out 4).trans rfl;have hfz13_0:=blk_frozen BK216.out 0;have hfz13_1:=blk_frozen BK216.out 1;have hfz13_2:=blk_frozen BK216.out 2;have hfz13_3:=blk_frozen BK216.out 3;have hfz13_4:=blk_frozen BK216.out 4));try go_wp2_with (first | (go_at_call 30;(with_reducible refine (regletref13_Right.calls k _ _ l0_0 _ _ l0_1 a0_2 a0_3 _ _ l0_4 true _ ?side1 ?side2 ?side3 ?side4 ?side5 ?side6 A5.out).mono ?_);(case side1 => repeat (first | exact (Kd.C_below HR0_0.out HB.out) | (with_reducible refine Kd.C_alloc ?_ _) | (with_reducible refine Kd.C_drewN ?_ _) | (with_reducible refine Kd.C_drew ?_)));(case side2 => exact HC0_0.out);(case side3 => repeat (first | exact (Kd.C_below HR0_1.out HB.out) | (with_reducible refine Kd.C_alloc ?_ _) | (with_reducible refine Kd.C_drewN ?_ _) | (with_reducible refine Kd.C_drew ?_)));(case side4 => exact HC0_1.out);(case side5 => repeat (first | exact (Kd.C_below HR0_4.out HB.out) | (with_reducible refine Kd.C_alloc ?_ _) | (with_reducible refine Kd.C_drewN ?_ _) | (with_reducible refine Kd.C_drew ?_)));(case side6 => exact HC0_4.out);rintro e w12 ⟨rfl,hb⟩;have n0_:=Aside0.mk (blk_below (g:=gb216) (o := .cells #[.slice A0_0 l0_0.length c0_0,.slice A0_1 l0_1.length c0_1,.int .i64 a0_2,.int .i64 a0_3,.slice A0_4 l0_4.length c0_4] 26 (0,0)) (by (with_reducible repeat (first | refine blk_drewN ?_ _ | refine blk_drew ?_ | refine blk_alloc ?_ _));exact BK216.out) hb);have n1_:=Aside0.mk (below_step (by repeat (first | (with_reducible first | exact HB.out | apply below_alloc | apply pw_below_drewN | apply below_drew1 | refine below_set ?_ GE216.out) | exact HB.out)) hb);clear BK216;clear HB;have BK216:=n0_;have HB:=n1_;clear n0_ n1_;(try clear hb);(try clear hb2);(try clear hk);(try clear hi);have hcz13_0 : w12.cell? ⟨gb216,0,none⟩ = some (.slice A0_0 l0_0.length c0_0) := (blk_cell BK216.out 0).trans rfl;have hcz13_1 : w12.cell? ⟨gb216,1,none⟩ = some (.slice A0_1 l0_1.length c0_1) := (blk_cell BK216.out 1).trans rfl;have hcz13_2 : w12.cell? ⟨gb216,2,none⟩ = some (.int .i64 a0_2) := (blk_cell BK216.out 2).trans rfl;have hcz13_3 : w12.cell? ⟨gb216,3,none⟩ = some (.int .i64 a0_3) := (blk_cell BK216.out 3).trans rfl;have hcz13_4 : w12.cell? ⟨gb216,4,none⟩ = some (.slice A0_4 l0_4.length c0_4) := (blk_cell BK216.out 4).trans rfl;have hfz13_0:=blk_frozen BK216.out 0;have hfz13_1:=blk_frozen BK216.out 1;have hfz13_2:=blk_frozen BK216.out 2;have hfz13_3:=blk_frozen BK216.out 3;have hfz13_4:=blk_frozen BK216.out 4)))
      go_meet
      case rel => exact ⟨_,(((l1.length : Int) != (l0_0.length : Int))),(by first | rfl | (simp;done) | (simp [*];done)),H',⟨by first | omega | exact Nat.le_refl _⟩,⟨by (with_reducible repeat (first | refine blk_drewN ?_ _ | refine blk_drew ?_ | refine blk_alloc ?_ _));exact BK216.out⟩,⟨by repeat (first | (with_reducible first | exact HB.out | apply below_alloc | apply pw_below_drewN | apply below_drew1 | refine below_set ?_ GE216.out) | exact HB.out)⟩⟩
  · replace c6:=Bool.eq_false_iff.mpr c6
    subst c6
    have H1 : (regletref16_Right.j0 k l1 true l0_0 l0_1 a0_2 a0_3 l0_4) = some r:=by rw [if_neg (show ¬ (false = true) by decide)] at H;exact H
    clear H
    have H:=H1
    clear H1
    have H' := Aside0.mk H
    clear H
    have hcz14_0 : w4.cell? ⟨gb216,0,none⟩ = some (.slice A0_0 l0_0.length c0_0) := (blk_cell BK216.out 0).trans rfl
    have hcz14_1 : w4.cell? ⟨gb216,1,none⟩ = some (.slice A0_1 l0_1.length c0_1) := (blk_cell BK216.out 1).trans rfl
    have hcz14_2 : w4.cell? ⟨gb216,2,none⟩ = some (.int .i64 a0_2) := (blk_cell BK216.out 2).trans rfl
    have hcz14_3 : w4.cell? ⟨gb216,3,none⟩ = some (.int .i64 a0_3) := (blk_cell BK216.out 3).trans rfl
    have hcz14_4 : w4.cell? ⟨gb216,4,none⟩ = some (.slice A0_4 l0_4.length c0_4) := (blk_cell BK216.out 4).trans rfl
    have hfz14_0:=blk_frozen BK216.out 0
    have hfz14_1:=blk_frozen BK216.out 1
    have hfz14_2:=blk_frozen BK216.out 2
    have hfz14_3:=blk_frozen BK216.out 3
    have hfz14_4:=blk_frozen BK216.out 4
    go_wp2_with (first | (go_at_call 30;(with_reducible refine (regletref13_Right.calls k _ _ l0_0 _ _ l0_1 a0_2 a0_3 _ _ l0_4 false _ ?side1 ?side2 ?side3 ?side4 ?side5 ?side6 A5.out).mono ?_);(case side1 => repeat (first | exact (Kd.C_below HR0_0.out HB.out) | (with_reducible refine Kd.C_alloc ?_ _) | (with_reducible refine Kd.C_drewN ?_ _) | (with_reducible refine Kd.C_drew ?_)));(case side2 => exact HC0_0.out);(case side3 => repeat (first | exact (Kd.C_below HR0_1.out HB.out) | (with_reducible refine Kd.C_alloc ?_ _) | (with_reducible refine Kd.C_drewN ?_ _) | (with_reducible refine Kd.C_drew ?_)));(case side4 => exact HC0_1.out);(case side5 => repeat (first | exact (Kd.C_below HR0_4.out HB.out) | (with_reducible refine Kd.C_alloc ?_ _) | (with_reducible refine Kd.C_drewN ?_ _) | (with_reducible refine Kd.C_drew ?_)));(case side6 => exact HC0_4.out);rintro e w15 ⟨rfl,hb⟩;have n0_:=Aside0.mk (blk_below (g:=gb216) (o := .cells #[.slice A0_0 l0_0.length c0_0,.slice A0_1 l0_1.length c0_1,.int .i64 a0_2,.int .i64 a0_3,.slice A0_4 l0_4.length c0_4] 26 (0,0)) (by (with_reducible repeat (first | refine blk_drewN ?_ _ | refine blk_drew ?_ | refine blk_alloc ?_ _));exact BK216.out) hb);have n1_:=Aside0.mk (below_step (by repeat (first | (with_reducible first | exact HB.out | apply below_alloc | apply pw_below_drewN | apply below_drew1 | refine below_set ?_ GE216.out) | exact HB.out)) hb);clear BK216;clear HB;have BK216:=n0_;have HB:=n1_;clear n0_ n1_;(try clear hb);(try clear hb2);(try clear hk);(try clear hi)))
    repeat (go_quiet (first | (go_at_call 30;(with_reducible refine (regletref13_Right.calls k _ _ l0_0 _ _ l0_1 a0_2 a0_3 _ _ l0_4 false _ ?side1 ?side2 ?side3 ?side4 ?side5 ?side6 A5.out).mono ?_);(case side1 => repeat (first | exact (Kd.C_below HR0_0.out HB.out) | (with_reducible refine Kd.C_alloc ?_ _) | (with_reducible refine Kd.C_drewN ?_ _) | (with_reducible refine Kd.C_drew ?_)));(case side2 => exact HC0_0.out);(case side3 => repeat (first | exact (Kd.C_below HR0_1.out HB.out) | (with_reducible refine Kd.C_alloc ?_ _) | (with_reducible refine Kd.C_drewN ?_ _) | (with_reducible refine Kd.C_drew ?_)));(case side4 => exact HC0_1.out);(case side5 => repeat (first | exact (Kd.C_below HR0_4.out HB.out) | (with_reducible refine Kd.C_alloc ?_ _) | (with_reducible refine Kd.C_drewN ?_ _) | (with_reducible refine Kd.C_drew ?_)));(case side6 => exact HC0_4.out);rintro e w15 ⟨rfl,hb⟩;have n0_:=Aside0.mk (blk_below (g:=gb216) (o := .cells #[.slice A0_0 l0_0.length c0_0,.slice A0_1 l0_1.length c0_1,.int .i64 a0_2,.int .i64 a0_3,.slice A0_4 l0_4.length c0_4] 26 (0,0)) (by (with_reducible repeat (first | refine blk_drewN ?_ _ | refine blk_drew ?_ | refine blk_alloc ?_ _));exact BK216.out) hb);have n1_:=Aside0.mk (below_step (by repeat (first | (with_reducible first | exact HB.out | apply below_alloc | apply pw_below_drewN | apply below_drew1 | refine below_set ?_ GE216.out) | exact HB.out)) hb);clear BK216;clear HB;have BK216:=n0_;have HB:=n1_;clear n0_ n1_;(try clear hb);(try clear hb2);(try clear hk);(try clear hi)));try go_wp2_with (first | (go_at_call 30;(with_reducible refine (regletref13_Right.calls k _ _ l0_0 _ _ l0_1 a0_2 a0_3 _ _ l0_4 false _ ?side1 ?side2 ?side3 ?side4 ?side5 ?side6 A5.out).mono ?_);(case side1 => repeat (first | exact (Kd.C_below HR0_0.out HB.out) | (with_reducible refine Kd.C_alloc ?_ _) | (with_reducible refine Kd.C_drewN ?_ _) | (with_reducible refine Kd.C_drew ?_)));(case side2 => exact HC0_0.out);(case side3 => repeat (first | exact (Kd.C_below HR0_1.out HB.out) | (with_reducible refine Kd.C_alloc ?_ _) | (with_reducible refine Kd.C_drewN ?_ _) | (with_reducible refine Kd.C_drew ?_)));(case side4 => exact HC0_1.out);(case side5 => repeat (first | exact (Kd.C_below HR0_4.out HB.out) | (with_reducible refine Kd.C_alloc ?_ _) | (with_reducible refine Kd.C_drewN ?_ _) | (with_reducible refine Kd.C_drew ?_)));(case side6 => exact HC0_4.out);rintro e w15 ⟨rfl,hb⟩;have n0_:=Aside0.mk (blk_below (g:=gb216) (o := .cells #[.slice A0_0 l0_0.length c0_0,.slice A0_1 l0_1.length c0_1,.int .i64 a0_2,.int .i64 a0_3,.slice A0_4 l0_4.length c0_4] 26 (0,0)) (by (with_reducible repeat (first | refine blk_drewN ?_ _ | refine blk_drew ?_ | refine blk_alloc ?_ _));exact BK216.out) hb);have n1_:=Aside0.mk (below_step (by repeat (first | (with_reducible first | exact HB.out | apply below_alloc | apply pw_below_drewN | apply below_drew1 | refine below_set ?_ GE216.out) | exact HB.out)) hb);clear BK216;clear HB;have BK216:=n0_;have HB:=n1_;clear n0_ n1_;(try clear hb);(try clear hb2);(try clear hk);(try clear hi))))
    go_meet
    case rel => exact ⟨_,(true),(by first | rfl | (simp;done) | (simp [*];done)),H',⟨by first | omega | exact Nat.le_refl _⟩,⟨by (with_reducible repeat (first | refine blk_drewN ?_ _ | refine blk_drew ?_ | refine blk_alloc ?_ _));exact BK216.out⟩,⟨by repeat (first | (with_reducible first | exact HB.out | apply below_alloc | apply pw_below_drewN | apply below_drew1 | refine below_set ?_ GE216.out) | exact HB.out)⟩⟩
 case rest =>
  clear HC3
  (try clear c1);(try clear c2);(try clear p2);(try clear c6);(try clear c7);(try clear c7b0);(try clear c7b1);(try clear c7b2);(try clear hcz10_0);(try clear hcz10_1);(try clear hcz10_2);(try clear hcz10_3);(try clear hcz10_4);(try clear hcz11_0);(try clear hcz11_1);(try clear hcz11_2);(try clear hcz11_3);(try clear hcz11_4);(try clear hcz13_0);(try clear hcz13_1);(try clear hcz13_2);(try clear hcz13_3)
  (try clear hcz13_4);(try clear hcz14_0);(try clear hcz14_1);(try clear hcz14_2);(try clear hcz14_3);(try clear hcz14_4);(try clear hcz8_0);(try clear hcz8_1);(try clear hcz8_2);(try clear hcz8_3);(try clear hcz8_4);(try clear hfz10_0);(try clear hfz10_1);(try clear hfz10_2);(try clear hfz10_3);(try clear hfz10_4);(try clear hfz11_0);(try clear hfz11_1);(try clear hfz11_2);(try clear hfz11_3);(try clear hfz11_4)
  (try clear hfz13_0);(try clear hfz13_1);(try clear hfz13_2);(try clear hfz13_3);(try clear hfz13_4);(try clear hfz14_0);(try clear hfz14_1);(try clear hfz14_2);(try clear hfz14_3);(try clear hfz14_4);(try clear hfz8_0);(try clear hfz8_1);(try clear hfz8_2);(try clear hfz8_3);(try clear hfz8_4)
  obtain ⟨kq,x23_2,rfl,HA,HJ2,BK216,HB⟩ := hcut
  cases kq with
  | zero => exact absurd HA.out (by simp [regletref16_Right.j0])
  | succ kj2 =>
   have H:=HA.out
   clear HA
   simp only [regletref16_Right.j0] at H
   by_cases c16 : x23_2 = true
   · subst c16
     have H1 : (some false) = some r:=by rw [if_pos rfl] at H;exact H
     clear H
     have H:=H1
     clear H1
     obtain rfl:=Option.some.inj H
     go_wp2
     repeat (go_quiet (fail);try go_wp2)
     go_ret
     exact ⟨by first | rfl | (simp [errW_none,errW_some] <;> rfl) | (simp [*,errW_none,errW_some] <;> rfl),by repeat (first | (with_reducible first | exact HB.out | apply below_alloc | apply pw_below_drewN | apply below_drew1 | refine below_set ?_ GE216.out) | exact HB.out)⟩
   · replace c16:=Bool.eq_false_iff.mpr c16
     subst c16
     have H1 : (regletref16_Right.l0 kj2 l1 0 l0_0 l0_1 a0_2 a0_3 l0_4) = some r:=by rw [if_neg (show ¬ (false = true) by decide)] at H;exact H
     clear H
     have H:=H1
     clear H1
     have H' := Aside0.mk H
     clear H
     go_wp2
     repeat (go_quiet (fail);try go_wp2)
     go_loopg [5] kj2 (fun kq v5 w' => ∃ (x5_2 : Int),v5 = .int .i64 x5_2 ∧ Aside0 (regletref16_Right.l0 kq l1 x5_2 l0_0 l0_1 a0_2 a0_3 l0_4 = some r) ∧ Aside0 (kq ≤ kj2) ∧ Aside0 (w'.heap[gb216]? = some (.cells #[(.slice A0_0 l0_0.length c0_0),(.slice A0_1 l0_1.length c0_1),.int .i64 a0_2,.int .i64 a0_3,(.slice A0_4 l0_4.length c0_4)] 26 (0,0))) ∧ Aside0 (Below w.heap.size w w'))
     case atStart => exact ⟨(0),(by first | rfl | (simp;done) | (simp [*];done)),H',⟨Nat.le_refl _⟩,⟨by (with_reducible repeat (first | refine blk_drewN ?_ _ | refine blk_drew ?_ | refine blk_alloc ?_ _));exact BK216.out⟩,⟨by repeat (first | (with_reducible first | exact HB.out | apply below_alloc | apply pw_below_drewN | apply below_drew1 | refine below_set ?_ GE216.out) | exact HB.out)⟩⟩
     case round =>
      clear H'
      (try clear c1);(try clear c2);(try clear p2);(try clear c6);(try clear c7);(try clear c7b0);(try clear c7b1);(try clear c7b2);(try clear c16);(try clear hcz10_0);(try clear hcz10_1);(try clear hcz10_2);(try clear hcz10_3);(try clear hcz10_4);(try clear hcz11_0);(try clear hcz11_1);(try clear hcz11_2);(try clear hcz11_3);(try clear hcz11_4);(try clear hcz13_0);(try clear hcz13_1);(try clear hcz13_2)
      (try clear hcz13_3);(try clear hcz13_4);(try clear hcz14_0);(try clear hcz14_1);(try clear hcz14_2);(try clear hcz14_3);(try clear hcz14_4);(try clear hcz8_0);(try clear hcz8_1);(try clear hcz8_2);(try clear hcz8_3);(try clear hcz8_4);(try clear hfz10_0);(try clear hfz10_1);(try clear hfz10_2);(try clear hfz10_3);(try clear hfz10_4);(try clear hfz11_0);(try clear hfz11_1);(try clear hfz11_2);(try clear hfz11_3)
      (try clear hfz11_4);(try clear hfz13_0);(try clear hfz13_1);(try clear hfz13_2);(try clear hfz13_3);(try clear hfz13_4);(try clear hfz14_0);(try clear hfz14_1);(try clear hfz14_2);(try clear hfz14_3);(try clear hfz14_4);(try clear hfz8_0);(try clear hfz8_1);(try clear hfz8_2);(try clear hfz8_3);(try clear hfz8_4);(try clear p2)
      obtain ⟨x5_2,rfl,HA,HK2,BK216,HB⟩ := hrel
      cases gk with
      | zero => exact absurd HA.out (by simp [regletref16_Right.l0])
      | succ k2 =>
       have H:=HA.out
       clear HA
       simp only [regletref16_Right.l0] at H
       by_cases c17 : x5_2 < (l1.length : Int)
       · rw [if_pos c17] at H
         have c17b0 : decide (x5_2 < (l1.length : Int)) = true:=decide_eq_true c17
         clear c17
         by_cases c18 : 0 ≤ x5_2
         rotate_left
         · rw [if_neg c18] at H
           exact absurd H (by simp)
         rw [if_pos c18] at H
         have c18b0 : decide (0 ≤ x5_2) = true:=decide_eq_true c18
         clear c18
         by_cases c19 : ((rd_L5 l1 x5_2).length : Int) = (wrap64 ((l0_1.length : Int) + 1))
         · rw [if_pos c19] at H
           have c19b0 : (((rd_L5 l1 x5_2).length : Int) == (wrap64 ((l0_1.length : Int) + 1))) = true:=beq_iff_eq.mpr c19
           have c19b1 : (((rd_L5 l1 x5_2).length : Int) != (wrap64 ((l0_1.length : Int) + 1))) = false:=bne_eq_false_iff_eq.mpr c19
           clear c19
           have H' := Aside0.mk H
           clear H
           have p218 : 0 ≤ (x5_2 : Int) := of_decide_eq_true (by first | (with_reducible assumption) | assumption)
           have q218 : x5_2 < (l1.length : Int) := of_decide_eq_true (by first | (with_reducible assumption) | assumption)
           obtain ⟨ad218,A218_0,c218_0,e218,hx218_0,hl218_0,hi218_0⟩ := at_L5 HR1.out x5_2 p218 q218
           cases e218
           replace hx218_0:=(HB.out.cell (World.block_lt_of_cell? w _ hx218_0)).trans hx218_0
           have HR218_0:=Aside0.mk hi218_0
           have HC218_0:=Aside0.mk hl218_0
           clear hi218_0 hl218_0
           replace p218:=eq_true p218
           replace q218:=eq_true q218
           have hcz20_0 : wr.cell? ⟨gb216,0,none⟩ = some (.slice A0_0 l0_0.length c0_0) := (blk_cell BK216.out 0).trans rfl
           have hcz20_1 : wr.cell? ⟨gb216,1,none⟩ = some (.slice A0_1 l0_1.length c0_1) := (blk_cell BK216.out 1).trans rfl
           have hcz20_2 : wr.cell? ⟨gb216,2,none⟩ = some (.int .i64 a0_2) := (blk_cell BK216.out 2).trans rfl
           have hcz20_3 : wr.cell? ⟨gb216,3,none⟩ = some (.int .i64 a0_3) := (blk_cell BK216.out 3).trans rfl
           have hcz20_4 : wr.cell? ⟨gb216,4,none⟩ = some (.slice A0_4 l0_4.length c0_4) := (blk_cell BK216.out 4).trans rfl
           have hfz20_0:=blk_frozen BK216.out 0
           have hfz20_1:=blk_frozen BK216.out 1
           have hfz20_2:=blk_frozen BK216.out 2
           have hfz20_3:=blk_frozen BK216.out 3
           have hfz20_4:=blk_frozen BK216.out 4
           go_wp2
           repeat (go_quiet (fail);try go_wp2)
           go_loopg [6] k2 (fun kq v6 w' => ∃ (x6_3 : Int),v6 = .int .i64 x6_3 ∧ Aside0 (regletref16_Right.l1 kq l1 x5_2 x6_3 l0_0 l0_1 a0_2 a0_3 l0_4 = some r) ∧ Aside0 (kq ≤ k2) ∧ Aside0 (w'.heap[gb216]? = some (.cells #[(.slice A0_0 l0_0.length c0_0),(.slice A0_1 l0_1.length c0_1),.int .i64 a0_2,.int .i64 a0_3,(.slice A0_4 l0_4.length c0_4)] 26 (0,0))) ∧ Aside0 (Below w.heap.size w w'))
           case atStart => exact ⟨(0),(by first | rfl | (simp;done) | (simp [*];done)),H',⟨Nat.le_refl _⟩,⟨by (with_reducible repeat (first | refine blk_drewN ?_ _ | refine blk_drew ?_ | refine blk_alloc ?_ _));exact BK216.out⟩,⟨by repeat (first | (with_reducible first | exact HB.out | apply below_alloc | apply pw_below_drewN | apply below_drew1 | refine below_set ?_ GE216.out) | exact HB.out)⟩⟩
           case round =>
            clear H'
            (try clear c1);(try clear c2);(try clear p2);(try clear q2);(try clear hx2);(try clear c6);(try clear p6);(try clear c7);(try clear c7b0);(try clear c7b1);(try clear c7b2);(try clear c16);(try clear c17);(try clear c17b0);(try clear c18);(try clear c18b0);(try clear c19);(try clear c19b0);(try clear c19b1);(try clear hcz10_0);(try clear hcz10_1);(try clear hcz10_2);(try clear hcz10_3);(try clear hcz10_4)
            (try clear hcz11_0);(try clear hcz11_1);(try clear hcz11_2);(try clear hcz11_3);(try clear hcz11_4);(try clear hcz13_0);(try clear hcz13_1);(try clear hcz13_2);(try clear hcz13_3);(try clear hcz13_4);(try clear hcz14_0);(try clear hcz14_1);(try clear hcz14_2);(try clear hcz14_3);(try clear hcz14_4);(try clear hcz20_0);(try clear hcz20_1);(try clear hcz20_2);(try clear hcz20_3);(try clear hcz20_4);(try clear hcz8_0)
            (try clear hcz8_1);(try clear hcz8_2);(try clear hcz8_3);(try clear hcz8_4);(try clear hfz10_0);(try clear hfz10_1);(try clear hfz10_2);(try clear hfz10_3);(try clear hfz10_4);(try clear hfz11_0);(try clear hfz11_1);(try clear hfz11_2);(try clear hfz11_3);(try clear hfz11_4);(try clear hfz13_0);(try clear hfz13_1);(try clear hfz13_2);(try clear hfz13_3);(try clear hfz13_4);(try clear hfz14_0);(try clear hfz14_1)
            (try clear hfz14_2);(try clear hfz14_3);(try clear hfz14_4);(try clear hfz20_0);(try clear hfz20_1);(try clear hfz20_2);(try clear hfz20_3);(try clear hfz20_4);(try clear hfz8_0);(try clear hfz8_1);(try clear hfz8_2);(try clear hfz8_3);(try clear hfz8_4);(try clear hx218_0);(try clear p2);(try clear p218);(try clear q218)
            obtain ⟨x6_3,rfl,HA,HK3,BK216,HB⟩ := hrel
            cases gk with
            | zero => exact absurd HA.out (by simp [regletref16_Right.l1])
            | succ k3 =>
             have H:=HA.out
             clear HA
             simp only [regletref16_Right.l1] at H
             by_cases c21 : 0 ≤ x5_2
             rotate_left
             · rw [if_neg c21] at H
               exact absurd H (by simp)
             rw [if_pos c21] at H
             have c21b0 : decide (0 ≤ x5_2) = true:=decide_eq_true c21
             clear c21
             by_cases c22 : x5_2 < (l1.length : Int)
             rotate_left
             · rw [if_neg c22] at H
               exact absurd H (by simp)
             rw [if_pos c22] at H
             have c22b0 : decide (x5_2 < (l1.length : Int)) = true:=decide_eq_true c22
             clear c22
             by_cases c23 : x6_3 < ((rd_L5 l1 x5_2).length : Int)
             · rw [if_pos c23] at H
               have c23b0 : decide (x6_3 < ((rd_L5 l1 x5_2).length : Int)) = true:=decide_eq_true c23
               clear c23
               by_cases c24 : 0 ≤ x6_3
               rotate_left
               · rw [if_neg c24] at H
                 exact absurd H (by simp)
               rw [if_pos c24] at H
               have c24b0 : decide (0 ≤ x6_3) = true:=decide_eq_true c24
               clear c24
               by_cases c25 : (rd (rd_L5 l1 x5_2) x6_3) < (-1)
               · rw [if_pos c25] at H
                 have c25b0 : decide ((rd (rd_L5 l1 x5_2) x6_3) < (-1)) = true:=decide_eq_true c25
                 clear c25
                 obtain rfl:=Option.some.inj H
                 have p219 : 0 ≤ (x5_2 : Int) := of_decide_eq_true (by first | (with_reducible assumption) | assumption)
                 have q219 : x5_2 < (l1.length : Int) := of_decide_eq_true (by first | (with_reducible assumption) | assumption)
                 obtain ⟨ad219,A219_0,c219_0,e219,hx219_0,hl219_0,hi219_0⟩ := at_L5 HR1.out x5_2 p219 q219
                 obtain rfl : ad218 = ad219:=(by injection e219)
                 replace hx219_0:=(HB.out.cell (World.block_lt_of_cell? w _ hx219_0)).trans hx219_0
                 have HR219_0:=Aside0.mk hi219_0
                 have HC219_0:=Aside0.mk hl219_0
                 clear hi219_0 hl219_0
                 replace p219:=eq_true p219
                 replace q219:=eq_true q219
                 have p220 : 0 ≤ (x5_2 : Int) := of_decide_eq_true (by first | (with_reducible assumption) | assumption)
                 have q220 : x5_2 < (l1.length : Int) := of_decide_eq_true (by first | (with_reducible assumption) | assumption)
                 obtain ⟨ad220,A220_0,c220_0,e220,hx220_0,hl220_0,hi220_0⟩ := at_L5 HR1.out x5_2 p220 q220
                 obtain rfl : ad218 = ad220:=(by injection e220)
                 replace hx220_0:=(HB.out.cell (World.block_lt_of_cell? w _ hx220_0)).trans hx220_0
                 have HR220_0:=Aside0.mk hi220_0
                 have HC220_0:=Aside0.mk hl220_0
                 clear hi220_0 hl220_0
                 replace p220:=eq_true p220
                 replace q220:=eq_true q220
                 have ea_:=Option.some.inj (hx219_0.symm.trans hx220_0)
                 injection ea_ with ea_ en_ ec_
                 subst ea_
                 subst ec_
                 clear en_
                 have p221 : 0 ≤ (x6_3 : Int) := of_decide_eq_true (by first | (with_reducible assumption) | assumption)
                 have q221 : x6_3 < ((rd_L5 l1 x5_2).length : Int) := of_decide_eq_true (by first | (with_reducible assumption) | assumption)
                 obtain ⟨ad221,e221,hx221_0⟩ := Kd.at_int HR220_0.out x6_3 p221 q221
                 cases e221
                 replace hx221_0:=(HB.out.cell (World.block_lt_of_cell? w _ hx221_0)).trans hx221_0
                 replace p221:=eq_true p221
                 replace q221:=eq_true q221
                 go_wp2
                 repeat (go_quiet (fail);try go_wp2)
                 go_ret
                 exact ⟨by first | rfl | (simp [errW_none,errW_some] <;> rfl) | (simp [*,errW_none,errW_some] <;> rfl),by repeat (first | (with_reducible first | exact HB.out | apply below_alloc | apply pw_below_drewN | apply below_drew1 | refine below_set ?_ GE216.out) | exact HB.out)⟩
               · rw [if_neg c25] at H
                 have c25b0 : decide ((rd (rd_L5 l1 x5_2) x6_3) < (-1)) = false:=decide_eq_false c25
                 clear c25
                 by_cases c26 : (rd (rd_L5 l1 x5_2) x6_3) ≥ (l0_4.length : Int)
                 · rw [if_pos c26] at H
                   have c26b0 : decide ((l0_4.length : Int) ≤ (rd (rd_L5 l1 x5_2) x6_3)) = true:=decide_eq_true c26
                   clear c26
                   obtain rfl:=Option.some.inj H
                   have p219 : 0 ≤ (x5_2 : Int) := of_decide_eq_true (by first | (with_reducible assumption) | assumption)
                   have q219 : x5_2 < (l1.length : Int) := of_decide_eq_true (by first | (with_reducible assumption) | assumption)
                   obtain ⟨ad219,A219_0,c219_0,e219,hx219_0,hl219_0,hi219_0⟩ := at_L5 HR1.out x5_2 p219 q219
                   obtain rfl : ad218 = ad219:=(by injection e219)
                   replace hx219_0:=(HB.out.cell (World.block_lt_of_cell? w _ hx219_0)).trans hx219_0
                   have HR219_0:=Aside0.mk hi219_0
                   have HC219_0:=Aside0.mk hl219_0
                   clear hi219_0 hl219_0
                   replace p219:=eq_true p219
                   replace q219:=eq_true q219
                   have p220 : 0 ≤ (x5_2 : Int) := of_decide_eq_true (by first | (with_reducible assumption) | assumption)
                   have q220 : x5_2 < (l1.length : Int) := of_decide_eq_true (by first | (with_reducible assumption) | assumption)
                   obtain ⟨ad220,A220_0,c220_0,e220,hx220_0,hl220_0,hi220_0⟩ := at_L5 HR1.out x5_2 p220 q220
                   obtain rfl : ad218 = ad220:=(by injection e220)
                   replace hx220_0:=(HB.out.cell (World.block_lt_of_cell? w _ hx220_0)).trans hx220_0
                   have HR220_0:=Aside0.mk hi220_0
                   have HC220_0:=Aside0.mk hl220_0
                   clear hi220_0 hl220_0
                   replace p220:=eq_true p220
                   replace q220:=eq_true q220
                   have ea_:=Option.some.inj (hx219_0.symm.trans hx220_0)
                   injection ea_ with ea_ en_ ec_
                   subst ea_
                   subst ec_
                   clear en_
                   have p221 : 0 ≤ (x6_3 : Int) := of_decide_eq_true (by first | (with_reducible assumption) | assumption)
                   have q221 : x6_3 < ((rd_L5 l1 x5_2).length : Int) := of_decide_eq_true (by first | (with_reducible assumption) | assumption)
                   obtain ⟨ad221,e221,hx221_0⟩ := Kd.at_int HR220_0.out x6_3 p221 q221
                   cases e221
                   replace hx221_0:=(HB.out.cell (World.block_lt_of_cell? w _ hx221_0)).trans hx221_0
                   replace p221:=eq_true p221
                   replace q221:=eq_true q221
                   have p222 : 0 ≤ (x5_2 : Int) := of_decide_eq_true (by first | (with_reducible assumption) | assumption)
                   have q222 : x5_2 < (l1.length : Int) := of_decide_eq_true (by first | (with_reducible assumption) | assumption)
                   obtain ⟨ad222,A222_0,c222_0,e222,hx222_0,hl222_0,hi222_0⟩ := at_L5 HR1.out x5_2 p222 q222
                   obtain rfl : ad218 = ad222:=(by injection e222)
                   replace hx222_0:=(HB.out.cell (World.block_lt_of_cell? w _ hx222_0)).trans hx222_0
                   have HR222_0:=Aside0.mk hi222_0
                   have HC222_0:=Aside0.mk hl222_0
                   clear hi222_0 hl222_0
                   replace p222:=eq_true p222
                   replace q222:=eq_true q222
                   have ea_:=Option.some.inj (hx219_0.symm.trans hx222_0)
                   injection ea_ with ea_ en_ ec_
                   subst ea_
                   subst ec_
                   clear en_
                   have p223 : 0 ≤ (x6_3 : Int) := of_decide_eq_true (by first | (with_reducible assumption) | assumption)
                   have q223 : x6_3 < ((rd_L5 l1 x5_2).length : Int) := of_decide_eq_true (by first | (with_reducible assumption) | assumption)
                   obtain ⟨ad223,e223,hx223_0⟩ := Kd.at_int HR222_0.out x6_3 p223 q223
                   cases e223
                   replace hx223_0:=(HB.out.cell (World.block_lt_of_cell? w _ hx223_0)).trans hx223_0
                   replace p223:=eq_true p223
                   replace q223:=eq_true q223
                   have hcz27_0 : wr.cell? ⟨gb216,0,none⟩ = some (.slice A0_0 l0_0.length c0_0) := (blk_cell BK216.out 0).trans rfl
                   have hcz27_1 : wr.cell? ⟨gb216,1,none⟩ = some (.slice A0_1 l0_1.length c0_1) := (blk_cell BK216.out 1).trans rfl
                   have hcz27_2 : wr.cell? ⟨gb216,2,none⟩ = some (.int .i64 a0_2) := (blk_cell BK216.out 2).trans rfl
                   have hcz27_3 : wr.cell? ⟨gb216,3,none⟩ = some (.int .i64 a0_3) := (blk_cell BK216.out 3).trans rfl
                   have hcz27_4 : wr.cell? ⟨gb216,4,none⟩ = some (.slice A0_4 l0_4.length c0_4) := (blk_cell BK216.out 4).trans rfl
                   have hfz27_0:=blk_frozen BK216.out 0
                   have hfz27_1:=blk_frozen BK216.out 1
                   have hfz27_2:=blk_frozen BK216.out 2
                   have hfz27_3:=blk_frozen BK216.out 3
                   have hfz27_4:=blk_frozen BK216.out 4
                   go_wp2
                   repeat (go_quiet (fail);try go_wp2)
                   go_ret
                   exact ⟨by first | rfl | (simp [errW_none,errW_some] <;> rfl) | (simp [*,errW_none,errW_some] <;> rfl),by repeat (first | (with_reducible first | exact HB.out | apply below_alloc | apply pw_below_drewN | apply below_drew1 | refine below_set ?_ GE216.out) | exact HB.out)⟩
                 · rw [if_neg c26] at H
                   have c26b0 : decide ((l0_4.length : Int) ≤ (rd (rd_L5 l1 x5_2) x6_3)) = false:=decide_eq_false c26
                   clear c26
                   by_cases c28 : (rd (rd_L5 l1 x5_2) x6_3) ≥ 0
                   · rw [if_pos c28] at H
                     have c28b0 : decide (0 ≤ (rd (rd_L5 l1 x5_2) x6_3)) = true:=decide_eq_true c28
                     clear c28
                     by_cases c29 : 0 ≤ (rd (rd_L5 l1 x5_2) x6_3)
                     rotate_left
                     · rw [if_neg c29] at H
                       exact absurd H (by simp)
                     rw [if_pos c29] at H
                     have c29b0 : decide (0 ≤ (rd (rd_L5 l1 x5_2) x6_3)) = true:=decide_eq_true c29
                     clear c29
                     by_cases c30 : (rd (rd_L5 l1 x5_2) x6_3) < (l0_4.length : Int)
                     rotate_left
                     · rw [if_neg c30] at H
                       exact absurd H (by simp)
                     rw [if_pos c30] at H
                     have c30b0 : decide ((rd (rd_L5 l1 x5_2) x6_3) < (l0_4.length : Int)) = true:=decide_eq_true c30
                     clear c30
                     by_cases c31 : ((rd_T35 l0_4 (rd (rd_L5 l1 x5_2) x6_3)).f0) = x5_2
                     · rw [if_pos c31] at H
                       have c31b0 : (((rd_T35 l0_4 (rd (rd_L5 l1 x5_2) x6_3)).f0) == x5_2) = true:=beq_iff_eq.mpr c31
                       have c31b1 : (((rd_T35 l0_4 (rd (rd_L5 l1 x5_2) x6_3)).f0) != x5_2) = false:=bne_eq_false_iff_eq.mpr c31
                       clear c31
                       have H' := Aside0.mk H
                       clear H
                       have p219 : 0 ≤ (x5_2 : Int) := of_decide_eq_true (by first | (with_reducible assumption) | assumption)
                       have q219 : x5_2 < (l1.length : Int) := of_decide_eq_true (by first | (with_reducible assumption) | assumption)
                       obtain ⟨ad219,A219_0,c219_0,e219,hx219_0,hl219_0,hi219_0⟩ := at_L5 HR1.out x5_2 p219 q219
                       obtain rfl : ad218 = ad219:=(by injection e219)
                       replace hx219_0:=(HB.out.cell (World.block_lt_of_cell? w _ hx219_0)).trans hx219_0
                       have HR219_0:=Aside0.mk hi219_0
                       have HC219_0:=Aside0.mk hl219_0
                       clear hi219_0 hl219_0
                       replace p219:=eq_true p219
                       replace q219:=eq_true q219
                       have p220 : 0 ≤ (x5_2 : Int) := of_decide_eq_true (by first | (with_reducible assumption) | assumption)
                       have q220 : x5_2 < (l1.length : Int) := of_decide_eq_true (by first | (with_reducible assumption) | assumption)
                       obtain ⟨ad220,A220_0,c220_0,e220,hx220_0,hl220_0,hi220_0⟩ := at_L5 HR1.out x5_2 p220 q220
                       obtain rfl : ad218 = ad220:=(by injection e220)
                       replace hx220_0:=(HB.out.cell (World.block_lt_of_cell? w _ hx220_0)).trans hx220_0
                       have HR220_0:=Aside0.mk hi220_0
                       have HC220_0:=Aside0.mk hl220_0
                       clear hi220_0 hl220_0
                       replace p220:=eq_true p220
                       replace q220:=eq_true q220
                       have ea_:=Option.some.inj (hx219_0.symm.trans hx220_0)
                       injection ea_ with ea_ en_ ec_
                       subst ea_
                       subst ec_
                       clear en_
                       have p221 : 0 ≤ (x6_3 : Int) := of_decide_eq_true (by first | (with_reducible assumption) | assumption)
                       have q221 : x6_3 < ((rd_L5 l1 x5_2).length : Int) := of_decide_eq_true (by first | (with_reducible assumption) | assumption)
                       obtain ⟨ad221,e221,hx221_0⟩ := Kd.at_int HR220_0.out x6_3 p221 q221
                       cases e221
                       replace hx221_0:=(HB.out.cell (World.block_lt_of_cell? w _ hx221_0)).trans hx221_0
                       replace p221:=eq_true p221
                       replace q221:=eq_true q221
                       have p222 : 0 ≤ (x5_2 : Int) := of_decide_eq_true (by first | (with_reducible assumption) | assumption)
                       have q222 : x5_2 < (l1.length : Int) := of_decide_eq_true (by first | (with_reducible assumption) | assumption)
                       obtain ⟨ad222,A222_0,c222_0,e222,hx222_0,hl222_0,hi222_0⟩ := at_L5 HR1.out x5_2 p222 q222
                       obtain rfl : ad218 = ad222:=(by injection e222)
                       replace hx222_0:=(HB.out.cell (World.block_lt_of_cell? w _ hx222_0)).trans hx222_0
                       have HR222_0:=Aside0.mk hi222_0
                       have HC222_0:=Aside0.mk hl222_0
                       clear hi222_0 hl222_0
                       replace p222:=eq_true p222
                       replace q222:=eq_true q222
                       have ea_:=Option.some.inj (hx219_0.symm.trans hx222_0)
                       injection ea_ with ea_ en_ ec_
                       subst ea_
                       subst ec_
                       clear en_
                       have p223 : 0 ≤ (x6_3 : Int) := of_decide_eq_true (by first | (with_reducible assumption) | assumption)
                       have q223 : x6_3 < ((rd_L5 l1 x5_2).length : Int) := of_decide_eq_true (by first | (with_reducible assumption) | assumption)
                       obtain ⟨ad223,e223,hx223_0⟩ := Kd.at_int HR222_0.out x6_3 p223 q223
                       cases e223
                       replace hx223_0:=(HB.out.cell (World.block_lt_of_cell? w _ hx223_0)).trans hx223_0
                       replace p223:=eq_true p223
                       replace q223:=eq_true q223
                       have hcz32_0 : wr.cell? ⟨gb216,0,none⟩ = some (.slice A0_0 l0_0.length c0_0) := (blk_cell BK216.out 0).trans rfl
                       have hcz32_1 : wr.cell? ⟨gb216,1,none⟩ = some (.slice A0_1 l0_1.length c0_1) := (blk_cell BK216.out 1).trans rfl
                       have hcz32_2 : wr.cell? ⟨gb216,2,none⟩ = some (.int .i64 a0_2) := (blk_cell BK216.out 2).trans rfl
                       have hcz32_3 : wr.cell? ⟨gb216,3,none⟩ = some (.int .i64 a0_3) := (blk_cell BK216.out 3).trans rfl
                       have hcz32_4 : wr.cell? ⟨gb216,4,none⟩ = some (.slice A0_4 l0_4.length c0_4) := (blk_cell BK216.out 4).trans rfl
                       have hfz32_0:=blk_frozen BK216.out 0
                       have hfz32_1:=blk_frozen BK216.out 1
                       have hfz32_2:=blk_frozen BK216.out 2
                       have hfz32_3:=blk_frozen BK216.out 3
                       have hfz32_4:=blk_frozen BK216.out 4
                       have p224 : 0 ≤ (x5_2 : Int) := of_decide_eq_true (by first | (with_reducible assumption) | assumption)
                       have q224 : x5_2 < (l1.length : Int) := of_decide_eq_true (by first | (with_reducible assumption) | assumption)
                       obtain ⟨ad224,A224_0,c224_0,e224,hx224_0,hl224_0,hi224_0⟩ := at_L5 HR1.out x5_2 p224 q224
                       obtain rfl : ad218 = ad224:=(by injection e224)
                       replace hx224_0:=(HB.out.cell (World.block_lt_of_cell? w _ hx224_0)).trans hx224_0
                       have HR224_0:=Aside0.mk hi224_0
                       have HC224_0:=Aside0.mk hl224_0
                       clear hi224_0 hl224_0
                       replace p224:=eq_true p224
                       replace q224:=eq_true q224
                       have ea_:=Option.some.inj (hx219_0.symm.trans hx224_0)
                       injection ea_ with ea_ en_ ec_
                       subst ea_
                       subst ec_
                       clear en_
                       have p225 : 0 ≤ (x6_3 : Int) := of_decide_eq_true (by first | (with_reducible assumption) | assumption)
                       have q225 : x6_3 < ((rd_L5 l1 x5_2).length : Int) := of_decide_eq_true (by first | (with_reducible assumption) | assumption)
                       obtain ⟨ad225,e225,hx225_0⟩ := Kd.at_int HR224_0.out x6_3 p225 q225
                       cases e225
                       replace hx225_0:=(HB.out.cell (World.block_lt_of_cell? w _ hx225_0)).trans hx225_0
                       replace p225:=eq_true p225
                       replace q225:=eq_true q225
                       have p226 : 0 ≤ (x5_2 : Int) := of_decide_eq_true (by first | (with_reducible assumption) | assumption)
                       have q226 : x5_2 < (l1.length : Int) := of_decide_eq_true (by first | (with_reducible assumption) | assumption)
                       obtain ⟨ad226,A226_0,c226_0,e226,hx226_0,hl226_0,hi226_0⟩ := at_L5 HR1.out x5_2 p226 q226
                       obtain rfl : ad218 = ad226:=(by injection e226)
                       replace hx226_0:=(HB.out.cell (World.block_lt_of_cell? w _ hx226_0)).trans hx226_0
                       have HR226_0:=Aside0.mk hi226_0
                       have HC226_0:=Aside0.mk hl226_0
                       clear hi226_0 hl226_0
                       replace p226:=eq_true p226
                       replace q226:=eq_true q226
                       have ea_:=Option.some.inj (hx219_0.symm.trans hx226_0)
                       injection ea_ with ea_ en_ ec_
                       subst ea_
                       subst ec_
                       clear en_
                       have p227 : 0 ≤ (x6_3 : Int) := of_decide_eq_true (by first | (with_reducible assumption) | assumption)
                       have q227 : x6_3 < ((rd_L5 l1 x5_2).length : Int) := of_decide_eq_true (by first | (with_reducible assumption) | assumption)
                       obtain ⟨ad227,e227,hx227_0⟩ := Kd.at_int HR226_0.out x6_3 p227 q227
                       cases e227
                       replace hx227_0:=(HB.out.cell (World.block_lt_of_cell? w _ hx227_0)).trans hx227_0
                       replace p227:=eq_true p227
                       replace q227:=eq_true q227
                       have p228 : 0 ≤ ((rd (rd_L5 l1 x5_2) x6_3) : Int) := of_decide_eq_true (by first | (with_reducible assumption) | assumption)
                       have q228 : (rd (rd_L5 l1 x5_2) x6_3) < (l0_4.length : Int) := of_decide_eq_true (by first | (with_reducible assumption) | assumption)
                       obtain ⟨ad228,A228_1,c228_1,e228,hx228_0,hx228_1,hl228_1,hi228_1⟩ := at_T35 HR0_4.out (rd (rd_L5 l1 x5_2) x6_3) p228 q228
                       cases e228
                       replace hx228_0:=(HB.out.cell (World.block_lt_of_cell? w _ hx228_0)).trans hx228_0
                       replace hx228_1:=(HB.out.cell (World.block_lt_of_cell? w _ hx228_1)).trans hx228_1
                       have HR228_1:=Aside0.mk hi228_1
                       have HC228_1:=Aside0.mk hl228_1
                       clear hi228_1 hl228_1
                       replace p228:=eq_true p228
                       replace q228:=eq_true q228
                       go_wp2
                       repeat (go_quiet (fail);try go_wp2)
                       go_roundg k3
                       case measure => have:=HJ2.out;have:=HK2.out;have:=HK3.out;omega
                       case rel => exact ⟨(wrap64 (x6_3 + 1)),(by first | rfl | (simp;done) | (simp [*];done)),H',⟨by have:=HJ2.out;have:=HK2.out;have:=HK3.out;omega⟩,⟨by (with_reducible repeat (first | refine blk_drewN ?_ _ | refine blk_drew ?_ | refine blk_alloc ?_ _));exact BK216.out⟩,⟨by repeat (first | (with_reducible first | exact HB.out | apply below_alloc | apply pw_below_drewN | apply below_drew1 | refine below_set ?_ GE216.out) | exact HB.out)⟩⟩
                     · rw [if_neg c31] at H
                       have c31b0 : (((rd_T35 l0_4 (rd (rd_L5 l1 x5_2) x6_3)).f0) == x5_2) = false:=beq_eq_false_iff_ne.mpr c31
                       have c31b1 : (((rd_T35 l0_4 (rd (rd_L5 l1 x5_2) x6_3)).f0) != x5_2) = true:=bne_iff_ne.mpr c31
                       obtain rfl:=Option.some.inj H
                       have p219 : 0 ≤ (x5_2 : Int) := of_decide_eq_true (by first | (with_reducible assumption) | assumption)
                       have q219 : x5_2 < (l1.length : Int) := of_decide_eq_true (by first | (with_reducible assumption) | assumption)
                       obtain ⟨ad219,A219_0,c219_0,e219,hx219_0,hl219_0,hi219_0⟩ := at_L5 HR1.out x5_2 p219 q219
                       obtain rfl : ad218 = ad219:=(by injection e219)
                       replace hx219_0:=(HB.out.cell (World.block_lt_of_cell? w _ hx219_0)).trans hx219_0
                       have HR219_0:=Aside0.mk hi219_0
                       have HC219_0:=Aside0.mk hl219_0
                       clear hi219_0 hl219_0
                       replace p219:=eq_true p219
                       replace q219:=eq_true q219
                       have p220 : 0 ≤ (x5_2 : Int) := of_decide_eq_true (by first | (with_reducible assumption) | assumption)
                       have q220 : x5_2 < (l1.length : Int) := of_decide_eq_true (by first | (with_reducible assumption) | assumption)
                       obtain ⟨ad220,A220_0,c220_0,e220,hx220_0,hl220_0,hi220_0⟩ := at_L5 HR1.out x5_2 p220 q220
                       obtain rfl : ad218 = ad220:=(by injection e220)
                       replace hx220_0:=(HB.out.cell (World.block_lt_of_cell? w _ hx220_0)).trans hx220_0
                       have HR220_0:=Aside0.mk hi220_0
                       have HC220_0:=Aside0.mk hl220_0
                       clear hi220_0 hl220_0
                       replace p220:=eq_true p220
                       replace q220:=eq_true q220
                       have ea_:=Option.some.inj (hx219_0.symm.trans hx220_0)
                       injection ea_ with ea_ en_ ec_
                       subst ea_
                       subst ec_
                       clear en_
                       have p221 : 0 ≤ (x6_3 : Int) := of_decide_eq_true (by first | (with_reducible assumption) | assumption)
                       have q221 : x6_3 < ((rd_L5 l1 x5_2).length : Int) := of_decide_eq_true (by first | (with_reducible assumption) | assumption)
                       obtain ⟨ad221,e221,hx221_0⟩ := Kd.at_int HR220_0.out x6_3 p221 q221
                       cases e221
                       replace hx221_0:=(HB.out.cell (World.block_lt_of_cell? w _ hx221_0)).trans hx221_0
                       replace p221:=eq_true p221
                       replace q221:=eq_true q221
                       have p222 : 0 ≤ (x5_2 : Int) := of_decide_eq_true (by first | (with_reducible assumption) | assumption)
                       have q222 : x5_2 < (l1.length : Int) := of_decide_eq_true (by first | (with_reducible assumption) | assumption)
                       obtain ⟨ad222,A222_0,c222_0,e222,hx222_0,hl222_0,hi222_0⟩ := at_L5 HR1.out x5_2 p222 q222
                       obtain rfl : ad218 = ad222:=(by injection e222)
                       replace hx222_0:=(HB.out.cell (World.block_lt_of_cell? w _ hx222_0)).trans hx222_0
                       have HR222_0:=Aside0.mk hi222_0
                       have HC222_0:=Aside0.mk hl222_0
                       clear hi222_0 hl222_0
                       replace p222:=eq_true p222
                       replace q222:=eq_true q222
                       have ea_:=Option.some.inj (hx219_0.symm.trans hx222_0)
                       injection ea_ with ea_ en_ ec_
                       subst ea_
                       subst ec_
                       clear en_
                       have p223 : 0 ≤ (x6_3 : Int) := of_decide_eq_true (by first | (with_reducible assumption) | assumption)
                       have q223 : x6_3 < ((rd_L5 l1 x5_2).length : Int) := of_decide_eq_true (by first | (with_reducible assumption) | assumption)
                       obtain ⟨ad223,e223,hx223_0⟩ := Kd.at_int HR222_0.out x6_3 p223 q223
                       cases e223
                       replace hx223_0:=(HB.out.cell (World.block_lt_of_cell? w _ hx223_0)).trans hx223_0
                       replace p223:=eq_true p223
                       replace q223:=eq_true q223
                       have hcz33_0 : wr.cell? ⟨gb216,0,none⟩ = some (.slice A0_0 l0_0.length c0_0) := (blk_cell BK216.out 0).trans rfl
                       have hcz33_1 : wr.cell? ⟨gb216,1,none⟩ = some (.slice A0_1 l0_1.length c0_1) := (blk_cell BK216.out 1).trans rfl
                       have hcz33_2 : wr.cell? ⟨gb216,2,none⟩ = some (.int .i64 a0_2) := (blk_cell BK216.out 2).trans rfl
                       have hcz33_3 : wr.cell? ⟨gb216,3,none⟩ = some (.int .i64 a0_3) := (blk_cell BK216.out 3).trans rfl
                       have hcz33_4 : wr.cell? ⟨gb216,4,none⟩ = some (.slice A0_4 l0_4.length c0_4) := (blk_cell BK216.out 4).trans rfl
                       have hfz33_0:=blk_frozen BK216.out 0
                       have hfz33_1:=blk_frozen BK216.out 1
                       have hfz33_2:=blk_frozen BK216.out 2
                       have hfz33_3:=blk_frozen BK216.out 3
                       have hfz33_4:=blk_frozen BK216.out 4
                       have p224 : 0 ≤ (x5_2 : Int) := of_decide_eq_true (by first | (with_reducible assumption) | assumption)
                       have q224 : x5_2 < (l1.length : Int) := of_decide_eq_true (by first | (with_reducible assumption) | assumption)
                       obtain ⟨ad224,A224_0,c224_0,e224,hx224_0,hl224_0,hi224_0⟩ := at_L5 HR1.out x5_2 p224 q224
                       obtain rfl : ad218 = ad224:=(by injection e224)
                       replace hx224_0:=(HB.out.cell (World.block_lt_of_cell? w _ hx224_0)).trans hx224_0
                       have HR224_0:=Aside0.mk hi224_0
                       have HC224_0:=Aside0.mk hl224_0
                       clear hi224_0 hl224_0
                       replace p224:=eq_true p224
                       replace q224:=eq_true q224
                       have ea_:=Option.some.inj (hx219_0.symm.trans hx224_0)
                       injection ea_ with ea_ en_ ec_
                       subst ea_
                       subst ec_
                       clear en_
                       have p225 : 0 ≤ (x6_3 : Int) := of_decide_eq_true (by first | (with_reducible assumption) | assumption)
                       have q225 : x6_3 < ((rd_L5 l1 x5_2).length : Int) := of_decide_eq_true (by first | (with_reducible assumption) | assumption)
                       obtain ⟨ad225,e225,hx225_0⟩ := Kd.at_int HR224_0.out x6_3 p225 q225
                       cases e225
                       replace hx225_0:=(HB.out.cell (World.block_lt_of_cell? w _ hx225_0)).trans hx225_0
                       replace p225:=eq_true p225
                       replace q225:=eq_true q225
                       have p226 : 0 ≤ (x5_2 : Int) := of_decide_eq_true (by first | (with_reducible assumption) | assumption)
                       have q226 : x5_2 < (l1.length : Int) := of_decide_eq_true (by first | (with_reducible assumption) | assumption)
                       obtain ⟨ad226,A226_0,c226_0,e226,hx226_0,hl226_0,hi226_0⟩ := at_L5 HR1.out x5_2 p226 q226
                       obtain rfl : ad218 = ad226:=(by injection e226)
                       replace hx226_0:=(HB.out.cell (World.block_lt_of_cell? w _ hx226_0)).trans hx226_0
                       have HR226_0:=Aside0.mk hi226_0
                       have HC226_0:=Aside0.mk hl226_0
                       clear hi226_0 hl226_0
                       replace p226:=eq_true p226
                       replace q226:=eq_true q226
                       have ea_:=Option.some.inj (hx219_0.symm.trans hx226_0)
                       injection ea_ with ea_ en_ ec_
                       subst ea_
                       subst ec_
                       clear en_
                       have p227 : 0 ≤ (x6_3 : Int) := of_decide_eq_true (by first | (with_reducible assumption) | assumption)
                       have q227 : x6_3 < ((rd_L5 l1 x5_2).length : Int) := of_decide_eq_true (by first | (with_reducible assumption) | assumption)
                       obtain ⟨ad227,e227,hx227_0⟩ := Kd.at_int HR226_0.out x6_3 p227 q227
                       cases e227
                       replace hx227_0:=(HB.out.cell (World.block_lt_of_cell? w _ hx227_0)).trans hx227_0
                       replace p227:=eq_true p227
                       replace q227:=eq_true q227
                       have p228 : 0 ≤ ((rd (rd_L5 l1 x5_2) x6_3) : Int) := of_decide_eq_true (by first | (with_reducible assumption) | assumption)
                       have q228 : (rd (rd_L5 l1 x5_2) x6_3) < (l0_4.length : Int) := of_decide_eq_true (by first | (with_reducible assumption) | assumption)
                       obtain ⟨ad228,A228_1,c228_1,e228,hx228_0,hx228_1,hl228_1,hi228_1⟩ := at_T35 HR0_4.out (rd (rd_L5 l1 x5_2) x6_3) p228 q228
                       cases e228
                       replace hx228_0:=(HB.out.cell (World.block_lt_of_cell? w _ hx228_0)).trans hx228_0
                       replace hx228_1:=(HB.out.cell (World.block_lt_of_cell? w _ hx228_1)).trans hx228_1
                       have HR228_1:=Aside0.mk hi228_1
                       have HC228_1:=Aside0.mk hl228_1
                       clear hi228_1 hl228_1
                       replace p228:=eq_true p228
                       replace q228:=eq_true q228
                       go_wp2
                       repeat (go_quiet (fail);try go_wp2)
                       go_ret
                       exact ⟨by first | rfl | (simp [errW_none,errW_some] <;> rfl) | (simp [*,errW_none,errW_some] <;> rfl),by repeat (first | (with_reducible first | exact HB.out | apply below_alloc | apply pw_below_drewN | apply below_drew1 | refine below_set ?_ GE216.out) | exact HB.out)⟩
                   · rw [if_neg c28] at H
                     have c28b0 : decide (0 ≤ (rd (rd_L5 l1 x5_2) x6_3)) = false:=decide_eq_false c28
                     clear c28
                     have H' := Aside0.mk H
                     clear H
                     have p219 : 0 ≤ (x5_2 : Int) := of_decide_eq_true (by first | (with_reducible assumption) | assumption)
                     have q219 : x5_2 < (l1.length : Int) := of_decide_eq_true (by first | (with_reducible assumption) | assumption)
                     obtain ⟨ad219,A219_0,c219_0,e219,hx219_0,hl219_0,hi219_0⟩ := at_L5 HR1.out x5_2 p219 q219
                     obtain rfl : ad218 = ad219:=(by injection e219)
                     replace hx219_0:=(HB.out.cell (World.block_lt_of_cell? w _ hx219_0)).trans hx219_0
                     have HR219_0:=Aside0.mk hi219_0
                     have HC219_0:=Aside0.mk hl219_0
                     clear hi219_0 hl219_0
                     replace p219:=eq_true p219
                     replace q219:=eq_true q219
                     have p220 : 0 ≤ (x5_2 : Int) := of_decide_eq_true (by first | (with_reducible assumption) | assumption)
                     have q220 : x5_2 < (l1.length : Int) := of_decide_eq_true (by first | (with_reducible assumption) | assumption)
                     obtain ⟨ad220,A220_0,c220_0,e220,hx220_0,hl220_0,hi220_0⟩ := at_L5 HR1.out x5_2 p220 q220
                     obtain rfl : ad218 = ad220:=(by injection e220)
                     replace hx220_0:=(HB.out.cell (World.block_lt_of_cell? w _ hx220_0)).trans hx220_0
                     have HR220_0:=Aside0.mk hi220_0
                     have HC220_0:=Aside0.mk hl220_0
                     clear hi220_0 hl220_0
                     replace p220:=eq_true p220
                     replace q220:=eq_true q220
                     have ea_:=Option.some.inj (hx219_0.symm.trans hx220_0)
                     injection ea_ with ea_ en_ ec_
                     subst ea_
                     subst ec_
                     clear en_
                     have p221 : 0 ≤ (x6_3 : Int) := of_decide_eq_true (by first | (with_reducible assumption) | assumption)
                     have q221 : x6_3 < ((rd_L5 l1 x5_2).length : Int) := of_decide_eq_true (by first | (with_reducible assumption) | assumption)
                     obtain ⟨ad221,e221,hx221_0⟩ := Kd.at_int HR220_0.out x6_3 p221 q221
                     cases e221
                     replace hx221_0:=(HB.out.cell (World.block_lt_of_cell? w _ hx221_0)).trans hx221_0
                     replace p221:=eq_true p221
                     replace q221:=eq_true q221
                     have p222 : 0 ≤ (x5_2 : Int) := of_decide_eq_true (by first | (with_reducible assumption) | assumption)
                     have q222 : x5_2 < (l1.length : Int) := of_decide_eq_true (by first | (with_reducible assumption) | assumption)
                     obtain ⟨ad222,A222_0,c222_0,e222,hx222_0,hl222_0,hi222_0⟩ := at_L5 HR1.out x5_2 p222 q222
                     obtain rfl : ad218 = ad222:=(by injection e222)
                     replace hx222_0:=(HB.out.cell (World.block_lt_of_cell? w _ hx222_0)).trans hx222_0
                     have HR222_0:=Aside0.mk hi222_0
                     have HC222_0:=Aside0.mk hl222_0
                     clear hi222_0 hl222_0
                     replace p222:=eq_true p222
                     replace q222:=eq_true q222
                     have ea_:=Option.some.inj (hx219_0.symm.trans hx222_0)
                     injection ea_ with ea_ en_ ec_
                     subst ea_
                     subst ec_
                     clear en_
                     have p223 : 0 ≤ (x6_3 : Int) := of_decide_eq_true (by first | (with_reducible assumption) | assumption)
                     have q223 : x6_3 < ((rd_L5 l1 x5_2).length : Int) := of_decide_eq_true (by first | (with_reducible assumption) | assumption)
                     obtain ⟨ad223,e223,hx223_0⟩ := Kd.at_int HR222_0.out x6_3 p223 q223
                     cases e223
                     replace hx223_0:=(HB.out.cell (World.block_lt_of_cell? w _ hx223_0)).trans hx223_0
                     replace p223:=eq_true p223
                     replace q223:=eq_true q223
                     have hcz34_0 : wr.cell? ⟨gb216,0,none⟩ = some (.slice A0_0 l0_0.length c0_0) := (blk_cell BK216.out 0).trans rfl
                     have hcz34_1 : wr.cell? ⟨gb216,1,none⟩ = some (.slice A0_1 l0_1.length c0_1) := (blk_cell BK216.out 1).trans rfl
                     have hcz34_2 : wr.cell? ⟨gb216,2,none⟩ = some (.int .i64 a0_2) := (blk_cell BK216.out 2).trans rfl
                     have hcz34_3 : wr.cell? ⟨gb216,3,none⟩ = some (.int .i64 a0_3) := (blk_cell BK216.out 3).trans rfl
                     have hcz34_4 : wr.cell? ⟨gb216,4,none⟩ = some (.slice A0_4 l0_4.length c0_4) := (blk_cell BK216.out 4).trans rfl
                     have hfz34_0:=blk_frozen BK216.out 0
                     have hfz34_1:=blk_frozen BK216.out 1
                     have hfz34_2:=blk_frozen BK216.out 2
                     have hfz34_3:=blk_frozen BK216.out 3
                     have hfz34_4:=blk_frozen BK216.out 4
                     have p224 : 0 ≤ (x5_2 : Int) := of_decide_eq_true (by first | (with_reducible assumption) | assumption)
                     have q224 : x5_2 < (l1.length : Int) := of_decide_eq_true (by first | (with_reducible assumption) | assumption)
                     obtain ⟨ad224,A224_0,c224_0,e224,hx224_0,hl224_0,hi224_0⟩ := at_L5 HR1.out x5_2 p224 q224
                     obtain rfl : ad218 = ad224:=(by injection e224)
                     replace hx224_0:=(HB.out.cell (World.block_lt_of_cell? w _ hx224_0)).trans hx224_0
                     have HR224_0:=Aside0.mk hi224_0
                     have HC224_0:=Aside0.mk hl224_0
                     clear hi224_0 hl224_0
                     replace p224:=eq_true p224
                     replace q224:=eq_true q224
                     have ea_:=Option.some.inj (hx219_0.symm.trans hx224_0)
                     injection ea_ with ea_ en_ ec_
                     subst ea_
                     subst ec_
                     clear en_
                     have p225 : 0 ≤ (x6_3 : Int) := of_decide_eq_true (by first | (with_reducible assumption) | assumption)
                     have q225 : x6_3 < ((rd_L5 l1 x5_2).length : Int) := of_decide_eq_true (by first | (with_reducible assumption) | assumption)
                     obtain ⟨ad225,e225,hx225_0⟩ := Kd.at_int HR224_0.out x6_3 p225 q225
                     cases e225
                     replace hx225_0:=(HB.out.cell (World.block_lt_of_cell? w _ hx225_0)).trans hx225_0
                     replace p225:=eq_true p225
                     replace q225:=eq_true q225
                     go_wp2
                     repeat (go_quiet (fail);try go_wp2)
                     go_roundg k3
                     case measure => have:=HJ2.out;have:=HK2.out;have:=HK3.out;omega
                     case rel => exact ⟨(wrap64 (x6_3 + 1)),(by first | rfl | (simp;done) | (simp [*];done)),H',⟨by have:=HJ2.out;have:=HK2.out;have:=HK3.out;omega⟩,⟨by (with_reducible repeat (first | refine blk_drewN ?_ _ | refine blk_drew ?_ | refine blk_alloc ?_ _));exact BK216.out⟩,⟨by repeat (first | (with_reducible first | exact HB.out | apply below_alloc | apply pw_below_drewN | apply below_drew1 | refine below_set ?_ GE216.out) | exact HB.out)⟩⟩
             · rw [if_neg c23] at H
               have c23b0 : decide (x6_3 < ((rd_L5 l1 x5_2).length : Int)) = false:=decide_eq_false c23
               clear c23
               have H' := Aside0.mk H
               clear H
               have p219 : 0 ≤ (x5_2 : Int) := of_decide_eq_true (by first | (with_reducible assumption) | assumption)
               have q219 : x5_2 < (l1.length : Int) := of_decide_eq_true (by first | (with_reducible assumption) | assumption)
               obtain ⟨ad219,A219_0,c219_0,e219,hx219_0,hl219_0,hi219_0⟩ := at_L5 HR1.out x5_2 p219 q219
               obtain rfl : ad218 = ad219:=(by injection e219)
               replace hx219_0:=(HB.out.cell (World.block_lt_of_cell? w _ hx219_0)).trans hx219_0
               have HR219_0:=Aside0.mk hi219_0
               have HC219_0:=Aside0.mk hl219_0
               clear hi219_0 hl219_0
               replace p219:=eq_true p219
               replace q219:=eq_true q219
               go_wp2
               repeat (go_quiet (fail);try go_wp2)
               go_roundg k3
               case measure => have:=HJ2.out;have:=HK2.out;have:=HK3.out;omega
               case rel => exact ⟨(wrap64 (x5_2 + 1)),(by first | rfl | (simp;done) | (simp [*];done)),H',⟨by have:=HJ2.out;have:=HK2.out;have:=HK3.out;omega⟩,⟨by (with_reducible repeat (first | refine blk_drewN ?_ _ | refine blk_drew ?_ | refine blk_alloc ?_ _));exact BK216.out⟩,⟨by repeat (first | (with_reducible first | exact HB.out | apply below_alloc | apply pw_below_drewN | apply below_drew1 | refine below_set ?_ GE216.out) | exact HB.out)⟩⟩
         · rw [if_neg c19] at H
           have c19b0 : (((rd_L5 l1 x5_2).length : Int) == (wrap64 ((l0_1.length : Int) + 1))) = false:=beq_eq_false_iff_ne.mpr c19
           have c19b1 : (((rd_L5 l1 x5_2).length : Int) != (wrap64 ((l0_1.length : Int) + 1))) = true:=bne_iff_ne.mpr c19
           obtain rfl:=Option.some.inj H
           have p218 : 0 ≤ (x5_2 : Int) := of_decide_eq_true (by first | (with_reducible assumption) | assumption)
           have q218 : x5_2 < (l1.length : Int) := of_decide_eq_true (by first | (with_reducible assumption) | assumption)
           obtain ⟨ad218,A218_0,c218_0,e218,hx218_0,hl218_0,hi218_0⟩ := at_L5 HR1.out x5_2 p218 q218
           cases e218
           replace hx218_0:=(HB.out.cell (World.block_lt_of_cell? w _ hx218_0)).trans hx218_0
           have HR218_0:=Aside0.mk hi218_0
           have HC218_0:=Aside0.mk hl218_0
           clear hi218_0 hl218_0
           replace p218:=eq_true p218
           replace q218:=eq_true q218
           have hcz35_0 : wr.cell? ⟨gb216,0,none⟩ = some (.slice A0_0 l0_0.length c0_0) := (blk_cell BK216.out 0).trans rfl
           have hcz35_1 : wr.cell? ⟨gb216,1,none⟩ = some (.slice A0_1 l0_1.length c0_1) := (blk_cell BK216.out 1).trans rfl
           have hcz35_2 : wr.cell? ⟨gb216,2,none⟩ = some (.int .i64 a0_2) := (blk_cell BK216.out 2).trans rfl
           have hcz35_3 : wr.cell? ⟨gb216,3,none⟩ = some (.int .i64 a0_3) := (blk_cell BK216.out 3).trans rfl
           have hcz35_4 : wr.cell? ⟨gb216,4,none⟩ = some (.slice A0_4 l0_4.length c0_4) := (blk_cell BK216.out 4).trans rfl
           have hfz35_0:=blk_frozen BK216.out 0
           have hfz35_1:=blk_frozen BK216.out 1
           have hfz35_2:=blk_frozen BK216.out 2
           have hfz35_3:=blk_frozen BK216.out 3
           have hfz35_4:=blk_frozen BK216.out 4
           go_wp2
           repeat (go_quiet (fail);try go_wp2)
           go_ret
           exact ⟨by first | rfl | (simp [errW_none,errW_some] <;> rfl) | (simp [*,errW_none,errW_some] <;> rfl),by repeat (first | (with_reducible first | exact HB.out | apply below_alloc | apply pw_below_drewN | apply below_drew1 | refine below_set ?_ GE216.out) | exact HB.out)⟩
       · rw [if_neg c17] at H
         have c17b0 : decide (x5_2 < (l1.length : Int)) = false:=decide_eq_false c17
         clear c17
         obtain rfl:=Option.some.inj H
         go_wp2
         repeat (go_quiet (fail);try go_wp2)
         go_ret
         exact ⟨by first | rfl | (simp [errW_none,errW_some] <;> rfl) | (simp [*,errW_none,errW_some] <;> rfl),by repeat (first | (with_reducible first | exact HB.out | apply below_alloc | apply pw_below_drewN | apply below_drew1 | refine below_set ?_ GE216.out) | exact HB.out)⟩
end Go.Proofs.Ytapjfnfengefpaa.P
end

section
namespace Go.Proofs.Ytapjfnfengefpaa.P
open Go.RowKit Go.Proofs.YtapjfnfengefpaaW.PrintWords Go.Proofs.YtapjfnfengefpaaW.PrintLast Go.Proofs.YtapjfnfengefpaaW.PrintMore
set_option linter.unusedVariables false
set_option linter.unusedSimpArgs false
def okSym (nn nt : Nat) (x : S43) : Bool:=decide (0 ≤ x.f1) && (if x.f0 = true then decide (x.f1 < (nt : Int)) else decide (x.f1 < (nn : Int)))
def okProd (nn nt : Nat) (x : S35) : Bool:=decide (0 ≤ x.f0) && decide (x.f0 < (nn : Int)) && x.f1.all (okSym nn nt)
theorem symbols1_any (x : S43) (B : Nat) (W : World) (A0 A1 : Option Addr) (n0 n1 c0 c1 : Nat)
    (h0 : W.cell? ⟨B,0,none⟩ = some (.slice A0 n0 c0)) (h1 : W.cell? ⟨B,1,none⟩ = some (.slice A1 n1 c1)) (hB : B < W.heap.size) :
    Calls Try.prog 61 #[.agg #[.bool x.f0,.int .i64 x.f1],.pointer (some ⟨B,0,none⟩)] W fun e w' => e = .returned (.bool (!okSym n0 n1 x)) ∧ Below W.heap.size W w' := by
 have hne : B ≠ W.heap.size:=by omega
 obtain ⟨b,n⟩ := x
 unfold okSym
 by_cases c0 : n < 0
 · have d0 : decide (n < 0) = true:=decide_eq_true c0
   have d1 : decide (0 ≤ n) = false:=decide_eq_false (by omega)
   cases b <;> (go_enter Try.func61,Try.ntmps61;go_wp2;go_ret;exact ⟨rfl,(Below.refl _ W).alloc (Nat.le_refl _) _⟩)
 have d0 : decide (n < 0) = false:=decide_eq_false c0
 have d1 : decide (0 ≤ n) = true:=decide_eq_true (by omega)
 cases b with
 | true =>
  by_cases c2 : (n1 : Int) ≤ n
  · have d2 : decide ((n1 : Int) ≤ n) = true:=decide_eq_true c2
    have d3 : decide (n < (n1 : Int)) = false:=decide_eq_false (by omega)
    go_enter Try.func61,Try.ntmps61
    go_wp2
    go_ret
    exact ⟨rfl,(Below.refl _ W).alloc (Nat.le_refl _) _⟩
  · have d2 : decide ((n1 : Int) ≤ n) = false:=decide_eq_false c2
    have d3 : decide (n < (n1 : Int)) = true:=decide_eq_true (by omega)
    go_enter Try.func61,Try.ntmps61
    go_wp2
    go_ret
    exact ⟨rfl,(Below.refl _ W).alloc (Nat.le_refl _) _⟩
 | false =>
  by_cases c2 : (n0 : Int) ≤ n
  · have d2 : decide ((n0 : Int) ≤ n) = true:=decide_eq_true c2
    have d3 : decide (n < (n0 : Int)) = false:=decide_eq_false (by omega)
    go_enter Try.func61,Try.ntmps61
    go_wp2
    go_ret
    exact ⟨rfl,(Below.refl _ W).alloc (Nat.le_refl _) _⟩
  · have d2 : decide ((n0 : Int) ≤ n) = false:=decide_eq_false c2
    have d3 : decide (n < (n0 : Int)) = true:=decide_eq_true (by omega)
    go_enter Try.func61,Try.ntmps61
    go_wp2
    go_ret
    exact ⟨rfl,(Below.refl _ W).alloc (Nat.le_refl _) _⟩
theorem indexSym_any (p : S43 → Bool) (g : Nat) (lb : Array Value) (eg : ∀ args w,(callFunc g args).run Try.prog w = .ok (.enter g args) w) (A : Option Addr) (c : Nat) (zs : List S43) (w : World)
    (hr : Kd.C k43 w A zs.length zs) (hbig : zs.length ≤ 9223372036854775807) (hp : ∀ (W : World) (x : S43),x ∈ zs → Below w.heap.size w W → Calls Try.prog g (#[.agg #[.bool x.f0,.int .i64 x.f1]] ++ lb) W fun e w' => e = .returned (.bool (p x)) ∧ Below w.heap.size w w') :
    Calls Try.prog 58 #[.slice A zs.length c,.func (.func g) #[] lb] w fun e w' => (∃ n : Int,e = .returned (.int .i64 n) ∧ Aside0 (decide (0 ≤ n) = zs.any p)) ∧ Below w.heap.size w w' := by
 go_enter Try.func58,Try.ntmps58
 go_wp2
 go_loopg [5,8] zs.length (fun gg _ s8 wr => ∃ kk : Nat,kk ≤ zs.length ∧ zs.length - kk ≤ gg ∧ s8 = .int .i64 kk ∧ Aside0 (Below w.heap.size w wr) ∧ Aside0 ((zs.take kk).any p = false))
 case atStart => exact ⟨0,Nat.zero_le _,by omega,rfl,⟨Below.refl _ w⟩,⟨by simp⟩⟩
 case round =>
  obtain ⟨kk,hkk,hg,rfl,BW,PA⟩ := hrel
  by_cases hlt : kk < zs.length
  · have hltz : (kk : Int) < (zs.length : Int) := by omega
    have hrd : rd_T43 zs (kk : Int) = zs[kk] := by simp [rd_T43,hlt]
    obtain ⟨ad,e,l0,l1⟩ := at_T43 (Kd.C_below hr BW.out) (kk : Int) (by omega) (by omega)
    have hcall:=hp wr zs[kk] (List.getElem_mem hlt) BW.out
    rw [hrd,Int.toNat_natCast] at l0 l1
    subst e
    have PB : Aside0 ((zs.take (kk + 1)).any p = p zs[kk]) := ⟨by rw [List.take_succ_eq_append_getElem hlt,List.any_append,PA.out];simp⟩
    have PC : Aside0 (zs.any p = (p zs[kk] || (zs.drop (kk + 1)).any p)) := ⟨by
     conv => lhs;rw [← List.take_append_drop (kk + 1) zs]
     rw [List.any_append,PB.out]⟩
    clear hp hr hrd
    generalize zs[kk] = y at l0 l1 hcall PB PC
    cases hq : p y with
    | true =>
     rw [hq] at hcall
     have PD : Aside0 (zs.any p = true) := ⟨by rw [PC.out,hq];simp⟩
     clear PA PB PC hq
     go_wp2_with (go_at_fn g;refine hcall.mono ?_;rintro e w' ⟨rfl,hb'⟩)
     go_ret
     exact ⟨⟨_,rfl,⟨by rw [PD.out];simp⟩⟩,hb'⟩
    | false =>
     rw [hq] at hcall
     have PD : Aside0 ((zs.take (kk + 1)).any p = false) := ⟨by rw [PB.out,hq]⟩
     clear PA PB PC hq
     go_wp2_with (go_at_fn g;refine hcall.mono ?_;rintro e w' ⟨rfl,hb'⟩)
     go_roundg (zs.length - (kk + 1))
     case measure => omega
     case rel => exact ⟨kk + 1,by omega,by omega,by go_num,⟨hb'⟩,PD⟩
  · have hltz : ¬ (kk : Int) < (zs.length : Int) := by omega
    have : kk = zs.length:=by omega
    subst this
    have PD : Aside0 (zs.any p = false) := ⟨by have:=PA.out;rwa [List.take_length] at this⟩
    clear PA hp hr
    go_wp2
    go_ret
    exact ⟨⟨-1,rfl,⟨by rw [PD.out];simp⟩⟩,BW.out⟩
theorem containsSym_any (p : S43 → Bool) (g : Nat) (lb : Array Value) (eg : ∀ args w,(callFunc g args).run Try.prog w = .ok (.enter g args) w) (A : Option Addr) (c : Nat) (zs : List S43) (w : World)
    (hr : Kd.C k43 w A zs.length zs) (hbig : zs.length ≤ 9223372036854775807) (hp : ∀ (W : World) (x : S43),x ∈ zs → Below w.heap.size w W → Calls Try.prog g (#[.agg #[.bool x.f0,.int .i64 x.f1]] ++ lb) W fun e w' => e = .returned (.bool (p x)) ∧ Below w.heap.size w w') :
    Calls Try.prog 51 #[.slice A zs.length c,.func (.func g) #[] lb] w fun e w' => e = .returned (.bool (zs.any p)) ∧ Below w.heap.size w w' := by
 have hcon:=indexSym_any p g lb eg A c zs w hr hbig hp
 have e6 : ∀ args w,(callFunc 58 args).run Try.prog w = .ok (.enter 58 args) w:=enters_of Try.func58 (by kernel_rfl) rfl
 clear hp hr
 go_enter Try.func51,Try.ntmps51
 go_wp2_with (go_at_fn 58;refine hcon.mono ?_;rintro e w' ⟨⟨nn_,rfl,hn_⟩,hb'⟩)
 go_ret
 exact ⟨by rw [← hn_.out];rfl,hb'⟩
theorem any_not {α : Type} (p : α → Bool) (l : List α) : (!l.any fun x => !p x) = l.all p:=by
 induction l with
 | nil => rfl
 | cons a l ih => simp only [List.any_cons,List.all_cons,← ih];cases p a <;> simp
def firsts_symbols.f (l0_0 : List ByteArray) (l0_1 : List (S72)) (a0_2 : Int) (a0_3 : Int) (l0_4 : List (S35)) (l1 : List (S43)) : Option Bool:=if l1.length ≤ 9223372036854775807 then some (l1.all (okSym l0_0.length l0_1.length)) else none
theorem firsts_symbols.calls (A0_0 : Option Addr) (c0_0 : Nat) (l0_0 : List ByteArray) (A0_1 : Option Addr) (c0_1 : Nat) (l0_1 : List (S72)) (a0_2 : Int) (a0_3 : Int) (A0_4 : Option Addr) (c0_4 : Nat) (l0_4 : List (S35)) (A1 : Option Addr) (c1 : Nat) (l1 : List (S43)) (r : Bool) (w : World)
    (hr0_0 : Kd.C Kd.string w A0_0 l0_0.length l0_0) (hc0_0 : l0_0.length ≤ c0_0) (hr0_1 : Kd.C k72 w A0_1 l0_1.length l0_1) (hc0_1 : l0_1.length ≤ c0_1) (hr0_4 : Kd.C k35 w A0_4 l0_4.length l0_4) (hc0_4 : l0_4.length ≤ c0_4) (hr1 : Kd.C k43 w A1 l1.length l1) (hc1 : l1.length ≤ c1)
    (h : firsts_symbols.f l0_0 l0_1 a0_2 a0_3 l0_4 l1 = some r) :
    Calls Try.prog 56 #[.agg #[.slice A0_0 l0_0.length c0_0,.slice A0_1 l0_1.length c0_1,.int .i64 a0_2,.int .i64 a0_3,.slice A0_4 l0_4.length c0_4],.slice A1 l1.length c1] w fun e w' => e = .returned (.bool r) ∧ Below w.heap.size w w' := by
 unfold firsts_symbols.f at h
 split at h
 case isFalse => simp at h
 rename_i hbig
 obtain rfl:=Option.some.inj h
 clear h
 have eg : ∀ args w,(callFunc 61 args).run Try.prog w = .ok (.enter 61 args) w:=enters_of Try.func61 (by kernel_rfl) rfl
 have e6 : ∀ args w,(callFunc 51 args).run Try.prog w = .ok (.enter 51 args) w:=enters_of Try.func51 (by kernel_rfl) rfl
 have HW : Aside0 (Below w.heap.size w (w.alloc (.cells #[.slice A0_0 l0_0.length c0_0,.slice A0_1 l0_1.length c0_1,.int .i64 a0_2,.int .i64 a0_3,.slice A0_4 l0_4.length c0_4] 26))) := ⟨(Below.refl _ w).alloc (Nat.le_refl _) _⟩
 have hcon:=containsSym_any (fun x => !okSym l0_0.length l0_1.length x) 61 #[.pointer (some ⟨w.heap.size,0,none⟩)] eg A1 c1 l1 (w.alloc (.cells #[.slice A0_0 l0_0.length c0_0,.slice A0_1 l0_1.length c0_1,.int .i64 a0_2,.int .i64 a0_3,.slice A0_4 l0_4.length c0_4] 26)) (Kd.C_below hr1 HW.out) hbig (fun W x _ hb => by
  have hlt : w.heap.size < (w.alloc (.cells #[.slice A0_0 l0_0.length c0_0,.slice A0_1 l0_1.length c0_1,.int .i64 a0_2,.int .i64 a0_3,.slice A0_4 l0_4.length c0_4] 26)).heap.size:=by simp
  refine (symbols1_any x w.heap.size W A0_0 A0_1 l0_0.length l0_1.length c0_0 c0_1 ?_ ?_ (Nat.lt_of_lt_of_le hlt hb.size)).mono ?_
  · exact (hb.cell (p:=⟨w.heap.size,0,none⟩) hlt).trans (by simp)
  · exact (hb.cell (p:=⟨w.heap.size,1,none⟩) hlt).trans (by simp)
  · rintro e w' ⟨he,hb'⟩
    exact ⟨he,hb.trans (hb'.mono hb.size)⟩)
 clear hr0_0 hr0_1 hr0_4 hr1
 rw [← any_not]
 generalize (l1.any fun x => !okSym l0_0.length l0_1.length x) = rr at hcon ⊢
 go_enter Try.func56,Try.ntmps56
 go_wp2_with (go_at_fn 51;refine hcon.mono ?_;rintro e w' ⟨rfl,hb'⟩)
 go_ret
 exact ⟨rfl,HW.out.trans (hb'.mono (by simp))⟩
theorem indexProd_any (p : S35 → Bool) (g : Nat) (lb : Array Value) (eg : ∀ args w,(callFunc g args).run Try.prog w = .ok (.enter g args) w) (A : Option Addr) (c : Nat) (zs : List S35) (w : World)
    (hr : Kd.C k35 w A zs.length zs) (hbig : zs.length ≤ 9223372036854775807) (hp : ∀ (W : World) (x : S35) (A1 : Option Addr) (c1 : Nat),x ∈ zs → Below w.heap.size w W → x.f1.length ≤ c1 → Kd.C k43 W A1 x.f1.length x.f1 → Calls Try.prog g (#[.agg #[.int .i64 x.f0,.slice A1 x.f1.length c1]] ++ lb) W fun e w' => e = .returned (.bool (p x)) ∧ Below w.heap.size w w') :
    Calls Try.prog 60 #[.slice A zs.length c,.func (.func g) #[] lb] w fun e w' => (∃ n : Int,e = .returned (.int .i64 n) ∧ Aside0 (decide (0 ≤ n) = zs.any p)) ∧ Below w.heap.size w w' := by
 go_enter Try.func60,Try.ntmps60
 go_wp2
 go_loopg [5,8] zs.length (fun gg _ s8 wr => ∃ kk : Nat,kk ≤ zs.length ∧ zs.length - kk ≤ gg ∧ s8 = .int .i64 kk ∧ Aside0 (Below w.heap.size w wr) ∧ Aside0 ((zs.take kk).any p = false))
 case atStart => exact ⟨0,Nat.zero_le _,by omega,rfl,⟨Below.refl _ w⟩,⟨by simp⟩⟩
 case round =>
  obtain ⟨kk,hkk,hg,rfl,BW,PA⟩ := hrel
  by_cases hlt : kk < zs.length
  · have hltz : (kk : Int) < (zs.length : Int) := by omega
    have hrd : rd_T35 zs (kk : Int) = zs[kk] := by simp [rd_T35,hlt]
    obtain ⟨ad,A1,c1,e,l0,l1,hle1,hC1⟩ := at_T35 (Kd.C_below hr BW.out) (kk : Int) (by omega) (by omega)
    have hcall:=hp wr zs[kk] A1 c1 (List.getElem_mem hlt) BW.out (by rw [← hrd];exact hle1) (by rw [← hrd];exact hC1)
    rw [hrd,Int.toNat_natCast] at l0 l1
    subst e
    have PB : Aside0 ((zs.take (kk + 1)).any p = p zs[kk]) := ⟨by rw [List.take_succ_eq_append_getElem hlt,List.any_append,PA.out];simp⟩
    have PC : Aside0 (zs.any p = (p zs[kk] || (zs.drop (kk + 1)).any p)) := ⟨by
     conv => lhs;rw [← List.take_append_drop (kk + 1) zs]
     rw [List.any_append,PB.out]⟩
    clear hp hr hrd hle1 hC1
    generalize zs[kk] = y at l0 l1 hcall PB PC
    cases hq : p y with
    | true =>
     rw [hq] at hcall
     have PD : Aside0 (zs.any p = true) := ⟨by rw [PC.out,hq];simp⟩
     clear PA PB PC hq
     go_wp2_with (go_at_fn g;refine hcall.mono ?_;rintro e w' ⟨rfl,hb'⟩)
     go_ret
     exact ⟨⟨_,rfl,⟨by rw [PD.out];simp⟩⟩,hb'⟩
    | false =>
     rw [hq] at hcall
     have PD : Aside0 ((zs.take (kk + 1)).any p = false) := ⟨by rw [PB.out,hq]⟩
     clear PA PB PC hq
     go_wp2_with (go_at_fn g;refine hcall.mono ?_;rintro e w' ⟨rfl,hb'⟩)
     go_roundg (zs.length - (kk + 1))
     case measure => omega
     case rel => exact ⟨kk + 1,by omega,by omega,by go_num,⟨hb'⟩,PD⟩
  · have hltz : ¬ (kk : Int) < (zs.length : Int) := by omega
    have : kk = zs.length:=by omega
    subst this
    have PD : Aside0 (zs.any p = false) := ⟨by have:=PA.out;rwa [List.take_length] at this⟩
    clear PA hp hr
    go_wp2
    go_ret
    exact ⟨⟨-1,rfl,⟨by rw [PD.out];simp⟩⟩,BW.out⟩
theorem containsProd_any (p : S35 → Bool) (g : Nat) (lb : Array Value) (eg : ∀ args w,(callFunc g args).run Try.prog w = .ok (.enter g args) w) (A : Option Addr) (c : Nat) (zs : List S35) (w : World)
    (hr : Kd.C k35 w A zs.length zs) (hbig : zs.length ≤ 9223372036854775807) (hp : ∀ (W : World) (x : S35) (A1 : Option Addr) (c1 : Nat),x ∈ zs → Below w.heap.size w W → x.f1.length ≤ c1 → Kd.C k43 W A1 x.f1.length x.f1 → Calls Try.prog g (#[.agg #[.int .i64 x.f0,.slice A1 x.f1.length c1]] ++ lb) W fun e w' => e = .returned (.bool (p x)) ∧ Below w.heap.size w w') :
    Calls Try.prog 54 #[.slice A zs.length c,.func (.func g) #[] lb] w fun e w' => e = .returned (.bool (zs.any p)) ∧ Below w.heap.size w w' := by
 have hcon:=indexProd_any p g lb eg A c zs w hr hbig hp
 have e6 : ∀ args w,(callFunc 60 args).run Try.prog w = .ok (.enter 60 args) w:=enters_of Try.func60 (by kernel_rfl) rfl
 clear hp hr
 go_enter Try.func54,Try.ntmps54
 go_wp2_with (go_at_fn 60;refine hcon.mono ?_;rintro e w' ⟨⟨nn_,rfl,hn_⟩,hb'⟩)
 go_ret
 exact ⟨by rw [← hn_.out];rfl,hb'⟩
theorem Right1_any (x : S35) (A1 : Option Addr) (c1 : Nat) (B : Nat) (W : World) (A0_0 : Option Addr) (c0_0 : Nat) (l0_0 : List ByteArray) (A0_1 : Option Addr) (c0_1 : Nat) (l0_1 : List (S72)) (a0_2 : Int) (a0_3 : Int) (A0_4 : Option Addr) (c0_4 : Nat) (l0_4 : List (S35))
    (hr0_0 : Kd.C Kd.string W A0_0 l0_0.length l0_0) (hc0_0 : l0_0.length ≤ c0_0) (hr0_1 : Kd.C k72 W A0_1 l0_1.length l0_1) (hc0_1 : l0_1.length ≤ c0_1) (hr0_4 : Kd.C k35 W A0_4 l0_4.length l0_4) (hc0_4 : l0_4.length ≤ c0_4)
    (hb : W.heap[B]? = some (.cells #[.slice A0_0 l0_0.length c0_0,.slice A0_1 l0_1.length c0_1,.int .i64 a0_2,.int .i64 a0_3,.slice A0_4 l0_4.length c0_4] 26 (0,0)))
    (hle : x.f1.length ≤ c1) (hbig : x.f1.length ≤ 9223372036854775807) (hC : Kd.C k43 W A1 x.f1.length x.f1) :
    Calls Try.prog 55 #[.agg #[.int .i64 x.f0,.slice A1 x.f1.length c1],.pointer (some ⟨B,0,none⟩)] W fun e w' => e = .returned (.bool (!okProd l0_0.length l0_1.length x)) ∧ Below W.heap.size W w' := by
 have hB:=blk_lt hb
 have hne : B ≠ W.heap.size:=by omega
 have q0 : W.cell? ⟨B,0,none⟩ = some (.slice A0_0 l0_0.length c0_0) := (blk_cell hb 0).trans rfl
 have q1 : W.cell? ⟨B,1,none⟩ = some (.slice A0_1 l0_1.length c0_1) := (blk_cell hb 1).trans rfl
 have q2 : W.cell? ⟨B,2,none⟩ = some (.int .i64 a0_2) := (blk_cell hb 2).trans rfl
 have q3 : W.cell? ⟨B,3,none⟩ = some (.int .i64 a0_3) := (blk_cell hb 3).trans rfl
 have q4 : W.cell? ⟨B,4,none⟩ = some (.slice A0_4 l0_4.length c0_4) := (blk_cell hb 4).trans rfl
 clear hb
 obtain ⟨n,l⟩ := x
 simp only at hle hbig hC ⊢
 have hcon:=firsts_symbols.calls A0_0 c0_0 l0_0 A0_1 c0_1 l0_1 a0_2 a0_3 A0_4 c0_4 l0_4 A1 c1 l (l.all (okSym l0_0.length l0_1.length)) (W.alloc (.cells #[.int .i64 n,.slice A1 l.length c1] 35))
   (Kd.C_below hr0_0 ((Below.refl _ W).alloc (Nat.le_refl _) _)) hc0_0 (Kd.C_below hr0_1 ((Below.refl _ W).alloc (Nat.le_refl _) _)) hc0_1 (Kd.C_below hr0_4 ((Below.refl _ W).alloc (Nat.le_refl _) _)) hc0_4 (Kd.C_below hC ((Below.refl _ W).alloc (Nat.le_refl _) _)) hle (by unfold firsts_symbols.f;rw [if_pos hbig])
 unfold okProd
 generalize l.all (okSym l0_0.length l0_1.length) = rr at hcon ⊢
 clear hr0_0 hr0_1 hr0_4 hC
 by_cases d0 : n < 0
 · have e0 : decide (n < 0) = true:=decide_eq_true d0
   have e1 : decide (0 ≤ n) = false:=decide_eq_false (by omega)
   go_enter Try.func55,Try.ntmps55
   go_wp2
   go_ret
   exact ⟨by first | rfl | (rw [e1];rfl),(Below.refl _ W).alloc (Nat.le_refl _) _⟩
 · have e0 : decide (n < 0) = false:=decide_eq_false d0
   have e1 : decide (0 ≤ n) = true:=decide_eq_true (by omega)
   by_cases d2 : (l0_0.length : Int) ≤ n
   · have e2 : decide ((l0_0.length : Int) ≤ n) = true:=decide_eq_true d2
     have e3 : decide (n < (l0_0.length : Int)) = false:=decide_eq_false (by omega)
     go_enter Try.func55,Try.ntmps55
     go_wp2
     go_ret
     exact ⟨by first | rfl | (rw [e1,e3];rfl),(Below.refl _ W).alloc (Nat.le_refl _) _⟩
   · have e2 : decide ((l0_0.length : Int) ≤ n) = false:=decide_eq_false d2
     have e3 : decide (n < (l0_0.length : Int)) = true:=decide_eq_true (by omega)
     go_enter Try.func55,Try.ntmps55
     go_wp2_with (go_at_call 56;refine hcon.mono ?_;rintro e w' ⟨rfl,hb'⟩)
     go_ret
     exact ⟨by first | (rw [e1,e3];simp;done) | simp,((Below.refl _ W).alloc (Nat.le_refl _) _).trans (hb'.mono (by simp))⟩
def firsts_Right.f (l0_0 : List ByteArray) (l0_1 : List (S72)) (a0_2 : Int) (a0_3 : Int) (l0_4 : List (S35)) : Option Bool:=if l0_4.length ≤ 9223372036854775807 ∧ l0_4.all (fun p => decide (p.f1.length ≤ 9223372036854775807)) = true then some (l0_4.all (okProd l0_0.length l0_1.length)) else none
theorem firsts_Right.calls (A0_0 : Option Addr) (c0_0 : Nat) (l0_0 : List ByteArray) (A0_1 : Option Addr) (c0_1 : Nat) (l0_1 : List (S72)) (a0_2 : Int) (a0_3 : Int) (A0_4 : Option Addr) (c0_4 : Nat) (l0_4 : List (S35)) (r : Bool) (w : World)
    (hr0_0 : Kd.C Kd.string w A0_0 l0_0.length l0_0) (hc0_0 : l0_0.length ≤ c0_0) (hr0_1 : Kd.C k72 w A0_1 l0_1.length l0_1) (hc0_1 : l0_1.length ≤ c0_1) (hr0_4 : Kd.C k35 w A0_4 l0_4.length l0_4) (hc0_4 : l0_4.length ≤ c0_4)
    (h : firsts_Right.f l0_0 l0_1 a0_2 a0_3 l0_4 = some r) :
    Calls Try.prog 39 #[.agg #[.slice A0_0 l0_0.length c0_0,.slice A0_1 l0_1.length c0_1,.int .i64 a0_2,.int .i64 a0_3,.slice A0_4 l0_4.length c0_4]] w fun e w' => e = .returned (.bool r) ∧ Below w.heap.size w w' := by
 unfold firsts_Right.f at h
 split at h
 case isFalse => simp at h
 rename_i hbig
 obtain ⟨hbig,hrow⟩ := hbig
 obtain rfl:=Option.some.inj h
 clear h
 have eg : ∀ args w,(callFunc 55 args).run Try.prog w = .ok (.enter 55 args) w:=enters_of Try.func55 (by kernel_rfl) rfl
 have e6 : ∀ args w,(callFunc 54 args).run Try.prog w = .ok (.enter 54 args) w:=enters_of Try.func54 (by kernel_rfl) rfl
 have HW : Aside0 (Below w.heap.size w (w.alloc (.cells #[.slice A0_0 l0_0.length c0_0,.slice A0_1 l0_1.length c0_1,.int .i64 a0_2,.int .i64 a0_3,.slice A0_4 l0_4.length c0_4] 26))) := ⟨(Below.refl _ w).alloc (Nat.le_refl _) _⟩
 have hcon:=containsProd_any (fun x => !okProd l0_0.length l0_1.length x) 55 #[.pointer (some ⟨w.heap.size,0,none⟩)] eg A0_4 c0_4 l0_4 (w.alloc (.cells #[.slice A0_0 l0_0.length c0_0,.slice A0_1 l0_1.length c0_1,.int .i64 a0_2,.int .i64 a0_3,.slice A0_4 l0_4.length c0_4] 26)) (Kd.C_below hr0_4 HW.out) hbig (fun W x A1 c1 hx hb hle hC => by
  have hlt : w.heap.size < (w.alloc (.cells #[.slice A0_0 l0_0.length c0_0,.slice A0_1 l0_1.length c0_1,.int .i64 a0_2,.int .i64 a0_3,.slice A0_4 l0_4.length c0_4] 26)).heap.size:=by simp
  have hall:=HW.out.trans (hb.mono (by simp))
  refine (Right1_any x A1 c1 w.heap.size W A0_0 c0_0 l0_0 A0_1 c0_1 l0_1 a0_2 a0_3 A0_4 c0_4 l0_4 (Kd.C_below hr0_0 hall) hc0_0 (Kd.C_below hr0_1 hall) hc0_1 (Kd.C_below hr0_4 hall) hc0_4 ((hb.block _ hlt).trans (by simpa using heap_alloc_new w _)) hle (of_decide_eq_true (List.all_eq_true.1 hrow x hx)) hC).mono ?_
  rintro e w' ⟨he,hb'⟩
  exact ⟨he,hb.trans (hb'.mono hb.size)⟩)
 clear hr0_0 hr0_1 hr0_4
 rw [← any_not]
 generalize (l0_4.any fun x => !okProd l0_0.length l0_1.length x) = rr at hcon ⊢
 go_enter Try.func39,Try.ntmps39
 go_wp2_with (go_at_fn 54;refine hcon.mono ?_;rintro e w' ⟨rfl,hb'⟩)
 go_ret
 exact ⟨rfl,HW.out.trans (hb'.mono (by simp))⟩
end Go.Proofs.Ytapjfnfengefpaa.P
end

section
namespace Go.Proofs.Ytapjfnfengefpaa.H
open Go.RowKit Go.Proofs.YtapjfnfengefpaaW.PrintWords Go.Proofs.YtapjfnfengefpaaW.PrintLast Go.Proofs.YtapjfnfengefpaaW.PrintMore
theorem Ev.pos {α : Type} {c : Prop} [Decidable c] {f g : Nat → Option α} {r : α} (h : c) (k : Ev f r) : Ev (fun n => if c then f n else g n) r :=
  Ev.congr (fun _ => if_pos h) k
theorem Ev.neg {α : Type} {c : Prop} [Decidable c] {f g : Nat → Option α} {r : α} (h : ¬ c) (k : Ev g r) : Ev (fun n => if c then f n else g n) r :=
  Ev.congr (fun _ => if_neg h) k
theorem Ev.some {α : Type} {r s : α} (h : r = s) : Ev (fun _ => Option.some r) s:=h ▸ Ev.now r
theorem Ev.bind0 {α β : Type} {g : Option α} {f : Nat → α → Option β} {a : α} {r : β} (h : g = Option.some a) (k : Ev (fun n => f n a) r) : Ev (fun n => g.bind (f n)) r :=
  Ev.congr (fun _ => by rw [h];rfl) k
theorem Ev.val {α : Type} {g : Nat → Option α} {r s : α} (h : Ev g r) (e : r = s) : Ev g s:=e ▸ h
theorem wrap64_id {x : Int} (h0 : -9223372036854775808 ≤ x) (h1 : x ≤ 9223372036854775807) : wrap64 x = x:=by
 unfold wrap64;omega
end Go.Proofs.Ytapjfnfengefpaa.H
end
