/- Packed texts of this claim: the walks of the functions, and their plain laws; see the claim's last text. -/
import Derived.WalkMore
import Derived.Deep.AppendLies
import Derived.Deep.Cut
import Derived.Deep.CutRange
import Derived.Shelf.Abstract
import Derived.Test.YtfdcfihcfegekaaKPredictTakes2
section
namespace Go.Proofs.Ytfdcfihcfegekaa.M
open Go.RowKit Go.Proofs.YtfdcfihcfegekaaW.PrintWords Go.Proofs.YtfdcfihcfegekaaW.PrintLast Go.Proofs.YtfdcfihcfegekaaW.PrintMore Go.Proofs.Ytfdcfihcfegekaa.P Go.Proofs.Ytfdcfihcfegekaa.H
set_option linter.unusedVariables false
set_option linter.unusedSimpArgs false
def Sh (nn nt : Nat) (m : List (List Bool)) : Prop:=m.length = nn ∧ ∀ r ∈ m,r.length = nt + 1
theorem Sh.get {nn nt : Nat} {m : List (List Bool)} (h : Sh nn nt m) {i : Nat} (hi : i < nn) : (m.getD i []).length = nt + 1:=by
 have hi' : i < m.length:=by rw [h.1];exact hi
 rw [List.getD_eq_getElem?_getD,List.getElem?_eq_getElem hi']
 exact h.2 _ (List.getElem_mem hi')
theorem Sh.set {nn nt : Nat} {m : List (List Bool)} (h : Sh nn nt m) (i : Nat) {r : List Bool} (hr : r.length = nt + 1) : Sh nn nt (m.set i r) :=
  ⟨by rw [List.length_set];exact h.1,fun r' hr' => by
    rcases List.mem_or_eq_of_mem_set hr' with h1 | rfl
    · exact h.2 _ h1
    · exact hr⟩
def bg (em : List Bool) (first : List (List Bool)) : List Sym → List Bool → List Bool × Bool
  | [],out => (out,true)
  | x :: l,out => if x.f0 = true then (out.set x.f1.toNat true,false) else
      if em.getD x.f1.toNat false = true then bg em first l (orL out (first.getD x.f1.toNat [])) else (orL out (first.getD x.f1.toNat []),false)
theorem bg_length (em : List Bool) {first : List (List Bool)} {nn nt : Nat} (hs : Sh nn nt first) : ∀ (l : List Sym) (out : List Bool),l.all (okSym nn nt) = true → out.length = nt + 1 → (bg em first l out).1.length = nt + 1
  | [],out,_,h => h
  | x :: l,out,hl,h => by
    simp only [List.all_cons,Bool.and_eq_true] at hl
    unfold bg
    split
    · simpa using h
    · rename_i hx
      have hn : x.f1.toNat < nn:=by
        have:=hl.1
        simp only [okSym,hx,if_neg,Bool.and_eq_true,decide_eq_true_eq] at this
        simp at this
        omega
      have ho : (orL out (first.getD x.f1.toNat [])).length = nt + 1:=by rw [orL_length (by rw [h,hs.get hn]),h]
      split
      · exact bg_length em hs l _ hl.2 ho
      · exact ho
theorem okSym_tok {nn nt : Nat} {x : Sym} (h : okSym nn nt x = true) (hx : x.f0 = true) : 0 ≤ x.f1 ∧ x.f1 < (nt : Int) := by
 simp only [okSym,hx,if_pos,Bool.and_eq_true,decide_eq_true_eq] at h;exact h
theorem okSym_rule {nn nt : Nat} {x : Sym} (h : okSym nn nt x = true) (hx : x.f0 = false) : 0 ≤ x.f1 ∧ x.f1 < (nn : Int) := by
 simp [okSym,hx] at h;exact h
theorem begins_l0_ev {nn nt : Nat} {em : List Bool} {first : List (List Bool)} (hs : Sh nn nt first) (he : em.length = nn) (hnt : nt ≤ 1000) : ∀ (l pre : List Sym) (out : List Bool),l.all (okSym nn nt) = true → out.length = nt + 1 → pre.length + l.length ≤ 1000000 → Ev (fun k => begins_l0 em first (pre ++ l) k out (pre.length : Int)) (bg em first l out)
  | [],pre,out,_,_,_ => Ev.step (fun k => by rw [begins_l0]) (Ev.neg (by simp) (Ev.some (by simp [bg])))
  | x :: l,pre,out,hl,ho,h3 => by
    simp only [List.all_cons,Bool.and_eq_true] at hl
    simp only [List.length_cons] at h3
    have ih:=fun out ho => begins_l0_ev hs he hnt l (pre ++ [x]) out hl.2 ho (by simp;omega)
    simp only [← wrap_next pre _ (show pre.length ≤ 1000000 by omega),List.append_assoc,List.singleton_append] at ih
    have e : rd_T53 (pre ++ x :: l) (pre.length : Int) = x:=getD_mid _ pre x l _ rfl
    refine Ev.step (fun k => by rw [begins_l0]) ?_
    rw [e]
    refine Ev.pos (by simp;omega) (Ev.pos (by omega) ?_)
    cases hx : x.f0 with
    | true =>
      have hb:=okSym_tok hl.1 hx
      exact Ev.pos rfl (Ev.pos hb.1 (Ev.pos (by omega) (Ev.some (by simp [bg,hx]))))
    | false =>
      have hb:=okSym_rule hl.1 hx
      have hr:=hs.get (i:=x.f1.toNat) (by omega)
      have hs1:=hs.1
      refine Ev.neg (by simp) (Ev.pos hb.1 (Ev.pos (by omega) (Ev.bind (add_ev out _ (by rw [ho,hr]) (by omega)) (Ev.pos (by omega) ?_))))
      have e2 : rdOf false em x.f1 = em.getD x.f1.toNat false:=rfl
      rw [e2]
      cases hem : em.getD x.f1.toNat false with
      | true => exact Ev.pos rfl (Ev.val (ih _ (by rw [orL_length (by rw [ho,hr]),ho])) (by rw [bg,hx,if_neg (by simp),hem,if_pos rfl]))
      | false => exact Ev.neg (by simp) (Ev.some (by rw [bg,hx,if_neg (by simp),hem,if_neg (by simp)]))
def none0 (nt : Nat) : List Bool:=List.replicate (nt + 1) false
theorem begins_ev {nn nt : Nat} {em : List Bool} {first : List (List Bool)} (hs : Sh nn nt first) (he : em.length = nn) (hnt : nt ≤ 1000) (l : List Sym) (hl : l.all (okSym nn nt) = true) (h3 : l.length ≤ 1000000) : Ev (fun k => begins_f k nt em first l) (bg em first l (none0 nt)) := by
 have h:=begins_l0_ev hs he hnt l [] (List.replicate (nt + 1) false) hl (by simp) (by simpa using h3)
 exact Ev.congr (fun k => by rw [begins_f,if_pos (by omega)]) (by simpa [none0] using h)
def gIn {σ : Type} (stp : σ → Prod → Bool × σ) : List Prod → Bool → σ → Bool × σ
  | [],ag,st => (ag,st)
  | p :: ps,ag,st => gIn stp ps ((stp st p).1 || ag) (stp st p).2
def gOut {σ : Type} (stp : σ → Prod → Bool × σ) (ps : List Prod) : Nat → σ → σ
  | 0,st => (gIn stp ps false st).2
  | n + 1,st => if (gIn stp ps false st).1 = true then gOut stp ps n (gIn stp ps false st).2 else (gIn stp ps false st).2
def Good {σ : Type} (I : σ → Prop) (μ : σ → Nat) (stp : σ → Prod → Bool × σ) (ps : List Prod) : Prop :=
  ∀ st p,I st → p ∈ ps → I (stp st p).2 ∧ μ (stp st p).2 ≤ μ st ∧ ((stp st p).1 = true → μ (stp st p).2 < μ st)
theorem gIn_good {σ : Type} {I : σ → Prop} {μ : σ → Nat} {stp : σ → Prod → Bool × σ} : ∀ {ps : List Prod},Good I μ stp ps → ∀ (ag : Bool) (st : σ),I st → I (gIn stp ps ag st).2 ∧ μ (gIn stp ps ag st).2 ≤ μ st ∧ ((gIn stp ps ag st).1 = true → ag = true ∨ μ (gIn stp ps ag st).2 < μ st)
  | [],_,ag,st,h => ⟨h,Nat.le_refl _,fun h => .inl h⟩
  | p :: ps,hg,ag,st,h => by
    obtain ⟨h1,h2,h3⟩ := hg st p h List.mem_cons_self
    obtain ⟨h4,h5,h6⟩ := gIn_good (fun st p hI hp => hg st p hI (List.mem_cons_of_mem _ hp)) ((stp st p).1 || ag) _ h1
    refine ⟨h4,Nat.le_trans h5 h2,fun h => ?_⟩
    rcases h6 h with h7 | h7
    · rcases (Bool.or_eq_true _ _).mp h7 with h8 | h8
      · exact .inr (Nat.lt_of_le_of_lt h5 (h3 h8))
      · exact .inl h8
    · exact .inr (Nat.lt_of_lt_of_le h7 h2)
theorem gOut_I {σ : Type} {I : σ → Prop} {μ : σ → Nat} {stp : σ → Prod → Bool × σ} {ps : List Prod} (hg : Good I μ stp ps) : ∀ (n : Nat) (st : σ),I st → I (gOut stp ps n st)
  | 0,st,h => (gIn_good hg false st h).1
  | n + 1,st,h => by
    unfold gOut
    split
    · exact gOut_I hg n _ (gIn_good hg false st h).1
    · exact (gIn_good hg false st h).1
theorem growIn_ev {σ : Type} {I : σ → Prop} {μ : σ → Nat} {stp : σ → Prod → Bool × σ} {f : Nat → σ → Prod → Option (Bool × σ)} : ∀ {ps : List Prod},Good I μ stp ps → (∀ st p,I st → p ∈ ps → Ev (fun k => f k st p) (stp st p)) → ∀ (ag : Bool) (st : σ),I st → Ev (fun k => growIn (f k) ps ag st) (gIn stp ps ag st)
  | [],_,_,ag,st,_ => Ev.congr (fun k => by rw [growIn]) (Ev.some (by rw [gIn]))
  | p :: ps,hg,hf,ag,st,h => by
    refine Ev.congr (fun k => by rw [growIn]) (Ev.bind (hf st p h List.mem_cons_self) ?_)
    exact Ev.val (growIn_ev (fun st p hI hp => hg st p hI (List.mem_cons_of_mem _ hp)) (fun st p hI hp => hf st p hI (List.mem_cons_of_mem _ hp)) _ _ (hg st p h List.mem_cons_self).1) (by rw [gIn])
theorem out_ev {σ : Type} {I : σ → Prop} {μ : σ → Nat} {stp : σ → Prod → Bool × σ} {ps : List Prod} (hg : Good I μ stp ps) (g : Nat → Nat → σ → Option σ) (b : Nat → σ → Option (Bool × σ)) (hb : ∀ st,I st → Ev (fun k => b k st) (gIn stp ps false st))
    (hgs : ∀ kk k st,g kk (k + 1) st = (b kk st).bind fun r => if r.1 = true then g kk k r.2 else some r.2) : ∀ (n : Nat) (st : σ),I st → μ st ≤ n → ∃ K,∀ kk,K ≤ kk → ∀ k,K ≤ k → g kk k st = some (gOut stp ps n st)
  | n,st,h,hn => by
    obtain ⟨K1,hK1⟩ := hb st h
    obtain ⟨h1,h2,h3⟩ := gIn_good hg false st h
    cases hr : (gIn stp ps false st).1 with
    | false =>
      refine ⟨K1 + 1,fun kk hkk k hk => ?_⟩
      obtain ⟨k',rfl⟩ : ∃ k',k = k' + 1:=⟨k - 1,by omega⟩
      rw [hgs,show b kk st = _ from hK1 kk (by omega)]
      simp only [Option.bind_some,hr]
      cases n <;> simp [gOut,hr]
    | true =>
      have hlt : μ (gIn stp ps false st).2 < μ st:=(h3 hr).resolve_left (by simp)
      cases n with
      | zero => omega
      | succ n =>
        obtain ⟨K2,hK2⟩ := out_ev hg g b hb hgs n _ h1 (by omega)
        refine ⟨max K1 K2 + 1,fun kk hkk k hk => ?_⟩
        obtain ⟨k',rfl⟩ : ∃ k',k = k' + 1:=⟨k - 1,by omega⟩
        rw [hgs,show b kk st = _ from hK1 kk (by omega)]
        simp only [Option.bind_some,hr,if_true]
        rw [hK2 kk (by omega) k' (by omega),gOut,if_pos hr]
theorem growOut_ev {σ : Type} {I : σ → Prop} {μ : σ → Nat} {stp : σ → Prod → Bool × σ} {ps : List Prod} (hg : Good I μ stp ps) (f : Nat → σ → Prod → Option (Bool × σ)) (hf : ∀ st p,I st → p ∈ ps → Ev (fun k => f k st p) (stp st p)) (n : Nat) (st : σ) (h : I st) (hn : μ st ≤ n) : Ev (fun k => growOut (f k) ps k st) (gOut stp ps n st) := by
 obtain ⟨K,hK⟩ := out_ev hg (fun kk k st => growOut (f kk) ps k st) (fun kk st => growIn (f kk) ps false st) (fun st h => growIn_ev hg hf false st h) (fun kk k st => by rw [growOut]) n st h hn
 exact ⟨K,fun k hk => hK k hk k hk⟩
def cf : List Bool → Nat
  | [] => 0
  | x :: a => (if x = true then 0 else 1) + cf a
theorem cf_orL : ∀ (a b : List Bool),a.length = b.length → cf (orL a b) ≤ cf a ∧ (moreL a b = true → cf (orL a b) < cf a)
  | [],[],_ => by simp [orL,cf,moreL]
  | x :: a,y :: b,h => by
    obtain ⟨h1,h2⟩ := cf_orL a b (by simpa using h)
    have e : orL (x :: a) (y :: b) = (x || y) :: orL a b:=rfl
    rw [e]
    cases x <;> cases y <;> simp [cf,moreL] <;> first | exact ⟨h1,h2⟩ | (refine ⟨by omega,fun h => ?_⟩;have:=h2 h;omega) | omega
theorem cf_set : ∀ (a : List Bool) (i : Nat),i < a.length → a.getD i false = false → cf (a.set i true) < cf a
  | x :: a,0,_,h => by
    have : x = false:=by simpa using h
    subst this;simp [cf]
  | x :: a,i + 1,hi,h => by
    have:=cf_set a i (by simpa using hi) (by simpa using h)
    simp only [List.set_cons_succ,cf];omega
def cfs : List (List Bool) → Nat
  | [] => 0
  | r :: m => cf r + cfs m
theorem cfs_set : ∀ (m : List (List Bool)) (i : Nat) (r : List Bool),i < m.length → cf r ≤ cf (m.getD i []) → cfs (m.set i r) ≤ cfs m ∧ (cf r < cf (m.getD i []) → cfs (m.set i r) < cfs m)
  | x :: m,0,r,_,h => by
    simp only [List.getD_cons_zero,List.set_cons_zero,cfs] at h ⊢
    omega
  | x :: m,i + 1,r,hi,h => by
    have:=cfs_set m i r (by simpa using hi) (by simpa using h)
    simp only [List.getD_cons_succ,List.set_cons_succ,cfs] at h ⊢
    omega
def Small (ps : List Prod) : Prop:=ps.length ≤ 1000000 ∧ ∀ p ∈ ps,p.f1.length ≤ 1000000
theorem firstsRight_val (l0 : List ByteArray) (l1 : List Tok) (a2 a3 : Int) (l4 : List Prod) (h : Small l4) : firsts_Right.f l0 l1 a2 a3 l4 = some (l4.all (okProd l0.length l1.length)) := by
 unfold firsts_Right.f
 rw [if_pos ⟨by have:=h.1;omega,by rw [List.all_eq_true];intro p hp;have:=h.2 p hp;exact decide_eq_true (by omega)⟩]
def cNew (token : Bool) (out : List Bool) (p : Prod) : Bool := !(p.f1.any (oddP token out)) && !(out.getD p.f0.toNat false)
def cStep (token : Bool) (out : List Bool) (p : Prod) : Bool × List Bool:=(cNew token out p,if cNew token out p = true then out.set p.f0.toNat true else out)
theorem closedStep_val (token : Bool) (out : List Bool) (p : Prod) : closedStep token out p = some (cStep token out p) := by
 have e : rdOf false out p.f0 = out.getD p.f0.toNat false:=rfl
 unfold closedStep cStep cNew
 rw [e]
 cases out.getD p.f0.toNat false <;> cases p.f1.any (oddP token out) <;> rfl
theorem okProd_left {nn nt : Nat} {p : Prod} (h : okProd nn nt p = true) : 0 ≤ p.f0 ∧ p.f0 < (nn : Int) := by
 simp only [okProd,Bool.and_eq_true,decide_eq_true_eq] at h;exact h.1
theorem okProd_right {nn nt : Nat} {p : Prod} (h : okProd nn nt p = true) : p.f1.all (okSym nn nt) = true:=by
 simp only [okProd,Bool.and_eq_true,decide_eq_true_eq] at h;exact h.2
theorem cStep_good (nn nt : Nat) (token : Bool) {ps : List Prod} (hps : ps.all (okProd nn nt) = true) : Good (fun out : List Bool => out.length = nn) cf (cStep token) ps:=by
 intro st p hI hp
 have hl:=okProd_left (List.all_eq_true.1 hps p hp)
 unfold cStep
 simp only
 cases hc : cNew token st p with
 | false => simp [hI]
 | true =>
  have h0 : st.getD p.f0.toNat false = false:=by
   simp only [cNew,Bool.and_eq_true,Bool.not_eq_true'] at hc;exact hc.2
  have h:=cf_set st p.f0.toNat (by omega) h0
  simp only [if_true]
  exact ⟨by simpa using hI,Nat.le_of_lt h,fun _ => h⟩
def clo (token : Bool) (nn : Nat) (ps : List Prod) : List Bool:=gOut (cStep token) ps (cf (List.replicate nn false)) (List.replicate nn false)
theorem clo_length (nn nt : Nat) (token : Bool) {ps : List Prod} (hps : ps.all (okProd nn nt) = true) : (clo token nn ps).length = nn :=
  gOut_I (cStep_good nn nt token hps) _ _ (by simp)
theorem closed_ev (l0 : List ByteArray) (l1 : List Tok) (a2 a3 : Int) (l4 : List Prod) (h : Small l4) (hn : l0.length ≤ 1000000) (token : Bool) : Ev (fun k => firsts_closed.f k l0 l1 a2 a3 l4 token) (if l4.all (okProd l0.length l1.length) = true then clo token l0.length l4 else []) := by
 refine Ev.congr (fun k => by rw [firsts_closed.f]) (Ev.bind0 (firstsRight_val l0 l1 a2 a3 l4 h) ?_)
 cases hr : l4.all (okProd l0.length l1.length) with
 | false => exact Ev.neg (by simp) (Ev.some (by simp))
 | true =>
  rw [if_pos rfl]
  refine Ev.pos rfl (Ev.pos (by omega) ?_)
  exact growOut_ev (cStep_good l0.length l1.length token hr) (fun _ => closedStep token) (fun st p _ _ => Ev.some' (closedStep_val token st p)) _ _ (by simp) (Nat.le_refl _)
theorem empty_ev (l0 : List ByteArray) (l1 : List Tok) (a2 a3 : Int) (l4 : List Prod) (h : Small l4) (hn : l0.length ≤ 1000000) : Ev (fun k => firsts_Empty.f k l0 l1 a2 a3 l4) (if l4.all (okProd l0.length l1.length) = true then clo false l0.length l4 else []) :=
  Ev.congr (fun k => by rw [firsts_Empty.f]) (Ev.bind (closed_ev l0 l1 a2 a3 l4 h hn false) (Ev.some rfl))
def rows0 (nn nt : Nat) : List (List Bool) := List.replicate nn (none0 nt)
theorem rows0_sh (nn nt : Nat) : Sh nn nt (rows0 nn nt) := ⟨by simp [rows0],fun r hr => by rw [List.eq_of_mem_replicate hr];simp [none0]⟩
def sStep (nt : Nat) (em : List Bool) (m : List (List Bool)) (p : Prod) : Bool × List (List Bool) :=
  (moreL (m.getD p.f0.toNat []) (bg em m p.f1 (none0 nt)).1,m.set p.f0.toNat (orL (m.getD p.f0.toNat []) (bg em m p.f1 (none0 nt)).1))
theorem none0_length (nt : Nat) : (none0 nt).length = nt + 1:=by simp [none0]
theorem row_step {nn nt : Nat} {m : List (List Bool)} (hs : Sh nn nt m) {i : Nat} (hi : i < nn) {b : List Bool} (hb : b.length = nt + 1) : Sh nn nt (m.set i (orL (m.getD i []) b)) ∧ cfs (m.set i (orL (m.getD i []) b)) ≤ cfs m ∧ (moreL (m.getD i []) b = true → cfs (m.set i (orL (m.getD i []) b)) < cfs m) := by
 have hr:=hs.get hi
 have h1:=cf_orL (m.getD i []) b (by rw [hr,hb])
 have h2:=cfs_set m i (orL (m.getD i []) b) (by rw [hs.1];exact hi) h1.1
 exact ⟨hs.set i (by rw [orL_length (by rw [hr,hb]),hr]),h2.1,fun h => h2.2 (h1.2 h)⟩
theorem sStep_good {nn nt : Nat} (em : List Bool) {ps : List Prod} (hps : ps.all (okProd nn nt) = true) : Good (Sh nn nt) cfs (sStep nt em) ps:=by
 intro st p hI hp
 have hok:=List.all_eq_true.1 hps p hp
 have hl:=okProd_left hok
 exact row_step hI (by omega) (bg_length em hI p.f1 _ (okProd_right hok) (none0_length nt))
def fst (nn nt : Nat) (em : List Bool) (ps : List Prod) : List (List Bool) := gOut (sStep nt em) ps (cfs (rows0 nn nt)) (rows0 nn nt)
theorem fst_sh (nn nt : Nat) (em : List Bool) {ps : List Prod} (hps : ps.all (okProd nn nt) = true) : Sh nn nt (fst nn nt em ps) :=
  gOut_I (sStep_good em hps) _ _ (rows0_sh nn nt)
theorem studiedStep_ev {nn nt : Nat} {em : List Bool} (he : em.length = nn) (hnt : nt ≤ 1000) {m : List (List Bool)} (hs : Sh nn nt m) {p : Prod} (hok : okProd nn nt p = true) (h3 : p.f1.length ≤ 1000000) : Ev (fun k => studiedStep k nt em m p) (sStep nt em m p) := by
 have hl:=okProd_left hok
 have hs1:=hs.1
 have hb:=bg_length em hs p.f1 _ (okProd_right hok) (none0_length nt)
 have hr:=hs.get (i:=p.f0.toNat) (by omega)
 refine Ev.congr (fun k => by rw [studiedStep]) (Ev.bind (begins_ev hs he hnt p.f1 (okProd_right hok) h3) ?_)
 refine Ev.pos hl.1 (Ev.pos (by omega) ?_)
 exact Ev.bind (add_ev (m.getD p.f0.toNat []) (bg em m p.f1 (none0 nt)).1 (by rw [hr,hb]) (by omega)) (Ev.some rfl)
theorem studied_ev (l0 : List ByteArray) (l1 : List Tok) (a2 a3 : Int) (l4 : List Prod) (h : Small l4) (h0 : l0.length ≤ 1000000) (h1 : l1.length ≤ 1000) (hok : l4.all (okProd l0.length l1.length) = true) : Ev (fun k => studied_f k l0 l1 a2 a3 l4) (clo false l0.length l4,fst l0.length l1.length (clo false l0.length l4) l4) := by
 refine Ev.congr (fun k => by rw [studied_f,if_pos ⟨by omega,by omega,by have:=h.1;omega⟩]) (Ev.bind (Ev.val (empty_ev l0 l1 a2 a3 l4 h h0) (if_pos hok)) ?_)
 have he:=clo_length l0.length l1.length false hok
 refine Ev.bind (growOut_ev (sStep_good _ hok) (fun k => studiedStep k l1.length (clo false l0.length l4)) (fun st p hI hp => studiedStep_ev he h1 hI (List.all_eq_true.1 hok p hp) (h.2 p hp)) _ _ (rows0_sh l0.length l1.length) (Nat.le_refl _)) (Ev.some rfl)
theorem or_self : ∀ a : List Bool,orL a a = a
  | [] => rfl
  | x :: a => by show (x || x) :: orL a a = x :: a;rw [or_self a,Bool.or_self]
theorem more_self : ∀ a : List Bool,moreL a a = false
  | [] => rfl
  | x :: a => by show ((x && !x) || moreL a a) = false;rw [more_self a];cases x <;> rfl
theorem or_three : ∀ (a b c : List Bool),a.length = b.length → b.length = c.length → orL a (orL b c) = orL (orL a b) c ∧ moreL a (orL b c) = (moreL (orL a b) c || moreL a b)
  | [],[],[],_,_ => ⟨rfl,rfl⟩
  | x :: a,y :: b,z :: c,h1,h2 => by
    obtain ⟨h3,h4⟩ := or_three a b c (by simpa using h1) (by simpa using h2)
    constructor
    · show (x || (y || z)) :: orL a (orL b c) = (x || y || z) :: orL (orL a b) c
      rw [h3,Bool.or_assoc]
    · show (((y || z) && !x) || moreL a (orL b c)) = (((z && !(x || y)) || moreL (orL a b) c) || ((y && !x) || moreL a b))
      rw [h4]
      cases x <;> cases y <;> cases z <;> simp
theorem or_back : ∀ (a b : List Bool),a.length = b.length → orL a (orL b a) = orL a b ∧ moreL a (orL b a) = moreL a b
  | [],[],_ => ⟨rfl,rfl⟩
  | x :: a,y :: b,h1 => by
    obtain ⟨h3,h4⟩ := or_back a b (by simpa using h1)
    constructor
    · show (x || (y || x)) :: orL a (orL b a) = (x || y) :: orL a b
      rw [h3];cases x <;> cases y <;> rfl
    · show (((y || x) && !x) || moreL a (orL b a)) = ((y && !x) || moreL a b)
      rw [h4];cases x <;> cases y <;> rfl
def fAdd (nt : Nat) (em : List Bool) (first : List (List Bool)) (left : Nat) (ys : List Sym) (out : List (List Bool)) : List Bool :=
  if (bg em first ys (none0 nt)).2 = true then orL (bg em first ys (none0 nt)).1 (out.getD left []) else (bg em first ys (none0 nt)).1
def fIn (nt : Nat) (em : List Bool) (first : List (List Bool)) (left : Nat) : List Sym → Bool → List (List Bool) → Bool × List (List Bool)
  | [],g,out => (g,out)
  | y :: ys,g,out => if y.f0 = true then fIn nt em first left ys g out else
    fIn nt em first left ys (moreL (out.getD y.f1.toNat []) (fAdd nt em first left ys out) || g) (out.set y.f1.toNat (orL (out.getD y.f1.toNat []) (fAdd nt em first left ys out)))
def fStep (nt : Nat) (em : List Bool) (first : List (List Bool)) (out : List (List Bool)) (p : Prod) : Bool × List (List Bool) := fIn nt em first p.f0.toNat p.f1 false out
theorem fAdd_length {nn nt : Nat} (em : List Bool) {first out : List (List Bool)} (hf : Sh nn nt first) (hs : Sh nn nt out) {left : Nat} (hl : left < nn) {ys : List Sym} (hok : ys.all (okSym nn nt) = true) : (fAdd nt em first left ys out).length = nt + 1:=by
 have hb:=bg_length em hf ys _ hok (none0_length nt)
 unfold fAdd
 split
 · rw [orL_length (by rw [hb,hs.get hl]),hb]
 · exact hb
theorem fIn_good {nn nt : Nat} (em : List Bool) {first : List (List Bool)} (hf : Sh nn nt first) {left : Nat} (hl : left < nn) : ∀ (ys : List Sym) (g : Bool) (out : List (List Bool)),ys.all (okSym nn nt) = true → Sh nn nt out → Sh nn nt (fIn nt em first left ys g out).2 ∧ cfs (fIn nt em first left ys g out).2 ≤ cfs out ∧ ((fIn nt em first left ys g out).1 = true → g = true ∨ cfs (fIn nt em first left ys g out).2 < cfs out)
  | [],g,out,_,hs => ⟨hs,Nat.le_refl _,fun h => .inl h⟩
  | y :: ys,g,out,hok,hs => by
    simp only [List.all_cons,Bool.and_eq_true] at hok
    unfold fIn
    cases hy : y.f0 with
    | true => rw [if_pos rfl];exact fIn_good em hf hl ys g out hok.2 hs
    | false =>
      rw [if_neg (by simp)]
      have hb:=okSym_rule hok.1 hy
      obtain ⟨h1,h2,h3⟩ := row_step hs (i:=y.f1.toNat) (by omega) (fAdd_length em hf hs hl hok.2)
      obtain ⟨h4,h5,h6⟩ := fIn_good em hf hl ys (moreL (out.getD y.f1.toNat []) (fAdd nt em first left ys out) || g) _ hok.2 h1
      refine ⟨h4,Nat.le_trans h5 h2,fun h => ?_⟩
      rcases h6 h with h7 | h7
      · rcases (Bool.or_eq_true _ _).mp h7 with h8 | h8
        · exact .inr (Nat.lt_of_le_of_lt h5 (h3 h8))
        · exact .inl h8
      · exact .inr (Nat.lt_of_lt_of_le h7 h2)
theorem fStep_good {nn nt : Nat} (em : List Bool) {first : List (List Bool)} (hf : Sh nn nt first) {ps : List Prod} (hps : ps.all (okProd nn nt) = true) : Good (Sh nn nt) cfs (fStep nt em first) ps:=by
 intro st p hI hp
 have hok:=List.all_eq_true.1 hps p hp
 have hl:=okProd_left hok
 obtain ⟨h1,h2,h3⟩ := fIn_good em hf (left:=p.f0.toNat) (by omega) p.f1 false st (okProd_right hok) hI
 exact ⟨h1,h2,fun h => (h3 h).resolve_left (by simp)⟩
theorem followAdd_ev {nn nt : Nat} (hnt : nt ≤ 1000) {out : List (List Bool)} (hs : Sh nn nt out) {n : Int} (h0 : 0 ≤ n) (h1 : n < (nn : Int)) {l : List Bool} (hl : l.length = nt + 1) : Ev (fun k => followAdd k n l out) (moreL (out.getD n.toNat []) l,out.set n.toNat (orL (out.getD n.toNat []) l)) := by
 have hr:=hs.get (i:=n.toNat) (by omega)
 have hs1:=hs.1
 exact Ev.congr (fun k => by rw [followAdd]) (Ev.pos h0 (Ev.pos (by omega) (Ev.bind (add_ev _ _ (by rw [hr,hl]) (by omega)) (Ev.some rfl))))
theorem followIn_ev {nn nt : Nat} {em : List Bool} (he : em.length = nn) (hnt : nt ≤ 1000) {first : List (List Bool)} (hf : Sh nn nt first) {left : Int} (hl0 : 0 ≤ left) (hl1 : left < (nn : Int)) : ∀ (ys : List Sym) (g : Bool) (out : List (List Bool)),ys.all (okSym nn nt) = true → ys.length ≤ 1000000 → Sh nn nt out → Ev (fun k => followIn k nt em first left ys g out) (fIn nt em first left.toNat ys g out)
  | [],g,out,_,_,hs => Ev.congr (fun k => by rw [followIn]) (Ev.some (by rw [fIn]))
  | y :: ys,g,out,hok,h3,hs => by
    simp only [List.all_cons,Bool.and_eq_true] at hok
    simp only [List.length_cons] at h3
    refine Ev.congr (fun k => by rw [followIn]) ?_
    unfold fIn
    cases hy : y.f0 with
    | true => rw [if_pos rfl];exact Ev.pos rfl (followIn_ev he hnt hf hl0 hl1 ys g out hok.2 (by omega) hs)
    | false =>
      rw [if_neg (by simp)]
      have hb:=okSym_rule hok.1 hy
      have hbl:=bg_length em hf ys _ hok.2 (none0_length nt)
      have hn : y.f1.toNat < nn:=by omega
      have hrow:=hs.get hn
      obtain ⟨h1,_,_⟩ := row_step hs hn hbl
      obtain ⟨h1a,_,_⟩ := row_step hs hn (fAdd_length em hf hs (left:=left.toNat) (by omega) hok.2)
      refine Ev.neg (by simp) (Ev.bind (begins_ev hf he hnt ys hok.2 (by omega)) (Ev.bind (followAdd_ev hnt hs hb.1 hb.2 hbl) ?_))
      cases hem : (bg em first ys (none0 nt)).2 with
      | false =>
        have e : fAdd nt em first left.toNat ys out = (bg em first ys (none0 nt)).1:=by rw [fAdd,hem,if_neg (by simp)]
        rw [e] at h1a ⊢
        exact Ev.neg (by simp) (followIn_ev he hnt hf hl0 hl1 ys _ _ hok.2 (by omega) h1a)
      | true =>
        have e : fAdd nt em first left.toNat ys out = orL (bg em first ys (none0 nt)).1 (out.getD left.toNat []) := by rw [fAdd,hem,if_pos rfl]
        rw [e] at h1a ⊢
        have hs1:=h1.1
        have hlr:=hs.get (i:=left.toNat) (by omega)
        have hlr2:=h1.get (i:=left.toNat) (by omega)
        refine Ev.pos rfl (Ev.pos hl0 (Ev.pos (by simp only;rw [hs1];exact hl1) (Ev.bind (followAdd_ev hnt h1 hb.1 hb.2 hlr2) ?_)))
        have hrow2 : (out.set y.f1.toNat (orL (out.getD y.f1.toNat []) (bg em first ys (none0 nt)).1)).getD y.f1.toNat [] = orL (out.getD y.f1.toNat []) (bg em first ys (none0 nt)).1:=by
          rw [List.getD_eq_getElem?_getD,List.getElem?_set_self (by rw [hs.1];exact hn)];rfl
        by_cases hyl : y.f1.toNat = left.toNat
        · rw [← hyl] at h1a ⊢
          dsimp only
          rw [hrow2,or_self,more_self,List.set_set]
          obtain ⟨e1,e2⟩ := or_back (out.getD y.f1.toNat []) (bg em first ys (none0 nt)).1 (by rw [hrow,hbl])
          rw [e1] at h1a ⊢
          rw [e2]
          have hres:=followIn_ev he hnt hf hl0 hl1 ys (moreL (out.getD y.f1.toNat []) (bg em first ys (none0 nt)).1 || g) _ hok.2 (by omega) h1a
          rw [← hyl] at hres
          rw [Bool.false_or]
          exact hres
        · have hl2 : (out.set y.f1.toNat (orL (out.getD y.f1.toNat []) (bg em first ys (none0 nt)).1)).getD left.toNat [] = out.getD left.toNat [] := by
            rw [List.getD_eq_getElem?_getD,List.getElem?_set_ne hyl,List.getD_eq_getElem?_getD]
          dsimp only
          rw [hrow2,hl2,List.set_set]
          obtain ⟨e1,e2⟩ := or_three (out.getD y.f1.toNat []) (bg em first ys (none0 nt)).1 (out.getD left.toNat []) (by rw [hrow,hbl]) (by rw [hlr,hbl])
          rw [e1] at h1a ⊢
          rw [e2,Bool.or_assoc]
          exact followIn_ev he hnt hf hl0 hl1 ys _ _ hok.2 (by omega) h1a
def fol0 (nn nt : Nat) : List (List Bool) := if 0 < nn then (rows0 nn nt).set 0 ((none0 nt).set nt true) else []
theorem fol0_sh (nn nt : Nat) : Sh nn nt (fol0 nn nt) := by
 unfold fol0
 split
 · exact (rows0_sh nn nt).set 0 (by simp [none0_length])
 · obtain rfl : nn = 0:=by omega
   exact ⟨rfl,fun r hr => by simp at hr⟩
def fol (nn nt : Nat) (em : List Bool) (first : List (List Bool)) (ps : List Prod) : List (List Bool) := gOut (fStep nt em first) ps (cfs (fol0 nn nt)) (fol0 nn nt)
theorem fol_sh {nn nt : Nat} (em : List Bool) {first : List (List Bool)} (hf : Sh nn nt first) {ps : List Prod} (hps : ps.all (okProd nn nt) = true) : Sh nn nt (fol nn nt em first ps) :=
  gOut_I (fStep_good em hf hps) _ _ (fol0_sh nn nt)
theorem Sh.small {nn nt : Nat} {m : List (List Bool)} (h : Sh nn nt m) (h1 : nt ≤ 1000) : ∀ r ∈ m,r.length ≤ 1000000:=fun r hr => by rw [h.2 r hr];omega
section
variable (l0 : List ByteArray) (l1 : List Tok) (a2 a3 : Int) (l4 : List Prod)
def dFollow (nn nt : Nat) (ps : List Prod) : List (List Int) := if ps.all (okProd nn nt) = true then idxs (fol nn nt (clo false nn ps) (fst nn nt (clo false nn ps) ps) ps) else []
def dOf (nn nt : Nat) (ps : List Prod) (l : List Sym) : List Int × Bool:=if ps.all (okProd nn nt) = true ∧ nn ≠ 0 ∧ l.all (okSym nn nt) = true then
  (idx 0 (bg (clo false nn ps) (fst nn nt (clo false nn ps) ps) l (none0 nt)).1,(bg (clo false nn ps) (fst nn nt (clo false nn ps) ps) l (none0 nt)).2) else ([],false)
variable (h : Small l4) (h0 : l0.length ≤ 1000000) (h1 : l1.length ≤ 1000)
include h h0 h1
theorem follow_ev : Ev (fun k => firsts_Follow.f k l0 l1 a2 a3 l4) (dFollow l0.length l1.length l4) := by
 refine Ev.congr (fun k => by rw [firsts_Follow.f]) (Ev.bind0 (firstsRight_val l0 l1 a2 a3 l4 h) ?_)
 unfold dFollow
 cases hr : l4.all (okProd l0.length l1.length) with
 | false => exact Ev.neg (by simp) (Ev.some (by simp))
 | true =>
  have hs:=fst_sh l0.length l1.length (clo false l0.length l4) hr
  have hs2:=fol_sh (clo false l0.length l4) hs hr
  have he:=clo_length l0.length l1.length false hr
  rw [if_pos rfl]
  refine Ev.pos rfl (Ev.bind (studied_ev l0 l1 a2 a3 l4 h h0 h1 hr) ?_)
  refine Ev.bind (growOut_ev (fStep_good _ hs hr) (fun k => followStep k l1.length (clo false l0.length l4) (fst l0.length l1.length (clo false l0.length l4) l4)) (fun st p hI hp => ?_) (cfs (fol0 l0.length l1.length)) (fol0 l0.length l1.length) (fol0_sh _ _) (Nat.le_refl _)) (all_ev _ (by have:=hs2.1;exact Nat.le_trans (Nat.le_of_eq this) h0) (hs2.small h1))
  have hok:=List.all_eq_true.1 hr p hp
  have hl:=okProd_left hok
  exact Ev.congr (fun k => by rw [followStep]) (followIn_ev he h1 hs hl.1 hl.2 p.f1 false st (okProd_right hok) (h.2 p hp) hI)
theorem of_ev (l : List Sym) (hl : l.length ≤ 1000000) : Ev (fun k => firsts_Of.f k l0 l1 a2 a3 l4 l) (dOf l0.length l1.length l4 l) := by
 refine Ev.congr (fun k => by rw [firsts_Of.f]) (Ev.bind0 (firstsRight_val l0 l1 a2 a3 l4 h) ?_)
 unfold dOf
 cases hr : l4.all (okProd l0.length l1.length) with
 | false => exact Ev.neg (by simp) (Ev.some (by simp))
 | true =>
  refine Ev.pos rfl (Ev.bind0 (a:=l.all (okSym l0.length l1.length)) (by rw [firsts_symbols.f,if_pos (by omega)]) ?_)
  cases hs : l.all (okSym l0.length l1.length) with
  | false => exact Ev.neg (by simp) (Ev.some (by simp))
  | true =>
   refine Ev.pos rfl ?_
   by_cases hn : (l0.length : Int) = 0
   · exact Ev.pos hn (Ev.some (if_neg (fun hc => hc.2.1 (Int.ofNat_eq_zero.1 hn))).symm)
   refine Ev.neg hn (Ev.bind (studied_ev l0 l1 a2 a3 l4 h h0 h1 hr) ?_)
   have hsh:=fst_sh l0.length l1.length (clo false l0.length l4) hr
   have hb:=bg_length (clo false l0.length l4) hsh l _ hs (none0_length l1.length)
   refine Ev.bind (begins_ev hsh (clo_length l0.length l1.length false hr) h1 l hs hl) (Ev.bind (rising_ev _ (by rw [hb];omega)) (Ev.some ?_))
   have hc : true = true ∧ l0.length ≠ 0 ∧ true = true:=⟨rfl,by omega,rfl⟩
   rw [if_pos hc]
end
end Go.Proofs.Ytfdcfihcfegekaa.M
end

section
namespace Go.Proofs.Ytfdcfihcfegekaa.R
open Go.RowKit Go.Proofs.YtfdcfihcfegekaaW.PrintWords Go.Proofs.YtfdcfihcfegekaaW.PrintLast Go.Proofs.YtfdcfihcfegekaaW.PrintMore
variable {kk : IntKind} {t e : Nat} {w : World} {base n cap : Nat} {ok : Nat → Prop} {A : Option Addr} {v : Value} {m : List (List Int)}
theorem R_int_cell {g : Nat} {xs : List Int} (h : (Kd.int kk).R e w base ok (.slice (some ⟨g,0,none⟩) n cap) xs) (j : Nat) (hj : j < xs.length) :
    w.cell? ⟨g,j,none⟩ = some (.int kk (xs.getD j 0)) ∧ w.frozen? ⟨g,j,none⟩ = false ∧
      ∀ x : Int,(Kd.int kk).R e (w.setCell ⟨g,j,none⟩ (.int kk x)) base ok (.slice (some ⟨g,0,none⟩) n cap) (xs.set j x) := by
 have hn:=(Kd.R_reads' h).1
 obtain ⟨c,hcl,hM,hcc,hfr⟩ := Kd.R_elem h (0 : Int) (j : Int) (by omega) (by omega)
 have hM' : c = [.int kk (xs.getD j 0)] := hM
 subst hM'
 have h1:=hcc 0 _ rfl
 have h2:=hfr 0
 simp only [show (Kd.int kk).sz = 1 from rfl,Nat.mul_one,Nat.add_zero,Int.toNat_natCast] at h1 h2
 refine ⟨h1,h2,fun x => ?_⟩
 have h3:=(Kd.R_seg h (j : Int) (by omega) (by omega) (seg := [.int kk x]) (j:=0) hcl hcc (Nat.le_refl 1) (x' := x) (okp:=fun _ => False) (by exact rfl) (fun _ hk => hk.elim)).1
 simp only [show (Kd.int kk).sz = 1 from rfl,Nat.mul_one,Nat.add_zero,Int.toNat_natCast] at h3
 exact h3
theorem S_cell (h : Kd.S (Kd.slice t (Kd.int kk)) e w base ok (.slice A n cap) m) (i j : Nat) (hi : i < m.length) (hj : j < (m.getD i []).length) :
    ∃ g gv cv,A = some ⟨g,0,none⟩ ∧ w.cell? ⟨g,i,none⟩ = some (.slice (some ⟨gv,0,none⟩) (m.getD i []).length cv) ∧ (m.getD i []).length ≤ cv ∧ w.cell? ⟨gv,j,none⟩ = some (.int kk ((m.getD i []).getD j 0)) ∧ w.frozen? ⟨gv,j,none⟩ = false ∧ base ≤ gv ∧ gv < w.heap.size ∧ gv ≠ g ∧ (∃ cells,w.heap[gv]? = some (.cells cells t (0,0))) ∧
      ∀ x : Int,Kd.S (Kd.slice t (Kd.int kk)) e (w.setCell ⟨gv,j,none⟩ (.int kk x)) base ok (.slice A n cap) (m.set i ((m.getD i []).set j x)) := by
 obtain ⟨g,v,P,rfl,hc,hR,hP,hset⟩ := S_row rfl h (i : Int) (by omega) (by omega)
 rw [Int.toNat_natCast] at hc hR hset
 obtain ⟨gv,cv,rfl,hb,hlt,hcells⟩ := Kd.R_form hR (by omega)
 obtain ⟨h1,h2,h3⟩ := R_int_cell hR j hj
 have hPg:=hR.1 gv (by simp [Value.ownBlock])
 refine ⟨g,gv,cv,rfl,hc,(Kd.R_reads' hR).2.1,h1,h2,hb,hlt,(hP gv hPg).2,hcells,fun x => ?_⟩
 exact hset _ P _ (Kept.setCell (p:=⟨gv,j,none⟩) (Kept.refl w P) (.inl hPg) _) (h3 x)
end Go.Proofs.Ytfdcfihcfegekaa.R
end

section
namespace Go.Proofs.Ytfdcfihcfegekaa.P
open Go.RowKit Go.Proofs.YtfdcfihcfegekaaW.PrintWords Go.Proofs.YtfdcfihcfegekaaW.PrintLast Go.Proofs.YtfdcfihcfegekaaW.PrintMore
attribute [local go_sem] max2_int min2_int max_two min_two max_three min_three max_four min_four   -- for this text's walks alone
set_option linter.unusedVariables false
set_option linter.unusedSimpArgs false
mutual
def predict_chosen.l0 : Nat → List (List Int) → List (List Bool) → List (S30) → Int → Int → List ByteArray → List (S61) → Int → Int → List (S30) → Option ((List (List Bool)))
  | 0,_,_,_,_,_,_,_,_,_,_ => none
  | k + 1,x3,x4,x18,x19,x20,x143000,x143001,x143002,x143003,x143004 => if x20 < x19 then (if 0 ≤ x20 then (if x20 < (x18.length : Int) then (if 0 ≤ (wrap64 ((x143001.length : Int) + 1)) then (if (wrap64 ((x143001.length : Int) + 1) : Int).toNat ≤ 281474976710656 then (if x20 < (x4.length : Int) then ((some (x4.set (x20 : Int).toNat (List.replicate (wrap64 ((x143001.length : Int) + 1) : Int).toNat false) : List (List Bool))).bind fun y154 => ((firsts_Of.f k x143000 x143001 x143002 x143003 x143004 ((rd_T30 x18 x20).f1)).bind fun bt155 => (if bt155.2 = true then (if 0 ≤ ((rd_T30 x18 x20).f0) then (if ((rd_T30 x18 x20).f0) < (x3.length : Int) then (if bt155.1.length + (rd_L3 x3 ((rd_T30 x18 x20).f0)).length < 17592186044416 then (predict_chosen.j1 k x3 y154 x20 (bt155.1 ++ (rd_L3 x3 ((rd_T30 x18 x20).f0))) x18 x19 x20 x143000 x143001 x143002 x143003 x143004) else (none)) else (none)) else (none)) else (predict_chosen.j1 k x3 y154 x20 bt155.1 x18 x19 x20 x143000 x143001 x143002 x143003 x143004)))) else (none)) else (none)) else (none)) else (none)) else (none)) else (some x4)
def predict_chosen.j1 : Nat → List (List Int) → List (List Bool) → Int → List Int → List (S30) → Int → Int → List ByteArray → List (S61) → Int → Int → List (S30) → Option ((List (List Bool)))
  | 0,_,_,_,_,_,_,_,_,_,_,_,_ => none
  | k + 1,x3,x4,x5,x7,x18,x19,x20,x143000,x143001,x143002,x143003,x143004 => predict_chosen.l1 k x3 x4 x5 x18 x19 x20 x7 (x7.length : Int) 0 x143000 x143001 x143002 x143003 x143004
def predict_chosen.l1 : Nat → List (List Int) → List (List Bool) → Int → List (S30) → Int → Int → List Int → Int → Int → List ByteArray → List (S61) → Int → Int → List (S30) → Option ((List (List Bool)))
  | 0,_,_,_,_,_,_,_,_,_,_,_,_,_,_ => none
  | k + 1,x3,x4,x5,x18,x19,x20,x48,x49,x50,x143000,x143001,x143002,x143003,x143004 => if x50 < x49 then (if 0 ≤ x50 then (if x50 < (x48.length : Int) then (if 0 ≤ x5 then (if x5 < (x4.length : Int) then (if 0 ≤ (rd x48 x50) then (if (rd x48 x50) < ((rd_L13 x4 x5).length : Int) then (predict_chosen.l1 k x3 (x4.set (x5 : Int).toNat ((rd_L13 x4 x5).set ((rd x48 x50) : Int).toNat true)) x5 x18 x19 x20 x48 x49 (wrap64 (x50 + 1)) x143000 x143001 x143002 x143003 x143004) else (none)) else (none)) else (none)) else (none)) else (none)) else (none)) else (predict_chosen.l0 k x3 x4 x18 x19 (wrap64 (x20 + 1)) x143000 x143001 x143002 x143003 x143004)
end
def predict_chosen.f (k : Nat) (l0_0 : List ByteArray) (l0_1 : List (S61)) (a0_2 : Int) (a0_3 : Int) (l0_4 : List (S30)) : Option ((List (List Bool))) := (firsts_Follow.f k l0_0 l0_1 a0_2 a0_3 l0_4).bind fun t143 => (if 0 ≤ (l0_4.length : Int) then (if ((l0_4.length : Int) : Int).toNat ≤ 11728124029610 then (predict_chosen.l0 k t143 (List.replicate ((l0_4.length : Int) : Int).toNat []) l0_4 (l0_4.length : Int) 0 l0_0 l0_1 a0_2 a0_3 l0_4) else (none)) else (none))
set_option maxHeartbeats 8000000 in
set_option maxRecDepth 100000 in
theorem predict_chosen.calls (k : Nat) (A0_0 : Option Addr) (c0_0 : Nat) (l0_0 : List ByteArray) (A0_1 : Option Addr) (c0_1 : Nat) (l0_1 : List (S61)) (a0_2 : Int) (a0_3 : Int) (A0_4 : Option Addr) (c0_4 : Nat) (l0_4 : List (S30)) (r : List (List Bool)) (w : World) (hr0_0 : Kd.C Kd.string w A0_0 l0_0.length l0_0) (hc0_0 : l0_0.length ≤ c0_0) (hr0_1 : Kd.C k61 w A0_1 l0_1.length l0_1) (hc0_1 : l0_1.length ≤ c0_1) (hr0_4 : Kd.C k30 w A0_4 l0_4.length l0_4) (hc0_4 : l0_4.length ≤ c0_4) (h : predict_chosen.f k l0_0 l0_1 a0_2 a0_3 l0_4 = some r) :
    Calls Try.prog 23 #[.agg #[.slice A0_0 l0_0.length c0_0,.slice A0_1 l0_1.length c0_1,.int .i64 a0_2,.int .i64 a0_3,.slice A0_4 l0_4.length c0_4]] w fun e w' => ∃ v0_ : Value,e = .returned (v0_) ∧ Kd.S (Kd.slice 4 Kd.bool) 65 w' w.heap.size (fun _ => True) v0_ r ∧ Below w.heap.size w w' := by
 have hu26:=Try.underlying26
 have hu30:=Try.underlying30
 have HR0_0:=Aside0.mk hr0_0
 have HC0_0:=Aside0.mk hc0_0
 clear hr0_0 hc0_0
 have HR0_1:=Aside0.mk hr0_1
 have HC0_1:=Aside0.mk hc0_1
 clear hr0_1 hc0_1
 have HR0_4:=Aside0.mk hr0_4
 have HC0_4:=Aside0.mk hc0_4
 clear hr0_4 hc0_4
 have HB:=Aside0.mk (Below.refl w.heap.size w)
 have H : ((firsts_Follow.f k l0_0 l0_1 a0_2 a0_3 l0_4).bind fun t143 => (if 0 ≤ (l0_4.length : Int) then (if ((l0_4.length : Int) : Int).toNat ≤ 11728124029610 then (predict_chosen.l0 k t143 (List.replicate ((l0_4.length : Int) : Int).toNat []) l0_4 (l0_4.length : Int) 0 l0_0 l0_1 a0_2 a0_3 l0_4) else (none)) else (none))) = some r:=h
 clear h
 replace H:=Option.bind_eq_some_iff.mp H
 obtain ⟨t143,A20,H⟩ := H
 replace H : (if 0 ≤ (l0_4.length : Int) then (if ((l0_4.length : Int) : Int).toNat ≤ 11728124029610 then (predict_chosen.l0 k t143 (List.replicate ((l0_4.length : Int) : Int).toNat []) l0_4 (l0_4.length : Int) 0 l0_0 l0_1 a0_2 a0_3 l0_4) else (none)) else (none)) = some r:=H
 have A2:=Aside0.mk A20
 clear A20
 by_cases c3 : 0 ≤ (l0_4.length : Int)
 rotate_left
 · rw [if_neg c3] at H
   exact absurd H (by simp)
 rw [if_pos c3] at H
 have c3b0:=eq_true c3
 have c3b1 : decide (0 ≤ (l0_4.length : Int)) = true:=decide_eq_true c3
 clear c3
 by_cases c4 : ((l0_4.length : Int) : Int).toNat ≤ 11728124029610
 rotate_left
 · rw [if_neg c4] at H
   exact absurd H (by simp)
 rw [if_pos c4] at H
 have c4b0:=eq_true c4
 have c4b1 : decide (((l0_4.length : Int) : Int).toNat ≤ 11728124029610) = true:=decide_eq_true c4
 clear c4
 obtain ⟨y146,hy146⟩ : ∃ y_ : List (List Bool),y_ = (List.replicate ((l0_4.length : Int) : Int).toNat []) := ⟨_,rfl⟩
 replace H : (predict_chosen.l0 k t143 y146 l0_4 (l0_4.length : Int) 0 l0_0 l0_1 a0_2 a0_3 l0_4) = some r:=by first | (rw [hy146];with_reducible exact H) | (have H2_:=(Option.bind_some _ _).symm.trans H;rw [hy146];with_reducible exact H2_) | (have H2_:=(Option.bind_some _ _).symm.trans H;with_reducible exact H2_) | with_reducible exact H | (rw [hy146];exact H) | exact H
 have Ny146:=Aside0.mk hy146
 clear hy146
 have H' := Aside0.mk H
 clear H
 go_enter Try.func23,Try.ntmps23
 go_wp2_with (first | ((with_reducible refine gate_dst (N:=1) rfl ?_);refine box_event ?hg (N:=1) ?hd (cs:=#[.slice A0_0 l0_0.length c0_0,.slice A0_1 l0_1.length c0_1,.int .i64 a0_2,.int .i64 a0_3,.slice A0_4 l0_4.length c0_4]) (t:=26) ?hr ?_;(case hd => rfl);(case hg => rfl);(case hr => first | (go_simp;done) | (go_simp;rfl));intro gb142 hg w5 hbox hb;have n0_:=Aside0.mk (below_step (by repeat (first | (with_reducible first | exact HB.out | apply below_alloc | apply pw_below_drewN | apply below_drew1) | exact HB.out)) hb);have n1_:=Aside0.mk (hbox);have n2_:=Aside0.mk ((by rw [hg];exact (below_size (by repeat (first | (with_reducible first | exact HB.out | apply below_alloc | apply pw_below_drewN | apply below_drew1) | exact HB.out))) : w.heap.size ≤ gb142));have n3_:=Aside0.mk ((by rw [hg];exact (below_size (by repeat (first | (with_reducible first | exact HB.out | apply below_alloc | apply pw_below_drewN | apply below_drew1) | exact HB.out))) : w.heap.size ≤ gb142));clear HB;have HB:=n0_;have BK142:=n1_;have GW142:=n2_;have GE142:=n3_;clear n0_ n1_ n2_ n3_;clear hb hbox hg;have hcz6_0 : w5.cell? ⟨gb142,0,none⟩ = some (.slice A0_0 l0_0.length c0_0) := (blk_cell BK142.out 0).trans rfl;have hcz6_1 : w5.cell? ⟨gb142,1,none⟩ = some (.slice A0_1 l0_1.length c0_1) := (blk_cell BK142.out 1).trans rfl;have hcz6_2 : w5.cell? ⟨gb142,2,none⟩ = some (.int .i64 a0_2) := (blk_cell BK142.out 2).trans rfl;have hcz6_3 : w5.cell? ⟨gb142,3,none⟩ = some (.int .i64 a0_3) := (blk_cell BK142.out 3).trans rfl;have hcz6_4 : w5.cell? ⟨gb142,4,none⟩ = some (.slice A0_4 l0_4.length c0_4) := (blk_cell BK142.out 4).trans rfl;have hfz6_0:=blk_frozen BK142.out 0;have hfz6_1:=blk_frozen BK142.out 1;have hfz6_2:=blk_frozen BK142.out 2;have hfz6_3:=blk_frozen BK142.out 3;have hfz6_4:=blk_frozen BK142.out 4) | ((with_reducible refine gate_callee (f:=38) rfl ?_);refine goesL_ (some 12) rfl rfl Try.func38 (by kernel_rfl) rfl #[.agg #[.slice A0_0 l0_0.length c0_0,.slice A0_1 l0_1.length c0_1,.int .i64 a0_2,.int .i64 a0_3,.slice A0_4 l0_4.length c0_4]] rfl (by (try simp only [List.map_toArray,List.map_cons,List.map_nil]);first | done | rfl | (simp only [List.length_drop,List.length_take];rfl)) ?_;(with_reducible refine (firsts_Follow.calls k _ _ l0_0 _ _ l0_1 a0_2 a0_3 _ _ l0_4 t143 _ ?side1 ?side2 ?side3 ?side4 ?side5 ?side6 A2.out).mono ?_);(case side1 => repeat (first | exact (Kd.C_below HR0_0.out HB.out) | (with_reducible refine Kd.C_alloc ?_ _) | (with_reducible refine Kd.C_drewN ?_ _) | (with_reducible refine Kd.C_drew ?_)));(case side2 => exact HC0_0.out);(case side3 => repeat (first | exact (Kd.C_below HR0_1.out HB.out) | (with_reducible refine Kd.C_alloc ?_ _) | (with_reducible refine Kd.C_drewN ?_ _) | (with_reducible refine Kd.C_drew ?_)));(case side4 => exact HC0_1.out);(case side5 => repeat (first | exact (Kd.C_below HR0_4.out HB.out) | (with_reducible refine Kd.C_alloc ?_ _) | (with_reducible refine Kd.C_drewN ?_ _) | (with_reducible refine Kd.C_drew ?_)));(case side6 => exact HC0_4.out);rintro e w7 ⟨v144,rfl,ho0,hb⟩;refine ⟨_,rfl,?_⟩;have n0_:=Aside0.mk (Kd.S_lower ho0 (below_size (by repeat (first | (with_reducible first | exact HB.out | apply below_alloc | apply pw_below_drewN | apply below_drew1 | refine below_set ?_ GE142.out) | exact HB.out))));have n1_:=Aside0.mk (blk_below (g:=gb142) (o := .cells #[.slice A0_0 l0_0.length c0_0,.slice A0_1 l0_1.length c0_1,.int .i64 a0_2,.int .i64 a0_3,.slice A0_4 l0_4.length c0_4] 26 (0,0)) (by (with_reducible repeat (first | refine blk_drewN ?_ _ | refine blk_drew ?_ | refine blk_alloc ?_ _));exact BK142.out) hb);have n2_:=Aside0.mk (below_step (by repeat (first | (with_reducible first | exact HB.out | apply below_alloc | apply pw_below_drewN | apply below_drew1 | refine below_set ?_ GE142.out) | exact HB.out)) hb);clear BK142;clear HB;have HO145:=n0_;have BK142:=n1_;have HB:=n2_;clear n0_ n1_ n2_;(try clear hb);(try clear hb2);(try clear hk);(try clear hi);(try clear ho0);have hcz8_0 : w7.cell? ⟨gb142,0,none⟩ = some (.slice A0_0 l0_0.length c0_0) := (blk_cell BK142.out 0).trans rfl;have hcz8_1 : w7.cell? ⟨gb142,1,none⟩ = some (.slice A0_1 l0_1.length c0_1) := (blk_cell BK142.out 1).trans rfl;have hcz8_2 : w7.cell? ⟨gb142,2,none⟩ = some (.int .i64 a0_2) := (blk_cell BK142.out 2).trans rfl;have hcz8_3 : w7.cell? ⟨gb142,3,none⟩ = some (.int .i64 a0_3) := (blk_cell BK142.out 3).trans rfl;have hcz8_4 : w7.cell? ⟨gb142,4,none⟩ = some (.slice A0_4 l0_4.length c0_4) := (blk_cell BK142.out 4).trans rfl;have hfz8_0:=blk_frozen BK142.out 0;have hfz8_1:=blk_frozen BK142.out 1;have hfz8_2:=blk_frozen BK142.out 2;have hfz8_3:=blk_frozen BK142.out 3;have hfz8_4:=blk_frozen BK142.out 4) | ((with_reducible refine gate_dst (N:=16) rfl ?_);refine Kd.S_make (Kd.slice 4 Kd.bool) _ 65 rfl (N:=16) rfl 62 _ _ rfl (l0_4.length : Int) rfl rfl Try.underlying62 (.slice none 0 0) 24 info65 rfl (by decide) (by omega) [] (ok:=fun _ => True) (okp:=fun _ => True) ⟨_,rfl,Kd.R_nil _ _ _ _ _⟩ (fun _ hk => hk) trivial (of_decide_eq_true (by first | (with_reducible assumption) | assumption)) (Nat.le_trans (Nat.mul_le_mul_right _ (of_decide_eq_true (by first | (with_reducible assumption) | assumption) : (l0_4.length : Int).toNat ≤ 11728124029610)) (by omega)) (Below.refl _ _) (Nat.le_refl _) ?_;intro v147 w9 ho10 hb hg_ hnew_;clear hg_ hnew_;(first | rw [← Ny146.out] at ho10 | (simp only [Int.reduceToNat] at ho10;rw [← Ny146.out] at ho10));have n0_:=Aside0.mk (Kd.S_below (by (with_reducible repeat (first | apply Kd.S_alloc | apply Kd.S_drewN | apply Kd.S_drew));exact HO145.out) hb);have n1_:=Aside0.mk (Kd.S_lower ho10 (below_size (by repeat (first | (with_reducible first | exact HB.out | apply below_alloc | apply pw_below_drewN | apply below_drew1 | refine below_set ?_ GE142.out) | exact HB.out))));have n2_:=Aside0.mk (blk_below (g:=gb142) (o := .cells #[.slice A0_0 l0_0.length c0_0,.slice A0_1 l0_1.length c0_1,.int .i64 a0_2,.int .i64 a0_3,.slice A0_4 l0_4.length c0_4] 26 (0,0)) (by (with_reducible repeat (first | refine blk_drewN ?_ _ | refine blk_drew ?_ | refine blk_alloc ?_ _));exact BK142.out) hb);have n3_:=Aside0.mk (below_step (by repeat (first | (with_reducible first | exact HB.out | apply below_alloc | apply pw_below_drewN | apply below_drew1 | refine below_set ?_ GE142.out) | exact HB.out)) hb);clear HO145;clear BK142;clear HB;have HO145:=n0_;have HO148:=n1_;have BK142:=n2_;have HB:=n3_;clear n0_ n1_ n2_ n3_;clear hb ho10;have hcz11_0 : w9.cell? ⟨gb142,0,none⟩ = some (.slice A0_0 l0_0.length c0_0) := (blk_cell BK142.out 0).trans rfl;have hcz11_1 : w9.cell? ⟨gb142,1,none⟩ = some (.slice A0_1 l0_1.length c0_1) := (blk_cell BK142.out 1).trans rfl;have hcz11_2 : w9.cell? ⟨gb142,2,none⟩ = some (.int .i64 a0_2) := (blk_cell BK142.out 2).trans rfl;have hcz11_3 : w9.cell? ⟨gb142,3,none⟩ = some (.int .i64 a0_3) := (blk_cell BK142.out 3).trans rfl;have hcz11_4 : w9.cell? ⟨gb142,4,none⟩ = some (.slice A0_4 l0_4.length c0_4) := (blk_cell BK142.out 4).trans rfl;have hfz11_0:=blk_frozen BK142.out 0;have hfz11_1:=blk_frozen BK142.out 1;have hfz11_2:=blk_frozen BK142.out 2;have hfz11_3:=blk_frozen BK142.out 3;have hfz11_4:=blk_frozen BK142.out 4))
 go_loopg [20] k (fun kq v20 w' => ∃ (x4_1 : List (List Bool)) (x20_1 : Int),v20 = .int .i64 x20_1 ∧ Aside0 (predict_chosen.l0 kq t143 x4_1 l0_4 (l0_4.length : Int) x20_1 l0_0 l0_1 a0_2 a0_3 l0_4 = some r) ∧ Aside0 (kq ≤ k) ∧ Aside0 (Kd.S (Kd.slice 3 (Kd.int .i64)) 43 w' w.heap.size (fun _ => True) v144 t143) ∧ Aside0 (Kd.S (Kd.slice 4 Kd.bool) 65 w' w.heap.size (fun _ => True) v147 x4_1) ∧ Aside0 (w'.heap[gb142]? = some (.cells #[(.slice A0_0 l0_0.length c0_0),(.slice A0_1 l0_1.length c0_1),.int .i64 a0_2,.int .i64 a0_3,(.slice A0_4 l0_4.length c0_4)] 26 (0,0))) ∧ Aside0 (Below w.heap.size w w'))
 case atStart => exact ⟨(y146),(0),(by first | rfl | (simp;done) | (simp [*];done)),H',⟨Nat.le_refl _⟩,⟨by (with_reducible repeat (first | apply Kd.S_alloc | apply Kd.S_drewN | apply Kd.S_drew));exact HO145.out⟩,⟨by (with_reducible repeat (first | apply Kd.S_alloc | apply Kd.S_drewN | apply Kd.S_drew));exact HO148.out⟩,⟨by (with_reducible repeat (first | refine blk_drewN ?_ _ | refine blk_drew ?_ | refine blk_alloc ?_ _));exact BK142.out⟩,⟨by repeat (first | (with_reducible first | exact HB.out | apply below_alloc | apply pw_below_drewN | apply below_drew1 | refine below_set ?_ GE142.out) | exact HB.out)⟩⟩
 case round =>
  clear H'
  (try clear c2);(try clear p2);(try clear c3);(try clear c3b0);(try clear c3b1);(try clear c4);(try clear c4b0);(try clear c4b1);(try clear hcz11_0);(try clear hcz11_1);(try clear hcz11_2);(try clear hcz11_3);(try clear hcz11_4);(try clear hcz6_0);(try clear hcz6_1);(try clear hcz6_2);(try clear hcz6_3);(try clear hcz6_4);(try clear hcz8_0);(try clear hcz8_1);(try clear hcz8_2);(try clear hcz8_3);(try clear hcz8_4)
  (try clear hfz11_0);(try clear hfz11_1);(try clear hfz11_2);(try clear hfz11_3);(try clear hfz11_4);(try clear hfz6_0);(try clear hfz6_1);(try clear hfz6_2);(try clear hfz6_3);(try clear hfz6_4);(try clear hfz8_0);(try clear hfz8_1);(try clear hfz8_2);(try clear hfz8_3);(try clear hfz8_4)
  obtain ⟨x4_1,x20_1,rfl,HA,HK1,HO_3,HO_4,BK142,HB⟩ := hrel
  cases gk with
  | zero => exact absurd HA.out (by simp [predict_chosen.l0])
  | succ k1 =>
   have H:=HA.out
   clear HA
   simp only [predict_chosen.l0] at H
   by_cases c12 : x20_1 < (l0_4.length : Int)
   · rw [if_pos c12] at H
     have c12b0 : decide (x20_1 < (l0_4.length : Int)) = true:=decide_eq_true c12
     clear c12
     by_cases c13 : 0 ≤ x20_1
     rotate_left
     · rw [if_neg c13] at H
       exact absurd H (by simp)
     rw [if_pos c13] at H
     have c13b0 : decide (0 ≤ x20_1) = true:=decide_eq_true c13
     clear c13
     by_cases c14 : x20_1 < (l0_4.length : Int)
     rotate_left
     · rw [if_neg c14] at H
       exact absurd H (by simp)
     rw [if_pos c14] at H
     have c14b0 : decide (x20_1 < (l0_4.length : Int)) = true:=decide_eq_true c14
     clear c14
     obtain ⟨ji15,hji15⟩ : ∃ j_ : Int,(wrap64 ((l0_1.length : Int) + 1)) = j_:=⟨_,rfl⟩
     replace H : (if 0 ≤ (ji15) then (if (ji15 : Int).toNat ≤ 281474976710656 then (if x20_1 < (x4_1.length : Int) then ((some (x4_1.set (x20_1 : Int).toNat (List.replicate (ji15 : Int).toNat false) : List (List Bool))).bind fun y154 => ((firsts_Of.f k1 l0_0 l0_1 a0_2 a0_3 l0_4 ((rd_T30 l0_4 x20_1).f1)).bind fun bt155 => (if bt155.2 = true then (if 0 ≤ ((rd_T30 l0_4 x20_1).f0) then (if ((rd_T30 l0_4 x20_1).f0) < (t143.length : Int) then (if bt155.1.length + (rd_L3 t143 ((rd_T30 l0_4 x20_1).f0)).length < 17592186044416 then (predict_chosen.j1 k1 t143 y154 x20_1 (bt155.1 ++ (rd_L3 t143 ((rd_T30 l0_4 x20_1).f0))) l0_4 (l0_4.length : Int) x20_1 l0_0 l0_1 a0_2 a0_3 l0_4) else (none)) else (none)) else (none)) else (predict_chosen.j1 k1 t143 y154 x20_1 bt155.1 l0_4 (l0_4.length : Int) x20_1 l0_0 l0_1 a0_2 a0_3 l0_4)))) else (none)) else (none)) else (none)) = some r:=by first | (rw [hji15] at H;exact H) | (simp only [hji15] at H ⊢;exact H)
     have hji15w : (IntKind.i64.wrap ((l0_1.length : Int) + 1)) = ji15:=(i64_w _).trans hji15
     by_cases c16 : 0 ≤ (ji15)
     rotate_left
     · rw [if_neg c16] at H
       exact absurd H (by simp)
     rw [if_pos c16] at H
     have c16b0:=eq_true c16
     have c16b1 : decide (0 ≤ (ji15)) = true:=decide_eq_true c16
     clear c16
     by_cases c17 : (ji15 : Int).toNat ≤ 281474976710656
     rotate_left
     · rw [if_neg c17] at H
       exact absurd H (by simp)
     rw [if_pos c17] at H
     have c17b0:=eq_true c17
     have c17b1 : decide ((ji15 : Int).toNat ≤ 281474976710656) = true:=decide_eq_true c17
     clear c17
     obtain ⟨y151,hy151⟩ : ∃ y_ : List Bool,y_ = (List.replicate (ji15 : Int).toNat false) := ⟨_,rfl⟩
     replace H : (if x20_1 < (x4_1.length : Int) then ((some (x4_1.set (x20_1 : Int).toNat y151 : List (List Bool))).bind fun y154 => ((firsts_Of.f k1 l0_0 l0_1 a0_2 a0_3 l0_4 ((rd_T30 l0_4 x20_1).f1)).bind fun bt155 => (if bt155.2 = true then (if 0 ≤ ((rd_T30 l0_4 x20_1).f0) then (if ((rd_T30 l0_4 x20_1).f0) < (t143.length : Int) then (if bt155.1.length + (rd_L3 t143 ((rd_T30 l0_4 x20_1).f0)).length < 17592186044416 then (predict_chosen.j1 k1 t143 y154 x20_1 (bt155.1 ++ (rd_L3 t143 ((rd_T30 l0_4 x20_1).f0))) l0_4 (l0_4.length : Int) x20_1 l0_0 l0_1 a0_2 a0_3 l0_4) else (none)) else (none)) else (none)) else (predict_chosen.j1 k1 t143 y154 x20_1 bt155.1 l0_4 (l0_4.length : Int) x20_1 l0_0 l0_1 a0_2 a0_3 l0_4)))) else (none)) = some r:=by first | (rw [hy151];with_reducible exact H) | (have H2_:=(Option.bind_some _ _).symm.trans H;rw [hy151];with_reducible exact H2_) | (have H2_:=(Option.bind_some _ _).symm.trans H;with_reducible exact H2_) | with_reducible exact H | (rw [hy151];exact H) | exact H
     have Ny151:=Aside0.mk hy151
     clear hy151
     by_cases c18 : x20_1 < (x4_1.length : Int)
     rotate_left
     · rw [if_neg c18] at H
       exact absurd H (by simp)
     rw [if_pos c18] at H
     have c18b0 : decide (x20_1 < (x4_1.length : Int)) = true:=decide_eq_true c18
     clear c18
     obtain ⟨y154,hy154⟩ : ∃ y_ : List (List Bool),y_ = (x4_1.set (x20_1 : Int).toNat y151) := ⟨_,rfl⟩
     replace H : ((firsts_Of.f k1 l0_0 l0_1 a0_2 a0_3 l0_4 ((rd_T30 l0_4 x20_1).f1)).bind fun bt155 => (if bt155.2 = true then (if 0 ≤ ((rd_T30 l0_4 x20_1).f0) then (if ((rd_T30 l0_4 x20_1).f0) < (t143.length : Int) then (if bt155.1.length + (rd_L3 t143 ((rd_T30 l0_4 x20_1).f0)).length < 17592186044416 then (predict_chosen.j1 k1 t143 y154 x20_1 (bt155.1 ++ (rd_L3 t143 ((rd_T30 l0_4 x20_1).f0))) l0_4 (l0_4.length : Int) x20_1 l0_0 l0_1 a0_2 a0_3 l0_4) else (none)) else (none)) else (none)) else (predict_chosen.j1 k1 t143 y154 x20_1 bt155.1 l0_4 (l0_4.length : Int) x20_1 l0_0 l0_1 a0_2 a0_3 l0_4))) = some r:=by first | (rw [hy154];with_reducible exact H) | (have H2_:=(Option.bind_some _ _).symm.trans H;rw [hy154];with_reducible exact H2_) | (have H2_:=(Option.bind_some _ _).symm.trans H;with_reducible exact H2_) | with_reducible exact H | (rw [hy154];exact H) | exact H
     have Ny154:=Aside0.mk hy154
     clear hy154
     replace H:=Option.bind_eq_some_iff.mp H
     obtain ⟨⟨t155,t158⟩,A200,H⟩ := H
     replace H : (if t158 = true then (if 0 ≤ ((rd_T30 l0_4 x20_1).f0) then (if ((rd_T30 l0_4 x20_1).f0) < (t143.length : Int) then (if t155.length + (rd_L3 t143 ((rd_T30 l0_4 x20_1).f0)).length < 17592186044416 then (predict_chosen.j1 k1 t143 y154 x20_1 (t155 ++ (rd_L3 t143 ((rd_T30 l0_4 x20_1).f0))) l0_4 (l0_4.length : Int) x20_1 l0_0 l0_1 a0_2 a0_3 l0_4) else (none)) else (none)) else (none)) else (predict_chosen.j1 k1 t143 y154 x20_1 t155 l0_4 (l0_4.length : Int) x20_1 l0_0 l0_1 a0_2 a0_3 l0_4)) = some r:=H
     have A20:=Aside0.mk A200
     clear A200
     have HC21:=Aside0.mk H
     clear H
     have p149 : 0 ≤ (x20_1 : Int) := of_decide_eq_true (by first | (with_reducible assumption) | assumption)
     have q149 : x20_1 < (l0_4.length : Int) := of_decide_eq_true (by first | (with_reducible assumption) | assumption)
     obtain ⟨ad149,A149_1,c149_1,e149,hx149_0,hx149_1,hl149_1,hi149_1⟩ := at_T30 HR0_4.out x20_1 p149 q149
     cases e149
     replace hx149_0:=(HB.out.cell (World.block_lt_of_cell? w _ hx149_0)).trans hx149_0
     replace hx149_1:=(HB.out.cell (World.block_lt_of_cell? w _ hx149_1)).trans hx149_1
     have HR149_1:=Aside0.mk hi149_1
     have HC149_1:=Aside0.mk hl149_1
     clear hi149_1 hl149_1
     replace p149:=eq_true p149
     replace q149:=eq_true q149
     go_upto_if 40 with (first | ((with_reducible refine gate_dst (N:=6) rfl ?_);refine box_event ?hg (N:=6) ?hd (cs:=#[.int .i64 0,.slice none 0 0]) (t:=30) ?hr ?_;(case hd => rfl);(case hg => rfl);(case hr => first | (go_simp;done) | (go_simp;rfl));intro gb150 hg w22 hbox hb;have n0_:=Aside0.mk (Kd.S_below (by (with_reducible repeat (first | apply Kd.S_alloc | apply Kd.S_drewN | apply Kd.S_drew));exact HO_3.out) hb);have n1_:=Aside0.mk (Kd.S_below (by (with_reducible repeat (first | apply Kd.S_alloc | apply Kd.S_drewN | apply Kd.S_drew));exact HO_4.out) hb);have n2_:=Aside0.mk (blk_below (g:=gb142) (o := .cells #[.slice A0_0 l0_0.length c0_0,.slice A0_1 l0_1.length c0_1,.int .i64 a0_2,.int .i64 a0_3,.slice (some ad149) l0_4.length c0_4] 26 (0,0)) (by (with_reducible repeat (first | refine blk_drewN ?_ _ | refine blk_drew ?_ | refine blk_alloc ?_ _));exact BK142.out) hb);have n3_:=Aside0.mk (below_step (by repeat (first | (with_reducible first | exact HB.out | apply below_alloc | apply pw_below_drewN | apply below_drew1 | refine below_set ?_ GE142.out) | exact HB.out)) hb);have n4_:=Aside0.mk (hbox);have n5_:=Aside0.mk ((by rw [hg];exact (below_size (by repeat (first | (with_reducible first | exact HB.out | apply below_alloc | apply pw_below_drewN | apply below_drew1 | refine below_set ?_ GE142.out) | exact HB.out))) : w.heap.size ≤ gb150));have n6_:=Aside0.mk ((by rw [hg];exact (below_size (by repeat (first | (with_reducible first | exact HB.out | apply below_alloc | apply pw_below_drewN | apply below_drew1 | refine below_set ?_ GE142.out) | exact HB.out))) : w.heap.size ≤ gb150));have n7_:=Aside0.mk ((by rw [hg];exact Nat.ne_of_lt (blk_lt (g:=gb142) (o := .cells #[.slice A0_0 l0_0.length c0_0,.slice A0_1 l0_1.length c0_1,.int .i64 a0_2,.int .i64 a0_3,.slice (some ad149) l0_4.length c0_4] 26 (0,0)) (by (with_reducible repeat (first | refine blk_drewN ?_ _ | refine blk_drew ?_ | refine blk_alloc ?_ _));exact BK142.out)) : gb142 ≠ gb150));have n8_:=Aside0.mk ((by rw [hg];exact Nat.ne_of_gt (blk_lt (g:=gb142) (o := .cells #[.slice A0_0 l0_0.length c0_0,.slice A0_1 l0_1.length c0_1,.int .i64 a0_2,.int .i64 a0_3,.slice (some ad149) l0_4.length c0_4] 26 (0,0)) (by (with_reducible repeat (first | refine blk_drewN ?_ _ | refine blk_drew ?_ | refine blk_alloc ?_ _));exact BK142.out)) : gb150 ≠ gb142));clear HO_3;clear HO_4;clear BK142;clear HB;have HO_3:=n0_;have HO_4:=n1_;have BK142:=n2_;have HB:=n3_;have BK150:=n4_;have GW150:=n5_;have GE150:=n6_;have NB142_150:=n7_;have NB150_142:=n8_;clear n0_ n1_ n2_ n3_ n4_ n5_ n6_ n7_ n8_;clear hb hbox hg;have hnb23:=NB150_142.out;have hnc23:=NB142_150.out;have hcz24_0 : w22.cell? ⟨gb150,0,none⟩ = some (.int .i64 0) := (blk_cell BK150.out 0).trans rfl;have hcz24_1 : w22.cell? ⟨gb150,1,none⟩ = some (.slice none 0 0) := (blk_cell BK150.out 1).trans rfl;have hfz24_0:=blk_frozen BK150.out 0;have hfz24_1:=blk_frozen BK150.out 1;have hcz25_0 : w22.cell? ⟨gb142,0,none⟩ = some (.slice A0_0 l0_0.length c0_0) := (blk_cell BK142.out 0).trans rfl;have hcz25_1 : w22.cell? ⟨gb142,1,none⟩ = some (.slice A0_1 l0_1.length c0_1) := (blk_cell BK142.out 1).trans rfl;have hcz25_2 : w22.cell? ⟨gb142,2,none⟩ = some (.int .i64 a0_2) := (blk_cell BK142.out 2).trans rfl;have hcz25_3 : w22.cell? ⟨gb142,3,none⟩ = some (.int .i64 a0_3) := (blk_cell BK142.out 3).trans rfl;have hcz25_4 : w22.cell? ⟨gb142,4,none⟩ = some (.slice (some ad149) l0_4.length c0_4) := (blk_cell BK142.out 4).trans rfl;have hfz25_0:=blk_frozen BK142.out 0;have hfz25_1:=blk_frozen BK142.out 1;have hfz25_2:=blk_frozen BK142.out 2;have hfz25_3:=blk_frozen BK142.out 3;have hfz25_4:=blk_frozen BK142.out 4) | ((with_reducible refine gate_dst (N:=31) rfl ?_);refine Kd.R_make Kd.bool _ 4 rfl (N:=31) rfl 65 _ _ rfl ji15 rfl rfl Try.underlying65 (.bool false) 1 info4 rfl (by decide) (by omega) false (ok:=fun _ => True) (okp:=fun _ => True) rfl (fun _ hk => hk) trivial (of_decide_eq_true (by first | (with_reducible assumption) | assumption)) (Nat.le_trans (Nat.mul_le_mul_right _ (of_decide_eq_true (by first | (with_reducible assumption) | assumption) : ji15.toNat ≤ 281474976710656)) (by omega)) (Below.refl _ _) (Nat.le_refl _) ?_;intro v152 w26 ho27 hb hg_ hnew_;clear hg_ hnew_;(first | rw [← Ny151.out] at ho27 | (simp only [Int.reduceToNat] at ho27;rw [← Ny151.out] at ho27));have n0_:=Aside0.mk (Kd.S_below (by (with_reducible repeat (first | apply Kd.S_alloc | apply Kd.S_drewN | apply Kd.S_drew));exact (Kd.S_mono (Kd.S_far (p:=⟨gb150,1,none⟩) (Kd.S_far (p:=⟨gb150,0,none⟩) (Kd.S_types HO_3.out BK150.out (by decide)) (fun _ hk => hk.2) (.int .i64 ((rd_T30 l0_4 x20_1).f0))) (fun _ hk => hk.2) (.slice A149_1 ((rd_T30 l0_4 x20_1).f1).length c149_1)) (fun _ h_ => h_.1))) hb);have n1_:=Aside0.mk (Kd.S_elder' (by (with_reducible repeat (first | apply Kd.S_alloc | apply Kd.S_drewN | apply Kd.S_drew));exact (Kd.S_mono (Kd.S_far (p:=⟨gb150,1,none⟩) (Kd.S_far (p:=⟨gb150,0,none⟩) (Kd.S_types HO_4.out BK150.out (by decide)) (fun _ hk => hk.2) (.int .i64 ((rd_T30 l0_4 x20_1).f0))) (fun _ hk => hk.2) (.slice A149_1 ((rd_T30 l0_4 x20_1).f1).length c149_1)) (fun _ h_ => h_.1))) (Kd.R_base ho27) hb);have n2_:=Aside0.mk (Kd.R_lower ho27 (below_size (by repeat (first | (with_reducible first | exact HB.out | apply below_alloc | apply pw_below_drewN | apply below_drew1 | refine below_set ?_ GE142.out | refine below_set ?_ GE150.out) | exact HB.out))));have n3_:=Aside0.mk (blk_below (g:=gb142) (o := .cells #[.slice A0_0 l0_0.length c0_0,.slice A0_1 l0_1.length c0_1,.int .i64 a0_2,.int .i64 a0_3,.slice (some ad149) l0_4.length c0_4] 26 (0,0)) (by (with_reducible repeat (first | refine blk_drewN ?_ _ | refine blk_drew ?_ | refine blk_alloc ?_ _));refine blk_far ?_ NB142_150.out _;(with_reducible repeat (first | refine blk_drewN ?_ _ | refine blk_drew ?_ | refine blk_alloc ?_ _));refine blk_far ?_ NB142_150.out _;(with_reducible repeat (first | refine blk_drewN ?_ _ | refine blk_drew ?_ | refine blk_alloc ?_ _));exact BK142.out) hb);have n4_:=Aside0.mk (blk_below (g:=gb150) (o := .cells #[.int .i64 ((rd_T30 l0_4 x20_1).f0),.slice A149_1 ((rd_T30 l0_4 x20_1).f1).length c149_1] 30 (0,0)) (by (with_reducible repeat (first | refine blk_drewN ?_ _ | refine blk_drew ?_ | refine blk_alloc ?_ _));refine blk_put (cs:=#[.int .i64 ((rd_T30 l0_4 x20_1).f0),.slice none 0 0]) ?_ 1 _ rfl;(with_reducible repeat (first | refine blk_drewN ?_ _ | refine blk_drew ?_ | refine blk_alloc ?_ _));refine blk_put (cs:=#[.int .i64 0,.slice none 0 0]) ?_ 0 _ rfl;(with_reducible repeat (first | refine blk_drewN ?_ _ | refine blk_drew ?_ | refine blk_alloc ?_ _));exact BK150.out) hb);have n5_:=Aside0.mk (below_step (by repeat (first | (with_reducible first | exact HB.out | apply below_alloc | apply pw_below_drewN | apply below_drew1 | refine below_set ?_ GE142.out | refine below_set ?_ GE150.out) | exact HB.out)) hb);clear HO_3;clear HO_4;clear BK142;clear BK150;clear HB;have HO_3:=n0_;have HO_4:=n1_;have HO153:=n2_;have BK142:=n3_;have BK150:=n4_;have HB:=n5_;clear n0_ n1_ n2_ n3_ n4_ n5_;clear hb ho27;have p19 : 0 ≤ (x20_1 : Int) := of_decide_eq_true (by first | (with_reducible assumption) | assumption);have q19 : (x20_1 : Int) < ((x4_1.length : Int) : Int) := of_decide_eq_true (by first | (with_reducible assumption) | assumption);obtain ⟨go19,co19,eo19,gb19,gl19,cl19,HG19⟩ := Kd.S_form HO_4.out (by omega);(first | cases eo19 | (injection eo19 with ea_ en_ ec_;(first | subst ea_ | (injection ea_ with ea_;subst ea_));subst ec_;clear en_));have GB19:=Aside0.mk gb19;have GG19:=Aside0.mk HG19;clear gb19 gl19 HG19;obtain ⟨_,ce19,hcl19,hM19,hcc19,hfr19,_,_⟩ := Kd.S_elem HO_4.out [] (x20_1 : Int) p19 q19;obtain ⟨ve19_0,rfl,ge19_0⟩ := hM19;have hx19_0:=hcc19 0 _ rfl;have hf19_0:=hfr19 0;(try simp only [show ((Kd.slice 4 Kd.bool)).sz = 1 from rfl,Nat.mul_one,Nat.add_zero] at hx19_0);(try simp only [show ((Kd.slice 4 Kd.bool)).sz = 1 from rfl,Nat.mul_one,Nat.add_zero] at hf19_0);clear hcl19 hcc19 hfr19;(try clear hM19);replace p19:=eq_true p19;replace q19:=eq_true q19;have n_:=Aside0.mk (Kd.S_mono (ok' := (fun k_ => some k_ ≠ (v152 : Value).ownBlock)) HO_4.out (fun k_ hk => hk.2));clear HO_4;have HO_4:=n_;clear n_;have HX28:=Aside0.mk (show Kd.S (Kd.slice 4 Kd.bool) 65 w26 w.heap.size (fun k_ => ((fun _ => True)) k_ ∧ ¬ ((fun k_ => some k_ = (v152 : Value).ownBlock)) k_) (.slice (some ⟨go19,0,none⟩) x4_1.length co19) x4_1 from (by (with_reducible repeat (first | apply Kd.S_alloc | apply Kd.S_drewN | apply Kd.S_drew));exact Kd.S_mono HO_4.out (fun k_ hk => ⟨trivial,fun e_ => hk e_⟩)));obtain ⟨oki28,ce28,hcl28,hM28,hcc28,hfr28,hoki28,hH28⟩ := Kd.S_elem HX28.out [] (x20_1 : Int) (of_decide_eq_true (by first | (with_reducible assumption) | assumption)) (by have h_ : (x20_1 : Int) < ((x4_1.length : Int) : Int) := of_decide_eq_true (by first | (with_reducible assumption) | assumption);first | exact h_ | (have e_:=(Kd.S_reads' HO_4.out).1;omega) | simpa using h_);obtain ⟨ve28_0,rfl,ge28_0⟩ := hM28;have HP28:=Kd.S_seg hH28 (of_decide_eq_true (by first | (with_reducible assumption) | assumption)) (by have h_ : (x20_1 : Int) < ((x4_1.length : Int) : Int) := of_decide_eq_true (by first | (with_reducible assumption) | assumption);first | exact h_ | (have e_:=(Kd.S_reads' HO_4.out).1;omega) | simpa using h_) (seg := [v152]) (j:=0) (show 1 ≤ 1 from by decide) (x' := y151) (Kd.M_row (Kd.R_mono (Kd.R_tight rfl (Kd.R_mono (ok' := fun k_ => ((fun _ => True)) k_ ∧ k_ ≠ go19) (Kd.R_apart' (HO153.out) (Kd.S_typed HO_4.out) (by decide)) (fun k_ hk => ⟨trivial,fun e_ => (hk.2) (by rw [e_];rfl)⟩))) (fun _ h_ => Or.inr (h_)))) (fun _ hk => hk) (fun k_ hk_ => ((Kd.R_mono (ok' := fun k_ => ((fun _ => True)) k_ ∧ k_ ≠ go19) (Kd.R_apart' (HO153.out) (Kd.S_typed HO_4.out) (by decide)) (fun k_ hk => ⟨trivial,fun e_ => (hk.2) (by rw [e_];rfl)⟩))).1 k_ hk_.symm);have hx28_0:=hcc28 0 _ rfl;(try simp only [show ((Kd.slice 4 Kd.bool)).sz = 1 from rfl,Nat.mul_one,Nat.add_zero] at hx28_0);have hf28_0:=hfr28 0;(try simp only [show ((Kd.slice 4 Kd.bool)).sz = 1 from rfl,Nat.mul_one,Nat.add_zero] at hf28_0);clear hcl28 hcc28 hfr28;(try clear hM28);clear hoki28 hH28;(try simp only [show ((Kd.slice 4 Kd.bool)).sz = 1 from rfl,Nat.mul_one,Nat.add_zero] at HP28)) | ((with_reducible refine gate_store (t:=65) (p:=32) rfl ?_);refine store_event (t:=65) (p:=32) (v:=?vo_w29) (w1:=(w26.setCell ⟨go19,(x20_1 : Int).toNat,none⟩ (v152))) ?hg ?ho ?hn ?hr ?_;(case ho => rfl);(case hg => rfl);(case hn => rfl);(case hr => first | (go_simp;done) | (go_simp;rfl) | (obtain ⟨A_,c_,e_⟩ := Kd.R_slice HO153.out;rw [e_];first | (go_simp;done) | (go_simp;rfl)));intro w29 hw;have hg : w26.grownBy w29 (some go19) := (by rw [hw];exact HP28.2);have hp_ : Kd.S (Kd.slice 4 Kd.bool) 65 w29 w.heap.size (fun _ => True) (.slice (some ⟨go19,0,none⟩) x4_1.length co19) y154:=(by rw [hw,Ny154.out];exact HP28.1);clear HP28;have n0_:=Aside0.mk (Kd.S_over' (v:=(.slice (some ⟨go19,0,none⟩) x4_1.length co19)) (by (with_reducible repeat (first | apply Kd.S_alloc | apply Kd.S_drewN | apply Kd.S_drew));exact HO_3.out) (Kd.S_typed HO_4.out) (by decide) hg);have n1_:=Aside0.mk (hp_);have n2_:=Aside0.mk (blk_grown (g:=gb142) (o := .cells #[.slice A0_0 l0_0.length c0_0,.slice A0_1 l0_1.length c0_1,.int .i64 a0_2,.int .i64 a0_3,.slice (some ad149) l0_4.length c0_4] 26 (0,0)) (by (with_reducible repeat (first | refine blk_drewN ?_ _ | refine blk_drew ?_ | refine blk_alloc ?_ _));exact BK142.out) hg (Kd.S_ne HO_4.out BK142.out (by decide)));have n3_:=Aside0.mk (blk_grown (g:=gb150) (o := .cells #[.int .i64 ((rd_T30 l0_4 x20_1).f0),.slice A149_1 ((rd_T30 l0_4 x20_1).f1).length c149_1] 30 (0,0)) (by (with_reducible repeat (first | refine blk_drewN ?_ _ | refine blk_drew ?_ | refine blk_alloc ?_ _));exact BK150.out) hg (Kd.S_ne HO_4.out BK150.out (by decide)));have n4_:=Aside0.mk ((by rw [hw];exact below_set (HB.out) GB19.out : Below w.heap.size w w29));clear HO_3;clear HO_4;clear BK142;clear BK150;clear HB;clear HO153;have HO_3:=n0_;have HO_4:=n1_;have BK142:=n2_;have BK150:=n3_;have HB:=n4_;clear n0_ n1_ n2_ n3_ n4_;clear hg hw hp_;have hcz30_0 : w29.cell? ⟨gb142,0,none⟩ = some (.slice A0_0 l0_0.length c0_0) := (blk_cell BK142.out 0).trans rfl;have hcz30_1 : w29.cell? ⟨gb142,1,none⟩ = some (.slice A0_1 l0_1.length c0_1) := (blk_cell BK142.out 1).trans rfl;have hcz30_2 : w29.cell? ⟨gb142,2,none⟩ = some (.int .i64 a0_2) := (blk_cell BK142.out 2).trans rfl;have hcz30_3 : w29.cell? ⟨gb142,3,none⟩ = some (.int .i64 a0_3) := (blk_cell BK142.out 3).trans rfl;have hcz30_4 : w29.cell? ⟨gb142,4,none⟩ = some (.slice (some ad149) l0_4.length c0_4) := (blk_cell BK142.out 4).trans rfl;have hfz30_0:=blk_frozen BK142.out 0;have hfz30_1:=blk_frozen BK142.out 1;have hfz30_2:=blk_frozen BK142.out 2;have hfz30_3:=blk_frozen BK142.out 3;have hfz30_4:=blk_frozen BK142.out 4;have hcz31_0 : w29.cell? ⟨gb150,0,none⟩ = some (.int .i64 ((rd_T30 l0_4 x20_1).f0)) := (blk_cell BK150.out 0).trans rfl;have hcz31_1 : w29.cell? ⟨gb150,1,none⟩ = some (.slice A149_1 ((rd_T30 l0_4 x20_1).f1).length c149_1) := (blk_cell BK150.out 1).trans rfl;have hfz31_0:=blk_frozen BK150.out 0;have hfz31_1:=blk_frozen BK150.out 1) | ((with_reducible refine gate_callee (f:=39) rfl ?_);refine goesL_ (some 37) rfl rfl Try.func39 (by kernel_rfl) rfl #[.agg #[.slice A0_0 l0_0.length c0_0,.slice A0_1 l0_1.length c0_1,.int .i64 a0_2,.int .i64 a0_3,.slice (some ad149) l0_4.length c0_4],.slice A149_1 ((rd_T30 l0_4 x20_1).f1).length c149_1] rfl (by (try simp only [List.map_toArray,List.map_cons,List.map_nil]);first | done | rfl | (simp only [List.length_drop,List.length_take];rfl)) ?_;(with_reducible refine (firsts_Of.calls k1 _ _ l0_0 _ _ l0_1 a0_2 a0_3 _ _ l0_4 _ _ ((rd_T30 l0_4 x20_1).f1) t155 t158 _ ?side1 ?side2 ?side3 ?side4 ?side5 ?side6 ?side7 ?side8 A20.out).mono ?_);(case side1 => repeat (first | exact (Kd.C_below HR0_0.out HB.out) | (with_reducible refine Kd.C_alloc ?_ _) | (with_reducible refine Kd.C_drewN ?_ _) | (with_reducible refine Kd.C_drew ?_)));(case side2 => exact HC0_0.out);(case side3 => repeat (first | exact (Kd.C_below HR0_1.out HB.out) | (with_reducible refine Kd.C_alloc ?_ _) | (with_reducible refine Kd.C_drewN ?_ _) | (with_reducible refine Kd.C_drew ?_)));(case side4 => exact HC0_1.out);(case side5 => repeat (first | exact (Kd.C_below HR0_4.out HB.out) | (with_reducible refine Kd.C_alloc ?_ _) | (with_reducible refine Kd.C_drewN ?_ _) | (with_reducible refine Kd.C_drew ?_)));(case side6 => exact HC0_4.out);(case side7 => repeat (first | exact (Kd.C_below HR149_1.out HB.out) | (with_reducible refine Kd.C_alloc ?_ _) | (with_reducible refine Kd.C_drewN ?_ _) | (with_reducible refine Kd.C_drew ?_)));(case side8 => exact HC149_1.out);rintro e w32 ⟨v156,rfl,ho0,hb⟩;refine ⟨_,rfl,?_⟩;have n0_:=Aside0.mk (Kd.S_elder' (by (with_reducible repeat (first | apply Kd.S_alloc | apply Kd.S_drewN | apply Kd.S_drew));exact HO_3.out) (Kd.R_base ho0) hb);have n1_:=Aside0.mk (Kd.S_below (by (with_reducible repeat (first | apply Kd.S_alloc | apply Kd.S_drewN | apply Kd.S_drew));exact HO_4.out) hb);have n2_:=Aside0.mk (Kd.R_lower ho0 (below_size (by repeat (first | (with_reducible first | exact HB.out | apply below_alloc | apply pw_below_drewN | apply below_drew1 | refine below_set ?_ GE142.out | refine below_set ?_ GE150.out) | exact HB.out))));have n3_:=Aside0.mk (blk_below (g:=gb142) (o := .cells #[.slice A0_0 l0_0.length c0_0,.slice A0_1 l0_1.length c0_1,.int .i64 a0_2,.int .i64 a0_3,.slice (some ad149) l0_4.length c0_4] 26 (0,0)) (by (with_reducible repeat (first | refine blk_drewN ?_ _ | refine blk_drew ?_ | refine blk_alloc ?_ _));exact BK142.out) hb);have n4_:=Aside0.mk (blk_below (g:=gb150) (o := .cells #[.int .i64 ((rd_T30 l0_4 x20_1).f0),.slice A149_1 ((rd_T30 l0_4 x20_1).f1).length c149_1] 30 (0,0)) (by (with_reducible repeat (first | refine blk_drewN ?_ _ | refine blk_drew ?_ | refine blk_alloc ?_ _));exact BK150.out) hb);have n5_:=Aside0.mk (below_step (by repeat (first | (with_reducible first | exact HB.out | apply below_alloc | apply pw_below_drewN | apply below_drew1 | refine below_set ?_ GE142.out | refine below_set ?_ GE150.out) | exact HB.out)) hb);clear HO_3;clear HO_4;clear BK142;clear BK150;clear HB;have HO_3:=n0_;have HO_4:=n1_;have HO157:=n2_;have BK142:=n3_;have BK150:=n4_;have HB:=n5_;clear n0_ n1_ n2_ n3_ n4_ n5_;(try clear hb);(try clear hb2);(try clear hk);(try clear hi);(try clear ho0)))
     (try simp only [Act.put,List.setIfInBounds_toArray,List.set_cons_zero,List.set_cons_succ])
     go_cut [7] (fun v7 wc => ∃ (kq : Nat) (x7_20 : List Int),Aside0 (predict_chosen.j1 kq t143 y154 x20_1 x7_20 l0_4 (l0_4.length : Int) x20_1 l0_0 l0_1 a0_2 a0_3 l0_4 = some r) ∧ Aside0 (kq ≤ k1) ∧ Aside0 (Kd.S (Kd.slice 3 (Kd.int .i64)) 43 wc w.heap.size (fun k_ => some k_ ≠ (v7 : Value).ownBlock) v144 t143) ∧ Aside0 (Kd.S (Kd.slice 4 Kd.bool) 65 wc w.heap.size (fun _ => True) (.slice (some ⟨go19,0,none⟩) x4_1.length co19) y154) ∧ Aside0 (Kd.R (Kd.int .i64) 3 wc w.heap.size (fun _ => True) v7 x7_20) ∧ Aside0 (wc.heap[gb142]? = some (.cells #[(.slice A0_0 l0_0.length c0_0),(.slice A0_1 l0_1.length c0_1),.int .i64 a0_2,.int .i64 a0_3,(.slice (some ad149) l0_4.length c0_4)] 26 (0,0))) ∧ Aside0 (wc.heap[gb150]? = some (.cells #[.int .i64 ((rd_T30 l0_4 x20_1).f0),(.slice A149_1 ((rd_T30 l0_4 x20_1).f1).length c149_1)] 30 (0,0))) ∧ Aside0 (Below w.heap.size w wc))
     case first =>
      have H:=HC21.out
      clear HC21
      by_cases c33 : t158 = true
      · subst c33
        have H1 : (if 0 ≤ ((rd_T30 l0_4 x20_1).f0) then (if ((rd_T30 l0_4 x20_1).f0) < (t143.length : Int) then (if t155.length + (rd_L3 t143 ((rd_T30 l0_4 x20_1).f0)).length < 17592186044416 then (predict_chosen.j1 k1 t143 y154 x20_1 (t155 ++ (rd_L3 t143 ((rd_T30 l0_4 x20_1).f0))) l0_4 (l0_4.length : Int) x20_1 l0_0 l0_1 a0_2 a0_3 l0_4) else (none)) else (none)) else (none)) = some r:=by rw [if_pos rfl] at H;exact H
        clear H
        have H:=H1
        clear H1
        by_cases c34 : 0 ≤ ((rd_T30 l0_4 x20_1).f0)
        rotate_left
        · rw [if_neg c34] at H
          exact absurd H (by simp)
        rw [if_pos c34] at H
        have c34b0 : decide (0 ≤ ((rd_T30 l0_4 x20_1).f0)) = true:=decide_eq_true c34
        clear c34
        (first | rw [c34b0] | (simp only [i64_w,i32_w];rw [c34b0]) | skip)
        by_cases c35 : ((rd_T30 l0_4 x20_1).f0) < (t143.length : Int)
        rotate_left
        · rw [if_neg c35] at H
          exact absurd H (by simp)
        rw [if_pos c35] at H
        have c35b0 : decide (((rd_T30 l0_4 x20_1).f0) < (t143.length : Int)) = true:=decide_eq_true c35
        clear c35
        by_cases c36 : t155.length + (rd_L3 t143 ((rd_T30 l0_4 x20_1).f0)).length < 17592186044416
        rotate_left
        · rw [if_neg c36] at H
          exact absurd H (by simp)
        rw [if_pos c36] at H
        have LMc36:=Aside0.mk c36
        clear c36
        obtain ⟨y160,hy160⟩ : ∃ y_ : List Int,y_ = (t155 ++ (rd_L3 t143 ((rd_T30 l0_4 x20_1).f0))) := ⟨_,rfl⟩
        replace H : (predict_chosen.j1 k1 t143 y154 x20_1 y160 l0_4 (l0_4.length : Int) x20_1 l0_0 l0_1 a0_2 a0_3 l0_4) = some r:=by first | (rw [hy160];with_reducible exact H) | (have H2_:=(Option.bind_some _ _).symm.trans H;rw [hy160];with_reducible exact H2_) | (have H2_:=(Option.bind_some _ _).symm.trans H;with_reducible exact H2_) | with_reducible exact H | (rw [hy160];exact H) | exact H
        have Ny160:=Aside0.mk hy160
        clear hy160
        have H' := Aside0.mk H
        clear H
        have hnb37:=NB150_142.out
        have hnc37:=NB142_150.out
        have hcz38_0 : w32.cell? ⟨gb150,0,none⟩ = some (.int .i64 ((rd_T30 l0_4 x20_1).f0)) := (blk_cell BK150.out 0).trans rfl
        have hcz38_1 : w32.cell? ⟨gb150,1,none⟩ = some (.slice A149_1 ((rd_T30 l0_4 x20_1).f1).length c149_1) := (blk_cell BK150.out 1).trans rfl
        have hfz38_0:=blk_frozen BK150.out 0
        have hfz38_1:=blk_frozen BK150.out 1
        obtain ⟨Ao39,co39,eo39⟩ := Kd.S_slice HO_3.out
        subst eo39
        have p159 : 0 ≤ (((rd_T30 l0_4 x20_1).f0) : Int) := of_decide_eq_true (by first | (with_reducible assumption) | assumption)
        have q159 : ((rd_T30 l0_4 x20_1).f0) < (t143.length : Int) := of_decide_eq_true (by first | (with_reducible assumption) | assumption)
        obtain ⟨ad159,A159_0,c159_0,e159,hx159_0,hl159_0,hi159_0⟩ := at_L3 (Kd.S_reads' HO_3.out).2.2 ((rd_T30 l0_4 x20_1).f0) p159 q159
        cases e159
        obtain ⟨ce159,hce159,hMe159,hcc159⟩ := Kd.S_get HO_3.out [] ((rd_T30 l0_4 x20_1).f0) p159 (by first | exact q159 | exact of_decide_eq_true (by first | (with_reducible assumption) | assumption) | (have e_:=(Kd.S_reads' HO_3.out).1;omega))
        obtain ⟨ve159_0,rfl,ge159_0⟩ := hMe159
        have hv159_0:=hcc159 0 _ rfl
        rw [Nat.add_zero,show ((Kd.slice 3 (Kd.int .i64))).sz = 1 from rfl,Nat.mul_one] at hv159_0
        replace hv159_0:=Option.some.inj (hv159_0.symm.trans hx159_0)
        rw [hv159_0] at ge159_0
        have HL159_0:=Aside0.mk (show Kd.R (Kd.int .i64) 3 _ _ _ _ (rd_L3 t143 ((rd_T30 l0_4 x20_1).f0)) from ge159_0)
        clear hv159_0 ge159_0
        have HX159_0:=Aside0.mk hx159_0
        clear hcc159 hce159
        have HR159_0:=Aside0.mk hi159_0
        have HC159_0:=Aside0.mk hl159_0
        clear hi159_0 hl159_0
        replace p159:=eq_true p159
        replace q159:=eq_true q159
        go_wp2_with (first | ((with_reducible refine gate_builtin (b := .append) (xs:=#[.tmp 41,.tmp 46]) rfl ?_);at_builtin;refine Kd.R_append_rows (Kd.int .i64) (w0:=w) w.heap.size rfl (.tmp 41) (.tmp 46) 43 3 (.int .i64 0) 8 rfl Try.underlying43 info3 rfl (by decide) (by omega) v156 t155 (rd_L3 t143 ((rd_T30 l0_4 x20_1).f0)) _ _ _ (fun _ => True) (fun _ => False) rfl rfl ?aO ?aR (fun _ _ h => h) (fun _ h => h.elim) ?aF ?aB ?aS ?aL ?_;(case aR => repeat (first | exact (by repeat (first | (with_reducible exact HR159_0.out) | (with_reducible refine Kd.C_alloc ?_ _) | (with_reducible refine Kd.C_drewN ?_ _) | (with_reducible refine Kd.C_drew ?_) | exact HR159_0.out)) | (with_reducible refine Kd.C_alloc ?_ _) | (with_reducible refine Kd.C_drewN ?_ _) | (with_reducible refine Kd.C_drew ?_)));(case aB => exact (by repeat (first | (with_reducible first | exact HB.out | apply below_alloc | apply pw_below_drewN | apply below_drew1 | refine below_set ?_ GE142.out | refine below_set ?_ GE150.out) | exact HB.out)));(case aF => exact (fun _ _ => trivial));(case aO => exact (by (with_reducible repeat (first | apply Kd.R_alloc | apply Kd.R_drewN | apply Kd.R_drew));exact HO157.out));(case aS => exact (below_size (by repeat (first | (with_reducible first | exact HB.out | apply below_alloc | apply pw_below_drewN | apply below_drew1 | refine below_set ?_ GE142.out | refine below_set ?_ GE150.out) | exact HB.out))));(case aL => have:=LMc36.out;omega);intro v161 w40 ho hb hg hat;rw [← Ny160.out] at ho;have n0_:=Aside0.mk (Kd.S_after (ok:=(fun _ => True)) (by (with_reducible repeat (first | apply Kd.S_alloc | apply Kd.S_drewN | apply Kd.S_drew));exact HO_3.out) hg hat);have n1_:=Aside0.mk (Kd.S_over' (by (with_reducible repeat (first | apply Kd.S_alloc | apply Kd.S_drewN | apply Kd.S_drew));exact HO_4.out) (Kd.R_typed (by (with_reducible repeat (first | apply Kd.R_alloc | apply Kd.R_drewN | apply Kd.R_drew));exact HO157.out)) (by decide) hg);have n2_:=Aside0.mk (blk_grown (g:=gb142) (o := .cells #[.slice A0_0 l0_0.length c0_0,.slice A0_1 l0_1.length c0_1,.int .i64 a0_2,.int .i64 a0_3,.slice (some ad149) l0_4.length c0_4] 26 (0,0)) (by (with_reducible repeat (first | refine blk_drewN ?_ _ | refine blk_drew ?_ | refine blk_alloc ?_ _));exact BK142.out) hg (Kd.R_ne HO157.out BK142.out (by decide)));have n3_:=Aside0.mk (blk_grown (g:=gb150) (o := .cells #[.int .i64 ((rd_T30 l0_4 x20_1).f0),.slice A149_1 ((rd_T30 l0_4 x20_1).f1).length c149_1] 30 (0,0)) (by (with_reducible repeat (first | refine blk_drewN ?_ _ | refine blk_drew ?_ | refine blk_alloc ?_ _));exact BK150.out) hg (Kd.R_ne HO157.out BK150.out (by decide)));have n4_:=Aside0.mk (Kd.R_after (ok:=(fun k_ => some k_ ≠ (.slice (some ad159) t143.length co39 : Value).ownBlock)) (by (with_reducible repeat (first | apply Kd.R_alloc | apply Kd.R_drewN | apply Kd.R_drew));exact Kd.R_mono HL159_0.out (fun _ hk => ⟨hk.2,hk.1.2⟩)) hg hat);have n5_:=Aside0.mk (hb);have n6_:=Aside0.mk (ho);clear HO_3;clear HO_4;clear BK142;clear BK150;clear HL159_0;clear HB;clear HO157;have HO_3:=n0_;have HO_4:=n1_;have BK142:=n2_;have BK150:=n3_;have HL159_0:=n4_;have HB:=n5_;have HO162:=n6_;clear n0_ n1_ n2_ n3_ n4_ n5_ n6_;clear ho hb hg hat))
        go_meet
        case rel => exact ⟨_,(y160),H',⟨by have:=HK1.out;first | omega | exact Nat.le_refl _⟩,⟨by (with_reducible repeat (first | apply Kd.S_alloc | apply Kd.S_drewN | apply Kd.S_drew));exact Kd.S_mono HO_3.out (fun _ hk => hk.2)⟩,⟨by (with_reducible repeat (first | apply Kd.S_alloc | apply Kd.S_drewN | apply Kd.S_drew));exact HO_4.out⟩,⟨by (with_reducible repeat (first | apply Kd.R_alloc | apply Kd.R_drewN | apply Kd.R_drew));exact HO162.out⟩,⟨by (with_reducible repeat (first | refine blk_drewN ?_ _ | refine blk_drew ?_ | refine blk_alloc ?_ _));exact BK142.out⟩,⟨by (with_reducible repeat (first | refine blk_drewN ?_ _ | refine blk_drew ?_ | refine blk_alloc ?_ _));exact BK150.out⟩,⟨by repeat (first | (with_reducible first | exact HB.out | apply below_alloc | apply pw_below_drewN | apply below_drew1 | refine below_set ?_ GE142.out | refine below_set ?_ GE150.out) | exact HB.out)⟩⟩
      · replace c33:=Bool.eq_false_iff.mpr c33
        subst c33
        have H1 : (predict_chosen.j1 k1 t143 y154 x20_1 t155 l0_4 (l0_4.length : Int) x20_1 l0_0 l0_1 a0_2 a0_3 l0_4) = some r:=by rw [if_neg (show ¬ (false = true) by decide)] at H;exact H
        clear H
        have H:=H1
        clear H1
        have H' := Aside0.mk H
        clear H
        go_wp2
        go_meet
        case rel => exact ⟨_,(t155),H',⟨by have:=HK1.out;first | omega | exact Nat.le_refl _⟩,⟨by (with_reducible repeat (first | apply Kd.S_alloc | apply Kd.S_drewN | apply Kd.S_drew));exact Kd.S_mono HO_3.out (fun _ hk => hk.2)⟩,⟨by (with_reducible repeat (first | apply Kd.S_alloc | apply Kd.S_drewN | apply Kd.S_drew));exact HO_4.out⟩,⟨by (with_reducible repeat (first | apply Kd.R_alloc | apply Kd.R_drewN | apply Kd.R_drew));exact HO157.out⟩,⟨by (with_reducible repeat (first | refine blk_drewN ?_ _ | refine blk_drew ?_ | refine blk_alloc ?_ _));exact BK142.out⟩,⟨by (with_reducible repeat (first | refine blk_drewN ?_ _ | refine blk_drew ?_ | refine blk_alloc ?_ _));exact BK150.out⟩,⟨by repeat (first | (with_reducible first | exact HB.out | apply below_alloc | apply pw_below_drewN | apply below_drew1 | refine below_set ?_ GE142.out | refine below_set ?_ GE150.out) | exact HB.out)⟩⟩
     case rest =>
      clear HC21
      (try clear c1);(try clear p1);(try clear q1);(try clear hx1);(try clear hf1);(try clear c2);(try clear p2);(try clear hx2);(try clear hf2);(try clear c3);(try clear c3b0);(try clear c3b1);(try clear c4);(try clear c4b0);(try clear c4b1);(try clear p6);(try clear c12);(try clear c12b0);(try clear c13);(try clear c13b0);(try clear c14);(try clear c14b0);(try clear p14);(try clear q14);(try clear hx14)
      (try clear c15);(try clear p15);(try clear q15);(try clear hx15);(try clear c16);(try clear c16b0);(try clear c16b1);(try clear c17);(try clear c17b0);(try clear c17b1);(try clear c18);(try clear c18b0);(try clear c19);(try clear p19);(try clear q19);(try clear hx19);(try clear hf19);(try clear c23);(try clear c28);(try clear hx28);(try clear hf28);(try clear c33);(try clear c34);(try clear c34b0)
      (try clear c35);(try clear c35b0);(try clear c36);(try clear c37);(try clear c38);(try clear c39);(try clear hcz11_0);(try clear hcz11_1);(try clear hcz11_2);(try clear hcz11_3);(try clear hcz11_4);(try clear hcz24_0);(try clear hcz24_1);(try clear hcz25_0);(try clear hcz25_1);(try clear hcz25_2);(try clear hcz25_3);(try clear hcz25_4);(try clear hcz30_0);(try clear hcz30_1);(try clear hcz30_2);(try clear hcz30_3)
      (try clear hcz30_4);(try clear hcz31_0);(try clear hcz31_1);(try clear hcz38_0);(try clear hcz38_1);(try clear hcz6_0);(try clear hcz6_1);(try clear hcz6_2);(try clear hcz6_3);(try clear hcz6_4);(try clear hcz8_0);(try clear hcz8_1);(try clear hcz8_2);(try clear hcz8_3);(try clear hcz8_4);(try clear hfz11_0);(try clear hfz11_1);(try clear hfz11_2);(try clear hfz11_3);(try clear hfz11_4);(try clear hfz24_0)
      (try clear hfz24_1);(try clear hfz25_0);(try clear hfz25_1);(try clear hfz25_2);(try clear hfz25_3);(try clear hfz25_4);(try clear hfz30_0);(try clear hfz30_1);(try clear hfz30_2);(try clear hfz30_3);(try clear hfz30_4);(try clear hfz31_0);(try clear hfz31_1);(try clear hfz38_0);(try clear hfz38_1);(try clear hfz6_0);(try clear hfz6_1);(try clear hfz6_2);(try clear hfz6_3);(try clear hfz6_4);(try clear hfz8_0)
      (try clear hfz8_1);(try clear hfz8_2);(try clear hfz8_3);(try clear hfz8_4);(try clear hx149_0);(try clear hx149_1);(try clear hx159_0);(try clear hx19_0);(try clear hx28_0);(try clear p149);(try clear p159);(try clear p19);(try clear p2);(try clear q149);(try clear q159);(try clear q19)
      obtain ⟨kq,x7_20,HA,HJ20,HO_3,HO_4,HO_7,BK142,BK150,HB⟩ := hcut
      have hl4_20:=(Kd.S_reads' HO_4.out).1
      rw [hl4_20] at HO_4
      (try simp only [hl4_20])
      (try simp only [hl4_20] at BK142)
      (try simp only [hl4_20] at BK150)
      (try simp only [hl4_20] at HO_3)
      (try simp only [hl4_20] at HO_7)
      cases kq with
      | zero => exact absurd HA.out (by simp [predict_chosen.j1])
      | succ kj20 =>
       have H:=HA.out
       clear HA
       simp only [predict_chosen.j1] at H
       have H' := Aside0.mk H
       clear H
       obtain ⟨Ao41,co41,eo41⟩ := Kd.R_slice HO_7.out
       subst eo41
       go_wp2
       go_loopg [50] kj20 (fun kq v50 w' => ∃ (x4_3 : List (List Bool)) (x50_3 : Int),v50 = .int .i64 x50_3 ∧ Aside0 (predict_chosen.l1 kq t143 x4_3 x20_1 l0_4 (l0_4.length : Int) x20_1 x7_20 (x7_20.length : Int) x50_3 l0_0 l0_1 a0_2 a0_3 l0_4 = some r) ∧ Aside0 (kq ≤ kj20) ∧ Aside0 (Kd.S (Kd.slice 3 (Kd.int .i64)) 43 w' w.heap.size (fun k_ => some k_ ≠ ((.slice Ao41 x7_20.length co41) : Value).ownBlock) v144 t143) ∧ Aside0 (Kd.S (Kd.slice 4 Kd.bool) 65 w' w.heap.size (fun _ => True) (.slice (some ⟨go19,0,none⟩) y154.length co19) x4_3) ∧ Aside0 (Kd.R (Kd.int .i64) 3 w' w.heap.size (fun _ => True) (.slice Ao41 x7_20.length co41) x7_20) ∧ Aside0 (w'.heap[gb142]? = some (.cells #[(.slice A0_0 l0_0.length c0_0),(.slice A0_1 l0_1.length c0_1),.int .i64 a0_2,.int .i64 a0_3,(.slice (some ad149) l0_4.length c0_4)] 26 (0,0))) ∧ Aside0 (w'.heap[gb150]? = some (.cells #[.int .i64 ((rd_T30 l0_4 x20_1).f0),(.slice A149_1 ((rd_T30 l0_4 x20_1).f1).length c149_1)] 30 (0,0))) ∧ Aside0 (Below w.heap.size w w'))
       case atStart => exact ⟨(y154),(0),(by first | rfl | (simp;done) | (simp [*];done)),H',⟨Nat.le_refl _⟩,⟨by (try simp only [hl4_20]);(with_reducible repeat (first | apply Kd.S_alloc | apply Kd.S_drewN | apply Kd.S_drew));exact HO_3.out⟩,⟨by (try simp only [hl4_20]);(with_reducible repeat (first | apply Kd.S_alloc | apply Kd.S_drewN | apply Kd.S_drew));exact HO_4.out⟩,⟨by (try simp only [hl4_20]);(with_reducible repeat (first | apply Kd.R_alloc | apply Kd.R_drewN | apply Kd.R_drew));exact HO_7.out⟩,⟨by (try simp only [hl4_20]);(with_reducible repeat (first | refine blk_drewN ?_ _ | refine blk_drew ?_ | refine blk_alloc ?_ _));exact BK142.out⟩,⟨by (try simp only [hl4_20]);(with_reducible repeat (first | refine blk_drewN ?_ _ | refine blk_drew ?_ | refine blk_alloc ?_ _));exact BK150.out⟩,⟨by repeat (first | (with_reducible first | exact HB.out | apply below_alloc | apply pw_below_drewN | apply below_drew1 | refine below_set ?_ GE142.out | refine below_set ?_ GE150.out) | exact HB.out)⟩⟩
       case round =>
        clear H'
        (try clear c1);(try clear p1);(try clear q1);(try clear hx1);(try clear hf1);(try clear c2);(try clear p2);(try clear hx2);(try clear hf2);(try clear c3);(try clear c3b0);(try clear c3b1);(try clear c4);(try clear c4b0);(try clear c4b1);(try clear p6);(try clear c12);(try clear c12b0);(try clear c13);(try clear c13b0);(try clear c14);(try clear c14b0);(try clear p14);(try clear q14);(try clear hx14)
        (try clear c15);(try clear p15);(try clear q15);(try clear hx15);(try clear c16);(try clear c16b0);(try clear c16b1);(try clear c17);(try clear c17b0);(try clear c17b1);(try clear c18);(try clear c18b0);(try clear c19);(try clear p19);(try clear q19);(try clear hx19);(try clear hf19);(try clear c23);(try clear c28);(try clear hx28);(try clear hf28);(try clear c33);(try clear c34);(try clear c34b0)
        (try clear c35);(try clear c35b0);(try clear c36);(try clear c37);(try clear c38);(try clear c39);(try clear hcz11_0);(try clear hcz11_1);(try clear hcz11_2);(try clear hcz11_3);(try clear hcz11_4);(try clear hcz24_0);(try clear hcz24_1);(try clear hcz25_0);(try clear hcz25_1);(try clear hcz25_2);(try clear hcz25_3);(try clear hcz25_4);(try clear hcz30_0);(try clear hcz30_1);(try clear hcz30_2);(try clear hcz30_3)
        (try clear hcz30_4);(try clear hcz31_0);(try clear hcz31_1);(try clear hcz38_0);(try clear hcz38_1);(try clear hcz6_0);(try clear hcz6_1);(try clear hcz6_2);(try clear hcz6_3);(try clear hcz6_4);(try clear hcz8_0);(try clear hcz8_1);(try clear hcz8_2);(try clear hcz8_3);(try clear hcz8_4);(try clear hfz11_0);(try clear hfz11_1);(try clear hfz11_2);(try clear hfz11_3);(try clear hfz11_4);(try clear hfz24_0)
        (try clear hfz24_1);(try clear hfz25_0);(try clear hfz25_1);(try clear hfz25_2);(try clear hfz25_3);(try clear hfz25_4);(try clear hfz30_0);(try clear hfz30_1);(try clear hfz30_2);(try clear hfz30_3);(try clear hfz30_4);(try clear hfz31_0);(try clear hfz31_1);(try clear hfz38_0);(try clear hfz38_1);(try clear hfz6_0);(try clear hfz6_1);(try clear hfz6_2);(try clear hfz6_3);(try clear hfz6_4);(try clear hfz8_0)
        (try clear hfz8_1);(try clear hfz8_2);(try clear hfz8_3);(try clear hfz8_4);(try clear hx149_0);(try clear hx149_1);(try clear hx159_0);(try clear hx19_0);(try clear hx28_0);(try clear p1);(try clear p14);(try clear p149);(try clear p15);(try clear p159);(try clear p19);(try clear p2);(try clear p6);(try clear q1);(try clear q14);(try clear q149);(try clear q15);(try clear q159);(try clear q19)
        obtain ⟨x4_3,x50_3,rfl,HA,HK3,HO_3,HO_4,HO_48,BK142,BK150,HB⟩ := hrel
        have hl4_3:=(Kd.S_reads' HO_4.out).1
        rw [hl4_3] at HO_4
        (try simp only [hl4_3])
        (try simp only [hl4_3] at BK142)
        (try simp only [hl4_3] at BK150)
        (try simp only [hl4_3] at HO_3)
        (try simp only [hl4_3] at HO_48)
        cases gk with
        | zero => exact absurd HA.out (by simp [predict_chosen.l1])
        | succ k3 =>
         have H:=HA.out
         clear HA
         simp only [predict_chosen.l1] at H
         by_cases c42 : x50_3 < (x7_20.length : Int)
         · rw [if_pos c42] at H
           have c42b0 : decide (x50_3 < (x7_20.length : Int)) = true:=decide_eq_true c42
           (try (have c42z0:=c42b0;simp only [hl4_20,hl4_3] at c42z0))
           clear c42
           by_cases c43 : 0 ≤ x50_3
           rotate_left
           · rw [if_neg c43] at H
             exact absurd H (by simp)
           rw [if_pos c43] at H
           have c43b0 : decide (0 ≤ x50_3) = true:=decide_eq_true c43
           clear c43
           by_cases c44 : x50_3 < (x7_20.length : Int)
           rotate_left
           · rw [if_neg c44] at H
             exact absurd H (by simp)
           rw [if_pos c44] at H
           have c44b0 : decide (x50_3 < (x7_20.length : Int)) = true:=decide_eq_true c44
           (try (have c44z0:=c44b0;simp only [hl4_20,hl4_3] at c44z0))
           clear c44
           by_cases c45 : 0 ≤ x20_1
           rotate_left
           · rw [if_neg c45] at H
             exact absurd H (by simp)
           rw [if_pos c45] at H
           have c45b0 : decide (0 ≤ x20_1) = true:=decide_eq_true c45
           clear c45
           by_cases c46 : x20_1 < (x4_3.length : Int)
           rotate_left
           · rw [if_neg c46] at H
             exact absurd H (by simp)
           rw [if_pos c46] at H
           have c46b0 : decide (x20_1 < (x4_3.length : Int)) = true:=decide_eq_true c46
           (try (have c46z0:=c46b0;simp only [hl4_20,hl4_3] at c46z0))
           clear c46
           by_cases c47 : 0 ≤ (rd x7_20 x50_3)
           rotate_left
           · rw [if_neg c47] at H
             exact absurd H (by simp)
           rw [if_pos c47] at H
           have c47b0 : decide (0 ≤ (rd x7_20 x50_3)) = true:=decide_eq_true c47
           clear c47
           by_cases c48 : (rd x7_20 x50_3) < ((rd_L13 x4_3 x20_1).length : Int)
           rotate_left
           · rw [if_neg c48] at H
             exact absurd H (by simp)
           rw [if_pos c48] at H
           have c48b0 : decide ((rd x7_20 x50_3) < ((rd_L13 x4_3 x20_1).length : Int)) = true:=decide_eq_true c48
           (try (have c48z0:=c48b0;simp only [hl4_20,hl4_3] at c48z0))
           clear c48
           obtain ⟨y165,hy165⟩ : ∃ y_ : List Bool,y_ = ((rd_L13 x4_3 x20_1).set ((rd x7_20 x50_3) : Int).toNat true) := ⟨_,rfl⟩
           replace H : (predict_chosen.l1 k3 t143 (x4_3.set (x20_1 : Int).toNat y165) x20_1 l0_4 (l0_4.length : Int) x20_1 x7_20 (x7_20.length : Int) (wrap64 (x50_3 + 1)) l0_0 l0_1 a0_2 a0_3 l0_4) = some r:=by first | (rw [hy165];with_reducible exact H) | (have H2_:=(Option.bind_some _ _).symm.trans H;rw [hy165];with_reducible exact H2_) | (have H2_:=(Option.bind_some _ _).symm.trans H;with_reducible exact H2_) | with_reducible exact H | (rw [hy165];exact H) | exact H
           have Ny165:=Aside0.mk hy165
           clear hy165
           obtain ⟨y167,hy167⟩ : ∃ y_ : List (List Bool),y_ = (x4_3.set (x20_1 : Int).toNat y165) := ⟨_,rfl⟩
           replace H : (predict_chosen.l1 k3 t143 y167 x20_1 l0_4 (l0_4.length : Int) x20_1 x7_20 (x7_20.length : Int) (wrap64 (x50_3 + 1)) l0_0 l0_1 a0_2 a0_3 l0_4) = some r:=by first | (rw [hy167];with_reducible exact H) | (have H2_:=(Option.bind_some _ _).symm.trans H;rw [hy167];with_reducible exact H2_) | (have H2_:=(Option.bind_some _ _).symm.trans H;with_reducible exact H2_) | with_reducible exact H | (rw [hy167];exact H) | exact H
           have Ny167:=Aside0.mk hy167
           clear hy167
           have H' := Aside0.mk H
           clear H
           have p163 : 0 ≤ (x50_3 : Int) := of_decide_eq_true (by first | (with_reducible assumption) | assumption)
           have q163 : x50_3 < (x7_20.length : Int) := of_decide_eq_true (by first | (with_reducible assumption) | assumption)
           obtain ⟨ad163,e163,hx163_0⟩ := Kd.at_int (Kd.R_reads' HO_48.out).2.2 x50_3 p163 q163
           cases e163
           replace p163:=eq_true p163
           replace q163:=eq_true q163
           have p164 : 0 ≤ (x20_1 : Int) := of_decide_eq_true (by first | (with_reducible assumption) | assumption)
           have q164 : x20_1 < (x4_3.length : Int) := of_decide_eq_true (by first | (with_reducible assumption) | assumption)
           obtain ⟨ad164,A164_0,c164_0,e164,hx164_0,hl164_0,hi164_0⟩ := at_L13 (Kd.S_reads' HO_4.out).2.2 x20_1 p164 q164
           obtain rfl : (⟨go19,0,none⟩ : Addr) = ad164:=(by injection e164)
           obtain ⟨ce164,hce164,hMe164,hcc164⟩ := Kd.S_get HO_4.out [] x20_1 p164 (by first | exact q164 | exact of_decide_eq_true (by first | (with_reducible assumption) | assumption) | (have e_:=(Kd.S_reads' HO_4.out).1;omega))
           obtain ⟨ve164_0,rfl,ge164_0⟩ := hMe164
           have hv164_0:=hcc164 0 _ rfl
           rw [Nat.add_zero,show ((Kd.slice 4 Kd.bool)).sz = 1 from rfl,Nat.mul_one] at hv164_0
           replace hv164_0:=Option.some.inj (hv164_0.symm.trans hx164_0)
           rw [hv164_0] at ge164_0
           have HL164_0:=Aside0.mk (show Kd.R Kd.bool 4 _ _ _ _ (rd_L13 x4_3 x20_1) from ge164_0)
           clear hv164_0 ge164_0
           have HX164_0:=Aside0.mk hx164_0
           clear hcc164 hce164
           (first | simp only [add_plain] at hx164_0 | simp only [add_at] at hx164_0 | simp only [Addr.add,Nat.zero_add] at hx164_0 | skip)
           have HR164_0:=Aside0.mk hi164_0
           have HC164_0:=Aside0.mk hl164_0
           clear hi164_0 hl164_0
           replace p164:=eq_true p164
           replace q164:=eq_true q164
           have p49 : 0 ≤ ((rd x7_20 x50_3) : Int) := of_decide_eq_true (by first | (with_reducible assumption) | assumption)
           have q49 : ((rd x7_20 x50_3) : Int) < (((rd_L13 x4_3 x20_1).length : Int) : Int) := of_decide_eq_true (by first | (with_reducible assumption) | assumption)
           obtain ⟨go49,co49,eo49,gb49,gl49,cl49,HG49⟩ := Kd.R_form HL164_0.out (by omega)
           (first | cases eo49 | (injection eo49 with ea_ en_ ec_;(first | subst ea_ | (injection ea_ with ea_;subst ea_));subst ec_;clear en_))
           have GB49:=Aside0.mk gb49
           have GG49:=Aside0.mk HG49
           clear gb49 gl49 HG49
           obtain ⟨hx49_0,hf49_0⟩ := Kd.R_celln false HL164_0.out ((rd x7_20 x50_3) : Int) p49 q49
           replace p49:=eq_true p49
           replace q49:=eq_true q49
           have hq50 : (x20_1 : Int) < (x4_3.length : Int) := (by have h_ : (x20_1 : Int) < ((x4_3.length : Int) : Int) := of_decide_eq_true (by first | (with_reducible assumption) | assumption);first | exact h_ | (have e_:=(Kd.S_reads' HO_4.out).1;omega) | simpa only [List.length_set,List.length_set] using h_)
           obtain ⟨oki50,ce50,hcl50,hM50,hcc50,hok50,hbk50⟩ := Kd.S_borrow HO_4.out [] (x20_1 : Int) (of_decide_eq_true (by first | (with_reducible assumption) | assumption)) hq50
           obtain ⟨ve50_0,rfl,ge50_0⟩ := hM50
           have hv50:=hcc50 0 _ rfl
           rw [Nat.add_zero,show ((Kd.slice 4 Kd.bool)).sz = 1 from rfl,Nat.mul_one] at hv50
           replace hv50:=Option.some.inj (hv50.symm.trans HX164_0.out)
           subst hv50
           clear hcc50 hcl50
           replace ge50_0:=(show Kd.R Kd.bool 4 _ _ _ _ (rd_L13 x4_3 x20_1) from ge50_0)
           have HP50:=Kd.R_putg ge50_0 ((rd x7_20 x50_3) : Int) true
           go_wp2_with (first | ((with_reducible refine gate_store (t:=4) (p:=59) rfl ?_);refine store_event (t:=4) (p:=59) (v:=?vo_w51) (w1:=(wr.setCell ⟨go49,((rd x7_20 x50_3) : Int).toNat,none⟩ (.bool true))) ?hg ?ho ?hn ?hr ?_;(case ho => rfl);(case hg => rfl);(case hn => rfl);(case hr => first | (go_simp;done) | (go_simp;rfl));intro w51 hw;have hg : wr.grownBy w51 (some go49) := (by rw [hw];exact HP50.2);have hz_ : Kd.R Kd.bool 4 w51 w.heap.size oki50 (.slice (some ⟨go49,0,none⟩) (rd_L13 x4_3 x20_1).length c164_0) y165:=(by rw [hw,Ny165.out];exact HP50.1);have hp_ : Kd.S (Kd.slice 4 Kd.bool) 65 w51 w.heap.size (fun _ => True) (.slice (some ⟨go19,0,none⟩) x4_3.length co19) y167:=(by rw [Ny167.out];exact hbk50 hg (fun k_ e_ => by injection e_ with e_;subst e_;exact ge50_0.1 _ rfl) (Kd.M_row hz_));have hm_:=Kd.R_mono hz_ hok50;clear HP50 hbk50;have n0_:=Aside0.mk (Kd.S_over' (v:=(.slice (some ⟨go49,0,none⟩) (rd_L13 x4_3 x20_1).length c164_0)) (by (with_reducible repeat (first | apply Kd.S_alloc | apply Kd.S_drewN | apply Kd.S_drew));exact HO_3.out) (Kd.R_typed HL164_0.out) (by decide) hg);have n1_:=Aside0.mk (hp_);have n2_:=Aside0.mk (Kd.R_over' (v:=(.slice (some ⟨go49,0,none⟩) (rd_L13 x4_3 x20_1).length c164_0)) (by (with_reducible repeat (first | apply Kd.R_alloc | apply Kd.R_drewN | apply Kd.R_drew));exact HO_48.out) (Kd.R_typed HL164_0.out) (by decide) hg);have n3_:=Aside0.mk (blk_grown (g:=gb142) (o := .cells #[.slice A0_0 l0_0.length c0_0,.slice A0_1 l0_1.length c0_1,.int .i64 a0_2,.int .i64 a0_3,.slice (some ad149) l0_4.length c0_4] 26 (0,0)) (by (with_reducible repeat (first | refine blk_drewN ?_ _ | refine blk_drew ?_ | refine blk_alloc ?_ _));exact BK142.out) hg (Kd.R_ne HL164_0.out BK142.out (by decide)));have n4_:=Aside0.mk (blk_grown (g:=gb150) (o := .cells #[.int .i64 ((rd_T30 l0_4 x20_1).f0),.slice A149_1 ((rd_T30 l0_4 x20_1).f1).length c149_1] 30 (0,0)) (by (with_reducible repeat (first | refine blk_drewN ?_ _ | refine blk_drew ?_ | refine blk_alloc ?_ _));exact BK150.out) hg (Kd.R_ne HL164_0.out BK150.out (by decide)));have n5_:=Aside0.mk ((by rw [hw];exact below_set (HB.out) GB49.out : Below w.heap.size w w51));have n6_:=Aside0.mk (hm_);have n7_:=Aside0.mk ((Kd.R_reads' hm_).2.1);clear HO_3;clear HO_4;clear HO_48;clear BK142;clear BK150;clear HB;clear HL164_0;have HO_3:=n0_;have HO_4:=n1_;have HO_48:=n2_;have BK142:=n3_;have BK150:=n4_;have HB:=n5_;have HL168:=n6_;have HC166:=n7_;clear n0_ n1_ n2_ n3_ n4_ n5_ n6_ n7_;clear hg hw hp_ hz_ hm_ hok50))
           (try simp only [← hl4_3])
           go_roundg k3
           case measure => have:=HK1.out;have:=HJ20.out;have:=HK3.out;omega
           case rel => exact ⟨(y167),(wrap64 (x50_3 + 1)),(by first | rfl | (simp;done) | (simp [*];done)),H',⟨by have:=HK1.out;have:=HJ20.out;have:=HK3.out;omega⟩,⟨by (try simp only [hl4_20]);(try simp only [hl4_3]);(with_reducible repeat (first | apply Kd.S_alloc | apply Kd.S_drewN | apply Kd.S_drew));exact HO_3.out⟩,⟨by (try simp only [hl4_20]);(try simp only [hl4_3]);(with_reducible repeat (first | apply Kd.S_alloc | apply Kd.S_drewN | apply Kd.S_drew));exact HO_4.out⟩,⟨by (try simp only [hl4_20]);(try simp only [hl4_3]);(with_reducible repeat (first | apply Kd.R_alloc | apply Kd.R_drewN | apply Kd.R_drew));exact HO_48.out⟩,⟨by (try simp only [hl4_20]);(try simp only [hl4_3]);(with_reducible repeat (first | refine blk_drewN ?_ _ | refine blk_drew ?_ | refine blk_alloc ?_ _));exact BK142.out⟩,⟨by (try simp only [hl4_20]);(try simp only [hl4_3]);(with_reducible repeat (first | refine blk_drewN ?_ _ | refine blk_drew ?_ | refine blk_alloc ?_ _));exact BK150.out⟩,⟨by repeat (first | (with_reducible first | exact HB.out | apply below_alloc | apply pw_below_drewN | apply below_drew1 | refine below_set ?_ GE142.out | refine below_set ?_ GE150.out) | exact HB.out)⟩⟩
         · rw [if_neg c42] at H
           have c42b0 : decide (x50_3 < (x7_20.length : Int)) = false:=decide_eq_false c42
           (try (have c42z0:=c42b0;simp only [hl4_20,hl4_3] at c42z0))
           clear c42
           have H' := Aside0.mk H
           clear H
           go_wp2
           (try simp only [← hl4_20,← hl4_3])
           go_roundg k3
           case measure => have:=HK1.out;have:=HJ20.out;have:=HK3.out;omega
           case rel => exact ⟨(x4_3),(wrap64 (x20_1 + 1)),(by first | rfl | (simp;done) | (simp [*];done)),H',⟨by have:=HK1.out;have:=HJ20.out;have:=HK3.out;omega⟩,⟨by (try simp only [hl4_20]);(try simp only [hl4_3]);(with_reducible repeat (first | apply Kd.S_alloc | apply Kd.S_drewN | apply Kd.S_drew));exact Kd.S_mono HO_3.out (fun _ hk => trivial)⟩,⟨by (try simp only [hl4_20]);(try simp only [hl4_3]);(with_reducible repeat (first | apply Kd.S_alloc | apply Kd.S_drewN | apply Kd.S_drew));exact HO_4.out⟩,⟨by (try simp only [hl4_20]);(try simp only [hl4_3]);(with_reducible repeat (first | refine blk_drewN ?_ _ | refine blk_drew ?_ | refine blk_alloc ?_ _));exact BK142.out⟩,⟨by repeat (first | (with_reducible first | exact HB.out | apply below_alloc | apply pw_below_drewN | apply below_drew1 | refine below_set ?_ GE142.out | refine below_set ?_ GE150.out) | exact HB.out)⟩⟩
   · rw [if_neg c12] at H
     have c12b0 : decide (x20_1 < (l0_4.length : Int)) = false:=decide_eq_false c12
     clear c12
     obtain rfl:=Option.some.inj H
     go_wp2
     go_ret
     exact ⟨_,by first | rfl | (simp [errW_none,errW_some] <;> rfl) | (simp [*,errW_none,errW_some] <;> rfl),by (with_reducible repeat (first | apply Kd.S_alloc | apply Kd.S_drewN | apply Kd.S_drew));exact HO_4.out,by repeat (first | (with_reducible first | exact HB.out | apply below_alloc | apply pw_below_drewN | apply below_drew1 | refine below_set ?_ GE142.out) | exact HB.out)⟩
end Go.Proofs.Ytfdcfihcfegekaa.P
end

section
namespace Go.Proofs.Ytfdcfihcfegekaa.P
open Go.RowKit Go.Proofs.YtfdcfihcfegekaaW.PrintWords Go.Proofs.YtfdcfihcfegekaaW.PrintLast Go.Proofs.YtfdcfihcfegekaaW.PrintMore Go.Proofs.Ytfdcfihcfegekaa.R
set_option linter.unusedVariables false
set_option linter.unusedSimpArgs false
def prStep (b : List (List Bool)) (r look i : Nat) (p : S30) (st : Int × List (S50)) : Int × List (S50) :=
  if p.f0 = (r : Int) ∧ (b.getD i []).getD look false = true then (if st.1 < 0 then ((i : Int),st.2) else (st.1,st.2 ++ [⟨(r : Int),(look : Int),st.1,(i : Int)⟩])) else st
def prIn (b : List (List Bool)) (r look : Nat) : Nat → List (S30) → Int × List (S50) → Int × List (S50)
  | _,[],st => st
  | i,p :: ps,st => prIn b r look (i + 1) ps (prStep b r look i p st)
def prRow (b : List (List Bool)) (ps : List (S30)) (r : Nat) : Nat → Nat → List Int × List (S50) → List Int × List (S50)
  | 0,_,st => st
  | n + 1,look,st => prRow b ps r n (look + 1) (st.1.set look (prIn b r look 0 ps (st.1.getD look 0,st.2)).1,(prIn b r look 0 ps (st.1.getD look 0,st.2)).2)
def prAll (b : List (List Bool)) (ps : List (S30)) : Nat → Nat → List (List Int) × List (S50) → List (List Int) × List (S50)
  | 0,_,st => st
  | n + 1,r,st => prAll b ps n (r + 1) (st.1.set r (prRow b ps r (st.1.getD r []).length 0 (st.1.getD r [],st.2)).1,(prRow b ps r (st.1.getD r []).length 0 (st.1.getD r [],st.2)).2)
theorem prStep_le (b : List (List Bool)) (r look i : Nat) (p : S30) (st : Int × List (S50)) : st.2.length ≤ (prStep b r look i p st).2.length:=by
 unfold prStep;split
 · split <;> simp
 · exact Nat.le_refl _
theorem prIn_le (b : List (List Bool)) (r look : Nat) : ∀ (ps : List (S30)) (i : Nat) (st : Int × List (S50)),st.2.length ≤ (prIn b r look i ps st).2.length
  | [],_,_ => Nat.le_refl _
  | p :: ps,i,st => Nat.le_trans (prStep_le b r look i p st) (prIn_le b r look ps (i + 1) _)
theorem prRow_le (b : List (List Bool)) (ps : List (S30)) (r : Nat) : ∀ (n look : Nat) (st : List Int × List (S50)),st.2.length ≤ (prRow b ps r n look st).2.length
  | 0,_,_ => Nat.le_refl _
  | n + 1,look,st => Nat.le_trans (prIn_le b r look ps 0 (st.1.getD look 0,st.2)) (prRow_le b ps r n (look + 1) (st.1.set look (prIn b r look 0 ps (st.1.getD look 0,st.2)).1,(prIn b r look 0 ps (st.1.getD look 0,st.2)).2))
theorem prAll_le (b : List (List Bool)) (ps : List (S30)) : ∀ (n r : Nat) (st : List (List Int) × List (S50)),st.2.length ≤ (prAll b ps n r st).2.length
  | 0,_,_ => Nat.le_refl _
  | n + 1,r,st => Nat.le_trans (prRow_le b ps r (st.1.getD r []).length 0 (st.1.getD r [],st.2)) (prAll_le b ps n (r + 1) (st.1.set r (prRow b ps r (st.1.getD r []).length 0 (st.1.getD r [],st.2)).1,(prRow b ps r (st.1.getD r []).length 0 (st.1.getD r [],st.2)).2))
theorem prIn_drop (b : List (List Bool)) (r look i : Nat) (ps : List (S30)) (hi : i < ps.length) (st : Int × List (S50)) : prIn b r look i (ps.drop i) st = prIn b r look (i + 1) (ps.drop (i + 1)) (prStep b r look i ps[i] st) := by
 rw [List.drop_eq_getElem_cons hi];rfl
def prOk (b : List (List Bool)) (ps : List (S30)) (out : List (List Int)) : Bool:=decide (ps.length = b.length) && out.all (fun row => decide (row.length ≤ 1000000) && b.all (fun x => decide (row.length ≤ x.length)))
theorem prOk_get {b : List (List Bool)} {ps : List (S30)} {out : List (List Int)} (h : prOk b ps out = true) {r : Nat} (hr : r < out.length) {i : Nat} (hi : i < ps.length) : i < b.length ∧ (out.getD r []).length ≤ 1000000 ∧ (out.getD r []).length ≤ (b.getD i []).length:=by
 unfold prOk at h
 simp only [Bool.and_eq_true,decide_eq_true_eq,List.all_eq_true] at h
 have hb : i < b.length:=by omega
 rw [List.getD_eq_getElem?_getD,List.getElem?_eq_getElem hr,List.getD_eq_getElem?_getD,List.getElem?_eq_getElem hb]
 have:=h.2 _ (List.getElem_mem hr)
 exact ⟨hb,this.1,this.2 _ (List.getElem_mem hb)⟩
theorem prOk_row {b : List (List Bool)} {ps : List (S30)} {out : List (List Int)} (h : prOk b ps out = true) {r : Nat} (hr : r < out.length) : (out.getD r []).length ≤ 1000000:=by
 unfold prOk at h
 simp only [Bool.and_eq_true,decide_eq_true_eq,List.all_eq_true] at h
 rw [List.getD_eq_getElem?_getD,List.getElem?_eq_getElem hr]
 exact (h.2 _ (List.getElem_mem hr)).1
theorem set_set {α : Type} (l : List α) (i : Nat) (x y : α) : (l.set i x).set i y = l.set i y:=by simp
theorem get_set {α : Type} {l : List α} {i : Nat} (x d : α) (h : i < l.length) : (l.set i x).getD i d = x:=by
 rw [List.getD_eq_getElem?_getD,List.getElem?_set_self h];rfl
theorem set_get {α : Type} (l : List α) (i : Nat) (d : α) (h : i < l.length) : l.set i (l.getD i d) = l:=by
 rw [List.getD_eq_getElem?_getD,List.getElem?_eq_getElem h];simp
theorem lens_set {m : List (List Int)} {L : Nat → Nat} (h : ∀ i,(m.getD i []).length = L i) {r : Nat} {row : List Int} (hr : row.length = L r) (i : Nat) : ((m.set r row).getD i []).length = L i:=by
 by_cases hi : r = i
 rotate_left
 · rw [List.getD_eq_getElem?_getD,List.getElem?_set_ne hi,← List.getD_eq_getElem?_getD];exact h i
 subst hi
 by_cases hl : r < m.length
 rotate_left
 · rw [List.set_eq_of_length_le (by omega)];exact h r
 rw [get_set _ _ hl];exact hr
def predict_Predict.f (k : Nat) (l0_0 : List ByteArray) (l0_1 : List (S61)) (a0_2 : Int) (a0_3 : Int) (l0_4 : List (S30)) : Option (List (List Int) × List (S50)) :=
  (firsts_Right.f l0_0 l0_1 a0_2 a0_3 l0_4).bind fun rt => if rt = true then (predict_chosen.f k l0_0 l0_1 a0_2 a0_3 l0_4).bind fun b => (predict_rows.f k l0_0 l0_1 a0_2 a0_3 l0_4).bind fun out => if prOk b l0_4 out = true ∧ l0_4.length ≤ 1000000 ∧ out.length ≤ 1000000 ∧ (prAll b l0_4 out.length 0 (out,[])).2.length ≤ 1000000 then some (prAll b l0_4 out.length 0 (out,[])) else none else some ([],[])
set_option maxHeartbeats 4000000 in
set_option maxRecDepth 100000 in
theorem predict_Predict.calls (k : Nat) (A0_0 : Option Addr) (c0_0 : Nat) (l0_0 : List ByteArray) (A0_1 : Option Addr) (c0_1 : Nat) (l0_1 : List (S61)) (a0_2 : Int) (a0_3 : Int) (A0_4 : Option Addr) (c0_4 : Nat) (l0_4 : List (S30)) (r1 : List (List Int)) (r2 : List (S50)) (w : World) (hr0_0 : Kd.C Kd.string w A0_0 l0_0.length l0_0) (hc0_0 : l0_0.length ≤ c0_0) (hr0_1 : Kd.C k61 w A0_1 l0_1.length l0_1) (hc0_1 : l0_1.length ≤ c0_1) (hr0_4 : Kd.C k30 w A0_4 l0_4.length l0_4) (hc0_4 : l0_4.length ≤ c0_4) (h : predict_Predict.f k l0_0 l0_1 a0_2 a0_3 l0_4 = some (r1,r2)) :
    Calls Try.prog 13 #[.agg #[.slice A0_0 l0_0.length c0_0,.slice A0_1 l0_1.length c0_1,.int .i64 a0_2,.int .i64 a0_3,.slice A0_4 l0_4.length c0_4]] w fun e w' => ∃ v0_ v1_ : Value,e = .returned (.tuple #[v0_,v1_]) ∧ Kd.S (Kd.slice 3 (Kd.int .i64)) 43 w' w.heap.size (fun _ => True) v0_ r1 ∧ Kd.R k50 50 w' w.heap.size (fun _ => True) v1_ r2 ∧ Below w.heap.size w w' := by
 obtain ⟨rt,hrt,h2⟩ := Option.bind_eq_some_iff.1 h
 have HRT:=Aside0.mk hrt
 clear h hrt
 have HA1 : Aside0 (Below w.heap.size w (w.alloc (.cells #[.slice A0_0 l0_0.length c0_0,.slice A0_1 l0_1.length c0_1,.int .i64 a0_2,.int .i64 a0_3,.slice A0_4 l0_4.length c0_4] 26))) := ⟨(Below.refl _ w).alloc (Nat.le_refl _) _⟩
 have HC : Aside0 (∀ W,Below (w.heap.size + 1) (w.alloc (.cells #[.slice A0_0 l0_0.length c0_0,.slice A0_1 l0_1.length c0_1,.int .i64 a0_2,.int .i64 a0_3,.slice A0_4 l0_4.length c0_4] 26)) W → W.cell? ⟨w.heap.size,0,none⟩ = some (.slice A0_0 l0_0.length c0_0) ∧ W.cell? ⟨w.heap.size,1,none⟩ = some (.slice A0_1 l0_1.length c0_1) ∧ W.cell? ⟨w.heap.size,2,none⟩ = some (.int .i64 a0_2) ∧ W.cell? ⟨w.heap.size,3,none⟩ = some (.int .i64 a0_3) ∧ W.cell? ⟨w.heap.size,4,none⟩ = some (.slice A0_4 l0_4.length c0_4)) := ⟨fun W hW => ⟨(hW.cell (p:=⟨w.heap.size,0,none⟩) (by simp)).trans (by simp),(hW.cell (p:=⟨w.heap.size,1,none⟩) (by simp)).trans (by simp),(hW.cell (p:=⟨w.heap.size,2,none⟩) (by simp)).trans (by simp),(hW.cell (p:=⟨w.heap.size,3,none⟩) (by simp)).trans (by simp),(hW.cell (p:=⟨w.heap.size,4,none⟩) (by simp)).trans (by simp)⟩⟩
 cases rt with
 | false =>
  rw [if_neg (by simp)] at h2
  obtain ⟨rfl,rfl⟩ := Prod.mk.inj (Option.some.inj h2)
  clear h2
  go_enter Try.func13,Try.ntmps13
  go_wp2_with (go_at_call 22;(with_reducible refine (firsts_Right.calls A0_0 c0_0 l0_0 A0_1 c0_1 l0_1 a0_2 a0_3 A0_4 c0_4 l0_4 false _ (Kd.C_below hr0_0 HA1.out) hc0_0 (Kd.C_below hr0_1 HA1.out) hc0_1 (Kd.C_below hr0_4 HA1.out) hc0_4 HRT.out).mono ?_);rintro e w1 ⟨rfl,hb1⟩)
  go_ret2
  exact ⟨_,_,rfl,Kd.S_nil _ _ _ _ _,Kd.R_nil _ _ _ _ _,HA1.out.trans (hb1.mono (by simp))⟩
 | true =>
  rw [if_pos rfl] at h2
  obtain ⟨b,hb,h3⟩ := Option.bind_eq_some_iff.1 h2
  obtain ⟨out,hout,h4⟩ := Option.bind_eq_some_iff.1 h3
  split at h4
  case isFalse => cases h4
  rename_i hg
  have hfin:=Option.some.inj h4
  clear h2 h3 h4
  obtain ⟨hok,hps,hon,hbad⟩ := hg
  have HB:=Aside0.mk hb
  have HOUT:=Aside0.mk hout
  have HOK:=Aside0.mk (fun (r : Nat) (hr : r < out.length) (i : Nat) (hi : i < l0_4.length) => prOk_get hok hr hi)
  have HROW:=Aside0.mk (fun (r : Nat) (hr : r < out.length) => prOk_row hok hr)
  have HPS:=Aside0.mk hps
  have HON:=Aside0.mk hon
  have HFIN:=Aside0.mk hfin
  have HBAD : Aside0 (r2.length ≤ 1000000) := ⟨by rw [hfin] at hbad;exact hbad⟩
  have HR0:=Aside0.mk hr0_0
  have HR1:=Aside0.mk hr0_1
  have HR4:=Aside0.mk hr0_4
  have HK0:=Aside0.mk (And.intro hc0_0 (And.intro hc0_1 hc0_4))
  have P1:=Aside0.mk (firsts_Right.calls A0_0 c0_0 l0_0 A0_1 c0_1 l0_1 a0_2 a0_3 A0_4 c0_4 l0_4 true _ (Kd.C_below hr0_0 HA1.out) hc0_0 (Kd.C_below hr0_1 HA1.out) hc0_1 (Kd.C_below hr0_4 HA1.out) hc0_4 HRT.out)
  have P2 : Aside0 (∀ W,Below w.heap.size w W → Calls Try.prog 23 #[.agg #[.slice A0_0 l0_0.length c0_0,.slice A0_1 l0_1.length c0_1,.int .i64 a0_2,.int .i64 a0_3,.slice A0_4 l0_4.length c0_4]] W fun e w' => ∃ v0_ : Value,e = .returned (v0_) ∧ Kd.S (Kd.slice 4 Kd.bool) 65 w' W.heap.size (fun _ => True) v0_ b ∧ Below W.heap.size W w') := ⟨fun W hW => predict_chosen.calls k A0_0 c0_0 l0_0 A0_1 c0_1 l0_1 a0_2 a0_3 A0_4 c0_4 l0_4 b W (Kd.C_below HR0.out hW) HK0.out.1 (Kd.C_below HR1.out hW) HK0.out.2.1 (Kd.C_below HR4.out hW) HK0.out.2.2 HB.out⟩
  have P3 : Aside0 (∀ W,Below w.heap.size w W → Calls Try.prog 24 #[.agg #[.slice A0_0 l0_0.length c0_0,.slice A0_1 l0_1.length c0_1,.int .i64 a0_2,.int .i64 a0_3,.slice A0_4 l0_4.length c0_4]] W fun e w' => ∃ v0_ : Value,e = .returned (v0_) ∧ Kd.S (Kd.slice 3 (Kd.int .i64)) 43 w' W.heap.size (fun _ => True) v0_ out ∧ Below W.heap.size W w') := ⟨fun W hW => predict_rows.calls k A0_0 c0_0 l0_0 A0_1 c0_1 l0_1 a0_2 a0_3 A0_4 c0_4 l0_4 out W (Kd.C_below HR0.out hW) HK0.out.1 (Kd.C_below HR1.out hW) HK0.out.2.1 (Kd.C_below HR4.out hW) HK0.out.2.2 HOUT.out⟩
  clear hb hout hok hps hon hfin hbad hr0_0 hr0_1 hr0_4 hc0_0 hc0_1 hc0_4
  go_enter Try.func13,Try.ntmps13
  go_upto_region 5 with (first
    | (go_at_call 22;(with_reducible refine P1.out.mono ?_);rintro e w1 ⟨rfl,hb1⟩;have HB1:=Aside0.mk hb1;obtain ⟨q0,q1,q2,q3,q4⟩ := HC.out w1 (hb1.mono (by simp));clear P1 hb1)
    | (go_at_call 23;(with_reducible refine (P2.out _ (HA1.out.trans (HB1.out.mono HA1.out.size))).mono ?_);rintro e w2 ⟨v2,rfl,hS2,hb2⟩;have HS2:=Aside0.mk hS2;have HB12:=Aside0.mk hb2;have HB2 : Aside0 (Below w.heap.size w w2) := ⟨(HA1.out.trans (HB1.out.mono HA1.out.size)).trans (hb2.mono (HA1.out.trans (HB1.out.mono HA1.out.size)).size)⟩;have HA2 : Aside0 (Below (w.heap.size + 1) (w.alloc (.cells #[.slice A0_0 l0_0.length c0_0,.slice A0_1 l0_1.length c0_1,.int .i64 a0_2,.int .i64 a0_3,.slice A0_4 l0_4.length c0_4] 26)) w2) := ⟨(HB1.out.mono (by simp)).trans (hb2.mono (by have:=HB1.out.size;simp at this;omega))⟩;clear q0 q1 q2 q3 q4;obtain ⟨q0,q1,q2,q3,q4⟩ := HC.out w2 HA2.out;clear P2 hS2 hb2)
    | (go_at_call 24;(with_reducible refine (P3.out _ HB2.out).mono ?_);rintro e w3 ⟨v3,rfl,hS3,hb3⟩;have HS3:=Aside0.mk hS3;have HB3:=Aside0.mk hb3;clear P3 hS3 hb3))
  obtain ⟨Ab,cb,rfl⟩ := Kd.S_slice HS2.out
  obtain ⟨Ao,co,rfl⟩ := Kd.S_slice HS3.out
  have CB : Aside0 (∀ W,Below w2.heap.size w2 W → Kd.C (Kd.slice 4 Kd.bool) W Ab b.length b) := ⟨fun W hW => Kd.C_below (Kd.S_reads' HS2.out).2.2 hW⟩
  have CP : Aside0 (∀ W,Below w2.heap.size w2 W → Kd.C k30 W A0_4 l0_4.length l0_4) := ⟨fun W hW => Kd.C_below HR4.out (HB2.out.trans (hW.mono HB2.out.size))⟩
  have HQ : Aside0 (∀ W,Below w2.heap.size w2 W → W.cell? ⟨w.heap.size,4,none⟩ = some (.slice A0_4 l0_4.length c0_4)) := ⟨fun W hW => (HC.out W (HA2.out.trans (hW.mono (by have:=HA2.out.size;simp at this;omega)))).2.2.2.2⟩
  clear q0 q1 q2 q3 q4 HS2 HC HA2 HB12 HB1 HA1 HB HOUT HR0 HR1 HR4 HK0 HRT
  have HLO:=(Kd.S_reads' HS3.out).2.1
  have HLO:=Aside0.mk HLO
  have HBASE:=Aside0.mk HB2.out.size
  go_wp2
  go_loopg [3,19] out.length (fun kq v3 v19 wr => ∃ (r : Nat) (m : List (List Int)) (bad : List (S50)),v19 = .int .i64 (r : Int) ∧ r ≤ out.length ∧ out.length - r ≤ kq ∧ Aside0 (prAll b l0_4 (out.length - r) r (m,bad) = (r1,r2)) ∧ Aside0 (m.length = out.length ∧ ∀ i,(m.getD i []).length = (out.getD i []).length) ∧ Aside0 (Kd.S (Kd.slice 3 (Kd.int .i64)) 43 wr w2.heap.size (fun _ => True) (.slice Ao out.length co) m) ∧ Aside0 (Kd.R k50 50 wr w2.heap.size (fun _ => True) v3 bad) ∧ Aside0 (Below w2.heap.size w2 wr))
  case atStart => exact ⟨0,out,[],rfl,by omega,by omega,HFIN,⟨rfl,fun _ => rfl⟩,HS3,⟨Kd.R_nil _ _ _ _ _⟩,HB3⟩
  case round =>
   obtain ⟨r,m,bad,rfl,hr,hkq,HF,HM,HS,HRB,HBR⟩ := hrel
   have hwr : IntKind.i64.wrap ((r : Int) + 1) = (r : Int) + 1:=by rw [IntKind.wrap_i64];have:=HON.out;omega
   by_cases hlt : r < out.length
   · have d0 : decide ((r : Int) < (out.length : Int)) = true:=decide_eq_true (by omega)
     have d1 : decide (r < out.length) = true:=decide_eq_true hlt
     obtain ⟨ado,A6,c6,rfl,hc6,hl6,hC6⟩ := at_rows (Kd.S_reads' HS.out).2.2 (r : Int) (by omega) (by have:=HM.out.1;omega)
     rw [Int.toNat_natCast,HM.out.2 r] at hc6
     have HLT:=Aside0.mk hlt
     have HKQ:=Aside0.mk hkq
     have HC6:=Aside0.mk hc6
     have p0 : (0 ≤ (r : Int)) = True:=eq_true (by omega)
     have p1 : ((r : Int) < (out.length : Int)) = True:=eq_true (by omega)
     have p2 : (r < out.length) = True:=eq_true hlt
     clear hlt hkq hl6 hC6 hr
     obtain ⟨nr,enr⟩ : ∃ nr,nr = (out.getD r []).length:=⟨_,rfl⟩
     have hnr : nr ≤ 1000000:=by rw [enr];exact HROW.out r HLT.out
     have HNR:=Aside0.mk hnr
     have hlens:=HM.out.2
     have HLEN : Aside0 (m.length = out.length ∧ ∀ i,(m.getD i []).length = (out.getD i []).length) := ⟨HM.out⟩
     have HBROW : Aside0 (∀ i,i < l0_4.length → i < b.length ∧ nr ≤ (b.getD i []).length) := ⟨fun i hi => ⟨(HOK.out r HLT.out i hi).1,by rw [enr];exact (HOK.out r HLT.out i hi).2.2⟩⟩
     have HMR : Aside0 ((m.getD r []).length = nr) := ⟨by rw [enr];exact HM.out.2 r⟩
     rw [← enr] at hc6 HC6
     have HENR:=Aside0.mk enr
     have h1 : prAll b l0_4 (out.length - (r + 1)) (r + 1) (m.set r (prRow b l0_4 r nr 0 (m.getD r [],bad)).1,(prRow b l0_4 r nr 0 (m.getD r [],bad)).2) = (r1,r2) := by
      have h:=HF.out
      rw [show out.length - r = out.length - (r + 1) + 1 by have:=HLT.out;omega] at h
      rw [← HMR.out]
      exact h
     obtain ⟨K1,eK1⟩ : ∃ K : List Int × List (S50) → Prop,K = fun x => prAll b l0_4 (out.length - (r + 1)) (r + 1) (m.set r x.1,x.2) = (r1,r2) := ⟨_,rfl⟩
     have HK1 : Aside0 (K1 (prRow b l0_4 r nr 0 (m.getD r [],bad))) := ⟨by rw [eK1];exact h1⟩
     have HB1 : Aside0 (∀ x,K1 x → x.2.length ≤ 1000000) := ⟨fun x hx => by rw [eK1] at hx;have h:=prAll_le b l0_4 (out.length - (r + 1)) (r + 1) (m.set r x.1,x.2);rw [hx] at h;exact Nat.le_trans h HBAD.out⟩
     have EK1:=Aside0.mk eK1
     have HS0 : Aside0 (Kd.S (Kd.slice 3 (Kd.int .i64)) 43 wr w2.heap.size (fun _ => True) (.slice (some ado) out.length co) (m.set r (m.getD r []))) := ⟨by rw [set_get _ _ _ (by have:=HLEN.out.1;have:=HLT.out;omega)];exact HS.out⟩
     clear h1 eK1 enr hnr hlens
     go_wp2
     go_loopg [3,26] nr (fun kq v3 v26 wr => ∃ (look : Nat) (row : List Int) (bad : List (S50)),v26 = .int .i64 (look : Int) ∧ look ≤ nr ∧ nr - look ≤ kq ∧ Aside0 (K1 (prRow b l0_4 r (nr - look) look (row,bad))) ∧ Aside0 (row.length = nr) ∧ Aside0 (Kd.S (Kd.slice 3 (Kd.int .i64)) 43 wr w2.heap.size (fun _ => True) (.slice (some ado) out.length co) (m.set r row)) ∧ Aside0 (Kd.R k50 50 wr w2.heap.size (fun _ => True) v3 bad) ∧ Aside0 (Below w2.heap.size w2 wr) ∧ Aside0 (wr.cell? (ado.add r) = some (.slice A6 nr c6)))
     case atStart => exact ⟨0,m.getD r [],bad,rfl,by omega,by omega,HK1,HMR,HS0,HRB,HBR,HC6⟩
     case round =>
      clear HS HRB HBR HC6 HS0 HK1
      obtain ⟨look,row,bad,rfl,hlk,hkq,HK1,HRL,HS,HRB,HBR,HC6⟩ := hrel
      have hwl : IntKind.i64.wrap ((look : Int) + 1) = (look : Int) + 1:=by rw [IntKind.wrap_i64];have:=HNR.out;omega
      by_cases hlt2 : look < nr
      · have d2 : decide ((look : Int) < (nr : Int)) = true:=decide_eq_true (by omega)
        have d3 : decide (look < nr) = true:=decide_eq_true hlt2
        have HLT2:=Aside0.mk hlt2
        have HKQ2:=Aside0.mk hkq
        clear hlt2 hkq hlk
        obtain ⟨K2,eK2⟩ : ∃ K : Int × List (S50) → Prop,K = fun y => K1 (prRow b l0_4 r (nr - (look + 1)) (look + 1) (row.set look y.1,y.2)) := ⟨_,rfl⟩
        have HK2 : Aside0 (K2 (prIn b r look 0 l0_4 (row.getD look 0,bad))) := ⟨by
         rw [eK2]
         have h:=HK1.out
         rw [show nr - look = nr - (look + 1) + 1 by have:=HLT2.out;omega] at h
         exact h⟩
        have HB2' : Aside0 (∀ y,K2 y → y.2.length ≤ 1000000) := ⟨fun y hy => by rw [eK2] at hy;exact Nat.le_trans (prRow_le b l0_4 r (nr - (look + 1)) (look + 1) (row.set look y.1,y.2)) (HB1.out _ hy)⟩
        have EK2:=Aside0.mk eK2
        have HS0 : Aside0 (Kd.S (Kd.slice 3 (Kd.int .i64)) 43 wr w2.heap.size (fun _ => True) (.slice (some ado) out.length co) (m.set r (row.set look (row.getD look 0)))) := ⟨by rw [set_get _ _ _ (by have:=HRL.out;have:=HLT2.out;omega)];exact HS.out⟩
        have k0 : (0 ≤ (look : Int)) = True:=eq_true (by omega)
        have k1 : ((look : Int) < (nr : Int)) = True:=eq_true (by have:=HLT2.out;omega)
        have k2 : (look < nr) = True:=eq_true HLT2.out
        clear eK2
        obtain ⟨q4⟩ := Aside0.mk (HQ.out wr HBR.out)
        go_wp2
        go_step3
        go_wp2
        go_step3
        go_wp2
        go_loopg [3,32] l0_4.length (fun kq v3 v32 wr => ∃ (i : Nat) (x : Int) (bad : List (S50)),v32 = .int .i64 (i : Int) ∧ i ≤ l0_4.length ∧ l0_4.length - i ≤ kq ∧ Aside0 (K2 (prIn b r look i (l0_4.drop i) (x,bad))) ∧ Aside0 (Kd.S (Kd.slice 3 (Kd.int .i64)) 43 wr w2.heap.size (fun _ => True) (.slice (some ado) out.length co) (m.set r (row.set look x))) ∧ Aside0 (Kd.R k50 50 wr w2.heap.size (fun _ => True) v3 bad) ∧ Aside0 (Below w2.heap.size w2 wr) ∧ Aside0 (wr.cell? (ado.add r) = some (.slice A6 nr c6)))
        case atStart => exact ⟨0,row.getD look 0,bad,rfl,by omega,by omega,HK2,HS0,HRB,HBR,HC6⟩
        case round =>
         clear HS HRB HBR HC6 HS0 HK2 q4
         obtain ⟨i,x,bad,rfl,hii,hkq,HK2,HS,HRB,HBR,HC6⟩ := hrel
         have hwi : IntKind.i64.wrap ((i : Int) + 1) = (i : Int) + 1:=by rw [IntKind.wrap_i64];have:=HPS.out;omega
         by_cases hlt3 : i < l0_4.length
         · have d4 : decide ((i : Int) < (l0_4.length : Int)) = true:=decide_eq_true (by omega)
           have d5 : decide (i < l0_4.length) = true:=decide_eq_true hlt3
           have HLT3:=Aside0.mk hlt3
           have HKQ3:=Aside0.mk hkq
           have i0 : (0 ≤ (i : Int)) = True:=eq_true (by omega)
           have i1 : ((i : Int) < (l0_4.length : Int)) = True:=eq_true (by omega)
           have i2 : (i < l0_4.length) = True:=eq_true hlt3
           clear hlt3 hkq hii
           obtain ⟨hib,hnb⟩ := HBROW.out i HLT3.out
           have j0 : ((i : Int) < (b.length : Int)) = True:=eq_true (by omega)
           have j1 : (i < b.length) = True:=eq_true hib
           have hlk:=HLT2.out
           have j2 : ((look : Int) < ((b.getD i []).length : Int)) = True:=eq_true (by omega)
           have j3 : (look < (b.getD i []).length) = True:=eq_true (by omega)
           obtain ⟨adp,A9,c9,eap,e0,e1,_,hC9⟩ := at_T30 (CP.out wr HBR.out) (i : Int) (by omega) (by have:=HLT3.out;omega)
           rw [Int.toNat_natCast] at e0 e1
           have hrdp : rd_T30 l0_4 (i : Int) = l0_4[i]'HLT3.out:=by simp [rd_T30,HLT3.out]
           rw [hrdp] at e0 e1
           have HSTEP : Aside0 (prIn b r look i (l0_4.drop i) (x,bad) = prIn b r look (i + 1) (l0_4.drop (i + 1)) (prStep b r look i (l0_4[i]'HLT3.out) (x,bad))) := ⟨prIn_drop b r look i l0_4 HLT3.out (x,bad)⟩
           clear hC9 hrdp
           generalize l0_4[i]'HLT3.out = p at e0 e1 HSTEP
           obtain ⟨left,right⟩ := p
           simp only at e0 e1
           cases eap
           go_upto_region 15 with fail
           have HPB : Aside0 ((wr.alloc (.cells #[.int .i64 left,.slice A9 right.length c9] 30)).heap[wr.heap.size]? = some (.cells #[.int .i64 left,.slice A9 right.length c9] 30 (0,0))) := ⟨heap_alloc_new wr _⟩
           have hb5 : Below wr.heap.size wr (wr.alloc (.cells #[.int .i64 left,.slice A9 right.length c9] 30)) := below_alloc (Below.refl _ _) _
           have HBR5 : Aside0 (Below w2.heap.size w2 (wr.alloc (.cells #[.int .i64 left,.slice A9 right.length c9] 30))) := ⟨HBR.out.trans (hb5.mono HBR.out.size)⟩
           have HS5:=Aside0.mk (Kd.S_below HS.out hb5)
           have HRB5:=Aside0.mk (Kd.R_below HRB.out hb5)
           have HC65:=Aside0.mk (pw_cell_below hb5 HC6.out)
           generalize wr.alloc (.cells #[.int .i64 left,.slice A9 right.length c9] 30) = w5 at HPB hb5 HBR5 HS5 HRB5 HC65 ⊢
           generalize wr.heap.size = PB at HPB ⊢
           clear hb5 HS HRB HBR HC6 e0 e1
           obtain ⟨gq,gv,cv,eg,hcg,_,hcx,hfx,hgb,hgl,hgne,hgt,hset⟩ := S_cell HS5.out r look (by rw [List.length_set];have:=HLEN.out.1;have:=HLT.out;omega) (by rw [get_set _ _ (by have:=HLEN.out.1;have:=HLT.out;omega),List.length_set,HRL.out];exact hlk)
           have hml : r < m.length:=by have:=HLEN.out.1;have:=HLT.out;omega
           have hrl : look < row.length:=by rw [HRL.out];exact hlk
           simp only [get_set _ _ hml,List.length_set,HRL.out,get_set _ _ hrl,set_set] at hcg hcx hset
           have HADO : Aside0 (ado = ⟨gq,0,none⟩) := ⟨Option.some.inj eg⟩
           clear eg
           have hc6' : w5.cell? ⟨gq,r,none⟩ = some (.slice A6 nr c6) := by rw [← add_plain,← HADO.out];exact HC65.out
           rw [hc6'] at hcg
           injection hcg with hcg
           injection hcg with hA6 _ hc6e
           subst hA6 hc6e
           obtain ⟨adb,Ar,cr,eab,hcb,_,hCr⟩ := at_rows (CB.out w5 HBR5.out) (i : Int) (by omega) (by omega)
           rw [Int.toNat_natCast] at hcb hCr
           obtain ⟨adr,ear,hcy⟩ := Kd.at_bool hCr (look : Int) (by omega) (by omega)
           rw [Int.toNat_natCast,show rdOf false (b.getD i []) (look : Int) = (b.getD i []).getD look false by simp [rdOf]] at hcy
           cases eab;cases ear
           clear hCr hib hnb hml hrl hc6'
           have HSET:=Aside0.mk hset
           have HGV:=Aside0.mk (And.intro hgb (And.intro hgl hgne))
           generalize hy : (b.getD i []).getD look false = y at hcy HSTEP
           generalize (b.getD i []).length = nb at *
           have HSTP : Aside0 (prStep b r look i ⟨left,right⟩ (x,bad) = if left = (r : Int) ∧ y = true then (if x < 0 then ((i : Int),bad) else (x,bad ++ [⟨(r : Int),(look : Int),x,(i : Int)⟩])) else (x,bad)) := ⟨by rw [prStep,hy]⟩
           obtain ⟨cellsT,hgt⟩ := hgt;have HGT:=Aside0.mk hgt
           clear hset hgb hgl hgne hgt hy hlk
           have hpb0:=(blk_cell HPB.out 0).trans (show (#[Value.int .i64 left,.slice A9 right.length c9])[0]? = some (.int .i64 left) from rfl)
           have l0 : (0 ≤ (look : Int)) = True:=k0
           by_cases hl : left = (r : Int)
           · subst hl
             have y1 : ((r : Int) == (r : Int)) = true:=by simp
             have y2 : ((r : Int) != (r : Int)) = false:=by simp
             cases y with
             | false =>
              have HNX : Aside0 (K2 (prIn b r look (i + 1) (l0_4.drop (i + 1)) (x,bad))) := ⟨by have h:=HK2.out;rw [HSTEP.out,HSTP.out,if_neg (by simp)] at h;exact h⟩
              go_wp2
              go_roundg (l0_4.length - (i + 1))
              case measure => have:=HKQ3.out;have:=HLT3.out;omega
              case rel => exact ⟨i + 1,x,bad,rfl,by have:=HLT3.out;omega,Nat.le_refl _,HNX,HS5,HRB5,HBR5,HC65⟩
             | true =>
              by_cases hx : x < 0
              · have x1 : decide (x < 0) = true:=decide_eq_true hx
                have HNX : Aside0 (K2 (prIn b r look (i + 1) (l0_4.drop (i + 1)) ((i : Int),bad))) := ⟨by have h:=HK2.out;rw [HSTEP.out,HSTP.out,if_pos ⟨rfl,rfl⟩,if_pos hx] at h;exact h⟩
                clear hx
                go_wp2
                go_roundg (l0_4.length - (i + 1))
                case measure => have:=HKQ3.out;have:=HLT3.out;omega
                case rel => exact ⟨i + 1,(i : Int),bad,rfl,by have:=HLT3.out;omega,Nat.le_refl _,HNX,⟨HSET.out (i : Int)⟩,⟨Kd.R_set HRB5.out HGT.out (by decide) look _⟩,⟨below_set HBR5.out HGV.out.1⟩,⟨by rw [HADO.out,add_plain,cell_far (by show gq ≠ gv;exact (Ne.symm HGV.out.2.2)),← add_plain,← HADO.out];exact HC65.out⟩⟩
              · have x1 : decide (x < 0) = false:=decide_eq_false hx
                have HNX : Aside0 (K2 (prIn b r look (i + 1) (l0_4.drop (i + 1)) (x,bad ++ [⟨(r : Int),(look : Int),x,(i : Int)⟩]))) := ⟨by have h:=HK2.out;rw [HSTEP.out,HSTP.out,if_pos ⟨rfl,rfl⟩,if_neg hx] at h;exact h⟩
                have HLB : Aside0 (bad.length + 1 ≤ 1000000) := ⟨by
                 have h1:=HB2'.out _ HNX.out
                 have h2:=prIn_le b r look (l0_4.drop (i + 1)) (i + 1) (x,bad ++ [⟨(r : Int),(look : Int),x,(i : Int)⟩])
                 simp only [List.length_append,List.length_cons,List.length_nil] at h2
                 omega⟩
                clear hx
                go_wp2_with (first | ((with_reducible refine gate_builtin (b := .append) (xs:=#[.tmp 37,.tmp 46]) rfl ?_);at_builtin;refine Kd.R_append k50 (w0:=w2) w2.heap.size rfl (.tmp 37) (.tmp 46) 37 50 (.agg #[(.int .i64 0),(.int .i64 0),(.int .i64 0),(.int .i64 0)]) 32 rfl Try.underlying37 info50 rfl (by decide) (by omega) u3 bad (⟨(r : Int),(look : Int),x,(i : Int)⟩ : S50) [.int .i64 (r : Int),.int .i64 (look : Int),.int .i64 x,.int .i64 (i : Int)] (fun _ => True) (fun _ => False) rfl rfl ?aP (fun _ hk => hk.elim) ?aF ?aO ?aB ?aS ?aL ?_;(case aP => exact k50_mkM _ _ _ (⟨(r : Int),(look : Int),x,(i : Int)⟩ : S50));(case aB => exact HBR5.out);(case aF => exact (fun _ _ => trivial));(case aO => exact HRB5.out);(case aS => exact HBR5.out.size);(case aL => have:=HLB.out;omega);intro v6 w6 ho hb hg hat;have HO6:=Aside0.mk ho;have HB6:=Aside0.mk hb;have HS6:=Aside0.mk (Kd.S_over' HS5.out (Kd.R_typed HRB5.out) (by decide) hg);have HG6:=Aside0.mk hg;clear ho hb hg hat))
                have HC66 : Aside0 (w6.cell? (ado.add r) = some (.slice (some ⟨gv,0,none⟩) nr c6)) := ⟨by
                 obtain ⟨gs,cps,es,_,_,cellsS,hbs⟩ := Kd.S_form HS5.out (by rw [List.length_set];have:=HLEN.out.1;have:=HLT.out;omega)
                 have hgs : ado.block = gs:=by injection es with es;injection es with es;rw [es]
                 have hne : u3.ownBlock ≠ some ado.block:=fun e => by
                  obtain ⟨c2,h2⟩ := Kd.R_typed HRB5.out ado.block e
                  rw [hgs,hbs] at h2
                  injection h2 with h2
                  injection h2 with _ h2
                  exact absurd h2 (by decide)
                 rw [(World.grownBy.cell_far HG6.out (ado.add r) (by rw [add_block,hgs];exact (blk_lt hbs)) (by rw [add_block];exact Ne.symm hne))]
                 exact HC65.out⟩
                go_roundg (l0_4.length - (i + 1))
                case measure => have:=HKQ3.out;have:=HLT3.out;omega
                case rel => exact ⟨i + 1,x,_,rfl,by have:=HLT3.out;omega,Nat.le_refl _,HNX,HS6,HO6,HB6,HC66⟩
           · have y1 : (left == (r : Int)) = false:=by simp [hl]
             have y2 : (left != (r : Int)) = true:=by simp [hl]
             have y3 : decide (left = (r : Int)) = false:=decide_eq_false hl
             have y4 : (left = (r : Int)) = False:=eq_false hl
             have HNX : Aside0 (K2 (prIn b r look (i + 1) (l0_4.drop (i + 1)) (x,bad))) := ⟨by have h:=HK2.out;rw [HSTEP.out,HSTP.out,if_neg (fun h2 => hl h2.1)] at h;exact h⟩
             clear hl
             go_wp2
             go_roundg (l0_4.length - (i + 1))
             case measure => have:=HKQ3.out;have:=HLT3.out;omega
             case rel => exact ⟨i + 1,x,bad,rfl,by have:=HLT3.out;omega,Nat.le_refl _,HNX,HS5,HRB5,HBR5,HC65⟩
         · obtain rfl : i = l0_4.length:=by omega
           have d4 : decide ((l0_4.length : Int) < (l0_4.length : Int)) = false:=decide_eq_false (by omega)
           have d5 : decide (l0_4.length < l0_4.length) = false:=decide_eq_false (by omega)
           go_wp2
           go_roundg (nr - (look + 1))
           case measure => have:=HKQ2.out;have:=HLT2.out;omega
           case rel => exact ⟨look + 1,row.set look x,bad,rfl,by have:=HLT2.out;omega,Nat.le_refl _,⟨by have h:=HK2.out;rw [List.drop_length,EK2.out] at h;exact h⟩,⟨by rw [List.length_set];exact HRL.out⟩,HS,HRB,HBR,HC6⟩
      · obtain rfl : look = nr:=by omega
        have d2 : decide ((look : Int) < (look : Int)) = false:=decide_eq_false (by omega)
        have d3 : decide (look < look) = false:=decide_eq_false (by omega)
        go_wp2
        go_roundg (out.length - (r + 1))
        case measure => have:=HKQ.out;have:=HLT.out;omega
        case rel => exact ⟨r + 1,m.set r row,bad,rfl,by have:=HLT.out;omega,Nat.le_refl _,⟨by have h:=HK1.out;rw [Nat.sub_self,EK1.out] at h;exact h⟩,⟨by rw [List.length_set];exact HLEN.out.1,lens_set HLEN.out.2 (by rw [HRL.out,HENR.out])⟩,HS,HRB,HBR⟩
   · obtain rfl : r = out.length:=by omega
     have d0 : decide ((out.length : Int) < (out.length : Int)) = false:=decide_eq_false (by omega)
     go_wp2
     go_ret2
     have hfin:=HF.out
     rw [Nat.sub_self] at hfin
     simp only [prAll] at hfin
     obtain ⟨rfl,rfl⟩ := Prod.mk.inj hfin
     exact ⟨_,_,rfl,Kd.S_lower HS.out HBASE.out,Kd.R_lower HRB.out HBASE.out,HB2.out.trans (HBR.out.mono HB2.out.size)⟩
end Go.Proofs.Ytfdcfihcfegekaa.P
end

section
namespace Go.Proofs.Ytfdcfihcfegekaa.M
open Go.RowKit Go.Proofs.YtfdcfihcfegekaaW.PrintWords Go.Proofs.YtfdcfihcfegekaaW.PrintLast Go.Proofs.YtfdcfihcfegekaaW.PrintMore Go.Proofs.Ytfdcfihcfegekaa.P Go.Proofs.Ytfdcfihcfegekaa.H
set_option linter.unusedVariables false
set_option linter.unusedSimpArgs false
abbrev Clash:=S50
def markOn (l : List Int) (row : List Bool) : List Bool:=l.foldl (fun row t => row.set t.toNat true) row
theorem markOn_length : ∀ (l : List Int) (row : List Bool),(markOn l row).length = row.length
  | [],_ => rfl
  | t :: l,row => by rw [markOn,List.foldl_cons,← markOn,markOn_length l];simp
theorem markOn_getD : ∀ (l : List Int) (row : List Bool),(∀ t ∈ l,0 ≤ t ∧ t.toNat < row.length) → ∀ look : Nat,(markOn l row).getD look false = (row.getD look false || decide ((look : Int) ∈ l))
  | [],_,_,_ => by simp [markOn]
  | t :: l,row,h,look => by
    obtain ⟨h0,h1⟩ := h t List.mem_cons_self
    rw [markOn,List.foldl_cons,← markOn,markOn_getD l _ (fun x hx => by rw [List.length_set];exact h x (List.mem_cons_of_mem _ hx)) look]
    by_cases he : t.toNat = look
    · subst he
      rw [get_set _ _ h1]
      have : ((t.toNat : Nat) : Int) = t:=by omega
      simp [this]
    · rw [List.getD_eq_getElem?_getD,List.getElem?_set_ne he,← List.getD_eq_getElem?_getD]
      have : ¬ (look : Int) = t:=by omega
      simp [this]
theorem idx_range : ∀ (a : List Bool) (n : Nat),∀ x ∈ idx n a,(n : Int) ≤ x ∧ x < ((n + a.length : Nat) : Int)
  | [],_,x,hx => by simp [idx] at hx
  | b :: a,n,x,hx => by
    have ih:=idx_range a (n + 1)
    unfold idx at hx
    split at hx
    · rcases List.mem_cons.1 hx with rfl | h
      · simp;omega
      · have:=ih x h;simp at this ⊢;omega
    · have:=ih x hx;simp at this ⊢;omega
theorem chosen_l1_ev {x3 : List (List Int)} {x18 : List Prod} {x19 x20 : Int} {l0 : List ByteArray} {l1 : List Tok} {a2 a3 : Int} {l4 : List Prod} {R : List (List Bool)} (i : Nat) : ∀ (a pre : List Int) (out : List (List Bool)),(∀ t ∈ a,0 ≤ t ∧ t.toNat < (out.getD i []).length) → i < out.length → pre.length + a.length ≤ 1000000 → Ev (fun k => predict_chosen.l0 k x3 (out.set i (markOn a (out.getD i []))) x18 x19 (wrap64 (x20 + 1)) l0 l1 a2 a3 l4) R → Ev (fun k => predict_chosen.l1 k x3 out (i : Int) x18 x19 x20 (pre ++ a) ((pre ++ a).length : Int) (pre.length : Int) l0 l1 a2 a3 l4) R
  | [],pre,out,_,hi,_,hk => Ev.step (fun k => by rw [predict_chosen.l1]) (Ev.neg (by simp) (by rw [markOn,List.foldl_nil,set_get _ _ _ hi] at hk;exact hk))
  | t :: a,pre,out,h,hi,h3,hk => by
    simp only [List.length_cons] at h3
    obtain ⟨h0,h1⟩ := h t List.mem_cons_self
    have ih:=chosen_l1_ev (x3:=x3) (x18:=x18) (x19:=x19) (x20:=x20) (l0:=l0) (l1:=l1) (a2:=a2) (a3:=a3) (l4:=l4) (R:=R) i a (pre ++ [t]) (out.set i ((out.getD i []).set t.toNat true)) (by rw [get_set _ _ hi];intro x hx;rw [List.length_set];exact h x (List.mem_cons_of_mem _ hx)) (by rw [List.length_set];exact hi) (by simp;omega) (by rw [get_set _ _ hi,set_set];exact hk)
    simp only [← wrap_next pre _ (show pre.length ≤ 1000000 by omega),List.append_assoc,List.singleton_append] at ih
    refine Ev.step (fun k => by rw [predict_chosen.l1]) (Ev.pos (by simp;omega) (Ev.pos (by omega) (Ev.pos (by simp;omega) (Ev.pos (by omega) (Ev.pos (by omega) ?_)))))
    rw [show rd (pre ++ t :: a) (pre.length : Int) = t from getD_mid _ pre t a _ rfl,show rd_L13 out (i : Int) = out.getD i [] from by rw [rd_L13,Int.toNat_natCast]]
    exact Ev.pos h0 (Ev.pos (by omega) (by rw [Int.toNat_natCast];exact ih))
section
variable (l0 : List ByteArray) (l1 : List Tok) (a2 a3 : Int) (l4 : List Prod)
def sel (nn nt : Nat) (ps : List Prod) (p : Prod) : List Int:=(dOf nn nt ps p.f1).1 ++ (if (dOf nn nt ps p.f1).2 = true then (dFollow nn nt ps).getD p.f0.toNat [] else [])
def chRow (nn nt : Nat) (ps : List Prod) (p : Prod) : List Bool:=markOn (sel nn nt ps p) (none0 nt)
theorem of_range {nn nt : Nat} {ps : List Prod} (hps : ps.all (okProd nn nt) = true) (l : List Sym) : (dOf nn nt ps l).1.length ≤ nt + 1 ∧ ∀ x ∈ (dOf nn nt ps l).1,0 ≤ x ∧ x < ((nt + 1 : Nat) : Int) := by
 unfold dOf
 split
 · rename_i hc
   have hb:=bg_length (clo false nn ps) (fst_sh nn nt (clo false nn ps) hps) l _ hc.2.2 (none0_length nt)
   refine ⟨by have:=idx_length 0 (bg (clo false nn ps) (fst nn nt (clo false nn ps) ps) l (none0 nt)).1;simp only;omega,fun x hx => ?_⟩
   have:=idx_range _ 0 x hx
   rw [hb] at this
   simpa using this
 · simp
theorem follow_range {nn nt : Nat} {ps : List Prod} (hps : ps.all (okProd nn nt) = true) : (dFollow nn nt ps).length = nn ∧ ∀ i,((dFollow nn nt ps).getD i []).length ≤ nt + 1 ∧ ∀ x ∈ (dFollow nn nt ps).getD i [],0 ≤ x ∧ x < ((nt + 1 : Nat) : Int) := by
 unfold dFollow
 rw [if_pos hps]
 have hs:=fol_sh (clo false nn ps) (fst_sh nn nt (clo false nn ps) hps) hps
 refine ⟨by rw [idxs,List.length_map,hs.1],fun i => ?_⟩
 by_cases hi : i < nn
 rotate_left
 · rw [List.getD_eq_getElem?_getD,List.getElem?_eq_none (by rw [idxs,List.length_map,hs.1];omega)]
   simp
 have e : (idxs (fol nn nt (clo false nn ps) (fst nn nt (clo false nn ps) ps) ps)).getD i [] = idx 0 ((fol nn nt (clo false nn ps) (fst nn nt (clo false nn ps) ps) ps).getD i []) := by
  have hlt : i < (fol nn nt (clo false nn ps) (fst nn nt (clo false nn ps) ps) ps).length:=by rw [hs.1];exact hi
  rw [idxs,List.getD_eq_getElem?_getD,List.getElem?_map,List.getD_eq_getElem?_getD,List.getElem?_eq_getElem hlt];rfl
 rw [e]
 have hl:=hs.get hi
 refine ⟨by have:=idx_length 0 ((fol nn nt (clo false nn ps) (fst nn nt (clo false nn ps) ps) ps).getD i []);omega,fun x hx => ?_⟩
 have:=idx_range _ 0 x hx
 rw [hl] at this
 simpa using this
theorem sel_range {nn nt : Nat} {ps : List Prod} (hps : ps.all (okProd nn nt) = true) (p : Prod) : (sel nn nt ps p).length ≤ 2 * (nt + 1) ∧ ∀ x ∈ sel nn nt ps p,0 ≤ x ∧ x < ((nt + 1 : Nat) : Int) := by
 have h1:=of_range hps p.f1
 have h2:=(follow_range hps).2 p.f0.toNat
 unfold sel
 refine ⟨?_,fun x hx => ?_⟩
 · rw [List.length_append]
   split
   · omega
   · simp;omega
 · rcases List.mem_append.1 hx with h | h
   · exact h1.2 x h
   · split at h
     · exact h2.2 x h
     · simp at h
theorem chRow_getD {nn nt : Nat} {ps : List Prod} (hps : ps.all (okProd nn nt) = true) (p : Prod) (look : Nat) : (chRow nn nt ps p).getD look false = decide ((look : Int) ∈ sel nn nt ps p) := by
 rw [chRow,markOn_getD _ _ (fun t ht => by have:=(sel_range hps p).2 t ht;rw [none0_length];omega)]
 simp [none0,List.getElem?_replicate]
 intro h
 by_cases hl : look < nt + 1
 rotate_left
 · rw [if_neg hl] at h;simp at h
 rw [if_pos hl] at h;simp at h
theorem chRow_length (nn nt : Nat) (ps : List Prod) (p : Prod) : (chRow nn nt ps p).length = nt + 1:=by rw [chRow,markOn_length,none0_length]
variable {l0 l1 a2 a3 l4}
theorem chosen_l0_ev (h : Small l4) (h0 : l0.length ≤ 1000000) (h1 : l1.length ≤ 1000) (hok : l4.all (okProd l0.length l1.length) = true) : ∀ (qs pre : List Prod) (out : List (List Bool)),pre ++ qs = l4 → out.length = pre.length → Ev (fun k => predict_chosen.l0 k (dFollow l0.length l1.length l4) (out ++ List.replicate qs.length []) l4 (l4.length : Int) (pre.length : Int) l0 l1 a2 a3 l4) (out ++ qs.map (chRow l0.length l1.length l4))
  | [],pre,out,e,ho => by
    refine Ev.step (fun k => by rw [predict_chosen.l0]) (Ev.neg (by rw [← e];simp) (Ev.some (by simp)))
  | p :: qs,pre,out,e,ho => by
    have hlen : l4.length = pre.length + (qs.length + 1) := by rw [← e];simp
    have hp0 : pre.length ≤ 1000000:=by have:=h.1;omega
    have hmem : p ∈ l4:=by rw [← e];simp
    have hokp:=List.all_eq_true.1 hok p hmem
    have hl:=okProd_left hokp
    have hrd : rd_T30 l4 (pre.length : Int) = p:=by rw [← e];exact getD_mid _ pre p qs _ rfl
    have ih:=chosen_l0_ev h h0 h1 hok qs (pre ++ [p]) (out ++ [chRow l0.length l1.length l4 p]) (by rw [← e];simp) (by simp [ho])
    rw [← wrap_next pre _ hp0] at ih
    have hw : wrap64 ((l1.length : Int) + 1) = ((l1.length + 1 : Nat) : Int) := by rw [wrap64_id (by omega) (by omega)];omega
    have hset : ∀ v : List Bool,(out ++ List.replicate (qs.length + 1) []).set pre.length v = out ++ v :: List.replicate qs.length [] := fun v => by
      rw [List.replicate_succ,← ho];simp
    have hsel : sel l0.length l1.length l4 p = (dOf l0.length l1.length l4 p.f1).1 ++ (if (dOf l0.length l1.length l4 p.f1).2 = true then (dFollow l0.length l1.length l4).getD p.f0.toNat [] else []) := rfl
    have hfin : ∀ l : List Int,l = sel l0.length l1.length l4 p → Ev (fun k => predict_chosen.j1 k (dFollow l0.length l1.length l4) (out ++ none0 l1.length :: List.replicate qs.length []) (pre.length : Int) l l4 (l4.length : Int) (pre.length : Int) l0 l1 a2 a3 l4) (out ++ (p :: qs).map (chRow l0.length l1.length l4)) := fun l el => by
      subst el
      have hr:=sel_range hok p
      refine Ev.step (fun k => by rw [predict_chosen.j1]) ?_
      have hg : (out ++ none0 l1.length :: List.replicate qs.length []).getD pre.length [] = none0 l1.length:=by rw [← ho];simp
      have hx:=chosen_l1_ev (x3:=dFollow l0.length l1.length l4) (x18:=l4) (x19:=(l4.length : Int)) (x20:=(pre.length : Int)) (l0:=l0) (l1:=l1) (a2:=a2) (a3:=a3) (l4:=l4) (R:=out ++ (p :: qs).map (chRow l0.length l1.length l4)) pre.length (sel l0.length l1.length l4 p) [] (out ++ none0 l1.length :: List.replicate qs.length []) (fun t ht => by have:=hr.2 t ht;rw [hg,none0_length];omega) (by simp [ho]) (by have:=hr.1;simp;omega) (by
        rw [hg,show (out ++ none0 l1.length :: List.replicate qs.length []).set pre.length (markOn (sel l0.length l1.length l4 p) (none0 l1.length)) = (out ++ [chRow l0.length l1.length l4 p]) ++ List.replicate qs.length [] from by rw [← ho];simp [chRow]]
        exact Ev.val ih (by simp))
      exact hx
    refine Ev.step (fun k => by rw [predict_chosen.l0]) (Ev.pos (by omega) (Ev.pos (by omega) (Ev.pos (by omega) ?_)))
    rw [hw]
    refine Ev.pos (by omega) (Ev.pos (by omega) (Ev.pos (by simp;omega) (Ev.bind0 (a:=out ++ none0 l1.length :: List.replicate qs.length []) (by rw [Int.toNat_natCast,Int.toNat_natCast,List.length_cons,hset];rfl) ?_)))
    rw [hrd]
    refine Ev.bind (of_ev l0 l1 a2 a3 l4 h h0 h1 p.f1 (h.2 p hmem)) ?_
    have hfl:=follow_range hok
    by_cases he : (dOf l0.length l1.length l4 p.f1).2 = true
    · refine Ev.pos he (Ev.pos hl.1 (Ev.pos (by rw [hfl.1];exact hl.2) (Ev.pos ?_ (hfin _ (by rw [hsel,if_pos he];rfl)))))
      have h2:=(of_range hok p.f1).1
      have h3:=(hfl.2 p.f0.toNat).1
      have h4 : (rd_L3 (dFollow l0.length l1.length l4) p.f0).length ≤ l1.length + 1:=h3
      omega
    · exact Ev.neg he (hfin _ (by rw [hsel,if_neg he,List.append_nil]))
theorem chosen_ev (h : Small l4) (h0 : l0.length ≤ 1000000) (h1 : l1.length ≤ 1000) (hok : l4.all (okProd l0.length l1.length) = true) : Ev (fun k => predict_chosen.f k l0 l1 a2 a3 l4) (l4.map (chRow l0.length l1.length l4)) := by
 refine Ev.congr (fun k => by rw [predict_chosen.f]) (Ev.bind (follow_ev l0 l1 a2 a3 l4 h h0 h1) ?_)
 refine Ev.pos (by omega) (Ev.pos (by have:=h.1;omega) ?_)
 have hx:=chosen_l0_ev (a2:=a2) (a3:=a3) h h0 h1 hok l4 [] [] rfl rfl
 rw [Int.toNat_natCast]
 simpa using hx
theorem rows_l1_ev {x12 : Int} {x11 : Int} {R : List (List Int)} (r : Nat) : ∀ (n m : Nat) (out : List (List Int)),r < out.length → m + n ≤ 1000000 → out.getD r [] = List.replicate m (-1) ++ List.replicate n 0 → Ev (fun k => predict_rows.l0 k (out.set r (List.replicate (m + n) (-1))) x11 (wrap64 (x12 + 1)) l0 l1 a2 a3 l4) R → Ev (fun k => predict_rows.l1 k out (r : Int) x11 x12 ((m + n : Nat) : Int) (m : Int) l0 l1 a2 a3 l4) R
  | 0,m,out,hr,_,e,hk => Ev.step (fun k => by rw [predict_rows.l1]) (Ev.neg (by omega) (by
      rw [show out.set r (List.replicate (m + 0) (-1)) = out from by
        have:=set_get out r [] hr
        rw [e] at this
        simpa using this] at hk
      exact hk))
  | n + 1,m,out,hr,h3,e,hk => by
    have hg : rd_L3 out (r : Int) = out.getD r [] := by rw [rd_L3,Int.toNat_natCast]
    have ih:=rows_l1_ev (x12:=x12) (x11:=x11) (R:=R) r n (m + 1) (out.set r (List.replicate (m + 1) (-1) ++ List.replicate n 0)) (by rw [List.length_set];exact hr) (by omega) (get_set _ _ hr) (by rw [set_set,show m + 1 + n = m + (n + 1) by omega];exact hk)
    refine Ev.step (fun k => by rw [predict_rows.l1]) (Ev.pos (by omega) (Ev.pos (by omega) (Ev.pos (by omega) (Ev.pos (by omega) (Ev.pos (by rw [hg,e];simp;omega) ?_)))))
    have hs : (out.getD r []).set m (-1) = List.replicate (m + 1) (-1) ++ List.replicate n 0:=by
      rw [e,List.replicate_succ,List.replicate_succ',List.append_assoc]
      simp
    rw [hg,Int.toNat_natCast,Int.toNat_natCast,hs,show wrap64 ((m : Int) + 1) = ((m + 1 : Nat) : Int) from by rw [wrap64_id (by omega) (by omega)];omega,show m + (n + 1) = m + 1 + n by omega]
    exact ih
theorem rows_l0_ev (h1 : l1.length ≤ 1000) : ∀ (n : Nat) (out : List (List Int)),out.length + n ≤ 1000000 → Ev (fun k => predict_rows.l0 k (out ++ List.replicate n []) ((out.length + n : Nat) : Int) (out.length : Int) l0 l1 a2 a3 l4) (out ++ List.replicate n (List.replicate (l1.length + 1) (-1)))
  | 0,out,_ => Ev.step (fun k => by rw [predict_rows.l0]) (Ev.neg (by omega) (Ev.some (by simp)))
  | n + 1,out,h3 => by
    have hw : wrap64 ((l1.length : Int) + 1) = ((l1.length + 1 : Nat) : Int) := by rw [wrap64_id (by omega) (by omega)];omega
    have ih:=rows_l0_ev h1 n (out ++ [List.replicate (l1.length + 1) (-1)]) (by simp;omega)
    rw [← wrap_next out _ (by omega)] at ih
    have hset : ∀ v w : List Int,(out ++ w :: List.replicate n []).set out.length v = out ++ v :: List.replicate n [] := fun v w => by simp
    refine Ev.step (fun k => by rw [predict_rows.l0]) (Ev.pos (by omega) ?_)
    rw [hw]
    refine Ev.pos (by omega) (Ev.pos (by omega) (Ev.pos (by omega) (Ev.pos (by simp;omega) (Ev.bind0 (a:=out ++ List.replicate (l1.length + 1) 0 :: List.replicate n []) (by rw [Int.toNat_natCast,Int.toNat_natCast,List.replicate_succ,hset]) ?_))))
    have hg : (out ++ List.replicate (l1.length + 1) 0 :: List.replicate n []).getD out.length [] = List.replicate (l1.length + 1) (0 : Int) := by simp
    have hx:=rows_l1_ev (l0:=l0) (l1:=l1) (a2:=a2) (a3:=a3) (l4:=l4) (x12:=(out.length : Int)) (x11:=((out.length + (n + 1) : Nat) : Int)) (R:=out ++ List.replicate (n + 1) (List.replicate (l1.length + 1) (-1))) out.length (l1.length + 1) 0 (out ++ List.replicate (l1.length + 1) 0 :: List.replicate n []) (by simp) (by omega) (by rw [hg];simp) (by
      rw [hset,Nat.zero_add]
      have e : out.length + (n + 1) = (out ++ [List.replicate (l1.length + 1) (-1)]).length + n:=by simp;omega
      rw [e]
      refine Ev.val (Ev.congr (fun k => ?_) ih) (by simp [List.replicate_succ])
      rw [List.append_assoc,List.singleton_append])
    rw [show rd_L3 (out ++ List.replicate (l1.length + 1) 0 :: List.replicate n []) (out.length : Int) = List.replicate (l1.length + 1) 0 from by rw [rd_L3,Int.toNat_natCast];exact hg,List.length_replicate]
    simpa using hx
theorem rows_ev (h0 : l0.length ≤ 1000000) (h1 : l1.length ≤ 1000) : Ev (fun k => predict_rows.f k l0 l1 a2 a3 l4) (List.replicate l0.length (List.replicate (l1.length + 1) (-1))) := by
 refine Ev.congr (fun k => by rw [predict_rows.f]) (Ev.pos (by omega) (Ev.pos (by omega) (Ev.bind0 (a:=List.replicate l0.length []) (by rw [Int.toNat_natCast]) ?_)))
 have hx:=rows_l0_ev (l0:=l0) (a2:=a2) (a3:=a3) (l4:=l4) h1 l0.length [] (by simpa using h0)
 simpa using hx
end
def pRow (b : List (List Bool)) (ps : List Prod) (r : Nat) : Nat → Nat → List Clash → List Int × List Clash
  | 0,_,bad => ([],bad)
  | n + 1,look,bad => ((prIn b r look 0 ps (-1,bad)).1 :: (pRow b ps r n (look + 1) (prIn b r look 0 ps (-1,bad)).2).1,(pRow b ps r n (look + 1) (prIn b r look 0 ps (-1,bad)).2).2)
def pAll (b : List (List Bool)) (ps : List Prod) (w : Nat) : Nat → Nat → List Clash → List (List Int) × List Clash
  | 0,_,bad => ([],bad)
  | n + 1,r,bad => ((pRow b ps r w 0 bad).1 :: (pAll b ps w n (r + 1) (pRow b ps r w 0 bad).2).1,(pAll b ps w n (r + 1) (pRow b ps r w 0 bad).2).2)
theorem prRow_pRow (b : List (List Bool)) (ps : List Prod) (r : Nat) : ∀ (n : Nat) (pre : List Int) (bad : List Clash),prRow b ps r n pre.length (pre ++ List.replicate n (-1),bad) = (pre ++ (pRow b ps r n pre.length bad).1,(pRow b ps r n pre.length bad).2)
  | 0,pre,bad => by simp [prRow,pRow]
  | n + 1,pre,bad => by
    have hg : (pre ++ List.replicate (n + 1) (-1)).getD pre.length 0 = (-1 : Int) := by rw [List.replicate_succ];simp
    have hs : ∀ v,(pre ++ List.replicate (n + 1) (-1)).set pre.length v = (pre ++ [v]) ++ List.replicate n (-1) := fun v => by rw [List.replicate_succ];simp
    have ih:=prRow_pRow b ps r n (pre ++ [(prIn b r pre.length 0 ps (-1,bad)).1]) (prIn b r pre.length 0 ps (-1,bad)).2
    rw [prRow,hg,hs,pRow]
    rw [List.length_append,List.length_singleton] at ih
    rw [ih,List.append_assoc];rfl
theorem prAll_pAll (b : List (List Bool)) (ps : List Prod) (w : Nat) : ∀ (n : Nat) (pre : List (List Int)) (bad : List Clash),prAll b ps n pre.length (pre ++ List.replicate n (List.replicate w (-1)),bad) = (pre ++ (pAll b ps w n pre.length bad).1,(pAll b ps w n pre.length bad).2)
  | 0,pre,bad => by simp [prAll,pAll]
  | n + 1,pre,bad => by
    have hg : (pre ++ List.replicate (n + 1) (List.replicate w (-1))).getD pre.length [] = List.replicate w (-1 : Int) := by rw [List.replicate_succ];simp
    have hs : ∀ v,(pre ++ List.replicate (n + 1) (List.replicate w (-1))).set pre.length v = (pre ++ [v]) ++ List.replicate n (List.replicate w (-1)) := fun v => by rw [List.replicate_succ];simp
    have hr:=prRow_pRow b ps pre.length w [] bad
    simp only [List.nil_append,List.length_nil] at hr
    have ih:=prAll_pAll b ps w n (pre ++ [(pRow b ps pre.length w 0 bad).1]) (pRow b ps pre.length w 0 bad).2
    rw [prAll,hg,hs,pAll,List.length_replicate,hr]
    rw [List.length_append,List.length_singleton] at ih
    simp only
    rw [ih,List.append_assoc];rfl
theorem prIn_max (b : List (List Bool)) (r look : Nat) : ∀ (ps : List Prod) (i : Nat) (st : Int × List Clash),(prIn b r look i ps st).2.length ≤ st.2.length + ps.length
  | [],_,_ => Nat.le_refl _
  | p :: ps,i,st => by
    have:=prIn_max b r look ps (i + 1) (prStep b r look i p st)
    have : (prStep b r look i p st).2.length ≤ st.2.length + 1:=by
      unfold prStep;split
      · split <;> simp
      · simp
    rw [prIn,List.length_cons];omega
theorem pRow_max (b : List (List Bool)) (ps : List Prod) (r : Nat) : ∀ (n look : Nat) (bad : List Clash),(pRow b ps r n look bad).1.length = n ∧ (pRow b ps r n look bad).2.length ≤ bad.length + n * ps.length
  | 0,_,_ => by simp [pRow]
  | n + 1,look,bad => by
    have h1:=pRow_max b ps r n (look + 1) (prIn b r look 0 ps (-1,bad)).2
    have h2:=prIn_max b r look ps 0 (-1,bad)
    rw [pRow,Nat.succ_mul]
    simp only [List.length_cons] at h2 ⊢
    exact ⟨by rw [h1.1],by omega⟩
theorem pAll_max (b : List (List Bool)) (ps : List Prod) (w : Nat) : ∀ (n r : Nat) (bad : List Clash),(pAll b ps w n r bad).1.length = n ∧ (∀ x ∈ (pAll b ps w n r bad).1,x.length = w) ∧ (pAll b ps w n r bad).2.length ≤ bad.length + n * (w * ps.length)
  | 0,_,_ => by simp [pAll]
  | n + 1,r,bad => by
    have h1:=pAll_max b ps w n (r + 1) (pRow b ps r w 0 bad).2
    have h2:=pRow_max b ps r w 0 bad
    rw [pAll,Nat.succ_mul]
    refine ⟨by simp only [List.length_cons];rw [h1.1],fun x hx => ?_,by simp only;omega⟩
    rcases List.mem_cons.1 hx with rfl | h
    · exact h2.1
    · exact h1.2.1 x h
section
variable {l0 : List ByteArray} {l1 : List Tok} {a2 a3 : Int} {l4 : List Prod} {b : List (List Bool)} {all : List (List Int)}
end
section
variable (l0 : List ByteArray) (l1 : List Tok) (a2 a3 : Int) (l4 : List Prod)
def dPredict (nn nt : Nat) (ps : List Prod) : List (List Int) × List Clash:=if ps.all (okProd nn nt) = true then pAll (ps.map (chRow nn nt ps)) ps (nt + 1) nn 0 [] else ([],[])
variable (h : Small l4) (h0 : l0.length ≤ 30) (h1 : l1.length ≤ 30) (h4 : l4.length ≤ 30)
include h h0 h1 h4
set_option linter.unusedSectionVars false in
theorem bad_bound (b : List (List Bool)) : (pAll b l4 (l1.length + 1) l0.length 0 []).2.length ≤ 100000:=by
 have h2:=(pAll_max b l4 (l1.length + 1) l0.length 0 []).2.2
 have h3 : l0.length * ((l1.length + 1) * l4.length) ≤ 30 * (31 * 30) := Nat.mul_le_mul h0 (Nat.mul_le_mul (by omega) h4)
 simp only [List.length_nil] at h2
 omega
theorem predict_ev : Ev (fun k => predict_Predict.f k l0 l1 a2 a3 l4) (dPredict l0.length l1.length l4) := by
 refine Ev.congr (fun k => by rw [predict_Predict.f]) (Ev.bind0 (firstsRight_val l0 l1 a2 a3 l4 h) ?_)
 unfold dPredict
 cases hr : l4.all (okProd l0.length l1.length) with
 | false => exact Ev.neg (by simp) (Ev.some (by simp))
 | true =>
  refine Ev.pos rfl (Ev.bind (chosen_ev h (by omega) (by omega) hr) (Ev.bind (rows_ev (by omega) (by omega)) ?_))
  have hp:=prAll_pAll (l4.map (chRow l0.length l1.length l4)) l4 (l1.length + 1) l0.length [] []
  simp only [List.nil_append,List.length_nil] at hp
  rw [List.length_replicate,hp]
  refine Ev.pos ⟨?_,h.1,by omega,by have:=bad_bound l0 l1 l4 h h0 h1 h4 (l4.map (chRow l0.length l1.length l4));simp only;omega⟩ (Ev.some (if_pos rfl).symm)
  unfold prOk
  simp only [Bool.and_eq_true,decide_eq_true_eq,List.all_eq_true]
  refine ⟨by simp,fun row hrow => ?_⟩
  rw [List.eq_of_mem_replicate hrow,List.length_replicate]
  refine ⟨by omega,fun x hx => ?_⟩
  obtain ⟨p,_,rfl⟩ := List.mem_map.1 hx
  rw [chRow_length]
  omega
end
end Go.Proofs.Ytfdcfihcfegekaa.M
end

section
namespace Go.Proofs.Ytfdcfihcfegekaa.M
open Go.RowKit Go.Proofs.YtfdcfihcfegekaaW.PrintWords Go.Proofs.YtfdcfihcfegekaaW.PrintLast Go.Proofs.YtfdcfihcfegekaaW.PrintMore Go.Proofs.Ytfdcfihcfegekaa.P Go.Proofs.Ytfdcfihcfegekaa.H
set_option linter.unusedVariables false
set_option linter.unusedSimpArgs false
set_option linter.unusedSectionVars false
section
variable (b : List (List Bool)) (ps : List Prod) (r look : Nat)
def Sel (i : Nat) : Prop := ∃ p,ps[i]? = some p ∧ p.f0 = (r : Int) ∧ (b.getD i []).getD look false = true
def GoodC (c : Clash) : Prop:=c.f0 = (r : Int) ∧ c.f1 = (look : Int) ∧ ∃ i j : Nat,c.f2 = (i : Int) ∧ c.f3 = (j : Int) ∧ i < j ∧ j < ps.length ∧ Sel b ps r look i ∧ Sel b ps r look j
theorem sel_lt {b : List (List Bool)} {ps : List Prod} {r look i : Nat} (h : Sel b ps r look i) : i < ps.length:=by
 obtain ⟨p,hp,_⟩ := h
 exact (List.getElem?_eq_some_iff.1 hp).1
variable {b ps r look}
theorem sel_mid {pre qs : List Prod} {p : Prod} (e : pre ++ p :: qs = ps) : Sel b ps r look pre.length ↔ p.f0 = (r : Int) ∧ (b.getD pre.length []).getD look false = true:=by
 have hp : ps[pre.length]? = some p:=by rw [← e];simp
 constructor
 · rintro ⟨q,hq,h⟩
   rw [hp] at hq
   obtain rfl:=Option.some.inj hq
   exact h
 · exact fun h => ⟨p,hp,h⟩
theorem prIn_inv : ∀ (qs pre : List Prod) (st : Int × List Clash),pre ++ qs = ps → (st.1 = -1 ∨ ∃ i : Nat,st.1 = (i : Int) ∧ i < pre.length ∧ Sel b ps r look i) →
    ((prIn b r look pre.length qs st).1 = -1 ∧ st.1 = -1 ∧ (∀ j,pre.length ≤ j → ¬ Sel b ps r look j) ∨
      ∃ i : Nat,(prIn b r look pre.length qs st).1 = (i : Int) ∧ Sel b ps r look i ∧ (st.1 = -1 → pre.length ≤ i ∧ ∀ j,pre.length ≤ j → Sel b ps r look j → i ≤ j) ∧ (st.1 ≠ -1 → st.1 = (i : Int))) ∧
    (∀ c ∈ (prIn b r look pre.length qs st).2,c ∈ st.2 ∨ GoodC b ps r look c) ∧
    (st.1 ≠ -1 → (∃ j,pre.length ≤ j ∧ Sel b ps r look j) → st.2.length < (prIn b r look pre.length qs st).2.length) ∧
    ((∃ i j,pre.length ≤ i ∧ i < j ∧ Sel b ps r look i ∧ Sel b ps r look j) → st.2.length < (prIn b r look pre.length qs st).2.length)
  | [],pre,st,e,hst => by
    have hno : ∀ j,pre.length ≤ j → ¬ Sel b ps r look j:=fun j hj h => by
      have:=sel_lt h
      rw [← e] at this
      simp at this
      omega
    refine ⟨?_,fun c hc => .inl hc,fun _ ⟨j,hj,h⟩ => absurd h (hno j hj),fun ⟨i,j,hi,_,h,_⟩ => absurd h (hno i hi)⟩
    rcases hst with h | ⟨i,h,hi,hs⟩
    · exact .inl ⟨h,h,hno⟩
    · exact .inr ⟨i,h,hs,fun h2 => by rw [h] at h2;omega,fun _ => h⟩
  | p :: qs,pre,st,e,hst => by
    have hm:=sel_mid (b:=b) (r:=r) (look:=look) e
    have hstep : ∀ st' : Int × List Clash,prStep b r look pre.length p st = st' → prIn b r look pre.length (p :: qs) st = prIn b r look (pre ++ [p]).length qs st' := fun st' h => by
      rw [prIn,h,List.length_append,List.length_singleton]
    have hlen : (pre ++ [p]).length = pre.length + 1:=by simp
    by_cases hs : Sel b ps r look pre.length
    · have hc:=hm.1 hs
      by_cases hx : st.1 = -1
      · have ih:=prIn_inv qs (pre ++ [p]) (((pre.length : Nat) : Int),st.2) (by rw [← e];simp) (.inr ⟨pre.length,rfl,by simp,hs⟩)
        rw [hstep _ (by rw [prStep,if_pos hc,if_pos (by rw [hx];decide)])]
        obtain ⟨h1,h2,h3,h4⟩ := ih
        have hne : ((pre.length : Nat) : Int) ≠ -1:=by omega
        refine ⟨?_,h2,fun h => absurd hx h,fun ⟨i,j,hi,hij,hsi,hsj⟩ => h3 hne ⟨j,by rw [hlen];omega,hsj⟩⟩
        rcases h1 with ⟨_,h5,_⟩ | ⟨i,h5,h6,_,h8⟩
        · exact absurd h5 hne
        · have:=h8 hne
          obtain rfl : pre.length = i:=by simp only at this;omega
          exact .inr ⟨pre.length,h5,h6,fun _ => ⟨Nat.le_refl _,fun j hj _ => hj⟩,fun h => absurd hx h⟩
      · obtain ⟨i0,hi0,hi0l,hs0⟩ := hst.resolve_left hx
        have ih:=prIn_inv qs (pre ++ [p]) (st.1,st.2 ++ [⟨(r : Int),(look : Int),st.1,((pre.length : Nat) : Int)⟩]) (by rw [← e];simp) (.inr ⟨i0,hi0,by simp;omega,hs0⟩)
        rw [hstep _ (by rw [prStep,if_pos hc,if_neg (by omega)])]
        obtain ⟨h1,h2,h3,h4⟩ := ih
        have hle:=prIn_le b r look qs (pre ++ [p]).length (st.1,st.2 ++ [⟨(r : Int),(look : Int),st.1,((pre.length : Nat) : Int)⟩])
        simp only [List.length_append,List.length_cons,List.length_nil] at hle
        have hlt : st.2.length < (prIn b r look (pre ++ [p]).length qs (st.1,st.2 ++ [⟨(r : Int),(look : Int),st.1,((pre.length : Nat) : Int)⟩])).2.length:=by
          simp only [List.length_append,List.length_cons,List.length_nil]
          omega
        refine ⟨?_,fun c hc' => ?_,fun _ _ => hlt,fun _ => hlt⟩
        · rcases h1 with ⟨_,h5,_⟩ | ⟨i,h5,h6,_,h8⟩
          · exact absurd h5 hx
          · exact .inr ⟨i,h5,h6,fun h => absurd h hx,fun _ => h8 hx⟩
        · rcases h2 c hc' with h | h
          · rcases List.mem_append.1 h with h | h
            · exact .inl h
            · obtain rfl:=List.mem_singleton.1 h
              exact .inr ⟨rfl,rfl,i0,pre.length,hi0,rfl,hi0l,sel_lt hs,hs0,hs⟩
          · exact .inr h
    · have hc : ¬ (p.f0 = (r : Int) ∧ (b.getD pre.length []).getD look false = true) := fun h => hs (hm.2 h)
      have ih:=prIn_inv qs (pre ++ [p]) st (by rw [← e];simp) (hst.imp id (fun ⟨i,h,hi,h2⟩ => ⟨i,h,by simp;omega,h2⟩))
      rw [hstep _ (by rw [prStep,if_neg hc])]
      obtain ⟨h1,h2,h3,h4⟩ := ih
      have hup : ∀ j,pre.length ≤ j → Sel b ps r look j → (pre ++ [p]).length ≤ j:=fun j hj h => by
        rw [hlen]
        by_cases he : j = pre.length
        · subst he;exact absurd h hs
        · omega
      refine ⟨?_,h2,fun h ⟨j,hj,h5⟩ => h3 h ⟨j,hup j hj h5,h5⟩,fun ⟨i,j,hi,hij,hsi,hsj⟩ => h4 ⟨i,j,hup i hi hsi,hij,hsi,hsj⟩⟩
      rcases h1 with ⟨h5,h6,h7⟩ | ⟨i,h5,h6,h7,h8⟩
      · exact .inl ⟨h5,h6,fun j hj h => h7 j (hup j hj h) h⟩
      · exact .inr ⟨i,h5,h6,fun h => ⟨by have:=(h7 h).1;rw [hlen] at this;omega,fun j hj h9 => (h7 h).2 j (hup j hj h9) h9⟩,h8⟩
theorem prIn_fst : ∀ (qs : List Prod) (i : Nat) (st st' : Int × List Clash),st.1 = st'.1 → (prIn b r look i qs st).1 = (prIn b r look i qs st').1
  | [],_,_,_,h => h
  | p :: qs,i,st,st',h => by
    refine prIn_fst qs (i + 1) _ _ ?_
    unfold prStep
    rw [← h]
    split
    · split
      · rfl
      · exact rfl
    · exact h
end
def tk (b : List (List Bool)) (ps : List Prod) (r look : Nat) : Int:=(prIn b r look 0 ps (-1,[])).1
theorem tk_spec (b : List (List Bool)) (ps : List Prod) (r look : Nat) : (tk b ps r look = -1 ∧ ∀ j,¬ Sel b ps r look j) ∨ ∃ i : Nat,tk b ps r look = (i : Int) ∧ Sel b ps r look i ∧ ∀ j,Sel b ps r look j → i ≤ j:=by
 rcases (prIn_inv (b:=b) (ps:=ps) (r:=r) (look:=look) ps [] (-1,[]) rfl (.inl rfl)).1 with ⟨h,_,h2⟩ | ⟨i,h,h2,h3,_⟩
 · exact .inl ⟨h,fun j => h2 j (Nat.zero_le _)⟩
 · exact .inr ⟨i,h,h2,fun j hj => (h3 rfl).2 j (Nat.zero_le _) hj⟩
theorem pRow_getD (b : List (List Bool)) (ps : List Prod) (r : Nat) : ∀ (n look : Nat) (bad : List Clash) (j : Nat),j < n → (pRow b ps r n look bad).1.getD j 0 = tk b ps r (look + j)
  | 0,_,_,j,h => absurd h (by omega)
  | n + 1,look,bad,0,_ => prIn_fst ps 0 _ _ rfl
  | n + 1,look,bad,j + 1,h => by
    have ih:=pRow_getD b ps r n (look + 1) (prIn b r look 0 ps (-1,bad)).2 j (by omega)
    rw [pRow,List.getD_cons_succ,ih,show look + 1 + j = look + (j + 1) by omega]
theorem pAll_getD (b : List (List Bool)) (ps : List Prod) (w : Nat) : ∀ (n r : Nat) (bad : List Clash) (i : Nat),i < n → ((pAll b ps w n r bad).1.getD i []).length = w ∧ ∀ j,j < w → ((pAll b ps w n r bad).1.getD i []).getD j 0 = tk b ps (r + i) j
  | 0,_,_,i,h => absurd h (by omega)
  | n + 1,r,bad,0,_ => by
    rw [pAll,List.getD_cons_zero]
    refine ⟨(pRow_max b ps r w 0 bad).1,fun j hj => ?_⟩
    rw [pRow_getD b ps r w 0 bad j hj];simp
  | n + 1,r,bad,i + 1,h => by
    have ih:=pAll_getD b ps w n (r + 1) (pRow b ps r w 0 bad).2 i (by omega)
    rw [pAll,List.getD_cons_succ]
    refine ⟨ih.1,fun j hj => ?_⟩
    rw [ih.2 j hj,show r + 1 + i = r + (i + 1) by omega]
theorem pRow_good (b : List (List Bool)) (ps : List Prod) (r : Nat) : ∀ (n look : Nat) (bad : List Clash),(∀ c ∈ (pRow b ps r n look bad).2,c ∈ bad ∨ ∃ k,look ≤ k ∧ k < look + n ∧ GoodC b ps r k c) ∧
    ∀ k,look ≤ k → k < look + n → (∃ i j,i < j ∧ Sel b ps r k i ∧ Sel b ps r k j) → bad.length < (pRow b ps r n look bad).2.length
  | 0,look,bad => ⟨fun c hc => .inl hc,fun k h1 h2 => absurd h1 (by omega)⟩
  | n + 1,look,bad => by
    obtain ⟨_,h2,_,h4⟩ := prIn_inv (b:=b) (ps:=ps) (r:=r) (look:=look) ps [] (-1,bad) rfl (.inl rfl)
    have ih:=pRow_good b ps r n (look + 1) (prIn b r look 0 ps (-1,bad)).2
    have hle1:=prIn_le b r look ps 0 (-1,bad)
    have hle2 : ∀ (n look : Nat) (bad : List Clash),bad.length ≤ (pRow b ps r n look bad).2.length:=fun n => by
      induction n with
      | zero => exact fun _ _ => Nat.le_refl _
      | succ n ihn => exact fun look bad => Nat.le_trans (prIn_le b r look ps 0 (-1,bad)) (ihn _ _)
    have hle3:=hle2 n (look + 1) (prIn b r look 0 ps (-1,bad)).2
    simp only [List.length_nil] at h2 h4
    simp only at hle1
    rw [pRow]
    refine ⟨fun c hc => ?_,fun k h5 h6 ⟨i,j,hij,hi,hj⟩ => ?_⟩
    · rcases ih.1 c hc with h | ⟨k,hk1,hk2,hk3⟩
      · rcases h2 c h with h | h
        · exact .inl h
        · exact .inr ⟨look,Nat.le_refl _,by omega,h⟩
      · exact .inr ⟨k,by omega,by omega,hk3⟩
    · simp only
      by_cases he : k = look
      · subst he
        have:=h4 ⟨i,j,Nat.zero_le _,hij,hi,hj⟩
        omega
      · have:=ih.2 k (by omega) (by omega) ⟨i,j,hij,hi,hj⟩
        omega
theorem pRow_le (b : List (List Bool)) (ps : List Prod) (r : Nat) : ∀ (n look : Nat) (bad : List Clash),bad.length ≤ (pRow b ps r n look bad).2.length
  | 0,_,_ => Nat.le_refl _
  | n + 1,look,bad => Nat.le_trans (prIn_le b r look ps 0 (-1,bad)) (pRow_le b ps r n _ _)
theorem pAll_le (b : List (List Bool)) (ps : List Prod) (w : Nat) : ∀ (n r : Nat) (bad : List Clash),bad.length ≤ (pAll b ps w n r bad).2.length
  | 0,_,_ => Nat.le_refl _
  | n + 1,r,bad => Nat.le_trans (pRow_le b ps r w 0 bad) (pAll_le b ps w n _ _)
theorem pAll_good (b : List (List Bool)) (ps : List Prod) (w : Nat) : ∀ (n r : Nat) (bad : List Clash),(∀ c ∈ (pAll b ps w n r bad).2,c ∈ bad ∨ ∃ q k,r ≤ q ∧ q < r + n ∧ k < w ∧ GoodC b ps q k c) ∧
    ∀ q k,r ≤ q → q < r + n → k < w → (∃ i j,i < j ∧ Sel b ps q k i ∧ Sel b ps q k j) → bad.length < (pAll b ps w n r bad).2.length
  | 0,r,bad => ⟨fun c hc => .inl hc,fun q k h1 h2 => absurd h1 (by omega)⟩
  | n + 1,r,bad => by
    have h1:=pRow_good b ps r w 0 bad
    have ih:=pAll_good b ps w n (r + 1) (pRow b ps r w 0 bad).2
    have hle1:=pRow_le b ps r w 0 bad
    have hle2:=pAll_le b ps w n (r + 1) (pRow b ps r w 0 bad).2
    rw [pAll]
    refine ⟨fun c hc => ?_,fun q k h5 h6 hk hex => ?_⟩
    · rcases ih.1 c hc with h | ⟨q,k,h2,h3,h4,h5⟩
      · rcases h1.1 c h with h | ⟨k,_,h2,h3⟩
        · exact .inl h
        · exact .inr ⟨r,k,Nat.le_refl _,by omega,by omega,h3⟩
      · exact .inr ⟨q,k,by omega,by omega,h4,h5⟩
    · simp only
      by_cases he : q = r
      · subst he
        have:=h1.2 k (Nat.zero_le _) (by omega) hex
        omega
      · have:=ih.2 q k (by omega) (by omega) hk hex
        omega
section
variable {nn nt : Nat} {ps : List Prod}
def SelD (nn nt : Nat) (ps : List Prod) (r look i : Nat) : Prop := ∃ p,ps[i]? = some p ∧ p.f0 = (r : Int) ∧ (look : Int) ∈ sel nn nt ps p
theorem selD_iff (hps : ps.all (okProd nn nt) = true) (r look i : Nat) : Sel (ps.map (chRow nn nt ps)) ps r look i ↔ SelD nn nt ps r look i:=by
 have hb : ∀ p,ps[i]? = some p → ((ps.map (chRow nn nt ps)).getD i []).getD look false = decide ((look : Int) ∈ sel nn nt ps p) := fun p hp => by
  have e : (ps.map (chRow nn nt ps)).getD i [] = chRow nn nt ps p:=by rw [List.getD_eq_getElem?_getD,List.getElem?_map,hp];rfl
  rw [e]
  exact chRow_getD hps p look
 constructor
 · rintro ⟨p,h1,h2,h3⟩
   rw [hb p h1] at h3
   exact ⟨p,h1,h2,of_decide_eq_true h3⟩
 · rintro ⟨p,h1,h2,h3⟩
   exact ⟨p,h1,h2,by rw [hb p h1];exact decide_eq_true h3⟩
theorem dPredict_table (hps : ps.all (okProd nn nt) = true) : (dPredict nn nt ps).1.length = nn ∧ ∀ r,r < nn → ((dPredict nn nt ps).1.getD r []).length = nt + 1 ∧ ∀ look,look ≤ nt →
    (((dPredict nn nt ps).1.getD r []).getD look 0 = -1 ∧ ∀ j,¬ SelD nn nt ps r look j) ∨ ∃ i : Nat,((dPredict nn nt ps).1.getD r []).getD look 0 = (i : Int) ∧ SelD nn nt ps r look i ∧ ∀ j,SelD nn nt ps r look j → i ≤ j:=by
 have e : dPredict nn nt ps = pAll (ps.map (chRow nn nt ps)) ps (nt + 1) nn 0 [] := by rw [dPredict,if_pos hps]
 rw [e]
 refine ⟨(pAll_max _ ps (nt + 1) nn 0 []).1,fun r hr => ?_⟩
 obtain ⟨h1,h2⟩ := pAll_getD (ps.map (chRow nn nt ps)) ps (nt + 1) nn 0 [] r hr
 refine ⟨h1,fun look hl => ?_⟩
 rw [h2 look (by omega),Nat.zero_add]
 rcases tk_spec (ps.map (chRow nn nt ps)) ps r look with ⟨h,h3⟩ | ⟨i,h,h3,h4⟩
 · exact .inl ⟨h,fun j hj => h3 j ((selD_iff hps r look j).2 hj)⟩
 · exact .inr ⟨i,h,(selD_iff hps r look i).1 h3,fun j hj => h4 j ((selD_iff hps r look j).2 hj)⟩
theorem dPredict_one (hps : ps.all (okProd nn nt) = true) (hb : (dPredict nn nt ps).2 = []) {r look i j : Nat} (hr : r < nn) (hl : look ≤ nt) (hi : SelD nn nt ps r look i) (hj : SelD nn nt ps r look j) : i = j:=by
 have e : dPredict nn nt ps = pAll (ps.map (chRow nn nt ps)) ps (nt + 1) nn 0 [] := by rw [dPredict,if_pos hps]
 rw [e] at hb
 have h:=(pAll_good (ps.map (chRow nn nt ps)) ps (nt + 1) nn 0 []).2 r look (Nat.zero_le _) (by omega) (by omega)
 rw [hb] at h
 have hno : ∀ a c,a < c → SelD nn nt ps r look a → SelD nn nt ps r look c → False:=fun a c hac ha hc => absurd (h ⟨a,c,hac,(selD_iff hps r look a).2 ha,(selD_iff hps r look c).2 hc⟩) (by simp)
 rcases Nat.lt_trichotomy i j with hlt | heq | hgt
 · exact (hno i j hlt hi hj).elim
 · exact heq
 · exact (hno j i hgt hj hi).elim
end
end Go.Proofs.Ytfdcfihcfegekaa.M
end

section
namespace Go.Proofs.Ytfdcfihcfegekaa.P
open Go.RowKit Go.Proofs.YtfdcfihcfegekaaW.PrintWords Go.Proofs.YtfdcfihcfegekaaW.PrintLast Go.Proofs.YtfdcfihcfegekaaW.PrintMore
set_option linter.unusedVariables false
set_option linter.unusedSimpArgs false
def mPick (l : List Int) (at_ : Nat) (n : Int) : Int:=if l.length < at_ + 1 then 0 else Int.tmod (l.getD at_ 0) n
theorem wrap_u8 {x : Int} (h0 : 0 ≤ x) (h1 : x ≤ 255) : IntKind.i64.wrap x = x:=by rw [IntKind.wrap_i64];omega
theorem wrap_tmod {x n : Int} (h0 : 0 ≤ x) (h1 : x ≤ 255) : IntKind.i64.wrap (x.tmod n) = x.tmod n:=by
 have h2 : 0 ≤ x.tmod n:=Int.tmod_nonneg n h0
 have h3 : x.tmod n ≤ x:=by
  obtain ⟨a,rfl⟩ := Int.eq_ofNat_of_zero_le h0
  rcases Int.lt_or_le n 0 with hn | hn
  · obtain ⟨b,hb⟩ := Int.eq_ofNat_of_zero_le (show 0 ≤ -n by omega)
    have : (a : Int).tmod n = (a : Int).tmod b:=by rw [show n = -(b : Int) by omega,Int.tmod_neg]
    rw [this,← Int.ofNat_tmod]
    exact_mod_cast Nat.mod_le a b
  · obtain ⟨b,rfl⟩ := Int.eq_ofNat_of_zero_le hn
    rw [← Int.ofNat_tmod]
    exact_mod_cast Nat.mod_le a b
 rw [IntKind.wrap_i64];omega
set_option maxHeartbeats 1000000 in
theorem pick_any (l : List Int) (A0 : Option Addr) (c0 at_ : Nat) (n : Int) (LB AB : Nat) (W : World) (hne : LB ≠ AB) (hl : W.cell? ⟨LB,0,none⟩ = some (.slice A0 l.length c0)) (hab : W.heap[AB]? = some (.cells #[.int .i64 (at_ : Int)] 3 (0,0)))
    (hr : ∀ W',Kept W W' (fun k => k = AB) → Kd.C (Kd.int .u8) W' A0 l.length l) (hn : n ≠ 0) (hat : at_ < 1000000) (hu : ∀ x ∈ l,0 ≤ x ∧ x ≤ 255) :
    Calls Try.prog 21 #[.int .i64 n,.pointer (some ⟨AB,0,none⟩),.pointer (some ⟨LB,0,none⟩)] W fun e w' => e = .returned (.int .i64 (mPick l at_ n)) ∧ Aside0 (Kept W w' (fun k => k = AB)) ∧ Aside0 (w'.heap[AB]? = some (.cells #[.int .i64 ((at_ + 1 : Nat) : Int)] 3 (0,0))) ∧ Aside0 (Below AB W w') := by
 have ha : W.cell? ⟨AB,0,none⟩ = some (.int .i64 (at_ : Int)) := (blk_cell hab 0).trans rfl
 have hf:=blk_frozen hab 0
 have HA3:=Aside0.mk (blk_put hab 0 (.int .i64 ((at_ : Int) + 1)) (cs' := #[.int .i64 ((at_ + 1 : Nat) : Int)]) rfl)
 have hK:=Kept.setCell (Kept.refl W (fun k => k = AB)) (p:=⟨AB,0,none⟩) (.inl rfl) (.int .i64 ((at_ : Int) + 1))
 have hw1 : IntKind.i64.wrap ((at_ : Int) + 1) = (at_ : Int) + 1:=by rw [IntKind.wrap_i64];omega
 have hw2 : IntKind.i64.wrap ((at_ : Int) + 1 - 1) = (at_ : Int) := by rw [IntKind.wrap_i64];omega
 have hl2 : (W.setCell ⟨AB,0,none⟩ (.int .i64 ((at_ : Int) + 1))).cell? ⟨LB,0,none⟩ = some (.slice A0 l.length c0) := cell_kept hl hK hne
 have ha2 : (W.setCell ⟨AB,0,none⟩ (.int .i64 ((at_ : Int) + 1))).cell? ⟨AB,0,none⟩ = some (.int .i64 ((at_ : Int) + 1)) := World.cell?_setCell_same' _ _ _ (by rw [ha];rfl)
 have HB : Aside0 (Below AB W (W.setCell ⟨AB,0,none⟩ (.int .i64 ((at_ : Int) + 1)))) := ⟨(Below.refl AB W).setCell (Nat.le_refl _) _⟩
 have HK:=Aside0.mk hK
 have HU:=Aside0.mk hu
 have HR:=Aside0.mk hr
 clear hK hu hr hab
 by_cases hlt : l.length < at_ + 1
 · have e : mPick l at_ n = 0:=if_pos hlt
   rw [e]
   have d0 : decide ((at_ : Int) + 1 > (l.length : Int)) = true:=decide_eq_true (by omega)
   clear hlt e
   go_enter Try.func21,Try.ntmps21
   go_wp2
   go_ret
   exact ⟨rfl,HK,HA3,HB⟩
 · have e : mPick l at_ n = Int.tmod (l.getD at_ 0) n:=if_neg hlt
   rw [e]
   have d0 : decide ((at_ : Int) + 1 > (l.length : Int)) = false:=decide_eq_false (by omega)
   obtain ⟨ad,ead,hc⟩ := Kd.at_int (HR.out _ HK.out) (at_ : Int) (by omega) (by omega)
   cases ead
   have p0 : (0 ≤ (at_ : Int)) = True:=eq_true (by omega)
   have p1 : ((at_ : Int) < (l.length : Int)) = True:=eq_true (by omega)
   have hx:=HU.out (l.getD at_ 0) (by rw [List.getD_eq_getElem?_getD,List.getElem?_eq_getElem (by omega)];exact List.getElem_mem _)
   have hx0 : rd l (at_ : Int) = l.getD at_ 0:=rfl
   rw [hx0] at hc
   generalize l.getD at_ 0 = x at hc hx
   have hw3:=wrap_u8 hx.1 hx.2
   have hw4:=wrap_tmod (n:=n) hx.1 hx.2
   rw [Int.toNat_natCast] at hc
   clear hx hx0 hlt e
   go_enter Try.func21,Try.ntmps21
   go_wp2
   go_ret
   exact ⟨rfl,HK,HA3,HB⟩
theorem mPick_lt {l : List Int} (hu : ∀ x ∈ l,0 ≤ x ∧ x ≤ 255) (at_ : Nat) {n : Int} (hn : 0 < n) : 0 ≤ mPick l at_ n ∧ mPick l at_ n < n:=by
 unfold mPick
 split
 · omega
 · have hx:=hu (l.getD at_ 0) (by rw [List.getD_eq_getElem?_getD,List.getElem?_eq_getElem (by omega)];exact List.getElem_mem _)
   exact ⟨Int.tmod_nonneg n hx.1,Int.tmod_lt_of_pos _ hn⟩
def mRight (l : List Int) (n t : Int) : Nat → Nat → List S53 → List S53 × Nat
  | 0,at_,acc => (acc,at_)
  | c + 1,at_,acc => mRight l n t c (at_ + 2) (acc ++ [if mPick l at_ 2 = 0 then ⟨true,mPick l (at_ + 1) t⟩ else ⟨false,mPick l (at_ + 1) n⟩])
def mProds (l : List Int) (n t : Int) : Nat → Nat → List S30 → List S30
  | 0,_,acc => acc
  | i + 1,at_,acc => mProds l n t i (mRight l n t (mPick l (at_ + 1) 4).toNat (at_ + 2) []).2 (acc ++ [⟨mPick l at_ n,(mRight l n t (mPick l (at_ + 1) 4).toNat (at_ + 2) []).1⟩])
def mNames : List ByteArray := [⟨#[97]⟩,⟨#[98]⟩,⟨#[99]⟩,⟨#[100]⟩,⟨#[101]⟩]
def mTexts : List ByteArray := [⟨#[120]⟩,⟨#[121]⟩,⟨#[122]⟩,⟨#[119]⟩]
def mTok (s : ByteArray) : S61:=⟨⟨#[]⟩,⟨5,s,[],0,0,[]⟩⟩
def regletlaw13_Made.f (k : Nat) (l : List Int) : Option (List ByteArray × List S61 × Int × Int × List S30) :=
  if l.all (fun x => decide (0 ≤ x ∧ x ≤ 255)) = true then some (mNames.take (1 + mPick l 0 5).toNat,(mTexts.map mTok).take (1 + mPick l 1 4).toNat,0,0,mProds l (1 + mPick l 0 5) (1 + mPick l 1 4) (1 + mPick l 2 10).toNat 3 []) else none
structure MadeI (w : World) (A0 : Option Addr) (n0 c0 : Nat) (at_ : Nat) (vn vt vp : Value) (W : World) : Prop where
  bel : Below w.heap.size w W
  l : W.heap[w.heap.size]? = some (.cells #[.slice A0 n0 c0] 32 (0,0))
  r : W.heap[w.heap.size + 1]? = some (.cells #[.slice none 0 0,.slice none 0 0,.int .i64 0,.int .i64 0,.slice none 0 0] 26 (0,0))
  s : W.heap[w.heap.size + 2]? = some (.cells #[vn,vt,.int .i64 0,.int .i64 0,vp] 26 (0,0))
  a : W.heap[w.heap.size + 3]? = some (.cells #[.int .i64 (at_ : Int)] 3 (0,0))
theorem MadeI.pick {w W W' : World} {A0 : Option Addr} {n0 c0 at_ : Nat} {vn vt vp : Value} (h : MadeI w A0 n0 c0 at_ vn vt vp W) (hk : Kept W W' (fun k => k = w.heap.size + 3)) (ha : W'.heap[w.heap.size + 3]? = some (.cells #[.int .i64 ((at_ + 1 : Nat) : Int)] 3 (0,0))) (hb : Below (w.heap.size + 3) W W') : MadeI w A0 n0 c0 (at_ + 1) vn vt vp W' :=
  ⟨h.bel.trans (hb.mono (by omega)),blk_kept h.l hk (by simp),blk_kept h.r hk (by simp),blk_kept h.s hk (by simp),ha⟩
theorem MadeI.calls {w W : World} {A0 : Option Addr} {l : List Int} {c0 at_ : Nat} {vn vt vp : Value} (h : MadeI w A0 l.length c0 at_ vn vt vp W) (hr : Kd.C (Kd.int .u8) w A0 l.length l) (n : Int) (hn : n ≠ 0) (hat : at_ < 1000000) (hu : ∀ x ∈ l,0 ≤ x ∧ x ≤ 255) :
    Calls Try.prog 21 #[.int .i64 n,.pointer (some ⟨w.heap.size + 3,0,none⟩),.pointer (some ⟨w.heap.size,0,none⟩)] W fun e w' => e = .returned (.int .i64 (mPick l at_ n)) ∧ Aside0 (MadeI w A0 l.length c0 (at_ + 1) vn vt vp w') ∧ Aside0 (Kept W w' (fun k => k = w.heap.size + 3)) := by
 refine (pick_any l A0 c0 at_ n w.heap.size (w.heap.size + 3) W (by omega) ((blk_cell h.l 0).trans rfl) h.a (fun W' hk => ?_) hn hat hu).mono ?_
 · refine Kd.C_kept_came (Kd.heap_int _) hr h.bel (S:=fun k => k = w.heap.size + 3) (fun k hk => by omega) W' hk
 · rintro e w' ⟨rfl,hk,ha,hb⟩
   exact ⟨rfl,⟨h.pick hk.out ha.out hb.out⟩,hk⟩
end Go.Proofs.Ytfdcfihcfegekaa.P
end

section
namespace Go.Proofs.Ytfdcfihcfegekaa.M
open Go.RowKit Go.Proofs.YtfdcfihcfegekaaW.PrintWords Go.Proofs.YtfdcfihcfegekaaW.PrintLast Go.Proofs.YtfdcfihcfegekaaW.PrintMore Go.Proofs.Ytfdcfihcfegekaa.P Go.Proofs.Ytfdcfihcfegekaa.H
set_option linter.unusedVariables false
set_option linter.unusedSimpArgs false
theorem mRight_ok {l : List Int} (hu : ∀ x ∈ l,0 ≤ x ∧ x ≤ 255) {n t : Nat} (hn : 0 < n) (ht : 0 < t) : ∀ (c at_ : Nat) (acc : List Sym),acc.all (okSym n t) = true → (mRight l n t c at_ acc).1.all (okSym n t) = true ∧ (mRight l n t c at_ acc).1.length = acc.length + c
  | 0,at_,acc,h => ⟨h,rfl⟩
  | c + 1,at_,acc,h => by
    unfold mRight
    obtain ⟨h1,h2⟩ := mRight_ok hu hn ht c (at_ + 2) (acc ++ [if mPick l at_ 2 = 0 then ⟨true,mPick l (at_ + 1) t⟩ else ⟨false,mPick l (at_ + 1) n⟩]) (by
      rw [List.all_append,h,Bool.true_and]
      have h3:=mPick_lt hu (at_ + 1) (n:=(t : Int)) (by omega)
      have h4:=mPick_lt hu (at_ + 1) (n:=(n : Int)) (by omega)
      split
      · simp only [List.all_cons,List.all_nil,Bool.and_true,okSym,if_true,Bool.and_eq_true,decide_eq_true_eq]
        exact h3
      · simp only [List.all_cons,List.all_nil,Bool.and_true,okSym,Bool.and_eq_true,decide_eq_true_eq]
        exact ⟨h4.1,by simpa using h4.2⟩)
    exact ⟨h1,by rw [h2];simp;omega⟩
theorem mProds_ok {l : List Int} (hu : ∀ x ∈ l,0 ≤ x ∧ x ≤ 255) {n t : Nat} (hn : 0 < n) (ht : 0 < t) : ∀ (i at_ : Nat) (acc : List Prod),acc.all (okProd n t) = true → (∀ p ∈ acc,p.f1.length ≤ 3) → (mProds l n t i at_ acc).all (okProd n t) = true ∧ (mProds l n t i at_ acc).length = acc.length + i ∧ ∀ p ∈ mProds l n t i at_ acc,p.f1.length ≤ 3
  | 0,at_,acc,h,h3 => ⟨h,rfl,h3⟩
  | i + 1,at_,acc,h,h3 => by
    unfold mProds
    obtain ⟨h1,h2⟩ := mRight_ok hu hn ht (mPick l (at_ + 1) 4).toNat (at_ + 2) [] rfl
    have h4:=mPick_lt hu at_ (n:=(n : Int)) (by omega)
    have h5:=mPick_lt hu (at_ + 1) (n:=4) (by omega)
    obtain ⟨h6,h7,h8⟩ := mProds_ok hu hn ht i (mRight l n t (mPick l (at_ + 1) 4).toNat (at_ + 2) []).2 (acc ++ [⟨mPick l at_ n,(mRight l n t (mPick l (at_ + 1) 4).toNat (at_ + 2) []).1⟩]) (by
      rw [List.all_append,h,Bool.true_and]
      simp only [List.all_cons,List.all_nil,Bool.and_true,okProd,Bool.and_eq_true,decide_eq_true_eq]
      exact ⟨h4,h1⟩) (by
      intro p hp
      rcases List.mem_append.1 hp with hp | hp
      · exact h3 p hp
      · obtain rfl:=List.mem_singleton.1 hp
        simp only
        rw [h2];simp;omega)
    exact ⟨h6,by rw [h7];simp;omega,h8⟩
structure MadeOk (ns : List ByteArray) (ts : List Tok) (ps : List Prod) : Prop where
  n1 : 0 < ns.length
  n5 : ns.length ≤ 5
  t1 : 0 < ts.length
  t4 : ts.length ≤ 4
  p1 : 0 < ps.length
  p10 : ps.length ≤ 10
  ok : ps.all (okProd ns.length ts.length) = true
  r3 : ∀ p ∈ ps,p.f1.length ≤ 3
theorem made_ev {l : List Int} (hw : ∀ x ∈ l,(Lit.int .u8 x).wf = true) : ∃ ns ts ps,MadeOk ns ts ps ∧ Ev (fun k => regletlaw13_Made.f k l) (ns,ts,0,0,ps) := by
 have hu : ∀ x ∈ l,0 ≤ x ∧ x ≤ 255:=fun x hx => wf_u8 (hw x hx)
 have h0:=mPick_lt hu 0 (n:=5) (by decide)
 have h1:=mPick_lt hu 1 (n:=4) (by decide)
 have h2:=mPick_lt hu 2 (n:=10) (by decide)
 obtain ⟨n,en⟩ : ∃ n : Nat,1 + mPick l 0 5 = (n : Int) := ⟨(1 + mPick l 0 5).toNat,by omega⟩
 obtain ⟨t,et⟩ : ∃ n : Nat,1 + mPick l 1 4 = (n : Int) := ⟨(1 + mPick l 1 4).toNat,by omega⟩
 obtain ⟨c,ec⟩ : ∃ n : Nat,1 + mPick l 2 10 = (n : Int) := ⟨(1 + mPick l 2 10).toNat,by omega⟩
 obtain ⟨h3,h4,h5⟩ := mProds_ok hu (n:=n) (t:=t) (by omega) (by omega) c 3 [] rfl (fun p hp => by simp at hp)
 have ln : (mNames.take n).length = n:=by rw [List.length_take];show min n 5 = n;omega
 have lt : ((mTexts.map mTok).take t).length = t:=by rw [List.length_take];show min t 4 = t;omega
 refine ⟨mNames.take n,(mTexts.map mTok).take t,mProds l n t c 3 [],⟨by omega,by omega,by omega,by omega,by simp at h4;omega,by simp at h4;omega,by rw [ln,lt];exact h3,h5⟩,Ev.some' ?_⟩
 have h7 : l.all (fun x => decide (0 ≤ x ∧ x ≤ 255)) = true:=List.all_eq_true.2 (fun x hx => decide_eq_true (hu x hx))
 show (if l.all (fun x => decide (0 ≤ x ∧ x ≤ 255)) = true then _ else none) = _
 rw [if_pos h7,en,et,ec]
 rfl
theorem made_ev0 {l : List Int} (hw : ∀ x ∈ l,(Lit.int .u8 x).wf = true) : ∃ ns ts ps,MadeOk ns ts ps ∧ ∀ k,regletlaw13_Made.f k l = some (ns,ts,0,0,ps) := by
 obtain ⟨ns,ts,ps,h,K,hK⟩ := made_ev hw
 exact ⟨ns,ts,ps,h,fun k => hK K (Nat.le_refl _)⟩
theorem rd_mem (ps : List Prod) (i : Int) (h0 : 0 ≤ i) (h1 : i < (ps.length : Int)) : rd_T30 ps i ∈ ps:=by
 have h2 : i.toNat < ps.length:=by omega
 show ps.getD i.toNat _ ∈ ps
 rw [List.getD_eq_getElem?_getD,List.getElem?_eq_getElem h2]
 exact List.getElem_mem h2
theorem mem_idx (x : Int) : ∀ (a : List Bool) (n : Nat),x ∈ idx n a ↔ ∃ i : Nat,a.getD i false = true ∧ x = ((n + i : Nat) : Int)
  | [],n => by simp [idx]
  | y :: a,n => by
    have ih:=mem_idx x a (n + 1)
    have hs : (∃ i : Nat,(y :: a).getD i false = true ∧ x = ((n + i : Nat) : Int)) ↔ ((y = true ∧ x = (n : Int)) ∨ ∃ i : Nat,a.getD i false = true ∧ x = ((n + 1 + i : Nat) : Int)) := by
      constructor
      · rintro ⟨i,h1,h2⟩
        cases i with
        | zero => exact .inl ⟨by simpa using h1,by simpa using h2⟩
        | succ i => exact .inr ⟨i,by simpa using h1,by rw [h2];congr 1;omega⟩
      · rintro (⟨h1,h2⟩ | ⟨i,h1,h2⟩)
        · exact ⟨0,by simpa using h1,by simpa using h2⟩
        · exact ⟨i + 1,by simpa using h1,by rw [h2];congr 1;omega⟩
    rw [hs,← ih,show idx n (y :: a) = if y = true then (n : Int) :: idx (n + 1) a else idx (n + 1) a from rfl]
    cases y <;> simp
theorem orL_getD : ∀ (a b : List Bool) (i : Nat),a.length = b.length → (orL a b).getD i false = (a.getD i false || b.getD i false)
  | [],[],i,_ => by simp [orL]
  | x :: a,y :: b,0,_ => by simp [orL]
  | x :: a,y :: b,i + 1,h => by
    have:=orL_getD a b i (by simpa using h)
    simpa [orL] using this
theorem orL_none (nt : Nat) : ∀ (a : List Bool),a.length = nt + 1 → orL a (none0 nt) = a:=by
 intro a h
 apply List.ext_getElem
 · rw [orL_length (by rw [h,none0_length])]
 · intro i h1 h2
   have:=orL_getD a (none0 nt) i (by rw [h,none0_length])
   have h0 : (none0 nt).getD i false = false:=by
    unfold none0
    rw [List.getD_eq_getElem?_getD,List.getElem?_replicate]
    split <;> rfl
   rw [h0,Bool.or_false,List.getD_eq_getElem?_getD,List.getD_eq_getElem?_getD,List.getElem?_eq_getElem h1,List.getElem?_eq_getElem h2] at this
   exact this
theorem bg_from (em : List Bool) {first : List (List Bool)} {nn nt : Nat} (hs : Sh nn nt first) : ∀ (l : List Sym) (out : List Bool),l.all (okSym nn nt) = true → out.length = nt + 1 → bg em first l out = (orL out (bg em first l (none0 nt)).1,(bg em first l (none0 nt)).2)
  | [],out,_,h => by simp only [bg];rw [orL_none nt out h]
  | x :: l,out,hl,h => by
    simp only [List.all_cons,Bool.and_eq_true] at hl
    cases hx : x.f0 with
    | true =>
      have hb:=okSym_tok hl.1 hx
      have e : ∀ out,bg em first (x :: l) out = (out.set x.f1.toNat true,false) := fun out => by rw [bg,if_pos hx]
      rw [e,e]
      congr 1
      apply List.ext_getElem
      · rw [orL_length (by rw [List.length_set,h,none0_length]),List.length_set]
      · intro i h1 h2
        have e:=orL_getD out ((none0 nt).set x.f1.toNat true) i (by rw [List.length_set,h,none0_length])
        rw [List.getD_eq_getElem?_getD,List.getElem?_eq_getElem h2] at e
        simp only [Option.getD_some] at e
        rw [e]
        have h3 : i < out.length:=by simpa using h1
        rw [List.getElem_set]
        rw [List.getD_eq_getElem?_getD,List.getElem?_eq_getElem h3,List.getD_eq_getElem?_getD,List.getElem?_set]
        simp only [Option.getD_some,none0_length]
        by_cases hi : x.f1.toNat = i
        · subst hi
          have : x.f1.toNat < nt + 1:=by omega
          simp [this]
        · rw [if_neg hi,if_neg hi]
          have h0 : ((none0 nt)[i]?.getD false) = false:=by
            unfold none0
            rw [List.getElem?_replicate]
            split <;> rfl
          rw [h0,Bool.or_false]
    | false =>
      have hb:=okSym_rule hl.1 hx
      have e : ∀ out,bg em first (x :: l) out = if em.getD x.f1.toNat false = true then bg em first l (orL out (first.getD x.f1.toNat [])) else (orL out (first.getD x.f1.toNat []),false) := fun out => by rw [bg,if_neg (by simp [hx])]
      rw [e,e]
      have hr:=hs.get (i:=x.f1.toNat) (by omega)
      have e1 : orL (none0 nt) (first.getD x.f1.toNat []) = first.getD x.f1.toNat [] := by
        have:=orL_none nt (first.getD x.f1.toNat []) hr
        conv => rhs;rw [← this]
        unfold orL
        exact List.zipWith_comm_of_comm (fun a b => Bool.or_comm a b)
      rw [e1]
      cases hem : em.getD x.f1.toNat false with
      | false => rw [if_neg (by simp),if_neg (by simp)]
      | true =>
        rw [if_pos rfl,if_pos rfl]
        have hl2:=bg_length em hs l _ hl.2 (none0_length nt)
        rw [bg_from em hs l (orL out (first.getD x.f1.toNat [])) hl.2 (by rw [orL_length (by rw [h,hr]),h]),bg_from em hs l (first.getD x.f1.toNat []) hl.2 hr]
        simp only
        rw [(or_three out (first.getD x.f1.toNat []) (bg em first l (none0 nt)).1 (by rw [h,hr]) (by rw [hr,hl2])).1]
end Go.Proofs.Ytfdcfihcfegekaa.M
end

section
namespace Go.Proofs.Ytfdcfihcfegekaa.P
open Go.RowKit Go.Proofs.YtfdcfihcfegekaaW.PrintWords Go.Proofs.YtfdcfihcfegekaaW.PrintLast Go.Proofs.YtfdcfihcfegekaaW.PrintMore
set_option linter.unusedVariables false
set_option linter.unusedSimpArgs false
def dAll (ps : List S30) (rule : Int) (i : Nat) : List Int:=((List.range i).filter (fun j : Nat => decide ((rd_T30 ps (j : Int)).f0 = rule))).map (fun j : Nat => (j : Int))
theorem dAll_yes {ps : List S30} {rule : Int} {i : Nat} (h : (rd_T30 ps (i : Int)).f0 = rule) : dAll ps rule (i + 1) = dAll ps rule i ++ [(i : Int)] := by
 unfold dAll;rw [List.range_succ,List.filter_append];simp [h]
theorem dAll_no {ps : List S30} {rule : Int} {i : Nat} (h : ¬ (rd_T30 ps (i : Int)).f0 = rule) : dAll ps rule (i + 1) = dAll ps rule i:=by
 unfold dAll;rw [List.range_succ,List.filter_append];simp [h]
theorem dAll_length (ps : List S30) (rule : Int) (i : Nat) : (dAll ps rule i).length ≤ i:=by
 unfold dAll;rw [List.length_map];exact Nat.le_trans (List.length_filter_le _ _) (by simp)
theorem dAll_mem {ps : List S30} {rule : Int} {i : Nat} {x : Int} (h : x ∈ dAll ps rule i) : 0 ≤ x ∧ x < (i : Int) ∧ (rd_T30 ps x).f0 = rule:=by
 unfold dAll at h
 obtain ⟨j,hj,rfl⟩ := List.mem_map.1 h
 obtain ⟨h1,h2⟩ := List.mem_filter.1 hj
 exact ⟨by omega,by have:=List.mem_range.1 h1;omega,of_decide_eq_true h2⟩
def dK (L : List Int) (at_ n : Nat) : Int:=if at_ < L.length then if at_ < 60 then Int.tmod (L.getD at_ 0) (n : Int) else (n : Int) - 1 else (n : Int) - 1
theorem dK_lt {L : List Int} (hu : ∀ x ∈ L,0 ≤ x ∧ x ≤ 255) (at_ : Nat) {n : Nat} (hn : 0 < n) : 0 ≤ dK L at_ n ∧ dK L at_ n < (n : Int) := by
 unfold dK
 split
 · split
   · rename_i h _
     have hx:=hu (L.getD at_ 0) (by rw [List.getD_eq_getElem?_getD,List.getElem?_eq_getElem h];exact List.getElem_mem _)
     exact ⟨Int.tmod_nonneg _ hx.1,Int.tmod_lt_of_pos _ (by omega)⟩
   · omega
 · omega
def drvL (next : Int → Nat → (List Int × Bool) × Nat) : List S53 → List Int → Nat → (List Int × Bool) × Nat
  | [],out,at_ => ((out,true),at_)
  | x :: xs,out,at_ => if x.f0 = true then drvL next xs (out ++ [x.f1]) at_ else
    if (next x.f1 at_).1.2 = true then if out.length + (next x.f1 at_).1.1.length > 60 then (([],false),(next x.f1 at_).2) else drvL next xs (out ++ (next x.f1 at_).1.1) (next x.f1 at_).2 else (([],false),(next x.f1 at_).2)
def drv (ps : List S30) (L : List Int) : Nat → Int → Nat → Nat → (List Int × Bool) × Nat
  | 0,_,_,at_ => (([],false),at_)
  | f + 1,rule,deep,at_ => if (dAll ps rule ps.length).length = 0 ∨ 10 < deep then (([],false),at_) else
    drvL (fun r a => drv ps L f r (deep + 1) a) (rd_T30 ps ((dAll ps rule ps.length).getD (dK L at_ (dAll ps rule ps.length).length).toNat 0)).f1 [] (at_ + 1)
theorem drvL_at {next : Int → Nat → (List Int × Bool) × Nat} {B : Nat} (h : ∀ r a,(next r a).2 ≤ a + B) : ∀ (l : List S53) (out : List Int) (at_ : Nat),(drvL next l out at_).2 ≤ at_ + l.length * B
  | [],out,at_ => by simp [drvL]
  | x :: xs,out,at_ => by
    unfold drvL
    have e : (x :: xs).length * B = B + xs.length * B:=by rw [List.length_cons,Nat.succ_mul];omega
    rw [e]
    have h1:=h x.f1 at_
    split
    · have:=drvL_at h xs (out ++ [x.f1]) at_;omega
    · split
      · split
        · simp only;omega
        · have:=drvL_at h xs (out ++ (next x.f1 at_).1.1) (next x.f1 at_).2;omega
      · simp only;omega
theorem drv_at {ps : List S30} {L : List Int} (hr : ∀ p ∈ ps,p.f1.length ≤ 10) : ∀ (f : Nat) (rule : Int) (deep at_ : Nat),(drv ps L f rule deep at_).2 ≤ at_ + 11 ^ f
  | 0,rule,deep,at_ => by simp [drv]
  | f + 1,rule,deep,at_ => by
    unfold drv
    split
    · exact Nat.le_add_right _ _
    · have h1:=drvL_at (next:=fun r a => drv ps L f r (deep + 1) a) (B:=11 ^ f) (fun r a => drv_at hr f r (deep + 1) a) (rd_T30 ps ((dAll ps rule ps.length).getD (dK L at_ (dAll ps rule ps.length).length).toNat 0)).f1 [] (at_ + 1)
      have h2 : (rd_T30 ps ((dAll ps rule ps.length).getD (dK L at_ (dAll ps rule ps.length).length).toNat 0)).f1.length ≤ 10:=by
        generalize (dAll ps rule ps.length).getD (dK L at_ (dAll ps rule ps.length).length).toNat 0 = i
        unfold rd_T30
        rw [List.getD_eq_getElem?_getD]
        cases hg : ps[i.toNat]? with
        | none => exact Nat.zero_le _
        | some p => exact hr p (List.mem_of_getElem? hg)
      have h3 : 1 ≤ 11 ^ f:=Nat.one_le_pow _ _ (by decide)
      have h4 : (rd_T30 ps ((dAll ps rule ps.length).getD (dK L at_ (dAll ps rule ps.length).length).toNat 0)).f1.length * 11 ^ f ≤ 10 * 11 ^ f:=Nat.mul_le_mul_right _ h2
      rw [Nat.pow_succ]
      omega
theorem drvL_len {next : Int → Nat → (List Int × Bool) × Nat} : ∀ (l : List S53) (out : List Int) (at_ i : Nat),out.length ≤ 60 + i → (drvL next l out at_).1.1.length ≤ 60 + i + l.length
  | [],out,at_,i,h => by simpa [drvL] using h
  | x :: xs,out,at_,i,h => by
    unfold drvL
    simp only [List.length_cons]
    split
    · have:=drvL_len (next:=next) xs (out ++ [x.f1]) at_ (i + 1) (by simp;omega);omega
    · split
      · split
        · simp
        · rename_i hs
          have:=drvL_len (next:=next) xs (out ++ (next x.f1 at_).1.1) (next x.f1 at_).2 i (by simp;omega);omega
      · simp
theorem drv_len {ps : List S30} {L : List Int} (hr : ∀ p ∈ ps,p.f1.length ≤ 10) (f : Nat) (rule : Int) (deep at_ : Nat) : (drv ps L f rule deep at_).1.1.length ≤ 70:=by
 cases f with
 | zero => simp [drv]
 | succ f =>
  unfold drv
  split
  · simp
  · have h1:=drvL_len (next:=fun r a => drv ps L f r (deep + 1) a) (rd_T30 ps ((dAll ps rule ps.length).getD (dK L at_ (dAll ps rule ps.length).length).toNat 0)).f1 [] (at_ + 1) 0 (by simp)
    have h2 : (rd_T30 ps ((dAll ps rule ps.length).getD (dK L at_ (dAll ps rule ps.length).length).toNat 0)).f1.length ≤ 10:=by
     generalize (dAll ps rule ps.length).getD (dK L at_ (dAll ps rule ps.length).length).toNat 0 = i
     unfold rd_T30
     rw [List.getD_eq_getElem?_getD]
     cases hg : ps[i.toNat]? with
     | none => exact Nat.zero_le _
     | some p => exact hr p (List.mem_of_getElem? hg)
    omega
end Go.Proofs.Ytfdcfihcfegekaa.P
end

section
namespace Go.Proofs.Ytfdcfihcfegekaa.M
open Go.RowKit Go.Proofs.YtfdcfihcfegekaaW.PrintWords Go.Proofs.YtfdcfihcfegekaaW.PrintLast Go.Proofs.YtfdcfihcfegekaaW.PrintMore Go.Proofs.Ytfdcfihcfegekaa.P Go.Proofs.Ytfdcfihcfegekaa.H
set_option linter.unusedVariables false
set_option linter.unusedSimpArgs false
def Still {σ : Type} (I : σ → Prop) (stp : σ → Prod → Bool × σ) (ps : List Prod) : Prop := ∀ st p,I st → p ∈ ps → (stp st p).1 = false → (stp st p).2 = st
theorem gIn_still {σ : Type} {I : σ → Prop} {stp : σ → Prod → Bool × σ} : ∀ {ps : List Prod},Still I stp ps → (∀ st p,I st → p ∈ ps → I (stp st p).2) → ∀ (ag : Bool) (st : σ),I st → (gIn stp ps ag st).1 = false → ag = false ∧ (gIn stp ps ag st).2 = st ∧ ∀ p ∈ ps,(stp st p).1 = false
  | [],_,_,ag,st,_,h => ⟨h,rfl,fun p hp => by simp at hp⟩
  | p :: ps,hs,hI,ag,st,h0,h => by
    rw [gIn] at h ⊢
    obtain ⟨h1,h2,h3⟩ := gIn_still (fun st q hi hq => hs st q hi (List.mem_cons_of_mem _ hq)) (fun st q hi hq => hI st q hi (List.mem_cons_of_mem _ hq)) _ _ (hI st p h0 List.mem_cons_self) h
    rw [Bool.or_eq_false_iff] at h1
    have e:=hs st p h0 List.mem_cons_self h1.1
    rw [e] at h2 h3
    refine ⟨h1.2,by rw [e];exact h2,fun q hq => ?_⟩
    rcases List.mem_cons.1 hq with rfl | hq
    · exact h1.1
    · exact h3 q hq
theorem gOut_closed {σ : Type} {I : σ → Prop} {μ : σ → Nat} {stp : σ → Prod → Bool × σ} {ps : List Prod} (hg : Good I μ stp ps) (hs : Still I stp ps) : ∀ (n : Nat) (st : σ),I st → μ st ≤ n → ∀ p ∈ ps,(stp (gOut stp ps n st) p).1 = false
  | n,st,hI,hn => by
    obtain ⟨h1,h2,h3⟩ := gIn_good hg false st hI
    cases hr : (gIn stp ps false st).1 with
    | false =>
      obtain ⟨_,h4,h5⟩ := gIn_still hs (fun st p hi hp => (hg st p hi hp).1) false st hI hr
      have e : gOut stp ps n st = st:=by cases n <;> simp [gOut,hr,h4]
      rw [e];exact h5
    | true =>
      have hlt:=(h3 hr).resolve_left (by simp)
      cases n with
      | zero => omega
      | succ n =>
        rw [gOut,if_pos hr]
        exact gOut_closed hg hs n _ h1 (by omega)
theorem cStep_still (nn nt : Nat) (token : Bool) (ps : List Prod) : Still (fun out : List Bool => out.length = nn) (cStep token) ps:=fun st p _ _ h => by
  have h' : cNew token st p = false:=h
  unfold cStep;simp [h']
theorem clo_closed (nn nt : Nat) (token : Bool) {ps : List Prod} (hps : ps.all (okProd nn nt) = true) : ∀ p ∈ ps,p.f1.any (oddP token (clo token nn ps)) = false → (clo token nn ps).getD p.f0.toNat false = true:=fun p hp h => by
  have h1:=gOut_closed (cStep_good nn nt token hps) (cStep_still nn nt token ps) (cf (List.replicate nn false)) (List.replicate nn false) (by simp) (Nat.le_refl _) p hp
  have h2 : cNew token (clo token nn ps) p = false:=h1
  unfold cNew at h2
  rw [h] at h2
  simpa using h2
theorem more_false : ∀ {a b : List Bool},a.length = b.length → moreL a b = false → orL a b = a
  | [],[],_,_ => rfl
  | x :: a,y :: b,h,hm => by
    have hm' : ((y && !x) || moreL a b) = false:=hm
    rw [Bool.or_eq_false_iff] at hm'
    have ih:=more_false (a:=a) (b:=b) (by simpa using h) hm'.2
    show (x || y) :: orL a b = x :: a
    rw [ih]
    have:=hm'.1
    cases x <;> cases y <;> simp_all
theorem set_same (m : List (List Bool)) (i : Nat) : m.set i (m.getD i []) = m:=by
 apply List.ext_getElem
 · simp
 · intro j h1 h2
   rw [List.getElem_set]
   split
   · rename_i e;subst e;simp [List.getD_eq_getElem?_getD,h2]
   · rfl
theorem sStep_still {nn nt : Nat} (em : List Bool) {ps : List Prod} (hps : ps.all (okProd nn nt) = true) : Still (Sh nn nt) (sStep nt em) ps:=fun st p hI hp h => by
  have hok:=List.all_eq_true.1 hps p hp
  have hl:=okProd_left hok
  have hb:=bg_length em hI p.f1 _ (okProd_right hok) (none0_length nt)
  have hr:=hI.get (i:=p.f0.toNat) (by omega)
  have h' : moreL (st.getD p.f0.toNat []) (bg em st p.f1 (none0 nt)).1 = false:=h
  show st.set p.f0.toNat (orL (st.getD p.f0.toNat []) (bg em st p.f1 (none0 nt)).1) = st
  rw [more_false (by rw [hr,hb]) h',set_same]
theorem fst_closed (nn nt : Nat) (em : List Bool) {ps : List Prod} (hps : ps.all (okProd nn nt) = true) : ∀ p ∈ ps,orL ((fst nn nt em ps).getD p.f0.toNat []) (bg em (fst nn nt em ps) p.f1 (none0 nt)).1 = (fst nn nt em ps).getD p.f0.toNat [] := fun p hp => by
  have h1:=gOut_closed (sStep_good em hps) (sStep_still em hps) (cfs (rows0 nn nt)) (rows0 nn nt) (rows0_sh nn nt) (Nat.le_refl _) p hp
  have hs:=fst_sh nn nt em hps
  have hok:=List.all_eq_true.1 hps p hp
  have hl:=okProd_left hok
  have hb:=bg_length em hs p.f1 _ (okProd_right hok) (none0_length nt)
  have hr:=hs.get (i:=p.f0.toNat) (by omega)
  exact more_false (by rw [hr,hb]) h1
inductive DerL (ps : List Prod) : List Sym → List Int → Prop where
  | nil : DerL ps [] []
  | tok (n : Int) (l : List Sym) (t : List Int) : DerL ps l t → DerL ps (⟨true,n⟩ :: l) (n :: t)
  | rule (p : Prod) (l : List Sym) (t1 t2 : List Int) : p ∈ ps → DerL ps p.f1 t1 → DerL ps l t2 → DerL ps (⟨false,p.f0⟩ :: l) (t1 ++ t2)
section
variable {nn nt : Nat} {ps : List Prod} (hps : ps.all (okProd nn nt) = true)
include hps
theorem der_empty {l : List Sym} {t : List Int} (h : DerL ps l t) : t = [] → l.any (oddP false (clo false nn ps)) = false:=by
 induction h with
 | nil => intro _;rfl
 | tok n l t _ _ => intro h;simp at h
 | rule p l t1 t2 hp _ _ ih1 ih2 =>
  intro h
  obtain ⟨h1,h2⟩ := List.append_eq_nil_iff.1 h
  rw [List.any_cons,ih2 h2,Bool.or_false]
  have:=clo_closed nn nt false hps p hp (ih1 h1)
  show (false && _ || !false && !rdOf false (clo false nn ps) p.f0) = false
  rw [show rdOf false (clo false nn ps) p.f0 = true from this];rfl
theorem bg_rule_mem {p : Prod} (hp : p ∈ ps) {l : List Sym} (hl : l.all (okSym nn nt) = true) {i : Nat} (h : ((fst nn nt (clo false nn ps) ps).getD p.f0.toNat []).getD i false = true) : ((bg (clo false nn ps) (fst nn nt (clo false nn ps) ps) (⟨false,p.f0⟩ :: l) (none0 nt)).1).getD i false = true:=by
 have hs:=fst_sh nn nt (clo false nn ps) hps
 have hl0:=okProd_left (List.all_eq_true.1 hps p hp)
 have hr:=hs.get (i:=p.f0.toNat) (by omega)
 have hor:=orL_getD (none0 nt) ((fst nn nt (clo false nn ps) ps).getD p.f0.toNat []) i (by rw [none0_length,hr])
 rw [h,Bool.or_true] at hor
 rw [bg,if_neg (by simp)]
 split
 · have hlen : (orL (none0 nt) ((fst nn nt (clo false nn ps) ps).getD p.f0.toNat [])).length = nt + 1:=by rw [orL_length (by rw [none0_length,hr]),none0_length]
   rw [bg_from (clo false nn ps) hs l _ hl hlen]
   simp only
   rw [orL_getD _ _ _ (by rw [hlen,bg_length (clo false nn ps) hs l _ hl (none0_length nt)]),hor];rfl
 · exact hor
theorem der_first {l : List Sym} {t : List Int} (h : DerL ps l t) : l.all (okSym nn nt) = true → ∀ x t',t = x :: t' → 0 ≤ x ∧ x < (nt : Int) ∧ ((bg (clo false nn ps) (fst nn nt (clo false nn ps) ps) l (none0 nt)).1).getD x.toNat false = true:=by
 have hs:=fst_sh nn nt (clo false nn ps) hps
 induction h with
 | nil => intro _ x t' h;simp at h
 | tok n l t _ _ =>
  intro hl x t' h
  obtain ⟨rfl,rfl⟩ := List.cons.inj h
  simp only [List.all_cons,Bool.and_eq_true] at hl
  have hb : 0 ≤ n ∧ n < (nt : Int) := okSym_tok hl.1 rfl
  refine ⟨hb.1,hb.2,?_⟩
  rw [bg,if_pos rfl]
  simp only
  rw [List.getD_eq_getElem?_getD,List.getElem?_set_self (by rw [none0_length];omega)];rfl
 | rule p l t1 t2 hp hd1 hd2 ih1 ih2 =>
  intro hl x t' h
  simp only [List.all_cons,Bool.and_eq_true] at hl
  have hok:=List.all_eq_true.1 hps p hp
  cases t1 with
  | cons y t1 =>
   rw [List.cons_append] at h
   obtain ⟨rfl,rfl⟩ := List.cons.inj h
   obtain ⟨h1,h2,h3⟩ := ih1 (okProd_right hok) y t1 rfl
   refine ⟨h1,h2,bg_rule_mem hps hp hl.2 ?_⟩
   have hl0:=okProd_left hok
   rw [← fst_closed nn nt (clo false nn ps) hps p hp,orL_getD _ _ _ (by rw [hs.get (i:=p.f0.toNat) (by omega),bg_length (clo false nn ps) hs p.f1 _ (okProd_right hok) (none0_length nt)]),h3,Bool.or_true]
  | nil =>
   rw [List.nil_append] at h
   obtain ⟨h1,h2,h3⟩ := ih2 hl.2 x t' h
   refine ⟨h1,h2,?_⟩
   have he:=clo_closed nn nt false hps p hp (der_empty hps hd1 rfl)
   have hl0:=okProd_left hok
   have hr:=hs.get (i:=p.f0.toNat) (by omega)
   rw [bg,if_neg (by simp),if_pos he]
   have hlen : (orL (none0 nt) ((fst nn nt (clo false nn ps) ps).getD p.f0.toNat [])).length = nt + 1:=by rw [orL_length (by rw [none0_length,hr]),none0_length]
   rw [bg_from (clo false nn ps) hs l _ hl.2 hlen]
   simp only
   rw [orL_getD _ _ _ (by rw [hlen,bg_length (clo false nn ps) hs l _ hl.2 (none0_length nt)]),h3,Bool.or_true]
end
theorem fIn_false {nn nt : Nat} (em : List Bool) {first : List (List Bool)} (hf : Sh nn nt first) {left : Nat} (hl : left < nn) : ∀ (ys : List Sym) (g : Bool) (out : List (List Bool)),ys.all (okSym nn nt) = true → Sh nn nt out → (fIn nt em first left ys g out).1 = false →
    g = false ∧ (fIn nt em first left ys g out).2 = out ∧ ∀ pre y rest,ys = pre ++ y :: rest → y.f0 = false → moreL (out.getD y.f1.toNat []) (fAdd nt em first left rest out) = false
  | [],g,out,_,_,h => ⟨h,rfl,fun pre y rest e => by simp at e⟩
  | x :: xs,g,out,hok,hs,h => by
    simp only [List.all_cons,Bool.and_eq_true] at hok
    cases hx : x.f0 with
    | true =>
      have e : fIn nt em first left (x :: xs) g out = fIn nt em first left xs g out:=by rw [fIn,if_pos hx]
      rw [e] at h ⊢
      obtain ⟨h1,h2,h3⟩ := fIn_false em hf hl xs g out hok.2 hs h
      refine ⟨h1,h2,fun pre y rest e hy => ?_⟩
      cases pre with
      | nil => simp at e;rw [e.1,hy] at hx;cases hx
      | cons z pre => simp at e;exact h3 pre y rest e.2 hy
    | false =>
      have hb:=okSym_rule hok.1 hx
      have hal:=fAdd_length em hf hs hl hok.2
      have hrow:=hs.get (i:=x.f1.toNat) (by omega)
      have e : fIn nt em first left (x :: xs) g out = fIn nt em first left xs (moreL (out.getD x.f1.toNat []) (fAdd nt em first left xs out) || g) (out.set x.f1.toNat (orL (out.getD x.f1.toNat []) (fAdd nt em first left xs out))) := by rw [fIn,if_neg (by simp [hx])]
      rw [e] at h ⊢
      obtain ⟨h1,h2,h3⟩ := fIn_false em hf hl xs _ _ hok.2 (row_step hs (i:=x.f1.toNat) (by omega) hal).1 h
      rw [Bool.or_eq_false_iff] at h1
      have hsame : out.set x.f1.toNat (orL (out.getD x.f1.toNat []) (fAdd nt em first left xs out)) = out:=by rw [more_false (by rw [hrow,hal]) h1.1,set_same]
      rw [hsame] at h2 h3 ⊢
      refine ⟨h1.2,h2,fun pre y rest e hy => ?_⟩
      cases pre with
      | nil => simp at e;rw [← e.1,← e.2];exact h1.1
      | cons z pre => simp at e;exact h3 pre y rest e.2 hy
theorem fIn_keeps {nn nt : Nat} (em : List Bool) {first : List (List Bool)} (hf : Sh nn nt first) {left : Nat} (hl : left < nn) (i b : Nat) : ∀ (ys : List Sym) (g : Bool) (out : List (List Bool)),ys.all (okSym nn nt) = true → Sh nn nt out → (out.getD i []).getD b false = true → ((fIn nt em first left ys g out).2.getD i []).getD b false = true
  | [],g,out,_,_,h => h
  | x :: xs,g,out,hok,hs,h => by
    simp only [List.all_cons,Bool.and_eq_true] at hok
    cases hx : x.f0 with
    | true => rw [fIn,if_pos hx];exact fIn_keeps em hf hl i b xs g out hok.2 hs h
    | false =>
      have hb:=okSym_rule hok.1 hx
      have hal:=fAdd_length em hf hs hl hok.2
      have hrow:=hs.get (i:=x.f1.toNat) (by omega)
      rw [fIn,if_neg (by simp [hx])]
      refine fIn_keeps em hf hl i b xs _ _ hok.2 (row_step hs (i:=x.f1.toNat) (by omega) hal).1 ?_
      by_cases hi : x.f1.toNat = i
      · subst hi
        have hlt : x.f1.toNat < out.length:=by rw [hs.1];omega
        rw [List.getD_eq_getElem?_getD (l:=out.set _ _),List.getElem?_set_self hlt]
        simp only [Option.getD_some]
        rw [orL_getD _ _ _ (by rw [hrow,hal]),h,Bool.true_or]
      · rw [List.getD_eq_getElem?_getD (l:=out.set _ _),List.getElem?_set_ne hi,← List.getD_eq_getElem?_getD];exact h
section
variable {nn nt : Nat} {ps : List Prod} (hps : ps.all (okProd nn nt) = true) (em : List Bool) {first : List (List Bool)} (hf : Sh nn nt first)
include hps hf
theorem fStep_still : Still (Sh nn nt) (fStep nt em first) ps:=fun st p hI hp h => by
  have hok:=List.all_eq_true.1 hps p hp
  have hl:=okProd_left hok
  exact (fIn_false em hf (left:=p.f0.toNat) (by omega) p.f1 false st (okProd_right hok) hI h).2.1
theorem fol_closed : ∀ p ∈ ps,∀ pre y rest,p.f1 = pre ++ y :: rest → y.f0 = false → orL ((fol nn nt em first ps).getD y.f1.toNat []) (fAdd nt em first p.f0.toNat rest (fol nn nt em first ps)) = (fol nn nt em first ps).getD y.f1.toNat [] := fun p hp pre y rest e hy => by
  have h1:=gOut_closed (fStep_good em hf hps) (fStep_still hps em hf) (cfs (fol0 nn nt)) (fol0 nn nt) (fol0_sh nn nt) (Nat.le_refl _) p hp
  have hs:=fol_sh em hf hps
  have hok:=List.all_eq_true.1 hps p hp
  have hl:=okProd_left hok
  have h2:=(fIn_false em hf (left:=p.f0.toNat) (by omega) p.f1 false _ (okProd_right hok) hs h1).2.2 pre y rest e hy
  have hr:=okProd_right hok
  rw [e,List.all_append,List.all_cons,Bool.and_eq_true,Bool.and_eq_true] at hr
  have hb:=okSym_rule hr.2.1 hy
  exact more_false (by rw [hs.get (i:=y.f1.toNat) (by omega),fAdd_length em hf hs (by omega) hr.2.2]) h2
theorem fol_end (hn : 0 < nn) : ((fol nn nt em first ps).getD 0 []).getD nt false = true:=by
 have hg : Good (fun st => Sh nn nt st ∧ (st.getD 0 []).getD nt false = true) cfs (fStep nt em first) ps:=fun st p hI hp => by
  obtain ⟨h1,h2,h3⟩ := fStep_good em hf hps st p hI.1 hp
  have hok:=List.all_eq_true.1 hps p hp
  have hl:=okProd_left hok
  exact ⟨⟨h1,fIn_keeps em hf (left:=p.f0.toNat) (by omega) 0 nt p.f1 false st (okProd_right hok) hI.1 hI.2⟩,h2,h3⟩
 refine (gOut_I hg (cfs (fol0 nn nt)) (fol0 nn nt) ⟨fol0_sh nn nt,?_⟩).2
 unfold fol0
 rw [if_pos hn]
 have e : ((rows0 nn nt).set 0 ((none0 nt).set nt true)).getD 0 [] = (none0 nt).set nt true:=by
  rw [List.getD_eq_getElem?_getD,List.getElem?_set_self (by rw [(rows0_sh nn nt).1];exact hn)];rfl
 rw [e,List.getD_eq_getElem?_getD,List.getElem?_set_self (by rw [none0_length];omega)];rfl
end
def LeB (a b : List Bool) : Prop := ∀ i,a.getD i false = true → b.getD i false = true
section
variable {nn nt : Nat} {ps qs : List Prod} (hps : ps.all (okProd nn nt) = true) (hqs : qs.all (okProd nn nt) = true) (hsub : ∀ p ∈ ps,p ∈ qs)
include hps hqs hsub
end
theorem le_of_orL {n : Nat} {a b : List Bool} (ha : a.length = n) (hb : b.length = n) (h : orL a b = a) : LeB b a:=fun i hi => by
  rw [← h,orL_getD _ _ _ (by rw [ha,hb]),hi,Bool.or_true]
section
variable {nn nt : Nat} {ps qs : List Prod} (hps : ps.all (okProd nn nt) = true) (hqs : qs.all (okProd nn nt) = true) (hsub : ∀ p ∈ ps,p ∈ qs)
include hps hqs hsub
end
theorem idxs_getD {nn nt : Nat} {m : List (List Bool)} (h : Sh nn nt m) {i : Nat} (hi : i < nn) : (idxs m).getD i [] = idx 0 (m.getD i []) := by
 have hlt : i < m.length:=by rw [h.1];exact hi
 rw [idxs,List.getD_eq_getElem?_getD,List.getElem?_map,List.getD_eq_getElem?_getD,List.getElem?_eq_getElem hlt];rfl
end Go.Proofs.Ytfdcfihcfegekaa.M
end

section
namespace Go.Proofs.Ytfdcfihcfegekaa.M
open Go.RowKit Go.Proofs.YtfdcfihcfegekaaW.PrintWords Go.Proofs.YtfdcfihcfegekaaW.PrintLast Go.Proofs.YtfdcfihcfegekaaW.PrintMore Go.Proofs.Ytfdcfihcfegekaa.P Go.Proofs.Ytfdcfihcfegekaa.H
set_option linter.unusedVariables false
set_option linter.unusedSimpArgs false
set_option linter.unusedSectionVars false
inductive DerC (ps : List Prod) : Nat → List Sym → List Int → Nat → Prop where
  | nil (d : Nat) : DerC ps d [] [] 0
  | tok (d : Nat) (n : Int) (l : List Sym) (t : List Int) (m : Nat) : DerC ps d l t m → DerC ps d (⟨true,n⟩ :: l) (n :: t) m
  | rule (d : Nat) (p : Prod) (l : List Sym) (t1 t2 : List Int) (m1 m2 : Nat) : p ∈ ps → DerC ps d p.f1 t1 m1 → DerC ps (d + 1) l t2 m2 → DerC ps (d + 1) (⟨false,p.f0⟩ :: l) (t1 ++ t2) (1 + m1 + m2)
theorem DerC.der {ps : List Prod} {d : Nat} {l : List Sym} {t : List Int} {m : Nat} (h : DerC ps d l t m) : DerL ps l t:=by
 induction h with
 | nil => exact .nil
 | tok d n l t m _ ih => exact .tok n l t ih
 | rule d p l t1 t2 m1 m2 hp _ _ ih1 ih2 => exact .rule p l t1 t2 hp ih1 ih2
def gb : Nat → Nat
  | 0 => 0
  | d + 1 => 1 + 3 * gb d
theorem DerC.bound {ps : List Prod} (h3 : ∀ p ∈ ps,p.f1.length ≤ 3) {d : Nat} {l : List Sym} {t : List Int} {m : Nat} (h : DerC ps d l t m) : m ≤ l.length * gb d:=by
 induction h with
 | nil => simp
 | tok d n l t m _ ih => rw [List.length_cons,Nat.succ_mul];omega
 | rule d p l t1 t2 m1 m2 hp _ _ ih1 ih2 =>
  have h4 : p.f1.length * gb d ≤ 3 * gb d:=Nat.mul_le_mul_right _ (h3 p hp)
  rw [List.length_cons,Nat.succ_mul]
  have : gb (d + 1) = 1 + 3 * gb d:=rfl
  omega
theorem drvL_derC {ps : List Prod} {next : Int → Nat → (List Int × Bool) × Nat} {d : Nat} (hn : ∀ r a t a',next r a = ((t,true),a') → ∃ d',d = d' + 1 ∧ ∃ p ∈ ps,p.f0 = r ∧ ∃ m,DerC ps d' p.f1 t m) : ∀ (l : List Sym) (out t : List Int) (at_ a' : Nat),drvL next l out at_ = ((t,true),a') → (∃ t' m,t = out ++ t' ∧ DerC ps d l t' m) ∧ t.length ≤ max out.length 60 + l.length
  | [],out,t,at_,a',h => by
    simp only [drvL,Prod.mk.injEq] at h
    exact ⟨⟨[],0,by simp [← h.1.1],.nil d⟩,by rw [← h.1.1];simp;omega⟩
  | x :: l,out,t,at_,a',h => by
    obtain ⟨tk,n⟩ := x
    unfold drvL at h
    cases tk with
    | true =>
      rw [if_pos rfl] at h
      obtain ⟨⟨t',m,e,hd⟩,hl⟩ := drvL_derC hn l _ t _ a' h
      simp only [List.length_append,List.length_cons,List.length_nil] at hl
      exact ⟨⟨n :: t',m,by rw [e];simp,.tok d n l t' m hd⟩,by simp only [List.length_cons];omega⟩
    | false =>
      rw [if_neg (by simp)] at h
      simp only at h
      split at h
      · rename_i hok
        split at h
        · simp at h
        · rename_i h60
          obtain ⟨⟨t',m,e,hd⟩,hl⟩ := drvL_derC hn l _ t _ a' h
          obtain ⟨d',rfl,p,hp,rfl,m1,hd1⟩ := hn n at_ (next n at_).1.1 (next n at_).2 (by rw [← hok])
          simp only [List.length_append] at hl
          exact ⟨⟨(next p.f0 at_).1.1 ++ t',_,by rw [e,List.append_assoc],.rule d' p l _ t' m1 m hp hd1 hd⟩,by simp only [List.length_cons];omega⟩
      · simp at h
theorem drv_derC {ps : List Prod} {L : List Int} (hu : ∀ x ∈ L,0 ≤ x ∧ x ≤ 255) : ∀ (f : Nat) (rule : Int) (deep at_ : Nat) (t : List Int) (a' : Nat),drv ps L f rule deep at_ = ((t,true),a') → deep ≤ 10 ∧ ∃ p ∈ ps,p.f0 = rule ∧ (∃ m,DerC ps (10 - deep) p.f1 t m) ∧ t.length ≤ 60 + p.f1.length
  | 0,rule,deep,at_,t,a',h => by simp [drv] at h
  | f + 1,rule,deep,at_,t,a',h => by
    unfold drv at h
    split at h
    · simp at h
    · rename_i hst
      have hdeep : deep ≤ 10:=Nat.not_lt.1 (fun h1 => hst (.inr h1))
      have hpos : 0 < (dAll ps rule ps.length).length:=Nat.pos_of_ne_zero (fun h0 => hst (.inl h0))
      have hk:=dK_lt hu at_ hpos
      have hmem:=dAll_mem (ps:=ps) (rule:=rule) (i:=ps.length) (x:=(dAll ps rule ps.length).getD (dK L at_ (dAll ps rule ps.length).length).toNat 0) (by
        rw [List.getD_eq_getElem?_getD,List.getElem?_eq_getElem (show (dK L at_ (dAll ps rule ps.length).length).toNat < (dAll ps rule ps.length).length by omega)];exact List.getElem_mem _)
      obtain ⟨⟨t',m,e,hd⟩,hl⟩ := drvL_derC (next:=fun r a => drv ps L f r (deep + 1) a) (d:=10 - deep) (fun r a t a' h => by
        obtain ⟨h1,p,hp,hp0,⟨m,hm⟩,_⟩ := drv_derC hu f r (deep + 1) a t a' h
        exact ⟨10 - (deep + 1),by omega,p,hp,hp0,m,hm⟩) _ _ _ _ _ h
      refine ⟨hdeep,_,rd_mem ps _ hmem.1 hmem.2.1,hmem.2.2,⟨m,?_⟩,?_⟩
      · rw [List.nil_append] at e
        rw [e];exact hd
      · simpa using hl
section
variable {nn nt : Nat} {ps : List Prod}
def Fi (nn nt : Nat) (ps : List Prod) (l : List Sym) (i : Nat) : Prop:=(bg (clo false nn ps) (fst nn nt (clo false nn ps) ps) l (none0 nt)).1.getD i false = true
def Nu (nn nt : Nat) (ps : List Prod) (l : List Sym) : Prop:=(bg (clo false nn ps) (fst nn nt (clo false nn ps) ps) l (none0 nt)).2 = true
def Fo (nn nt : Nat) (ps : List Prod) (r : Int) (i : Nat) : Prop:=((fol nn nt (clo false nn ps) (fst nn nt (clo false nn ps) ps) ps).getD r.toNat []).getD i false = true
theorem bg_nu (em : List Bool) (first : List (List Bool)) : ∀ (l : List Sym) (out : List Bool),l.any (oddP false em) = false → (bg em first l out).2 = true
  | [],_,_ => rfl
  | x :: l,out,h => by
    rw [List.any_cons,Bool.or_eq_false_iff] at h
    obtain ⟨h1,h2⟩ := h
    have hx : x.f0 = false:=by cases hx : x.f0 with | false => rfl | true => simp [oddP,hx] at h1
    have he : em.getD x.f1.toNat false = true:=by
      have h3 : oddP false em x = !(em.getD x.f1.toNat false) := by rw [oddP,hx];rfl
      rw [h3] at h1
      simpa using h1
    rw [bg,if_neg (by simp [hx]),if_pos he]
    exact bg_nu em first l _ h2
section
variable (hps : ps.all (okProd nn nt) = true)
include hps
theorem der_nu {l : List Sym} (h : DerL ps l []) : Nu nn nt ps l:=bg_nu _ _ l _ (der_empty hps h rfl)
theorem der_fi {l : List Sym} {x : Int} {t : List Int} (h : DerL ps l (x :: t)) (hl : l.all (okSym nn nt) = true) : 0 ≤ x ∧ x < (nt : Int) ∧ Fi nn nt ps l x.toNat:=der_first hps h hl x t rfl
theorem fol_two {p : Prod} (hp : p ∈ ps) {pre rest : List Sym} {y : Sym} (e : p.f1 = pre ++ y :: rest) (hy : y.f0 = false) (i : Nat) : (Fi nn nt ps rest i → Fo nn nt ps y.f1 i) ∧ (Nu nn nt ps rest → Fo nn nt ps p.f0 i → Fo nn nt ps y.f1 i) := by
 have hs:=fst_sh nn nt (clo false nn ps) hps
 have hs2:=fol_sh (clo false nn ps) hs hps
 have hok:=List.all_eq_true.1 hps p hp
 have hl:=okProd_left hok
 have hr:=okProd_right hok
 rw [e,List.all_append,List.all_cons,Bool.and_eq_true,Bool.and_eq_true] at hr
 have hb:=okSym_rule hr.2.1 hy
 have hal:=fAdd_length (clo false nn ps) hs hs2 (left:=p.f0.toNat) (by omega) hr.2.2
 have hle:=le_of_orL (hs2.get (i:=y.f1.toNat) (by omega)) hal (fol_closed hps (clo false nn ps) hs p hp pre y rest e hy)
 have hbl:=bg_length (clo false nn ps) hs rest _ hr.2.2 (none0_length nt)
 have hrow:=hs2.get (i:=p.f0.toNat) (by omega)
 constructor
 · intro hf
   refine hle i ?_
   unfold fAdd
   split
   · rw [orL_getD _ _ _ (by rw [hbl,hrow])]
     rw [Fi] at hf
     rw [hf,Bool.true_or]
   · exact hf
 · intro hn hf
   refine hle i ?_
   unfold fAdd
   rw [Nu] at hn
   rw [if_pos hn,orL_getD _ _ _ (by rw [hbl,hrow])]
   rw [Fo] at hf
   rw [hf,Bool.or_true]
theorem mem_sel {p : Prod} (hp : p ∈ ps) {z : Nat} (h : Fi nn nt ps p.f1 z ∨ (Nu nn nt ps p.f1 ∧ Fo nn nt ps p.f0 z)) : (z : Int) ∈ sel nn nt ps p:=by
 have hok:=List.all_eq_true.1 hps p hp
 have hl:=okProd_left hok
 have hc : ps.all (okProd nn nt) = true ∧ nn ≠ 0 ∧ p.f1.all (okSym nn nt) = true:=⟨hps,by omega,okProd_right hok⟩
 have hs:=fst_sh nn nt (clo false nn ps) hps
 have hs2:=fol_sh (clo false nn ps) hs hps
 unfold sel dOf
 rw [if_pos hc]
 refine List.mem_append.2 ?_
 rcases h with h | ⟨h1,h2⟩
 · exact .inl ((mem_idx _ _ 0).2 ⟨z,h,by omega⟩)
 · right
   rw [Nu] at h1
   simp only
   rw [if_pos h1,dFollow,if_pos hps,idxs_getD hs2 (by omega)]
   exact (mem_idx _ _ 0).2 ⟨z,h2,by omega⟩
end
def DOk (nn nt : Nat) (ps : List Prod) (l : List Sym) : Prop := ∀ pre y rest,l = pre ++ y :: rest → y.f0 = false → ∀ i,Fi nn nt ps rest i → Fo nn nt ps y.f1 i
def COk (nn nt : Nat) (ps : List Prod) (l : List Sym) (z : Nat) : Prop := ∀ pre y rest,l = pre ++ y :: rest → y.f0 = false → Nu nn nt ps rest → Fo nn nt ps y.f1 z
theorem DOk.tail {x : Sym} {l : List Sym} (h : DOk nn nt ps (x :: l)) : DOk nn nt ps l:=fun pre y rest e => h (x :: pre) y rest (by rw [e];rfl)
theorem COk.tail {x : Sym} {l : List Sym} {z : Nat} (h : COk nn nt ps (x :: l) z) : COk nn nt ps l z:=fun pre y rest e => h (x :: pre) y rest (by rw [e];rfl)
def hdOr (nt : Nat) : List Int → Nat
  | [] => nt
  | x :: _ => x.toNat
def lookAt (nt : Nat) (l : List Int) (a : Nat) : Int:=if a < l.length then l.getD a 0 else (nt : Int)
def tkStep (t : List (List Int)) (ps : List Prod) (nt : Nat) (l : List Int) : List Sym × Nat → Option (List Sym × Nat)
  | ([],_) => none
  | (x :: st,a) =>
    if x.f0 = true then (if x.f1 = lookAt nt l a then some (st,a + 1) else none)
    else if 0 ≤ x.f1 ∧ x.f1 < (t.length : Int) ∧ 0 ≤ lookAt nt l a ∧ lookAt nt l a < ((t.getD x.f1.toNat []).length : Int) ∧ 0 ≤ (t.getD x.f1.toNat []).getD (lookAt nt l a).toNat 0 ∧ (t.getD x.f1.toNat []).getD (lookAt nt l a).toNat 0 < (ps.length : Int) ∧ (rd_T30 ps ((t.getD x.f1.toNat []).getD (lookAt nt l a).toNat 0)).f0 = x.f1
      then some ((rd_T30 ps ((t.getD x.f1.toNat []).getD (lookAt nt l a).toNat 0)).f1 ++ st,a) else none
def tkN (t : List (List Int)) (ps : List Prod) (nt : Nat) (l : List Int) : Nat → List Sym × Nat → Option (List Sym × Nat)
  | 0,s => some s
  | n + 1,s => (tkStep t ps nt l s).bind (tkN t ps nt l n)
def tkGo (t : List (List Int)) (ps : List Prod) (nt : Nat) (l : List Int) : Nat → List Sym × Nat → Bool
  | 0,s => s.1.isEmpty && s.2 == l.length
  | n + 1,s => if s.1.isEmpty = true then s.2 == l.length else match tkStep t ps nt l s with | some s' => tkGo t ps nt l n s' | none => false
theorem tkN_add (t : List (List Int)) (ps : List Prod) (nt : Nat) (l : List Int) : ∀ (n m : Nat) (s s' : List Sym × Nat),tkN t ps nt l n s = some s' → tkN t ps nt l (n + m) s = tkN t ps nt l m s'
  | 0,m,s,s',h => by rw [tkN] at h;rw [Option.some.inj h,Nat.zero_add]
  | n + 1,m,s,s',h => by
    rw [tkN] at h
    obtain ⟨s1,h1,h2⟩ := Option.bind_eq_some_iff.1 h
    rw [show n + 1 + m = (n + m) + 1 by omega,tkN,h1,Option.bind_some]
    exact tkN_add t ps nt l n m s1 s' h2
theorem tkGo_of (t : List (List Int)) (ps : List Prod) (nt : Nat) (l : List Int) : ∀ (n m : Nat) (s : List Sym × Nat),tkN t ps nt l n s = some ([],l.length) → tkGo t ps nt l (n + m) s = true
  | 0,m,s,h => by
    rw [tkN] at h
    rw [Option.some.inj h,Nat.zero_add]
    cases m <;> simp [tkGo]
  | n + 1,m,s,h => by
    rw [tkN] at h
    obtain ⟨s1,h1,h2⟩ := Option.bind_eq_some_iff.1 h
    have hne : ¬ s.1.isEmpty = true:=fun he => by
      obtain ⟨st,a⟩ := s
      cases st with
      | nil => simp [tkStep] at h1
      | cons x st => simp at he
    rw [show n + 1 + m = (n + m) + 1 by omega,tkGo,if_neg hne,h1]
    exact tkGo_of t ps nt l n m s1 h2
theorem lookAt_hd {l w : List Int} {a : Nat} (h : l.drop a = w) (hw : ∀ x ∈ w,0 ≤ x ∧ x < (nt : Int)) : lookAt nt l a = ((hdOr nt w : Nat) : Int) ∧ hdOr nt w ≤ nt:=by
 unfold lookAt
 cases w with
 | nil =>
  have : l.length ≤ a:=List.drop_eq_nil_iff.1 h
  rw [if_neg (by omega)]
  exact ⟨rfl,Nat.le_refl _⟩
 | cons x w =>
  have hlt : a < l.length:=Nat.lt_of_not_le (fun hle => by rw [List.drop_eq_nil_iff.2 hle] at h;cases h)
  have hx : l.getD a 0 = x:=by
   rw [List.drop_eq_getElem_cons hlt] at h
   rw [List.getD_eq_getElem?_getD,List.getElem?_eq_getElem hlt]
   exact (List.cons.inj h).1
  have:=hw x List.mem_cons_self
  rw [if_pos hlt,hx]
  simp only [hdOr]
  omega
section
variable (hps : ps.all (okProd nn nt) = true) (hno : (dPredict nn nt ps).2 = []) (l : List Int)
include hps hno
theorem tk_run {d : Nat} {s : List Sym} {t : List Int} {m : Nat} (h : DerC ps d s t m) : s.all (okSym nn nt) = true → DOk nn nt ps s → ∀ (v : List Int),COk nn nt ps s (hdOr nt v) → (∀ x ∈ v,0 ≤ x ∧ x < (nt : Int)) → ∀ (rest : List Sym) (a : Nat),l.drop a = t ++ v → (∀ x ∈ t,0 ≤ x ∧ x < (nt : Int)) ∧ tkN (dPredict nn nt ps).1 ps nt l (m + t.length) (s ++ rest,a) = some (rest,a + t.length) := by
 induction h with
 | nil d => intro _ _ v _ _ rest a _;exact ⟨fun x hx => absurd hx (by simp),rfl⟩
 | tok d n s t m h ih =>
  intro hs hD v hC hv rest a hdrop
  rw [List.all_cons,Bool.and_eq_true] at hs
  have hn:=okSym_tok hs.1 rfl
  have hdrop2 : l.drop (a + 1) = t ++ v:=by rw [← List.drop_drop,hdrop];rfl
  obtain ⟨h1,h2⟩ := ih hs.2 hD.tail v hC.tail hv rest (a + 1) hdrop2
  have hall : ∀ x ∈ n :: t,0 ≤ x ∧ x < (nt : Int) := fun x hx => by
   rcases List.mem_cons.1 hx with rfl | hx
   · exact hn
   · exact h1 x hx
  have hlk:=(lookAt_hd (nt:=nt) hdrop (fun x hx => (List.mem_append.1 hx).elim (hall x) (hv x))).1
  refine ⟨hall,?_⟩
  rw [show m + (n :: t).length = (m + t.length) + 1 by simp;omega,tkN]
  have hstep : tkStep (dPredict nn nt ps).1 ps nt l (⟨true,n⟩ :: s ++ rest,a) = some (s ++ rest,a + 1) := by
   have hn0 : n = lookAt nt l a:=by rw [hlk];simp only [List.cons_append,hdOr];simp only at hn;omega
   rw [List.cons_append,tkStep]
   simp only [if_pos hn0,ite_true]
  rw [hstep,Option.bind_some,h2]
  simp;omega
 | rule d p s t1 t2 m1 m2 hp h1 h2 ih1 ih2 =>
  intro hs hD v hC hv rest a hdrop
  rw [List.all_cons,Bool.and_eq_true] at hs
  have hr:=okSym_rule hs.1 rfl
  simp only at hr
  have hok:=List.all_eq_true.1 hps p hp
  have hpr:=okProd_right hok
  -- what comes behind the rule follows it
  have hfo : ∀ z,z = hdOr nt (t2 ++ v) → Fo nn nt ps p.f0 z:=fun z ez => by
   subst ez
   cases ht2 : t2 with
   | nil =>
    rw [ht2] at h2
    exact hC [] ⟨false,p.f0⟩ s rfl rfl (der_nu hps h2.der)
   | cons x t2' =>
    rw [ht2] at h2
    exact hD [] ⟨false,p.f0⟩ s rfl rfl _ (der_fi hps h2.der hs.2).2.2
  have hC1 : COk nn nt ps p.f1 (hdOr nt (t2 ++ v)) := fun pre y rest' e hy hn => (fol_two hps hp e hy _).2 hn (hfo _ rfl)
  have hD1 : DOk nn nt ps p.f1:=fun pre y rest' e hy i hi => (fol_two hps hp e hy i).1 hi
  rw [List.append_assoc] at hdrop
  have hdrop2 : l.drop (a + t1.length) = t2 ++ v:=by rw [← List.drop_drop,hdrop,List.drop_left]
  obtain ⟨hr2,h4⟩ := ih2 hs.2 hD.tail v hC.tail hv rest (a + t1.length) hdrop2
  have hv2 : ∀ x ∈ t2 ++ v,0 ≤ x ∧ x < (nt : Int) := fun x hx => (List.mem_append.1 hx).elim (hr2 x) (hv x)
  obtain ⟨hr1,h3⟩ := ih1 hpr hD1 (t2 ++ v) hC1 hv2 (s ++ rest) a hdrop
  have hall : ∀ x ∈ t1 ++ (t2 ++ v),0 ≤ x ∧ x < (nt : Int) := fun x hx => (List.mem_append.1 hx).elim (hr1 x) (hv2 x)
  obtain ⟨hlk,hz⟩ := lookAt_hd (nt:=nt) hdrop hall
  have hsel : ((hdOr nt (t1 ++ (t2 ++ v)) : Nat) : Int) ∈ sel nn nt ps p:=by
   refine mem_sel hps hp ?_
   cases ht1 : t1 with
   | nil =>
    rw [ht1] at h1
    exact .inr ⟨der_nu hps h1.der,hfo _ rfl⟩
   | cons x t1' =>
    rw [ht1] at h1
    exact .inl (der_fi hps h1.der hpr).2.2
  obtain ⟨i0,hi0⟩ := List.getElem?_of_mem hp
  have hS : SelD nn nt ps p.f0.toNat (hdOr nt (t1 ++ (t2 ++ v))) i0:=⟨p,hi0,by omega,hsel⟩
  obtain ⟨ht1,ht2⟩ := dPredict_table hps
  obtain ⟨ht3,ht4⟩ := ht2 p.f0.toNat (by omega)
  obtain ⟨i,he,hi,_⟩ := (ht4 _ hz).resolve_left (fun hc => hc.2 i0 hS)
  obtain rfl:=dPredict_one hps hno (by omega) hz hi hS
  have hil:=(List.getElem?_eq_some_iff.1 hi0).1
  have hrp : rd_T30 ps (i : Int) = p:=by rw [rd_T30,Int.toNat_natCast,List.getD_eq_getElem?_getD,hi0];rfl
  refine ⟨fun x hx => hall x (by rw [← List.append_assoc];exact List.mem_append_left _ hx),?_⟩
  have hstep : tkStep (dPredict nn nt ps).1 ps nt l (⟨false,p.f0⟩ :: s ++ rest,a) = some (p.f1 ++ (s ++ rest),a) := by
   rw [List.cons_append,tkStep,if_neg (by simp)]
   simp only
   rw [hlk,Int.toNat_natCast,he,hrp,if_pos ⟨hr.1,by rw [ht1];exact hr.2,by omega,by rw [ht3];omega,by omega,by omega,rfl⟩]
  rw [show 1 + m1 + m2 + (t1 ++ t2).length = ((m1 + t1.length) + (m2 + t2.length)) + 1 by simp;omega,tkN,hstep,Option.bind_some,tkN_add _ _ _ _ _ _ _ _ h3,h4]
  simp;omega
end
theorem tk_takes (hps : ps.all (okProd nn nt) = true) (hn : 0 < nn) (h3 : ∀ p ∈ ps,p.f1.length ≤ 3) (hno : (dPredict nn nt ps).2 = []) {L : List Int} (hu : ∀ x ∈ L,0 ≤ x ∧ x ≤ 255) {f : Nat} {t : List Int} {a' : Nat} (h : drv ps L f 0 0 0 = ((t,true),a')) :
    tkGo (dPredict nn nt ps).1 ps nt t 100000 ([⟨false,0⟩],0) = true ∧ t.length ≤ 63:=by
 obtain ⟨_,p,hp,hp0,⟨m,hm⟩,hl⟩ := drv_derC hu f 0 0 0 t a' h
 have hb:=hm.bound h3
 have h3p:=h3 p hp
 have hg : gb 10 = 29524:=rfl
 have hb2 : p.f1.length * gb 10 ≤ 3 * 29524:=by rw [hg];exact Nat.mul_le_mul_right _ h3p
 have hD:=DerC.rule 10 p [] t [] m 0 hp hm (.nil _)
 rw [hp0,List.append_nil] at hD
 have hr:=(tk_run hps hno t hD (by simp [okSym];omega) (fun pre y rest e hy i hi => ?_) [] (fun pre y rest e hy _ => ?_) (fun x hx => absurd hx (by simp)) [] 0 (by simp)).2
 · rw [Nat.zero_add] at hr
   have hgo:=tkGo_of (dPredict nn nt ps).1 ps nt t _ (100000 - (1 + m + 0 + t.length)) _ hr
   rw [show 1 + m + 0 + t.length + (100000 - (1 + m + 0 + t.length)) = 100000 by simp only [Nat.sub_zero] at hb;omega] at hgo
   exact ⟨hgo,by omega⟩
 · cases pre with
   | nil =>
    obtain ⟨_,rfl⟩ := List.cons.inj e
    simp [Fi,bg,none0,List.getElem?_replicate] at hi
    split at hi <;> simp at hi
   | cons q pre => simp at e
 · cases pre with
   | nil =>
    obtain ⟨rfl,_⟩ := List.cons.inj e
    exact fol_end hps (clo false nn ps) (fst_sh nn nt (clo false nn ps) hps) hn
   | cons q pre => simp at e
end
end Go.Proofs.Ytfdcfihcfegekaa.M
end
