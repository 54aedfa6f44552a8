/- Packed texts of this claim: the walks of the functions, and their plain laws; see the claim's last text. -/
import Derived.Test.YtfdcfihcfegekaaKPredictClashes6
section
namespace Go.Proofs.Ytfdcfihcfegekaa.M
open Go.RowKit Go.Proofs.YtfdcfihcfegekaaW.PrintWords Go.Proofs.YtfdcfihcfegekaaW.PrintLast Go.Proofs.YtfdcfihcfegekaaW.PrintMore Go.Proofs.Ytfdcfihcfegekaa.P Go.Proofs.Ytfdcfihcfegekaa.H
set_option linter.unusedVariables false
set_option linter.unusedSimpArgs false
abbrev Sym:=S53
abbrev Prod:=S30
abbrev Tok:=S61
theorem rdOf_mid {α : Type} (d : α) (p : List α) (x : α) (a : List α) (n : Int) (h : n = p.length) : rdOf d (p ++ x :: a) n = x:=by
 subst h;simp [rdOf]
theorem getD_mid {α : Type} (d : α) (p : List α) (x : α) (a : List α) (n : Int) (h : n = p.length) : (p ++ x :: a).getD n.toNat d = x:=by
 subst h;simp
theorem set_mid {α : Type} (p : List α) (x v : α) (a : List α) (n : Int) (h : n = p.length) : (p ++ x :: a).set n.toNat v = p ++ v :: a:=by
 subst h;simp
theorem wrap_next {α : Type} (p : List α) (v : α) (h : p.length ≤ 1000000) : wrap64 ((p.length : Int) + 1) = ((p ++ [v]).length : Int) := by
 rw [wrap64_id (by omega) (by omega)];simp
def orL (a b : List Bool) : List Bool:=List.zipWith (· || ·) a b
def moreL : List Bool → List Bool → Bool
  | x :: a,y :: b => (y && !x) || moreL a b
  | _,_ => false
theorem orL_length {a b : List Bool} (h : a.length = b.length) : (orL a b).length = a.length:=by simp [orL,h]
theorem add_l0_ev : ∀ (a b pre preb : List Bool) (g : Bool),a.length = b.length → pre.length = preb.length → pre.length + a.length ≤ 1000000 → Ev (fun k => firsts_set_add.l0 k (pre ++ a) g (preb ++ b) ((preb ++ b).length : Int) (pre.length : Int)) (g || moreL a b,pre ++ orL a b)
  | [],[],pre,preb,g,_,h2,_ => by
    refine Ev.step (fun k => by rw [firsts_set_add.l0]) (Ev.neg (by simp [h2]) (Ev.some (by simp [moreL,orL])))
  | x :: a,y :: b,pre,preb,g,h1,h2,h3 => by
    have h1' : a.length = b.length:=by simpa using h1
    simp only [List.length_cons] at h3
    have ih:=fun g v => add_l0_ev a b (pre ++ [v]) (preb ++ [y]) g h1' (by simp [h2]) (by simp;omega)
    simp only [← wrap_next pre _ (show pre.length ≤ 1000000 by omega),List.append_assoc,List.singleton_append] at ih
    refine Ev.step (fun k => by rw [firsts_set_add.l0]) ?_
    refine Ev.pos (by simp;omega) (Ev.pos (by omega) (Ev.pos (by simp;omega) ?_))
    rw [rdOf_mid _ preb y b _ (by rw [h2]),rdOf_mid _ pre x a _ rfl]
    cases y
    · refine Ev.neg (by simp) (Ev.val (ih g x) ?_)
      simp [moreL,orL]
    · refine Ev.pos rfl (Ev.pos (by simp;omega) ?_)
      cases x
      · refine Ev.neg (by simp) ?_
        rw [set_mid _ _ _ _ _ rfl]
        refine Ev.val (ih true true) ?_
        simp [moreL,orL]
      · refine Ev.pos rfl (Ev.val (ih g true) ?_)
        simp [moreL,orL]
theorem add_ev (a b : List Bool) (h1 : a.length = b.length) (h2 : a.length ≤ 1000000) : Ev (fun k => firsts_set_add.f k a b) (moreL a b,orL a b) := by
 exact Ev.congr (fun k => by rw [firsts_set_add.f]) (by simpa using add_l0_ev a b [] [] false h1 rfl (by simpa using h2) : Ev (fun k => firsts_set_add.l0 k a false b (b.length : Int) 0) _)
theorem join_l0_ev : ∀ (a b pre preb : List Bool) (g : Bool),a.length = b.length → pre.length = preb.length → pre.length + a.length ≤ 1000000 → Ev (fun k => regletref13_join.l0 k (pre ++ a) (preb ++ b) g (pre.length : Int)) (g || moreL a b,pre ++ orL a b)
  | [],[],pre,preb,g,_,h2,_ => by
    refine Ev.step (fun k => by rw [regletref13_join.l0]) (Ev.neg (by simp) (Ev.some (by simp [moreL,orL])))
  | x :: a,y :: b,pre,preb,g,h1,h2,h3 => by
    have h1' : a.length = b.length:=by simpa using h1
    simp only [List.length_cons] at h3
    have ih:=fun g v => join_l0_ev a b (pre ++ [v]) (preb ++ [y]) g h1' (by simp [h2]) (by simp;omega)
    simp only [← wrap_next pre _ (show pre.length ≤ 1000000 by omega),List.append_assoc,List.singleton_append] at ih
    refine Ev.step (fun k => by rw [regletref13_join.l0]) ?_
    refine Ev.pos (by simp;omega) ?_
    rw [rdOf_mid _ preb y b _ (by rw [h2]),rdOf_mid _ pre x a _ rfl]
    simp only [set_mid _ _ _ _ _ rfl]
    cases g
    · refine Ev.neg (by simp) (Ev.pos (by omega) (Ev.pos (by simp;omega) ?_))
      cases y <;> cases x
      · exact Ev.neg (by simp) (Ev.neg (by simp) (Ev.val (ih _ _) (by simp [moreL,orL])))
      · exact Ev.neg (by simp) (Ev.pos rfl (Ev.val (ih _ _) (by simp [moreL,orL])))
      · exact Ev.pos rfl (Ev.neg (by simp) (Ev.val (ih _ _) (by simp [moreL,orL])))
      · exact Ev.pos rfl (Ev.pos rfl (Ev.val (ih _ _) (by simp [moreL,orL])))
    · refine Ev.pos rfl (Ev.pos (by omega) ?_)
      cases x
      · exact Ev.neg (by simp) (Ev.pos (by simp;omega) (Ev.val (ih _ _) (by simp [moreL,orL])))
      · exact Ev.pos rfl (Ev.val (ih _ _) (by simp [moreL,orL]))
theorem join_ev (a b : List Bool) (h1 : a.length = b.length) (h2 : a.length ≤ 1000000) : Ev (fun k => regletref13_join.f k a b) (moreL a b,orL a b) := by
 exact Ev.congr (fun k => by rw [regletref13_join.f]) (by simpa using join_l0_ev a b [] [] false h1 rfl (by simpa using h2) : Ev (fun k => regletref13_join.l0 k a b false 0) _)
def idx : Nat → List Bool → List Int
  | _,[] => []
  | n,x :: a => if x = true then (n : Int) :: idx (n + 1) a else idx (n + 1) a
theorem idx_length : ∀ (n : Nat) (a : List Bool),(idx n a).length ≤ a.length
  | _,[] => by simp [idx]
  | n,x :: a => by have:=idx_length (n + 1) a;unfold idx;split <;> simp <;> omega
theorem rising_l0_ev : ∀ (a pre : List Bool) (out : List Int),out.length ≤ pre.length → pre.length + a.length ≤ 1000000 → Ev (fun k => firsts_set_rising.l0 k out (pre ++ a) ((pre ++ a).length : Int) (pre.length : Int)) (out ++ idx pre.length a)
  | [],pre,out,_,_ => by
    refine Ev.step (fun k => by rw [firsts_set_rising.l0]) (Ev.neg (by simp) (Ev.some (by simp [idx])))
  | x :: a,pre,out,h2,h3 => by
    simp only [List.length_cons] at h3
    have ih:=fun out h => rising_l0_ev a (pre ++ [x]) out h (by simp;omega)
    simp only [← wrap_next pre _ (show pre.length ≤ 1000000 by omega),List.append_assoc,List.singleton_append] at ih
    refine Ev.step (fun k => by rw [firsts_set_rising.l0]) ?_
    refine Ev.pos (by simp;omega) (Ev.pos (by omega) (Ev.pos (by simp;omega) ?_))
    rw [rdOf_mid _ pre x a _ rfl]
    cases x
    · exact Ev.neg (by simp) (Ev.val (ih out (by simp;omega)) (by simp [idx]))
    · exact Ev.pos rfl (Ev.pos (by omega) (Ev.val (ih _ (by simp;omega)) (by simp [idx])))
theorem rising_ev (a : List Bool) (h2 : a.length ≤ 1000000) : Ev (fun k => firsts_set_rising.f k a) (idx 0 a) := by
 exact Ev.congr (fun k => by rw [firsts_set_rising.f]) (by simpa using rising_l0_ev a [] [] (by simp) (by simpa using h2) : Ev (fun k => firsts_set_rising.l0 k [] a (a.length : Int) 0) _)
theorem list_l0_ev : ∀ (a pre : List Bool) (out : List Int),out.length ≤ pre.length → pre.length + a.length ≤ 1000000 → Ev (fun k => regletref13_list.l0 k (pre ++ a) out (pre.length : Int)) (out ++ idx pre.length a)
  | [],pre,out,_,_ => by
    refine Ev.step (fun k => by rw [regletref13_list.l0]) (Ev.neg (by simp) (Ev.some (by simp [idx])))
  | x :: a,pre,out,h2,h3 => by
    simp only [List.length_cons] at h3
    have ih:=fun out h => list_l0_ev a (pre ++ [x]) out h (by simp;omega)
    simp only [← wrap_next pre _ (show pre.length ≤ 1000000 by omega),List.append_assoc,List.singleton_append] at ih
    refine Ev.step (fun k => by rw [regletref13_list.l0]) ?_
    refine Ev.pos (by simp;omega) (Ev.pos (by omega) ?_)
    rw [rdOf_mid _ pre x a _ rfl]
    cases x
    · exact Ev.neg (by simp) (Ev.val (ih out (by simp;omega)) (by simp [idx]))
    · exact Ev.pos rfl (Ev.pos (by omega) (Ev.val (ih _ (by simp;omega)) (by simp [idx])))
theorem list_ev (a : List Bool) (h2 : a.length ≤ 1000000) : Ev (fun k => regletref13_list.f k a) (idx 0 a) := by
 exact Ev.congr (fun k => by rw [regletref13_list.f]) (by simpa using list_l0_ev a [] [] (by simp) (by simpa using h2) : Ev (fun k => regletref13_list.l0 k a [] 0) _)
def idxs (m : List (List Bool)) : List (List Int) := m.map (idx 0)
theorem all_l0_ev : ∀ (m pre : List (List Bool)) (out : List (List Int)),out.length = pre.length → pre.length + m.length ≤ 1000000 → (∀ r ∈ m,r.length ≤ 1000000) → Ev (fun k => firsts_all.l0 k (out ++ List.replicate m.length []) (pre ++ m) ((pre ++ m).length : Int) (pre.length : Int)) (out ++ idxs m)
  | [],pre,out,_,_,_ => by
    refine Ev.step (fun k => by rw [firsts_all.l0]) (Ev.neg (by simp) (Ev.some (by simp [idxs])))
  | r :: m,pre,out,h2,h3,h4 => by
    simp only [List.length_cons] at h3
    have ih:=all_l0_ev m (pre ++ [r]) (out ++ [idx 0 r]) (by simp [h2]) (by simp;omega) (fun r hr => h4 r (List.mem_cons_of_mem _ hr))
    simp only [← wrap_next pre _ (show pre.length ≤ 1000000 by omega),List.append_assoc,List.singleton_append] at ih
    refine Ev.step (fun k => by rw [firsts_all.l0]) ?_
    refine Ev.pos (by simp;omega) (Ev.pos (by omega) (Ev.pos (by simp;omega) ?_))
    refine Ev.bind (a:=idx 0 r) (Ev.congr (fun k => congrArg (firsts_set_rising.f k) (getD_mid _ pre r m _ rfl)) (rising_ev r (h4 r List.mem_cons_self))) (Ev.pos (by simp;omega) ?_)
    simp only [List.length_cons,List.replicate_succ]
    rw [set_mid _ _ _ _ _ (by rw [h2])]
    exact Ev.val ih (by simp [idxs])
theorem all_ev (m : List (List Bool)) (h2 : m.length ≤ 1000000) (h4 : ∀ r ∈ m,r.length ≤ 1000000) : Ev (fun k => firsts_all.f k m) (idxs m) := by
 refine Ev.congr (fun k => by rw [firsts_all.f]) (Ev.pos (by omega) (Ev.pos (by omega) ?_))
 rw [Int.toNat_natCast]
 simpa using all_l0_ev m [] [] rfl (by simpa using h2) h4
theorem lists_l0_ev : ∀ (m pre : List (List Bool)) (out : List (List Int)),out.length = pre.length → pre.length + m.length ≤ 1000000 → (∀ r ∈ m,r.length ≤ 1000000) → Ev (fun k => regletref13_lists.l0 k (pre ++ m) out (pre.length : Int)) (out ++ idxs m)
  | [],pre,out,_,_,_ => by
    refine Ev.step (fun k => by rw [regletref13_lists.l0]) (Ev.neg (by simp) (Ev.some (by simp [idxs])))
  | r :: m,pre,out,h2,h3,h4 => by
    simp only [List.length_cons] at h3
    have ih:=lists_l0_ev m (pre ++ [r]) (out ++ [idx 0 r]) (by simp [h2]) (by simp;omega) (fun r hr => h4 r (List.mem_cons_of_mem _ hr))
    simp only [← wrap_next pre _ (show pre.length ≤ 1000000 by omega),List.append_assoc,List.singleton_append] at ih
    refine Ev.step (fun k => by rw [regletref13_lists.l0]) ?_
    refine Ev.pos (by simp;omega) (Ev.pos (by omega) ?_)
    refine Ev.bind (a:=idx 0 r) (Ev.congr (fun k => congrArg (regletref13_list.f k) (getD_mid _ pre r m _ rfl)) (list_ev r (h4 r List.mem_cons_self))) (Ev.pos (by omega) ?_)
    exact Ev.val ih (by simp [idxs])
theorem lists_ev (m : List (List Bool)) (h2 : m.length ≤ 1000000) (h4 : ∀ r ∈ m,r.length ≤ 1000000) : Ev (fun k => regletref13_lists.f k m) (idxs m) := by
 exact Ev.congr (fun k => by rw [regletref13_lists.f]) (by simpa using lists_l0_ev m [] [] rfl (by simpa using h2) h4 : Ev (fun k => regletref13_lists.l0 k m [] 0) _)
theorem sameInts_l0_ev : ∀ (a pre : List Int),pre.length + a.length ≤ 1000000 → Ev (fun k => regletref13_SameInts.l0 k (pre ++ a) (pre ++ a) (pre.length : Int)) true
  | [],pre,_ => Ev.step (fun k => by rw [regletref13_SameInts.l0]) (Ev.neg (by simp) (Ev.some rfl))
  | x :: a,pre,h3 => by
    simp only [List.length_cons] at h3
    have ih:=sameInts_l0_ev a (pre ++ [x]) (by simp;omega)
    simp only [← wrap_next pre _ (show pre.length ≤ 1000000 by omega),List.append_assoc,List.singleton_append] at ih
    exact Ev.step (fun k => by rw [regletref13_SameInts.l0]) (Ev.pos (by simp;omega) (Ev.pos (by omega) (Ev.pos (by simp;omega) (Ev.pos rfl ih))))
theorem sameInts_ev (a : List Int) (h : a.length ≤ 1000000) : Ev (fun k => regletref13_SameInts.f k a a) true :=
  Ev.congr (fun k => by rw [regletref13_SameInts.f,if_pos rfl]) (by simpa using sameInts_l0_ev a [] (by simpa using h) : Ev (fun k => regletref13_SameInts.l0 k a a 0) _)
theorem sameLists_l0_ev : ∀ (a pre : List (List Int)),pre.length + a.length ≤ 1000000 → (∀ r ∈ a,r.length ≤ 1000000) → Ev (fun k => regletref13_SameLists.l0 k (pre ++ a) (pre ++ a) (pre.length : Int)) true
  | [],pre,_,_ => Ev.step (fun k => by rw [regletref13_SameLists.l0]) (Ev.neg (by simp) (Ev.some rfl))
  | x :: a,pre,h3,h4 => by
    simp only [List.length_cons] at h3
    have ih:=sameLists_l0_ev a (pre ++ [x]) (by simp;omega) (fun r hr => h4 r (List.mem_cons_of_mem _ hr))
    simp only [← wrap_next pre _ (show pre.length ≤ 1000000 by omega),List.append_assoc,List.singleton_append] at ih
    refine Ev.step (fun k => by rw [regletref13_SameLists.l0]) (Ev.pos (by simp;omega) (Ev.pos (by omega) (Ev.pos (by simp;omega) ?_)))
    exact Ev.bind (a:=true) (Ev.congr (fun k => congr (congrArg (regletref13_SameInts.f k) (getD_mid _ pre x a _ rfl)) (getD_mid _ pre x a _ rfl)) (sameInts_ev x (h4 x List.mem_cons_self))) (Ev.pos rfl ih)
theorem sameLists_ev (a : List (List Int)) (h : a.length ≤ 1000000) (h4 : ∀ r ∈ a,r.length ≤ 1000000) : Ev (fun k => regletref13_SameLists.f k a a) true :=
  Ev.congr (fun k => by rw [regletref13_SameLists.f,if_pos rfl]) (by simpa using sameLists_l0_ev a [] (by simpa using h) h4 : Ev (fun k => regletref13_SameLists.l0 k a a 0) _)
def Sh (nn nt : Nat) (m : List (List Bool)) : Prop:=m.length = nn ∧ ∀ r ∈ m,r.length = nt + 1
theorem Sh.get {nn nt : Nat} {m : List (List Bool)} (h : Sh nn nt m) {i : Nat} (hi : i < nn) : (m.getD i []).length = nt + 1:=by
 have hi' : i < m.length:=by rw [h.1];exact hi
 rw [List.getD_eq_getElem?_getD,List.getElem?_eq_getElem hi']
 exact h.2 _ (List.getElem_mem hi')
theorem Sh.set {nn nt : Nat} {m : List (List Bool)} (h : Sh nn nt m) (i : Nat) {r : List Bool} (hr : r.length = nt + 1) : Sh nn nt (m.set i r) :=
  ⟨by rw [List.length_set];exact h.1,fun r' hr' => by
    rcases List.mem_or_eq_of_mem_set hr' with h1 | rfl
    · exact h.2 _ h1
    · exact hr⟩
def bg (em : List Bool) (first : List (List Bool)) : List Sym → List Bool → List Bool × Bool
  | [],out => (out,true)
  | x :: l,out => if x.f0 = true then (out.set x.f1.toNat true,false) else
      if em.getD x.f1.toNat false = true then bg em first l (orL out (first.getD x.f1.toNat [])) else (orL out (first.getD x.f1.toNat []),false)
theorem bg_length (em : List Bool) {first : List (List Bool)} {nn nt : Nat} (hs : Sh nn nt first) : ∀ (l : List Sym) (out : List Bool),l.all (okSym nn nt) = true → out.length = nt + 1 → (bg em first l out).1.length = nt + 1
  | [],out,_,h => h
  | x :: l,out,hl,h => by
    simp only [List.all_cons,Bool.and_eq_true] at hl
    unfold bg
    split
    · simpa using h
    · rename_i hx
      have hn : x.f1.toNat < nn:=by
        have:=hl.1
        simp only [okSym,hx,if_neg,Bool.and_eq_true,decide_eq_true_eq] at this
        simp at this
        omega
      have ho : (orL out (first.getD x.f1.toNat [])).length = nt + 1:=by rw [orL_length (by rw [h,hs.get hn]),h]
      split
      · exact bg_length em hs l _ hl.2 ho
      · exact ho
theorem okSym_tok {nn nt : Nat} {x : Sym} (h : okSym nn nt x = true) (hx : x.f0 = true) : 0 ≤ x.f1 ∧ x.f1 < (nt : Int) := by
 simp only [okSym,hx,if_pos,Bool.and_eq_true,decide_eq_true_eq] at h;exact h
theorem okSym_rule {nn nt : Nat} {x : Sym} (h : okSym nn nt x = true) (hx : x.f0 = false) : 0 ≤ x.f1 ∧ x.f1 < (nn : Int) := by
 simp [okSym,hx] at h;exact h
theorem begins_l0_ev {nn nt : Nat} {em : List Bool} {first : List (List Bool)} (hs : Sh nn nt first) (he : em.length = nn) (hnt : nt ≤ 1000) : ∀ (l pre : List Sym) (out : List Bool),l.all (okSym nn nt) = true → out.length = nt + 1 → pre.length + l.length ≤ 1000000 → Ev (fun k => begins_l0 em first (pre ++ l) k out (pre.length : Int)) (bg em first l out)
  | [],pre,out,_,_,_ => Ev.step (fun k => by rw [begins_l0]) (Ev.neg (by simp) (Ev.some (by simp [bg])))
  | x :: l,pre,out,hl,ho,h3 => by
    simp only [List.all_cons,Bool.and_eq_true] at hl
    simp only [List.length_cons] at h3
    have ih:=fun out ho => begins_l0_ev hs he hnt l (pre ++ [x]) out hl.2 ho (by simp;omega)
    simp only [← wrap_next pre _ (show pre.length ≤ 1000000 by omega),List.append_assoc,List.singleton_append] at ih
    have e : rd_T53 (pre ++ x :: l) (pre.length : Int) = x:=getD_mid _ pre x l _ rfl
    refine Ev.step (fun k => by rw [begins_l0]) ?_
    rw [e]
    refine Ev.pos (by simp;omega) (Ev.pos (by omega) ?_)
    cases hx : x.f0 with
    | true =>
      have hb:=okSym_tok hl.1 hx
      exact Ev.pos rfl (Ev.pos hb.1 (Ev.pos (by omega) (Ev.some (by simp [bg,hx]))))
    | false =>
      have hb:=okSym_rule hl.1 hx
      have hr:=hs.get (i:=x.f1.toNat) (by omega)
      have hs1:=hs.1
      refine Ev.neg (by simp) (Ev.pos hb.1 (Ev.pos (by omega) (Ev.bind (add_ev out _ (by rw [ho,hr]) (by omega)) (Ev.pos (by omega) ?_))))
      have e2 : rdOf false em x.f1 = em.getD x.f1.toNat false:=rfl
      rw [e2]
      cases hem : em.getD x.f1.toNat false with
      | true => exact Ev.pos rfl (Ev.val (ih _ (by rw [orL_length (by rw [ho,hr]),ho])) (by rw [bg,hx,if_neg (by simp),hem,if_pos rfl]))
      | false => exact Ev.neg (by simp) (Ev.some (by rw [bg,hx,if_neg (by simp),hem,if_neg (by simp)]))
def none0 (nt : Nat) : List Bool:=List.replicate (nt + 1) false
theorem begins_ev {nn nt : Nat} {em : List Bool} {first : List (List Bool)} (hs : Sh nn nt first) (he : em.length = nn) (hnt : nt ≤ 1000) (l : List Sym) (hl : l.all (okSym nn nt) = true) (h3 : l.length ≤ 1000000) : Ev (fun k => begins_f k nt em first l) (bg em first l (none0 nt)) := by
 have h:=begins_l0_ev hs he hnt l [] (List.replicate (nt + 1) false) hl (by simp) (by simpa using h3)
 exact Ev.congr (fun k => by rw [begins_f,if_pos (by omega)]) (by simpa [none0] using h)
theorem refBegins_l0_ev {nn nt : Nat} {em : List Bool} {first : List (List Bool)} (hs : Sh nn nt first) (he : em.length = nn) (hnt : nt ≤ 1000) : ∀ (l pre : List Sym) (out : List Bool),l.all (okSym nn nt) = true → out.length = nt + 1 → pre.length + l.length ≤ 1000000 → Ev (fun k => regletref13_begins.l0 k (pre ++ l) first em out (pre.length : Int)) (bg em first l out)
  | [],pre,out,_,_,_ => Ev.step (fun k => by rw [regletref13_begins.l0]) (Ev.neg (by simp) (Ev.some (by simp [bg])))
  | x :: l,pre,out,hl,ho,h3 => by
    simp only [List.all_cons,Bool.and_eq_true] at hl
    simp only [List.length_cons] at h3
    have ih:=fun out ho => refBegins_l0_ev hs he hnt l (pre ++ [x]) out hl.2 ho (by simp;omega)
    simp only [← wrap_next pre _ (show pre.length ≤ 1000000 by omega),List.append_assoc,List.singleton_append] at ih
    have e : rd_T53 (pre ++ x :: l) (pre.length : Int) = x:=getD_mid _ pre x l _ rfl
    refine Ev.step (fun k => by rw [regletref13_begins.l0]) ?_
    rw [e]
    refine Ev.pos (by simp;omega) (Ev.pos (by omega) ?_)
    cases hx : x.f0 with
    | true =>
      have hb:=okSym_tok hl.1 hx
      exact Ev.pos rfl (Ev.pos hb.1 (Ev.pos (by omega) (Ev.some (by simp [bg,hx]))))
    | false =>
      have hb:=okSym_rule hl.1 hx
      have hr:=hs.get (i:=x.f1.toNat) (by omega)
      have hs1:=hs.1
      refine Ev.neg (by simp) (Ev.pos hb.1 (Ev.pos (by omega) (Ev.bind (join_ev out (first.getD x.f1.toNat []) (by rw [ho,hr]) (by omega)) (Ev.pos (by omega) ?_))))
      have e2 : rdOf false em x.f1 = em.getD x.f1.toNat false:=rfl
      rw [e2]
      cases hem : em.getD x.f1.toNat false with
      | true => exact Ev.pos rfl (Ev.val (ih _ (by rw [orL_length (by rw [ho,hr]),ho])) (by rw [bg,hx,if_neg (by simp),hem,if_pos rfl]))
      | false => exact Ev.neg (by simp) (Ev.some (by rw [bg,hx,if_neg (by simp),hem,if_neg (by simp)]))
theorem refBegins_ev {nn : Nat} (l0 : List ByteArray) (l1 : List Tok) (a2 a3 : Int) (l4 : List Prod) {em : List Bool} {first : List (List Bool)} (hs : Sh nn l1.length first) (he : em.length = nn) (hnt : l1.length ≤ 1000) (l : List Sym) (hl : l.all (okSym nn l1.length) = true) (h3 : l.length ≤ 1000000) : Ev (fun k => regletref13_begins.f k l0 l1 a2 a3 l4 l first em) (bg em first l (none0 l1.length)) := by
 have h:=refBegins_l0_ev hs he hnt l [] (List.replicate (l1.length + 1) false) hl (by simp) (by simpa using h3)
 have e : wrap64 ((l1.length : Int) + 1) = ((l1.length + 1 : Nat) : Int) := by rw [wrap64_id (by omega) (by omega)];simp
 refine Ev.congr (fun k => by rw [regletref13_begins.f,e,if_pos (by omega),if_pos (by omega),Int.toNat_natCast]) (by simpa [none0] using h)
def gIn {σ : Type} (stp : σ → Prod → Bool × σ) : List Prod → Bool → σ → Bool × σ
  | [],ag,st => (ag,st)
  | p :: ps,ag,st => gIn stp ps ((stp st p).1 || ag) (stp st p).2
def gOut {σ : Type} (stp : σ → Prod → Bool × σ) (ps : List Prod) : Nat → σ → σ
  | 0,st => (gIn stp ps false st).2
  | n + 1,st => if (gIn stp ps false st).1 = true then gOut stp ps n (gIn stp ps false st).2 else (gIn stp ps false st).2
def Good {σ : Type} (I : σ → Prop) (μ : σ → Nat) (stp : σ → Prod → Bool × σ) (ps : List Prod) : Prop :=
  ∀ st p,I st → p ∈ ps → I (stp st p).2 ∧ μ (stp st p).2 ≤ μ st ∧ ((stp st p).1 = true → μ (stp st p).2 < μ st)
theorem gIn_good {σ : Type} {I : σ → Prop} {μ : σ → Nat} {stp : σ → Prod → Bool × σ} : ∀ {ps : List Prod},Good I μ stp ps → ∀ (ag : Bool) (st : σ),I st → I (gIn stp ps ag st).2 ∧ μ (gIn stp ps ag st).2 ≤ μ st ∧ ((gIn stp ps ag st).1 = true → ag = true ∨ μ (gIn stp ps ag st).2 < μ st)
  | [],_,ag,st,h => ⟨h,Nat.le_refl _,fun h => .inl h⟩
  | p :: ps,hg,ag,st,h => by
    obtain ⟨h1,h2,h3⟩ := hg st p h List.mem_cons_self
    obtain ⟨h4,h5,h6⟩ := gIn_good (fun st p hI hp => hg st p hI (List.mem_cons_of_mem _ hp)) ((stp st p).1 || ag) _ h1
    refine ⟨h4,Nat.le_trans h5 h2,fun h => ?_⟩
    rcases h6 h with h7 | h7
    · rcases (Bool.or_eq_true _ _).mp h7 with h8 | h8
      · exact .inr (Nat.lt_of_le_of_lt h5 (h3 h8))
      · exact .inl h8
    · exact .inr (Nat.lt_of_lt_of_le h7 h2)
theorem gOut_I {σ : Type} {I : σ → Prop} {μ : σ → Nat} {stp : σ → Prod → Bool × σ} {ps : List Prod} (hg : Good I μ stp ps) : ∀ (n : Nat) (st : σ),I st → I (gOut stp ps n st)
  | 0,st,h => (gIn_good hg false st h).1
  | n + 1,st,h => by
    unfold gOut
    split
    · exact gOut_I hg n _ (gIn_good hg false st h).1
    · exact (gIn_good hg false st h).1
theorem growIn_ev {σ : Type} {I : σ → Prop} {μ : σ → Nat} {stp : σ → Prod → Bool × σ} {f : Nat → σ → Prod → Option (Bool × σ)} : ∀ {ps : List Prod},Good I μ stp ps → (∀ st p,I st → p ∈ ps → Ev (fun k => f k st p) (stp st p)) → ∀ (ag : Bool) (st : σ),I st → Ev (fun k => growIn (f k) ps ag st) (gIn stp ps ag st)
  | [],_,_,ag,st,_ => Ev.congr (fun k => by rw [growIn]) (Ev.some (by rw [gIn]))
  | p :: ps,hg,hf,ag,st,h => by
    refine Ev.congr (fun k => by rw [growIn]) (Ev.bind (hf st p h List.mem_cons_self) ?_)
    exact Ev.val (growIn_ev (fun st p hI hp => hg st p hI (List.mem_cons_of_mem _ hp)) (fun st p hI hp => hf st p hI (List.mem_cons_of_mem _ hp)) _ _ (hg st p h List.mem_cons_self).1) (by rw [gIn])
theorem out_ev {σ : Type} {I : σ → Prop} {μ : σ → Nat} {stp : σ → Prod → Bool × σ} {ps : List Prod} (hg : Good I μ stp ps) (g : Nat → Nat → σ → Option σ) (b : Nat → σ → Option (Bool × σ)) (hb : ∀ st,I st → Ev (fun k => b k st) (gIn stp ps false st))
    (hgs : ∀ kk k st,g kk (k + 1) st = (b kk st).bind fun r => if r.1 = true then g kk k r.2 else some r.2) : ∀ (n : Nat) (st : σ),I st → μ st ≤ n → ∃ K,∀ kk,K ≤ kk → ∀ k,K ≤ k → g kk k st = some (gOut stp ps n st)
  | n,st,h,hn => by
    obtain ⟨K1,hK1⟩ := hb st h
    obtain ⟨h1,h2,h3⟩ := gIn_good hg false st h
    cases hr : (gIn stp ps false st).1 with
    | false =>
      refine ⟨K1 + 1,fun kk hkk k hk => ?_⟩
      obtain ⟨k',rfl⟩ : ∃ k',k = k' + 1:=⟨k - 1,by omega⟩
      rw [hgs,show b kk st = _ from hK1 kk (by omega)]
      simp only [Option.bind_some,hr]
      cases n <;> simp [gOut,hr]
    | true =>
      have hlt : μ (gIn stp ps false st).2 < μ st:=(h3 hr).resolve_left (by simp)
      cases n with
      | zero => omega
      | succ n =>
        obtain ⟨K2,hK2⟩ := out_ev hg g b hb hgs n _ h1 (by omega)
        refine ⟨max K1 K2 + 1,fun kk hkk k hk => ?_⟩
        obtain ⟨k',rfl⟩ : ∃ k',k = k' + 1:=⟨k - 1,by omega⟩
        rw [hgs,show b kk st = _ from hK1 kk (by omega)]
        simp only [Option.bind_some,hr,if_true]
        rw [hK2 kk (by omega) k' (by omega),gOut,if_pos hr]
theorem growOut_ev {σ : Type} {I : σ → Prop} {μ : σ → Nat} {stp : σ → Prod → Bool × σ} {ps : List Prod} (hg : Good I μ stp ps) (f : Nat → σ → Prod → Option (Bool × σ)) (hf : ∀ st p,I st → p ∈ ps → Ev (fun k => f k st p) (stp st p)) (n : Nat) (st : σ) (h : I st) (hn : μ st ≤ n) : Ev (fun k => growOut (f k) ps k st) (gOut stp ps n st) := by
 obtain ⟨K,hK⟩ := out_ev hg (fun kk k st => growOut (f kk) ps k st) (fun kk st => growIn (f kk) ps false st) (fun st h => growIn_ev hg hf false st h) (fun kk k st => by rw [growOut]) n st h hn
 exact ⟨K,fun k hk => hK k hk k hk⟩
def cf : List Bool → Nat
  | [] => 0
  | x :: a => (if x = true then 0 else 1) + cf a
theorem cf_orL : ∀ (a b : List Bool),a.length = b.length → cf (orL a b) ≤ cf a ∧ (moreL a b = true → cf (orL a b) < cf a)
  | [],[],_ => by simp [orL,cf,moreL]
  | x :: a,y :: b,h => by
    obtain ⟨h1,h2⟩ := cf_orL a b (by simpa using h)
    have e : orL (x :: a) (y :: b) = (x || y) :: orL a b:=rfl
    rw [e]
    cases x <;> cases y <;> simp [cf,moreL] <;> first | exact ⟨h1,h2⟩ | (refine ⟨by omega,fun h => ?_⟩;have:=h2 h;omega) | omega
theorem cf_set : ∀ (a : List Bool) (i : Nat),i < a.length → a.getD i false = false → cf (a.set i true) < cf a
  | x :: a,0,_,h => by
    have : x = false:=by simpa using h
    subst this;simp [cf]
  | x :: a,i + 1,hi,h => by
    have:=cf_set a i (by simpa using hi) (by simpa using h)
    simp only [List.set_cons_succ,cf];omega
def cfs : List (List Bool) → Nat
  | [] => 0
  | r :: m => cf r + cfs m
theorem cfs_set : ∀ (m : List (List Bool)) (i : Nat) (r : List Bool),i < m.length → cf r ≤ cf (m.getD i []) → cfs (m.set i r) ≤ cfs m ∧ (cf r < cf (m.getD i []) → cfs (m.set i r) < cfs m)
  | x :: m,0,r,_,h => by
    simp only [List.getD_cons_zero,List.set_cons_zero,cfs] at h ⊢
    omega
  | x :: m,i + 1,r,hi,h => by
    have:=cfs_set m i r (by simpa using hi) (by simpa using h)
    simp only [List.getD_cons_succ,List.set_cons_succ,cfs] at h ⊢
    omega
def Small (ps : List Prod) : Prop:=ps.length ≤ 1000000 ∧ ∀ p ∈ ps,p.f1.length ≤ 1000000
theorem firstsRight_val (l0 : List ByteArray) (l1 : List Tok) (a2 a3 : Int) (l4 : List Prod) (h : Small l4) : firsts_Right.f l0 l1 a2 a3 l4 = some (l4.all (okProd l0.length l1.length)) := by
 unfold firsts_Right.f
 rw [if_pos ⟨by have:=h.1;omega,by rw [List.all_eq_true];intro p hp;have:=h.2 p hp;exact decide_eq_true (by omega)⟩]
theorem refRight_l1_ev (l0 : List ByteArray) (l1 : List Tok) (a2 a3 : Int) (l4 : List Prod) (x3 left : Int) (r : Bool) : ∀ (l pre : List Sym),pre.length + l.length ≤ 1000000 → (l.all (okSym l0.length l1.length) = true → Ev (fun k => regletref13_Right.l0 k (wrap64 (x3 + 1)) l0 l1 a2 a3 l4) r) → (l.all (okSym l0.length l1.length) = false → r = false) → Ev (fun k => regletref13_Right.l1 k x3 (pre.length : Int) l0 l1 a2 a3 l4 left (pre ++ l)) r
  | [],pre,_,h1,_ => Ev.step (fun k => by rw [regletref13_Right.l1]) (Ev.neg (by simp) (h1 rfl))
  | x :: l,pre,h3,h1,h2 => by
    simp only [List.length_cons] at h3
    have ih:=refRight_l1_ev l0 l1 a2 a3 l4 x3 left r l (pre ++ [x]) (by simp;omega)
    simp only [← wrap_next pre _ (show pre.length ≤ 1000000 by omega),List.append_assoc,List.singleton_append] at ih
    have e : rd_T53 (pre ++ x :: l) (pre.length : Int) = x:=getD_mid _ pre x l _ rfl
    refine Ev.step (fun k => by rw [regletref13_Right.l1]) ?_
    rw [e]
    refine Ev.pos (by simp;omega) (Ev.pos (by omega) ?_)
    cases hx : x.f0 with
    | true =>
      refine Ev.pos rfl ?_
      by_cases h0 : x.f1 < 0
      · exact Ev.pos h0 (Ev.some (h2 (by simp [okSym,hx];omega)).symm)
      · refine Ev.neg h0 ?_
        by_cases h5 : x.f1 ≥ (l1.length : Int)
        · exact Ev.pos h5 (Ev.some (h2 (by simp [okSym,hx];omega)).symm)
        · refine Ev.neg h5 (ih (fun h => h1 ?_) (fun h => h2 ?_))
          · simp [okSym,hx, -List.all_eq_true] ;exact ⟨by omega,h⟩
          · rw [List.all_cons,h,Bool.and_false]
    | false =>
      refine Ev.neg (by simp) ?_
      by_cases h0 : x.f1 < 0
      · exact Ev.pos h0 (Ev.some (h2 (by simp [okSym,hx];omega)).symm)
      · refine Ev.neg h0 ?_
        by_cases h5 : x.f1 ≥ (l0.length : Int)
        · exact Ev.pos h5 (Ev.some (h2 (by simp [okSym,hx];omega)).symm)
        · refine Ev.neg h5 (ih (fun h => h1 ?_) (fun h => h2 ?_))
          · simp [okSym,hx, -List.all_eq_true] ;exact ⟨by omega,h⟩
          · rw [List.all_cons,h,Bool.and_false]
theorem refRight_l0_ev (l0 : List ByteArray) (l1 : List Tok) (a2 a3 : Int) : ∀ (qs pre : List Prod),pre.length + qs.length ≤ 1000000 → (∀ p ∈ qs,p.f1.length ≤ 1000000) → Ev (fun k => regletref13_Right.l0 k (pre.length : Int) l0 l1 a2 a3 (pre ++ qs)) (qs.all (okProd l0.length l1.length))
  | [],pre,_,_ => Ev.step (fun k => by rw [regletref13_Right.l0]) (Ev.neg (by simp) (Ev.some (by simp)))
  | p :: qs,pre,h3,h4 => by
    simp only [List.length_cons] at h3
    have ih:=refRight_l0_ev l0 l1 a2 a3 qs (pre ++ [p]) (by simp;omega) (fun p hp => h4 p (List.mem_cons_of_mem _ hp))
    simp only [← wrap_next pre _ (show pre.length ≤ 1000000 by omega),List.append_assoc,List.singleton_append] at ih
    have e : rd_T30 (pre ++ p :: qs) (pre.length : Int) = p:=getD_mid _ pre p qs _ rfl
    refine Ev.step (fun k => by rw [regletref13_Right.l0]) ?_
    rw [e]
    refine Ev.pos (by simp;omega) (Ev.pos (by omega) ?_)
    by_cases h0 : p.f0 < 0
    · refine Ev.pos h0 (Ev.step (fun k => by rw [regletref13_Right.j1]) (Ev.pos rfl (Ev.some ?_)))
      simp [okProd];omega
    · refine Ev.neg h0 (Ev.step (fun k => by rw [regletref13_Right.j1]) ?_)
      by_cases h5 : p.f0 ≥ (l0.length : Int)
      · refine Ev.pos (decide_eq_true h5) (Ev.some ?_)
        simp [okProd];omega
      · refine Ev.neg (by simpa using h5) ?_
        have h:=refRight_l1_ev l0 l1 a2 a3 (pre ++ p :: qs) (pre.length : Int) p.f0 ((p :: qs).all (okProd l0.length l1.length)) p.f1 [] (by have:=h4 p List.mem_cons_self;simpa using this) (fun h => Ev.val ih (by
            have : okProd l0.length l1.length p = true:=by simp only [okProd,h,Bool.and_true,Bool.and_eq_true,decide_eq_true_eq];omega
            rw [List.all_cons,this,Bool.true_and])) (fun h => by
            have : okProd l0.length l1.length p = false:=by simp only [okProd,h,Bool.and_false]
            rw [List.all_cons,this,Bool.false_and])
        simpa only [List.nil_append,List.length_nil,Int.natCast_zero] using h
theorem refRight_ev (l0 : List ByteArray) (l1 : List Tok) (a2 a3 : Int) (l4 : List Prod) (h : Small l4) : Ev (fun k => regletref13_Right.f k l0 l1 a2 a3 l4) (l4.all (okProd l0.length l1.length)) :=
  Ev.congr (fun k => by rw [regletref13_Right.f]) (by simpa only [List.nil_append,List.length_nil,Int.natCast_zero] using refRight_l0_ev l0 l1 a2 a3 l4 [] (by have:=h.1;simpa using this) h.2)
def cNew (token : Bool) (out : List Bool) (p : Prod) : Bool := !(p.f1.any (oddP token out)) && !(out.getD p.f0.toNat false)
def cStep (token : Bool) (out : List Bool) (p : Prod) : Bool × List Bool:=(cNew token out p,if cNew token out p = true then out.set p.f0.toNat true else out)
theorem closedStep_val (token : Bool) (out : List Bool) (p : Prod) : closedStep token out p = some (cStep token out p) := by
 have e : rdOf false out p.f0 = out.getD p.f0.toNat false:=rfl
 unfold closedStep cStep cNew
 rw [e]
 cases out.getD p.f0.toNat false <;> cases p.f1.any (oddP token out) <;> rfl
theorem okProd_left {nn nt : Nat} {p : Prod} (h : okProd nn nt p = true) : 0 ≤ p.f0 ∧ p.f0 < (nn : Int) := by
 simp only [okProd,Bool.and_eq_true,decide_eq_true_eq] at h;exact h.1
theorem okProd_right {nn nt : Nat} {p : Prod} (h : okProd nn nt p = true) : p.f1.all (okSym nn nt) = true:=by
 simp only [okProd,Bool.and_eq_true,decide_eq_true_eq] at h;exact h.2
theorem cStep_good (nn nt : Nat) (token : Bool) {ps : List Prod} (hps : ps.all (okProd nn nt) = true) : Good (fun out : List Bool => out.length = nn) cf (cStep token) ps:=by
 intro st p hI hp
 have hl:=okProd_left (List.all_eq_true.1 hps p hp)
 unfold cStep
 simp only
 cases hc : cNew token st p with
 | false => simp [hI]
 | true =>
  have h0 : st.getD p.f0.toNat false = false:=by
   simp only [cNew,Bool.and_eq_true,Bool.not_eq_true'] at hc;exact hc.2
  have h:=cf_set st p.f0.toNat (by omega) h0
  simp only [if_true]
  exact ⟨by simpa using hI,Nat.le_of_lt h,fun _ => h⟩
def clo (token : Bool) (nn : Nat) (ps : List Prod) : List Bool:=gOut (cStep token) ps (cf (List.replicate nn false)) (List.replicate nn false)
theorem clo_length (nn nt : Nat) (token : Bool) {ps : List Prod} (hps : ps.all (okProd nn nt) = true) : (clo token nn ps).length = nn :=
  gOut_I (cStep_good nn nt token hps) _ _ (by simp)
theorem closed_ev (l0 : List ByteArray) (l1 : List Tok) (a2 a3 : Int) (l4 : List Prod) (h : Small l4) (hn : l0.length ≤ 1000000) (token : Bool) : Ev (fun k => firsts_closed.f k l0 l1 a2 a3 l4 token) (if l4.all (okProd l0.length l1.length) = true then clo token l0.length l4 else []) := by
 refine Ev.congr (fun k => by rw [firsts_closed.f]) (Ev.bind0 (firstsRight_val l0 l1 a2 a3 l4 h) ?_)
 cases hr : l4.all (okProd l0.length l1.length) with
 | false => exact Ev.neg (by simp) (Ev.some (by simp))
 | true =>
  rw [if_pos rfl]
  refine Ev.pos rfl (Ev.pos (by omega) ?_)
  exact growOut_ev (cStep_good l0.length l1.length token hr) (fun _ => closedStep token) (fun st p _ _ => Ev.some' (closedStep_val token st p)) _ _ (by simp) (Nat.le_refl _)
theorem any_step (token : Bool) (out : List Bool) (x : Sym) (l : List Sym) (is : Bool) : (is && !((x :: l).any (oddP token out))) = ((is && !(oddP token out x)) && !(l.any (oddP token out))) := by
 cases is <;> simp
theorem empty_ev (l0 : List ByteArray) (l1 : List Tok) (a2 a3 : Int) (l4 : List Prod) (h : Small l4) (hn : l0.length ≤ 1000000) : Ev (fun k => firsts_Empty.f k l0 l1 a2 a3 l4) (if l4.all (okProd l0.length l1.length) = true then clo false l0.length l4 else []) :=
  Ev.congr (fun k => by rw [firsts_Empty.f]) (Ev.bind (closed_ev l0 l1 a2 a3 l4 h hn false) (Ev.some rfl))
theorem refEmpty_l2_ev (l0 : List ByteArray) (l1 : List Tok) (a2 a3 : Int) (l4 : List Prod) (out : List Bool) (more : Bool) (x5 left : Int) (hl0 : 0 ≤ left) (hl1 : left < (out.length : Int)) (h50 : 0 ≤ x5) (h51 : x5 < (l4.length : Int)) (r : List Bool) : ∀ (l pre : List Sym) (is : Bool),rd_T30 l4 x5 = ⟨left,pre ++ l⟩ → l.all (okSym out.length l1.length) = true → pre.length + l.length ≤ 1000000 →
    Ev (fun k => regletref13_Empty.l1 k (if ((is && !(l.any (oddP false out))) && !(out.getD left.toNat false)) = true then out.set left.toNat true else out) (((is && !(l.any (oddP false out))) && !(out.getD left.toNat false)) || more) (wrap64 (x5 + 1)) l0 l1 a2 a3 l4) r → Ev (fun k => regletref13_Empty.l2 k out more x5 is (pre.length : Int) l0 l1 a2 a3 l4) r
  | [],pre,is,e,_,_,hk => by
    refine Ev.step (fun k => by rw [regletref13_Empty.l2]) ?_
    rw [e]
    have e2 : rdOf false out left = out.getD left.toNat false:=rfl
    refine Ev.pos h50 (Ev.pos h51 (Ev.neg (by simp) ?_))
    rw [e2]
    cases is with
    | false => exact Ev.neg (by simp) (by simpa using hk)
    | true =>
      refine Ev.pos rfl (Ev.pos hl0 (Ev.pos hl1 ?_))
      cases ho : out.getD left.toNat false with
      | true => exact Ev.pos rfl (by rw [ho] at hk;simpa using hk)
      | false => exact Ev.neg (by simp) (by rw [ho] at hk;simpa using hk)
  | x :: l,pre,is,e,hok,h3,hk => by
    simp only [List.length_cons] at h3
    simp only [List.all_cons,Bool.and_eq_true] at hok
    have ih:=fun is => refEmpty_l2_ev l0 l1 a2 a3 l4 out more x5 left hl0 hl1 h50 h51 r l (pre ++ [x]) is (by rw [List.append_assoc];exact e) hok.2 (by simp;omega)
    simp only [← wrap_next pre _ (show pre.length ≤ 1000000 by omega)] at ih
    rw [any_step] at hk
    have e1 : rd_T53 (pre ++ x :: l) (pre.length : Int) = x:=getD_mid _ pre x l _ rfl
    refine Ev.step (fun k => by rw [regletref13_Empty.l2]) ?_
    rw [e]
    simp only [e1]
    refine Ev.pos h50 (Ev.pos h51 (Ev.pos (by simp;omega) (Ev.pos (by omega) ?_)))
    cases is with
    | false => exact Ev.neg (by simp) (ih false (by rw [Bool.false_and] at hk;exact hk))
    | true =>
      refine Ev.pos rfl ?_
      have hb:=hok.1
      cases hx : x.f0 with
      | true =>
        have ho : oddP false out x = true:=by simp [oddP,hx]
        rw [ho] at hk
        exact Ev.pos rfl (ih false hk)
      | false =>
        have hb:=okSym_rule hok.1 hx
        have ho : (true && !oddP false out x) = rdOf false out x.f1:=by simp [oddP,hx]
        rw [ho] at hk
        exact Ev.neg (by simp) (Ev.pos hb.1 (Ev.pos hb.2 (ih _ hk)))
theorem refEmpty_l1_ev (l0 : List ByteArray) (l1 : List Tok) (a2 a3 : Int) (r : List Bool) : ∀ (qs pre : List Prod) (out : List Bool) (more : Bool),out.length = l0.length → qs.all (okProd l0.length l1.length) = true → pre.length + qs.length ≤ 1000000 → (∀ p ∈ qs,p.f1.length ≤ 1000000) → Ev (fun k => regletref13_Empty.l0 k (gIn (cStep false) qs more out).2 (gIn (cStep false) qs more out).1 l0 l1 a2 a3 (pre ++ qs)) r → Ev (fun k => regletref13_Empty.l1 k out more (pre.length : Int) l0 l1 a2 a3 (pre ++ qs)) r
  | [],pre,out,more,_,_,_,_,hk => Ev.step (fun k => by rw [regletref13_Empty.l1]) (Ev.neg (by simp) (by simpa [gIn] using hk))
  | p :: qs,pre,out,more,ho,hok,h3,h4,hk => by
    simp only [List.length_cons] at h3
    simp only [List.all_cons,Bool.and_eq_true] at hok
    have ih:=fun out more ho => refEmpty_l1_ev l0 l1 a2 a3 r qs (pre ++ [p]) out more ho hok.2 (by simp;omega) (fun p hp => h4 p (List.mem_cons_of_mem _ hp))
    simp only [← wrap_next pre _ (show pre.length ≤ 1000000 by omega),List.append_assoc,List.singleton_append] at ih
    refine Ev.step (fun k => by rw [regletref13_Empty.l1]) (Ev.pos (by simp;omega) ?_)
    have hl:=okProd_left hok.1
    have e : rd_T30 (pre ++ p :: qs) (pre.length : Int) = ⟨p.f0,[] ++ p.f1⟩ := getD_mid _ pre p qs _ rfl
    have h:=refEmpty_l2_ev l0 l1 a2 a3 (pre ++ p :: qs) out more (pre.length : Int) p.f0 hl.1 (by omega) (by omega) (by simp;omega) r p.f1 [] true e (by rw [ho];exact okProd_right hok.1) (by have:=h4 p List.mem_cons_self;simpa using this)
    refine h ?_
    rw [gIn] at hk
    have hlen : (cStep false out p).2.length = l0.length:=by unfold cStep;simp only;split <;> simp [ho]
    have h2:=ih _ _ hlen hk
    have e2 : ((true && !(p.f1.any (oddP false out))) && !(out.getD p.f0.toNat false)) = cNew false out p:=by simp [cNew]
    rw [e2]
    exact h2
theorem refEmpty_l0_ev (l0 : List ByteArray) (l1 : List Tok) (a2 a3 : Int) (l4 : List Prod) (hs : Small l4) (hok : l4.all (okProd l0.length l1.length) = true) : ∀ (n : Nat) (out : List Bool),out.length = l0.length → cf out ≤ n → Ev (fun k => regletref13_Empty.l0 k out true l0 l1 a2 a3 l4) (gOut (cStep false) l4 n out)
  | n,out,ho,hn => by
    obtain ⟨h1,h2,h3⟩ := gIn_good (cStep_good l0.length l1.length false hok) false out ho
    refine Ev.step (fun k => by rw [regletref13_Empty.l0]) (Ev.pos rfl ?_)
    have h:=refEmpty_l1_ev l0 l1 a2 a3 (gOut (cStep false) l4 n out) l4 [] out false ho hok (by have:=hs.1;simpa using this) hs.2
    simp only [List.nil_append,List.length_nil,Int.natCast_zero] at h
    refine h ?_
    cases hr : (gIn (cStep false) l4 false out).1 with
    | false =>
      refine Ev.step (fun k => by rw [regletref13_Empty.l0]) (Ev.neg (by simp) (Ev.some ?_))
      cases n <;> simp [gOut,hr]
    | true =>
      have hlt:=(h3 hr).resolve_left (by simp)
      cases n with
      | zero => omega
      | succ n =>
        refine Ev.val (refEmpty_l0_ev l0 l1 a2 a3 l4 hs hok n _ h1 (by omega)) ?_
        rw [gOut,if_pos hr]
theorem refEmpty_ev (l0 : List ByteArray) (l1 : List Tok) (a2 a3 : Int) (l4 : List Prod) (h : Small l4) (hn : l0.length ≤ 1000000) : Ev (fun k => regletref13_Empty.f k l0 l1 a2 a3 l4) (if l4.all (okProd l0.length l1.length) = true then clo false l0.length l4 else []) := by
 refine Ev.congr (fun k => by rw [regletref13_Empty.f]) (Ev.bind (refRight_ev l0 l1 a2 a3 l4 h) ?_)
 cases hr : l4.all (okProd l0.length l1.length) with
 | false => exact Ev.neg (by simp) (Ev.some (by simp))
 | true =>
  rw [if_pos rfl]
  refine Ev.pos rfl (Ev.pos (by omega) (Ev.pos (by omega) ?_))
  rw [Int.toNat_natCast]
  exact refEmpty_l0_ev l0 l1 a2 a3 l4 h hr _ _ (by simp) (Nat.le_refl _)
def rows0 (nn nt : Nat) : List (List Bool) := List.replicate nn (none0 nt)
theorem rows0_sh (nn nt : Nat) : Sh nn nt (rows0 nn nt) := ⟨by simp [rows0],fun r hr => by rw [List.eq_of_mem_replicate hr];simp [none0]⟩
theorem marks_l0_ev (l0 : List ByteArray) (l1 : List Tok) (a2 a3 : Int) (l4 : List Prod) (h0 : l0.length ≤ 1000000) (h1 : l1.length ≤ 1000000) : ∀ (n : Nat) (out : List (List Bool)),out.length + n = l0.length → Ev (fun k => regletref13_marks.l0 k out (out.length : Int) l0 l1 a2 a3 l4) (out ++ rows0 n l1.length)
  | 0,out,h => Ev.step (fun k => by rw [regletref13_marks.l0]) (Ev.neg (by omega) (Ev.some (by simp [rows0])))
  | n + 1,out,h => by
    have ih:=marks_l0_ev l0 l1 a2 a3 l4 h0 h1 n (out ++ [none0 l1.length]) (by simp;omega)
    rw [← wrap_next out _ (show out.length ≤ 1000000 by omega)] at ih
    have e : wrap64 ((l1.length : Int) + 1) = ((l1.length + 1 : Nat) : Int) := by rw [wrap64_id (by omega) (by omega)];simp
    refine Ev.step (fun k => by rw [regletref13_marks.l0,e]) (Ev.pos (by omega) (Ev.pos (by omega) (Ev.pos (by omega) (Ev.pos (by omega) ?_))))
    rw [Int.toNat_natCast]
    exact Ev.val ih (by simp [rows0,List.replicate_succ])
theorem marks_ev (l0 : List ByteArray) (l1 : List Tok) (a2 a3 : Int) (l4 : List Prod) (h0 : l0.length ≤ 1000000) (h1 : l1.length ≤ 1000000) : Ev (fun k => regletref13_marks.f k l0 l1 a2 a3 l4) (rows0 l0.length l1.length) :=
  Ev.congr (fun k => by rw [regletref13_marks.f]) (by simpa using marks_l0_ev l0 l1 a2 a3 l4 h0 h1 l0.length [] (by simp))
def sStep (nt : Nat) (em : List Bool) (m : List (List Bool)) (p : Prod) : Bool × List (List Bool) :=
  (moreL (m.getD p.f0.toNat []) (bg em m p.f1 (none0 nt)).1,m.set p.f0.toNat (orL (m.getD p.f0.toNat []) (bg em m p.f1 (none0 nt)).1))
theorem none0_length (nt : Nat) : (none0 nt).length = nt + 1:=by simp [none0]
theorem row_step {nn nt : Nat} {m : List (List Bool)} (hs : Sh nn nt m) {i : Nat} (hi : i < nn) {b : List Bool} (hb : b.length = nt + 1) : Sh nn nt (m.set i (orL (m.getD i []) b)) ∧ cfs (m.set i (orL (m.getD i []) b)) ≤ cfs m ∧ (moreL (m.getD i []) b = true → cfs (m.set i (orL (m.getD i []) b)) < cfs m) := by
 have hr:=hs.get hi
 have h1:=cf_orL (m.getD i []) b (by rw [hr,hb])
 have h2:=cfs_set m i (orL (m.getD i []) b) (by rw [hs.1];exact hi) h1.1
 exact ⟨hs.set i (by rw [orL_length (by rw [hr,hb]),hr]),h2.1,fun h => h2.2 (h1.2 h)⟩
theorem sStep_good {nn nt : Nat} (em : List Bool) {ps : List Prod} (hps : ps.all (okProd nn nt) = true) : Good (Sh nn nt) cfs (sStep nt em) ps:=by
 intro st p hI hp
 have hok:=List.all_eq_true.1 hps p hp
 have hl:=okProd_left hok
 exact row_step hI (by omega) (bg_length em hI p.f1 _ (okProd_right hok) (none0_length nt))
def fst (nn nt : Nat) (em : List Bool) (ps : List Prod) : List (List Bool) := gOut (sStep nt em) ps (cfs (rows0 nn nt)) (rows0 nn nt)
theorem fst_sh (nn nt : Nat) (em : List Bool) {ps : List Prod} (hps : ps.all (okProd nn nt) = true) : Sh nn nt (fst nn nt em ps) :=
  gOut_I (sStep_good em hps) _ _ (rows0_sh nn nt)
theorem studiedStep_ev {nn nt : Nat} {em : List Bool} (he : em.length = nn) (hnt : nt ≤ 1000) {m : List (List Bool)} (hs : Sh nn nt m) {p : Prod} (hok : okProd nn nt p = true) (h3 : p.f1.length ≤ 1000000) : Ev (fun k => studiedStep k nt em m p) (sStep nt em m p) := by
 have hl:=okProd_left hok
 have hs1:=hs.1
 have hb:=bg_length em hs p.f1 _ (okProd_right hok) (none0_length nt)
 have hr:=hs.get (i:=p.f0.toNat) (by omega)
 refine Ev.congr (fun k => by rw [studiedStep]) (Ev.bind (begins_ev hs he hnt p.f1 (okProd_right hok) h3) ?_)
 refine Ev.pos hl.1 (Ev.pos (by omega) ?_)
 exact Ev.bind (add_ev (m.getD p.f0.toNat []) (bg em m p.f1 (none0 nt)).1 (by rw [hr,hb]) (by omega)) (Ev.some rfl)
theorem studied_ev (l0 : List ByteArray) (l1 : List Tok) (a2 a3 : Int) (l4 : List Prod) (h : Small l4) (h0 : l0.length ≤ 1000000) (h1 : l1.length ≤ 1000) (hok : l4.all (okProd l0.length l1.length) = true) : Ev (fun k => studied_f k l0 l1 a2 a3 l4) (clo false l0.length l4,fst l0.length l1.length (clo false l0.length l4) l4) := by
 refine Ev.congr (fun k => by rw [studied_f,if_pos ⟨by omega,by omega,by have:=h.1;omega⟩]) (Ev.bind (Ev.val (empty_ev l0 l1 a2 a3 l4 h h0) (if_pos hok)) ?_)
 have he:=clo_length l0.length l1.length false hok
 refine Ev.bind (growOut_ev (sStep_good _ hok) (fun k => studiedStep k l1.length (clo false l0.length l4)) (fun st p hI hp => studiedStep_ev he h1 hI (List.all_eq_true.1 hok p hp) (h.2 p hp)) _ _ (rows0_sh l0.length l1.length) (Nat.le_refl _)) (Ev.some rfl)
theorem refFirst_l1_ev (l0 : List ByteArray) (l1 : List Tok) (a2 a3 : Int) (em : List Bool) (he : em.length = l0.length) (h1 : l1.length ≤ 1000) : ∀ (qs pre : List Prod) (m : List (List Bool)) (more : Bool),Sh l0.length l1.length m → qs.all (okProd l0.length l1.length) = true → pre.length + qs.length ≤ 1000000 → (∀ p ∈ qs,p.f1.length ≤ 1000000) → Ev (fun k => regletref13_first.l1 l0 l1 a2 a3 (pre ++ qs) k m em more (pre.length : Int)) (gIn (sStep l1.length em) qs more m)
  | [],pre,m,more,_,_,_,_ => Ev.step (fun k => by rw [regletref13_first.l1]) (Ev.neg (by simp) (Ev.some (by simp [gIn])))
  | p :: qs,pre,m,more,hs,hok,h3,h4 => by
    simp only [List.length_cons] at h3
    simp only [List.all_cons,Bool.and_eq_true] at hok
    have ih:=fun m more hs => refFirst_l1_ev l0 l1 a2 a3 em he h1 qs (pre ++ [p]) m more hs hok.2 (by simp;omega) (fun p hp => h4 p (List.mem_cons_of_mem _ hp))
    simp only [← wrap_next pre _ (show pre.length ≤ 1000000 by omega),List.append_assoc,List.singleton_append] at ih
    have hl:=okProd_left hok.1
    have hs1:=hs.1
    have hb:=bg_length em hs p.f1 _ (okProd_right hok.1) (none0_length l1.length)
    have hr:=hs.get (i:=p.f0.toNat) (by omega)
    have hg:=(sStep_good em (ps := [p]) (by simp [hok.1])) m p hs (by simp)
    have e : rd_T30 (pre ++ p :: qs) (pre.length : Int) = p:=getD_mid _ pre p qs _ rfl
    refine Ev.step (fun k => by rw [regletref13_first.l1]) ?_
    rw [e]
    refine Ev.pos (by simp;omega) (Ev.pos (by omega) (Ev.bind (refBegins_ev l0 l1 a2 a3 _ hs he h1 p.f1 (okProd_right hok.1) (h4 p List.mem_cons_self)) (Ev.pos hl.1 (Ev.pos (by omega) (Ev.bind (join_ev (m.getD p.f0.toNat []) (bg em m p.f1 (none0 l1.length)).1 (by rw [hr,hb]) (by omega)) ?_)))))
    refine Ev.val (ih _ _ hg.1) ?_
    rw [gIn]
    congr 1
    show (if (sStep l1.length em m p).1 = true then true else more) = _
    cases (sStep l1.length em m p).1 <;> rfl
theorem refFirst_l0_ev (l0 : List ByteArray) (l1 : List Tok) (a2 a3 : Int) (l4 : List Prod) (h : Small l4) (em : List Bool) (he : em.length = l0.length) (h1 : l1.length ≤ 1000) (hok : l4.all (okProd l0.length l1.length) = true) : ∀ (n : Nat) (m : List (List Bool)),Sh l0.length l1.length m → cfs m ≤ n → Ev (fun k => regletref13_first.l0 l0 l1 a2 a3 l4 k m em true) (gOut (sStep l1.length em) l4 n m)
  | n,m,hs,hn => by
    obtain ⟨g1,g2,g3⟩ := gIn_good (sStep_good em hok) false m hs
    have h5:=refFirst_l1_ev l0 l1 a2 a3 em he h1 l4 [] m false hs hok (by have:=h.1;simpa using this) h.2
    simp only [List.nil_append,List.length_nil,Int.natCast_zero] at h5
    refine Ev.step (fun k => by rw [regletref13_first.l0]) (Ev.pos rfl (Ev.bind h5 ?_))
    cases hr : (gIn (sStep l1.length em) l4 false m).1 with
    | false =>
      refine Ev.step (fun k => by rw [regletref13_first.l0]) (Ev.neg (by simp) (Ev.some ?_))
      cases n <;> simp [gOut,hr]
    | true =>
      have hlt:=(g3 hr).resolve_left (by simp)
      cases n with
      | zero => omega
      | succ n =>
        refine Ev.val (refFirst_l0_ev l0 l1 a2 a3 l4 h em he h1 hok n _ g1 (by omega)) ?_
        rw [gOut,if_pos hr]
theorem refFirst_ev (l0 : List ByteArray) (l1 : List Tok) (a2 a3 : Int) (l4 : List Prod) (h : Small l4) (h0 : l0.length ≤ 1000000) (h1 : l1.length ≤ 1000) (hok : l4.all (okProd l0.length l1.length) = true) : Ev (fun k => regletref13_first.f k l0 l1 a2 a3 l4) (fst l0.length l1.length (clo false l0.length l4) l4) := by
 refine Ev.congr (fun k => by rw [regletref13_first.f]) (Ev.bind (marks_ev l0 l1 a2 a3 l4 h0 (by omega)) (Ev.bind (Ev.val (refEmpty_ev l0 l1 a2 a3 l4 h h0) (if_pos hok)) ?_))
 exact refFirst_l0_ev l0 l1 a2 a3 l4 h _ (clo_length l0.length l1.length false hok) h1 hok _ _ (rows0_sh l0.length l1.length) (Nat.le_refl _)
theorem or_self : ∀ a : List Bool,orL a a = a
  | [] => rfl
  | x :: a => by show (x || x) :: orL a a = x :: a;rw [or_self a,Bool.or_self]
theorem more_self : ∀ a : List Bool,moreL a a = false
  | [] => rfl
  | x :: a => by show ((x && !x) || moreL a a) = false;rw [more_self a];cases x <;> rfl
theorem or_three : ∀ (a b c : List Bool),a.length = b.length → b.length = c.length → orL a (orL b c) = orL (orL a b) c ∧ moreL a (orL b c) = (moreL (orL a b) c || moreL a b)
  | [],[],[],_,_ => ⟨rfl,rfl⟩
  | x :: a,y :: b,z :: c,h1,h2 => by
    obtain ⟨h3,h4⟩ := or_three a b c (by simpa using h1) (by simpa using h2)
    constructor
    · show (x || (y || z)) :: orL a (orL b c) = (x || y || z) :: orL (orL a b) c
      rw [h3,Bool.or_assoc]
    · show (((y || z) && !x) || moreL a (orL b c)) = (((z && !(x || y)) || moreL (orL a b) c) || ((y && !x) || moreL a b))
      rw [h4]
      cases x <;> cases y <;> cases z <;> simp
theorem or_back : ∀ (a b : List Bool),a.length = b.length → orL a (orL b a) = orL a b ∧ moreL a (orL b a) = moreL a b
  | [],[],_ => ⟨rfl,rfl⟩
  | x :: a,y :: b,h1 => by
    obtain ⟨h3,h4⟩ := or_back a b (by simpa using h1)
    constructor
    · show (x || (y || x)) :: orL a (orL b a) = (x || y) :: orL a b
      rw [h3];cases x <;> cases y <;> rfl
    · show (((y || x) && !x) || moreL a (orL b a)) = ((y && !x) || moreL a b)
      rw [h4];cases x <;> cases y <;> rfl
def fAdd (nt : Nat) (em : List Bool) (first : List (List Bool)) (left : Nat) (ys : List Sym) (out : List (List Bool)) : List Bool :=
  if (bg em first ys (none0 nt)).2 = true then orL (bg em first ys (none0 nt)).1 (out.getD left []) else (bg em first ys (none0 nt)).1
def fIn (nt : Nat) (em : List Bool) (first : List (List Bool)) (left : Nat) : List Sym → Bool → List (List Bool) → Bool × List (List Bool)
  | [],g,out => (g,out)
  | y :: ys,g,out => if y.f0 = true then fIn nt em first left ys g out else
    fIn nt em first left ys (moreL (out.getD y.f1.toNat []) (fAdd nt em first left ys out) || g) (out.set y.f1.toNat (orL (out.getD y.f1.toNat []) (fAdd nt em first left ys out)))
def fStep (nt : Nat) (em : List Bool) (first : List (List Bool)) (out : List (List Bool)) (p : Prod) : Bool × List (List Bool) := fIn nt em first p.f0.toNat p.f1 false out
theorem fAdd_length {nn nt : Nat} (em : List Bool) {first out : List (List Bool)} (hf : Sh nn nt first) (hs : Sh nn nt out) {left : Nat} (hl : left < nn) {ys : List Sym} (hok : ys.all (okSym nn nt) = true) : (fAdd nt em first left ys out).length = nt + 1:=by
 have hb:=bg_length em hf ys _ hok (none0_length nt)
 unfold fAdd
 split
 · rw [orL_length (by rw [hb,hs.get hl]),hb]
 · exact hb
theorem fIn_good {nn nt : Nat} (em : List Bool) {first : List (List Bool)} (hf : Sh nn nt first) {left : Nat} (hl : left < nn) : ∀ (ys : List Sym) (g : Bool) (out : List (List Bool)),ys.all (okSym nn nt) = true → Sh nn nt out → Sh nn nt (fIn nt em first left ys g out).2 ∧ cfs (fIn nt em first left ys g out).2 ≤ cfs out ∧ ((fIn nt em first left ys g out).1 = true → g = true ∨ cfs (fIn nt em first left ys g out).2 < cfs out)
  | [],g,out,_,hs => ⟨hs,Nat.le_refl _,fun h => .inl h⟩
  | y :: ys,g,out,hok,hs => by
    simp only [List.all_cons,Bool.and_eq_true] at hok
    unfold fIn
    cases hy : y.f0 with
    | true => rw [if_pos rfl];exact fIn_good em hf hl ys g out hok.2 hs
    | false =>
      rw [if_neg (by simp)]
      have hb:=okSym_rule hok.1 hy
      obtain ⟨h1,h2,h3⟩ := row_step hs (i:=y.f1.toNat) (by omega) (fAdd_length em hf hs hl hok.2)
      obtain ⟨h4,h5,h6⟩ := fIn_good em hf hl ys (moreL (out.getD y.f1.toNat []) (fAdd nt em first left ys out) || g) _ hok.2 h1
      refine ⟨h4,Nat.le_trans h5 h2,fun h => ?_⟩
      rcases h6 h with h7 | h7
      · rcases (Bool.or_eq_true _ _).mp h7 with h8 | h8
        · exact .inr (Nat.lt_of_le_of_lt h5 (h3 h8))
        · exact .inl h8
      · exact .inr (Nat.lt_of_lt_of_le h7 h2)
theorem fStep_good {nn nt : Nat} (em : List Bool) {first : List (List Bool)} (hf : Sh nn nt first) {ps : List Prod} (hps : ps.all (okProd nn nt) = true) : Good (Sh nn nt) cfs (fStep nt em first) ps:=by
 intro st p hI hp
 have hok:=List.all_eq_true.1 hps p hp
 have hl:=okProd_left hok
 obtain ⟨h1,h2,h3⟩ := fIn_good em hf (left:=p.f0.toNat) (by omega) p.f1 false st (okProd_right hok) hI
 exact ⟨h1,h2,fun h => (h3 h).resolve_left (by simp)⟩
theorem followAdd_ev {nn nt : Nat} (hnt : nt ≤ 1000) {out : List (List Bool)} (hs : Sh nn nt out) {n : Int} (h0 : 0 ≤ n) (h1 : n < (nn : Int)) {l : List Bool} (hl : l.length = nt + 1) : Ev (fun k => followAdd k n l out) (moreL (out.getD n.toNat []) l,out.set n.toNat (orL (out.getD n.toNat []) l)) := by
 have hr:=hs.get (i:=n.toNat) (by omega)
 have hs1:=hs.1
 exact Ev.congr (fun k => by rw [followAdd]) (Ev.pos h0 (Ev.pos (by omega) (Ev.bind (add_ev _ _ (by rw [hr,hl]) (by omega)) (Ev.some rfl))))
theorem followIn_ev {nn nt : Nat} {em : List Bool} (he : em.length = nn) (hnt : nt ≤ 1000) {first : List (List Bool)} (hf : Sh nn nt first) {left : Int} (hl0 : 0 ≤ left) (hl1 : left < (nn : Int)) : ∀ (ys : List Sym) (g : Bool) (out : List (List Bool)),ys.all (okSym nn nt) = true → ys.length ≤ 1000000 → Sh nn nt out → Ev (fun k => followIn k nt em first left ys g out) (fIn nt em first left.toNat ys g out)
  | [],g,out,_,_,hs => Ev.congr (fun k => by rw [followIn]) (Ev.some (by rw [fIn]))
  | y :: ys,g,out,hok,h3,hs => by
    simp only [List.all_cons,Bool.and_eq_true] at hok
    simp only [List.length_cons] at h3
    refine Ev.congr (fun k => by rw [followIn]) ?_
    unfold fIn
    cases hy : y.f0 with
    | true => rw [if_pos rfl];exact Ev.pos rfl (followIn_ev he hnt hf hl0 hl1 ys g out hok.2 (by omega) hs)
    | false =>
      rw [if_neg (by simp)]
      have hb:=okSym_rule hok.1 hy
      have hbl:=bg_length em hf ys _ hok.2 (none0_length nt)
      have hn : y.f1.toNat < nn:=by omega
      have hrow:=hs.get hn
      obtain ⟨h1,_,_⟩ := row_step hs hn hbl
      obtain ⟨h1a,_,_⟩ := row_step hs hn (fAdd_length em hf hs (left:=left.toNat) (by omega) hok.2)
      refine Ev.neg (by simp) (Ev.bind (begins_ev hf he hnt ys hok.2 (by omega)) (Ev.bind (followAdd_ev hnt hs hb.1 hb.2 hbl) ?_))
      cases hem : (bg em first ys (none0 nt)).2 with
      | false =>
        have e : fAdd nt em first left.toNat ys out = (bg em first ys (none0 nt)).1:=by rw [fAdd,hem,if_neg (by simp)]
        rw [e] at h1a ⊢
        exact Ev.neg (by simp) (followIn_ev he hnt hf hl0 hl1 ys _ _ hok.2 (by omega) h1a)
      | true =>
        have e : fAdd nt em first left.toNat ys out = orL (bg em first ys (none0 nt)).1 (out.getD left.toNat []) := by rw [fAdd,hem,if_pos rfl]
        rw [e] at h1a ⊢
        have hs1:=h1.1
        have hlr:=hs.get (i:=left.toNat) (by omega)
        have hlr2:=h1.get (i:=left.toNat) (by omega)
        refine Ev.pos rfl (Ev.pos hl0 (Ev.pos (by simp only;rw [hs1];exact hl1) (Ev.bind (followAdd_ev hnt h1 hb.1 hb.2 hlr2) ?_)))
        have hrow2 : (out.set y.f1.toNat (orL (out.getD y.f1.toNat []) (bg em first ys (none0 nt)).1)).getD y.f1.toNat [] = orL (out.getD y.f1.toNat []) (bg em first ys (none0 nt)).1:=by
          rw [List.getD_eq_getElem?_getD,List.getElem?_set_self (by rw [hs.1];exact hn)];rfl
        by_cases hyl : y.f1.toNat = left.toNat
        · rw [← hyl] at h1a ⊢
          dsimp only
          rw [hrow2,or_self,more_self,List.set_set]
          obtain ⟨e1,e2⟩ := or_back (out.getD y.f1.toNat []) (bg em first ys (none0 nt)).1 (by rw [hrow,hbl])
          rw [e1] at h1a ⊢
          rw [e2]
          have hres:=followIn_ev he hnt hf hl0 hl1 ys (moreL (out.getD y.f1.toNat []) (bg em first ys (none0 nt)).1 || g) _ hok.2 (by omega) h1a
          rw [← hyl] at hres
          rw [Bool.false_or]
          exact hres
        · have hl2 : (out.set y.f1.toNat (orL (out.getD y.f1.toNat []) (bg em first ys (none0 nt)).1)).getD left.toNat [] = out.getD left.toNat [] := by
            rw [List.getD_eq_getElem?_getD,List.getElem?_set_ne hyl,List.getD_eq_getElem?_getD]
          dsimp only
          rw [hrow2,hl2,List.set_set]
          obtain ⟨e1,e2⟩ := or_three (out.getD y.f1.toNat []) (bg em first ys (none0 nt)).1 (out.getD left.toNat []) (by rw [hrow,hbl]) (by rw [hlr,hbl])
          rw [e1] at h1a ⊢
          rw [e2,Bool.or_assoc]
          exact followIn_ev he hnt hf hl0 hl1 ys _ _ hok.2 (by omega) h1a
def fol0 (nn nt : Nat) : List (List Bool) := if 0 < nn then (rows0 nn nt).set 0 ((none0 nt).set nt true) else []
theorem fol0_sh (nn nt : Nat) : Sh nn nt (fol0 nn nt) := by
 unfold fol0
 split
 · exact (rows0_sh nn nt).set 0 (by simp [none0_length])
 · obtain rfl : nn = 0:=by omega
   exact ⟨rfl,fun r hr => by simp at hr⟩
def fol (nn nt : Nat) (em : List Bool) (first : List (List Bool)) (ps : List Prod) : List (List Bool) := gOut (fStep nt em first) ps (cfs (fol0 nn nt)) (fol0 nn nt)
theorem fol_sh {nn nt : Nat} (em : List Bool) {first : List (List Bool)} (hf : Sh nn nt first) {ps : List Prod} (hps : ps.all (okProd nn nt) = true) : Sh nn nt (fol nn nt em first ps) :=
  gOut_I (fStep_good em hf hps) _ _ (fol0_sh nn nt)
theorem refFollowIn_ev (l0 : List ByteArray) (l1 : List Tok) (a2 a3 : Int) (l4 : List Prod) {em : List Bool} (he : em.length = l0.length) (hnt : l1.length ≤ 1000) {first : List (List Bool)} (hf : Sh l0.length l1.length first) {left : Int} (hl0 : 0 ≤ left) (hl1 : left < (l0.length : Int)) : ∀ (ys : List Sym) (g : Bool) (out : List (List Bool)),ys.all (okSym l0.length l1.length) = true → ys.length ≤ 1000000 → Sh l0.length l1.length out → Ev (fun k => rFollowIn k l0 l1 a2 a3 l4 first em left ys g out) (fIn l1.length em first left.toNat ys g out)
  | [],g,out,_,_,hs => Ev.congr (fun k => by rw [rFollowIn]) (Ev.some (by rw [fIn]))
  | y :: ys,g,out,hok,h3,hs => by
    simp only [List.all_cons,Bool.and_eq_true] at hok
    simp only [List.length_cons] at h3
    refine Ev.congr (fun k => by rw [rFollowIn]) ?_
    unfold fIn
    cases hy : y.f0 with
    | true => rw [if_pos rfl];exact Ev.pos rfl (refFollowIn_ev l0 l1 a2 a3 l4 he hnt hf hl0 hl1 ys g out hok.2 (by omega) hs)
    | false =>
      rw [if_neg (by simp)]
      have hb:=okSym_rule hok.1 hy
      have hbl:=bg_length em hf ys _ hok.2 (none0_length l1.length)
      have hn : y.f1.toNat < l0.length:=by omega
      have hrow:=hs.get hn
      have hs1:=hs.1
      have hfl:=fAdd_length em hf hs (left:=left.toNat) (by omega) hok.2
      obtain ⟨h1a,_,_⟩ := row_step hs hn hfl
      have hlr:=hs.get (i:=left.toNat) (by omega)
      refine Ev.neg (by simp) (Ev.bind (refBegins_ev l0 l1 a2 a3 l4 hf he hnt ys hok.2 (by omega)) ?_)
      refine Ev.bind (a:=fAdd l1.length em first left.toNat ys out) ?_ ?_
      · refine Ev.congr (fun k => by rw [rJoinFrom]) ?_
        unfold fAdd
        cases hem : (bg em first ys (none0 l1.length)).2 with
        | false => exact Ev.neg (by simp) (Ev.some (by simp))
        | true =>
          refine Ev.pos rfl (Ev.pos hl0 (Ev.pos (by omega) ?_))
          exact Ev.bind (join_ev _ _ (by rw [hbl,hlr]) (by omega)) (Ev.some (by simp))
      · refine Ev.bind (a:=(moreL (out.getD y.f1.toNat []) (fAdd l1.length em first left.toNat ys out),out.set y.f1.toNat (orL (out.getD y.f1.toNat []) (fAdd l1.length em first left.toNat ys out)))) ?_ ?_
        · refine Ev.congr (fun k => by rw [rJoinRow]) (Ev.pos hb.1 (Ev.pos (by omega) ?_))
          exact Ev.bind (join_ev _ _ (by rw [hrow,hfl]) (by omega)) (Ev.some rfl)
        · refine Ev.val (refFollowIn_ev l0 l1 a2 a3 l4 he hnt hf hl0 hl1 ys _ _ hok.2 (by omega) h1a) ?_
          congr 1
          cases moreL (out.getD y.f1.toNat []) (fAdd l1.length em first left.toNat ys out) <;> rfl
theorem fIn_more (nt : Nat) (em : List Bool) (first : List (List Bool)) (left : Nat) : ∀ (ys : List Sym) (g : Bool) (out : List (List Bool)),fIn nt em first left ys g out = ((fIn nt em first left ys false out).1 || g,(fIn nt em first left ys false out).2)
  | [],g,out => by simp [fIn]
  | y :: ys,g,out => by
    unfold fIn
    split
    · exact fIn_more nt em first left ys g out
    · rw [fIn_more nt em first left ys (_ || g),fIn_more nt em first left ys (_ || false)]
      simp [Bool.or_assoc]
theorem refFollowPs_ev (l0 : List ByteArray) (l1 : List Tok) (a2 a3 : Int) (l4 : List Prod) {em : List Bool} (he : em.length = l0.length) (hnt : l1.length ≤ 1000) {first : List (List Bool)} (hf : Sh l0.length l1.length first) : ∀ (qs : List Prod) (g : Bool) (out : List (List Bool)),qs.all (okProd l0.length l1.length) = true → (∀ p ∈ qs,p.f1.length ≤ 1000000) → Sh l0.length l1.length out → Ev (fun k => rFollowPs k l0 l1 a2 a3 l4 first em qs g out) (gIn (fStep l1.length em first) qs g out)
  | [],g,out,_,_,hs => Ev.congr (fun k => by rw [rFollowPs]) (Ev.some (by rw [gIn]))
  | p :: qs,g,out,hok,h3,hs => by
    simp only [List.all_cons,Bool.and_eq_true] at hok
    have hl:=okProd_left hok.1
    have hg:=fIn_good em hf (left:=p.f0.toNat) (by omega) p.f1 g out (okProd_right hok.1) hs
    refine Ev.congr (fun k => by rw [rFollowPs]) (Ev.bind (refFollowIn_ev l0 l1 a2 a3 l4 he hnt hf hl.1 hl.2 p.f1 g out (okProd_right hok.1) (h3 p List.mem_cons_self) hs) ?_)
    refine Ev.val (refFollowPs_ev l0 l1 a2 a3 l4 he hnt hf qs _ _ hok.2 (fun p hp => h3 p (List.mem_cons_of_mem _ hp)) hg.1) ?_
    rw [gIn,fStep,fIn_more]
theorem refFollowOut_ev (l0 : List ByteArray) (l1 : List Tok) (a2 a3 : Int) (l4 : List Prod) (h : Small l4) {em : List Bool} (he : em.length = l0.length) (hnt : l1.length ≤ 1000) {first : List (List Bool)} (hf : Sh l0.length l1.length first) (hok : l4.all (okProd l0.length l1.length) = true) : ∀ (n : Nat) (out : List (List Bool)),Sh l0.length l1.length out → cfs out ≤ n → ∃ K,∀ kk,K ≤ kk → ∀ k,K ≤ k → rFollowOut kk l0 l1 a2 a3 l4 first em k out true = some (gOut (fStep l1.length em first) l4 n out)
  | n,out,hs,hn => by
    obtain ⟨g1,g2,g3⟩ := gIn_good (fStep_good em hf hok) false out hs
    obtain ⟨K1,hK1⟩ := refFollowPs_ev l0 l1 a2 a3 l4 he hnt hf l4 false out hok h.2 hs
    have hK1' : ∀ k,K1 ≤ k → rFollowPs k l0 l1 a2 a3 l4 first em l4 false out = some (gIn (fStep l1.length em first) l4 false out) := hK1
    cases hr : (gIn (fStep l1.length em first) l4 false out).1 with
    | false =>
      refine ⟨K1 + 2,fun kk hkk k hk => ?_⟩
      obtain ⟨k',rfl⟩ : ∃ k',k = k' + 2:=⟨k - 2,by omega⟩
      rw [rFollowOut,if_pos rfl,hK1' kk (by omega)]
      simp only [Option.bind_some,hr]
      rw [rFollowOut,if_neg (by simp)]
      cases n <;> simp [gOut,hr]
    | true =>
      have hlt:=(g3 hr).resolve_left (by simp)
      cases n with
      | zero => omega
      | succ n =>
        obtain ⟨K2,hK2⟩ := refFollowOut_ev l0 l1 a2 a3 l4 h he hnt hf hok n _ g1 (by omega)
        refine ⟨max K1 K2 + 1,fun kk hkk k hk => ?_⟩
        obtain ⟨k',rfl⟩ : ∃ k',k = k' + 1:=⟨k - 1,by omega⟩
        rw [rFollowOut,if_pos rfl,hK1' kk (by omega)]
        simp only [Option.bind_some,hr]
        rw [hK2 kk (by omega) k' (by omega),gOut,if_pos hr]
theorem Sh.small {nn nt : Nat} {m : List (List Bool)} (h : Sh nn nt m) (h1 : nt ≤ 1000) : ∀ r ∈ m,r.length ≤ 1000000:=fun r hr => by rw [h.2 r hr];omega
section
variable (l0 : List ByteArray) (l1 : List Tok) (a2 a3 : Int) (l4 : List Prod)
def dFollow (nn nt : Nat) (ps : List Prod) : List (List Int) := if ps.all (okProd nn nt) = true then idxs (fol nn nt (clo false nn ps) (fst nn nt (clo false nn ps) ps) ps) else []
def dOf (nn nt : Nat) (ps : List Prod) (l : List Sym) : List Int × Bool:=if ps.all (okProd nn nt) = true ∧ nn ≠ 0 ∧ l.all (okSym nn nt) = true then
  (idx 0 (bg (clo false nn ps) (fst nn nt (clo false nn ps) ps) l (none0 nt)).1,(bg (clo false nn ps) (fst nn nt (clo false nn ps) ps) l (none0 nt)).2) else ([],false)
variable (h : Small l4) (h0 : l0.length ≤ 1000000) (h1 : l1.length ≤ 1000)
include h h0 h1
theorem follow_ev : Ev (fun k => firsts_Follow.f k l0 l1 a2 a3 l4) (dFollow l0.length l1.length l4) := by
 refine Ev.congr (fun k => by rw [firsts_Follow.f]) (Ev.bind0 (firstsRight_val l0 l1 a2 a3 l4 h) ?_)
 unfold dFollow
 cases hr : l4.all (okProd l0.length l1.length) with
 | false => exact Ev.neg (by simp) (Ev.some (by simp))
 | true =>
  have hs:=fst_sh l0.length l1.length (clo false l0.length l4) hr
  have hs2:=fol_sh (clo false l0.length l4) hs hr
  have he:=clo_length l0.length l1.length false hr
  rw [if_pos rfl]
  refine Ev.pos rfl (Ev.bind (studied_ev l0 l1 a2 a3 l4 h h0 h1 hr) ?_)
  refine Ev.bind (growOut_ev (fStep_good _ hs hr) (fun k => followStep k l1.length (clo false l0.length l4) (fst l0.length l1.length (clo false l0.length l4) l4)) (fun st p hI hp => ?_) (cfs (fol0 l0.length l1.length)) (fol0 l0.length l1.length) (fol0_sh _ _) (Nat.le_refl _)) (all_ev _ (by have:=hs2.1;exact Nat.le_trans (Nat.le_of_eq this) h0) (hs2.small h1))
  have hok:=List.all_eq_true.1 hr p hp
  have hl:=okProd_left hok
  exact Ev.congr (fun k => by rw [followStep]) (followIn_ev he h1 hs hl.1 hl.2 p.f1 false st (okProd_right hok) (h.2 p hp) hI)
theorem refFollow_ev : Ev (fun k => regletref13_Follow.f k l0 l1 a2 a3 l4) (dFollow l0.length l1.length l4) := by
 refine Ev.congr (fun k => by rw [regletref13_Follow.f,if_pos ⟨by have:=h.1;omega,by rw [List.all_eq_true];intro p hp;have:=h.2 p hp;exact decide_eq_true (by omega)⟩]) (Ev.bind (refRight_ev l0 l1 a2 a3 l4 h) ?_)
 unfold dFollow
 cases hr : l4.all (okProd l0.length l1.length) with
 | false => exact Ev.neg (by simp) (Ev.some (by simp))
 | true =>
  have hs:=fst_sh l0.length l1.length (clo false l0.length l4) hr
  have hs2:=fol_sh (clo false l0.length l4) hs hr
  have he:=clo_length l0.length l1.length false hr
  rw [if_pos rfl]
  refine Ev.pos rfl (Ev.bind (marks_ev l0 l1 a2 a3 l4 h0 (by omega)) (Ev.bind (refFirst_ev l0 l1 a2 a3 l4 h h0 h1 hr) (Ev.bind (Ev.val (refEmpty_ev l0 l1 a2 a3 l4 h h0) (if_pos hr)) (Ev.bind (a:=fol0 l0.length l1.length) ?_ (Ev.bind (a:=fol l0.length l1.length (clo false l0.length l4) (fst l0.length l1.length (clo false l0.length l4) l4) l4) ?_ (lists_ev _ (by have:=hs2.1;exact Nat.le_trans (Nat.le_of_eq this) h0) (hs2.small h1)))))))
  · refine Ev.some' ?_
    unfold rFollow0 fol0
    by_cases hn : 0 < l0.length
    rotate_left
    · rw [if_neg (by rw [(rows0_sh _ _).1];exact hn),if_neg hn]
      have : l0.length = 0:=by omega
      rw [this];rfl
    have hrow : (rows0 l0.length l1.length).getD 0 [] = none0 l1.length:=by
     obtain ⟨n,hn'⟩ : ∃ n,l0.length = n + 1:=⟨l0.length - 1,by omega⟩
     rw [hn',rows0,List.replicate_succ];rfl
    rw [if_pos (by rw [(rows0_sh _ _).1];exact hn),hrow,if_pos (by rw [none0_length];omega),if_pos hn]
  · obtain ⟨K,hK⟩ := refFollowOut_ev l0 l1 a2 a3 l4 h he h1 hs hr (cfs (fol0 l0.length l1.length)) (fol0 l0.length l1.length) (fol0_sh _ _) (Nat.le_refl _)
    exact ⟨K,fun k hk => hK k hk k hk⟩
theorem of_ev (l : List Sym) (hl : l.length ≤ 1000000) : Ev (fun k => firsts_Of.f k l0 l1 a2 a3 l4 l) (dOf l0.length l1.length l4 l) := by
 refine Ev.congr (fun k => by rw [firsts_Of.f]) (Ev.bind0 (firstsRight_val l0 l1 a2 a3 l4 h) ?_)
 unfold dOf
 cases hr : l4.all (okProd l0.length l1.length) with
 | false => exact Ev.neg (by simp) (Ev.some (by simp))
 | true =>
  refine Ev.pos rfl (Ev.bind0 (a:=l.all (okSym l0.length l1.length)) (by rw [firsts_symbols.f,if_pos (by omega)]) ?_)
  cases hs : l.all (okSym l0.length l1.length) with
  | false => exact Ev.neg (by simp) (Ev.some (by simp))
  | true =>
   refine Ev.pos rfl ?_
   by_cases hn : (l0.length : Int) = 0
   · exact Ev.pos hn (Ev.some (if_neg (fun hc => hc.2.1 (Int.ofNat_eq_zero.1 hn))).symm)
   refine Ev.neg hn (Ev.bind (studied_ev l0 l1 a2 a3 l4 h h0 h1 hr) ?_)
   have hsh:=fst_sh l0.length l1.length (clo false l0.length l4) hr
   have hb:=bg_length (clo false l0.length l4) hsh l _ hs (none0_length l1.length)
   refine Ev.bind (begins_ev hsh (clo_length l0.length l1.length false hr) h1 l hs hl) (Ev.bind (rising_ev _ (by rw [hb];omega)) (Ev.some ?_))
   have hc : true = true ∧ l0.length ≠ 0 ∧ true = true:=⟨rfl,by omega,rfl⟩
   rw [if_pos hc]
theorem refOf_ev (l : List Sym) (hl : l.length ≤ 1000000) : Ev (fun k => regletref13_Of.f k l0 l1 a2 a3 l4 l) (dOf l0.length l1.length l4 l) := by
 refine Ev.congr (fun k => by rw [regletref13_Of.f]) (Ev.bind (refRight_ev l0 l1 a2 a3 l4 h) ?_)
 unfold dOf
 cases hr : l4.all (okProd l0.length l1.length) with
 | false => exact Ev.neg (by simp) (Ev.some (by simp))
 | true =>
  refine Ev.pos rfl ?_
  by_cases hn : (l0.length : Int) = 0
  · exact Ev.pos hn (Ev.some (if_neg (fun hc => hc.2.1 (Int.ofNat_eq_zero.1 hn))).symm)
  refine Ev.neg hn (Ev.bind (Ev.val (refRight_ev l0 l1 a2 a3 [⟨0,l⟩] ⟨by simp,by simpa using hl⟩) (s:=l.all (okSym l0.length l1.length)) ?_) ?_)
  · simp [okProd];intro _;omega
  cases hs : l.all (okSym l0.length l1.length) with
  | false => exact Ev.neg (by simp) (Ev.some (by simp))
  | true =>
   have hsh:=fst_sh l0.length l1.length (clo false l0.length l4) hr
   have hb:=bg_length (clo false l0.length l4) hsh l _ hs (none0_length l1.length)
   refine Ev.pos rfl (Ev.bind (refFirst_ev l0 l1 a2 a3 l4 h h0 h1 hr) (Ev.bind (Ev.val (refEmpty_ev l0 l1 a2 a3 l4 h h0) (if_pos hr)) ?_))
   refine Ev.bind (refBegins_ev l0 l1 a2 a3 l4 hsh (clo_length l0.length l1.length false hr) h1 l hs hl) (Ev.bind (list_ev _ (by rw [hb];omega)) (Ev.some ?_))
   have hc : true = true ∧ l0.length ≠ 0 ∧ true = true:=⟨rfl,by omega,rfl⟩
   rw [if_pos hc]
end
abbrev Clash:=S50
def markOn (l : List Int) (row : List Bool) : List Bool:=l.foldl (fun row t => row.set t.toNat true) row
theorem markOn_length : ∀ (l : List Int) (row : List Bool),(markOn l row).length = row.length
  | [],_ => rfl
  | t :: l,row => by rw [markOn,List.foldl_cons,← markOn,markOn_length l];simp
theorem markOn_getD : ∀ (l : List Int) (row : List Bool),(∀ t ∈ l,0 ≤ t ∧ t.toNat < row.length) → ∀ look : Nat,(markOn l row).getD look false = (row.getD look false || decide ((look : Int) ∈ l))
  | [],_,_,_ => by simp [markOn]
  | t :: l,row,h,look => by
    obtain ⟨h0,h1⟩ := h t List.mem_cons_self
    rw [markOn,List.foldl_cons,← markOn,markOn_getD l _ (fun x hx => by rw [List.length_set];exact h x (List.mem_cons_of_mem _ hx)) look]
    by_cases he : t.toNat = look
    · subst he
      rw [get_set _ _ h1]
      have : ((t.toNat : Nat) : Int) = t:=by omega
      simp [this]
    · rw [List.getD_eq_getElem?_getD,List.getElem?_set_ne he,← List.getD_eq_getElem?_getD]
      have : ¬ (look : Int) = t:=by omega
      simp [this]
theorem idx_range : ∀ (a : List Bool) (n : Nat),∀ x ∈ idx n a,(n : Int) ≤ x ∧ x < ((n + a.length : Nat) : Int)
  | [],_,x,hx => by simp [idx] at hx
  | b :: a,n,x,hx => by
    have ih:=idx_range a (n + 1)
    unfold idx at hx
    split at hx
    · rcases List.mem_cons.1 hx with rfl | h
      · simp;omega
      · have:=ih x h;simp at this ⊢;omega
    · have:=ih x hx;simp at this ⊢;omega
theorem chosen_l1_ev {x3 : List (List Int)} {x18 : List Prod} {x19 x20 : Int} {l0 : List ByteArray} {l1 : List Tok} {a2 a3 : Int} {l4 : List Prod} {R : List (List Bool)} (i : Nat) : ∀ (a pre : List Int) (out : List (List Bool)),(∀ t ∈ a,0 ≤ t ∧ t.toNat < (out.getD i []).length) → i < out.length → pre.length + a.length ≤ 1000000 → Ev (fun k => predict_chosen.l0 k x3 (out.set i (markOn a (out.getD i []))) x18 x19 (wrap64 (x20 + 1)) l0 l1 a2 a3 l4) R → Ev (fun k => predict_chosen.l1 k x3 out (i : Int) x18 x19 x20 (pre ++ a) ((pre ++ a).length : Int) (pre.length : Int) l0 l1 a2 a3 l4) R
  | [],pre,out,_,hi,_,hk => Ev.step (fun k => by rw [predict_chosen.l1]) (Ev.neg (by simp) (by rw [markOn,List.foldl_nil,set_get _ _ _ hi] at hk;exact hk))
  | t :: a,pre,out,h,hi,h3,hk => by
    simp only [List.length_cons] at h3
    obtain ⟨h0,h1⟩ := h t List.mem_cons_self
    have ih:=chosen_l1_ev (x3:=x3) (x18:=x18) (x19:=x19) (x20:=x20) (l0:=l0) (l1:=l1) (a2:=a2) (a3:=a3) (l4:=l4) (R:=R) i a (pre ++ [t]) (out.set i ((out.getD i []).set t.toNat true)) (by rw [get_set _ _ hi];intro x hx;rw [List.length_set];exact h x (List.mem_cons_of_mem _ hx)) (by rw [List.length_set];exact hi) (by simp;omega) (by rw [get_set _ _ hi,set_set];exact hk)
    simp only [← wrap_next pre _ (show pre.length ≤ 1000000 by omega),List.append_assoc,List.singleton_append] at ih
    refine Ev.step (fun k => by rw [predict_chosen.l1]) (Ev.pos (by simp;omega) (Ev.pos (by omega) (Ev.pos (by simp;omega) (Ev.pos (by omega) (Ev.pos (by omega) ?_)))))
    rw [show rd (pre ++ t :: a) (pre.length : Int) = t from getD_mid _ pre t a _ rfl,show rd_L13 out (i : Int) = out.getD i [] from by rw [rd_L13,Int.toNat_natCast]]
    exact Ev.pos h0 (Ev.pos (by omega) (by rw [Int.toNat_natCast];exact ih))
section
variable (l0 : List ByteArray) (l1 : List Tok) (a2 a3 : Int) (l4 : List Prod)
def sel (nn nt : Nat) (ps : List Prod) (p : Prod) : List Int:=(dOf nn nt ps p.f1).1 ++ (if (dOf nn nt ps p.f1).2 = true then (dFollow nn nt ps).getD p.f0.toNat [] else [])
def chRow (nn nt : Nat) (ps : List Prod) (p : Prod) : List Bool:=markOn (sel nn nt ps p) (none0 nt)
theorem of_range {nn nt : Nat} {ps : List Prod} (hps : ps.all (okProd nn nt) = true) (l : List Sym) : (dOf nn nt ps l).1.length ≤ nt + 1 ∧ ∀ x ∈ (dOf nn nt ps l).1,0 ≤ x ∧ x < ((nt + 1 : Nat) : Int) := by
 unfold dOf
 split
 · rename_i hc
   have hb:=bg_length (clo false nn ps) (fst_sh nn nt (clo false nn ps) hps) l _ hc.2.2 (none0_length nt)
   refine ⟨by have:=idx_length 0 (bg (clo false nn ps) (fst nn nt (clo false nn ps) ps) l (none0 nt)).1;simp only;omega,fun x hx => ?_⟩
   have:=idx_range _ 0 x hx
   rw [hb] at this
   simpa using this
 · simp
theorem follow_range {nn nt : Nat} {ps : List Prod} (hps : ps.all (okProd nn nt) = true) : (dFollow nn nt ps).length = nn ∧ ∀ i,((dFollow nn nt ps).getD i []).length ≤ nt + 1 ∧ ∀ x ∈ (dFollow nn nt ps).getD i [],0 ≤ x ∧ x < ((nt + 1 : Nat) : Int) := by
 unfold dFollow
 rw [if_pos hps]
 have hs:=fol_sh (clo false nn ps) (fst_sh nn nt (clo false nn ps) hps) hps
 refine ⟨by rw [idxs,List.length_map,hs.1],fun i => ?_⟩
 by_cases hi : i < nn
 rotate_left
 · rw [List.getD_eq_getElem?_getD,List.getElem?_eq_none (by rw [idxs,List.length_map,hs.1];omega)]
   simp
 have e : (idxs (fol nn nt (clo false nn ps) (fst nn nt (clo false nn ps) ps) ps)).getD i [] = idx 0 ((fol nn nt (clo false nn ps) (fst nn nt (clo false nn ps) ps) ps).getD i []) := by
  have hlt : i < (fol nn nt (clo false nn ps) (fst nn nt (clo false nn ps) ps) ps).length:=by rw [hs.1];exact hi
  rw [idxs,List.getD_eq_getElem?_getD,List.getElem?_map,List.getD_eq_getElem?_getD,List.getElem?_eq_getElem hlt];rfl
 rw [e]
 have hl:=hs.get hi
 refine ⟨by have:=idx_length 0 ((fol nn nt (clo false nn ps) (fst nn nt (clo false nn ps) ps) ps).getD i []);omega,fun x hx => ?_⟩
 have:=idx_range _ 0 x hx
 rw [hl] at this
 simpa using this
theorem sel_range {nn nt : Nat} {ps : List Prod} (hps : ps.all (okProd nn nt) = true) (p : Prod) : (sel nn nt ps p).length ≤ 2 * (nt + 1) ∧ ∀ x ∈ sel nn nt ps p,0 ≤ x ∧ x < ((nt + 1 : Nat) : Int) := by
 have h1:=of_range hps p.f1
 have h2:=(follow_range hps).2 p.f0.toNat
 unfold sel
 refine ⟨?_,fun x hx => ?_⟩
 · rw [List.length_append]
   split
   · omega
   · simp;omega
 · rcases List.mem_append.1 hx with h | h
   · exact h1.2 x h
   · split at h
     · exact h2.2 x h
     · simp at h
theorem chRow_getD {nn nt : Nat} {ps : List Prod} (hps : ps.all (okProd nn nt) = true) (p : Prod) (look : Nat) : (chRow nn nt ps p).getD look false = decide ((look : Int) ∈ sel nn nt ps p) := by
 rw [chRow,markOn_getD _ _ (fun t ht => by have:=(sel_range hps p).2 t ht;rw [none0_length];omega)]
 simp [none0,List.getElem?_replicate]
 intro h
 by_cases hl : look < nt + 1
 rotate_left
 · rw [if_neg hl] at h;simp at h
 rw [if_pos hl] at h;simp at h
theorem chRow_length (nn nt : Nat) (ps : List Prod) (p : Prod) : (chRow nn nt ps p).length = nt + 1:=by rw [chRow,markOn_length,none0_length]
variable {l0 l1 a2 a3 l4}
theorem chosen_l0_ev (h : Small l4) (h0 : l0.length ≤ 1000000) (h1 : l1.length ≤ 1000) (hok : l4.all (okProd l0.length l1.length) = true) : ∀ (qs pre : List Prod) (out : List (List Bool)),pre ++ qs = l4 → out.length = pre.length → Ev (fun k => predict_chosen.l0 k (dFollow l0.length l1.length l4) (out ++ List.replicate qs.length []) l4 (l4.length : Int) (pre.length : Int) l0 l1 a2 a3 l4) (out ++ qs.map (chRow l0.length l1.length l4))
  | [],pre,out,e,ho => by
    refine Ev.step (fun k => by rw [predict_chosen.l0]) (Ev.neg (by rw [← e];simp) (Ev.some (by simp)))
  | p :: qs,pre,out,e,ho => by
    have hlen : l4.length = pre.length + (qs.length + 1) := by rw [← e];simp
    have hp0 : pre.length ≤ 1000000:=by have:=h.1;omega
    have hmem : p ∈ l4:=by rw [← e];simp
    have hokp:=List.all_eq_true.1 hok p hmem
    have hl:=okProd_left hokp
    have hrd : rd_T30 l4 (pre.length : Int) = p:=by rw [← e];exact getD_mid _ pre p qs _ rfl
    have ih:=chosen_l0_ev h h0 h1 hok qs (pre ++ [p]) (out ++ [chRow l0.length l1.length l4 p]) (by rw [← e];simp) (by simp [ho])
    rw [← wrap_next pre _ hp0] at ih
    have hw : wrap64 ((l1.length : Int) + 1) = ((l1.length + 1 : Nat) : Int) := by rw [wrap64_id (by omega) (by omega)];omega
    have hset : ∀ v : List Bool,(out ++ List.replicate (qs.length + 1) []).set pre.length v = out ++ v :: List.replicate qs.length [] := fun v => by
      rw [List.replicate_succ,← ho];simp
    have hsel : sel l0.length l1.length l4 p = (dOf l0.length l1.length l4 p.f1).1 ++ (if (dOf l0.length l1.length l4 p.f1).2 = true then (dFollow l0.length l1.length l4).getD p.f0.toNat [] else []) := rfl
    have hfin : ∀ l : List Int,l = sel l0.length l1.length l4 p → Ev (fun k => predict_chosen.j1 k (dFollow l0.length l1.length l4) (out ++ none0 l1.length :: List.replicate qs.length []) (pre.length : Int) l l4 (l4.length : Int) (pre.length : Int) l0 l1 a2 a3 l4) (out ++ (p :: qs).map (chRow l0.length l1.length l4)) := fun l el => by
      subst el
      have hr:=sel_range hok p
      refine Ev.step (fun k => by rw [predict_chosen.j1]) ?_
      have hg : (out ++ none0 l1.length :: List.replicate qs.length []).getD pre.length [] = none0 l1.length:=by rw [← ho];simp
      have hx:=chosen_l1_ev (x3:=dFollow l0.length l1.length l4) (x18:=l4) (x19:=(l4.length : Int)) (x20:=(pre.length : Int)) (l0:=l0) (l1:=l1) (a2:=a2) (a3:=a3) (l4:=l4) (R:=out ++ (p :: qs).map (chRow l0.length l1.length l4)) pre.length (sel l0.length l1.length l4 p) [] (out ++ none0 l1.length :: List.replicate qs.length []) (fun t ht => by have:=hr.2 t ht;rw [hg,none0_length];omega) (by simp [ho]) (by have:=hr.1;simp;omega) (by
        rw [hg,show (out ++ none0 l1.length :: List.replicate qs.length []).set pre.length (markOn (sel l0.length l1.length l4 p) (none0 l1.length)) = (out ++ [chRow l0.length l1.length l4 p]) ++ List.replicate qs.length [] from by rw [← ho];simp [chRow]]
        exact Ev.val ih (by simp))
      exact hx
    refine Ev.step (fun k => by rw [predict_chosen.l0]) (Ev.pos (by omega) (Ev.pos (by omega) (Ev.pos (by omega) ?_)))
    rw [hw]
    refine Ev.pos (by omega) (Ev.pos (by omega) (Ev.pos (by simp;omega) (Ev.bind0 (a:=out ++ none0 l1.length :: List.replicate qs.length []) (by rw [Int.toNat_natCast,Int.toNat_natCast,List.length_cons,hset];rfl) ?_)))
    rw [hrd]
    refine Ev.bind (of_ev l0 l1 a2 a3 l4 h h0 h1 p.f1 (h.2 p hmem)) ?_
    have hfl:=follow_range hok
    by_cases he : (dOf l0.length l1.length l4 p.f1).2 = true
    · refine Ev.pos he (Ev.pos hl.1 (Ev.pos (by rw [hfl.1];exact hl.2) (Ev.pos ?_ (hfin _ (by rw [hsel,if_pos he];rfl)))))
      have h2:=(of_range hok p.f1).1
      have h3:=(hfl.2 p.f0.toNat).1
      have h4 : (rd_L3 (dFollow l0.length l1.length l4) p.f0).length ≤ l1.length + 1:=h3
      omega
    · exact Ev.neg he (hfin _ (by rw [hsel,if_neg he,List.append_nil]))
theorem chosen_ev (h : Small l4) (h0 : l0.length ≤ 1000000) (h1 : l1.length ≤ 1000) (hok : l4.all (okProd l0.length l1.length) = true) : Ev (fun k => predict_chosen.f k l0 l1 a2 a3 l4) (l4.map (chRow l0.length l1.length l4)) := by
 refine Ev.congr (fun k => by rw [predict_chosen.f]) (Ev.bind (follow_ev l0 l1 a2 a3 l4 h h0 h1) ?_)
 refine Ev.pos (by omega) (Ev.pos (by have:=h.1;omega) ?_)
 have hx:=chosen_l0_ev (a2:=a2) (a3:=a3) h h0 h1 hok l4 [] [] rfl rfl
 rw [Int.toNat_natCast]
 simpa using hx
theorem rows_l1_ev {x12 : Int} {x11 : Int} {R : List (List Int)} (r : Nat) : ∀ (n m : Nat) (out : List (List Int)),r < out.length → m + n ≤ 1000000 → out.getD r [] = List.replicate m (-1) ++ List.replicate n 0 → Ev (fun k => predict_rows.l0 k (out.set r (List.replicate (m + n) (-1))) x11 (wrap64 (x12 + 1)) l0 l1 a2 a3 l4) R → Ev (fun k => predict_rows.l1 k out (r : Int) x11 x12 ((m + n : Nat) : Int) (m : Int) l0 l1 a2 a3 l4) R
  | 0,m,out,hr,_,e,hk => Ev.step (fun k => by rw [predict_rows.l1]) (Ev.neg (by omega) (by
      rw [show out.set r (List.replicate (m + 0) (-1)) = out from by
        have:=set_get out r [] hr
        rw [e] at this
        simpa using this] at hk
      exact hk))
  | n + 1,m,out,hr,h3,e,hk => by
    have hg : rd_L3 out (r : Int) = out.getD r [] := by rw [rd_L3,Int.toNat_natCast]
    have ih:=rows_l1_ev (x12:=x12) (x11:=x11) (R:=R) r n (m + 1) (out.set r (List.replicate (m + 1) (-1) ++ List.replicate n 0)) (by rw [List.length_set];exact hr) (by omega) (get_set _ _ hr) (by rw [set_set,show m + 1 + n = m + (n + 1) by omega];exact hk)
    refine Ev.step (fun k => by rw [predict_rows.l1]) (Ev.pos (by omega) (Ev.pos (by omega) (Ev.pos (by omega) (Ev.pos (by omega) (Ev.pos (by rw [hg,e];simp;omega) ?_)))))
    have hs : (out.getD r []).set m (-1) = List.replicate (m + 1) (-1) ++ List.replicate n 0:=by
      rw [e,List.replicate_succ,List.replicate_succ',List.append_assoc]
      simp
    rw [hg,Int.toNat_natCast,Int.toNat_natCast,hs,show wrap64 ((m : Int) + 1) = ((m + 1 : Nat) : Int) from by rw [wrap64_id (by omega) (by omega)];omega,show m + (n + 1) = m + 1 + n by omega]
    exact ih
theorem rows_l0_ev (h1 : l1.length ≤ 1000) : ∀ (n : Nat) (out : List (List Int)),out.length + n ≤ 1000000 → Ev (fun k => predict_rows.l0 k (out ++ List.replicate n []) ((out.length + n : Nat) : Int) (out.length : Int) l0 l1 a2 a3 l4) (out ++ List.replicate n (List.replicate (l1.length + 1) (-1)))
  | 0,out,_ => Ev.step (fun k => by rw [predict_rows.l0]) (Ev.neg (by omega) (Ev.some (by simp)))
  | n + 1,out,h3 => by
    have hw : wrap64 ((l1.length : Int) + 1) = ((l1.length + 1 : Nat) : Int) := by rw [wrap64_id (by omega) (by omega)];omega
    have ih:=rows_l0_ev h1 n (out ++ [List.replicate (l1.length + 1) (-1)]) (by simp;omega)
    rw [← wrap_next out _ (by omega)] at ih
    have hset : ∀ v w : List Int,(out ++ w :: List.replicate n []).set out.length v = out ++ v :: List.replicate n [] := fun v w => by simp
    refine Ev.step (fun k => by rw [predict_rows.l0]) (Ev.pos (by omega) ?_)
    rw [hw]
    refine Ev.pos (by omega) (Ev.pos (by omega) (Ev.pos (by omega) (Ev.pos (by simp;omega) (Ev.bind0 (a:=out ++ List.replicate (l1.length + 1) 0 :: List.replicate n []) (by rw [Int.toNat_natCast,Int.toNat_natCast,List.replicate_succ,hset]) ?_))))
    have hg : (out ++ List.replicate (l1.length + 1) 0 :: List.replicate n []).getD out.length [] = List.replicate (l1.length + 1) (0 : Int) := by simp
    have hx:=rows_l1_ev (l0:=l0) (l1:=l1) (a2:=a2) (a3:=a3) (l4:=l4) (x12:=(out.length : Int)) (x11:=((out.length + (n + 1) : Nat) : Int)) (R:=out ++ List.replicate (n + 1) (List.replicate (l1.length + 1) (-1))) out.length (l1.length + 1) 0 (out ++ List.replicate (l1.length + 1) 0 :: List.replicate n []) (by simp) (by omega) (by rw [hg];simp) (by
      rw [hset,Nat.zero_add]
      have e : out.length + (n + 1) = (out ++ [List.replicate (l1.length + 1) (-1)]).length + n:=by simp;omega
      rw [e]
      refine Ev.val (Ev.congr (fun k => ?_) ih) (by simp [List.replicate_succ])
      rw [List.append_assoc,List.singleton_append])
    rw [show rd_L3 (out ++ List.replicate (l1.length + 1) 0 :: List.replicate n []) (out.length : Int) = List.replicate (l1.length + 1) 0 from by rw [rd_L3,Int.toNat_natCast];exact hg,List.length_replicate]
    simpa using hx
theorem rows_ev (h0 : l0.length ≤ 1000000) (h1 : l1.length ≤ 1000) : Ev (fun k => predict_rows.f k l0 l1 a2 a3 l4) (List.replicate l0.length (List.replicate (l1.length + 1) (-1))) := by
 refine Ev.congr (fun k => by rw [predict_rows.f]) (Ev.pos (by omega) (Ev.pos (by omega) (Ev.bind0 (a:=List.replicate l0.length []) (by rw [Int.toNat_natCast]) ?_)))
 have hx:=rows_l0_ev (l0:=l0) (a2:=a2) (a3:=a3) (l4:=l4) h1 l0.length [] (by simpa using h0)
 simpa using hx
end
def pRow (b : List (List Bool)) (ps : List Prod) (r : Nat) : Nat → Nat → List Clash → List Int × List Clash
  | 0,_,bad => ([],bad)
  | n + 1,look,bad => ((prIn b r look 0 ps (-1,bad)).1 :: (pRow b ps r n (look + 1) (prIn b r look 0 ps (-1,bad)).2).1,(pRow b ps r n (look + 1) (prIn b r look 0 ps (-1,bad)).2).2)
def pAll (b : List (List Bool)) (ps : List Prod) (w : Nat) : Nat → Nat → List Clash → List (List Int) × List Clash
  | 0,_,bad => ([],bad)
  | n + 1,r,bad => ((pRow b ps r w 0 bad).1 :: (pAll b ps w n (r + 1) (pRow b ps r w 0 bad).2).1,(pAll b ps w n (r + 1) (pRow b ps r w 0 bad).2).2)
theorem prRow_pRow (b : List (List Bool)) (ps : List Prod) (r : Nat) : ∀ (n : Nat) (pre : List Int) (bad : List Clash),prRow b ps r n pre.length (pre ++ List.replicate n (-1),bad) = (pre ++ (pRow b ps r n pre.length bad).1,(pRow b ps r n pre.length bad).2)
  | 0,pre,bad => by simp [prRow,pRow]
  | n + 1,pre,bad => by
    have hg : (pre ++ List.replicate (n + 1) (-1)).getD pre.length 0 = (-1 : Int) := by rw [List.replicate_succ];simp
    have hs : ∀ v,(pre ++ List.replicate (n + 1) (-1)).set pre.length v = (pre ++ [v]) ++ List.replicate n (-1) := fun v => by rw [List.replicate_succ];simp
    have ih:=prRow_pRow b ps r n (pre ++ [(prIn b r pre.length 0 ps (-1,bad)).1]) (prIn b r pre.length 0 ps (-1,bad)).2
    rw [prRow,hg,hs,pRow]
    rw [List.length_append,List.length_singleton] at ih
    rw [ih,List.append_assoc];rfl
theorem prAll_pAll (b : List (List Bool)) (ps : List Prod) (w : Nat) : ∀ (n : Nat) (pre : List (List Int)) (bad : List Clash),prAll b ps n pre.length (pre ++ List.replicate n (List.replicate w (-1)),bad) = (pre ++ (pAll b ps w n pre.length bad).1,(pAll b ps w n pre.length bad).2)
  | 0,pre,bad => by simp [prAll,pAll]
  | n + 1,pre,bad => by
    have hg : (pre ++ List.replicate (n + 1) (List.replicate w (-1))).getD pre.length [] = List.replicate w (-1 : Int) := by rw [List.replicate_succ];simp
    have hs : ∀ v,(pre ++ List.replicate (n + 1) (List.replicate w (-1))).set pre.length v = (pre ++ [v]) ++ List.replicate n (List.replicate w (-1)) := fun v => by rw [List.replicate_succ];simp
    have hr:=prRow_pRow b ps pre.length w [] bad
    simp only [List.nil_append,List.length_nil] at hr
    have ih:=prAll_pAll b ps w n (pre ++ [(pRow b ps pre.length w 0 bad).1]) (pRow b ps pre.length w 0 bad).2
    rw [prAll,hg,hs,pAll,List.length_replicate,hr]
    rw [List.length_append,List.length_singleton] at ih
    simp only
    rw [ih,List.append_assoc];rfl
theorem prIn_max (b : List (List Bool)) (r look : Nat) : ∀ (ps : List Prod) (i : Nat) (st : Int × List Clash),(prIn b r look i ps st).2.length ≤ st.2.length + ps.length
  | [],_,_ => Nat.le_refl _
  | p :: ps,i,st => by
    have:=prIn_max b r look ps (i + 1) (prStep b r look i p st)
    have : (prStep b r look i p st).2.length ≤ st.2.length + 1:=by
      unfold prStep;split
      · split <;> simp
      · simp
    rw [prIn,List.length_cons];omega
theorem pRow_max (b : List (List Bool)) (ps : List Prod) (r : Nat) : ∀ (n look : Nat) (bad : List Clash),(pRow b ps r n look bad).1.length = n ∧ (pRow b ps r n look bad).2.length ≤ bad.length + n * ps.length
  | 0,_,_ => by simp [pRow]
  | n + 1,look,bad => by
    have h1:=pRow_max b ps r n (look + 1) (prIn b r look 0 ps (-1,bad)).2
    have h2:=prIn_max b r look ps 0 (-1,bad)
    rw [pRow,Nat.succ_mul]
    simp only [List.length_cons] at h2 ⊢
    exact ⟨by rw [h1.1],by omega⟩
theorem pAll_max (b : List (List Bool)) (ps : List Prod) (w : Nat) : ∀ (n r : Nat) (bad : List Clash),(pAll b ps w n r bad).1.length = n ∧ (∀ x ∈ (pAll b ps w n r bad).1,x.length = w) ∧ (pAll b ps w n r bad).2.length ≤ bad.length + n * (w * ps.length)
  | 0,_,_ => by simp [pAll]
  | n + 1,r,bad => by
    have h1:=pAll_max b ps w n (r + 1) (pRow b ps r w 0 bad).2
    have h2:=pRow_max b ps r w 0 bad
    rw [pAll,Nat.succ_mul]
    refine ⟨by simp only [List.length_cons];rw [h1.1],fun x hx => ?_,by simp only;omega⟩
    rcases List.mem_cons.1 hx with rfl | h
    · exact h2.1
    · exact h1.2.1 x h
section
variable {l0 : List ByteArray} {l1 : List Tok} {a2 a3 : Int} {l4 : List Prod} {b : List (List Bool)} {all : List (List Int)}
end
section
variable (l0 : List ByteArray) (l1 : List Tok) (a2 a3 : Int) (l4 : List Prod)
def dPredict (nn nt : Nat) (ps : List Prod) : List (List Int) × List Clash:=if ps.all (okProd nn nt) = true then pAll (ps.map (chRow nn nt ps)) ps (nt + 1) nn 0 [] else ([],[])
variable (h : Small l4) (h0 : l0.length ≤ 30) (h1 : l1.length ≤ 30) (h4 : l4.length ≤ 30)
include h h0 h1 h4
set_option linter.unusedSectionVars false in
theorem bad_bound (b : List (List Bool)) : (pAll b l4 (l1.length + 1) l0.length 0 []).2.length ≤ 100000:=by
 have h2:=(pAll_max b l4 (l1.length + 1) l0.length 0 []).2.2
 have h3 : l0.length * ((l1.length + 1) * l4.length) ≤ 30 * (31 * 30) := Nat.mul_le_mul h0 (Nat.mul_le_mul (by omega) h4)
 simp only [List.length_nil] at h2
 omega
theorem predict_ev : Ev (fun k => predict_Predict.f k l0 l1 a2 a3 l4) (dPredict l0.length l1.length l4) := by
 refine Ev.congr (fun k => by rw [predict_Predict.f]) (Ev.bind0 (firstsRight_val l0 l1 a2 a3 l4 h) ?_)
 unfold dPredict
 cases hr : l4.all (okProd l0.length l1.length) with
 | false => exact Ev.neg (by simp) (Ev.some (by simp))
 | true =>
  refine Ev.pos rfl (Ev.bind (chosen_ev h (by omega) (by omega) hr) (Ev.bind (rows_ev (by omega) (by omega)) ?_))
  have hp:=prAll_pAll (l4.map (chRow l0.length l1.length l4)) l4 (l1.length + 1) l0.length [] []
  simp only [List.nil_append,List.length_nil] at hp
  rw [List.length_replicate,hp]
  refine Ev.pos ⟨?_,h.1,by omega,by have:=bad_bound l0 l1 l4 h h0 h1 h4 (l4.map (chRow l0.length l1.length l4));simp only;omega⟩ (Ev.some (if_pos rfl).symm)
  unfold prOk
  simp only [Bool.and_eq_true,decide_eq_true_eq,List.all_eq_true]
  refine ⟨by simp,fun row hrow => ?_⟩
  rw [List.eq_of_mem_replicate hrow,List.length_replicate]
  refine ⟨by omega,fun x hx => ?_⟩
  obtain ⟨p,_,rfl⟩ := List.mem_map.1 hx
  rw [chRow_length]
  omega
end
theorem mRight_ok {l : List Int} (hu : ∀ x ∈ l,0 ≤ x ∧ x ≤ 255) {n t : Nat} (hn : 0 < n) (ht : 0 < t) : ∀ (c at_ : Nat) (acc : List Sym),acc.all (okSym n t) = true → (mRight l n t c at_ acc).1.all (okSym n t) = true ∧ (mRight l n t c at_ acc).1.length = acc.length + c
  | 0,at_,acc,h => ⟨h,rfl⟩
  | c + 1,at_,acc,h => by
    unfold mRight
    obtain ⟨h1,h2⟩ := mRight_ok hu hn ht c (at_ + 2) (acc ++ [if mPick l at_ 2 = 0 then ⟨true,mPick l (at_ + 1) t⟩ else ⟨false,mPick l (at_ + 1) n⟩]) (by
      rw [List.all_append,h,Bool.true_and]
      have h3:=mPick_lt hu (at_ + 1) (n:=(t : Int)) (by omega)
      have h4:=mPick_lt hu (at_ + 1) (n:=(n : Int)) (by omega)
      split
      · simp only [List.all_cons,List.all_nil,Bool.and_true,okSym,if_true,Bool.and_eq_true,decide_eq_true_eq]
        exact h3
      · simp only [List.all_cons,List.all_nil,Bool.and_true,okSym,Bool.and_eq_true,decide_eq_true_eq]
        exact ⟨h4.1,by simpa using h4.2⟩)
    exact ⟨h1,by rw [h2];simp;omega⟩
theorem mProds_ok {l : List Int} (hu : ∀ x ∈ l,0 ≤ x ∧ x ≤ 255) {n t : Nat} (hn : 0 < n) (ht : 0 < t) : ∀ (i at_ : Nat) (acc : List Prod),acc.all (okProd n t) = true → (∀ p ∈ acc,p.f1.length ≤ 3) → (mProds l n t i at_ acc).all (okProd n t) = true ∧ (mProds l n t i at_ acc).length = acc.length + i ∧ ∀ p ∈ mProds l n t i at_ acc,p.f1.length ≤ 3
  | 0,at_,acc,h,h3 => ⟨h,rfl,h3⟩
  | i + 1,at_,acc,h,h3 => by
    unfold mProds
    obtain ⟨h1,h2⟩ := mRight_ok hu hn ht (mPick l (at_ + 1) 4).toNat (at_ + 2) [] rfl
    have h4:=mPick_lt hu at_ (n:=(n : Int)) (by omega)
    have h5:=mPick_lt hu (at_ + 1) (n:=4) (by omega)
    obtain ⟨h6,h7,h8⟩ := mProds_ok hu hn ht i (mRight l n t (mPick l (at_ + 1) 4).toNat (at_ + 2) []).2 (acc ++ [⟨mPick l at_ n,(mRight l n t (mPick l (at_ + 1) 4).toNat (at_ + 2) []).1⟩]) (by
      rw [List.all_append,h,Bool.true_and]
      simp only [List.all_cons,List.all_nil,Bool.and_true,okProd,Bool.and_eq_true,decide_eq_true_eq]
      exact ⟨h4,h1⟩) (by
      intro p hp
      rcases List.mem_append.1 hp with hp | hp
      · exact h3 p hp
      · obtain rfl:=List.mem_singleton.1 hp
        simp only
        rw [h2];simp;omega)
    exact ⟨h6,by rw [h7];simp;omega,h8⟩
structure MadeOk (ns : List ByteArray) (ts : List Tok) (ps : List Prod) : Prop where
  n1 : 0 < ns.length
  n5 : ns.length ≤ 5
  t1 : 0 < ts.length
  t4 : ts.length ≤ 4
  p1 : 0 < ps.length
  p10 : ps.length ≤ 10
  ok : ps.all (okProd ns.length ts.length) = true
  r3 : ∀ p ∈ ps,p.f1.length ≤ 3
theorem MadeOk.small {ns : List ByteArray} {ts : List Tok} {ps : List Prod} (h : MadeOk ns ts ps) : Small ps:=⟨by have:=h.p10;omega,fun p hp => by have:=h.r3 p hp;omega⟩
theorem made_ev {l : List Int} (hw : ∀ x ∈ l,(Lit.int .u8 x).wf = true) : ∃ ns ts ps,MadeOk ns ts ps ∧ Ev (fun k => regletlaw13_Made.f k l) (ns,ts,0,0,ps) := by
 have hu : ∀ x ∈ l,0 ≤ x ∧ x ≤ 255:=fun x hx => wf_u8 (hw x hx)
 have h0:=mPick_lt hu 0 (n:=5) (by decide)
 have h1:=mPick_lt hu 1 (n:=4) (by decide)
 have h2:=mPick_lt hu 2 (n:=10) (by decide)
 obtain ⟨n,en⟩ : ∃ n : Nat,1 + mPick l 0 5 = (n : Int) := ⟨(1 + mPick l 0 5).toNat,by omega⟩
 obtain ⟨t,et⟩ : ∃ n : Nat,1 + mPick l 1 4 = (n : Int) := ⟨(1 + mPick l 1 4).toNat,by omega⟩
 obtain ⟨c,ec⟩ : ∃ n : Nat,1 + mPick l 2 10 = (n : Int) := ⟨(1 + mPick l 2 10).toNat,by omega⟩
 obtain ⟨h3,h4,h5⟩ := mProds_ok hu (n:=n) (t:=t) (by omega) (by omega) c 3 [] rfl (fun p hp => by simp at hp)
 have ln : (mNames.take n).length = n:=by rw [List.length_take];show min n 5 = n;omega
 have lt : ((mTexts.map mTok).take t).length = t:=by rw [List.length_take];show min t 4 = t;omega
 refine ⟨mNames.take n,(mTexts.map mTok).take t,mProds l n t c 3 [],⟨by omega,by omega,by omega,by omega,by simp at h4;omega,by simp at h4;omega,by rw [ln,lt];exact h3,h5⟩,Ev.some' ?_⟩
 have h7 : l.all (fun x => decide (0 ≤ x ∧ x ≤ 255)) = true:=List.all_eq_true.2 (fun x hx => decide_eq_true (hu x hx))
 show (if l.all (fun x => decide (0 ≤ x ∧ x ≤ 255)) = true then _ else none) = _
 rw [if_pos h7,en,et,ec]
 rfl
section
variable {ns : List ByteArray} {R : List ByteArray × List Tok × Int × Int × List Prod}
end
theorem awake14_ev : Ev (fun k => regletlaw14_awake.f k) true:=by
 have e1 : dPredict 1 1 [⟨0,[⟨true,0⟩,⟨false,0⟩]⟩,⟨0,[]⟩] = ([[0,1]],[]) := by kernel_rfl
 have e2 : dPredict 1 1 [⟨0,[⟨true,0⟩,⟨false,0⟩]⟩,⟨0,[]⟩,⟨0,[]⟩] = ([[0,1]],[⟨0,1,1,2⟩]) := by kernel_rfl
 unfold regletlaw14_awake.f
 simp only [Option.bind_some]
 refine Ev.pos (by decide) ?_
 refine Ev.bind (Ev.val (predict_ev [⟨#[97]⟩] (List.replicate 1 z61) 0 0 [⟨0,[⟨true,0⟩,⟨false,0⟩]⟩,⟨0,[]⟩] ⟨by simp,by simp⟩ (by simp) (by simp) (by simp)) e1) (Ev.pos (by simp) ?_)
 refine Ev.bind (Ev.val (predict_ev [⟨#[97]⟩] (List.replicate 1 z61) 0 0 [⟨0,[⟨true,0⟩,⟨false,0⟩]⟩,⟨0,[]⟩,⟨0,[]⟩] ⟨by simp,by simp⟩ (by simp) (by simp) (by simp)) e2) (Ev.pos rfl ?_)
 exact Ev.bind (sameLists_ev [[0,1]] (by simp) (by simp)) (Ev.pos rfl (Ev.pos rfl (Ev.pos (by decide) (Ev.some rfl))))
end Go.Proofs.Ytfdcfihcfegekaa.M
end

section
namespace Go.Proofs.Ytfdcfihcfegekaa.M
open Go.RowKit Go.Proofs.YtfdcfihcfegekaaW.PrintWords Go.Proofs.YtfdcfihcfegekaaW.PrintLast Go.Proofs.YtfdcfihcfegekaaW.PrintMore Go.Proofs.Ytfdcfihcfegekaa.P Go.Proofs.Ytfdcfihcfegekaa.H
set_option linter.unusedVariables false
set_option linter.unusedSimpArgs false
set_option linter.unusedSectionVars false
section
variable (b : List (List Bool)) (ps : List Prod) (r look : Nat)
def Sel (i : Nat) : Prop := ∃ p,ps[i]? = some p ∧ p.f0 = (r : Int) ∧ (b.getD i []).getD look false = true
def GoodC (c : Clash) : Prop:=c.f0 = (r : Int) ∧ c.f1 = (look : Int) ∧ ∃ i j : Nat,c.f2 = (i : Int) ∧ c.f3 = (j : Int) ∧ i < j ∧ j < ps.length ∧ Sel b ps r look i ∧ Sel b ps r look j
theorem sel_lt {b : List (List Bool)} {ps : List Prod} {r look i : Nat} (h : Sel b ps r look i) : i < ps.length:=by
 obtain ⟨p,hp,_⟩ := h
 exact (List.getElem?_eq_some_iff.1 hp).1
variable {b ps r look}
theorem sel_mid {pre qs : List Prod} {p : Prod} (e : pre ++ p :: qs = ps) : Sel b ps r look pre.length ↔ p.f0 = (r : Int) ∧ (b.getD pre.length []).getD look false = true:=by
 have hp : ps[pre.length]? = some p:=by rw [← e];simp
 constructor
 · rintro ⟨q,hq,h⟩
   rw [hp] at hq
   obtain rfl:=Option.some.inj hq
   exact h
 · exact fun h => ⟨p,hp,h⟩
theorem prIn_inv : ∀ (qs pre : List Prod) (st : Int × List Clash),pre ++ qs = ps → (st.1 = -1 ∨ ∃ i : Nat,st.1 = (i : Int) ∧ i < pre.length ∧ Sel b ps r look i) →
    ((prIn b r look pre.length qs st).1 = -1 ∧ st.1 = -1 ∧ (∀ j,pre.length ≤ j → ¬ Sel b ps r look j) ∨
      ∃ i : Nat,(prIn b r look pre.length qs st).1 = (i : Int) ∧ Sel b ps r look i ∧ (st.1 = -1 → pre.length ≤ i ∧ ∀ j,pre.length ≤ j → Sel b ps r look j → i ≤ j) ∧ (st.1 ≠ -1 → st.1 = (i : Int))) ∧
    (∀ c ∈ (prIn b r look pre.length qs st).2,c ∈ st.2 ∨ GoodC b ps r look c) ∧
    (st.1 ≠ -1 → (∃ j,pre.length ≤ j ∧ Sel b ps r look j) → st.2.length < (prIn b r look pre.length qs st).2.length) ∧
    ((∃ i j,pre.length ≤ i ∧ i < j ∧ Sel b ps r look i ∧ Sel b ps r look j) → st.2.length < (prIn b r look pre.length qs st).2.length)
  | [],pre,st,e,hst => by
    have hno : ∀ j,pre.length ≤ j → ¬ Sel b ps r look j:=fun j hj h => by
      have:=sel_lt h
      rw [← e] at this
      simp at this
      omega
    refine ⟨?_,fun c hc => .inl hc,fun _ ⟨j,hj,h⟩ => absurd h (hno j hj),fun ⟨i,j,hi,_,h,_⟩ => absurd h (hno i hi)⟩
    rcases hst with h | ⟨i,h,hi,hs⟩
    · exact .inl ⟨h,h,hno⟩
    · exact .inr ⟨i,h,hs,fun h2 => by rw [h] at h2;omega,fun _ => h⟩
  | p :: qs,pre,st,e,hst => by
    have hm:=sel_mid (b:=b) (r:=r) (look:=look) e
    have hstep : ∀ st' : Int × List Clash,prStep b r look pre.length p st = st' → prIn b r look pre.length (p :: qs) st = prIn b r look (pre ++ [p]).length qs st' := fun st' h => by
      rw [prIn,h,List.length_append,List.length_singleton]
    have hlen : (pre ++ [p]).length = pre.length + 1:=by simp
    by_cases hs : Sel b ps r look pre.length
    · have hc:=hm.1 hs
      by_cases hx : st.1 = -1
      · have ih:=prIn_inv qs (pre ++ [p]) (((pre.length : Nat) : Int),st.2) (by rw [← e];simp) (.inr ⟨pre.length,rfl,by simp,hs⟩)
        rw [hstep _ (by rw [prStep,if_pos hc,if_pos (by rw [hx];decide)])]
        obtain ⟨h1,h2,h3,h4⟩ := ih
        have hne : ((pre.length : Nat) : Int) ≠ -1:=by omega
        refine ⟨?_,h2,fun h => absurd hx h,fun ⟨i,j,hi,hij,hsi,hsj⟩ => h3 hne ⟨j,by rw [hlen];omega,hsj⟩⟩
        rcases h1 with ⟨_,h5,_⟩ | ⟨i,h5,h6,_,h8⟩
        · exact absurd h5 hne
        · have:=h8 hne
          obtain rfl : pre.length = i:=by simp only at this;omega
          exact .inr ⟨pre.length,h5,h6,fun _ => ⟨Nat.le_refl _,fun j hj _ => hj⟩,fun h => absurd hx h⟩
      · obtain ⟨i0,hi0,hi0l,hs0⟩ := hst.resolve_left hx
        have ih:=prIn_inv qs (pre ++ [p]) (st.1,st.2 ++ [⟨(r : Int),(look : Int),st.1,((pre.length : Nat) : Int)⟩]) (by rw [← e];simp) (.inr ⟨i0,hi0,by simp;omega,hs0⟩)
        rw [hstep _ (by rw [prStep,if_pos hc,if_neg (by omega)])]
        obtain ⟨h1,h2,h3,h4⟩ := ih
        have hle:=prIn_le b r look qs (pre ++ [p]).length (st.1,st.2 ++ [⟨(r : Int),(look : Int),st.1,((pre.length : Nat) : Int)⟩])
        simp only [List.length_append,List.length_cons,List.length_nil] at hle
        have hlt : st.2.length < (prIn b r look (pre ++ [p]).length qs (st.1,st.2 ++ [⟨(r : Int),(look : Int),st.1,((pre.length : Nat) : Int)⟩])).2.length:=by
          simp only [List.length_append,List.length_cons,List.length_nil]
          omega
        refine ⟨?_,fun c hc' => ?_,fun _ _ => hlt,fun _ => hlt⟩
        · rcases h1 with ⟨_,h5,_⟩ | ⟨i,h5,h6,_,h8⟩
          · exact absurd h5 hx
          · exact .inr ⟨i,h5,h6,fun h => absurd h hx,fun _ => h8 hx⟩
        · rcases h2 c hc' with h | h
          · rcases List.mem_append.1 h with h | h
            · exact .inl h
            · obtain rfl:=List.mem_singleton.1 h
              exact .inr ⟨rfl,rfl,i0,pre.length,hi0,rfl,hi0l,sel_lt hs,hs0,hs⟩
          · exact .inr h
    · have hc : ¬ (p.f0 = (r : Int) ∧ (b.getD pre.length []).getD look false = true) := fun h => hs (hm.2 h)
      have ih:=prIn_inv qs (pre ++ [p]) st (by rw [← e];simp) (hst.imp id (fun ⟨i,h,hi,h2⟩ => ⟨i,h,by simp;omega,h2⟩))
      rw [hstep _ (by rw [prStep,if_neg hc])]
      obtain ⟨h1,h2,h3,h4⟩ := ih
      have hup : ∀ j,pre.length ≤ j → Sel b ps r look j → (pre ++ [p]).length ≤ j:=fun j hj h => by
        rw [hlen]
        by_cases he : j = pre.length
        · subst he;exact absurd h hs
        · omega
      refine ⟨?_,h2,fun h ⟨j,hj,h5⟩ => h3 h ⟨j,hup j hj h5,h5⟩,fun ⟨i,j,hi,hij,hsi,hsj⟩ => h4 ⟨i,j,hup i hi hsi,hij,hsi,hsj⟩⟩
      rcases h1 with ⟨h5,h6,h7⟩ | ⟨i,h5,h6,h7,h8⟩
      · exact .inl ⟨h5,h6,fun j hj h => h7 j (hup j hj h) h⟩
      · exact .inr ⟨i,h5,h6,fun h => ⟨by have:=(h7 h).1;rw [hlen] at this;omega,fun j hj h9 => (h7 h).2 j (hup j hj h9) h9⟩,h8⟩
end
theorem pRow_good (b : List (List Bool)) (ps : List Prod) (r : Nat) : ∀ (n look : Nat) (bad : List Clash),(∀ c ∈ (pRow b ps r n look bad).2,c ∈ bad ∨ ∃ k,look ≤ k ∧ k < look + n ∧ GoodC b ps r k c) ∧
    ∀ k,look ≤ k → k < look + n → (∃ i j,i < j ∧ Sel b ps r k i ∧ Sel b ps r k j) → bad.length < (pRow b ps r n look bad).2.length
  | 0,look,bad => ⟨fun c hc => .inl hc,fun k h1 h2 => absurd h1 (by omega)⟩
  | n + 1,look,bad => by
    obtain ⟨_,h2,_,h4⟩ := prIn_inv (b:=b) (ps:=ps) (r:=r) (look:=look) ps [] (-1,bad) rfl (.inl rfl)
    have ih:=pRow_good b ps r n (look + 1) (prIn b r look 0 ps (-1,bad)).2
    have hle1:=prIn_le b r look ps 0 (-1,bad)
    have hle2 : ∀ (n look : Nat) (bad : List Clash),bad.length ≤ (pRow b ps r n look bad).2.length:=fun n => by
      induction n with
      | zero => exact fun _ _ => Nat.le_refl _
      | succ n ihn => exact fun look bad => Nat.le_trans (prIn_le b r look ps 0 (-1,bad)) (ihn _ _)
    have hle3:=hle2 n (look + 1) (prIn b r look 0 ps (-1,bad)).2
    simp only [List.length_nil] at h2 h4
    simp only at hle1
    rw [pRow]
    refine ⟨fun c hc => ?_,fun k h5 h6 ⟨i,j,hij,hi,hj⟩ => ?_⟩
    · rcases ih.1 c hc with h | ⟨k,hk1,hk2,hk3⟩
      · rcases h2 c h with h | h
        · exact .inl h
        · exact .inr ⟨look,Nat.le_refl _,by omega,h⟩
      · exact .inr ⟨k,by omega,by omega,hk3⟩
    · simp only
      by_cases he : k = look
      · subst he
        have:=h4 ⟨i,j,Nat.zero_le _,hij,hi,hj⟩
        omega
      · have:=ih.2 k (by omega) (by omega) ⟨i,j,hij,hi,hj⟩
        omega
theorem pRow_le (b : List (List Bool)) (ps : List Prod) (r : Nat) : ∀ (n look : Nat) (bad : List Clash),bad.length ≤ (pRow b ps r n look bad).2.length
  | 0,_,_ => Nat.le_refl _
  | n + 1,look,bad => Nat.le_trans (prIn_le b r look ps 0 (-1,bad)) (pRow_le b ps r n _ _)
theorem pAll_le (b : List (List Bool)) (ps : List Prod) (w : Nat) : ∀ (n r : Nat) (bad : List Clash),bad.length ≤ (pAll b ps w n r bad).2.length
  | 0,_,_ => Nat.le_refl _
  | n + 1,r,bad => Nat.le_trans (pRow_le b ps r w 0 bad) (pAll_le b ps w n _ _)
theorem pAll_good (b : List (List Bool)) (ps : List Prod) (w : Nat) : ∀ (n r : Nat) (bad : List Clash),(∀ c ∈ (pAll b ps w n r bad).2,c ∈ bad ∨ ∃ q k,r ≤ q ∧ q < r + n ∧ k < w ∧ GoodC b ps q k c) ∧
    ∀ q k,r ≤ q → q < r + n → k < w → (∃ i j,i < j ∧ Sel b ps q k i ∧ Sel b ps q k j) → bad.length < (pAll b ps w n r bad).2.length
  | 0,r,bad => ⟨fun c hc => .inl hc,fun q k h1 h2 => absurd h1 (by omega)⟩
  | n + 1,r,bad => by
    have h1:=pRow_good b ps r w 0 bad
    have ih:=pAll_good b ps w n (r + 1) (pRow b ps r w 0 bad).2
    have hle1:=pRow_le b ps r w 0 bad
    have hle2:=pAll_le b ps w n (r + 1) (pRow b ps r w 0 bad).2
    rw [pAll]
    refine ⟨fun c hc => ?_,fun q k h5 h6 hk hex => ?_⟩
    · rcases ih.1 c hc with h | ⟨q,k,h2,h3,h4,h5⟩
      · rcases h1.1 c h with h | ⟨k,_,h2,h3⟩
        · exact .inl h
        · exact .inr ⟨r,k,Nat.le_refl _,by omega,by omega,h3⟩
      · exact .inr ⟨q,k,by omega,by omega,h4,h5⟩
    · simp only
      by_cases he : q = r
      · subst he
        have:=h1.2 k (Nat.zero_le _) (by omega) hex
        omega
      · have:=ih.2 q k (by omega) (by omega) hk hex
        omega
section
variable {nn nt : Nat} {ps : List Prod}
def SelD (nn nt : Nat) (ps : List Prod) (r look i : Nat) : Prop := ∃ p,ps[i]? = some p ∧ p.f0 = (r : Int) ∧ (look : Int) ∈ sel nn nt ps p
theorem selD_iff (hps : ps.all (okProd nn nt) = true) (r look i : Nat) : Sel (ps.map (chRow nn nt ps)) ps r look i ↔ SelD nn nt ps r look i:=by
 have hb : ∀ p,ps[i]? = some p → ((ps.map (chRow nn nt ps)).getD i []).getD look false = decide ((look : Int) ∈ sel nn nt ps p) := fun p hp => by
  have e : (ps.map (chRow nn nt ps)).getD i [] = chRow nn nt ps p:=by rw [List.getD_eq_getElem?_getD,List.getElem?_map,hp];rfl
  rw [e]
  exact chRow_getD hps p look
 constructor
 · rintro ⟨p,h1,h2,h3⟩
   rw [hb p h1] at h3
   exact ⟨p,h1,h2,of_decide_eq_true h3⟩
 · rintro ⟨p,h1,h2,h3⟩
   exact ⟨p,h1,h2,by rw [hb p h1];exact decide_eq_true h3⟩
theorem dPredict_clash (hps : ps.all (okProd nn nt) = true) : ∀ c ∈ (dPredict nn nt ps).2,∃ r look i j : Nat,c = ⟨(r : Int),(look : Int),(i : Int),(j : Int)⟩ ∧ r < nn ∧ look ≤ nt ∧ i < j ∧ j < ps.length ∧ SelD nn nt ps r look i ∧ SelD nn nt ps r look j:=fun c hc => by
  have e : dPredict nn nt ps = pAll (ps.map (chRow nn nt ps)) ps (nt + 1) nn 0 [] := by rw [dPredict,if_pos hps]
  rw [e] at hc
  rcases (pAll_good (ps.map (chRow nn nt ps)) ps (nt + 1) nn 0 []).1 c hc with h | ⟨q,k,_,h2,h3,h4,h5,i,j,h6,h7,h8,h9,h10,h11⟩
  · simp at h
  · obtain ⟨c0,c1,c2,c3⟩ := c
    simp only at h4 h5 h6 h7
    subst h4 h5 h6 h7
    exact ⟨q,k,i,j,rfl,by omega,by omega,h8,h9,(selD_iff hps q k i).1 h10,(selD_iff hps q k j).1 h11⟩
end
end Go.Proofs.Ytfdcfihcfegekaa.M
end

section
namespace Go.Proofs.Ytfdcfihcfegekaa.Pure
open Go.RowKit Go.Proofs.Ytfdcfihcfegekaa.P Go.Proofs.YtfdcfihcfegekaaW.PrintWords Go.Proofs.YtfdcfihcfegekaaW.PrintLast Go.Proofs.YtfdcfihcfegekaaW.PrintMore Go.Proofs.Ytfdcfihcfegekaa.H Go.Proofs.Ytfdcfihcfegekaa.M
section
variable {ns : List ByteArray} {ts : List Tok} {ps : List M.Prod} {cs : List Clash} {fl : List (List Int)}
theorem clLaw_l2_ev {x8 : Nat} {c : Clash} (h8 : x8 < cs.length) (hc : rd_T50 cs (x8 : Int) = c) {x10 : Int} {x92 : List Int} {x93 x94 : Int} {p : M.Prod} (h10 : 0 ≤ x10 ∧ x10 < (ps.length : Int)) (hp : rd_T30 ps x10 = p) (hpc : p.f0 = c.f0) {R : Bool}
    (hR : Ev (fun k => regletlaw14_PredictClashes.l1 k true cs fl (x8 : Int) x92 x93 (wrap64 (x94 + 1)) ns ts 0 0 ps) R) : ∀ (a pre : List Int) (acc : Bool),(acc = true ∨ c.f1 ∈ a) → pre.length + a.length ≤ 1000000 →
    Ev (fun k => regletlaw14_PredictClashes.l2 k true cs fl (x8 : Int) x10 (pre ++ a) acc (pre.length : Int) x92 x93 x94 ns ts 0 0 ps) R
  | [],pre,acc,h,_ => by
    obtain rfl : acc = true:=h.resolve_right (by simp)
    refine Ev.step (fun k => by rw [regletlaw14_PredictClashes.l2]) (Ev.neg (by simp) (Ev.pos rfl (Ev.pos h10.1 (Ev.pos h10.2 (Ev.pos (by omega) (Ev.pos (by omega) ?_))))))
    rw [hp,hc]
    exact Ev.pos hpc hR
  | x :: a,pre,acc,h,h3 => by
    simp only [List.length_cons] at h3
    refine Ev.step (fun k => by rw [regletlaw14_PredictClashes.l2]) (Ev.pos (by simp;omega) ?_)
    cases acc with
    | true =>
      have ih:=clLaw_l2_ev h8 hc h10 hp hpc hR a (pre ++ [x]) true (.inl rfl) (by simp;omega)
      simp only [← wrap_next pre _ (show pre.length ≤ 1000000 by omega),List.append_assoc,List.singleton_append] at ih
      exact Ev.pos rfl ih
    | false =>
      have hx : c.f1 ∈ x :: a:=h.resolve_left (by simp)
      have ih:=clLaw_l2_ev h8 hc h10 hp hpc hR a (pre ++ [x]) (x == c.f1) (by
        rcases List.mem_cons.1 hx with h | h
        · exact .inl (by simp [h])
        · exact .inr h) (by simp;omega)
      simp only [← wrap_next pre _ (show pre.length ≤ 1000000 by omega),List.append_assoc,List.singleton_append] at ih
      refine Ev.neg (by simp) (Ev.pos (by omega) (Ev.pos (by omega) (Ev.pos (by omega) ?_)))
      rw [show rd (pre ++ x :: a) (pre.length : Int) = x from getD_mid _ pre x a _ rfl,hc]
      exact ih
theorem clLaw_one_ev (hm : MadeOk ns ts ps) {x8 : Nat} {r look i : Nat} {u v : Int} (h8 : x8 < cs.length) (hc : rd_T50 cs (x8 : Int) = ⟨(r : Int),(look : Int),u,v⟩) {x92 : List Int} {x93 : Int} {m : Nat} (hrn : r < ns.length) (hs : SelD ns.length ts.length ps r look i) (hx : rd x92 (m : Int) = (i : Int)) (h1 : (m : Int) < x93) (h2 : (m : Int) < (x92.length : Int)) {R : Bool}
    (hR : Ev (fun k => regletlaw14_PredictClashes.l1 k true cs (dFollow ns.length ts.length ps) (x8 : Int) x92 x93 (wrap64 ((m : Int) + 1)) ns ts 0 0 ps) R) :
    Ev (fun k => regletlaw14_PredictClashes.l1 k true cs (dFollow ns.length ts.length ps) (x8 : Int) x92 x93 (m : Int) ns ts 0 0 ps) R:=by
 obtain ⟨p,hp,hp0,hp1⟩ := hs
 have hil:=(List.getElem?_eq_some_iff.1 hp).1
 have hmem:=List.mem_of_getElem? hp
 have hrp : rd_T30 ps (i : Int) = p:=by rw [rd_T30,Int.toNat_natCast,List.getD_eq_getElem?_getD,hp];rfl
 have hn5:=hm.n5
 have ht4:=hm.t4
 have hsr:=sel_range hm.ok p
 have hfl:=follow_range hm.ok
 refine Ev.step (fun k => by rw [regletlaw14_PredictClashes.l1]) (Ev.pos h1 (Ev.pos (by omega) (Ev.pos h2 ?_)))
 rw [hx]
 refine Ev.pos (by omega) (Ev.pos (by omega) ?_)
 rw [hrp]
 refine Ev.bind (refOf_ev ns ts 0 0 ps hm.small (by omega) (by omega) p.f1 (by have:=hm.r3 p hmem;omega)) ?_
 have hl:=(of_range hm.ok p.f1).1
 have hfin : ∀ l : List Int,l = sel ns.length ts.length ps p → Ev (fun k => regletlaw14_PredictClashes.j3 k true cs (dFollow ns.length ts.length ps) (x8 : Int) (i : Int) l x92 x93 (m : Int) ns ts 0 0 ps) R:=fun l el => by
  subst el
  exact Ev.step (fun k => by rw [regletlaw14_PredictClashes.j3];rfl) (clLaw_l2_ev h8 hc ⟨by omega,by omega⟩ hrp hp0 hR _ [] false (.inr hp1) (by have:=hsr.1;simp;omega))
 by_cases he : (dOf ns.length ts.length ps p.f1).2 = true
 rotate_left
 · exact Ev.neg he (hfin _ (by rw [sel,if_neg he,List.append_nil]))
 refine Ev.pos he (Ev.pos (by omega) (Ev.pos (by omega) ?_))
 rw [hc]
 have h4:=(hfl.2 r).1
 refine Ev.pos (by simp only;omega) (Ev.pos (by rw [hfl.1];simp only;omega) (Ev.pos ?_ (hfin _ ?_)))
 · simp only [rd_L3,Int.toNat_natCast];omega
 · rw [sel,if_pos he,hp0];rfl
theorem clLaw_l0_ev (hm : MadeOk ns ts ps) (hg : ∀ c ∈ cs,∃ r look i j : Nat,c = ⟨(r : Int),(look : Int),(i : Int),(j : Int)⟩ ∧ r < ns.length ∧ look ≤ ts.length ∧ i < j ∧ j < ps.length ∧ SelD ns.length ts.length ps r look i ∧ SelD ns.length ts.length ps r look j) (hl : cs.length ≤ 1000000) : ∀ (ds pre : List Clash),pre ++ ds = cs →
    Ev (fun k => regletlaw14_PredictClashes.l0 k true cs (dFollow ns.length ts.length ps) (pre.length : Int) ns ts 0 0 ps) true
  | [],pre,e => by
    have hz : ¬ (pre.length : Int) < (cs.length : Int) := by rw [← e];simp
    exact Ev.step (fun k => by rw [regletlaw14_PredictClashes.l0]) (Ev.neg hz (Ev.some rfl))
  | c :: ds,pre,e => by
    have hlen : cs.length = pre.length + (ds.length + 1) := by rw [← e];simp
    have ih:=clLaw_l0_ev hm hg hl ds (pre ++ [c]) (by rw [← e];simp)
    rw [← wrap_next pre _ (by omega)] at ih
    have hrc : rd_T50 cs (pre.length : Int) = c:=by rw [← e];exact getD_mid _ pre c ds _ rfl
    obtain ⟨r,look,i,j,rfl,hr,hk,hij,hj,hsi,hsj⟩ := hg c (by rw [← e];simp)
    refine Ev.step (fun k => by rw [regletlaw14_PredictClashes.l0]) (Ev.pos (by omega) (Ev.pos (by omega) ?_))
    rw [hrc]
    refine Ev.neg (by simp only;omega) (Ev.neg (by simp only;omega) (Ev.neg (by simp only;omega) (Ev.neg (by simp only;omega) ?_)))
    refine Ev.step (fun k => by rw [regletlaw14_PredictClashes.j1]) (Ev.neg (by simp;omega) (Ev.pos (by omega) (Ev.pos (by omega) ?_)))
    rw [hrc]
    refine Ev.bind0 (a := [(i : Int),(j : Int)]) rfl ?_
    have h2 : Ev (fun k => regletlaw14_PredictClashes.l1 k true cs (dFollow ns.length ts.length ps) (pre.length : Int) [(i : Int),(j : Int)] 2 2 ns ts 0 0 ps) true :=
      Ev.step (fun k => by rw [regletlaw14_PredictClashes.l1]) (Ev.neg (by omega) ih)
    have h1:=clLaw_one_ev hm (cs:=cs) (x8:=pre.length) (by omega) hrc (x92 := [(i : Int),(j : Int)]) (x93:=2) (m:=1) hr hsj rfl (by decide) (by simp) (by rw [show wrap64 (((1 : Nat) : Int) + 1) = 2 from by rw [wrap64_id (by omega) (by omega)];rfl];exact h2)
    have h0:=clLaw_one_ev hm (cs:=cs) (x8:=pre.length) (by omega) hrc (x92 := [(i : Int),(j : Int)]) (x93:=2) (m:=0) hr hsi rfl (by decide) (by simp) (by rw [show wrap64 (((0 : Nat) : Int) + 1) = ((1 : Nat) : Int) from by rw [wrap64_id (by omega) (by omega)];rfl];exact h1)
    exact h0
end
theorem PredictClashes : regletlaw14_PredictClashes.Pure:=by
 intro l0 _ _ hw
 obtain ⟨ns,ts,ps,hm,hM⟩ := made_ev hw
 have hp10:=hm.p10
 have hn5:=hm.n5
 have ht4:=hm.t4
 apply Ev.rounds
 unfold regletlaw14_PredictClashes.f
 refine Ev.bind awake14_ev (Ev.pos rfl (Ev.bind hM (Ev.bind (predict_ev ns ts 0 0 ps hm.small (by omega) (by omega) (by omega)) (Ev.bind (Ev.val (refFollow_ev ns ts 0 0 ps hm.small (by omega) (by omega)) rfl) ?_))))
 refine clLaw_l0_ev hm (dPredict_clash hm.ok) ?_ _ [] rfl
 have hb:=bad_bound ns ts ps hm.small (by omega) (by omega) (by omega) (ps.map (chRow ns.length ts.length ps))
 rw [dPredict,if_pos hm.ok]
 omega
end Go.Proofs.Ytfdcfihcfegekaa.Pure
end
