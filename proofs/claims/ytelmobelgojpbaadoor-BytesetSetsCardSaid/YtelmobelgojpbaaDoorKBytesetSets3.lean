/- Packed texts of this claim: the walks of the functions, and their plain laws; see the claim's last text. -/
import Derived.Test.YtelmobelgojpbaaDoorRows
import Derived.WideKeyPair
import Derived.WideKeyArr2
import Derived.ProofKit
import Derived.OpenShut
import Derived.ChangeSame
import Derived.ChangeVars
import Derived.LaidLaws
import Derived.LaidHandle
import Derived.MakeChecks
import Derived.Test.YtelmobelgojpbaaDoorKBytesetSets2
section
namespace Go.Proofs.YtelmobelgojpbaaDoor.P
open Go.Proofs.YtelmobelgojpbaaDoor.H Go.RowKit Go.Proofs.YtelmobelgojpbaaDoorW.PrintWords Go.Proofs.YtelmobelgojpbaaDoorW.PrintLast Go.Proofs.YtelmobelgojpbaaDoorW.PrintMore
set_option linter.unusedVariables false
set_option linter.unusedSimpArgs false
attribute [local go_sem high] eqSt
set_option maxHeartbeats 8000000 in
set_option maxRecDepth 100000 in
theorem sets_law (a b r11 r20 r29 r37:St) (r44 k:Int) (r52:Bool) (w:World) (ht:Tab w)
 (k11:∀W,Calls Tryd.prog 12 #[sv a.s0 a.s1 a.s2 a.s3,sv b.s0 b.s1 b.s2 b.s3] W fun e w'=>e= .returned (sv r11.s0 r11.s1 r11.s2 r11.s3)∧Below W.heap.size W w')
 (k14:∀W,Calls Tryd.prog 16 #[sv a.s0 a.s1 a.s2 a.s3,sv b.s0 b.s1 b.s2 b.s3] W fun e w'=>e= .returned (sv r11.s0 r11.s1 r11.s2 r11.s3)∧Below W.heap.size W w')
 (k20:∀W,Calls Tryd.prog 17 #[sv a.s0 a.s1 a.s2 a.s3,sv b.s0 b.s1 b.s2 b.s3] W fun e w'=>e= .returned (sv r20.s0 r20.s1 r20.s2 r20.s3)∧Below W.heap.size W w')
 (k23:∀W,Calls Tryd.prog 18 #[sv a.s0 a.s1 a.s2 a.s3,sv b.s0 b.s1 b.s2 b.s3] W fun e w'=>e= .returned (sv r20.s0 r20.s1 r20.s2 r20.s3)∧Below W.heap.size W w')
 (k29:∀W,Calls Tryd.prog 19 #[sv a.s0 a.s1 a.s2 a.s3,sv b.s0 b.s1 b.s2 b.s3] W fun e w'=>e= .returned (sv r29.s0 r29.s1 r29.s2 r29.s3)∧Below W.heap.size W w')
 (k32:∀W,Calls Tryd.prog 20 #[sv a.s0 a.s1 a.s2 a.s3,sv b.s0 b.s1 b.s2 b.s3] W fun e w'=>e= .returned (sv r29.s0 r29.s1 r29.s2 r29.s3)∧Below W.heap.size W w')
 (k37:∀W,Calls Tryd.prog 21 #[sv a.s0 a.s1 a.s2 a.s3] W fun e w'=>e= .returned (sv r37.s0 r37.s1 r37.s2 r37.s3)∧Below W.heap.size W w')
 (k39:∀W,Calls Tryd.prog 22 #[sv a.s0 a.s1 a.s2 a.s3] W fun e w'=>e= .returned (sv r37.s0 r37.s1 r37.s2 r37.s3)∧Below W.heap.size W w')
 (k44:∀W,Calls Tryd.prog 14 #[sv a.s0 a.s1 a.s2 a.s3] W fun e w'=>e= .returned (.int .i64 r44)∧Below W.heap.size W w')
 (k46:∀W,Calls Tryd.prog 23 #[sv a.s0 a.s1 a.s2 a.s3] W fun e w'=>e= .returned (.int .i64 r44)∧Below W.heap.size W w')
 (k52:∀W,Calls Tryd.prog 15 #[sv a.s0 a.s1 a.s2 a.s3,.int .i64 k] W fun e w'=>e= .returned (.bool r52)∧Below W.heap.size W w')
 (k55:∀W,Calls Tryd.prog 24 #[sv a.s0 a.s1 a.s2 a.s3,.int .i64 k] W fun e w'=>e= .returned (.bool r52)∧Below W.heap.size W w'):
 Calls Tryd.prog 5 #[sv a.s0 a.s1 a.s2 a.s3,sv b.s0 b.s1 b.s2 b.s3,.int .i64 k] w fun e w'=>e= .returned (.bool true)∧Below w.heap.size w w':=by
 have K11:=aM k11;have K14:=aM k14;have K20:=aM k20;have K23:=aM k23;have K29:=aM k29;have K32:=aM k32;have K37:=aM k37;have K39:=aM k39;have K44:=aM k44;have K46:=aM k46;have K52:=aM k52;have K55:=aM k55;clear k11 k14 k20 k23 k29 k32 k37 k39 k44 k46 k52 k55;have HT:=aM ht;clear ht;go_enter Tryd.func5,Tryd.ntmps5
 go_upto_region 1 with fail
 have HA0:Aside0 ((w.alloc (.cells #[.int .u64 a.s0,.int .u64 a.s1,.int .u64 a.s2,.int .u64 a.s3] 24)).heap[w.heap.size]?=some (.cells #[.int .u64 a.s0,.int .u64 a.s1,.int .u64 a.s2,.int .u64 a.s3] 24 (0,0))):=⟨heap_alloc_new w _⟩;have HW0:Aside0 (Below w.heap.size w (w.alloc (.cells #[.int .u64 a.s0,.int .u64 a.s1,.int .u64 a.s2,.int .u64 a.s3] 24))):=⟨aN (Below.refl _ _) _⟩;have HZ0:Aside0 ((w.alloc (.cells #[.int .u64 a.s0,.int .u64 a.s1,.int .u64 a.s2,.int .u64 a.s3] 24)).heap.size=w.heap.size+1):=⟨by simp⟩;generalize w.alloc (.cells #[.int .u64 a.s0,.int .u64 a.s1,.int .u64 a.s2,.int .u64 a.s3] 24)=wa0 at HA0 HW0 HZ0 ⊢;have HB1:Aside0 ((wa0.alloc (.cells #[.int .u64 b.s0,.int .u64 b.s1,.int .u64 b.s2,.int .u64 b.s3] 24)).heap[w.heap.size+1]?=some (.cells #[.int .u64 b.s0,.int .u64 b.s1,.int .u64 b.s2,.int .u64 b.s3] 24 (0,0))):=⟨by rw [←HZ0.out];exact heap_alloc_new wa0 _⟩;have HA1:Aside0 ((wa0.alloc (.cells #[.int .u64 b.s0,.int .u64 b.s1,.int .u64 b.s2,.int .u64 b.s3] 24)).heap[w.heap.size]?=some (.cells #[.int .u64 a.s0,.int .u64 a.s1,.int .u64 a.s2,.int .u64 a.s3] 24 (0,0))):=⟨aI HA0.out _⟩;have HW1:Aside0 (Below w.heap.size w (wa0.alloc (.cells #[.int .u64 b.s0,.int .u64 b.s1,.int .u64 b.s2,.int .u64 b.s3] 24))):=⟨aN HW0.out _⟩;have HZ1:Aside0 ((wa0.alloc (.cells #[.int .u64 b.s0,.int .u64 b.s1,.int .u64 b.s2,.int .u64 b.s3] 24)).heap.size=w.heap.size+2):=⟨by simp [HZ0.out]⟩;generalize wa0.alloc (.cells #[.int .u64 b.s0,.int .u64 b.s1,.int .u64 b.s2,.int .u64 b.s3] 24)=wa1 at HA1 HB1 HW1 HZ1 ⊢;clear HA0 HW0 HZ0;have HA:=HA1;have HB:=HB1;have HW:=HW1;clear HA1 HB1 HW1 HZ1;have KA:Aside0 (∀W,Below wa1.heap.size wa1 W→Calls Tryd.prog 10 #[] W fun e w'=>e= .returned (.bool true)∧Below W.heap.size W w'):=⟨fun W hW=>awake_walk W (HT.out.below (HW.out.trans (hW.mono HW.out.size)))⟩
 have HCA:Aside0 (∀W,Below wa1.heap.size wa1 W→W.cell? ⟨w.heap.size,0,none⟩=some (.int .u64 a.s0)∧W.cell? ⟨w.heap.size,1,none⟩=some (.int .u64 a.s1)∧W.cell? ⟨w.heap.size,2,none⟩=some (.int .u64 a.s2)∧W.cell? ⟨w.heap.size,3,none⟩=some (.int .u64 a.s3)∧W.cell? ⟨w.heap.size+1,0,none⟩=some (.int .u64 b.s0)∧W.cell? ⟨w.heap.size+1,1,none⟩=some (.int .u64 b.s1)∧W.cell? ⟨w.heap.size+1,2,none⟩=some (.int .u64 b.s2)∧W.cell? ⟨w.heap.size+1,3,none⟩=some (.int .u64 b.s3)):=⟨fun W hW=>by
  have h0:=(hW.block _ (bN HA.out)).trans HA.out;have h1:=(hW.block _ (bN HB.out)).trans HB.out;exact⟨(aG h0 0).trans rfl,(aG h0 1).trans rfl,(aG h0 2).trans rfl,(aG h0 3).trans rfl,(aG h1 0).trans rfl,(aG h1 1).trans rfl,(aG h1 2).trans rfl,(aG h1 3).trans rfl⟩⟩
 have HB0:Aside0 (Below wa1.heap.size wa1 wa1):=⟨Below.refl _ _⟩;refine start_ (n:=52) (S:=fun w'=>w'.cell? ⟨w.heap.size,0,none⟩=some (.int .u64 a.s0)∧w'.cell? ⟨w.heap.size,1,none⟩=some (.int .u64 a.s1)∧w'.cell? ⟨w.heap.size,2,none⟩=some (.int .u64 a.s2)∧w'.cell? ⟨w.heap.size,3,none⟩=some (.int .u64 a.s3)∧w'.cell? ⟨w.heap.size+1,0,none⟩=some (.int .u64 b.s0)∧w'.cell? ⟨w.heap.size+1,1,none⟩=some (.int .u64 b.s1)∧w'.cell? ⟨w.heap.size+1,2,none⟩=some (.int .u64 b.s2)∧w'.cell? ⟨w.heap.size+1,3,none⟩=some (.int .u64 b.s3)) (ds:= []) #[F,F,F,F,F,F,F,F,F,F,F,F,F,F,F,F,F,F,F,F,F,F,F,F,F,F,F,F,F,F,F,F,F,F,F,F,F,F,F,F,F,F,F,F,F,F,F,F,F,F,F,F] (by kernel_rfl) rfl rfl ⟨(HCA.out _ HB0.out).1,(HCA.out _ HB0.out).2.1,(HCA.out _ HB0.out).2.2.1,(HCA.out _ HB0.out).2.2.2.1,(HCA.out _ HB0.out).2.2.2.2.1,(HCA.out _ HB0.out).2.2.2.2.2.1,(HCA.out _ HB0.out).2.2.2.2.2.2.1,(HCA.out _ HB0.out).2.2.2.2.2.2.2⟩ (fun hHeld=>?_)
 refine one_ (i:=0) (N:=some 7) #[T,F,F,F,F,F,F,F,F,F,F,F,F,F,F,F,F,F,F,F,F,F,F,F,F,F,F,F,F,F,F,F,F,F,F,F,F,F,F,F,F,F,F,F,F,F,F,F,F,F,F,F] rfl rfl (by kernel_rfl) (by decide) (fun K hK=>?_)
 refine goes_ Tryd.func10 (by kernel_rfl) rfl #[] (by rfl) rfl rfl (by simp only [List.map_toArray,List.map_cons,List.map_nil]) ?_
 with_reducible refine(KA.out _ (below_drew1 HB0.out)).mono ?_
 rintro e w1 ⟨rfl,hb1⟩
 refine⟨_,rfl,?_⟩
 have HB1:Aside0 (Below wa1.heap.size wa1 w1):=⟨((below_drew1 HB0.out)).trans (hb1.mono ((below_drew1 HB0.out)).size)⟩;clear hb1;refine hK.out _ _ ⟨(HCA.out _ HB1.out).1,(HCA.out _ HB1.out).2.1,(HCA.out _ HB1.out).2.2.1,(HCA.out _ HB1.out).2.2.2.1,(HCA.out _ HB1.out).2.2.2.2.1,(HCA.out _ HB1.out).2.2.2.2.2.1,(HCA.out _ HB1.out).2.2.2.2.2.2.1,(HCA.out _ HB1.out).2.2.2.2.2.2.2⟩ (fun hHeld=>?_)
 clear hK K;refine norm_ (a':=?_) ?_ ?_
 rotate_left
 ·show Act.put _ (some 7) _=_
  simp only [pq];rfl
 refine pure_ (i:=1) (N:=some 8) (v:=?_) (a':=?_) #[T,T,F,F,F,F,F,F,F,F,F,F,F,F,F,F,F,F,F,F,F,F,F,F,F,F,F,F,F,F,F,F,F,F,F,F,F,F,F,F,F,F,F,F,F,F,F,F,F,F,F,F] rfl rfl (by kernel_rfl) (fun _ _ _ h=>h) (Or.inl ⟨by rfl,?_⟩) ?_ ?_
 rotate_left;(intro w';go_simp;with_reducible rfl);rotate_left;(simp only [pq];rfl)
 refine take_ (i:=2) (N:=some 9) (v:=?_) (a':=?_) #[T,T,T,F,F,F,F,F,F,F,F,F,F,F,F,F,F,F,F,F,F,F,F,F,F,F,F,F,F,F,F,F,F,F,F,F,F,F,F,F,F,F,F,F,F,F,F,F,F,F,F,F] rfl rfl (by kernel_rfl) (fun _ _ _ h=>h) (Or.inl ⟨by rfl,?_⟩) hHeld ?_ ?_
 rotate_left
 ·rintro w' ⟨s0,s1,s2,s3,s4,s5,s6,s7⟩
  go_simp
  with_reducible rfl
 rotate_left
 ·simp only [pq]
  rfl
 refine take_ (i:=3) (N:=some 10) (v:=?_) (a':=?_) #[T,T,T,T,F,F,F,F,F,F,F,F,F,F,F,F,F,F,F,F,F,F,F,F,F,F,F,F,F,F,F,F,F,F,F,F,F,F,F,F,F,F,F,F,F,F,F,F,F,F,F,F] rfl rfl (by kernel_rfl) (fun _ _ _ h=>h) (Or.inl ⟨by rfl,?_⟩) hHeld ?_ ?_
 rotate_left
 ·rintro w' ⟨s0,s1,s2,s3,s4,s5,s6,s7⟩
  go_simp
  with_reducible rfl
 rotate_left
 ·simp only [pq]
  rfl
 refine take_ (i:=5) (N:=some 12) (v:=?_) (a':=?_) #[T,T,T,T,F,T,F,F,F,F,F,F,F,F,F,F,F,F,F,F,F,F,F,F,F,F,F,F,F,F,F,F,F,F,F,F,F,F,F,F,F,F,F,F,F,F,F,F,F,F,F,F] rfl rfl (by kernel_rfl) (fun _ _ _ h=>h) (Or.inl ⟨by rfl,?_⟩) hHeld ?_ ?_
 rotate_left
 ·rintro w' ⟨s0,s1,s2,s3,s4,s5,s6,s7⟩
  go_simp
  with_reducible rfl
 rotate_left
 ·simp only [pq]
  rfl
 refine take_ (i:=6) (N:=some 13) (v:=?_) (a':=?_) #[T,T,T,T,F,T,T,F,F,F,F,F,F,F,F,F,F,F,F,F,F,F,F,F,F,F,F,F,F,F,F,F,F,F,F,F,F,F,F,F,F,F,F,F,F,F,F,F,F,F,F,F] rfl rfl (by kernel_rfl) (fun _ _ _ h=>h) (Or.inl ⟨by rfl,?_⟩) hHeld ?_ ?_
 rotate_left
 ·rintro w' ⟨s0,s1,s2,s3,s4,s5,s6,s7⟩
  go_simp
  with_reducible rfl
 rotate_left
 ·simp only [pq]
  rfl
 refine one_ (i:=4) (N:=some 11) #[T,T,T,T,T,T,T,F,F,F,F,F,F,F,F,F,F,F,F,F,F,F,F,F,F,F,F,F,F,F,F,F,F,F,F,F,F,F,F,F,F,F,F,F,F,F,F,F,F,F,F,F] rfl rfl (by kernel_rfl) (by decide) (fun K hK=>?_)
 refine goes_ Tryd.func12 (by kernel_rfl) rfl #[sv a.s0 a.s1 a.s2 a.s3,sv b.s0 b.s1 b.s2 b.s3] (by rfl) rfl rfl (by simp only [List.map_toArray,List.map_cons,List.map_nil];rfl) ?_
 with_reducible refine(K11.out w1).mono ?_
 rintro e w2 ⟨rfl,hb2⟩
 refine⟨_,rfl,?_⟩
 have HB2:Aside0 (Below wa1.heap.size wa1 w2):=⟨(HB1.out).trans (hb2.mono (HB1.out).size)⟩;clear hb2;refine hK.out _ _ ⟨(HCA.out _ HB2.out).1,(HCA.out _ HB2.out).2.1,(HCA.out _ HB2.out).2.2.1,(HCA.out _ HB2.out).2.2.2.1,(HCA.out _ HB2.out).2.2.2.2.1,(HCA.out _ HB2.out).2.2.2.2.2.1,(HCA.out _ HB2.out).2.2.2.2.2.2.1,(HCA.out _ HB2.out).2.2.2.2.2.2.2⟩ (fun hHeld=>?_)
 clear hK K;refine norm_ (a':=?_) ?_ ?_
 rotate_left
 ·show Act.put _ (some 11) _=_
  simp only [pq];rfl
 refine one_ (i:=7) (N:=some 14) #[T,T,T,T,T,T,T,T,F,F,F,F,F,F,F,F,F,F,F,F,F,F,F,F,F,F,F,F,F,F,F,F,F,F,F,F,F,F,F,F,F,F,F,F,F,F,F,F,F,F,F,F] rfl rfl (by kernel_rfl) (by decide) (fun K hK=>?_)
 refine goes_ Tryd.func16 (by kernel_rfl) rfl #[sv a.s0 a.s1 a.s2 a.s3,sv b.s0 b.s1 b.s2 b.s3] (by rfl) rfl rfl (by simp only [List.map_toArray,List.map_cons,List.map_nil];rfl) ?_
 with_reducible refine(K14.out w2).mono ?_
 rintro e w3 ⟨rfl,hb3⟩
 refine⟨_,rfl,?_⟩
 have HB3:Aside0 (Below wa1.heap.size wa1 w3):=⟨(HB2.out).trans (hb3.mono (HB2.out).size)⟩;clear hb3;refine hK.out _ _ ⟨(HCA.out _ HB3.out).1,(HCA.out _ HB3.out).2.1,(HCA.out _ HB3.out).2.2.1,(HCA.out _ HB3.out).2.2.2.1,(HCA.out _ HB3.out).2.2.2.2.1,(HCA.out _ HB3.out).2.2.2.2.2.1,(HCA.out _ HB3.out).2.2.2.2.2.2.1,(HCA.out _ HB3.out).2.2.2.2.2.2.2⟩ (fun hHeld=>?_)
 clear hK K;refine norm_ (a':=?_) ?_ ?_
 rotate_left
 ·show Act.put _ (some 14) _=_
  simp only [pq];rfl
 refine pure_ (i:=8) (N:=some 15) (v:=?_) (a':=?_) #[T,T,T,T,T,T,T,T,T,F,F,F,F,F,F,F,F,F,F,F,F,F,F,F,F,F,F,F,F,F,F,F,F,F,F,F,F,F,F,F,F,F,F,F,F,F,F,F,F,F,F,F] rfl rfl (by kernel_rfl) (fun _ _ _ h=>h) (Or.inl ⟨by rfl,?_⟩) ?_ ?_
 rotate_left;(intro w';go_simp;with_reducible rfl);rotate_left;(simp only [pq];rfl)
 refine pure_ (i:=9) (N:=some 16) (v:=?_) (a':=?_) #[T,T,T,T,T,T,T,T,T,T,F,F,F,F,F,F,F,F,F,F,F,F,F,F,F,F,F,F,F,F,F,F,F,F,F,F,F,F,F,F,F,F,F,F,F,F,F,F,F,F,F,F] rfl rfl (by kernel_rfl) (fun _ _ _ h=>h) (Or.inl ⟨by rfl,?_⟩) ?_ ?_
 rotate_left;(intro w';go_simp;with_reducible rfl);rotate_left;(simp only [pq];rfl)
 refine pure_ (i:=10) (N:=some 17) (v:=?_) (a':=?_) #[T,T,T,T,T,T,T,T,T,T,T,F,F,F,F,F,F,F,F,F,F,F,F,F,F,F,F,F,F,F,F,F,F,F,F,F,F,F,F,F,F,F,F,F,F,F,F,F,F,F,F,F] rfl rfl (by kernel_rfl) (fun _ _ _ h=>h) (Or.inl ⟨by rfl,?_⟩) ?_ ?_
 rotate_left;(intro w';go_simp;with_reducible rfl);rotate_left;(simp only [pq];rfl)
 refine take_ (i:=11) (N:=some 18) (v:=?_) (a':=?_) #[T,T,T,T,T,T,T,T,T,T,T,T,F,F,F,F,F,F,F,F,F,F,F,F,F,F,F,F,F,F,F,F,F,F,F,F,F,F,F,F,F,F,F,F,F,F,F,F,F,F,F,F] rfl rfl (by kernel_rfl) (fun _ _ _ h=>h) (Or.inl ⟨by rfl,?_⟩) hHeld ?_ ?_
 rotate_left
 ·rintro w' ⟨s0,s1,s2,s3,s4,s5,s6,s7⟩
  go_simp
  with_reducible rfl
 rotate_left
 ·simp only [pq]
  rfl
 refine take_ (i:=12) (N:=some 19) (v:=?_) (a':=?_) #[T,T,T,T,T,T,T,T,T,T,T,T,T,F,F,F,F,F,F,F,F,F,F,F,F,F,F,F,F,F,F,F,F,F,F,F,F,F,F,F,F,F,F,F,F,F,F,F,F,F,F,F] rfl rfl (by kernel_rfl) (fun _ _ _ h=>h) (Or.inl ⟨by rfl,?_⟩) hHeld ?_ ?_
 rotate_left
 ·rintro w' ⟨s0,s1,s2,s3,s4,s5,s6,s7⟩
  go_simp
  with_reducible rfl
 rotate_left
 ·simp only [pq]
  rfl
 refine take_ (i:=14) (N:=some 21) (v:=?_) (a':=?_) #[T,T,T,T,T,T,T,T,T,T,T,T,T,F,T,F,F,F,F,F,F,F,F,F,F,F,F,F,F,F,F,F,F,F,F,F,F,F,F,F,F,F,F,F,F,F,F,F,F,F,F,F] rfl rfl (by kernel_rfl) (fun _ _ _ h=>h) (Or.inl ⟨by rfl,?_⟩) hHeld ?_ ?_
 rotate_left
 ·rintro w' ⟨s0,s1,s2,s3,s4,s5,s6,s7⟩
  go_simp
  with_reducible rfl
 rotate_left
 ·simp only [pq]
  rfl
 refine take_ (i:=15) (N:=some 22) (v:=?_) (a':=?_) #[T,T,T,T,T,T,T,T,T,T,T,T,T,F,T,T,F,F,F,F,F,F,F,F,F,F,F,F,F,F,F,F,F,F,F,F,F,F,F,F,F,F,F,F,F,F,F,F,F,F,F,F] rfl rfl (by kernel_rfl) (fun _ _ _ h=>h) (Or.inl ⟨by rfl,?_⟩) hHeld ?_ ?_
 rotate_left
 ·rintro w' ⟨s0,s1,s2,s3,s4,s5,s6,s7⟩
  go_simp
  with_reducible rfl
 rotate_left
 ·simp only [pq]
  rfl
 refine one_ (i:=13) (N:=some 20) #[T,T,T,T,T,T,T,T,T,T,T,T,T,T,T,T,F,F,F,F,F,F,F,F,F,F,F,F,F,F,F,F,F,F,F,F,F,F,F,F,F,F,F,F,F,F,F,F,F,F,F,F] rfl rfl (by kernel_rfl) (by decide) (fun K hK=>?_)
 refine goes_ Tryd.func17 (by kernel_rfl) rfl #[sv a.s0 a.s1 a.s2 a.s3,sv b.s0 b.s1 b.s2 b.s3] (by rfl) rfl rfl (by simp only [List.map_toArray,List.map_cons,List.map_nil];rfl) ?_
 with_reducible refine(K20.out w3).mono ?_
 rintro e w4 ⟨rfl,hb4⟩
 refine⟨_,rfl,?_⟩
 have HB4:Aside0 (Below wa1.heap.size wa1 w4):=⟨(HB3.out).trans (hb4.mono (HB3.out).size)⟩;clear hb4;refine hK.out _ _ ⟨(HCA.out _ HB4.out).1,(HCA.out _ HB4.out).2.1,(HCA.out _ HB4.out).2.2.1,(HCA.out _ HB4.out).2.2.2.1,(HCA.out _ HB4.out).2.2.2.2.1,(HCA.out _ HB4.out).2.2.2.2.2.1,(HCA.out _ HB4.out).2.2.2.2.2.2.1,(HCA.out _ HB4.out).2.2.2.2.2.2.2⟩ (fun hHeld=>?_)
 clear hK K;refine norm_ (a':=?_) ?_ ?_
 rotate_left
 ·show Act.put _ (some 20) _=_
  simp only [pq];rfl
 refine one_ (i:=16) (N:=some 23) #[T,T,T,T,T,T,T,T,T,T,T,T,T,T,T,T,T,F,F,F,F,F,F,F,F,F,F,F,F,F,F,F,F,F,F,F,F,F,F,F,F,F,F,F,F,F,F,F,F,F,F,F] rfl rfl (by kernel_rfl) (by decide) (fun K hK=>?_)
 refine goes_ Tryd.func18 (by kernel_rfl) rfl #[sv a.s0 a.s1 a.s2 a.s3,sv b.s0 b.s1 b.s2 b.s3] (by rfl) rfl rfl (by simp only [List.map_toArray,List.map_cons,List.map_nil];rfl) ?_
 with_reducible refine(K23.out w4).mono ?_
 rintro e w5 ⟨rfl,hb5⟩
 refine⟨_,rfl,?_⟩
 have HB5:Aside0 (Below wa1.heap.size wa1 w5):=⟨(HB4.out).trans (hb5.mono (HB4.out).size)⟩;clear hb5;refine hK.out _ _ ⟨(HCA.out _ HB5.out).1,(HCA.out _ HB5.out).2.1,(HCA.out _ HB5.out).2.2.1,(HCA.out _ HB5.out).2.2.2.1,(HCA.out _ HB5.out).2.2.2.2.1,(HCA.out _ HB5.out).2.2.2.2.2.1,(HCA.out _ HB5.out).2.2.2.2.2.2.1,(HCA.out _ HB5.out).2.2.2.2.2.2.2⟩ (fun hHeld=>?_)
 clear hK K;refine norm_ (a':=?_) ?_ ?_
 rotate_left
 ·show Act.put _ (some 23) _=_
  simp only [pq];rfl
 refine pure_ (i:=17) (N:=some 24) (v:=?_) (a':=?_) #[T,T,T,T,T,T,T,T,T,T,T,T,T,T,T,T,T,T,F,F,F,F,F,F,F,F,F,F,F,F,F,F,F,F,F,F,F,F,F,F,F,F,F,F,F,F,F,F,F,F,F,F] rfl rfl (by kernel_rfl) (fun _ _ _ h=>h) (Or.inl ⟨by rfl,?_⟩) ?_ ?_
 rotate_left;(intro w';go_simp;with_reducible rfl);rotate_left;(simp only [pq];rfl)
 refine pure_ (i:=18) (N:=some 25) (v:=?_) (a':=?_) #[T,T,T,T,T,T,T,T,T,T,T,T,T,T,T,T,T,T,T,F,F,F,F,F,F,F,F,F,F,F,F,F,F,F,F,F,F,F,F,F,F,F,F,F,F,F,F,F,F,F,F,F] rfl rfl (by kernel_rfl) (fun _ _ _ h=>h) (Or.inl ⟨by rfl,?_⟩) ?_ ?_
 rotate_left;(intro w';go_simp;with_reducible rfl);rotate_left;(simp only [pq];rfl)
 refine pure_ (i:=19) (N:=some 26) (v:=?_) (a':=?_) #[T,T,T,T,T,T,T,T,T,T,T,T,T,T,T,T,T,T,T,T,F,F,F,F,F,F,F,F,F,F,F,F,F,F,F,F,F,F,F,F,F,F,F,F,F,F,F,F,F,F,F,F] rfl rfl (by kernel_rfl) (fun _ _ _ h=>h) (Or.inl ⟨by rfl,?_⟩) ?_ ?_
 rotate_left;(intro w';go_simp;with_reducible rfl);rotate_left;(simp only [pq];rfl)
 refine take_ (i:=20) (N:=some 27) (v:=?_) (a':=?_) #[T,T,T,T,T,T,T,T,T,T,T,T,T,T,T,T,T,T,T,T,T,F,F,F,F,F,F,F,F,F,F,F,F,F,F,F,F,F,F,F,F,F,F,F,F,F,F,F,F,F,F,F] rfl rfl (by kernel_rfl) (fun _ _ _ h=>h) (Or.inl ⟨by rfl,?_⟩) hHeld ?_ ?_
 rotate_left
 ·rintro w' ⟨s0,s1,s2,s3,s4,s5,s6,s7⟩
  go_simp
  with_reducible rfl
 rotate_left
 ·simp only [pq]
  rfl
 refine take_ (i:=21) (N:=some 28) (v:=?_) (a':=?_) #[T,T,T,T,T,T,T,T,T,T,T,T,T,T,T,T,T,T,T,T,T,T,F,F,F,F,F,F,F,F,F,F,F,F,F,F,F,F,F,F,F,F,F,F,F,F,F,F,F,F,F,F] rfl rfl (by kernel_rfl) (fun _ _ _ h=>h) (Or.inl ⟨by rfl,?_⟩) hHeld ?_ ?_
 rotate_left
 ·rintro w' ⟨s0,s1,s2,s3,s4,s5,s6,s7⟩
  go_simp
  with_reducible rfl
 rotate_left
 ·simp only [pq]
  rfl
 refine take_ (i:=23) (N:=some 30) (v:=?_) (a':=?_) #[T,T,T,T,T,T,T,T,T,T,T,T,T,T,T,T,T,T,T,T,T,T,F,T,F,F,F,F,F,F,F,F,F,F,F,F,F,F,F,F,F,F,F,F,F,F,F,F,F,F,F,F] rfl rfl (by kernel_rfl) (fun _ _ _ h=>h) (Or.inl ⟨by rfl,?_⟩) hHeld ?_ ?_
 rotate_left
 ·rintro w' ⟨s0,s1,s2,s3,s4,s5,s6,s7⟩
  go_simp
  with_reducible rfl
 rotate_left
 ·simp only [pq]
  rfl
 refine take_ (i:=24) (N:=some 31) (v:=?_) (a':=?_) #[T,T,T,T,T,T,T,T,T,T,T,T,T,T,T,T,T,T,T,T,T,T,F,T,T,F,F,F,F,F,F,F,F,F,F,F,F,F,F,F,F,F,F,F,F,F,F,F,F,F,F,F] rfl rfl (by kernel_rfl) (fun _ _ _ h=>h) (Or.inl ⟨by rfl,?_⟩) hHeld ?_ ?_
 rotate_left
 ·rintro w' ⟨s0,s1,s2,s3,s4,s5,s6,s7⟩
  go_simp
  with_reducible rfl
 rotate_left
 ·simp only [pq]
  rfl
 refine one_ (i:=22) (N:=some 29) #[T,T,T,T,T,T,T,T,T,T,T,T,T,T,T,T,T,T,T,T,T,T,T,T,T,F,F,F,F,F,F,F,F,F,F,F,F,F,F,F,F,F,F,F,F,F,F,F,F,F,F,F] rfl rfl (by kernel_rfl) (by decide) (fun K hK=>?_)
 refine goes_ Tryd.func19 (by kernel_rfl) rfl #[sv a.s0 a.s1 a.s2 a.s3,sv b.s0 b.s1 b.s2 b.s3] (by rfl) rfl rfl (by simp only [List.map_toArray,List.map_cons,List.map_nil];rfl) ?_
 with_reducible refine(K29.out w5).mono ?_
 rintro e w6 ⟨rfl,hb6⟩
 refine⟨_,rfl,?_⟩
 have HB6:Aside0 (Below wa1.heap.size wa1 w6):=⟨(HB5.out).trans (hb6.mono (HB5.out).size)⟩;clear hb6;refine hK.out _ _ ⟨(HCA.out _ HB6.out).1,(HCA.out _ HB6.out).2.1,(HCA.out _ HB6.out).2.2.1,(HCA.out _ HB6.out).2.2.2.1,(HCA.out _ HB6.out).2.2.2.2.1,(HCA.out _ HB6.out).2.2.2.2.2.1,(HCA.out _ HB6.out).2.2.2.2.2.2.1,(HCA.out _ HB6.out).2.2.2.2.2.2.2⟩ (fun hHeld=>?_)
 clear hK K;refine norm_ (a':=?_) ?_ ?_
 rotate_left
 ·show Act.put _ (some 29) _=_
  simp only [pq];rfl
 refine one_ (i:=25) (N:=some 32) #[T,T,T,T,T,T,T,T,T,T,T,T,T,T,T,T,T,T,T,T,T,T,T,T,T,T,F,F,F,F,F,F,F,F,F,F,F,F,F,F,F,F,F,F,F,F,F,F,F,F,F,F] rfl rfl (by kernel_rfl) (by decide) (fun K hK=>?_)
 refine goes_ Tryd.func20 (by kernel_rfl) rfl #[sv a.s0 a.s1 a.s2 a.s3,sv b.s0 b.s1 b.s2 b.s3] (by rfl) rfl rfl (by simp only [List.map_toArray,List.map_cons,List.map_nil];rfl) ?_
 with_reducible refine(K32.out w6).mono ?_
 rintro e w7 ⟨rfl,hb7⟩
 refine⟨_,rfl,?_⟩
 have HB7:Aside0 (Below wa1.heap.size wa1 w7):=⟨(HB6.out).trans (hb7.mono (HB6.out).size)⟩;clear hb7;refine hK.out _ _ ⟨(HCA.out _ HB7.out).1,(HCA.out _ HB7.out).2.1,(HCA.out _ HB7.out).2.2.1,(HCA.out _ HB7.out).2.2.2.1,(HCA.out _ HB7.out).2.2.2.2.1,(HCA.out _ HB7.out).2.2.2.2.2.1,(HCA.out _ HB7.out).2.2.2.2.2.2.1,(HCA.out _ HB7.out).2.2.2.2.2.2.2⟩ (fun hHeld=>?_)
 clear hK K;refine norm_ (a':=?_) ?_ ?_
 rotate_left
 ·show Act.put _ (some 32) _=_
  simp only [pq];rfl
 refine pure_ (i:=26) (N:=some 33) (v:=?_) (a':=?_) #[T,T,T,T,T,T,T,T,T,T,T,T,T,T,T,T,T,T,T,T,T,T,T,T,T,T,T,F,F,F,F,F,F,F,F,F,F,F,F,F,F,F,F,F,F,F,F,F,F,F,F,F] rfl rfl (by kernel_rfl) (fun _ _ _ h=>h) (Or.inl ⟨by rfl,?_⟩) ?_ ?_
 rotate_left;(intro w';go_simp;with_reducible rfl);rotate_left;(simp only [pq];rfl)
 refine pure_ (i:=27) (N:=some 34) (v:=?_) (a':=?_) #[T,T,T,T,T,T,T,T,T,T,T,T,T,T,T,T,T,T,T,T,T,T,T,T,T,T,T,T,F,F,F,F,F,F,F,F,F,F,F,F,F,F,F,F,F,F,F,F,F,F,F,F] rfl rfl (by kernel_rfl) (fun _ _ _ h=>h) (Or.inl ⟨by rfl,?_⟩) ?_ ?_
 rotate_left;(intro w';go_simp;with_reducible rfl);rotate_left;(simp only [pq];rfl)
 refine pure_ (i:=28) (N:=some 35) (v:=?_) (a':=?_) #[T,T,T,T,T,T,T,T,T,T,T,T,T,T,T,T,T,T,T,T,T,T,T,T,T,T,T,T,T,F,F,F,F,F,F,F,F,F,F,F,F,F,F,F,F,F,F,F,F,F,F,F] rfl rfl (by kernel_rfl) (fun _ _ _ h=>h) (Or.inl ⟨by rfl,?_⟩) ?_ ?_
 rotate_left;(intro w';go_simp;with_reducible rfl);rotate_left;(simp only [pq];rfl)
 refine take_ (i:=29) (N:=some 36) (v:=?_) (a':=?_) #[T,T,T,T,T,T,T,T,T,T,T,T,T,T,T,T,T,T,T,T,T,T,T,T,T,T,T,T,T,T,F,F,F,F,F,F,F,F,F,F,F,F,F,F,F,F,F,F,F,F,F,F] rfl rfl (by kernel_rfl) (fun _ _ _ h=>h) (Or.inl ⟨by rfl,?_⟩) hHeld ?_ ?_
 rotate_left
 ·rintro w' ⟨s0,s1,s2,s3,s4,s5,s6,s7⟩
  go_simp
  with_reducible rfl
 rotate_left
 ·simp only [pq]
  rfl
 refine take_ (i:=31) (N:=some 38) (v:=?_) (a':=?_) #[T,T,T,T,T,T,T,T,T,T,T,T,T,T,T,T,T,T,T,T,T,T,T,T,T,T,T,T,T,T,F,T,F,F,F,F,F,F,F,F,F,F,F,F,F,F,F,F,F,F,F,F] rfl rfl (by kernel_rfl) (fun _ _ _ h=>h) (Or.inl ⟨by rfl,?_⟩) hHeld ?_ ?_
 rotate_left
 ·rintro w' ⟨s0,s1,s2,s3,s4,s5,s6,s7⟩
  go_simp
  with_reducible rfl
 rotate_left
 ·simp only [pq]
  rfl
 refine one_ (i:=30) (N:=some 37) #[T,T,T,T,T,T,T,T,T,T,T,T,T,T,T,T,T,T,T,T,T,T,T,T,T,T,T,T,T,T,T,T,F,F,F,F,F,F,F,F,F,F,F,F,F,F,F,F,F,F,F,F] rfl rfl (by kernel_rfl) (by decide) (fun K hK=>?_)
 refine goes_ Tryd.func21 (by kernel_rfl) rfl #[sv a.s0 a.s1 a.s2 a.s3] (by rfl) rfl rfl (by simp only [List.map_toArray,List.map_cons,List.map_nil];rfl) ?_
 with_reducible refine(K37.out w7).mono ?_
 rintro e w8 ⟨rfl,hb8⟩
 refine⟨_,rfl,?_⟩
 have HB8:Aside0 (Below wa1.heap.size wa1 w8):=⟨(HB7.out).trans (hb8.mono (HB7.out).size)⟩;clear hb8;refine hK.out _ _ ⟨(HCA.out _ HB8.out).1,(HCA.out _ HB8.out).2.1,(HCA.out _ HB8.out).2.2.1,(HCA.out _ HB8.out).2.2.2.1,(HCA.out _ HB8.out).2.2.2.2.1,(HCA.out _ HB8.out).2.2.2.2.2.1,(HCA.out _ HB8.out).2.2.2.2.2.2.1,(HCA.out _ HB8.out).2.2.2.2.2.2.2⟩ (fun hHeld=>?_)
 clear hK K;refine norm_ (a':=?_) ?_ ?_
 rotate_left
 ·show Act.put _ (some 37) _=_
  simp only [pq];rfl
 refine one_ (i:=32) (N:=some 39) #[T,T,T,T,T,T,T,T,T,T,T,T,T,T,T,T,T,T,T,T,T,T,T,T,T,T,T,T,T,T,T,T,T,F,F,F,F,F,F,F,F,F,F,F,F,F,F,F,F,F,F,F] rfl rfl (by kernel_rfl) (by decide) (fun K hK=>?_)
 refine goes_ Tryd.func22 (by kernel_rfl) rfl #[sv a.s0 a.s1 a.s2 a.s3] (by rfl) rfl rfl (by simp only [List.map_toArray,List.map_cons,List.map_nil];rfl) ?_
 with_reducible refine(K39.out w8).mono ?_
 rintro e w9 ⟨rfl,hb9⟩
 refine⟨_,rfl,?_⟩
 have HB9:Aside0 (Below wa1.heap.size wa1 w9):=⟨(HB8.out).trans (hb9.mono (HB8.out).size)⟩;clear hb9;refine hK.out _ _ ⟨(HCA.out _ HB9.out).1,(HCA.out _ HB9.out).2.1,(HCA.out _ HB9.out).2.2.1,(HCA.out _ HB9.out).2.2.2.1,(HCA.out _ HB9.out).2.2.2.2.1,(HCA.out _ HB9.out).2.2.2.2.2.1,(HCA.out _ HB9.out).2.2.2.2.2.2.1,(HCA.out _ HB9.out).2.2.2.2.2.2.2⟩ (fun hHeld=>?_)
 clear hK K;refine norm_ (a':=?_) ?_ ?_
 rotate_left
 ·show Act.put _ (some 39) _=_
  simp only [pq];rfl
 refine pure_ (i:=33) (N:=some 40) (v:=?_) (a':=?_) #[T,T,T,T,T,T,T,T,T,T,T,T,T,T,T,T,T,T,T,T,T,T,T,T,T,T,T,T,T,T,T,T,T,T,F,F,F,F,F,F,F,F,F,F,F,F,F,F,F,F,F,F] rfl rfl (by kernel_rfl) (fun _ _ _ h=>h) (Or.inl ⟨by rfl,?_⟩) ?_ ?_
 rotate_left;(intro w';go_simp;with_reducible rfl);rotate_left;(simp only [pq];rfl)
 refine pure_ (i:=34) (N:=some 41) (v:=?_) (a':=?_) #[T,T,T,T,T,T,T,T,T,T,T,T,T,T,T,T,T,T,T,T,T,T,T,T,T,T,T,T,T,T,T,T,T,T,T,F,F,F,F,F,F,F,F,F,F,F,F,F,F,F,F,F] rfl rfl (by kernel_rfl) (fun _ _ _ h=>h) (Or.inl ⟨by rfl,?_⟩) ?_ ?_
 rotate_left;(intro w';go_simp;with_reducible rfl);rotate_left;(simp only [pq];rfl)
 refine pure_ (i:=35) (N:=some 42) (v:=?_) (a':=?_) #[T,T,T,T,T,T,T,T,T,T,T,T,T,T,T,T,T,T,T,T,T,T,T,T,T,T,T,T,T,T,T,T,T,T,T,T,F,F,F,F,F,F,F,F,F,F,F,F,F,F,F,F] rfl rfl (by kernel_rfl) (fun _ _ _ h=>h) (Or.inl ⟨by rfl,?_⟩) ?_ ?_
 rotate_left;(intro w';go_simp;with_reducible rfl);rotate_left;(simp only [pq];rfl)
 refine take_ (i:=36) (N:=some 43) (v:=?_) (a':=?_) #[T,T,T,T,T,T,T,T,T,T,T,T,T,T,T,T,T,T,T,T,T,T,T,T,T,T,T,T,T,T,T,T,T,T,T,T,T,F,F,F,F,F,F,F,F,F,F,F,F,F,F,F] rfl rfl (by kernel_rfl) (fun _ _ _ h=>h) (Or.inl ⟨by rfl,?_⟩) hHeld ?_ ?_
 rotate_left
 ·rintro w' ⟨s0,s1,s2,s3,s4,s5,s6,s7⟩
  go_simp
  with_reducible rfl
 rotate_left
 ·simp only [pq]
  rfl
 refine take_ (i:=38) (N:=some 45) (v:=?_) (a':=?_) #[T,T,T,T,T,T,T,T,T,T,T,T,T,T,T,T,T,T,T,T,T,T,T,T,T,T,T,T,T,T,T,T,T,T,T,T,T,F,T,F,F,F,F,F,F,F,F,F,F,F,F,F] rfl rfl (by kernel_rfl) (fun _ _ _ h=>h) (Or.inl ⟨by rfl,?_⟩) hHeld ?_ ?_
 rotate_left
 ·rintro w' ⟨s0,s1,s2,s3,s4,s5,s6,s7⟩
  go_simp
  with_reducible rfl
 rotate_left
 ·simp only [pq]
  rfl
 refine one_ (i:=37) (N:=some 44) #[T,T,T,T,T,T,T,T,T,T,T,T,T,T,T,T,T,T,T,T,T,T,T,T,T,T,T,T,T,T,T,T,T,T,T,T,T,T,T,F,F,F,F,F,F,F,F,F,F,F,F,F] rfl rfl (by kernel_rfl) (by decide) (fun K hK=>?_)
 refine goes_ Tryd.func14 (by kernel_rfl) rfl #[sv a.s0 a.s1 a.s2 a.s3] (by rfl) rfl rfl (by simp only [List.map_toArray,List.map_cons,List.map_nil];rfl) ?_
 with_reducible refine(K44.out w9).mono ?_
 rintro e w10 ⟨rfl,hb10⟩
 refine⟨_,rfl,?_⟩
 have HB10:Aside0 (Below wa1.heap.size wa1 w10):=⟨(HB9.out).trans (hb10.mono (HB9.out).size)⟩;clear hb10;refine hK.out _ _ ⟨(HCA.out _ HB10.out).1,(HCA.out _ HB10.out).2.1,(HCA.out _ HB10.out).2.2.1,(HCA.out _ HB10.out).2.2.2.1,(HCA.out _ HB10.out).2.2.2.2.1,(HCA.out _ HB10.out).2.2.2.2.2.1,(HCA.out _ HB10.out).2.2.2.2.2.2.1,(HCA.out _ HB10.out).2.2.2.2.2.2.2⟩ (fun hHeld=>?_)
 clear hK K;refine norm_ (a':=?_) ?_ ?_
 rotate_left
 ·show Act.put _ (some 44) _=_
  simp only [pq];rfl
 refine one_ (i:=39) (N:=some 46) #[T,T,T,T,T,T,T,T,T,T,T,T,T,T,T,T,T,T,T,T,T,T,T,T,T,T,T,T,T,T,T,T,T,T,T,T,T,T,T,T,F,F,F,F,F,F,F,F,F,F,F,F] rfl rfl (by kernel_rfl) (by decide) (fun K hK=>?_)
 refine goes_ Tryd.func23 (by kernel_rfl) rfl #[sv a.s0 a.s1 a.s2 a.s3] (by rfl) rfl rfl (by simp only [List.map_toArray,List.map_cons,List.map_nil];rfl) ?_
 with_reducible refine(K46.out w10).mono ?_
 rintro e w11 ⟨rfl,hb11⟩
 refine⟨_,rfl,?_⟩
 have HB11:Aside0 (Below wa1.heap.size wa1 w11):=⟨(HB10.out).trans (hb11.mono (HB10.out).size)⟩;clear hb11;refine hK.out _ _ ⟨(HCA.out _ HB11.out).1,(HCA.out _ HB11.out).2.1,(HCA.out _ HB11.out).2.2.1,(HCA.out _ HB11.out).2.2.2.1,(HCA.out _ HB11.out).2.2.2.2.1,(HCA.out _ HB11.out).2.2.2.2.2.1,(HCA.out _ HB11.out).2.2.2.2.2.2.1,(HCA.out _ HB11.out).2.2.2.2.2.2.2⟩ (fun hHeld=>?_)
 clear hK K;refine norm_ (a':=?_) ?_ ?_
 rotate_left
 ·show Act.put _ (some 46) _=_
  simp only [pq];rfl
 refine pure_ (i:=40) (N:=some 47) (v:=?_) (a':=?_) #[T,T,T,T,T,T,T,T,T,T,T,T,T,T,T,T,T,T,T,T,T,T,T,T,T,T,T,T,T,T,T,T,T,T,T,T,T,T,T,T,T,F,F,F,F,F,F,F,F,F,F,F] rfl rfl (by kernel_rfl) (fun _ _ _ h=>h) (Or.inl ⟨by rfl,?_⟩) ?_ ?_
 rotate_left;(intro w';go_simp;with_reducible rfl);rotate_left;(simp only [pq];rfl)
 refine pure_ (i:=41) (N:=some 48) (v:=?_) (a':=?_) #[T,T,T,T,T,T,T,T,T,T,T,T,T,T,T,T,T,T,T,T,T,T,T,T,T,T,T,T,T,T,T,T,T,T,T,T,T,T,T,T,T,T,F,F,F,F,F,F,F,F,F,F] rfl rfl (by kernel_rfl) (fun _ _ _ h=>h) (Or.inl ⟨by rfl,?_⟩) ?_ ?_
 rotate_left;(intro w';go_simp;with_reducible rfl);rotate_left;(simp only [pq];rfl)
 refine pure_ (i:=42) (N:=some 49) (v:=?_) (a':=?_) #[T,T,T,T,T,T,T,T,T,T,T,T,T,T,T,T,T,T,T,T,T,T,T,T,T,T,T,T,T,T,T,T,T,T,T,T,T,T,T,T,T,T,T,F,F,F,F,F,F,F,F,F] rfl rfl (by kernel_rfl) (fun _ _ _ h=>h) (Or.inl ⟨by rfl,?_⟩) ?_ ?_
 rotate_left;(intro w';go_simp;with_reducible rfl);rotate_left;(simp only [pq];rfl)
 refine pure_ (i:=44) (N:=some 51) (v:=?_) (a':=?_) #[T,T,T,T,T,T,T,T,T,T,T,T,T,T,T,T,T,T,T,T,T,T,T,T,T,T,T,T,T,T,T,T,T,T,T,T,T,T,T,T,T,T,T,F,T,F,F,F,F,F,F,F] rfl rfl (by kernel_rfl) (fun _ _ _ h=>h) (Or.inl ⟨by rfl,?_⟩) ?_ ?_
 rotate_left;(intro w';go_simp;with_reducible rfl);rotate_left;(simp only [pq];rfl)
 refine pure_ (i:=47) (N:=some 54) (v:=?_) (a':=?_) #[T,T,T,T,T,T,T,T,T,T,T,T,T,T,T,T,T,T,T,T,T,T,T,T,T,T,T,T,T,T,T,T,T,T,T,T,T,T,T,T,T,T,T,F,T,F,F,T,F,F,F,F] rfl rfl (by kernel_rfl) (fun _ _ _ h=>h) (Or.inl ⟨by rfl,?_⟩) ?_ ?_
 rotate_left;(intro w';go_simp;with_reducible rfl);rotate_left;(simp only [pq];rfl)
 refine take_ (i:=43) (N:=some 50) (v:=?_) (a':=?_) #[T,T,T,T,T,T,T,T,T,T,T,T,T,T,T,T,T,T,T,T,T,T,T,T,T,T,T,T,T,T,T,T,T,T,T,T,T,T,T,T,T,T,T,T,T,F,F,T,F,F,F,F] rfl rfl (by kernel_rfl) (fun _ _ _ h=>h) (Or.inl ⟨by rfl,?_⟩) hHeld ?_ ?_
 rotate_left
 ·rintro w' ⟨s0,s1,s2,s3,s4,s5,s6,s7⟩
  go_simp
  with_reducible rfl
 rotate_left
 ·simp only [pq]
  rfl
 refine take_ (i:=46) (N:=some 53) (v:=?_) (a':=?_) #[T,T,T,T,T,T,T,T,T,T,T,T,T,T,T,T,T,T,T,T,T,T,T,T,T,T,T,T,T,T,T,T,T,T,T,T,T,T,T,T,T,T,T,T,T,F,T,T,F,F,F,F] rfl rfl (by kernel_rfl) (fun _ _ _ h=>h) (Or.inl ⟨by rfl,?_⟩) hHeld ?_ ?_
 rotate_left
 ·rintro w' ⟨s0,s1,s2,s3,s4,s5,s6,s7⟩
  go_simp
  with_reducible rfl
 rotate_left
 ·simp only [pq]
  rfl
 refine one_ (i:=45) (N:=some 52) #[T,T,T,T,T,T,T,T,T,T,T,T,T,T,T,T,T,T,T,T,T,T,T,T,T,T,T,T,T,T,T,T,T,T,T,T,T,T,T,T,T,T,T,T,T,T,T,T,F,F,F,F] rfl rfl (by kernel_rfl) (by decide) (fun K hK=>?_)
 refine goes_ Tryd.func15 (by kernel_rfl) rfl #[sv a.s0 a.s1 a.s2 a.s3,.int .i64 k] (by rfl) rfl rfl (by simp only [List.map_toArray,List.map_cons,List.map_nil];rfl) ?_
 with_reducible refine(K52.out w11).mono ?_
 rintro e w12 ⟨rfl,hb12⟩
 refine⟨_,rfl,?_⟩
 have HB12:Aside0 (Below wa1.heap.size wa1 w12):=⟨(HB11.out).trans (hb12.mono (HB11.out).size)⟩;clear hb12;refine hK.out _ _ ⟨(HCA.out _ HB12.out).1,(HCA.out _ HB12.out).2.1,(HCA.out _ HB12.out).2.2.1,(HCA.out _ HB12.out).2.2.2.1,(HCA.out _ HB12.out).2.2.2.2.1,(HCA.out _ HB12.out).2.2.2.2.2.1,(HCA.out _ HB12.out).2.2.2.2.2.2.1,(HCA.out _ HB12.out).2.2.2.2.2.2.2⟩ (fun hHeld=>?_)
 clear hK K;refine norm_ (a':=?_) ?_ ?_
 rotate_left
 ·show Act.put _ (some 52) _=_
  simp only [pq];rfl
 refine one_ (i:=48) (N:=some 55) #[T,T,T,T,T,T,T,T,T,T,T,T,T,T,T,T,T,T,T,T,T,T,T,T,T,T,T,T,T,T,T,T,T,T,T,T,T,T,T,T,T,T,T,T,T,T,T,T,T,F,F,F] rfl rfl (by kernel_rfl) (by decide) (fun K hK=>?_)
 refine goes_ Tryd.func24 (by kernel_rfl) rfl #[sv a.s0 a.s1 a.s2 a.s3,.int .i64 k] (by rfl) rfl rfl (by simp only [List.map_toArray,List.map_cons,List.map_nil];rfl) ?_
 with_reducible refine(K55.out w12).mono ?_
 rintro e w13 ⟨rfl,hb13⟩
 refine⟨_,rfl,?_⟩
 have HB13:Aside0 (Below wa1.heap.size wa1 w13):=⟨(HB12.out).trans (hb13.mono (HB12.out).size)⟩;clear hb13;refine hK.out _ _ ⟨(HCA.out _ HB13.out).1,(HCA.out _ HB13.out).2.1,(HCA.out _ HB13.out).2.2.1,(HCA.out _ HB13.out).2.2.2.1,(HCA.out _ HB13.out).2.2.2.2.1,(HCA.out _ HB13.out).2.2.2.2.2.1,(HCA.out _ HB13.out).2.2.2.2.2.2.1,(HCA.out _ HB13.out).2.2.2.2.2.2.2⟩ (fun hHeld=>?_)
 clear hK K;refine norm_ (a':=?_) ?_ ?_
 rotate_left
 ·show Act.put _ (some 55) _=_
  simp only [pq];rfl
 refine pure_ (i:=49) (N:=some 56) (v:=?_) (a':=?_) #[T,T,T,T,T,T,T,T,T,T,T,T,T,T,T,T,T,T,T,T,T,T,T,T,T,T,T,T,T,T,T,T,T,T,T,T,T,T,T,T,T,T,T,T,T,T,T,T,T,T,F,F] rfl rfl (by kernel_rfl) (fun _ _ _ h=>h) (Or.inl ⟨by rfl,?_⟩) ?_ ?_
 rotate_left;(intro w';go_simp;with_reducible rfl);rotate_left;(simp only [pq];rfl)
 refine pure_ (i:=50) (N:=some 57) (v:=?_) (a':=?_) #[T,T,T,T,T,T,T,T,T,T,T,T,T,T,T,T,T,T,T,T,T,T,T,T,T,T,T,T,T,T,T,T,T,T,T,T,T,T,T,T,T,T,T,T,T,T,T,T,T,T,T,F] rfl rfl (by kernel_rfl) (fun _ _ _ h=>h) (Or.inl ⟨by rfl,?_⟩) ?_ ?_
 rotate_left;(intro w';go_simp;with_reducible rfl);rotate_left;(simp only [pq];rfl)
 refine pure_ (i:=51) (N:=some 6) (v:=?_) (a':=?_) #[T,T,T,T,T,T,T,T,T,T,T,T,T,T,T,T,T,T,T,T,T,T,T,T,T,T,T,T,T,T,T,T,T,T,T,T,T,T,T,T,T,T,T,T,T,T,T,T,T,T,T,T] rfl rfl (by kernel_rfl) (fun _ _ _ h=>h) (Or.inl ⟨by rfl,?_⟩) ?_ ?_
 rotate_left;(intro w';go_simp;with_reducible rfl);rotate_left;(simp only [pq];rfl)
 refine done_ (by kernel_rfl) ?_
 go_wp2
 go_ret
 exact⟨by first|rfl|(simp;done),below_trans_law HW.out HB13.out⟩
end Go.Proofs.YtelmobelgojpbaaDoor.P
end

section
namespace Go.Proofs.YtelmobelgojpbaaDoor.P
open Go.Proofs.YtelmobelgojpbaaDoor.H Go.RowKit Go.Proofs.YtelmobelgojpbaaDoorW.PrintWords
set_option linter.unusedVariables false
set_option linter.unusedSimpArgs false
theorem sets_true (a b:St) (ha:a.ok) (hb:b.ok) (k:Int) (w:World) (ht:Tab w):Calls Tryd.prog 5 #[sv a.s0 a.s1 a.s2 a.s3,sv b.s0 b.s1 b.s2 b.s3,.int .i64 k] w fun e w'=>e= .returned (.bool true)∧Below w.heap.size w w':=
 sets_law (a:=a) (b:=b) (k:=k) (w:=w) (ht:=ht) (k11:=or_call a b) (k14:=ror_call a b ha hb) (k20:=and_call a b) (k23:=rand_call a b ha hb) (k29:=without_call a b) (k32:=rwithout_call a b ha hb)
  (k37:=turned_call a) (k39:=rturned_call a ha) (k44:=count_pop a ha) (k46:=rcount_pop a ha) (k52:=has_call a k) (k55:=fun W=>by have h:=rhas_call a k W;rw [←has_same ha k] at h;exact h)
end Go.Proofs.YtelmobelgojpbaaDoor.P
end

section
namespace Go.Proofs.YtelmobelgojpbaaDoor
open Go.ChangeShapes Go.WideShapes Go.WideMaps Go.RowKit
set_option linter.unusedVariables false
theorem arrSet:ArrKey Tryd.prog 24 22 4:=⟨Tryd.underlying24,by kernel_rfl,by kernel_rfl,by kernel_rfl⟩
theorem wf_U {a:Int}(h:(Lit.int .u64 a).wf=true):P.U a:=by
 have h':IntKind.u64.min≤a∧a≤IntKind.u64.max:=by simpa [Lit.wf] using h
 have h1:IntKind.u64.min=0:=rfl;have h2:IntKind.u64.max=18446744073709551615:=rfl;rw [h1,h2] at h';exact⟨h'.1,by omega⟩
section
variable {H:Type}{enc:TypeId×Value→H}{W:World}{base:Nat}{sp:Nat→Bool}{held:Bool}
theorem open_set {r:Reach}{b0:Nat}{v:Value}{d:DataW H}{ps:List MemPlace}(hval:Value.okWide Tryd.prog W r b0 24 v) (hd:DataW.Trod enc Tryd.prog W base sp held 24 v d ps):
 ∃x0 x1 x2 x3:Int,v=P.sv x0 x1 x2 x3∧d= .agg [.lit (.int .u64 x0),.lit (.int .u64 x1),.lit (.int .u64 x2),.lit (.int .u64 x3)]∧ps= []∧(Lit.int .u64 x0).wf=true∧(Lit.int .u64 x1).wf=true∧(Lit.int .u64 x2).wf=true∧(Lit.int .u64 x3).wf=true:=by
 obtain⟨cs,rfl,hn⟩:=okWide_arr arrSet hval;obtain⟨l⟩:=cs
 match l,hn with
 | [c0,c1,c2,c3],_=>
  obtain⟨fuel,hf⟩:=hd
  cases fuel with
  |zero=>simp [DataW.trod] at hf
  |succ n=>
   rw [DataW.trod_step] at hf
   unfold DataW.trodStep at hf
   simp only [arrSet.hu,Value.cells] at hf;rw [if_pos (by rw [arrSet.size];rfl)] at hf;simp only [Option.map_eq_some_iff] at hf;obtain⟨xs,hx,e1⟩:=hf;rw [show List.range 4= [0,1,2,3] from rfl,List.mapM_cons,List.mapM_cons,List.mapM_cons,List.mapM_cons,List.mapM_nil] at hx;simp only [bind,Option.bind_eq_some_iff,pure,Option.some.injEq,arrSet.one] at hx;obtain⟨y0,h0,_,⟨y1,h1,_,⟨y2,h2,_,⟨y3,h3,_,rfl,rfl⟩,rfl⟩,rfl⟩,rfl⟩:=hx;obtain⟨a,ea,rfl,wa⟩:=DataW.trod_int Tryd.underlying22 h0;obtain⟨b,eb,rfl,wb⟩:=DataW.trod_int Tryd.underlying22 h1;obtain⟨c,ec,rfl,wc⟩:=DataW.trod_int Tryd.underlying22 h2;obtain⟨e,ee,rfl,we⟩:=DataW.trod_int Tryd.underlying22 h3;simp at ea eb ec ee
   subst ea;subst eb;subst ec;subst ee;simp only [Prod.mk.injEq] at e1;exact⟨a,b,c,e,rfl,by rw [←e1.1];rfl,by rw [←e1.2];rfl,wa,wb,wc,we⟩
theorem shut_set {a b c e:Int}(wa:(Lit.int .u64 a).wf=true) (wb:(Lit.int .u64 b).wf=true) (wc:(Lit.int .u64 c).wf=true) (we:(Lit.int .u64 e).wf=true):
 DataW.Trod enc Tryd.prog W base sp held 24 (P.sv a b c e) (.agg [.lit (.int .u64 a),.lit (.int .u64 b),.lit (.int .u64 c),.lit (.int .u64 e)]) []:=
 ⟨2,by
  show DataW.trod enc Tryd.prog W base sp held (1+1) 24 [.int .u64 a,.int .u64 b,.int .u64 c,.int .u64 e]=_
  rw [DataW.trod_step]
  unfold DataW.trodStep
  simp only [arrSet.hu];rw [if_pos (by rw [arrSet.size];rfl),show List.range 4= [0,1,2,3] from rfl,List.mapM_cons,List.mapM_cons,List.mapM_cons,List.mapM_cons,List.mapM_nil];simp [arrSet.one,DataW.trod,Tryd.underlying22,wa,wb,wc,we]⟩
end
noncomputable def laidWorld (os:Os):World:=
 let w0:=World.holding Tryd.prog os ⟨#[],#[],[]⟩
 {w0 with heap:=w0.heap.modify 0 fun
  | .cells _ t frozen=> .cells (P.tabL.map (Value.int .u8)).toArray t frozen
  |o=>o}
theorem laidWorld_met (os:Os) (args:Array Value):laidMetH Tryd.prog Rows.bytesetTurnedRow.laid ((laidWorld os).forCall (fun _ _=>0) ⟨#[],args,[]⟩).memory:=by
 rw [Go.MakeChecks.laidMetH_plain _ _ _ (by kernel_rfl)];exact laidMet_of_run' 8 (by kernel_rfl) (by kernel_rfl)
theorem mapM_get {β:Type}{f:Nat→Option β}:∀(L:List Nat) (ys:List β),L.mapM f=some ys→∀(j n:Nat),L[j]?=some n→∃y,f n=some y∧ys[j]?=some y
 | [],ys,h,j,n,hj=>by simp at hj
 |x::L,ys,h,j,n,hj=>by
  rw [List.mapM_cons] at h;simp only [bind,Option.bind_eq_some_iff,pure,Option.some.injEq] at h;obtain⟨y,hy,r,hr,rfl⟩:=h
  match j,hj with
  |0,hj=>
   injection hj with hj
   subst hj;exact⟨y,hy,rfl⟩
  |j+1,hj=>exact mapM_get L r hr j n hj
theorem gTab:Tryd.prog.globalNamed "math/bits.deBruijn64tab" =some 0:=by kernel_rfl
theorem gTabT:(Tryd.prog.globals[0]?).map (·.type)=some 56:=by kernel_rfl
theorem tabDatum:Rows.laid_math_bits_deBruijn64tab (H:=Unit)= .agg (P.tabL.map fun a=> .lit (.int .u8 a)):=rfl
theorem cells5:Tryd.prog.cellsOf 5=1:=by kernel_rfl
theorem tab_of_laid {W:World}(h:laidMetH Tryd.prog [("math/bits.deBruijn64tab",Rows.laid_math_bits_deBruijn64tab)] W):P.Tab W:=by
 rw [Go.MakeChecks.laidMetH_plain _ _ _ (by kernel_rfl)] at h;obtain⟨ps,hl,_,_⟩:=h;obtain⟨g,t,cs,fuel,p,q,e1,e2,e3,e4,_,_⟩:=hl;obtain rfl:=Option.some.inj (gTab.symm.trans e1);obtain rfl:=Option.some.inj (gTabT.symm.trans e2);rw [tabDatum] at e4
 cases fuel with
 |zero=>simp [DataW.trod] at e4
 |succ n=>
  rw [DataW.trod_step] at e4
  unfold DataW.trodStep at e4
  simp only [Tryd.underlying56] at e4
  split at e4
  case isFalse=>cases e4
  rename_i hlen
  simp only [Option.map_eq_some_iff,Prod.mk.injEq,DataW.agg.injEq] at e4;obtain⟨xs,hx,hd,_⟩:=e4;intro i hi;obtain⟨y,hy,hys⟩:=mapM_get _ xs hx i i (by rw [List.getElem?_range hi]);rw [cells5,Nat.mul_one] at hy;obtain⟨a,ea,rfl,wa⟩:=DataW.trod_int Tryd.underlying5 hy;have h1:(xs.map (·.1))[i]?=some (.lit (.int .u8 a)):=by rw [List.getElem?_map,hys];rfl
  rw [hd,List.getElem?_map] at h1;have hl:P.tabL.length=64:=rfl
  have h2:P.tabL[i]?=some (P.tab i):=by
   rw [P.tab,List.getD_eq_getElem?_getD,List.getElem?_eq_getElem (by omega)];rfl
  rw [h2] at h1;simp only [Option.map_some,Option.some.injEq,DataW.lit.injEq,Lit.int.injEq] at h1
  have h3:cs.toList[i]?=some (.int .u8 a):=by
   have:=congrArg (fun l=>l[0]?) ea
   simpa using this
  rw [World.var?_cell gTab e3 i,←Array.getElem?_toList,h3,h1.2]
end Go.Proofs.YtelmobelgojpbaaDoor
end
