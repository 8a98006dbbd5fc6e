/-
 Texts of this claim, one behind another.
-/
import Derived.Test.YtpgomgjpliallaaMg13
import Derived.Test.YtpgomgjpliallaaMg11
set_option linter.unusedSimpArgs false
set_option linter.unnecessarySimpa false
set_option linter.unusedVariables false
set_option linter.defProp false
namespace Go.Proofs.Ytpgomgjpliallaa
open Go.Dm
theorem bbt_get {n i:Nat} {f:Nat→Bool} {d:List D} (h:i<n):(bls (bt n f)).getD i d=[.v (.bool (f i))]:=by simp [bls,bt,List.getD,h]
theorem bbt_take {n:Nat} {f:Nat→Bool}:(bls (bt n f)).take n=bls (bt n f):=List.take_of_length_le (by simp [bls,bt])
def rnN (N:Nat) (k:Int) (A:List A3):List D:=[iv .i64 N,iv .i64 k,.sl 3 (tbl a3D A),iv .u32 0,iv .u32 0]
theorem rnN_eq {N:Nat} {k:Int} {A:List A3}:rnN N k A=[iv .i64 N,iv .i64 k,.sl 3 (tbl a3D A),iv .u32 0,iv .u32 0]:=(rfl)
def vre:=And.intro vrn<|And.intro @bbt_get<|And.intro @bbt_take<|And.intro @bt_len<|And.intro @bt_set<|And.intro @rnN_eq<|And.intro @viewO_bt @bt_len
set_option maxRecDepth 10000 in
set_option maxHeartbeats 4000000 in
theorem reach_spec (N : Nat) (k : Int) (A : List A3) (hA : A.length ≤ 1000000) (M : Nat) (hM : M ≤ 1000000) (hr : ∀ p c q, (p, c, q) ∈ A → p < M ∧ q < M) (f : Nat → Bool) : Dm.Spec Try.prog 17 [.ag (rnN N k A), .sl 1 (bls (bt M f))] (· = .sl 1 (bls (bt M (cloB A f)))) := by
  refine spec_of_vc mixed Try.func17 c17 (by rw [show Try.f17.ntmps=_ from Try.ntmps17];simp) ?_
  unfold m17 r17
  repeat' first|((first|refine Br.dec ?_ ?_|refine Br.eqi ?_ ?_)<;>intro h<;>try (exfalso;omega))|(simp (disch:=first|omega|(simp only [vlen];first|done|omega)) only [vre,↓vAq,vBq,↓reduceIte,Nat.reduceBEq,Nat.reduceEqDiff,Nat.reduceLT,Nat.reduceLeDiff,Nat.reduceAdd,Nat.reduceMul,Nat.reduceSub,reduceCtorEq,Int.reduceToNat])|(refine Br.mk ?_ ?_<;>intro h)|(refine BrN.mk (fun h => ?_) ?_)|(refine AltVC.mk ?_ ?_)
  refine LoopVC.mk (X:=(Nat→Bool) × Bool) (fun x=>[(2,.ptr 0 5 0 0),(5,.ref 2 1 0 M),(6,.v (.bool x.2))]) (fun x=>[(0,⟨5,[rnN N k A],true,false,.fix⟩),(2,⟨1,bls (bt M x.1),true,false,.arr⟩)]) (fun x=>2 * unB M x.1+(if x.2 then 1 else 0)) (fun x=>ClI A f x.1∧(x.2=false→∀ p t,(p,-1,t) ∈ A→x.1 p=true→x.1 t=true)) (f,true) ⟨.refl,fun h=>by cases h⟩ ?_ ?_
  · (simp (disch:=first|omega|(simp only [vlen];first|done|omega)) only [Fits_u,Fits_m,Fits_nil,List.length_append,vre,↓vAq,vBq,↓reduceIte,Nat.reduceBEq,Nat.reduceEqDiff,Nat.reduceLT,Nat.reduceLeDiff,Nat.reduceAdd,Nat.reduceMul,Nat.reduceSub,reduceCtorEq,Int.reduceToNat]<;>(repeat' first|rfl|apply And.intro))
    all_goals trace_state
  · rintro ⟨f0, more⟩ ⟨hI, hc⟩
    simp only at hI hc ⊢
    cases more with
    | false =>
      have e:=hI.all (hc rfl)
      repeat' first|((first|refine Br.dec ?_ ?_|refine Br.eqi ?_ ?_)<;>intro h<;>try (exfalso;omega))|(simp (disch:=first|omega|(simp only [vlen];first|done|omega)) only [vre,↓vAq,vBq,↓reduceIte,Nat.reduceBEq,Nat.reduceEqDiff,Nat.reduceLT,Nat.reduceLeDiff,Nat.reduceAdd,Nat.reduceMul,Nat.reduceSub,reduceCtorEq,Int.reduceToNat])|(refine Br.mk ?_ ?_<;>intro h)|(refine BrN.mk (fun h => ?_) ?_)|(refine AltVC.mk ?_ ?_)
      exact fin_mk (by rw [e])
    | true =>
      repeat' first|((first|refine Br.dec ?_ ?_|refine Br.eqi ?_ ?_)<;>intro h<;>try (exfalso;omega))|(simp (disch:=first|omega|(simp only [vlen];first|done|omega)) only [vre,↓vAq,vBq,↓reduceIte,Nat.reduceBEq,Nat.reduceEqDiff,Nat.reduceLT,Nat.reduceLeDiff,Nat.reduceAdd,Nat.reduceMul,Nat.reduceSub,reduceCtorEq,Int.reduceToNat])|(refine Br.mk ?_ ?_<;>intro h)|(refine BrN.mk (fun h => ?_) ?_)|(refine AltVC.mk ?_ ?_)
      refine LoopVC.mk (X:=Nat × (Nat→Bool) × Bool) (fun x=>[(2,.ptr 0 5 0 0),(5,.ref 2 1 0 M),(6,.v (.bool x.2.2)),(16,iv .i64 x.1)]) (fun x=>[(0,⟨5,[rnN N k A],true,false,.fix⟩),(2,⟨1,bls (bt M x.2.1),true,false,.arr⟩)]) (fun x=>A.length - x.1) (fun x=>x.1≤A.length∧ClI A f x.2.1∧unB M x.2.1≤unB M f0∧(x.2.2=true→unB M x.2.1<unB M f0)∧(x.2.2=false→x.2.1=f0∧∀ i,i<x.1→∀ p t,A.getD i default=(p,-1,t)→f0 p=true→f0 t=true)) (0,f0,false) ⟨Nat.zero_le _,hI,Nat.le_refl _,fun h=>(by cases h),fun _=>⟨rfl,fun i h=>absurd h (Nat.not_lt_zero _)⟩⟩ ?_ ?_
      · (simp (disch:=first|omega|(simp only [vlen];first|done|omega)) only [Fits_u,Fits_m,Fits_nil,List.length_append,vre,↓vAq,vBq,↓reduceIte,Nat.reduceBEq,Nat.reduceEqDiff,Nat.reduceLT,Nat.reduceLeDiff,Nat.reduceAdd,Nat.reduceMul,Nat.reduceSub,reduceCtorEq,Int.reduceToNat]<;>(repeat' first|rfl|apply And.intro))
        all_goals trace_state
      · rintro ⟨j, f1, more⟩ ⟨hj, hI1, hu, hu1, hu2⟩
        simp only at hj hI1 hu hu1 hu2 ⊢
        by_cases hjl:j<A.length
        · obtain ⟨a,ha⟩ : ∃ a,A.getD j default=a:=⟨_,rfl⟩
          have ham:a ∈ A:=by rw [← ha];exact getD_mem' hjl
          obtain ⟨p,c,t⟩:=a
          have hrg:=hr p c t ham
          have next:∀ (h:¬ (c = -1∧f1 p=true∧f1 t=false)),(more=false→f1=f0∧∀ i,i<j+1→∀ p t,A.getD i default=(p,-1,t)→f0 p=true→f0 t=true):=fun h hm=>by
            obtain ⟨e1,e2⟩:=hu2 hm
            refine ⟨e1,fun i hi p' t' he hp => ?_⟩
            by_cases e:i=j
            · subst e
              rw [ha] at he
              simp only [Prod.mk.injEq] at he
              obtain ⟨rfl,rfl,rfl⟩:=he
              rw [← e1] at hp ⊢
              cases ht:f1 t with
              | true=>rfl
              | false=>exact absurd ⟨rfl,hp,ht⟩ h
            · exact e2 i (by omega) p' t' he hp
          by_cases hcc:c = -1
          · subst hcc
            cases hp:f1 p with
            | false =>
              repeat' first|((first|refine Br.dec ?_ ?_|refine Br.eqi ?_ ?_)<;>intro h<;>try (exfalso;omega))|(simp (disch:=first|omega|(simp only [vlen];first|done|omega)) only [ha,hp,vre,↓vAq,vBq,↓reduceIte,Nat.reduceBEq,Nat.reduceEqDiff,Nat.reduceLT,Nat.reduceLeDiff,Nat.reduceAdd,Nat.reduceMul,Nat.reduceSub,reduceCtorEq,Int.reduceToNat])|(refine Br.mk ?_ ?_<;>intro h)|(refine BrN.mk (fun h => ?_) ?_)|(refine AltVC.mk ?_ ?_)
              refine loopK.mk (j+1,f1,more) (by simp (disch:=first|omega|(simp only [vlen];first|done|omega)) only [vre,↓vAq,vBq,↓reduceIte,Nat.reduceBEq,Nat.reduceEqDiff,Nat.reduceLT,Nat.reduceLeDiff,Nat.reduceAdd,Nat.reduceMul,Nat.reduceSub,reduceCtorEq,Int.reduceToNat]) ⟨by show j+1≤A.length;omega,hI1,hu,hu1,next (fun h=>by rw [hp] at h;exact absurd h.2.1 (by simp))⟩ (by show A.length - (j+1)<A.length - j;omega) ?_
              (simp (disch:=first|omega|(simp only [vlen];first|done|omega)) only [Fits_u,Fits_m,Fits_nil,List.length_append,vre,↓vAq,vBq,↓reduceIte,Nat.reduceBEq,Nat.reduceEqDiff,Nat.reduceLT,Nat.reduceLeDiff,Nat.reduceAdd,Nat.reduceMul,Nat.reduceSub,reduceCtorEq,Int.reduceToNat]<;>(repeat' first|rfl|apply And.intro))
              all_goals trace_state
            | true =>
              cases ht:f1 t with
              | true =>
                repeat' first|((first|refine Br.dec ?_ ?_|refine Br.eqi ?_ ?_)<;>intro h<;>try (exfalso;omega))|(simp (disch:=first|omega|(simp only [vlen];first|done|omega)) only [ha,hp,ht,vre,↓vAq,vBq,↓reduceIte,Nat.reduceBEq,Nat.reduceEqDiff,Nat.reduceLT,Nat.reduceLeDiff,Nat.reduceAdd,Nat.reduceMul,Nat.reduceSub,reduceCtorEq,Int.reduceToNat])|(refine Br.mk ?_ ?_<;>intro h)|(refine BrN.mk (fun h => ?_) ?_)|(refine AltVC.mk ?_ ?_)
                refine loopK.mk (j+1,f1,more) (by simp (disch:=first|omega|(simp only [vlen];first|done|omega)) only [vre,↓vAq,vBq,↓reduceIte,Nat.reduceBEq,Nat.reduceEqDiff,Nat.reduceLT,Nat.reduceLeDiff,Nat.reduceAdd,Nat.reduceMul,Nat.reduceSub,reduceCtorEq,Int.reduceToNat]) ⟨by show j+1≤A.length;omega,hI1,hu,hu1,next (fun h=>by rw [ht] at h;exact absurd h.2.2 (by simp))⟩ (by show A.length - (j+1)<A.length - j;omega) ?_
                (simp (disch:=first|omega|(simp only [vlen];first|done|omega)) only [Fits_u,Fits_m,Fits_nil,List.length_append,vre,↓vAq,vBq,↓reduceIte,Nat.reduceBEq,Nat.reduceEqDiff,Nat.reduceLT,Nat.reduceLeDiff,Nat.reduceAdd,Nat.reduceMul,Nat.reduceSub,reduceCtorEq,Int.reduceToNat]<;>(repeat' first|rfl|apply And.intro))
                all_goals trace_state
              | false =>
                have hlt:=unB_lt hrg.2 ht
                repeat' first|((first|refine Br.dec ?_ ?_|refine Br.eqi ?_ ?_)<;>intro h<;>try (exfalso;omega))|(simp (disch:=first|omega|(simp only [vlen];first|done|omega)) only [ha,hp,ht,vre,↓vAq,vBq,↓reduceIte,Nat.reduceBEq,Nat.reduceEqDiff,Nat.reduceLT,Nat.reduceLeDiff,Nat.reduceAdd,Nat.reduceMul,Nat.reduceSub,reduceCtorEq,Int.reduceToNat])|(refine Br.mk ?_ ?_<;>intro h)|(refine BrN.mk (fun h => ?_) ?_)|(refine AltVC.mk ?_ ?_)
                refine loopK.mk (j+1,fun q=>if q=t then true else f1 q,true) (by simp (disch:=first|omega|(simp only [vlen];first|done|omega)) only [vre,↓vAq,vBq,↓reduceIte,Nat.reduceBEq,Nat.reduceEqDiff,Nat.reduceLT,Nat.reduceLeDiff,Nat.reduceAdd,Nat.reduceMul,Nat.reduceSub,reduceCtorEq,Int.reduceToNat]) ⟨by show j+1≤A.length;omega,hI1.add ham hp,by show unB M (fun q=>if q=t then true else f1 q)≤unB M f0;omega,fun _=>by show unB M (fun q=>if q=t then true else f1 q)<unB M f0;omega,fun h=>(by cases h)⟩ (by show A.length - (j+1)<A.length - j;omega) ?_
                (simp (disch:=first|omega|(simp only [vlen];first|done|omega)) only [Fits_u,Fits_m,Fits_nil,List.length_append,vre,↓vAq,vBq,↓reduceIte,Nat.reduceBEq,Nat.reduceEqDiff,Nat.reduceLT,Nat.reduceLeDiff,Nat.reduceAdd,Nat.reduceMul,Nat.reduceSub,reduceCtorEq,Int.reduceToNat]<;>(repeat' first|rfl|apply And.intro))
                all_goals trace_state
          · repeat' first|((first|refine Br.dec ?_ ?_|refine Br.eqi ?_ ?_)<;>intro h<;>try (exfalso;omega))|(simp (disch:=first|omega|(simp only [vlen];first|done|omega)) only [ha,hcc,vre,↓vAq,vBq,↓reduceIte,Nat.reduceBEq,Nat.reduceEqDiff,Nat.reduceLT,Nat.reduceLeDiff,Nat.reduceAdd,Nat.reduceMul,Nat.reduceSub,reduceCtorEq,Int.reduceToNat])|(refine Br.mk ?_ ?_<;>intro h)|(refine BrN.mk (fun h => ?_) ?_)|(refine AltVC.mk ?_ ?_)
            refine loopK.mk (j+1,f1,more) (by simp (disch:=first|omega|(simp only [vlen];first|done|omega)) only [vre,↓vAq,vBq,↓reduceIte,Nat.reduceBEq,Nat.reduceEqDiff,Nat.reduceLT,Nat.reduceLeDiff,Nat.reduceAdd,Nat.reduceMul,Nat.reduceSub,reduceCtorEq,Int.reduceToNat]) ⟨by show j+1≤A.length;omega,hI1,hu,hu1,next (fun h=>hcc h.1)⟩ (by show A.length - (j+1)<A.length - j;omega) ?_
            (simp (disch:=first|omega|(simp only [vlen];first|done|omega)) only [Fits_u,Fits_m,Fits_nil,List.length_append,vre,↓vAq,vBq,↓reduceIte,Nat.reduceBEq,Nat.reduceEqDiff,Nat.reduceLT,Nat.reduceLeDiff,Nat.reduceAdd,Nat.reduceMul,Nat.reduceSub,reduceCtorEq,Int.reduceToNat]<;>(repeat' first|rfl|apply And.intro))
            all_goals trace_state
        · have hje:j=A.length:=by omega
          subst hje
          repeat' first|((first|refine Br.dec ?_ ?_|refine Br.eqi ?_ ?_)<;>intro h<;>try (exfalso;omega))|(simp (disch:=first|omega|(simp only [vlen];first|done|omega)) only [vre,↓vAq,vBq,↓reduceIte,Nat.reduceBEq,Nat.reduceEqDiff,Nat.reduceLT,Nat.reduceLeDiff,Nat.reduceAdd,Nat.reduceMul,Nat.reduceSub,reduceCtorEq,Int.reduceToNat])|(refine Br.mk ?_ ?_<;>intro h)|(refine BrN.mk (fun h => ?_) ?_)|(refine AltVC.mk ?_ ?_)
          refine loopK.mk (f1,more) (by simp (disch:=first|omega|(simp only [vlen];first|done|omega)) only [vre,↓vAq,vBq,↓reduceIte,Nat.reduceBEq,Nat.reduceEqDiff,Nat.reduceLT,Nat.reduceLeDiff,Nat.reduceAdd,Nat.reduceMul,Nat.reduceSub,reduceCtorEq,Int.reduceToNat]) ⟨hI1,fun hm p t ha hp => ?_⟩ ?_ ?_
          · obtain ⟨e1,e2⟩:=hu2 hm
            simp only at hp ⊢
            rw [e1] at hp ⊢
            obtain ⟨i,i1,i2⟩:=List.getElem_of_mem ha
            exact e2 i i1 p t (by simp [List.getD_eq_getElem?_getD,i1,i2]) hp
          · show 2 * unB M f1+(if more=true then 1 else 0)<2 * unB M f0+(if true=true then 1 else 0)
            cases more with
            | true=>have:=hu1 rfl;simp;omega
            | false=>simp;omega
          · (simp (disch:=first|omega|(simp only [vlen];first|done|omega)) only [Fits_u,Fits_m,Fits_nil,List.length_append,vre,↓vAq,vBq,↓reduceIte,Nat.reduceBEq,Nat.reduceEqDiff,Nat.reduceLT,Nat.reduceLeDiff,Nat.reduceAdd,Nat.reduceMul,Nat.reduceSub,reduceCtorEq,Int.reduceToNat]<;>(repeat' first|rfl|apply And.intro))
            all_goals trace_state
theorem b00:(false != false)=false:=(rfl)
theorem b01:(false != true)=true:=(rfl)
theorem b10:(true != false)=true:=(rfl)
theorem b11:(true != true)=false:=(rfl)
theorem bt_inj {M:Nat} {f g:Nat→Bool}:bt M f=bt M g ↔ ∀ q,q<M→f q=g q:=by
  constructor
  · intro h q hq
    have:=congrArg (fun l=>l.getD q false) h
    simp only [bt_get hq] at this
    exact this
  · exact bt_ext
set_option maxRecDepth 10000 in
set_option maxHeartbeats 4000000 in
theorem same_spec (M : Nat) (hM : M ≤ 1000000) (f g : Nat → Bool) : Dm.Spec Try.prog 18 [.sl 1 (bls (bt M f)), .sl 1 (bls (bt M g))] (· = .v (.bool (decide (bt M f = bt M g)))) := by
  refine spec_of_vc mixed Try.func18 c18 (by rw [show Try.f18.ntmps=_ from Try.ntmps18];simp) ?_
  unfold m18 r18
  repeat' first|((first|refine Br.dec ?_ ?_|refine Br.eqi ?_ ?_)<;>intro h<;>try (exfalso;omega))|(simp (disch:=first|omega|(simp only [vlen];first|done|omega)) only [vre,↓vAq,vBq,↓reduceIte,Nat.reduceBEq,Nat.reduceEqDiff,Nat.reduceLT,Nat.reduceLeDiff,Nat.reduceAdd,Nat.reduceMul,Nat.reduceSub,reduceCtorEq,Int.reduceToNat])|(refine Br.mk ?_ ?_<;>intro h)|(refine BrN.mk (fun h => ?_) ?_)|(refine AltVC.mk ?_ ?_)
  refine LoopVC.mk (X:=Nat) (fun i=>[(5,iv .i64 i)]) (fun _=>[]) (fun i=>M - i) (fun i=>i≤M∧∀ j,j<i→f j=g j) 0 ⟨Nat.zero_le _,fun j h=>absurd h (Nat.not_lt_zero _)⟩ ?_ ?_
  · (simp (disch:=first|omega|(simp only [vlen];first|done|omega)) only [Fits_u,Fits_m,Fits_nil,List.length_append,vre,↓vAq,vBq,↓reduceIte,Nat.reduceBEq,Nat.reduceEqDiff,Nat.reduceLT,Nat.reduceLeDiff,Nat.reduceAdd,Nat.reduceMul,Nat.reduceSub,reduceCtorEq,Int.reduceToNat]<;>(repeat' first|rfl|apply And.intro))
  · rintro i ⟨hi,hall⟩
    by_cases him:i<M
    · cases hf:f i<;>cases hg:g i
      · repeat' first|((first|refine Br.dec ?_ ?_|refine Br.eqi ?_ ?_)<;>intro h<;>try (exfalso;omega))|(simp (disch:=first|omega|(simp only [vlen];first|done|omega)) only [hf,hg,b00,b01,b10,b11,vre,↓vAq,vBq,↓reduceIte,Nat.reduceBEq,Nat.reduceEqDiff,Nat.reduceLT,Nat.reduceLeDiff,Nat.reduceAdd,Nat.reduceMul,Nat.reduceSub,reduceCtorEq,Int.reduceToNat])|(refine Br.mk ?_ ?_<;>intro h)|(refine BrN.mk (fun h => ?_) ?_)|(refine AltVC.mk ?_ ?_)
        refine loopK.mk (i+1) (by simp (disch:=first|omega|(simp only [vlen];first|done|omega)) only [↓vAq,vBq,↓reduceIte,Nat.reduceBEq,Nat.reduceEqDiff,Nat.reduceLT,Nat.reduceLeDiff,Nat.reduceAdd,Nat.reduceMul,Nat.reduceSub,reduceCtorEq,Int.reduceToNat]) ⟨by omega,fun j hj => ?_⟩ (by omega) (by (simp (disch:=first|omega|(simp only [vlen];first|done|omega)) only [Fits_u,Fits_m,Fits_nil,List.length_append,vre,↓vAq,vBq,↓reduceIte,Nat.reduceBEq,Nat.reduceEqDiff,Nat.reduceLT,Nat.reduceLeDiff,Nat.reduceAdd,Nat.reduceMul,Nat.reduceSub,reduceCtorEq,Int.reduceToNat]<;>(repeat' first|rfl|apply And.intro)))
        by_cases e:j=i
        · rw [e,hf,hg]
        · exact hall j (by omega)
      · repeat' first|((first|refine Br.dec ?_ ?_|refine Br.eqi ?_ ?_)<;>intro h<;>try (exfalso;omega))|(simp (disch:=first|omega|(simp only [vlen];first|done|omega)) only [hf,hg,b00,b01,b10,b11,vre,↓vAq,vBq,↓reduceIte,Nat.reduceBEq,Nat.reduceEqDiff,Nat.reduceLT,Nat.reduceLeDiff,Nat.reduceAdd,Nat.reduceMul,Nat.reduceSub,reduceCtorEq,Int.reduceToNat])|(refine Br.mk ?_ ?_<;>intro h)|(refine BrN.mk (fun h => ?_) ?_)|(refine AltVC.mk ?_ ?_)
        exact fin_mk (vbEq (decide_eq_false fun e=>by have:=bt_inj.1 e i him;rw [hf,hg] at this;cases this).symm)
      · repeat' first|((first|refine Br.dec ?_ ?_|refine Br.eqi ?_ ?_)<;>intro h<;>try (exfalso;omega))|(simp (disch:=first|omega|(simp only [vlen];first|done|omega)) only [hf,hg,b00,b01,b10,b11,vre,↓vAq,vBq,↓reduceIte,Nat.reduceBEq,Nat.reduceEqDiff,Nat.reduceLT,Nat.reduceLeDiff,Nat.reduceAdd,Nat.reduceMul,Nat.reduceSub,reduceCtorEq,Int.reduceToNat])|(refine Br.mk ?_ ?_<;>intro h)|(refine BrN.mk (fun h => ?_) ?_)|(refine AltVC.mk ?_ ?_)
        exact fin_mk (vbEq (decide_eq_false fun e=>by have:=bt_inj.1 e i him;rw [hf,hg] at this;cases this).symm)
      · repeat' first|((first|refine Br.dec ?_ ?_|refine Br.eqi ?_ ?_)<;>intro h<;>try (exfalso;omega))|(simp (disch:=first|omega|(simp only [vlen];first|done|omega)) only [hf,hg,b00,b01,b10,b11,vre,↓vAq,vBq,↓reduceIte,Nat.reduceBEq,Nat.reduceEqDiff,Nat.reduceLT,Nat.reduceLeDiff,Nat.reduceAdd,Nat.reduceMul,Nat.reduceSub,reduceCtorEq,Int.reduceToNat])|(refine Br.mk ?_ ?_<;>intro h)|(refine BrN.mk (fun h => ?_) ?_)|(refine AltVC.mk ?_ ?_)
        refine loopK.mk (i+1) (by simp (disch:=first|omega|(simp only [vlen];first|done|omega)) only [↓vAq,vBq,↓reduceIte,Nat.reduceBEq,Nat.reduceEqDiff,Nat.reduceLT,Nat.reduceLeDiff,Nat.reduceAdd,Nat.reduceMul,Nat.reduceSub,reduceCtorEq,Int.reduceToNat]) ⟨by omega,fun j hj => ?_⟩ (by omega) (by (simp (disch:=first|omega|(simp only [vlen];first|done|omega)) only [Fits_u,Fits_m,Fits_nil,List.length_append,vre,↓vAq,vBq,↓reduceIte,Nat.reduceBEq,Nat.reduceEqDiff,Nat.reduceLT,Nat.reduceLeDiff,Nat.reduceAdd,Nat.reduceMul,Nat.reduceSub,reduceCtorEq,Int.reduceToNat]<;>(repeat' first|rfl|apply And.intro)))
        by_cases e:j=i
        · rw [e,hf,hg]
        · exact hall j (by omega)
    · have:i=M:=by omega
      subst this
      repeat' first|((first|refine Br.dec ?_ ?_|refine Br.eqi ?_ ?_)<;>intro h<;>try (exfalso;omega))|(simp (disch:=first|omega|(simp only [vlen];first|done|omega)) only [vre,↓vAq,vBq,↓reduceIte,Nat.reduceBEq,Nat.reduceEqDiff,Nat.reduceLT,Nat.reduceLeDiff,Nat.reduceAdd,Nat.reduceMul,Nat.reduceSub,reduceCtorEq,Int.reduceToNat])|(refine Br.mk ?_ ?_<;>intro h)|(refine BrN.mk (fun h => ?_) ?_)|(refine AltVC.mk ?_ ?_)
      exact fin_mk (vbEq (decide_eq_true (bt_inj.2 hall)).symm)
end Go.Proofs.Ytpgomgjpliallaa

namespace Go.Proofs.Ytpgomgjpliallaa
open Go.Dm
def Few (x:Rx) (B:Nat):Prop := ∃ f:List Int→Nat,(∀ w,f w<B)∧∀ w w',f w=f w'→∀ q,x.R w q ↔ x.R w' q
theorem Few.mono {x:Rx} {B C:Nat} (h:Few x B) (hb:B≤C):Few x C:=let ⟨f,h1,h2⟩:=h;⟨f,fun w=>Nat.lt_of_lt_of_le (h1 w) hb,h2⟩
open Classical in
noncomputable def maskOf (ix:List Nat) (P:Nat→Prop) (n:Nat):Nat:=setOf (fun j=>decide (P (ix.getD j 0))) n
theorem maskOf_lt {ix:List Nat} {P:Nat→Prop} {n:Nat}:maskOf ix P n<2 ^ n:=setOf_lt
theorem maskOf_eq {ix:List Nat} {P Q:Nat→Prop} {n:Nat} (hn:ix.length≤n) (h:maskOf ix P n=maskOf ix Q n) {q:Nat} (hq:q ∈ ix):P q ↔ Q q:=by
  obtain ⟨j,hj,rfl⟩:=List.getElem_of_mem hq
  have e:ix.getD j 0=ix[j]:=by simp [List.getD,hj]
  have h2:=congrArg (fun m=>m.testBit j) h
  unfold maskOf at h2
  simp only [setOf_bit] at h2
  rw [decide_eq_true (show j<n by omega),Bool.true_and,Bool.true_and,decide_eq_decide,e] at h2
  exact h2
def ixS (s:List Int) (a:Int):List Nat:=(List.range s.length).filter fun q=>decide (s.getD q 0=a)
def ixN (s:List Int) (a:Int):List Nat:=(List.range s.length).filter fun q=>decide (¬ s.getD q 0=a)
theorem ixS_mem {s:List Int} {a:Int} {q:Nat} (h:q<s.length) (e:s.getD q 0=a):q ∈ ixS s a:=List.mem_filter.2 ⟨List.mem_range.2 h,decide_eq_true e⟩
theorem ixN_mem {s:List Int} {a:Int} {q:Nat} (h:q<s.length) (e:¬ s.getD q 0=a):q ∈ ixN s a:=List.mem_filter.2 ⟨List.mem_range.2 h,decide_eq_true e⟩
theorem map_range_getD:∀ {s:List Int},(List.range s.length).map (fun q=>s.getD q 0)=s:=by
  intro s
  apply List.ext_getElem
  · simp
  · intro i h1 h2
    simp [List.getD,h2]
theorem ixS_len {s:List Int} {a:Int}:(ixS s a).length=s.count a:=by
  have h:s.count a=((List.range s.length).map (fun q=>s.getD q 0)).count a:=by rw [map_range_getD]
  rw [h,List.count,List.countP_map,List.countP_eq_length_filter]
  unfold ixS
  congr 2
theorem ixN_len {s : List Int} {a : Int} : (ixN s a).length + s.count a = s.length := by
  rw [← ixS_len]
  have h:∀ r:List Nat,(r.filter fun q=>decide (¬ s.getD q 0=a)).length+(r.filter fun q=>decide (s.getD q 0=a)).length=r.length:=by
    intro r
    induction r with
    | nil=>rfl
    | cons x r ih =>
      by_cases e:s.getD x 0=a
      · rw [List.filter_cons_of_neg (by simpa using e),List.filter_cons_of_pos (by simpa using e)]
        simp only [List.length_cons];omega
      · rw [List.filter_cons_of_pos (by simpa using e),List.filter_cons_of_neg (by simpa using e)]
        simp only [List.length_cons];omega
  have:=h (List.range s.length)
  rw [List.length_range] at this
  exact this
open Classical in
theorem few_mask {x : Rx} (hs : ∀ c, c ∈ x.s → 0 ≤ c ∧ c < 3) (h : ∀ a, x.s.count a ≤ 40) : Few x (1 + 3 * 2 ^ 40) := by
  have e40:(2:Nat) ^ 40=1099511627776:=by decide
  refine ⟨fun w=>if ∃ q,x.R w q then 1+((w.getLastD 0).toNat * 2 ^ 40+maskOf (ixS x.s (w.getLastD 0)) (x.R w) 40) else 0,fun w => ?_,fun w w' hw => ?_⟩
  · have hm:=@maskOf_lt (ixS x.s (w.getLastD 0)) (x.R w) 40
    have hl:(∃ q,x.R w q)→(w.getLastD 0).toNat≤2:=fun ⟨q,hq⟩=>by
      obtain ⟨h1,v,h2⟩:=Rx.r_last hq
      have h3:=hs (x.s.getD q 0) (getD_mem' (l:=x.s) (i:=q) h1)
      rw [h2];simp only [List.getLastD_concat];omega
    dsimp only
    split
    · next hq=>have:=hl hq;rw [e40] at *;omega
    · rw [e40];omega
  · have hlast : ∀ {w : List Int} {q : Nat}, x.R w q → q < x.s.length ∧ x.s.getD q 0 = w.getLastD 0 ∧ 0 ≤ w.getLastD 0 := by
      intro w q hq
      obtain ⟨h1,v,h2⟩:=Rx.r_last hq
      have h3:=hs (x.s.getD q 0) (getD_mem' (l:=x.s) (i:=q) h1)
      have e : w.getLastD 0 = x.s.getD q 0 := by conv => lhs; rw [h2]
                                                 simp
      exact ⟨h1,e.symm,by rw [e];exact h3.1⟩
    have key:∀ {w w':List Int},(∃ q,x.R w q)→(∃ q,x.R w' q)→(1+((w.getLastD 0).toNat * 2 ^ 40+maskOf (ixS x.s (w.getLastD 0)) (x.R w) 40))=(1+((w'.getLastD 0).toNat * 2 ^ 40+maskOf (ixS x.s (w'.getLastD 0)) (x.R w') 40))→∀ q,x.R w q→x.R w' q:=by
      intro w w' h1 h2 he q hq
      obtain ⟨q2,hq2⟩:=h2
      have k1:=hlast hq
      have k2:=hlast hq2
      have m1:=@maskOf_lt (ixS x.s (w.getLastD 0)) (x.R w) 40
      have m2:=@maskOf_lt (ixS x.s (w'.getLastD 0)) (x.R w') 40
      rw [e40] at he m1 m2
      have ea:w.getLastD 0=w'.getLastD 0:=by omega
      have em:maskOf (ixS x.s (w.getLastD 0)) (x.R w) 40=maskOf (ixS x.s (w'.getLastD 0)) (x.R w') 40:=by rw [ea] at he ⊢;omega
      rw [← ea] at em
      exact (maskOf_eq (by rw [ixS_len];exact h _) em (ixS_mem k1.1 k1.2.1)).1 hq
    dsimp only at hw
    by_cases h1 : ∃ q,x.R w q
    · by_cases h2 : ∃ q,x.R w' q
      · rw [if_pos h1,if_pos h2] at hw
        exact fun q=>⟨key h1 h2 hw q,key h2 h1 hw.symm q⟩
      · rw [if_pos h1,if_neg h2] at hw;omega
    · by_cases h2 : ∃ q,x.R w' q
      · rw [if_neg h1,if_pos h2] at hw;omega
      · exact fun q=>⟨fun h=>absurd ⟨q,h⟩ h1,fun h=>absurd ⟨q,h⟩ h2⟩
theorem run_ex (a:Int) (w:List Int) : ∃ p:List Int × Nat,w=p.1++List.replicate p.2 a∧∀ c v,p.1=v++[c]→¬ c=a:=by
  induction w using snoc_ind with
  | h0=>exact ⟨([],0),rfl,fun c v h=>by cases v<;>cases h⟩
  | h1 w c ih =>
    obtain ⟨⟨v,j⟩,e,h⟩:=ih
    by_cases hc:c=a
    · refine ⟨(v,j+1),?_,h⟩
      rw [e,hc]
      simp only
      rw [List.append_assoc,← List.replicate_succ']
    · refine ⟨(w++[c],0),by simp,fun c' v' h' => ?_⟩
      have:=(List.append_inj' h' rfl).2
      simp only [List.cons.injEq,and_true] at this
      rw [← this];exact hc
open Classical in
noncomputable def runOf (a:Int) (w:List Int):List Int × Nat:=Classical.choose (run_ex a w)
theorem runOf_spec (a:Int) (w:List Int):w=(runOf a w).1++List.replicate (runOf a w).2 a∧∀ c v,(runOf a w).1=v++[c]→¬ c=a:=Classical.choose_spec (run_ex a w)
theorem div_eq2 {n j j' K K':Nat} (hj:j<n) (hj':j'<n) (h:j+n * K=j'+n * K'):j=j'∧K=K':=by
  have h1:(j+n * K) % n=j:=by rw [Nat.add_mul_mod_self_left,Nat.mod_eq_of_lt hj]
  have h2:(j'+n * K') % n=j':=by rw [Nat.add_mul_mod_self_left,Nat.mod_eq_of_lt hj']
  have e:j=j':=by rw [← h1,← h2,h]
  refine ⟨e,?_⟩
  subst e
  exact Nat.eq_of_mul_eq_mul_left (show 0<n by omega) (by omega)
open Classical in
theorem few_run {x : Rx} (a : Int) (n : Nat) (hdet : ∀ w w' v, w ≠ [] → w' ≠ [] → (∀ q, x.R w q ↔ x.R w' q) → ∀ q, x.R (w ++ v) q → x.R (w' ++ v) q)
    (hlen:∀ w q,x.R w q→w.length≤n) (hc:(ixN x.s a).length≤32):Few x (1+(n+1) * (2 ^ 32+1)):=by
  refine ⟨fun w=>if ∃ q,x.R w q then 1+((runOf a w).2+(n+1) * if (runOf a w).1=[] then 0 else 1+maskOf (ixN x.s a) (x.R (runOf a w).1) 32) else 0,fun w => ?_,fun w w' hw => ?_⟩
  · have hm:=@maskOf_lt (ixN x.s a) (x.R (runOf a w).1) 32
    have hl:(∃ q,x.R w q)→(runOf a w).2≤n:=fun ⟨q,hq⟩=>by
      have h1:=hlen w q hq
      have h2:=congrArg List.length (runOf_spec a w).1
      rw [List.length_append,List.length_replicate] at h2
      omega
    dsimp only
    by_cases hq : ∃ q,x.R w q
    · rw [if_pos hq]
      have h1:=hl hq
      have h2:(if (runOf a w).1=[] then 0 else 1+maskOf (ixN x.s a) (x.R (runOf a w).1) 32)≤2 ^ 32:=by split<;>omega
      have h3:=Nat.mul_le_mul_left (n+1) h2
      rw [Nat.mul_add,Nat.mul_one]
      omega
    · rw [if_neg hq]
      exact Nat.lt_of_lt_of_le Nat.zero_lt_one (Nat.le_add_right _ _)
  · have hl : ∀ {w : List Int}, (∃ q, x.R w q) → (runOf a w).2 < n + 1 := fun {w} ⟨q, hq⟩ => by
      have h1:=hlen w q hq
      have h2:=congrArg List.length (runOf_spec a w).1
      rw [List.length_append,List.length_replicate] at h2
      omega
    have key:∀ {w w':List Int},(∃ q,x.R w q)→(∃ q,x.R w' q)→(1+((runOf a w).2+(n+1) * if (runOf a w).1=[] then 0 else 1+maskOf (ixN x.s a) (x.R (runOf a w).1) 32))=(1+((runOf a w').2+(n+1) * if (runOf a w').1=[] then 0 else 1+maskOf (ixN x.s a) (x.R (runOf a w').1) 32))→∀ q,x.R w q→x.R w' q:=by
      intro w w' h1 h2 he q hq
      obtain ⟨e1,e2⟩:=div_eq2 (hl h1) (hl h2) (Nat.add_left_cancel he)
      have s1:=runOf_spec a w
      have s2:=runOf_spec a w'
      generalize (runOf a w).2=j at *
      generalize (runOf a w').2=j' at *
      generalize (runOf a w).1=v at *
      generalize (runOf a w').1=v' at *
      subst e1
      by_cases z1:v=[]
      · by_cases z2:v'=[]
        · rw [s1.1,z1,← z2,← s2.1] at hq;exact hq
        · rw [if_pos z1,if_neg z2] at e2;omega
      · by_cases z2:v'=[]
        · rw [if_neg z1,if_pos z2] at e2;omega
        · rw [if_neg z1,if_neg z2] at e2
          have e2:=Nat.add_left_cancel e2
          have hh:∀ {v v':List Int},(∀ c u,v=u++[c]→¬ c=a)→maskOf (ixN x.s a) (x.R v) 32=maskOf (ixN x.s a) (x.R v') 32→∀ q,x.R v q→x.R v' q:=by
            intro v v' hv he q hq
            obtain ⟨k1,u,k2⟩:=Rx.r_last hq
            exact (maskOf_eq hc he (ixN_mem k1 (hv _ _ k2))).1 hq
          rw [s1.1] at hq
          rw [s2.1]
          exact hdet v v' _ z1 z2 (fun q=>⟨hh s1.2 e2 q,hh s2.2 e2.symm q⟩) q hq
    dsimp only at hw
    by_cases h1 : ∃ q,x.R w q
    · by_cases h2 : ∃ q,x.R w' q
      · rw [if_pos h1,if_pos h2] at hw
        exact fun q=>⟨key h1 h2 hw q,key h2 h1 hw.symm q⟩
      · rw [if_pos h1,if_neg h2] at hw;omega
    · by_cases h2 : ∃ q,x.R w' q
      · rw [if_neg h1,if_pos h2] at hw;omega
      · exact fun q=>⟨fun h=>absurd ⟨q,h⟩ h1,fun h=>absurd ⟨q,h⟩ h2⟩
theorem all_rep {a:Int}:∀ {w:List Int},(∀ c,c ∈ w→c=a)→w=List.replicate w.length a
  | [],_=>rfl
  | c::w,h=>by
    rw [List.length_cons,List.replicate_succ,h c (by simp),← all_rep fun c hc=>h c (List.mem_cons_of_mem _ hc)]
open Classical in
theorem few_una {x : Rx} (a : Int) (p : Nat) (hp : 0 < p) (hall : ∀ c, c ∈ x.s → c = a) (hmon : ∀ n q, x.s.length < n → x.R (List.replicate n a) q → x.R (List.replicate (n + p) a) q) : Few x (2 + x.s.length + p * (x.s.length + 1)) := by
  have hrep:∀ {w:List Int} {q:Nat},x.R w q→w=List.replicate w.length a:=fun h=>all_rep fun c hc=>hall c (Rx.r_sub h c hc)
  have hcard:∀ w,((List.range x.s.length).filter fun q=>decide (x.R w q)).length≤x.s.length:=fun w=>Nat.le_trans (List.length_filter_le _ _) (by simp)
  refine ⟨fun w=>if ∃ q,x.R w q then (if w.length≤x.s.length then 1+w.length else 2+x.s.length+(((List.range x.s.length).filter fun q=>decide (x.R w q)).length+(x.s.length+1) * (w.length % p))) else 0,fun w => ?_,fun w w' hw => ?_⟩
  · dsimp only
    split
    · split
      · omega
      · have h1:=hcard w
        have h2:w.length % p<p:=Nat.mod_lt _ hp
        have h3:=Nat.mul_le_mul_left (x.s.length+1) (show w.length % p+1≤p by omega)
        rw [Nat.mul_comm p]
        rw [Nat.mul_add,Nat.mul_one] at h3
        omega
    · omega
  · have hmon2:∀ m n q,x.s.length<n→x.R (List.replicate n a) q→x.R (List.replicate (n+p * m) a) q:=by
      intro m
      induction m with
      | zero=>intro n q _ h;exact h
      | succ m ih =>
        intro n q hn h
        rw [Nat.mul_succ,← Nat.add_assoc]
        exact hmon _ q (by omega) (ih n q hn h)
    have sub:∀ {w w':List Int},(∃ q,x.R w q)→(∃ q,x.R w' q)→¬ w.length≤x.s.length→w.length % p=w'.length % p→w.length≤w'.length→∀ q,x.R w q→x.R w' q:=by
      intro w w' ⟨_,h1⟩ ⟨_,h2⟩ hl hm hle q hq
      have e1:=hrep h1
      have e2:=hrep h2
      obtain ⟨m,hm⟩ : ∃ m,w'.length=w.length+p * m:=by
        refine ⟨w'.length / p - w.length / p,?_⟩
        have d1:=Nat.div_add_mod w.length p
        have d2:=Nat.div_add_mod w'.length p
        have d3:w.length / p≤w'.length / p:=Nat.div_le_div_right hle
        rw [Nat.mul_sub]
        have d4:=Nat.mul_le_mul_left p d3
        omega
      rw [e2,hm]
      rw [e1] at hq
      exact hmon2 m _ q (by omega) hq
    have key:∀ {w w':List Int},(∃ q,x.R w q)→(∃ q,x.R w' q)→w.length≤w'.length→(if w.length≤x.s.length then 1+w.length else 2+x.s.length+(((List.range x.s.length).filter fun q=>decide (x.R w q)).length+(x.s.length+1) * (w.length % p)))=(if w'.length≤x.s.length then 1+w'.length else 2+x.s.length+(((List.range x.s.length).filter fun q=>decide (x.R w' q)).length+(x.s.length+1) * (w'.length % p)))→∀ q,x.R w q ↔ x.R w' q:=by
      intro w w' h1 h2 hle he
      by_cases s1:w.length≤x.s.length
      · by_cases s2:w'.length≤x.s.length
        · rw [if_pos s1,if_pos s2] at he
          obtain ⟨_,k1⟩:=h1
          obtain ⟨_,k2⟩:=h2
          have e1:=hrep k1
          have e2:=hrep k2
          have:w=w':=by rw [e1,e2];congr 1;omega
          intro q;rw [this]
        · rw [if_pos s1,if_neg s2] at he;omega
      · have s2:¬ w'.length≤x.s.length:=by omega
        rw [if_neg s1,if_neg s2] at he
        obtain ⟨c1,c2⟩:=div_eq2 (by have:=hcard w;omega) (by have:=hcard w';omega) (Nat.add_left_cancel he)
        have hsub:=sub h1 h2 s1 c2 hle
        intro q
        refine ⟨hsub q,fun hq => ?_⟩
        apply Classical.byContradiction
        intro hn
        have hql:=(Rx.r_last hq).1
        have:=Go.Dm.filter_lt (l:=List.range x.s.length) (p:=fun q=>decide (x.R w q)) (q:=fun q=>decide (x.R w' q)) (fun y hy=>decide_eq_true (hsub y (of_decide_eq_true hy))) (List.mem_range.2 hql) (decide_eq_true hq) (decide_eq_false hn)
        omega
    dsimp only at hw
    by_cases h1 : ∃ q,x.R w q
    · by_cases h2 : ∃ q,x.R w' q
      · rw [if_pos h1,if_pos h2] at hw
        rcases Nat.le_total w.length w'.length with hle|hle
        · exact key h1 h2 hle hw
        · exact fun q=>(key h2 h1 hle hw.symm q).symm
      · rw [if_pos h1,if_neg h2] at hw
        split at hw<;>omega
    · by_cases h2 : ∃ q,x.R w' q
      · rw [if_neg h1,if_pos h2] at hw
        split at hw<;>omega
      · exact fun q=>⟨fun h=>absurd ⟨q,h⟩ h1,fun h=>absurd ⟨q,h⟩ h2⟩
end Go.Proofs.Ytpgomgjpliallaa

namespace Go.Proofs.Ytpgomgjpliallaa
open Go.Dm
theorem star_ne {A:Lg} {w:List Int} (h:Star A w):w ≠ [] → ∃ v,v ≠ []∧A v:=by
  induction h with
  | nil=>exact fun h=>absurd rfl h
  | @app a b h t ih =>
    intro hne
    by_cases e:a=[]
    · subst e;exact ih hne
    · exact ⟨a,e,h⟩
theorem rx_short {x : Rx} : (∀ w, x.L w → ∃ v, x.L v ∧ v.length ≤ x.s.length) ∧ ∀ w, x.L w → w ≠ [] → ∃ v, x.L v ∧ v ≠ [] ∧ v.length ≤ x.s.length := by
  induction x with
  | no=>exact ⟨fun w h=>h.elim,fun w h=>h.elim⟩
  | em=>exact ⟨fun w h=>⟨[],rfl,Nat.zero_le _⟩,fun w h hne=>absurd h hne⟩
  | sy a=>exact ⟨fun w h=>⟨[a],rfl,Nat.le_refl _⟩,fun w h hne=>⟨[a],rfl,by simp,Nat.le_refl _⟩⟩
  | cat x y ihx ihy =>
    refine ⟨fun w ⟨u,v,h1,h2,_⟩ => ?_,fun w ⟨u,v,h1,h2,e⟩ hne => ?_⟩
    · obtain ⟨u',k1,k2⟩:=ihx.1 u h1
      obtain ⟨v',k3,k4⟩:=ihy.1 v h2
      exact ⟨u'++v',⟨u',v',k1,k3,rfl⟩,by show _≤(x.s++y.s).length;rw [List.length_append,List.length_append];omega⟩
    · by_cases hu:u=[]
      · have hv:v ≠ []:=fun hv=>hne (by rw [e,hu,hv];rfl)
        obtain ⟨u',k1,k2⟩:=ihx.1 u h1
        obtain ⟨v',k3,k5,k4⟩:=ihy.2 v h2 hv
        exact ⟨u'++v',⟨u',v',k1,k3,rfl⟩,by simp [k5],by show _≤(x.s++y.s).length;rw [List.length_append,List.length_append];omega⟩
      · obtain ⟨u',k1,k5,k2⟩:=ihx.2 u h1 hu
        obtain ⟨v',k3,k4⟩:=ihy.1 v h2
        exact ⟨u'++v',⟨u',v',k1,k3,rfl⟩,by simp [k5],by show _≤(x.s++y.s).length;rw [List.length_append,List.length_append];omega⟩
  | or x y ihx ihy =>
    constructor
    · rintro w (h|h)
      · obtain ⟨v,k1,k2⟩:=ihx.1 w h
        exact ⟨v,.inl k1,by show _≤(x.s++y.s).length;rw [List.length_append];omega⟩
      · obtain ⟨v,k1,k2⟩:=ihy.1 w h
        exact ⟨v,.inr k1,by show _≤(x.s++y.s).length;rw [List.length_append];omega⟩
    · rintro w (h|h) hne
      · obtain ⟨v,k1,k3,k2⟩:=ihx.2 w h hne
        exact ⟨v,.inl k1,k3,by show _≤(x.s++y.s).length;rw [List.length_append];omega⟩
      · obtain ⟨v,k1,k3,k2⟩:=ihy.2 w h hne
        exact ⟨v,.inr k1,k3,by show _≤(x.s++y.s).length;rw [List.length_append];omega⟩
  | star x ih =>
    refine ⟨fun w h=>⟨[],.nil,Nat.zero_le _⟩,fun w h hne => ?_⟩
    obtain ⟨v,h1,h2⟩:=star_ne h hne
    obtain ⟨v',k1,k2,k3⟩:=ih.2 v h2 h1
    refine ⟨v',?_,k2,k3⟩
    have:=Star.app k1 .nil
    rwa [List.append_nil] at this
def Gd (l:List Dm.Node) (a:Int) (p j:Nat):Prop:=∀ i,i<j→(l.getD i default).kind=6→(∀ c,c ∈ (rx l i).s→c=a)→(∃ w,w ≠ []∧(rx l (l.getD i default).a.toNat).L w) → ∃ m,0<m∧m ∣ p∧(rx l (l.getD i default).a.toNat).L (List.replicate m a)
def starB (l:List Dm.Node) (i:Nat):Bool:=decide ((l.getD i default).kind=6)
section
variable {k:Int} {l:List Dm.Node} {a:Int}
theorem gd_ex (hv : NodesOk k l) (hl : l.length ≤ 9) : ∀ j, j ≤ l.length → ∃ p, 0 < p ∧ p ≤ 256 ^ ((List.range j).filter (starB l)).length ∧ Gd l a p j
  | 0,_=>⟨1,Nat.zero_lt_one,Nat.le_refl _,fun i h=>absurd h (Nat.not_lt_zero _)⟩
  | j + 1, hj => by
    obtain ⟨p,h1,h2,h3⟩:=gd_ex hv hl j (by omega)
    rw [List.range_succ,List.filter_append]
    by_cases hs:starB l j=true
    · rw [List.filter_cons_of_pos hs, List.filter_nil, List.length_append, List.length_singleton, Nat.pow_succ]
      have hk:(l.getD j default).kind=6:=of_decide_eq_true hs
      by_cases hw:(∀ c,c ∈ (rx l j).s→c=a) ∧ ∃ w,w ≠ []∧(rx l (l.getD j default).a.toNat).L w
      · obtain ⟨hall,w,hne,hw⟩:=hw
        obtain ⟨v,k1,k2,k3⟩:=rx_short.2 w hw hne
        have hlt:(l.getD j default).a.toNat<j:=by
          have:=(hv j (by omega)).2.2.2.1 (by omega);omega
        have hva:v=List.replicate v.length a:=all_rep fun c hc=>by
          refine hall c ?_
          rw [rx_6 hv (by omega) hk]
          exact Rx.l_sub k1 c hc
        have hvl:v.length≤256:=by
          have:=rx_len hv (i:=(l.getD j default).a.toNat) (by omega)
          have h8:2 ^ (l.getD j default).a.toNat≤2 ^ 8:=Nat.pow_le_pow_right (by omega) (by omega)
          omega
        have hv0:0<v.length:=List.length_pos_iff.2 k2
        refine ⟨p * v.length,Nat.mul_pos h1 hv0,Nat.mul_le_mul h2 hvl,fun i hi hk2 ha2 hw2 => ?_⟩
        by_cases e:i=j
        · subst e;exact ⟨v.length,hv0,⟨p,Nat.mul_comm _ _⟩,by rw [← hva];exact k1⟩
        · obtain ⟨m,m1,m2,m3⟩:=h3 i (by omega) hk2 ha2 hw2
          exact ⟨m,m1,Nat.dvd_trans m2 ⟨v.length,rfl⟩,m3⟩
      · refine ⟨p,h1,Nat.le_trans h2 (Nat.le_mul_of_pos_right _ (by omega)),fun i hi hk2 ha2 hw2 => ?_⟩
        by_cases e:i=j
        · subst e;exact absurd ⟨ha2,hw2⟩ hw
        · exact h3 i (by omega) hk2 ha2 hw2
    · rw [List.filter_cons_of_neg hs,List.filter_nil,List.append_nil]
      refine ⟨p,h1,h2,fun i hi hk2 ha2 hw2 => ?_⟩
      by_cases e:i=j
      · subst e;exact absurd (decide_eq_true hk2) hs
      · exact h3 i (by omega) hk2 ha2 hw2
theorem star_rep {A:Lg} {m:Nat} (h:A (List.replicate m a)):∀ n,Star A (List.replicate (m * n) a)
  | 0=>.nil
  | n+1=>by
    rw [Nat.mul_succ,Nat.add_comm,← List.replicate_append_replicate]
    exact .app h (star_rep h n)
theorem rep_split {n:Nat} {u v:List Int} (h:List.replicate n a=u++v):u=List.replicate u.length a∧v=List.replicate v.length a∧n=u.length+v.length:=by
  have hl:=congrArg List.length h
  rw [List.length_replicate,List.length_append] at hl
  refine ⟨all_rep fun c hc => ?_,all_rep fun c hc => ?_,hl⟩
  · have:c ∈ List.replicate n a:=by rw [h];exact List.mem_append.2 (.inl hc)
    exact (List.mem_replicate.1 this).2
  · have:c ∈ List.replicate n a:=by rw [h];exact List.mem_append.2 (.inr hc)
    exact (List.mem_replicate.1 this).2
theorem rep_app {m n:Nat}:List.replicate m a++List.replicate n a=List.replicate (m+n) a:=List.replicate_append_replicate
theorem una_mon (hv : NodesOk k l) {p : Nat} (hG : Gd l a p l.length) : ∀ {i : Nat}, i < l.length → (∀ c, c ∈ (rx l i).s → c = a) →
    (∀ n,(rx l i).s.length<n→(rx l i).L (List.replicate n a)→(rx l i).L (List.replicate (n+p) a))∧∀ n q,(rx l i).s.length<n→(rx l i).R (List.replicate n a) q→(rx l i).R (List.replicate (n+p) a) q:=by
  intro i
  induction i using Nat.strongRecOn with
  | _ i ih =>
    intro h hall
    cases rxC hv h with
    | no e k=>rw [e];exact ⟨fun n _ h=>h.elim,fun n q _ h=>h.elim⟩
    | em e k =>
      rw [e]
      refine ⟨fun n hn h => ?_,fun n q _ h=>h.elim⟩
      have h:List.replicate n a=[]:=h
      have:=congrArg List.length h
      rw [List.length_replicate] at this
      rw [show n=0 from this] at hn;exact absurd hn (Nat.not_lt_zero _)
    | sy e k =>
      rw [e]
      have h1:∀ n,1<n→¬ List.replicate n a=[(l.getD i default).a]:=fun n hn h=>by
        have:=congrArg List.length h
        rw [List.length_replicate,List.length_singleton] at this;omega
      exact ⟨fun n hn h=>absurd h (h1 n hn),fun n q hn h=>absurd h.1 (h1 n hn)⟩
    | cat x y hx hy e ea eb k =>
      rw [e] at hall ⊢
      obtain ⟨l1,r1⟩:=ih x hx (by omega) fun c hc=>hall c (List.mem_append.2 (.inl hc))
      obtain ⟨l2,r2⟩:=ih y hy (by omega) fun c hc=>hall c (List.mem_append.2 (.inr hc))
      have el:(Rx.cat (rx l x) (rx l y)).s.length=(rx l x).s.length+(rx l y).s.length:=List.length_append
      rw [el]
      refine ⟨fun n hn ⟨u,v,h1,h2,h3⟩ => ?_,fun n q hn hq => ?_⟩
      · obtain ⟨eu,ev,en⟩:=rep_split h3
        rw [eu] at h1
        rw [ev] at h2
        by_cases hu:(rx l x).s.length<u.length
        · exact ⟨_,_,l1 _ hu h1,h2,by rw [rep_app];congr 1;omega⟩
        · exact ⟨_,_,h1,l2 _ (by omega) h2,by rw [rep_app];congr 1;omega⟩
      · rcases hq with hq|⟨u,v,q',h1,h2,h3,h4⟩
        · exact .inl (r1 n q (by omega) hq)
        · obtain ⟨eu,ev,en⟩:=rep_split h3
          rw [eu] at h1
          rw [ev] at h2
          by_cases hu:(rx l x).s.length<u.length
          · exact .inr ⟨_,_,q',l1 _ hu h1,h2,by rw [rep_app];congr 1;omega,h4⟩
          · exact .inr ⟨_,_,q',h1,r2 _ q' (by omega) h2,by rw [rep_app];congr 1;omega,h4⟩
    | or x y hx hy e ea eb k =>
      rw [e] at hall ⊢
      obtain ⟨l1,r1⟩:=ih x hx (by omega) fun c hc=>hall c (List.mem_append.2 (.inl hc))
      obtain ⟨l2,r2⟩:=ih y hy (by omega) fun c hc=>hall c (List.mem_append.2 (.inr hc))
      have el:(Rx.or (rx l x) (rx l y)).s.length=(rx l x).s.length+(rx l y).s.length:=List.length_append
      rw [el]
      refine ⟨fun n hn h => ?_,fun n q hn hq => ?_⟩
      · rcases h with h|h
        · exact .inl (l1 n (by omega) h)
        · exact .inr (l2 n (by omega) h)
      · rcases hq with hq|⟨q',h1,h2⟩
        · exact .inl (r1 n q (by omega) hq)
        · exact .inr ⟨q',r2 n q' (by omega) h1,h2⟩
    | star x hx e ea k =>
      rw [e] at hall ⊢
      obtain ⟨l1,r1⟩:=ih x hx (by omega) hall
      have ext:∀ n,0<n→Star (rx l x).L (List.replicate n a)→Star (rx l x).L (List.replicate (n+p) a):=by
        intro n hn hs
        obtain ⟨v,h1,h2⟩:=star_ne hs (fun e0=>by have:=congrArg List.length e0;rw [List.length_replicate] at this;simp at this;omega)
        obtain ⟨m,m1,⟨d,rfl⟩,m3⟩:=hG i h k (by rw [e];exact hall) (by rw [← ea];exact ⟨v,h1,h2⟩)
        rw [← ea] at m3
        rw [Nat.add_comm,← rep_app]
        exact star_app (star_rep m3 d) hs
      refine ⟨fun n hn hs=>ext n (by omega) hs,fun n q hn hq => ?_⟩
      obtain ⟨u,v,h1,h2,h3⟩:=hq
      obtain ⟨eu,ev,en⟩:=rep_split h3
      rw [eu] at h1
      rw [ev] at h2
      by_cases hu:0<u.length
      · exact ⟨_,_,ext _ hu h1,h2,by rw [rep_app];congr 1;omega⟩
      · exact ⟨_,_,h1,r1 _ q (by show (rx l x).s.length<v.length;have:(Rx.star (rx l x)).s.length=(rx l x).s.length:=rfl;omega) h2,by rw [rep_app];congr 1;omega⟩
end
end Go.Proofs.Ytpgomgjpliallaa

namespace Go.Proofs.Ytpgomgjpliallaa
open Go.Dm
def ct (l:List Dm.Node) (c:Int) (i:Nat):Nat:=(rx l i).s.count c
def kA (l:List Dm.Node) (i:Nat):Nat:=(l.getD i default).a.toNat
def kB (l:List Dm.Node) (i:Nat):Nat:=(l.getD i default).b.toNat
def bin (l:List Dm.Node) (i:Nat):Prop:=(l.getD i default).kind=4∨(l.getD i default).kind=5
instance {l:List Dm.Node} {i:Nat}:Decidable (bin l i):=by unfold bin;infer_instance
def twoB (l:List Dm.Node) (c:Int) (i:Nat):Bool:=decide (bin l i∧0<ct l c (kA l i)∧0<ct l c (kB l i))
def nt (l:List Dm.Node) (c:Int) (i:Nat):Nat:=((List.range i).filter (twoB l c)).length
section
variable {k:Int} {l:List Dm.Node} {a b c:Int} {i j:Nat}
theorem nt_succ:nt l c (i+1)=nt l c i+if twoB l c i=true then 1 else 0:=by
  unfold nt
  rw [List.range_succ,List.filter_append,List.length_append]
  by_cases h:twoB l c i=true
  · rw [List.filter_cons_of_pos h,if_pos h];rfl
  · rw [List.filter_cons_of_neg h,if_neg h];rfl
theorem nt_mono (h:i≤j):nt l c i≤nt l c j:=by
  induction j with
  | zero=>rw [show i=0 by omega];exact Nat.le_refl _
  | succ j ih =>
    by_cases e:i=j+1
    · rw [e];exact Nat.le_refl _
    · rw [nt_succ];have:=ih (by omega);omega
theorem bin_lt (hv:NodesOk k l) (h:i<l.length) (hb:bin l i):kA l i<i∧kB l i<i:=by
  obtain ⟨_,_,_,h4,h5⟩:=hv i h
  have h5:=h5 hb
  unfold bin at hb
  have h4:=h4 (by omega)
  unfold kA kB;omega
theorem bin_s (hv:NodesOk k l) (h:i<l.length) (hb:bin l i):(rx l i).s=(rx l (kA l i)).s++(rx l (kB l i)).s:=by
  rcases hb with hb|hb
  · rw [rx_4 hv h hb];rfl
  · rw [rx_5 hv h hb];rfl
theorem bin_ct (hv:NodesOk k l) (h:i<l.length) (hb:bin l i):ct l c i=ct l c (kA l i)+ct l c (kB l i):=by
  unfold ct;rw [bin_s hv h hb,List.count_append]
theorem ct_cases (hv:NodesOk k l) (h:i<l.length):(bin l i)∨((l.getD i default).kind=6∧kA l i<i∧rx l i=.star (rx l (kA l i)))∨((l.getD i default).kind=3∧(rx l i).s=[(l.getD i default).a])∨((l.getD i default).kind<3∧(rx l i).s=[]):=by
  cases rxC hv h with
  | no e k=>exact .inr (.inr (.inr ⟨by omega,by rw [e];rfl⟩))
  | em e k=>exact .inr (.inr (.inr ⟨by omega,by rw [e];rfl⟩))
  | sy e k=>exact .inr (.inr (.inl ⟨k,by rw [e];rfl⟩))
  | cat x y hx hy e ea eb k=>exact .inl (.inl k)
  | or x y hx hy e ea eb k=>exact .inl (.inr k)
  | star x hx e ea k=>exact .inr (.inl ⟨k,by unfold kA;rw [← ea];exact hx,by unfold kA;rw [← ea];exact e⟩)
theorem ct_le (hv : NodesOk k l) : ∀ {i : Nat}, i < l.length → ct l c i ≤ 2 ^ nt l c (i + 1) := by
  intro i
  induction i using Nat.strongRecOn with
  | _ i ih =>
    intro h
    have pos:0<2 ^ nt l c (i+1):=Nat.pow_pos (by omega)
    have up:∀ {j:Nat},j<i→ct l c j≤2 ^ nt l c i:=fun {j} hj=>Nat.le_trans (ih j hj (by omega)) (Nat.pow_le_pow_right (by omega) (nt_mono hj))
    have up2:2 ^ nt l c i≤2 ^ nt l c (i+1):=Nat.pow_le_pow_right (by omega) (nt_mono (Nat.le_succ _))
    rcases ct_cases hv h with hb|⟨_,h1,h2⟩|⟨_,h2⟩|⟨_,h2⟩
    · obtain ⟨h1,h2⟩:=bin_lt hv h hb
      have u1:=up h1
      have u2:=up h2
      rw [bin_ct hv h hb]
      by_cases ht:twoB l c i=true
      · rw [nt_succ,if_pos ht,Nat.pow_succ];omega
      · by_cases z1:ct l c (kA l i)=0
        · omega
        · by_cases z2:ct l c (kB l i)=0
          · omega
          · exact absurd (decide_eq_true ⟨hb,by omega,by omega⟩) ht
    · have:=up h1
      have e:ct l c i=ct l c (kA l i):=by unfold ct;rw [h2];rfl
      omega
    · unfold ct;rw [h2]
      have:=List.count_le_length (a:=c) (l:=[(l.getD i default).a])
      rw [List.length_singleton] at this;omega
    · unfold ct;rw [h2];exact Nat.zero_le _
theorem ct_leaf (hv : NodesOk k l) : ∀ {i : Nat}, i < l.length → c ∈ (rx l i).s → ∃ j, j ≤ i ∧ (l.getD j default).kind = 3 ∧ (l.getD j default).a = c := by
  intro i
  induction i using Nat.strongRecOn with
  | _ i ih =>
    intro h hc
    rcases ct_cases hv h with hb|⟨_,h1,h2⟩|⟨h1,h2⟩|⟨_,h2⟩
    · obtain ⟨h1,h2⟩:=bin_lt hv h hb
      rw [bin_s hv h hb] at hc
      rcases List.mem_append.1 hc with hc|hc
      · obtain ⟨j,k1,k2⟩:=ih _ h1 (by omega) hc
        exact ⟨j,by omega,k2⟩
      · obtain ⟨j,k1,k2⟩:=ih _ h2 (by omega) hc
        exact ⟨j,by omega,k2⟩
    · rw [h2] at hc
      obtain ⟨j,k1,k2⟩:=ih _ h1 (by omega) hc
      exact ⟨j,by omega,k2⟩
    · rw [h2] at hc
      exact ⟨i,Nat.le_refl _,h1,(List.mem_singleton.1 hc).symm⟩
    · rw [h2] at hc;cases hc
theorem ct_pos:0<ct l c i ↔ c ∈ (rx l i).s:=List.count_pos_iff
theorem oth {E:List Nat} (hn:E.Nodup) (hE:∀ e,e ∈ E→e<l.length∧twoB l c e=false):E.length+nt l c l.length≤l.length:=by
  have h1:(E++(List.range l.length).filter (twoB l c)).Nodup:=by
    rw [List.nodup_append]
    refine ⟨hn,List.Pairwise.filter _ List.nodup_range,fun x hx y hy e => ?_⟩
    subst e
    have:=(List.mem_filter.1 hy).2
    rw [(hE x hx).2] at this;cases this
  have h2:=List.Nodup.length_le_of_subset h1 (l₂:=List.range l.length) fun x hx=>by
    rcases List.mem_append.1 hx with hx|hx
    · exact List.mem_range.2 (hE x hx).1
    · exact (List.mem_filter.1 hx).1
  rw [List.length_append,List.length_range] at h2
  exact h2
theorem desc (hv : NodesOk k l) (hba : b ≠ a) : ∀ {i : Nat}, i < l.length → 0 < ct l a i → b ∈ (rx l i).s → ∃ y z, y ≤ i ∧ bin l y ∧ (z = kA l y ∨ z = kB l y) ∧ ct l a z = 0 ∧ b ∈ (rx l z).s ∧ 0 < ct l a y := by
  intro i
  induction i using Nat.strongRecOn with
  | _ i ih =>
    intro h hc hb
    rcases ct_cases hv h with hb2|⟨_,h1,h2⟩|⟨h1,h2⟩|⟨_,h2⟩
    · obtain ⟨h1,h2⟩:=bin_lt hv h hb2
      have hs:=bin_s hv h hb2
      rw [hs] at hb
      rcases List.mem_append.1 hb with hb|hb
      · by_cases z:ct l a (kA l i)=0
        · exact ⟨i,_,Nat.le_refl _,hb2,.inl rfl,z,hb,hc⟩
        · obtain ⟨y,z,k1,k2⟩:=ih _ h1 (by omega) (by omega) hb
          exact ⟨y,z,by omega,k2⟩
      · by_cases z:ct l a (kB l i)=0
        · exact ⟨i,_,Nat.le_refl _,hb2,.inr rfl,z,hb,hc⟩
        · obtain ⟨y,z,k1,k2⟩:=ih _ h2 (by omega) (by omega) hb
          exact ⟨y,z,by omega,k2⟩
    · have e:ct l a i=ct l a (kA l i):=by unfold ct;rw [h2];rfl
      rw [h2] at hb
      obtain ⟨y,z,k1,k2⟩:=ih _ h1 (by omega) (by omega) hb
      exact ⟨y,z,by omega,k2⟩
    · rw [ct_pos,h2,List.mem_singleton] at hc
      rw [h2,List.mem_singleton] at hb
      exact absurd (hb.trans hc.symm) hba
    · rw [h2] at hb;cases hb
theorem flat_len (hv : NodesOk k l) (hns : ∀ j, j < l.length → ¬ (l.getD j default).kind = 6) : ∀ {i : Nat}, i < l.length → (∀ w, (rx l i).L w → w.length ≤ (rx l i).s.length) ∧ ∀ w q, (rx l i).R w q → w.length ≤ (rx l i).s.length := by
  intro i
  induction i using Nat.strongRecOn with
  | _ i ih =>
    intro h
    cases rxC hv h with
    | no e k=>rw [e];exact ⟨fun w h=>h.elim,fun w q h=>h.elim⟩
    | em e k=>rw [e];exact ⟨fun w h=>by rw [show w=[] from h];exact Nat.zero_le _,fun w q h=>h.elim⟩
    | sy e k=>rw [e];exact ⟨fun w h=>by rw [show w=[_] from h];exact Nat.le_refl _,fun w q h=>by rw [h.1];exact Nat.le_refl _⟩
    | cat x y hx hy e ea eb k =>
      rw [e]
      have i1:=ih x hx (by omega)
      have i2:=ih y hy (by omega)
      have el:(Rx.cat (rx l x) (rx l y)).s.length=(rx l x).s.length+(rx l y).s.length:=List.length_append
      rw [el]
      refine ⟨fun w ⟨u,v,h1,h2,h3⟩ => ?_,fun w q hq => ?_⟩
      · rw [h3,List.length_append]
        have:=i1.1 u h1;have:=i2.1 v h2;omega
      · rcases hq with hq|⟨u,v,q',h1,h2,h3,h4⟩
        · have:=i1.2 w q hq;omega
        · rw [h3,List.length_append]
          have:=i1.1 u h1;have:=i2.2 v q' h2;omega
    | or x y hx hy e ea eb k =>
      rw [e]
      have i1:=ih x hx (by omega)
      have i2:=ih y hy (by omega)
      have el:(Rx.or (rx l x) (rx l y)).s.length=(rx l x).s.length+(rx l y).s.length:=List.length_append
      rw [el]
      refine ⟨fun w h => ?_,fun w q hq => ?_⟩
      · rcases h with h|h
        · have:=i1.1 w h;omega
        · have:=i2.1 w h;omega
      · rcases hq with hq|⟨q',h1,h2⟩
        · have:=i1.2 w q hq;omega
        · have:=i2.2 w q' h1;omega
    | star x hx e ea k=>exact absurd k (hns i h)
inductive Pu (l:List Dm.Node) (y:Nat):Nat→Prop
  | base:Pu l y y
  | two {i:Nat} (hb:bin l i) (h1:Pu l y (kA l i)) (h2:Pu l y (kB l i)):Pu l y i
theorem pu_or (hv : NodesOk k l) {y : Nat} (hy : y < l.length) {c1 c2 : Int} (hR : rx l y = .or (.sy c1) (.sy c2)) : ∀ {i : Nat}, Pu l y i → i < l.length →
    (∀ w w',w.length=w'.length→(∀ c,c ∈ w'→c=c1∨c=c2)→(rx l i).L w→(rx l i).L w') ∧
    ∀ w w' q,w.length=w'.length→(∀ c,c ∈ w'→c=c1∨c=c2)→w.getLastD 0=w'.getLastD 0→(rx l i).R w q→(rx l i).R w' q:=by
  intro i hp
  induction hp with
  | base =>
    intro _
    rw [hR]
    have one:∀ {w':List Int},w'.length=1→(∀ c,c ∈ w'→c=c1∨c=c2)→w'=[c1]∨w'=[c2]:=by
      intro w' h1 h2
      match w',h1,h2 with
      | [c],_,h2=>rcases h2 c (by simp) with e|e<;>simp [e]
    refine ⟨fun w w' hl hw h => ?_,fun w w' q hl hw he h => ?_⟩
    · have h1:w'.length=1:=by
        rcases h with h|h
        · have h:w=[c1]:=h;rw [← hl,h];rfl
        · have h:w=[c2]:=h;rw [← hl,h];rfl
      rcases one h1 hw with e|e
      · exact .inl e
      · exact .inr e
    · have hww:∀ {c:Int},w=[c]→w'=[c]:=by
        intro c e
        subst e
        match w',hl,he with
        | [d],_,he=>simp at he;rw [he]
      rcases h with ⟨h1,h2⟩|⟨p,⟨h1,h2⟩,h3⟩
      · exact .inl ⟨hww h1,h2⟩
      · exact .inr ⟨p,⟨hww h1,h2⟩,h3⟩
  | @two i hb h1 h2 ih1 ih2 =>
    intro h
    obtain ⟨k1,k2⟩:=bin_lt hv h hb
    have ih1:=ih1 (by omega)
    have ih2:=ih2 (by omega)
    have spl:∀ {w u v w':List Int},w.length=w'.length→w=u++v→u.length=(w'.take u.length).length∧v.length=(w'.drop u.length).length:=by
      intro w u v w' hl e
      subst e
      rw [List.length_append] at hl
      rw [List.length_take,List.length_drop];omega
    have lst:∀ {w u v w':List Int},w.length=w'.length→w=u++v→v ≠ []→w.getLastD 0=w'.getLastD 0→v.getLastD 0=(w'.drop u.length).getLastD 0:=by
      intro w u v w' hl e hne he
      subst e
      have h1:v=v.dropLast++[v.getLast hne]:=(List.dropLast_concat_getLast hne).symm
      have hd:w'.drop u.length ≠ []:=fun e0=>by
        have:=congrArg List.length e0
        rw [List.length_drop,← hl,List.length_append] at this
        have:=List.length_pos_iff.2 hne
        simp at *;omega
      have h2:w'=w'.take u.length++((w'.drop u.length).dropLast++[(w'.drop u.length).getLast hd]):=by
        rw [List.dropLast_concat_getLast,List.take_append_drop]
      have h3:(u++v).getLastD 0=v.getLastD 0:=by
        rw [h1,← List.append_assoc,List.getLastD_concat,List.getLastD_concat]
      have h4:w'.getLastD 0=(w'.drop u.length).getLastD 0:=by
        conv=>lhs;rw [h2]
        conv=>rhs;rw [← List.dropLast_concat_getLast hd]
        rw [← List.append_assoc,List.getLastD_concat,List.getLastD_concat]
      rw [← h3,he,h4]
    have mt:∀ {w':List Int} {n:Nat},(∀ c,c ∈ w'→c=c1∨c=c2)→(∀ c,c ∈ w'.take n→c=c1∨c=c2)∧∀ c,c ∈ w'.drop n→c=c1∨c=c2:=fun hw=>⟨fun c hc=>hw c (List.mem_of_mem_take hc),fun c hc=>hw c (List.mem_of_mem_drop hc)⟩
    rcases hb with hb|hb
    · rw [rx_4 hv h hb]
      refine ⟨fun w w' hl hw ⟨u,v,m1,m2,e⟩ => ?_,fun w w' q hl hw he hq => ?_⟩
      · obtain ⟨s1,s2⟩:=spl hl e
        exact ⟨_,_,ih1.1 u _ s1 (mt hw).1 m1,ih2.1 v _ s2 (mt hw).2 m2,(List.take_append_drop _ _).symm⟩
      · rcases hq with hq|⟨u,v,p,m1,m2,e,m3⟩
        · exact .inl (ih1.2 w w' q hl hw he hq)
        · obtain ⟨s1,s2⟩:=spl hl e
          have hne:v ≠ []:=fun e0=>by
            obtain ⟨_,x,hx⟩:=Rx.r_last m2
            rw [e0] at hx
            cases x<;>cases hx
          exact .inr ⟨_,_,p,ih1.1 u _ s1 (mt hw).1 m1,ih2.2 v _ p s2 (mt hw).2 (lst hl e hne he) m2,(List.take_append_drop _ _).symm,m3⟩
    · rw [rx_5 hv h hb]
      refine ⟨fun w w' hl hw hh=>hh.imp (ih1.1 w w' hl hw) (ih2.1 w w' hl hw),fun w w' q hl hw he hq => ?_⟩
      rcases hq with hq|⟨p,m2,m3⟩
      · exact .inl (ih1.2 w w' q hl hw he hq)
      · exact .inr ⟨p,ih2.2 w w' p hl hw he m2,m3⟩
def altW (c1 c2:Int) (n:Nat):List Int:=(List.range n).map fun i=>if i % 2=0 then c1 else c2
theorem altW_add {c1 c2:Int} {m n:Nat} (h:m % 2=0):altW c1 c2 (m+n)=altW c1 c2 m++altW c1 c2 n:=by
  unfold altW
  rw [List.range_add,List.map_append,List.map_map]
  congr 1
  refine List.map_congr_left fun i _ => ?_
  simp only [Function.comp]
  rw [show (m+i) % 2=i % 2 by omega]
theorem pu_cat (hv : NodesOk k l) {y : Nat} (hy : y < l.length) {c1 c2 : Int} (hR : rx l y = .cat (.sy c1) (.sy c2)) : ∀ {i : Nat}, Pu l y i → i < l.length →
    (∀ w,(rx l i).L w→w=altW c1 c2 w.length∧w.length % 2=0)∧∀ w q,(rx l i).R w q→w=altW c1 c2 w.length:=by
  intro i hp
  induction hp with
  | base =>
    intro _
    rw [hR]
    refine ⟨fun w ⟨u,v,h1,h2,e⟩ => ?_,fun w q h => ?_⟩
    · have h1:u=[c1]:=h1
      have h2:v=[c2]:=h2
      rw [e,h1,h2];exact ⟨rfl,by simp⟩
    · rcases h with ⟨h1,_⟩|⟨u,v,p,h1,⟨h2,_⟩,e,_⟩
      · rw [h1];rfl
      · have h1:u=[c1]:=h1
        rw [e,h1,h2];rfl
  | @two i hb h1 h2 ih1 ih2 =>
    intro h
    obtain ⟨k1,k2⟩:=bin_lt hv h hb
    have ih1:=ih1 (by omega)
    have ih2:=ih2 (by omega)
    rcases hb with hb|hb
    · rw [rx_4 hv h hb]
      refine ⟨fun w ⟨u,v,m1,m2,e⟩ => ?_,fun w q hq => ?_⟩
      · obtain ⟨a1,a2⟩:=ih1.1 u m1
        obtain ⟨a3,a4⟩:=ih2.1 v m2
        rw [e,List.length_append,altW_add a2,← a1,← a3]
        exact ⟨rfl,by omega⟩
      · rcases hq with hq|⟨u,v,p,m1,m2,e,m3⟩
        · exact ih1.2 w q hq
        · obtain ⟨a1,a2⟩:=ih1.1 u m1
          have a3:=ih2.2 v p m2
          rw [e,List.length_append,altW_add a2,← a1,← a3]
    · rw [rx_5 hv h hb]
      refine ⟨fun w hh=>hh.elim (ih1.1 w) (ih2.1 w),fun w q hq => ?_⟩
      rcases hq with hq|⟨p,m2,m3⟩
      · exact ih1.2 w q hq
      · exact ih2.2 w p m2
end
end Go.Proofs.Ytpgomgjpliallaa

namespace Go.Proofs.Ytpgomgjpliallaa
open Go.Dm
open Classical in
theorem few_or {x : Rx} {c1 c2 : Int} {n : Nat} (hs : ∀ c, c ∈ x.s → c = c1 ∨ c = c2) (hlen : ∀ w q, x.R w q → w.length ≤ n)
    (hp:∀ w w' q,w.length=w'.length→(∀ c,c ∈ w'→c=c1∨c=c2)→w.getLastD 0=w'.getLastD 0→x.R w q→x.R w' q):Few x (1+(n+1) * 2):=by
  have hl:∀ {w:List Int},(∃ q,x.R w q)→w.length<n+1∧(∀ c,c ∈ w→c=c1∨c=c2)∧(w.getLastD 0=c1∨w.getLastD 0=c2):=fun {w} ⟨q,hq⟩=>by
    obtain ⟨h1,v,h2⟩:=Rx.r_last hq
    refine ⟨by have:=hlen w q hq;omega,fun c hc=>hs c (Rx.r_sub hq c hc),?_⟩
    rw [h2,List.getLastD_concat]
    exact hs (x.s.getD q 0) (getD_mem' (l:=x.s) (i:=q) h1)
  refine ⟨fun w=>if ∃ q,x.R w q then 1+(w.length+(n+1) * if w.getLastD 0=c1 then 0 else 1) else 0,fun w => ?_,fun w w' hw => ?_⟩
  · dsimp only
    by_cases hq : ∃ q,x.R w q
    · rw [if_pos hq]
      have:=(hl hq).1
      split<;>omega
    · rw [if_neg hq];omega
  · have key:∀ {w w':List Int},(∃ q,x.R w q)→(∃ q,x.R w' q)→(1+(w.length+(n+1) * if w.getLastD 0=c1 then 0 else 1))=(1+(w'.length+(n+1) * if w'.getLastD 0=c1 then 0 else 1))→∀ q,x.R w q→x.R w' q:=by
      intro w w' h1 h2 he q hq
      obtain ⟨e1,e2⟩:=div_eq2 (hl h1).1 (hl h2).1 (Nat.add_left_cancel he)
      refine hp w w' q e1 (hl h2).2.1 ?_ hq
      have l1:=(hl h1).2.2
      have l2:=(hl h2).2.2
      by_cases z1:w.getLastD 0=c1
      · by_cases z2:w'.getLastD 0=c1
        · rw [z1,z2]
        · rw [if_pos z1,if_neg z2] at e2;omega
      · by_cases z2:w'.getLastD 0=c1
        · rw [if_neg z1,if_pos z2] at e2;omega
        · rcases l1 with l1|l1
          · exact absurd l1 z1
          · rcases l2 with l2|l2
            · exact absurd l2 z2
            · rw [l1,l2]
    dsimp only at hw
    by_cases h1 : ∃ q,x.R w q
    · by_cases h2 : ∃ q,x.R w' q
      · rw [if_pos h1,if_pos h2] at hw
        exact fun q=>⟨key h1 h2 hw q,key h2 h1 hw.symm q⟩
      · rw [if_pos h1,if_neg h2] at hw;omega
    · by_cases h2 : ∃ q,x.R w' q
      · rw [if_neg h1,if_pos h2] at hw;omega
      · exact fun q=>⟨fun h=>absurd ⟨q,h⟩ h1,fun h=>absurd ⟨q,h⟩ h2⟩
open Classical in
theorem few_cat {x : Rx} {c1 c2 : Int} {n : Nat} (hlen : ∀ w q, x.R w q → w.length ≤ n) (hp : ∀ w q, x.R w q → w = altW c1 c2 w.length) : Few x (2 + n) := by
  refine ⟨fun w=>if ∃ q,x.R w q then 1+w.length else 0,fun w => ?_,fun w w' hw => ?_⟩
  · dsimp only
    split
    · next h=>obtain ⟨q,hq⟩:=h;have:=hlen w q hq;omega
    · omega
  · dsimp only at hw
    by_cases h1 : ∃ q,x.R w q
    · by_cases h2 : ∃ q,x.R w' q
      · rw [if_pos h1,if_pos h2] at hw
        obtain ⟨q1,h1⟩:=h1
        obtain ⟨q2,h2⟩:=h2
        have:w=w':=by rw [hp w q1 h1,hp w' q2 h2,Nat.add_left_cancel hw]
        intro q;rw [this]
      · rw [if_pos h1,if_neg h2] at hw;omega
    · by_cases h2 : ∃ q,x.R w' q
      · rw [if_neg h1,if_pos h2] at hw;omega
      · exact fun q=>⟨fun h=>absurd ⟨q,h⟩ h1,fun h=>absurd ⟨q,h⟩ h2⟩
theorem two_syms {a b:Int} (hab:b ≠ a):∀ {s:List Int},(∀ c,c ∈ s→c=a∨c=b)→s.length=s.count a+s.count b
  | [],_=>rfl
  | c::s,h=>by
    have ih:=two_syms hab (s:=s) fun c hc=>h c (List.mem_cons_of_mem _ hc)
    rw [List.length_cons,List.count_cons,List.count_cons,ih]
    rcases h c (by simp) with rfl|rfl
    · rw [if_pos (by simp),if_neg (by simpa using fun e=>hab e.symm)];omega
    · rw [if_neg (by simpa using hab),if_pos (by simp)];omega
theorem rx_few {k : Int} {l : List Dm.Node} (hv : NodesOk k l) (hk : k ≤ 3) (hl : 0 < l.length ∧ l.length ≤ 9)
    (hdet:∀ w w' v,w ≠ []→w' ≠ []→(∀ q,(rx l (l.length - 1)).R w q ↔ (rx l (l.length - 1)).R w' q)→∀ q,(rx l (l.length - 1)).R (w++v) q→(rx l (l.length - 1)).R (w'++v) q):Few (rx l (l.length - 1)) (1+3 * 2 ^ 40):=by
  have hr:l.length - 1<l.length:=by omega
  have e40:(2:Nat) ^ 40=1099511627776:=by decide
  have hn:(rx l (l.length - 1)).s.length≤256:=by
    have h1:=rx_len hv hr
    have h2:2 ^ (l.length - 1)≤2 ^ 8:=Nat.pow_le_pow_right (by omega) (by omega)
    omega
  by_cases hA:∀ a,(rx l (l.length - 1)).s.count a≤40
  · exact few_mask (fun c hc=>by have:=rx_sym hv hr c hc;omega) hA
  simp only [Classical.not_forall] at hA
  obtain ⟨a,ha⟩:=hA
  have ha:41≤ct l a (l.length - 1):=by unfold ct;omega
  have nt6:6≤nt l a l.length:=by
    apply Classical.byContradiction
    intro h
    have h1:=ct_le (c:=a) hv hr
    rw [show l.length - 1+1=l.length by omega] at h1
    have h2:2 ^ nt l a l.length≤2 ^ 5:=Nat.pow_le_pow_right (by omega) (by omega)
    omega
  obtain ⟨ja,ja1,ja2,ja3⟩:=ct_leaf hv hr (ct_pos.1 (show 0<ct l a (l.length - 1) by omega))
  have nb3:∀ {i:Nat} {c:Int},(l.getD i default).kind=3→twoB l c i=false:=fun {i c} h=>decide_eq_false fun hb=>by
    have:=hb.1;unfold bin at this;omega
  by_cases hU:∀ c,c ∈ (rx l (l.length - 1)).s→c=a
  · -- one symbol
    have hS:((List.range l.length).filter (starB l)).length≤2:=by
      have h:=oth (l:=l) (c:=a) (E:=ja::(List.range l.length).filter (starB l)) (by
        rw [List.nodup_cons]
        refine ⟨fun hm => ?_,List.Pairwise.filter _ List.nodup_range⟩
        have:=of_decide_eq_true (List.mem_filter.1 hm).2
        omega) (fun e he=>by
        rcases List.mem_cons.1 he with rfl|he
        · exact ⟨by omega,nb3 ja2⟩
        · obtain ⟨h1,h2⟩:=List.mem_filter.1 he
          refine ⟨List.mem_range.1 h1,decide_eq_false fun hb => ?_⟩
          have:=of_decide_eq_true h2
          have:=hb.1;unfold bin at this;omega)
      rw [List.length_cons] at h
      omega
    obtain ⟨p,p1,p2,p3⟩:=gd_ex (a:=a) hv hl.2 l.length (Nat.le_refl _)
    refine (few_una a p p1 hU (una_mon hv p3 hr hU).2).mono ?_
    have h2:256 ^ ((List.range l.length).filter (starB l)).length≤256 ^ 2:=Nat.pow_le_pow_right (by omega) hS
    have h3:p * ((rx l (l.length - 1)).s.length+1)≤65536 * 257:=Nat.mul_le_mul (by omega) (by omega)
    rw [e40];omega
  · simp only [Classical.not_forall] at hU
    obtain ⟨b,hb,hba⟩:=hU
    obtain ⟨y,z,y1,y2,y3,y4,y5,y6⟩:=desc hv hba hr (by omega) hb
    have hyl:y<l.length:=by omega
    have hyc:=bin_lt hv hyl y2
    have hzy:z<y:=by rcases y3 with e|e<;>omega
    obtain ⟨jb,jb1,jb2,jb3⟩:=ct_leaf hv (show z<l.length by omega) y5
    have hys:(rx l y).s=(rx l (kA l y)).s++(rx l (kB l y)).s:=bin_s hv hyl y2
    have hyt:twoB l a y=false:=decide_eq_false fun hh=>by rcases y3 with e|e<;>rw [e] at y4<;>omega
    have hnb:∀ {i:Nat},(l.getD i default).kind=3→¬ bin l i:=fun h hb=>by unfold bin at hb;omega
    have hd1:ja ≠ jb:=fun e=>by rw [e] at ja3;exact hba (jb3.symm.trans ja3)
    have hd2:ja ≠ y:=fun e=>hnb ja2 (e ▸ y2)
    have hd3:jb ≠ y:=fun e=>hnb jb2 (e ▸ y2)
    have hE:([ja,jb,y]:List Nat).Nodup:=by simp [hd1,hd2,hd3]
    have hE2:∀ e,e ∈ [ja,jb,y]→e<l.length∧twoB l a e=false:=fun e he=>by
      simp only [List.mem_cons,List.not_mem_nil,or_false] at he
      rcases he with rfl|rfl|rfl
      · exact ⟨by omega,nb3 ja2⟩
      · exact ⟨by omega,nb3 jb2⟩
      · exact ⟨hyl,hyt⟩
    have h3:=oth (c:=a) hE hE2
    rw [show ([ja,jb,y]:List Nat).length=3 from rfl] at h3
    have hall:∀ i,i<l.length→i=ja∨i=jb∨i=y∨twoB l a i=true:=by
      intro i hi
      apply Classical.byContradiction
      intro hno
      simp only [not_or,Bool.not_eq_true] at hno
      obtain ⟨n1,n2,n3,n4⟩:=hno
      have:=oth (c:=a) (E:=[i,ja,jb,y]) (by simp [hd1,hd2,hd3,n1,n2,n3]) (fun e he=>by
        rcases List.mem_cons.1 he with rfl|he
        · exact ⟨hi,n4⟩
        · exact hE2 e he)
      rw [show ([i,ja,jb,y]:List Nat).length=4 from rfl] at this
      omega
    have two_bin:∀ {i:Nat} {c:Int},twoB l c i=true→bin l i∧0<ct l c (kA l i)∧0<ct l c (kB l i):=fun h=>of_decide_eq_true h
    have hzb:z=jb:=by
      rcases hall z (by omega) with e|e|e|e
      · exfalso
        have:ct l a ja=1:=by unfold ct;rw [rx_3 (by omega) ja2,ja3];simp [Rx.s]
        rw [e] at y4;omega
      · exact e
      · omega
      · have h1:=two_bin e
        rw [bin_ct hv (by omega) h1.1] at y4;omega
    have ctja:∀ {c:Int},c ≠ a→ct l c ja=0:=fun {c} hc=>by
      unfold ct;rw [rx_3 (by omega) ja2,ja3]
      simp [Rx.s,List.count_cons];exact fun e=>hc e.symm
    have ctjb:ct l a jb=0:=hzb ▸ y4
    -- below y only a's, but for jb
    have below:∀ {i:Nat},i<y→i ≠ jb→ct l b i=0:=by
      intro i
      induction i using Nat.strongRecOn with
      | _ i ih =>
        intro hi hne
        rcases hall i (by omega) with e|e|e|e
        · rw [e];exact ctja hba
        · exact absurd e hne
        · omega
        · obtain ⟨h1,h2,h4⟩:=two_bin e
          obtain ⟨k1,k2⟩:=bin_lt hv (by omega) h1
          rw [bin_ct hv (by omega) h1,ih _ k1 (by omega) (fun e=>by rw [e] at h2;omega),ih _ k2 (by omega) (fun e=>by rw [e] at h4;omega)]
    -- the other part of y
    obtain ⟨x,hx,hxa,hxy⟩ : ∃ x,x<y∧0<ct l a x∧((x=kA l y∧jb=kB l y)∨(x=kB l y∧jb=kA l y)):=by
      rw [bin_ct hv hyl y2] at y6
      rcases y3 with e|e
      · exact ⟨kB l y,by omega,by rw [← e] at y6;omega,.inr ⟨rfl,by rw [← hzb];exact e⟩⟩
      · exact ⟨kA l y,by omega,by rw [← e] at y6;omega,.inl ⟨rfl,by rw [← hzb];exact e⟩⟩
    have hxb:ct l b x=0:=below hx fun e=>by rw [e] at hxa;omega
    have hyb:twoB l b y=false:=decide_eq_false fun hh=>by
      rcases hxy with ⟨e,_⟩|⟨e,_⟩<;>rw [e] at hxb<;>omega
    have hba2:∀ i,i<l.length→twoB l b i=true→twoB l a i=true:=by
      intro i hi h
      rcases hall i hi with e|e|e|e
      · rw [e,nb3 ja2] at h;cases h
      · rw [e,nb3 jb2] at h;cases h
      · rw [e,hyb] at h;cases h
      · exact e
    have hns:∀ j,j<l.length→¬ (l.getD j default).kind=6:=by
      intro i hi h6
      rcases hall i hi with e|e|e|e
      · rw [e] at h6;omega
      · rw [e] at h6;omega
      · rw [e] at h6;unfold bin at y2;omega
      · have:=(two_bin e).1;unfold bin at this;omega
    have hsab:∀ {i:Nat},i<l.length→∀ c,c ∈ (rx l i).s→c=a∨c=b:=by
      intro i hi c hc
      obtain ⟨j,j1,j2,j3⟩:=ct_leaf hv hi hc
      rcases hall j (by omega) with e|e|e|e
      · rw [e] at j3;exact .inl (j3.symm.trans ja3)
      · rw [e] at j3;exact .inr (j3.symm.trans jb3)
      · rw [e] at j2;exact absurd y2 (hnb j2)
      · exact absurd (two_bin e).1 (hnb j2)
    have hlen:∀ w q,(rx l (l.length - 1)).R w q→w.length≤256:=fun w q hq=>Nat.le_trans ((flat_len hv hns hr).2 w q hq) hn
    by_cases hB:ct l b (l.length - 1)≤32
    · refine (few_run a 256 hdet hlen ?_).mono (by rw [e40];decide)
      have h1:=@ixN_len (rx l (l.length - 1)).s a
      have h2:=two_syms hba (hsab hr)
      unfold ct at hB;omega
    · have nb6:6≤nt l b l.length:=by
        apply Classical.byContradiction
        intro h
        have h1:=ct_le (c:=b) hv hr
        rw [show l.length - 1+1=l.length by omega] at h1
        have h2:2 ^ nt l b l.length≤2 ^ 5:=Nat.pow_le_pow_right (by omega) (by omega)
        omega
      have hab2:∀ i,i<l.length→twoB l a i=true→twoB l b i=true:=by
        intro i hi h
        cases hh:twoB l b i with
        | true=>rfl
        | false =>
          have:=Go.Dm.filter_lt (l:=List.range l.length) (p:=fun j=>twoB l b j && decide (j<l.length)) (q:=fun j=>twoB l a j && decide (j<l.length)) (fun y hy=>by
            rw [Bool.and_eq_true] at hy ⊢
            exact ⟨hba2 y (of_decide_eq_true hy.2) hy.1,hy.2⟩) (List.mem_range.2 hi) (by rw [h,decide_eq_true hi];rfl) (by rw [hh];rfl)
          have c1:((List.range l.length).filter fun j=>twoB l b j && decide (j<l.length))=(List.range l.length).filter (twoB l b):=List.filter_congr fun j hj=>by rw [decide_eq_true (List.mem_range.1 hj),Bool.and_true]
          have c2:((List.range l.length).filter fun j=>twoB l a j && decide (j<l.length))=(List.range l.length).filter (twoB l a):=List.filter_congr fun j hj=>by rw [decide_eq_true (List.mem_range.1 hj),Bool.and_true]
          rw [c1,c2] at this
          unfold nt at nb6 h3;omega
      have hxja:x=ja:=by
        rcases hall x (by omega) with e|e|e|e
        · exact e
        · rw [e] at hxa;omega
        · omega
        · have h1:=two_bin (hab2 x (by omega) e)
          rw [bin_ct hv (by omega) h1.1] at hxb;omega
      have pure:∀ {i:Nat},i<l.length→0<ct l b i→0<ct l a i→Pu l y i:=by
        intro i
        induction i using Nat.strongRecOn with
        | _ i ih =>
          intro hi h1 h2
          rcases hall i hi with e|e|e|e
          · rw [e,ctja hba] at h1;omega
          · rw [e] at h2;omega
          · rw [e];exact .base
          · obtain ⟨k1,k2,k4⟩:=two_bin e
            obtain ⟨_,k5,k6⟩:=two_bin (hab2 i hi e)
            obtain ⟨k7,k8⟩:=bin_lt hv hi k1
            exact .two k1 (ih _ k7 (by omega) k5 k2) (ih _ k8 (by omega) k6 k4)
      have hP:=pure hr (by omega) (by omega)
      have rja:rx l ja=.sy a:=by rw [rx_3 (by omega) ja2,ja3]
      have rjb:rx l jb=.sy b:=by rw [rx_3 (by omega) jb2,jb3]
      have hy4:∀ h:(l.getD y default).kind=4,rx l y=.cat (rx l (kA l y)) (rx l (kB l y)):=fun h=>rx_4 hv hyl h
      have hy5:∀ h:(l.getD y default).kind=5,rx l y=.or (rx l (kA l y)) (rx l (kB l y)):=fun h=>rx_5 hv hyl h
      rcases hxy with ⟨e1,e2⟩|⟨e1,e2⟩
      · rw [← e1,← e2,hxja,rja,rjb] at hy4 hy5
        rcases y2 with h|h
        · exact (few_cat hlen (pu_cat hv hyl (hy4 h) hP hr).2).mono (by rw [e40];decide)
        · exact (few_or (fun c hc=>hsab hr c hc) hlen (pu_or hv hyl (hy5 h) hP hr).2).mono (by rw [e40];decide)
      · rw [← e1,← e2,hxja,rja,rjb] at hy4 hy5
        rcases y2 with h|h
        · exact (few_cat hlen (pu_cat hv hyl (hy4 h) hP hr).2).mono (by rw [e40];decide)
        · exact (few_or (fun c hc=>(hsab hr c hc).symm) hlen (pu_or hv hyl (hy5 h) hP hr).2).mono (by rw [e40];decide)
end Go.Proofs.Ytpgomgjpliallaa

namespace Go.Proofs.Ytpgomgjpliallaa
open Go.Dm
theorem ofInt64 {a:Int} (ha:0≤a∧a≤18446744073709551615):(BitVec.ofInt IntKind.u64.bits a).toNat=a.toNat:=by
  rw [BitVec.toNat_ofInt]
  have e:((2:Nat) ^ IntKind.u64.bits:Nat)=18446744073709551616:=by decide
  rw [show ((2 ^ IntKind.u64.bits:Nat):Int)=18446744073709551616 by rw [e];rfl,Int.emod_eq_of_lt ha.1 (by omega)]
theorem or64 {S T:Nat} (ha:S<2 ^ 64) (hb:T<2 ^ 64):IntKind.u64.wrap ((BitVec.ofInt IntKind.u64.bits (S:Int) ||| BitVec.ofInt IntKind.u64.bits (T:Int)).toNat:Int)=((S ||| T:Nat):Int):=by
  rw [BitVec.toNat_or,ofInt64 (by omega),ofInt64 (by omega),Int.toNat_natCast,Int.toNat_natCast]
  have:S ||| T<2 ^ 64:=Nat.or_lt_two_pow ha hb
  exact wrapu64_id (by omega)
theorem and64 {S T:Nat} (ha:S<2 ^ 64) (hb:T<2 ^ 64):IntKind.u64.wrap ((BitVec.ofInt IntKind.u64.bits (S:Int) &&& BitVec.ofInt IntKind.u64.bits (T:Int)).toNat:Int)=((S &&& T:Nat):Int):=by
  rw [BitVec.toNat_and,ofInt64 (by omega),ofInt64 (by omega),Int.toNat_natCast,Int.toNat_natCast]
  have:S &&& T<2 ^ 64:=Nat.and_lt_two_pow _ hb
  exact wrapu64_id (by omega)
theorem shr64 {S n:Nat} (hn:n≤64):((S:Nat):Int).fdiv (2 ^ (min n IntKind.u64.bits))=((S >>> n:Nat):Int):=by
  have e:min n IntKind.u64.bits=n:=Nat.min_eq_left (by show n≤64;omega)
  rw [e,Int.fdiv_eq_ediv_of_nonneg _ (Int.le_of_lt (Int.pow_pos (by omega))),Nat.shiftRight_eq_div_pow,Int.natCast_ediv]
  congr 1
theorem shl64 {n:Nat} (hn:n≤63):IntKind.u64.wrap (1 * 2 ^ (min n IntKind.u64.bits))=((2 ^ n:Nat):Int):=by
  have e:min n IntKind.u64.bits=n:=Nat.min_eq_left (by show n≤64;omega)
  have h:2 ^ n≤2 ^ 63:=Nat.pow_le_pow_right (by omega) (by omega)
  rw [e,Int.one_mul]
  have e2:(2:Int) ^ n=((2 ^ n:Nat):Int):=by simp
  rw [e2]
  generalize 2 ^ n=q at *
  exact wrapu64_id (by omega)
def gwN (f:Nat→Bool) (i:Nat):Nat:=setOf (fun j=>f (64 * i+j)) 64
theorem gwN_lt {f:Nat→Bool} {i:Nat}:gwN f i<2 ^ 64:=setOf_lt
theorem gwN_int {f:Nat→Bool} {i:Nat}:(0:Int)≤(gwN f i:Int)∧(gwN f i:Int)≤18446744073709551615:=by
  have:=@gwN_lt f i
  omega
def gw (f:Nat→Bool) (i:Nat):D:=.v (.int .u64 (gwN f i))
def gsD (f:Nat→Bool):List D:=[gw f 0,gw f 1,gw f 2,gw f 3,gw f 4]
theorem gsD_eq {f:Nat→Bool}:gsD f=[.v (.int .u64 (gwN f 0)),.v (.int .u64 (gwN f 1)),.v (.int .u64 (gwN f 2)),.v (.int .u64 (gwN f 3)),.v (.int .u64 (gwN f 4))]:=(rfl)
theorem gs_get {f:Nat→Bool} {i:Nat} (h:i<5):[D.v (.int .u64 (gwN f 0)),.v (.int .u64 (gwN f 1)),.v (.int .u64 (gwN f 2)),.v (.int .u64 (gwN f 3)),.v (.int .u64 (gwN f 4))].getD i .junk=.v (.int .u64 (gwN f i)):=by
  have h5:i=0∨i=1∨i=2∨i=3∨i=4:=by omega
  rcases h5 with rfl|rfl|rfl|rfl|rfl<;>rfl
theorem gw_bit {f:Nat→Bool} {i j:Nat} (h:j<64):(gwN f i).testBit j=f (64 * i+j):=by
  unfold gwN;rw [setOf_bit,decide_eq_true h,Bool.true_and]
theorem gw_ext {f g:Nat→Bool} {i:Nat} (h:∀ j,j<64→f (64 * i+j)=g (64 * i+j)):gwN f i=gwN g i:=set_ext gwN_lt fun j hj=>by rw [gw_bit hj,h j hj]
theorem gs_ext {f g:Nat→Bool} (h:∀ j,j<320→f j=g j):gsD f=gsD g:=by
  unfold gsD gw
  rw [gw_ext (i:=0) fun j hj=>h _ (by omega),gw_ext (i:=1) fun j hj=>h _ (by omega),gw_ext (i:=2) fun j hj=>h _ (by omega),gw_ext (i:=3) fun j hj=>h _ (by omega),gw_ext (i:=4) fun j hj=>h _ (by omega)]
theorem gs_zero:gsD (fun _=>false)=[.v (.int .u64 0),.v (.int .u64 0),.v (.int .u64 0),.v (.int .u64 0),.v (.int .u64 0)]:=by
  have:∀ i,gwN (fun _=>false) i=0:=fun i=>by
    unfold gwN
    have:∀ n,setOf (fun _=>false) n=0:=fun n=>by
      induction n with
      | zero=>rfl
      | succ n ih=>simp [setOf,ih]
    exact this 64
  unfold gsD gw
  rw [this,this,this,this,this]
  rfl
theorem gq {p:Nat}:((p:Int) / 64).toNat=p / 64:=by omega
theorem gr {p:Nat}:((p:Int) % 64).toNat=p % 64:=by omega
theorem gs_set {f g:Nat→Bool} {i X:Nat} (hi:i<5) (hX:X=gwN g i) (ho:∀ j,j<5→j ≠ i→gwN f j=gwN g j):[D.v (.int .u64 (gwN f 0)),.v (.int .u64 (gwN f 1)),.v (.int .u64 (gwN f 2)),.v (.int .u64 (gwN f 3)),.v (.int .u64 (gwN f 4))].set i (D.v (.int .u64 X))=[D.v (.int .u64 (gwN g 0)),.v (.int .u64 (gwN g 1)),.v (.int .u64 (gwN g 2)),.v (.int .u64 (gwN g 3)),.v (.int .u64 (gwN g 4))]:=by
  subst hX
  have h5:i=0∨i=1∨i=2∨i=3∨i=4:=by omega
  rcases h5 with rfl|rfl|rfl|rfl|rfl
  · simp [ho 1,ho 2,ho 3,ho 4]
  · simp [ho 0,ho 2,ho 3,ho 4]
  · simp [ho 0,ho 1,ho 3,ho 4]
  · simp [ho 0,ho 1,ho 2,ho 4]
  · simp [ho 0,ho 1,ho 2,ho 3]
def gAdd (f:Nat→Bool) (p j:Nat):Bool:=f j || decide (j=p)
theorem gs_add {f:Nat→Bool} {p:Nat} (hp:p<320):[D.v (.int .u64 (gwN f 0)),.v (.int .u64 (gwN f 1)),.v (.int .u64 (gwN f 2)),.v (.int .u64 (gwN f 3)),.v (.int .u64 (gwN f 4))].set (p / 64 * 1) (D.v (.int .u64 (IntKind.u64.wrap ((BitVec.ofInt IntKind.u64.bits (gwN f (p / 64 * 1):Int) ||| BitVec.ofInt IntKind.u64.bits (IntKind.u64.wrap (1 * 2 ^ (min (p % 64) IntKind.u64.bits)))).toNat:Int)))) =
    [D.v (.int .u64 (gwN (gAdd f p) 0)),.v (.int .u64 (gwN (gAdd f p) 1)),.v (.int .u64 (gwN (gAdd f p) 2)),.v (.int .u64 (gwN (gAdd f p) 3)),.v (.int .u64 (gwN (gAdd f p) 4))]:=by
  have h2:(2:Nat) ^ (p % 64)<2 ^ 64:=Nat.pow_lt_pow_right (by omega) (by omega)
  rw [shl64 (by omega),or64 gwN_lt h2,Nat.mul_one]
  refine gs_set (by omega) ?_ fun j hj hn=>gw_ext fun q hq => ?_
  · apply Nat.eq_of_testBit_eq
    intro x
    by_cases hx:x<64
    · rw [gw_bit hx,or_bit,gw_bit hx]
      unfold gAdd
      congr 1
      exact dec_iff (by omega)
    · have:=@gwN_lt (gAdd f p) (p / 64)
      rw [Nat.testBit_lt_two_pow (Nat.lt_of_lt_of_le (Nat.or_lt_two_pow gwN_lt h2) (Nat.pow_le_pow_right (by omega) (by omega))),Nat.testBit_lt_two_pow (Nat.lt_of_lt_of_le this (Nat.pow_le_pow_right (by omega) (by omega)))]
  · unfold gAdd;rw [decide_eq_false (by omega),Bool.or_false]
def gOrU (f g:Nat→Bool) (i j:Nat):Bool:=if j<64 * i then f j || g j else f j
def gOr (f g:Nat→Bool) (j:Nat):Bool:=f j || g j
theorem gs_or {f g:Nat→Bool} {i:Nat} (hi:i<5):[D.v (.int .u64 (gwN (gOrU f g i) 0)),.v (.int .u64 (gwN (gOrU f g i) 1)),.v (.int .u64 (gwN (gOrU f g i) 2)),.v (.int .u64 (gwN (gOrU f g i) 3)),.v (.int .u64 (gwN (gOrU f g i) 4))].set (i * 1) (D.v (.int .u64 (IntKind.u64.wrap ((BitVec.ofInt IntKind.u64.bits (gwN (gOrU f g i) (i * 1):Int) ||| BitVec.ofInt IntKind.u64.bits (gwN g (i * 1):Int)).toNat:Int)))) =
    [D.v (.int .u64 (gwN (gOrU f g (i+1)) 0)),.v (.int .u64 (gwN (gOrU f g (i+1)) 1)),.v (.int .u64 (gwN (gOrU f g (i+1)) 2)),.v (.int .u64 (gwN (gOrU f g (i+1)) 3)),.v (.int .u64 (gwN (gOrU f g (i+1)) 4))]:=by
  rw [or64 gwN_lt gwN_lt,Nat.mul_one]
  refine gs_set (by omega) ?_ fun j hj hn=>gw_ext fun q hq => ?_
  · apply Nat.eq_of_testBit_eq
    intro x
    by_cases hx:x<64
    · rw [gw_bit hx,Nat.testBit_or,gw_bit hx,gw_bit hx]
      unfold gOrU
      rw [if_neg (by omega),if_pos (by omega)]
    · have h1:=@gwN_lt (gOrU f g (i+1)) i
      rw [Nat.testBit_lt_two_pow (Nat.lt_of_lt_of_le (Nat.or_lt_two_pow gwN_lt gwN_lt) (Nat.pow_le_pow_right (by omega) (by omega))),Nat.testBit_lt_two_pow (Nat.lt_of_lt_of_le h1 (Nat.pow_le_pow_right (by omega) (by omega)))]
  · unfold gOrU
    by_cases h:j<i
    · rw [if_pos (by omega),if_pos (by omega)]
    · rw [if_neg (by omega),if_neg (by omega)]
theorem gOrU_zero {f g:Nat→Bool}:gOrU f g 0=f:=by funext j;unfold gOrU;rw [if_neg (by omega)]
theorem gs_or5 {f g:Nat→Bool}:gsD (gOrU f g 5)=gsD (gOr f g):=gs_ext fun j hj=>by unfold gOrU gOr;rw [if_pos (by omega)]
theorem gw_meet {f g:Nat→Bool} {i:Nat}:gwN f i &&& gwN g i ≠ 0 ↔ ∃ j,j<64∧f (64 * i+j)=true∧g (64 * i+j)=true:=by
  constructor
  · intro h
    apply Classical.byContradiction
    intro hn
    apply h
    apply Nat.eq_of_testBit_eq
    intro x
    rw [Nat.zero_testBit,Nat.testBit_and]
    by_cases hx:x<64
    · rw [gw_bit hx,gw_bit hx,Bool.and_eq_false_iff]
      apply Classical.byContradiction
      intro h2
      simp only [not_or,Bool.not_eq_false] at h2
      exact hn ⟨x,hx,h2⟩
    · rw [Nat.testBit_lt_two_pow (Nat.lt_of_lt_of_le (@gwN_lt f i) (Nat.pow_le_pow_right (by omega) (by omega)))];rfl
  · rintro ⟨j,hj,h1,h2⟩ h
    have:=congrArg (fun n=>n.testBit j) h
    simp only [Nat.testBit_and,Nat.zero_testBit] at this
    rw [gw_bit hj,gw_bit hj,h1,h2] at this
    cases this
def gMeet (f g:Nat→Bool):Bool:=(List.range 320).any fun j=>f j && g j
def vgl:=And.intro @gs_get<|And.intro @gsD_eq<|And.intro @gq<|And.intro @gr<|And.intro @gs_add @gs_or
set_option maxRecDepth 10000 in
set_option maxHeartbeats 4000000 in
theorem gHas_spec (f:Nat→Bool) (p:Nat) (hp:p<320):Dm.Spec Try.prog 31 [.ag (gsD f),iv .i64 p] (·=.v (.bool (f p))):=by
  refine spec_of_vc mixed Try.func31 c31 (by rw [show Try.f31.ntmps=_ from Try.ntmps31];simp) ?_
  unfold m31 r31
  repeat' first|((first|refine Br.dec ?_ ?_|refine Br.eqi ?_ ?_)<;>intro h<;>try (exfalso;omega))|(simp (disch:=first|omega|(simp only [vlen];first|done|omega)) only [vgl,↓vAq,vBq,↓reduceIte,Nat.reduceBEq,Nat.reduceEqDiff,Nat.reduceLT,Nat.reduceLeDiff,Nat.reduceAdd,Nat.reduceMul,Nat.reduceSub,reduceCtorEq,Int.reduceToNat])|(refine Br.mk ?_ ?_<;>intro h)|(refine BrN.mk (fun h => ?_) ?_)|(refine AltVC.mk ?_ ?_)
  refine fin_mk (vbEq ?_)
  have h1:gwN f (p / 64) >>> (p % 64)<2 ^ 64:=Nat.lt_of_le_of_lt shr_le gwN_lt
  rw [Nat.mul_one,shr64 (by omega),show (1:Int)=((1:Nat):Int) from rfl,and64 h1 (by omega)]
  have:=@bit_eq (gwN f (p / 64)) (p % 64)
  rw [gw_bit (by omega)] at this
  rw [show 64 * (p / 64)+p % 64=p by omega] at this
  rw [← this]
  rfl
set_option maxRecDepth 10000 in
set_option maxHeartbeats 4000000 in
theorem gWith_spec (f:Nat→Bool) (p:Nat) (hp:p<320):Dm.Spec Try.prog 22 [.ag (gsD f),iv .i64 p] (·=.ag (gsD (gAdd f p))):=by
  refine spec_of_vc mixed Try.func22 c22 (by rw [show Try.f22.ntmps=_ from Try.ntmps22];simp) ?_
  unfold m22 r22
  repeat' first|((first|refine Br.dec ?_ ?_|refine Br.eqi ?_ ?_)<;>intro h<;>try (exfalso;omega))|(simp (disch:=first|omega|(simp only [vlen];first|done|omega)) only [vgl,↓vAq,vBq,↓reduceIte,Nat.reduceBEq,Nat.reduceEqDiff,Nat.reduceLT,Nat.reduceLeDiff,Nat.reduceAdd,Nat.reduceMul,Nat.reduceSub,reduceCtorEq,Int.reduceToNat])|(refine Br.mk ?_ ?_<;>intro h)|(refine BrN.mk (fun h => ?_) ?_)|(refine AltVC.mk ?_ ?_)
  exact fin_mk rfl
set_option maxRecDepth 10000 in
set_option maxHeartbeats 4000000 in
theorem gOr_spec (f g:Nat→Bool):Dm.Spec Try.prog 32 [.ag (gsD f),.ag (gsD g)] (·=.ag (gsD (gOr f g))):=by
  refine spec_of_vc mixed Try.func32 c32 (by rw [show Try.f32.ntmps=_ from Try.ntmps32];simp) ?_
  unfold m32 r32
  repeat' first|((first|refine Br.dec ?_ ?_|refine Br.eqi ?_ ?_)<;>intro h<;>try (exfalso;omega))|(simp (disch:=first|omega|(simp only [vlen];first|done|omega)) only [vgl,↓vAq,vBq,↓reduceIte,Nat.reduceBEq,Nat.reduceEqDiff,Nat.reduceLT,Nat.reduceLeDiff,Nat.reduceAdd,Nat.reduceMul,Nat.reduceSub,reduceCtorEq,Int.reduceToNat])|(refine Br.mk ?_ ?_<;>intro h)|(refine BrN.mk (fun h => ?_) ?_)|(refine AltVC.mk ?_ ?_)
  refine LoopVC.mk (X:=Nat) (fun i=>[(6,iv .i64 i)]) (fun i=>[(0,⟨5,[gsD (gOrU f g i)],true,false,.fix⟩),(1,⟨5,[gsD g],true,false,.fix⟩),(2,⟨5,[[.v (.int .u64 0),.v (.int .u64 0),.v (.int .u64 0),.v (.int .u64 0),.v (.int .u64 0)]],true,false,.fix⟩)]) (fun i=>5 - i) (fun i=>i≤5) 0 (by omega) ?_ ?_
  · rw [gOrU_zero]
    (simp (disch:=first|omega|(simp only [vlen];first|done|omega)) only [Fits_u,Fits_m,Fits_nil,List.length_append,vgl,↓vAq,vBq,↓reduceIte,Nat.reduceBEq,Nat.reduceEqDiff,Nat.reduceLT,Nat.reduceLeDiff,Nat.reduceAdd,Nat.reduceMul,Nat.reduceSub,reduceCtorEq,Int.reduceToNat]<;>(repeat' first|rfl|apply And.intro))
  · intro i hi
    by_cases hi5:i<5
    · repeat' first|((first|refine Br.dec ?_ ?_|refine Br.eqi ?_ ?_)<;>intro h<;>try (exfalso;omega))|(simp (disch:=first|omega|(simp only [vlen];first|done|omega)) only [vgl,↓vAq,vBq,↓reduceIte,Nat.reduceBEq,Nat.reduceEqDiff,Nat.reduceLT,Nat.reduceLeDiff,Nat.reduceAdd,Nat.reduceMul,Nat.reduceSub,reduceCtorEq,Int.reduceToNat])|(refine Br.mk ?_ ?_<;>intro h)|(refine BrN.mk (fun h => ?_) ?_)|(refine AltVC.mk ?_ ?_)
      refine loopK.mk (i+1) (by simp (disch:=first|omega|(simp only [vlen];first|done|omega)) only [↓vAq,vBq,↓reduceIte,Nat.reduceBEq,Nat.reduceEqDiff,Nat.reduceLT,Nat.reduceLeDiff,Nat.reduceAdd,Nat.reduceMul,Nat.reduceSub,reduceCtorEq,Int.reduceToNat]) (by omega) (by omega) ?_
      (simp (disch:=first|omega|(simp only [vlen];first|done|omega)) only [Fits_u,Fits_m,Fits_nil,List.length_append,vgl,↓vAq,vBq,↓reduceIte,Nat.reduceBEq,Nat.reduceEqDiff,Nat.reduceLT,Nat.reduceLeDiff,Nat.reduceAdd,Nat.reduceMul,Nat.reduceSub,reduceCtorEq,Int.reduceToNat]<;>(repeat' first|rfl|apply And.intro))
    · have:i=5:=by omega
      subst this
      repeat' first|((first|refine Br.dec ?_ ?_|refine Br.eqi ?_ ?_)<;>intro h<;>try (exfalso;omega))|(simp (disch:=first|omega|(simp only [vlen];first|done|omega)) only [vgl,↓vAq,vBq,↓reduceIte,Nat.reduceBEq,Nat.reduceEqDiff,Nat.reduceLT,Nat.reduceLeDiff,Nat.reduceAdd,Nat.reduceMul,Nat.reduceSub,reduceCtorEq,Int.reduceToNat])|(refine Br.mk ?_ ?_<;>intro h)|(refine BrN.mk (fun h => ?_) ?_)|(refine AltVC.mk ?_ ?_)
      exact fin_mk (congrArg D.ag gs_or5)
set_option maxRecDepth 10000 in
set_option maxHeartbeats 4000000 in
theorem gMeets_spec (f g : Nat → Bool) : Dm.Spec Try.prog 24 [.ag (gsD f), .ag (gsD g)] (· = .v (.bool (gMeet f g))) := by
  refine spec_of_vc mixed Try.func24 c24 (by rw [show Try.f24.ntmps=_ from Try.ntmps24];simp) ?_
  unfold m24 r24
  repeat' first|((first|refine Br.dec ?_ ?_|refine Br.eqi ?_ ?_)<;>intro h<;>try (exfalso;omega))|(simp (disch:=first|omega|(simp only [vlen];first|done|omega)) only [vgl,↓vAq,vBq,↓reduceIte,Nat.reduceBEq,Nat.reduceEqDiff,Nat.reduceLT,Nat.reduceLeDiff,Nat.reduceAdd,Nat.reduceMul,Nat.reduceSub,reduceCtorEq,Int.reduceToNat])|(refine Br.mk ?_ ?_<;>intro h)|(refine BrN.mk (fun h => ?_) ?_)|(refine AltVC.mk ?_ ?_)
  refine LoopVC.mk (X:=Nat) (fun i=>[(6,iv .i64 i)]) (fun i=>[(0,⟨5,[gsD f],true,false,.fix⟩),(1,⟨5,[gsD g],true,false,.fix⟩)]) (fun i=>5 - i) (fun i=>i≤5∧∀ j,j<64 * i→(f j && g j)=false) 0 ⟨by omega,by omega⟩ ?_ ?_
  · (simp (disch:=first|omega|(simp only [vlen];first|done|omega)) only [Fits_u,Fits_m,Fits_nil,List.length_append,vgl,↓vAq,vBq,↓reduceIte,Nat.reduceBEq,Nat.reduceEqDiff,Nat.reduceLT,Nat.reduceLeDiff,Nat.reduceAdd,Nat.reduceMul,Nat.reduceSub,reduceCtorEq,Int.reduceToNat]<;>(repeat' first|rfl|apply And.intro))
  · rintro i ⟨hi,hno⟩
    by_cases hi5:i<5
    · have e:=@and64 (gwN f i) (gwN g i) gwN_lt gwN_lt
      have hm:=@gw_meet f g i
      by_cases hz:gwN f i &&& gwN g i=0
      · rw [hz] at e
        repeat' first|((first|refine Br.dec ?_ ?_|refine Br.eqi ?_ ?_)<;>intro h<;>try (exfalso;omega))|(simp (disch:=first|omega|(simp only [vlen];first|done|omega)) only [vgl,Nat.mul_one,e,↓vAq,vBq,↓reduceIte,Nat.reduceBEq,Nat.reduceEqDiff,Nat.reduceLT,Nat.reduceLeDiff,Nat.reduceAdd,Nat.reduceMul,Nat.reduceSub,reduceCtorEq,Int.reduceToNat])|(refine Br.mk ?_ ?_<;>intro h)|(refine BrN.mk (fun h => ?_) ?_)|(refine AltVC.mk ?_ ?_)
        refine loopK.mk (i+1) (by simp (disch:=first|omega|(simp only [vlen];first|done|omega)) only [↓vAq,vBq,↓reduceIte,Nat.reduceBEq,Nat.reduceEqDiff,Nat.reduceLT,Nat.reduceLeDiff,Nat.reduceAdd,Nat.reduceMul,Nat.reduceSub,reduceCtorEq,Int.reduceToNat]) ⟨by omega,fun j hj => ?_⟩ (by omega) ?_
        · by_cases h:j<64 * i
          · exact hno j h
          · rw [← Bool.not_eq_true]
            intro h2
            rw [Bool.and_eq_true] at h2
            have h3:64 * i+(j - 64 * i)=j:=by omega
            exact hm.mpr ⟨j - 64 * i,by omega,by rw [h3];exact h2.1,by rw [h3];exact h2.2⟩ hz
        · (simp (disch:=first|omega|(simp only [vlen];first|done|omega)) only [Fits_u,Fits_m,Fits_nil,List.length_append,vgl,↓vAq,vBq,↓reduceIte,Nat.reduceBEq,Nat.reduceEqDiff,Nat.reduceLT,Nat.reduceLeDiff,Nat.reduceAdd,Nat.reduceMul,Nat.reduceSub,reduceCtorEq,Int.reduceToNat]<;>(repeat' first|rfl|apply And.intro))
      · obtain ⟨j,hj,h1,h2⟩:=hm.mp hz
        have hr:gMeet f g=true:=List.any_eq_true.mpr ⟨64 * i+j,List.mem_range.mpr (by omega),by rw [h1,h2];rfl⟩
        have hz2:¬ (((gwN f i &&& gwN g i:Nat):Int)=0):=by omega
        repeat' first|((first|refine Br.dec ?_ ?_|refine Br.eqi ?_ ?_)<;>intro h<;>try (exfalso;omega))|(simp (disch:=first|omega|(simp only [vlen];first|done|omega)) only [vgl,Nat.mul_one,e,↓vAq,vBq,↓reduceIte,Nat.reduceBEq,Nat.reduceEqDiff,Nat.reduceLT,Nat.reduceLeDiff,Nat.reduceAdd,Nat.reduceMul,Nat.reduceSub,reduceCtorEq,Int.reduceToNat])|(refine Br.mk ?_ ?_<;>intro h)|(refine BrN.mk (fun h => ?_) ?_)|(refine AltVC.mk ?_ ?_)
        exact fin_mk (vbEq hr.symm)
    · have:i=5:=by omega
      subst this
      have hr:gMeet f g=false:=by
        rw [← Bool.not_eq_true]
        intro h2
        obtain ⟨j,hj,h3⟩:=List.any_eq_true.mp h2
        rw [hno j (List.mem_range.mp hj)] at h3;cases h3
      repeat' first|((first|refine Br.dec ?_ ?_|refine Br.eqi ?_ ?_)<;>intro h<;>try (exfalso;omega))|(simp (disch:=first|omega|(simp only [vlen];first|done|omega)) only [vgl,↓vAq,vBq,↓reduceIte,Nat.reduceBEq,Nat.reduceEqDiff,Nat.reduceLT,Nat.reduceLeDiff,Nat.reduceAdd,Nat.reduceMul,Nat.reduceSub,reduceCtorEq,Int.reduceToNat])|(refine Br.mk ?_ ?_<;>intro h)|(refine BrN.mk (fun h => ?_) ?_)|(refine AltVC.mk ?_ ?_)
      exact fin_mk (vbEq hr.symm)
end Go.Proofs.Ytpgomgjpliallaa
