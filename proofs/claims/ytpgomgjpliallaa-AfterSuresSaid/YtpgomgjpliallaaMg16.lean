/-
 Texts of this claim, one behind another.
-/
import Derived.Test.YtpgomgjpliallaaMg15
import Derived.Test.YtpgomgjpliallaaMg11
import Derived.Test.YtpgomgjpliallaaMg14
import Derived.Test.YtpgomgjpliallaaMg13
set_option linter.unusedSimpArgs false
set_option linter.unnecessarySimpa false
set_option linter.unusedVariables false
set_option linter.defProp false
namespace Go.Proofs.Ytpgomgjpliallaa
open Go.Dm
def sFol (g:Gl) (S:Nat→Bool) (i q:Nat):Bool:=(List.range i).any fun p=>S p && g.fol p q
def sGoU (g:Gl) (S:Nat→Bool) (c:Int) (i q:Nat):Bool:=decide (q<i) && decide (g.syms.getD q 0=c) && sFol g S g.syms.length q
def sGo (g:Gl) (S:Nat→Bool) (c:Int):Nat→Bool:=sGoU g S c g.syms.length
section
variable {g:Gl} {S:Nat→Bool} {c:Int} {i:Nat}
theorem sFol_zero:gsD (sFol g S 0)=gsD fun _=>false:=gs_ext fun j _=>rfl
theorem sFol_skip (h:S i=false):sFol g S (i+1)=sFol g S i:=funext fun j=>by
  unfold sFol;rw [List.range_succ,List.any_append];simp [h]
theorem sFol_step (h:S i=true):gsD (gOr (sFol g S i) (g.fol i))=gsD (sFol g S (i+1)):=gs_ext fun j _=>by
  unfold sFol gOr;rw [List.range_succ,List.any_append];simp [h]
theorem sGo_zero:gsD (sGoU g S c 0)=gsD fun _=>false:=gs_ext fun j _=>by unfold sGoU;simp
theorem sGo_skip (h:(decide (g.syms.getD i 0=c) && sFol g S g.syms.length i)=false):sGoU g S c (i+1)=sGoU g S c i:=funext fun j=>by
  unfold sGoU
  by_cases e:j=i
  · rw [e,decide_eq_false (Nat.lt_irrefl i),Bool.false_and,Bool.false_and,decide_eq_true (Nat.lt_succ_self i),Bool.true_and,h]
  · rw [show decide (j<i+1)=decide (j<i) from by rw [decide_eq_decide];omega]
theorem sGo_step (h:(decide (g.syms.getD i 0=c) && sFol g S g.syms.length i)=true):gsD (gAdd (sGoU g S c i) i)=gsD (sGoU g S c (i+1)):=gs_ext fun j _=>by
  unfold sGoU gAdd
  by_cases e:j=i
  · rw [e,decide_eq_true (rfl:i=i),Bool.or_true,decide_eq_true (Nat.lt_succ_self i),Bool.true_and,h]
  · rw [show decide (j<i+1)=decide (j<i) from by rw [decide_eq_decide];omega,decide_eq_false e,Bool.or_false]
theorem sGo_iff {q:Nat}:sGo g S c q=true ↔ q<g.syms.length∧g.syms.getD q 0=c ∧ ∃ p,p<g.syms.length∧S p=true∧g.fol p q=true:=by
  unfold sGo sGoU sFol
  simp only [Bool.and_eq_true,decide_eq_true_eq,List.any_eq_true,List.mem_range]
  exact ⟨fun ⟨⟨h1,h2⟩,p,h3,h4⟩=>⟨h1,h2,p,h3,h4⟩,fun ⟨h1,h2,p,h3,h4⟩=>⟨⟨h1,h2⟩,p,h3,h4⟩⟩
end
def vsu:=And.intro vgm @glD_eq
set_option maxRecDepth 10000 in
set_option maxHeartbeats 4000000 in
theorem gStep_spec (g : Gl) (hg : g.syms.length ≤ 300) (S : Nat → Bool) (c : Int) : Dm.Spec Try.prog 23 [.ag (glD g), .ag (gsD S), iv .i64 c] (· = .ag (gsD (sGo g S c))) := by
  refine spec_of_vc mixed Try.func23 c23 (by rw [show Try.f23.ntmps=_ from Try.ntmps23];simp) ?_
  unfold m23 r23
  repeat' first|((first|refine Br.dec ?_ ?_|refine Br.eqi ?_ ?_)<;>intro h<;>try (exfalso;omega))|(simp (disch:=first|omega|(simp only [vlen];first|done|omega)) only [vsu,↓vAq,vBq,↓reduceIte,Nat.reduceBEq,Nat.reduceEqDiff,Nat.reduceLT,Nat.reduceLeDiff,Nat.reduceAdd,Nat.reduceMul,Nat.reduceSub,reduceCtorEq,Int.reduceToNat])|(refine Br.mk ?_ ?_<;>intro h)|(refine BrN.mk (fun h => ?_) ?_)|(refine AltVC.mk ?_ ?_)
  refine LoopVC.mk (X:=Nat) (fun i=>[(15,iv .i64 i)]) (fun i=>[(0,⟨7,[glD g],true,false,.fix⟩),(1,⟨5,[gsD S],true,false,.fix⟩),(2,⟨5,[gsD fun _=>false],true,false,.fix⟩),(3,⟨5,[gsD (sFol g S i)],true,false,.fix⟩),(4,⟨5,[gsD fun _=>false],true,false,.fix⟩)]) (fun i=>g.syms.length - i) (fun i=>i≤g.syms.length) 0 (Nat.zero_le _) ?_ ?_
  · rw [sFol_zero,gs_zero]
    (simp (disch:=first|omega|(simp only [vlen];first|done|omega)) only [Fits_u,Fits_m,Fits_nil,List.length_append,vsu,↓vAq,vBq,↓reduceIte,Nat.reduceBEq,Nat.reduceEqDiff,Nat.reduceLT,Nat.reduceLeDiff,Nat.reduceAdd,Nat.reduceMul,Nat.reduceSub,reduceCtorEq,Int.reduceToNat]<;>(repeat' first|rfl|apply And.intro))
  · intro i hi
    by_cases hil:i<g.syms.length
    · have hH:=gHas_spec S i (by omega)
      cases hSi:S i with
      | false =>
        rw [hSi] at hH
        repeat' first|((first|refine Br.dec ?_ ?_|refine Br.eqi ?_ ?_)<;>intro h<;>try (exfalso;omega))|(simp (disch:=first|omega|(simp only [vlen];first|done|omega)) only [vsu,↓vAq,vBq,↓reduceIte,Nat.reduceBEq,Nat.reduceEqDiff,Nat.reduceLT,Nat.reduceLeDiff,Nat.reduceAdd,Nat.reduceMul,Nat.reduceSub,reduceCtorEq,Int.reduceToNat])|(refine Br.mk ?_ ?_<;>intro h)|(refine BrN.mk (fun h => ?_) ?_)|(refine AltVC.mk ?_ ?_)
        refine CallVC.eq hH ?_
        repeat' first|((first|refine Br.dec ?_ ?_|refine Br.eqi ?_ ?_)<;>intro h<;>try (exfalso;omega))|(simp (disch:=first|omega|(simp only [vlen];first|done|omega)) only [vsu,↓vAq,vBq,↓reduceIte,Nat.reduceBEq,Nat.reduceEqDiff,Nat.reduceLT,Nat.reduceLeDiff,Nat.reduceAdd,Nat.reduceMul,Nat.reduceSub,reduceCtorEq,Int.reduceToNat])|(refine Br.mk ?_ ?_<;>intro h)|(refine BrN.mk (fun h => ?_) ?_)|(refine AltVC.mk ?_ ?_)
        refine loopK.mk (i+1) (by simp (disch:=first|omega|(simp only [vlen];first|done|omega)) only [↓vAq,vBq,↓reduceIte,Nat.reduceBEq,Nat.reduceEqDiff,Nat.reduceLT,Nat.reduceLeDiff,Nat.reduceAdd,Nat.reduceMul,Nat.reduceSub,reduceCtorEq,Int.reduceToNat]) (by omega) (by omega) ?_
        rw [sFol_skip hSi]
        (simp (disch:=first|omega|(simp only [vlen];first|done|omega)) only [Fits_u,Fits_m,Fits_nil,List.length_append,vsu,↓vAq,vBq,↓reduceIte,Nat.reduceBEq,Nat.reduceEqDiff,Nat.reduceLT,Nat.reduceLeDiff,Nat.reduceAdd,Nat.reduceMul,Nat.reduceSub,reduceCtorEq,Int.reduceToNat]<;>(repeat' first|rfl|apply And.intro))
      | true =>
        rw [hSi] at hH
        repeat' first|((first|refine Br.dec ?_ ?_|refine Br.eqi ?_ ?_)<;>intro h<;>try (exfalso;omega))|(simp (disch:=first|omega|(simp only [vlen];first|done|omega)) only [vsu,↓vAq,vBq,↓reduceIte,Nat.reduceBEq,Nat.reduceEqDiff,Nat.reduceLT,Nat.reduceLeDiff,Nat.reduceAdd,Nat.reduceMul,Nat.reduceSub,reduceCtorEq,Int.reduceToNat])|(refine Br.mk ?_ ?_<;>intro h)|(refine BrN.mk (fun h => ?_) ?_)|(refine AltVC.mk ?_ ?_)
        refine CallVC.eq hH ?_
        repeat' first|((first|refine Br.dec ?_ ?_|refine Br.eqi ?_ ?_)<;>intro h<;>try (exfalso;omega))|(simp (disch:=first|omega|(simp only [vlen];first|done|omega)) only [vsu,↓vAq,vBq,↓reduceIte,Nat.reduceBEq,Nat.reduceEqDiff,Nat.reduceLT,Nat.reduceLeDiff,Nat.reduceAdd,Nat.reduceMul,Nat.reduceSub,reduceCtorEq,Int.reduceToNat])|(refine Br.mk ?_ ?_<;>intro h)|(refine BrN.mk (fun h => ?_) ?_)|(refine AltVC.mk ?_ ?_)
        have hO:=gOr_spec (sFol g S i) (g.fol i)
        rw [sFol_step hSi] at hO
        first|refine CallP.eq hO (fun h=>by cases h) ?_|refine CallVC.eq hO ?_
        repeat' first|((first|refine Br.dec ?_ ?_|refine Br.eqi ?_ ?_)<;>intro h<;>try (exfalso;omega))|(simp (disch:=first|omega|(simp only [vlen];first|done|omega)) only [vsu,↓vAq,vBq,↓reduceIte,Nat.reduceBEq,Nat.reduceEqDiff,Nat.reduceLT,Nat.reduceLeDiff,Nat.reduceAdd,Nat.reduceMul,Nat.reduceSub,reduceCtorEq,Int.reduceToNat])|(refine Br.mk ?_ ?_<;>intro h)|(refine BrN.mk (fun h => ?_) ?_)|(refine AltVC.mk ?_ ?_)
        refine loopK.mk (i+1) (by simp (disch:=first|omega|(simp only [vlen];first|done|omega)) only [↓vAq,vBq,↓reduceIte,Nat.reduceBEq,Nat.reduceEqDiff,Nat.reduceLT,Nat.reduceLeDiff,Nat.reduceAdd,Nat.reduceMul,Nat.reduceSub,reduceCtorEq,Int.reduceToNat]) (by omega) (by omega) ?_
        (simp (disch:=first|omega|(simp only [vlen];first|done|omega)) only [Fits_u,Fits_m,Fits_nil,List.length_append,vsu,↓vAq,vBq,↓reduceIte,Nat.reduceBEq,Nat.reduceEqDiff,Nat.reduceLT,Nat.reduceLeDiff,Nat.reduceAdd,Nat.reduceMul,Nat.reduceSub,reduceCtorEq,Int.reduceToNat]<;>(repeat' first|rfl|apply And.intro))
    · have:i=g.syms.length:=by omega
      rw [this]
      clear this hi hil i
      repeat' first|((first|refine Br.dec ?_ ?_|refine Br.eqi ?_ ?_)<;>intro h<;>try (exfalso;omega))|(simp (disch:=first|omega|(simp only [vlen];first|done|omega)) only [vsu,↓vAq,vBq,↓reduceIte,Nat.reduceBEq,Nat.reduceEqDiff,Nat.reduceLT,Nat.reduceLeDiff,Nat.reduceAdd,Nat.reduceMul,Nat.reduceSub,reduceCtorEq,Int.reduceToNat])|(refine Br.mk ?_ ?_<;>intro h)|(refine BrN.mk (fun h => ?_) ?_)|(refine AltVC.mk ?_ ?_)
      refine LoopVC.mk (X:=Nat) (fun i=>[(32,iv .i64 i)]) (fun i=>[(0,⟨7,[glD g],true,false,.fix⟩),(1,⟨5,[gsD S],true,false,.fix⟩),(2,⟨5,[gsD fun _=>false],true,false,.fix⟩),(3,⟨5,[gsD (sFol g S g.syms.length)],true,false,.fix⟩),(4,⟨5,[gsD (sGoU g S c i)],true,false,.fix⟩)]) (fun i=>g.syms.length - i) (fun i=>i≤g.syms.length) 0 (Nat.zero_le _) ?_ ?_
      · rw [sGo_zero]
        (simp (disch:=first|omega|(simp only [vlen];first|done|omega)) only [Fits_u,Fits_m,Fits_nil,List.length_append,vsu,↓vAq,vBq,↓reduceIte,Nat.reduceBEq,Nat.reduceEqDiff,Nat.reduceLT,Nat.reduceLeDiff,Nat.reduceAdd,Nat.reduceMul,Nat.reduceSub,reduceCtorEq,Int.reduceToNat]<;>(repeat' first|rfl|apply And.intro))
      · intro i hi
        by_cases hil:i<g.syms.length
        · have hH:=gHas_spec (sFol g S g.syms.length) i (by omega)
          have hW:=gWith_spec (sGoU g S c i) i (by omega)
          by_cases hc:g.syms.getD i 0=c
          · cases hf:sFol g S g.syms.length i with
            | false =>
              rw [hf] at hH
              have hs:=@sGo_skip g S c i (by rw [hf,Bool.and_false])
              repeat' first|((first|refine Br.dec ?_ ?_|refine Br.eqi ?_ ?_)<;>intro h<;>try (exfalso;omega))|(simp (disch:=first|omega|(simp only [vlen];first|done|omega)) only [vsu,↓vAq,vBq,↓reduceIte,Nat.reduceBEq,Nat.reduceEqDiff,Nat.reduceLT,Nat.reduceLeDiff,Nat.reduceAdd,Nat.reduceMul,Nat.reduceSub,reduceCtorEq,Int.reduceToNat])|(refine Br.mk ?_ ?_<;>intro h)|(refine BrN.mk (fun h => ?_) ?_)|(refine AltVC.mk ?_ ?_)
              refine CallVC.eq hH ?_
              repeat' first|((first|refine Br.dec ?_ ?_|refine Br.eqi ?_ ?_)<;>intro h<;>try (exfalso;omega))|(simp (disch:=first|omega|(simp only [vlen];first|done|omega)) only [vsu,↓vAq,vBq,↓reduceIte,Nat.reduceBEq,Nat.reduceEqDiff,Nat.reduceLT,Nat.reduceLeDiff,Nat.reduceAdd,Nat.reduceMul,Nat.reduceSub,reduceCtorEq,Int.reduceToNat])|(refine Br.mk ?_ ?_<;>intro h)|(refine BrN.mk (fun h => ?_) ?_)|(refine AltVC.mk ?_ ?_)
              refine loopK.mk (i+1) (by simp (disch:=first|omega|(simp only [vlen];first|done|omega)) only [↓vAq,vBq,↓reduceIte,Nat.reduceBEq,Nat.reduceEqDiff,Nat.reduceLT,Nat.reduceLeDiff,Nat.reduceAdd,Nat.reduceMul,Nat.reduceSub,reduceCtorEq,Int.reduceToNat]) (by omega) (by omega) ?_
              rw [hs]
              (simp (disch:=first|omega|(simp only [vlen];first|done|omega)) only [Fits_u,Fits_m,Fits_nil,List.length_append,vsu,↓vAq,vBq,↓reduceIte,Nat.reduceBEq,Nat.reduceEqDiff,Nat.reduceLT,Nat.reduceLeDiff,Nat.reduceAdd,Nat.reduceMul,Nat.reduceSub,reduceCtorEq,Int.reduceToNat]<;>(repeat' first|rfl|apply And.intro))
            | true =>
              rw [hf] at hH
              rw [@sGo_step g S c i (by rw [hf,Bool.and_true];exact decide_eq_true hc)] at hW
              repeat' first|((first|refine Br.dec ?_ ?_|refine Br.eqi ?_ ?_)<;>intro h<;>try (exfalso;omega))|(simp (disch:=first|omega|(simp only [vlen];first|done|omega)) only [vsu,↓vAq,vBq,↓reduceIte,Nat.reduceBEq,Nat.reduceEqDiff,Nat.reduceLT,Nat.reduceLeDiff,Nat.reduceAdd,Nat.reduceMul,Nat.reduceSub,reduceCtorEq,Int.reduceToNat])|(refine Br.mk ?_ ?_<;>intro h)|(refine BrN.mk (fun h => ?_) ?_)|(refine AltVC.mk ?_ ?_)
              refine CallVC.eq hH ?_
              repeat' first|((first|refine Br.dec ?_ ?_|refine Br.eqi ?_ ?_)<;>intro h<;>try (exfalso;omega))|(simp (disch:=first|omega|(simp only [vlen];first|done|omega)) only [vsu,↓vAq,vBq,↓reduceIte,Nat.reduceBEq,Nat.reduceEqDiff,Nat.reduceLT,Nat.reduceLeDiff,Nat.reduceAdd,Nat.reduceMul,Nat.reduceSub,reduceCtorEq,Int.reduceToNat])|(refine Br.mk ?_ ?_<;>intro h)|(refine BrN.mk (fun h => ?_) ?_)|(refine AltVC.mk ?_ ?_)
              first|refine CallP.eq hW (fun h=>by cases h) ?_|refine CallVC.eq hW ?_
              repeat' first|((first|refine Br.dec ?_ ?_|refine Br.eqi ?_ ?_)<;>intro h<;>try (exfalso;omega))|(simp (disch:=first|omega|(simp only [vlen];first|done|omega)) only [vsu,↓vAq,vBq,↓reduceIte,Nat.reduceBEq,Nat.reduceEqDiff,Nat.reduceLT,Nat.reduceLeDiff,Nat.reduceAdd,Nat.reduceMul,Nat.reduceSub,reduceCtorEq,Int.reduceToNat])|(refine Br.mk ?_ ?_<;>intro h)|(refine BrN.mk (fun h => ?_) ?_)|(refine AltVC.mk ?_ ?_)
              refine loopK.mk (i+1) (by simp (disch:=first|omega|(simp only [vlen];first|done|omega)) only [↓vAq,vBq,↓reduceIte,Nat.reduceBEq,Nat.reduceEqDiff,Nat.reduceLT,Nat.reduceLeDiff,Nat.reduceAdd,Nat.reduceMul,Nat.reduceSub,reduceCtorEq,Int.reduceToNat]) (by omega) (by omega) ?_
              (simp (disch:=first|omega|(simp only [vlen];first|done|omega)) only [Fits_u,Fits_m,Fits_nil,List.length_append,vsu,↓vAq,vBq,↓reduceIte,Nat.reduceBEq,Nat.reduceEqDiff,Nat.reduceLT,Nat.reduceLeDiff,Nat.reduceAdd,Nat.reduceMul,Nat.reduceSub,reduceCtorEq,Int.reduceToNat]<;>(repeat' first|rfl|apply And.intro))
          · have hs:=@sGo_skip g S c i (by rw [decide_eq_false hc,Bool.false_and])
            repeat' first|((first|refine Br.dec ?_ ?_|refine Br.eqi ?_ ?_)<;>intro h<;>try (exfalso;omega))|(simp (disch:=first|omega|(simp only [vlen];first|done|omega)) only [vsu,↓vAq,vBq,↓reduceIte,Nat.reduceBEq,Nat.reduceEqDiff,Nat.reduceLT,Nat.reduceLeDiff,Nat.reduceAdd,Nat.reduceMul,Nat.reduceSub,reduceCtorEq,Int.reduceToNat])|(refine Br.mk ?_ ?_<;>intro h)|(refine BrN.mk (fun h => ?_) ?_)|(refine AltVC.mk ?_ ?_)
            refine loopK.mk (i+1) (by simp (disch:=first|omega|(simp only [vlen];first|done|omega)) only [↓vAq,vBq,↓reduceIte,Nat.reduceBEq,Nat.reduceEqDiff,Nat.reduceLT,Nat.reduceLeDiff,Nat.reduceAdd,Nat.reduceMul,Nat.reduceSub,reduceCtorEq,Int.reduceToNat]) (by omega) (by omega) ?_
            rw [hs]
            (simp (disch:=first|omega|(simp only [vlen];first|done|omega)) only [Fits_u,Fits_m,Fits_nil,List.length_append,vsu,↓vAq,vBq,↓reduceIte,Nat.reduceBEq,Nat.reduceEqDiff,Nat.reduceLT,Nat.reduceLeDiff,Nat.reduceAdd,Nat.reduceMul,Nat.reduceSub,reduceCtorEq,Int.reduceToNat]<;>(repeat' first|rfl|apply And.intro))
        · have:i=g.syms.length:=by omega
          subst this
          repeat' first|((first|refine Br.dec ?_ ?_|refine Br.eqi ?_ ?_)<;>intro h<;>try (exfalso;omega))|(simp (disch:=first|omega|(simp only [vlen];first|done|omega)) only [vsu,↓vAq,vBq,↓reduceIte,Nat.reduceBEq,Nat.reduceEqDiff,Nat.reduceLT,Nat.reduceLeDiff,Nat.reduceAdd,Nat.reduceMul,Nat.reduceSub,reduceCtorEq,Int.reduceToNat])|(refine Br.mk ?_ ?_<;>intro h)|(refine BrN.mk (fun h => ?_) ?_)|(refine AltVC.mk ?_ ?_)
          exact fin_mk rfl
end Go.Proofs.Ytpgomgjpliallaa

namespace Go.Dm
def dvL (X:Lg) (s:Nat):Lg:=fun v=>X ((s:Int)::v)
structure DF (L:Lg) (k n:Nat) (nx:Nat→Nat→Nat) (fi:Nat→Bool) (D:Nat→Lg):Prop where
  pos:0<n
  lt:∀ i s,i<n→s<k→nx i s<n
  st:D 0=L
  fin:∀ i,i<n→(fi i=true ↔ D i [])
  nxt:∀ i s,i<n→s<k→D (nx i s)=dvL (D i) s
  ok:∀ i v,i<n→D i v→∀ c,c ∈ v→0≤c∧c<k
  rch:∀ i,i<n → ∃ w:List Nat,(∀ c,c ∈ w→c<k)∧D i=w.foldl dvL L
section
variable {L:Lg} {k n:Nat} {nx:Nat→Nat→Nat} {fi:Nat→Bool} {D:Nat→Lg}
def EqN (k:Nat) (D:Nat→Lg) (t i j:Nat):Prop:=∀ v:List Int,v.length≤t→(∀ c,c ∈ v→0≤c∧c<k)→(D i v ↔ D j v)
theorem EqN.rfl' {t i:Nat}:EqN k D t i i:=fun _ _ _=>Iff.rfl
theorem EqN.symm {t i j:Nat} (h:EqN k D t i j):EqN k D t j i:=fun v h1 h2=>(h v h1 h2).symm
theorem EqN.trans {t i j m:Nat} (h:EqN k D t i j) (h2:EqN k D t j m):EqN k D t i m:=fun v h1 h3=>(h v h1 h3).trans (h2 v h1 h3)
theorem EqN.mono {t u i j:Nat} (h:EqN k D t i j) (hu:u≤t):EqN k D u i j:=fun v h1 h2=>h v (by omega) h2
theorem DF.eq0 (h:DF L k n nx fi D) {i j:Nat} (hi:i<n) (hj:j<n):EqN k D 0 i j ↔ fi i=fi j:=by
  have h1:=h.fin i hi
  have h2:=h.fin j hj
  constructor
  · intro he
    have:=he [] (Nat.le_refl _) (fun c hc=>by cases hc)
    rw [Bool.eq_iff_iff,h1,h2,this]
  · intro he v hv _
    have:v=[]:=List.length_eq_zero_iff.1 (by omega)
    subst this
    rw [← h1,← h2,he]
theorem DF.eqS (h:DF L k n nx fi D) {t i j:Nat} (hi:i<n) (hj:j<n):EqN k D (t+1) i j ↔ EqN k D t i j∧∀ s,s<k→EqN k D t (nx i s) (nx j s):=by
  constructor
  · refine fun he=>⟨he.mono (Nat.le_succ _),fun s hs v hv hok => ?_⟩
    rw [h.nxt i s hi hs,h.nxt j s hj hs]
    refine he ((s:Int)::v) (by rw [List.length_cons];omega) fun c hc => ?_
    rcases List.mem_cons.1 hc with rfl|hc
    · omega
    · exact hok c hc
  · rintro ⟨h0,h1⟩ v hv hok
    cases v with
    | nil=>exact h0 [] (Nat.zero_le _) hok
    | cons c v =>
      have hc:=hok c (by simp)
      have h2:=h1 c.toNat (by omega) v (by rw [List.length_cons] at hv;omega) fun c hc=>hok c (List.mem_cons_of_mem _ hc)
      rw [h.nxt i _ hi (by omega),h.nxt j _ hj (by omega)] at h2
      unfold dvL at h2
      rwa [show ((c.toNat:Nat):Int)=c by omega] at h2
theorem DF.stable (h:DF L k n nx fi D) {t:Nat} (hs:∀ i j,i<n→j<n→EqN k D t i j→EqN k D (t+1) i j) {i j:Nat} (hi:i<n) (hj:j<n) (he:EqN k D t i j):D i=D j:=by
  have all:∀ u,∀ i j,i<n→j<n→EqN k D t i j→EqN k D (t+u) i j:=by
    intro u
    induction u with
    | zero=>exact fun i j _ _ h=>h
    | succ u ih =>
      intro i j hi hj he
      rw [← Nat.add_assoc]
      refine (h.eqS hi hj).2 ⟨ih i j hi hj he,fun s hs2=>ih _ _ (h.lt i s hi hs2) (h.lt j s hj hs2) ?_⟩
      exact ((h.eqS hi hj).1 (hs i j hi hj he)).2 s hs2
  funext v
  refine propext ⟨fun hv => ?_,fun hv => ?_⟩
  · exact (all v.length i j hi hj he v (by omega) (h.ok i v hi hv)).1 hv
  · exact (all v.length i j hi hj he v (by omega) (h.ok j v hj hv)).2 hv
theorem eqN_of {t i j:Nat} (h:D i=D j):EqN k D t i j:=fun v _ _=>by rw [h]
def cls (c:Nat→Nat) (n:Nat):List Nat:=(List.range n).filter fun i=>decide (∀ j,j<i→c j ≠ c i)
theorem cls_mem {c:Nat→Nat} {n i:Nat}:i ∈ cls c n ↔ i<n∧∀ j,j<i→c j ≠ c i:=by
  unfold cls
  rw [List.mem_filter,List.mem_range,decide_eq_true_eq]
theorem cls_nodup {c:Nat→Nat} {n:Nat}:(cls c n).Nodup:=List.Pairwise.filter _ List.nodup_range
theorem cls_ex {c:Nat→Nat} {n i:Nat} (h:i<n) : ∃ r,r ∈ cls c n∧r≤i∧c r=c i:=by
  induction i using Nat.strongRecOn with
  | _ i ih =>
    by_cases hx : ∃ j,j<i∧c j=c i
    · obtain ⟨j,h1,h2⟩:=hx
      obtain ⟨r,r1,r2,r3⟩:=ih j h1 (by omega)
      exact ⟨r,r1,by omega,r3.trans h2⟩
    · exact ⟨i,cls_mem.2 ⟨h,fun j hj e=>hx ⟨j,hj,e⟩⟩,Nat.le_refl _,rfl⟩
theorem cls_inj {c:Nat→Nat} {n a b:Nat} (ha:a ∈ cls c n) (hb:b ∈ cls c n) (h:c a=c b):a=b:=by
  rcases Nat.lt_trichotomy a b with hl|hl|hl
  · exact absurd h ((cls_mem.1 hb).2 a hl)
  · exact hl
  · exact absurd h.symm ((cls_mem.1 ha).2 b hl)
theorem cls_sub {c c':Nat→Nat} {n:Nat} (hr:∀ i j,i<n→j<n→c' i=c' j→c i=c j):∀ r,r ∈ cls c n→r ∈ cls c' n:=fun r hr2=>by
  obtain ⟨h1,h2⟩:=cls_mem.1 hr2
  exact cls_mem.2 ⟨h1,fun j hj e=>h2 j hj (hr j r (by omega) h1 e)⟩
theorem cls_le {c c':Nat→Nat} {n:Nat} (hr:∀ i j,i<n→j<n→c' i=c' j→c i=c j):(cls c n).length≤(cls c' n).length :=
  List.Nodup.length_le_of_subset cls_nodup fun r h=>cls_sub hr r h
theorem cls_eq {c c':Nat→Nat} {n:Nat} (hr:∀ i j,i<n→j<n→c' i=c' j→c i=c j) (hl:(cls c' n).length≤(cls c n).length) {i j:Nat} (hi:i<n) (hj:j<n) (h:c i=c j):c' i=c' j:=by
  have back:∀ r,r ∈ cls c' n→r ∈ cls c n:=fun r hr2=>by
    apply Classical.byContradiction
    intro hn
    have h1:(r::cls c n).Nodup:=List.nodup_cons.2 ⟨hn,cls_nodup⟩
    have h2:=List.Nodup.length_le_of_subset h1 (l₂:=cls c' n) fun x hx=>by
      rcases List.mem_cons.1 hx with rfl|hx
      · exact hr2
      · exact cls_sub hr x hx
    rw [List.length_cons] at h2
    omega
  obtain ⟨a,a1,a2,a3⟩:=cls_ex (c:=c') hi
  obtain ⟨b,b1,b2,b3⟩:=cls_ex (c:=c') hj
  have e1:=hr a i (by omega) hi a3
  have e2:=hr b j (by omega) hj b3
  have:a=b:=cls_inj (back a a1) (back b b1) (by rw [e1,e2,h])
  rw [← a3,← b3,this]
theorem cls_len {c:Nat→Nat} {n:Nat}:(cls c n).length≤n:=Nat.le_trans (List.length_filter_le _ _) (by simp)
theorem cls_pos {c:Nat→Nat} {n:Nat} (h:0<n):0<(cls c n).length:=List.length_pos_of_mem (cls_mem.2 ⟨h,fun j hj=>absurd hj (Nat.not_lt_zero _)⟩)
def ClE (k:Nat) (D:Nat→Lg) (n t:Nat) (c:Nat→Nat):Prop:=∀ i j,i<n→j<n→(c i=c j ↔ EqN k D t i j)
theorem ClE.same (h:DF L k n nx fi D) {t:Nat} {c c':Nat→Nat} (hc:ClE k D n t c) (hc':ClE k D n (t+1) c') (hl:(cls c' n).length≤(cls c n).length) {i j:Nat} (hi:i<n) (hj:j<n):c' i=c' j ↔ D i=D j:=by
  have hr:∀ i j,i<n→j<n→c' i=c' j→c i=c j:=fun i j hi hj e=>(hc i j hi hj).2 (((hc' i j hi hj).1 e).mono (Nat.le_succ _))
  have hst:∀ i j,i<n→j<n→EqN k D t i j→EqN k D (t+1) i j:=fun i j hi hj e=>(hc' i j hi hj).1 (cls_eq hr hl hi hj ((hc i j hi hj).2 e))
  exact ⟨fun e=>h.stable hst hi hj (((hc' i j hi hj).1 e).mono (Nat.le_succ _)),fun e=>(hc' i j hi hj).2 (eqN_of e)⟩
theorem ClE.lt {t:Nat} {c c':Nat→Nat} (hc:ClE k D n t c) (hc':ClE k D n (t+1) c'):(cls c n).length≤(cls c' n).length :=
  cls_le fun i j hi hj e=>(hc i j hi hj).2 (((hc' i j hi hj).1 e).mono (Nat.le_succ _))
open Classical in
noncomputable def lE (k:Nat) (D:Nat→Lg) (t i:Nat):Nat:=((List.range (i+1)).filter fun j=>decide (EqN k D t j i)).headD i
theorem lE_spec {t i : Nat} : lE k D t i ≤ i ∧ EqN k D t (lE k D t i) i ∧ ∀ j, j < lE k D t i → ¬ EqN k D t j i := by
  classical
  have main:∀ m,m≤i+1→(∀ j,j<i+1 - m→¬ EqN k D t j i)→let r:=((List.range' (i+1 - m) m).filter fun j=>decide (EqN k D t j i)).headD i;r≤i∧EqN k D t r i∧∀ j,j<r→¬ EqN k D t j i:=by
    intro m
    induction m with
    | zero =>
      intro _ hno
      exact absurd EqN.rfl' (hno i (by omega))
    | succ m ih =>
      intro hm hno
      rw [List.range'_succ]
      by_cases he:EqN k D t (i+1 - (m+1)) i
      · rw [List.filter_cons_of_pos (by simpa using he),List.headD_cons]
        exact ⟨by omega,he,hno⟩
      · rw [List.filter_cons_of_neg (by simpa using he)]
        have e:i+1 - (m+1)+1=i+1 - m:=by omega
        rw [e]
        refine ih (by omega) fun j hj => ?_
        by_cases e2:j=i+1 - (m+1)
        · rw [e2];exact he
        · exact hno j (by omega)
  have:=main (i+1) (Nat.le_refl _) (fun j hj=>by omega)
  rw [Nat.sub_self,← List.range_eq_range'] at this
  exact this
theorem lE_cl {t:Nat}:ClE k D n t (lE k D t):=fun i j hi hj=>by
  obtain ⟨a1,a2,a3⟩:=@lE_spec k D t i
  obtain ⟨b1,b2,b3⟩:=@lE_spec k D t j
  constructor
  · intro e;exact (a2.symm).trans (e ▸ b2)
  · intro e
    rcases Nat.lt_trichotomy (lE k D t i) (lE k D t j) with hl|hl|hl
    · exact absurd (a2.trans e) (b3 _ hl)
    · exact hl
    · exact absurd (b2.trans e.symm) (a3 _ hl)
theorem lE_of {t i r:Nat} (h1:EqN k D t r i) (h2:∀ j,j<r→¬ EqN k D t j i):lE k D t i=r:=by
  obtain ⟨a1,a2,a3⟩:=@lE_spec k D t i
  rcases Nat.lt_trichotomy (lE k D t i) r with hl|hl|hl
  · exact absurd a2 (h2 _ hl)
  · exact hl
  · exact absurd h1 (a3 _ hl)
theorem DF.enough (h : DF L k n nx fi D) {i j : Nat} (hi : i < n) (hj : j < n) : EqN k D n i j ↔ D i = D j := by
  refine ⟨fun he => ?_,eqN_of⟩
  have hcon:∀ q,q≤n→(∃ p,p<q∧(cls (lE k D (p+1)) n).length≤(cls (lE k D p) n).length)∨q+1≤(cls (lE k D q) n).length:=by
    intro q
    induction q with
    | zero=>exact fun _=>.inr (cls_pos h.pos)
    | succ q ih =>
      intro hq
      rcases ih (by omega) with ⟨p,h1,h2⟩|h1
      · exact .inl ⟨p,by omega,h2⟩
      · by_cases hs:(cls (lE k D (q+1)) n).length≤(cls (lE k D q) n).length
        · exact .inl ⟨q,by omega,hs⟩
        · right;omega
  rcases hcon n (Nat.le_refl _) with ⟨p,p1,p2⟩|hcl
  · have hs:=ClE.same h (lE_cl (n:=n) (t:=p)) lE_cl p2 hi hj
    exact hs.1 ((lE_cl (n:=n) i j hi hj).2 (he.mono (by omega)))
  · have:=@cls_len (lE k D n) n
    omega
open Classical in
noncomputable def idxL (F:List Lg) (X:Lg):Nat:=F.findIdx fun Y=>decide (Y=X)
open Classical in
noncomputable def pushL (F:List Lg) (X:Lg):List Lg:=if X ∈ F then F else F++[X]
open Classical in
theorem idxL_lt {F:List Lg} {X:Lg}:idxL F X<F.length ↔ X ∈ F:=by
  unfold idxL
  rw [List.findIdx_lt_length]
  exact ⟨fun ⟨Y,h1,h2⟩=>of_decide_eq_true h2 ▸ h1,fun h=>⟨X,h,decide_eq_true rfl⟩⟩
open Classical in
theorem idxL_get {F:List Lg} {X:Lg} (h:X ∈ F):F.getD (idxL F X) noL=X:=by
  have hl:=idxL_lt.2 h
  have:=@List.findIdx_getElem _ (fun Y=>decide (Y=X)) F hl
  rw [List.getD_eq_getElem?_getD,List.getElem?_eq_getElem hl]
  exact of_decide_eq_true this
theorem getD_memL {F:List Lg} {i:Nat} (h:i<F.length):F.getD i noL ∈ F:=by
  rw [List.getD_eq_getElem?_getD,List.getElem?_eq_getElem h];exact List.getElem_mem h
theorem idxL_of {F:List Lg} {X:Lg} (hn:F.Nodup) {i:Nat} (hi:i<F.length) (h:F.getD i noL=X):idxL F X=i:=by
  have hm:X ∈ F:=h ▸ getD_memL hi
  have hl:=idxL_lt.2 hm
  have e:=(idxL_get hm).trans h.symm
  rw [List.getD_eq_getElem?_getD,List.getD_eq_getElem?_getD,List.getElem?_eq_getElem hl,List.getElem?_eq_getElem hi] at e
  have hp:=List.pairwise_iff_getElem.1 (List.nodup_iff_pairwise_ne.1 hn)
  simp only [Option.getD_some] at e
  rcases Nat.lt_trichotomy (idxL F X) i with hlt|heq|hlt
  · exact absurd e (hp _ _ hl hi hlt)
  · exact heq
  · exact absurd e.symm (hp _ _ hi hl hlt)
noncomputable def bfL (L:Lg) (k:Nat):Nat→List Lg
  | 0=>[L]
  | t+1=>if t / k<(bfL L k t).length then pushL (bfL L k t) (dvL ((bfL L k t).getD (t / k) noL) (t % k)) else bfL L k t
theorem bfL_succ {t:Nat}:bfL L k (t+1)=if t / k<(bfL L k t).length then pushL (bfL L k t) (dvL ((bfL L k t).getD (t / k) noL) (t % k)) else bfL L k t:=rfl
theorem bfL_pre {t:Nat} : ∃ G,bfL L k (t+1)=bfL L k t++G:=by
  rw [bfL_succ]
  split
  · unfold pushL
    split
    · exact ⟨[],by simp⟩
    · exact ⟨_,rfl⟩
  · exact ⟨[],by simp⟩
theorem bfL_mono {t u:Nat} (h:t≤u) : ∃ G,bfL L k u=bfL L k t++G:=by
  obtain ⟨d,rfl⟩ : ∃ d,u=t+d:=⟨u - t,by omega⟩
  clear h
  induction d with
  | zero=>exact ⟨[],by simp⟩
  | succ d ih =>
    obtain ⟨G,e⟩:=ih
    obtain ⟨G2,e2⟩:=@bfL_pre L k (t+d)
    exact ⟨G++G2,by rw [← Nat.add_assoc,e2,e,List.append_assoc]⟩
theorem bfL_nodup {t : Nat} : (bfL L k t).Nodup := by
  induction t with
  | zero=>simp [bfL]
  | succ t ih =>
    rw [bfL_succ]
    split
    · unfold pushL
      split
      · exact ih
      · next h =>
        rw [List.nodup_append]
        exact ⟨ih,by simp,fun a ha b hb e=>by rw [List.mem_singleton.1 hb] at e;exact h (e ▸ ha)⟩
    · exact ih
theorem bfL_pos {t:Nat}:0<(bfL L k t).length:=by
  obtain ⟨G,e⟩:=bfL_mono (L:=L) (k:=k) (Nat.zero_le t)
  rw [e];simp [bfL]
theorem bfL_zero {t:Nat}:(bfL L k t).getD 0 noL=L:=by
  obtain ⟨G,e⟩:=bfL_mono (L:=L) (k:=k) (Nat.zero_le t)
  rw [e];simp [bfL]
theorem DF.found (h : DF L k n nx fi D) (hk : 0 < k) {t : Nat} : ∀ X, X ∈ bfL L k t → ∃ i, i < n ∧ D i = X := by
  induction t with
  | zero=>intro X hX;simp [bfL] at hX;exact ⟨0,h.pos,by rw [hX];exact h.st⟩
  | succ t ih =>
    intro X hX
    rw [bfL_succ] at hX
    split at hX
    · next hl =>
      unfold pushL at hX
      split at hX
      · exact ih X hX
      · rcases List.mem_append.1 hX with hX|hX
        · exact ih X hX
        · rw [List.mem_singleton.1 hX]
          have hm:(bfL L k t).getD (t / k) noL ∈ bfL L k t:=by
            rw [List.getD_eq_getElem?_getD,List.getElem?_eq_getElem hl];exact List.getElem_mem hl
          obtain ⟨i,i1,i2⟩:=ih _ hm
          have hs:t % k<k:=Nat.mod_lt _ hk
          exact ⟨nx i (t % k),h.lt i _ i1 hs,by rw [h.nxt i _ i1 hs,i2]⟩
    · exact ih X hX
theorem bf_all (hk : 0 < k) {m : Nat} (hm : (bfL L k (m * k)).length ≤ m) (w : List Nat) (hw : ∀ c, c ∈ w → c < k) : w.foldl dvL L ∈ bfL L k (m * k) := by
  have step : ∀ X s, X ∈ bfL L k (m * k) → s < k → dvL X s ∈ bfL L k (m * k) := by
    intro X s hX hs
    have hi:=idxL_lt.2 hX
    have hg:=idxL_get hX
    generalize idxL (bfL L k (m * k)) X=i at hi hg
    have hle:i * k+s+1≤m * k:=by
      have:(i+1) * k≤m * k:=Nat.mul_le_mul_right k (by omega)
      rw [Nat.add_mul,Nat.one_mul] at this
      omega
    -- X is there when its turn comes
    have hdiv:(i * k+s) / k=i:=by rw [Nat.mul_comm,Nat.mul_add_div hk,Nat.div_eq_of_lt hs,Nat.add_zero]
    have hmod:(i * k+s) % k=s:=by rw [Nat.mul_comm,Nat.mul_add_mod,Nat.mod_eq_of_lt hs]
    by_cases hin:i<(bfL L k (i * k+s)).length
    · obtain ⟨G,e⟩:=bfL_mono (L:=L) (k:=k) hle
      obtain ⟨G2,e2⟩:=bfL_mono (L:=L) (k:=k) (show i * k+s≤m * k by omega)
      have hX2:(bfL L k (i * k+s)).getD i noL=X:=by
        rw [← hg,e2,List.getD_eq_getElem?_getD,List.getD_eq_getElem?_getD,List.getElem?_append_left hin]
      rw [e]
      refine List.mem_append.2 (.inl ?_)
      rw [bfL_succ,hdiv,hmod,if_pos hin,hX2]
      unfold pushL
      split
      · assumption
      · exact List.mem_append.2 (.inr (by simp))
    · -- then it was not found later on
      have stop:∀ d,bfL L k (i * k+s+d)=bfL L k (i * k+s):=by
        intro d
        induction d with
        | zero=>rfl
        | succ d ih =>
          rw [← Nat.add_assoc,bfL_succ,ih,if_neg]
          have:i≤(i * k+s+d) / k:=by
            rw [Nat.le_div_iff_mul_le hk];omega
          omega
      have:=stop (m * k - (i * k+s))
      rw [show i * k+s+(m * k - (i * k+s))=m * k by omega] at this
      rw [this] at hi
      exact absurd hi hin
  have main:∀ (w:List Nat) (X:Lg),X ∈ bfL L k (m * k)→(∀ c,c ∈ w→c<k)→w.foldl dvL X ∈ bfL L k (m * k):=by
    intro w
    induction w with
    | nil=>exact fun X hX _=>hX
    | cons s w ih=>exact fun X hX hw=>ih _ (step X s hX (hw s (by simp))) fun c hc=>hw c (List.mem_cons_of_mem _ hc)
  refine main w L ?_ hw
  have h0:=@bfL_zero L k (m * k)
  have h1:=@bfL_pos L k (m * k)
  have:=getD_memL h1
  rwa [h0] at this
theorem DF.few (h:DF L k n nx fi D) (hk:0<k) {c:Nat→Nat} (hc:∀ i j,i<n→j<n→(c i=c j ↔ D i=D j)) {t:Nat}:(bfL L k t).length≤(cls c n).length:=by
  have:=List.Nodup.length_le_of_subset (@bfL_nodup L k t) (l₂:=(cls c n).map D) fun X hX=>by
    obtain ⟨i,i1,i2⟩:=h.found hk X hX
    obtain ⟨r,r1,r2,r3⟩:=cls_ex (c:=c) i1
    exact List.mem_map.2 ⟨r,r1,by rw [(hc r i (by omega) i1).1 r3,i2]⟩
  rwa [List.length_map] at this
theorem DF.all (h:DF L k n nx fi D) (hk:0<k) {c:Nat→Nat} (hc:∀ i j,i<n→j<n→(c i=c j ↔ D i=D j)) {m:Nat} (hm:(bfL L k (m * k)).length≤m):(cls c n).length≤(bfL L k (m * k)).length:=by
  have hn:((cls c n).map D).Nodup:=by
    rw [List.nodup_iff_pairwise_ne]
    rw [List.pairwise_map]
    refine List.Pairwise.imp_of_mem ?_ (List.nodup_iff_pairwise_ne.1 (@cls_nodup c n))
    intro a b ha hb hne e
    have h1:=cls_mem.1 ha
    have h2:=cls_mem.1 hb
    exact hne (cls_inj ha hb ((hc a b h1.1 h2.1).2 e))
  have:=List.Nodup.length_le_of_subset hn (l₂:=bfL L k (m * k)) fun X hX=>by
    obtain ⟨i,i1,rfl⟩:=List.mem_map.1 hX
    obtain ⟨w,w1,w2⟩:=h.rch i (cls_mem.1 i1).1
    rw [w2];exact bf_all hk hm w w1
  rwa [List.length_map] at this
end
end Go.Dm

namespace Go.Proofs.Ytpgomgjpliallaa
open Go.Dm
structure Gf (k:Int) (l:List Dm.Node) (g:Gl):Prop where
  n:0<g.syms.length∧g.syms.length≤257
  fo:∀ p q,p<g.syms.length→g.fol p q=true→0<q∧q<g.syms.length
  pw:∀ c w q,Pth g.fol g.syms 0 (c::w) q ↔ ∃ r,q=1+r∧(rx l (l.length - 1)).R (c::w) r
  tk:∀ w,(∃ q,Pth g.fol g.syms 0 w q∧g.last q=true) ↔ lang l (l.length - 1) w
theorem gf_of {k : Int} {l : List Dm.Node} (hv : NodesOk k l) (hl : 0 < l.length) {x : Ps} {u : Au} (h : Bl l (l.length - 1) au0 x u) (hn : u.syms.length ≤ 257) : Gf k l (glOf x u) := by
  have hi:l.length - 1<l.length:=by omega
  have gk:=bl_gk hv h hi
  obtain ⟨e,gr⟩:=bl_rx hv h hi
  have a1:au0.syms.length=1:=rfl
  have hlen:u.syms.length=1+(rx l (l.length - 1)).s.length:=by rw [e,List.length_append,a1]
  have hfo:∀ p q,p<u.syms.length→(if p=0 then x.first else u.fol p) q=true→0<q∧q<u.syms.length:=fun p q hp hf=>by
    by_cases h0:p=0
    · rw [if_pos h0] at hf
      have:=gk.fi q hf
      omega
    · rw [if_neg h0] at hf
      have:=gk.hi p q (by omega) hp hf
      omega
  have hgl:∀ p q,1≤p→(if p=0 then x.first else u.fol p) q=u.fol p q:=fun p q h=>by rw [if_neg (by omega)]
  -- a path with a symbol at least begins at a first position
  have first:∀ c w q,Pth (glOf x u).fol (glOf x u).syms 0 (c::w) q ↔ ∃ p,x.first p=true∧u.syms.getD p 0=c∧Pth u.fol u.syms p w q∧1≤q:=by
    intro c w q
    constructor
    · intro hp
      cases hp with
      | @cons _ p _ _ _ h1 hc t =>
        have h1:x.first p=true:=h1
        have hpf:=gk.fi p h1
        have hcg:=t.congr (g:=u.fol) (t:=u.syms) (R:=fun p=>1≤p∧p<u.syms.length) (fun p q hp h=>by have:=hfo p q hp.2 h;omega) (fun p q hp h=>by rw [← hgl p q hp.1];exact h) (fun _ _=>rfl) ⟨by omega,hpf.2⟩
        exact ⟨p,h1,hc,hcg.1,hcg.2.1⟩
    · rintro ⟨p,k1,k2,k3,_⟩
      have hpf:=gk.fi p k1
      have hcg:=k3.congr (g:=(glOf x u).fol) (t:=u.syms) (R:=fun p=>1≤p∧p<u.syms.length) (fun p q hp h=>by have:=gk.hi p q (by omega) hp.2 h;omega) (fun p q hp h=>by show (if p=0 then x.first else u.fol p) q=true;rw [hgl p q hp.1];exact h) (fun _ _=>rfl) ⟨by omega,hpf.2⟩
      exact .cons (by exact k1) k2 hcg.1
  refine ⟨by show 0<u.syms.length∧u.syms.length≤257;omega,hfo,fun c w q => ?_,fun w => ?_⟩
  · rw [first]
    constructor
    · rintro ⟨p,k1,k2,k3,_⟩
      exact (gr c w q).1 ⟨p,k1,k2,k3⟩
    · rintro ⟨r,r1,r2⟩
      obtain ⟨p,k1,k2,k3⟩:=(gr c w q).2 ⟨r,r1,r2⟩
      exact ⟨p,k1,k2,k3,by omega⟩
  · cases w with
    | nil =>
      have hla0:x.last 0=false:=by
        rw [← Bool.not_eq_true]
        intro h;have:=gk.la 0 h;omega
      constructor
      · rintro ⟨q,hp,hq⟩
        cases hp
        rw [← ebB_iff,← gk.em]
        simp only [glOf] at hq
        split at hq
        · assumption
        · rw [hla0] at hq;cases hq
      · intro ht
        have he:x.empty=true:=by rw [gk.em,ebB_iff];exact ht
        refine ⟨0,.nil 0,?_⟩
        simp only [glOf]
        rw [if_pos he]
        unfold gAdd;simp
    | cons c w =>
      rw [gk.ac]
      constructor
      · rintro ⟨q,hp,hq⟩
        obtain ⟨p,k1,k2,k3,k4⟩:=(first c w q).1 hp
        refine ⟨p,q,k1,k2,k3,?_⟩
        simp only [glOf] at hq
        split at hq
        · unfold gAdd at hq
          rw [Bool.or_eq_true] at hq
          rcases hq with hq|hq
          · exact hq
          · have:=of_decide_eq_true hq;omega
        · exact hq
      · rintro ⟨p,q,k1,k2,k3,k4⟩
        have hq:=gk.la q k4
        refine ⟨q,(first c w q).2 ⟨p,k1,k2,k3,by omega⟩,?_⟩
        simp only [glOf]
        split
        · unfold gAdd;rw [k4];rfl
        · exact k4
theorem nodup_lt {B:Nat} {l:List Nat} (hn:l.Nodup) (h:∀ x,x ∈ l→x<B):l.length≤B:=by
  have:=List.Nodup.length_le_of_subset hn (l₂:=List.range B) fun x hx=>List.mem_range.2 (h x hx)
  rwa [List.length_range] at this
theorem Pth.split {f:Nat→Nat→Bool} {s:List Int} {r:Nat} {v w:List Int}:∀ {p:Nat},Pth f s p (v++w) r → ∃ q,Pth f s p v q∧Pth f s q w r:=by
  induction v with
  | nil=>exact fun h=>⟨_,.nil _,h⟩
  | cons c v ih =>
    intro p h
    cases h with
    | cons h hc t =>
      obtain ⟨q,q1,q2⟩:=ih t
      exact ⟨q,.cons h hc q1,q2⟩
section
variable {k:Int} {l:List Dm.Node} {g:Gl}
theorem Gf.lt (h:Gf k l g) {w:List Int} {q:Nat} (hp:Pth g.fol g.syms 0 w q):q<g.syms.length:=by
  have:∀ {p q:Nat} {w:List Int},p<g.syms.length→Pth g.fol g.syms p w q→q<g.syms.length:=by
    clear hp
    intro p q w hp0 hp
    induction hp with
    | nil _=>exact hp0
    | cons h1 _ _ ih=>exact ih (h.fo _ _ hp0 h1).2
  exact this h.n.1 hp
open Classical in
noncomputable def setW (g:Gl) (w:List Int) (q:Nat):Bool:=decide (Pth g.fol g.syms 0 w q)
open Classical in
theorem setW_iff {w:List Int} {q:Nat}:setW g w q=true ↔ Pth g.fol g.syms 0 w q:=by unfold setW;exact decide_eq_true_iff
theorem setW_nil:setW g []=gAdd (fun _=>false) 0:=funext fun q=>by
  rw [Bool.eq_iff_iff,setW_iff]
  unfold gAdd
  simp only [Bool.false_or,decide_eq_true_eq]
  exact ⟨fun h=>by cases h;rfl,fun h=>h ▸ .nil _⟩
theorem Gf.go (h:Gf k l g) {w:List Int} {c:Int}:sGo g (setW g w) c=setW g (w++[c]):=funext fun q=>by
  rw [Bool.eq_iff_iff,sGo_iff,setW_iff]
  constructor
  · rintro ⟨h1,h2,p,h3,h4,h5⟩
    exact (setW_iff.1 h4).snoc h5 h2
  · intro hp
    obtain ⟨p,p1,p2⟩:=hp.split
    cases p2 with
    | cons h5 h2 t =>
      cases t
      exact ⟨h.lt hp,h2,p,h.lt p1,setW_iff.2 p1,h5⟩
theorem Gf.meet (h:Gf k l g) {w:List Int}:gMeet (setW g w) g.last=true ↔ lang l (l.length - 1) w:=by
  rw [← h.tk w]
  unfold gMeet
  rw [List.any_eq_true]
  constructor
  · rintro ⟨q,h1,h2⟩
    rw [Bool.and_eq_true] at h2
    exact ⟨q,setW_iff.1 h2.1,h2.2⟩
  · rintro ⟨q,h1,h2⟩
    have:=h.lt h1
    have:=h.n.2
    exact ⟨q,List.mem_range.2 (by omega),by rw [setW_iff.2 h1,h2];rfl⟩
theorem Gf.ext (h:Gf k l g) {w w':List Int} (he:gsD (setW g w)=gsD (setW g w')):setW g w=setW g w':=funext fun q=>by
  have hb:∀ i,i<5→gwN (setW g w) i=gwN (setW g w') i:=by
    simp only [gsD_eq,List.cons.injEq,D.v.injEq,Value.int.injEq,true_and,and_true,Int.ofNat_inj] at he
    obtain ⟨h0,h1,h2,h3,h4⟩:=he
    intro i hi
    have h5:i=0∨i=1∨i=2∨i=3∨i=4:=by omega
    rcases h5 with rfl|rfl|rfl|rfl|rfl<;>assumption
  by_cases hq:q<320
  · have:=congrArg (fun m=>m.testBit (q % 64)) (hb (q / 64) (by omega))
    rw [gw_bit (by omega),gw_bit (by omega),show 64 * (q / 64)+q % 64=q by omega] at this
    exact this
  · have no:∀ w,setW g w q=false:=fun w=>by
      rw [← Bool.not_eq_true,setW_iff]
      intro hp
      have:=h.lt hp
      have:=h.n.2
      omega
    rw [no,no]
theorem Gf.same (h:Gf k l g) {w w':List Int} (he:setW g w=setW g w') (v:List Int):lang l (l.length - 1) (w++v) ↔ lang l (l.length - 1) (w'++v):=by
  have one:∀ {w w':List Int},setW g w=setW g w'→lang l (l.length - 1) (w++v)→lang l (l.length - 1) (w'++v):=by
    intro w w' he hw
    obtain ⟨q,q1,q2⟩:=(h.tk _).2 hw
    obtain ⟨p,p1,p2⟩:=q1.split
    refine (h.tk _).1 ⟨q,Pth.app ?_ p2,q2⟩
    rw [← setW_iff,← he,setW_iff];exact p1
  exact ⟨one he,one he.symm⟩
theorem Gf.det (h:Gf k l g):∀ w w' v,w ≠ []→w' ≠ []→(∀ q,(rx l (l.length - 1)).R w q ↔ (rx l (l.length - 1)).R w' q)→∀ q,(rx l (l.length - 1)).R (w++v) q→(rx l (l.length - 1)).R (w'++v) q:=by
  have conv:∀ {w:List Int},w ≠ []→∀ q,Pth g.fol g.syms 0 w q ↔ ∃ r,q=1+r∧(rx l (l.length - 1)).R w r:=by
    intro w hw q
    cases w with
    | nil=>exact absurd rfl hw
    | cons c w=>exact h.pw c w q
  intro w w' v hw hw' he q hq
  have hne:∀ {w:List Int},w ≠ []→w++v ≠ []:=fun hw e=>hw (List.append_eq_nil_iff.1 e).1
  obtain ⟨p,p1,p2⟩:=((conv (hne hw) (1+q)).2 ⟨q,rfl,hq⟩).split
  obtain ⟨r,r1,r2⟩:=(conv hw p).1 p1
  have p3:=(conv hw' p).2 ⟨r,r1,(he r).1 r2⟩
  obtain ⟨r',r3,r4⟩:=(conv (hne hw') (1+q)).1 (p3.app p2)
  rwa [show q=r' by omega]
theorem Gf.few (h : Gf k l g) (hv : NodesOk k l) (hk : k ≤ 3) (hl : 0 < l.length ∧ l.length ≤ 9) {ws : List (List Int)} (hd : ∀ a b, a < ws.length → b < ws.length → setW g (ws.getD a []) = setW g (ws.getD b []) → a = b) : ws.length ≤ 3298534883330 := by
  obtain ⟨f,f1,f2⟩:=rx_few hv hk hl h.det
  have hn:(((List.range ws.length).filter fun a=>decide (ws.getD a [] ≠ [])).map fun a=>f (ws.getD a [])).Nodup:=by
    rw [List.nodup_iff_pairwise_ne,List.pairwise_map]
    refine List.Pairwise.imp_of_mem ?_ (List.nodup_iff_pairwise_ne.1 (List.Pairwise.filter _ (List.nodup_range (n:=ws.length))))
    intro a b ha hb hne e
    obtain ⟨a1,a2⟩:=List.mem_filter.1 ha
    obtain ⟨b1,b2⟩:=List.mem_filter.1 hb
    have a2:=of_decide_eq_true a2
    have b2:=of_decide_eq_true b2
    refine hne (hd a b (List.mem_range.1 a1) (List.mem_range.1 b1) (funext fun q => ?_))
    have hR:=f2 _ _ e
    rw [Bool.eq_iff_iff,setW_iff,setW_iff]
    generalize ws.getD a []=w at *
    generalize ws.getD b []=w' at *
    cases w with
    | nil=>exact absurd rfl a2
    | cons c w =>
      cases w' with
      | nil=>exact absurd rfl b2
      | cons c' w' =>
        rw [h.pw,h.pw]
        exact ⟨fun ⟨r,r1,r2⟩=>⟨r,r1,(hR r).1 r2⟩,fun ⟨r,r1,r2⟩=>⟨r,r1,(hR r).2 r2⟩⟩
  have h1:=nodup_lt (B:=1+3 * 2 ^ 40) hn fun x hx=>by
    obtain ⟨a,_,rfl⟩:=List.mem_map.1 hx
    exact f1 _
  rw [List.length_map] at h1
  have h2 : ∀ n, n ≤ ws.length → n ≤ ((List.range n).filter fun a => decide (ws.getD a [] ≠ [])).length + 1 ∧ ((∀ a, a < n → ws.getD a [] ≠ []) → n ≤ ((List.range n).filter fun a => decide (ws.getD a [] ≠ [])).length) := by
    intro n
    induction n with
    | zero=>exact fun _=>⟨Nat.zero_le _,fun _=>Nat.zero_le _⟩
    | succ n ih =>
      intro hn
      obtain ⟨i1,i2⟩:=ih (by omega)
      rw [List.range_succ,List.filter_append,List.length_append]
      by_cases e:ws.getD n []=[]
      · have hno:∀ a,a<n→ws.getD a [] ≠ []:=fun a ha e2=>by
          have:=hd a n (by omega) (by omega) (by rw [e,e2]);omega
        have:=i2 hno
        refine ⟨by omega,fun hx=>absurd e (hx n (Nat.lt_succ_self n))⟩
      · rw [List.filter_cons_of_pos (by simpa using e),List.filter_nil,List.length_singleton]
        exact ⟨by omega,fun hx=>by have:=i2 (fun a ha=>hx a (by omega));omega⟩
  have:=(h2 ws.length (Nat.le_refl _)).1
  rw [show (2:Nat) ^ 40=1099511627776 by decide] at h1
  omega
end
end Go.Proofs.Ytpgomgjpliallaa

namespace Go.Proofs.Ytpgomgjpliallaa
open Go.Dm
def rwN (n:Nat) (R:Nat→Nat):List Int:=tab n fun b=>((R b:Nat):Int)
theorem rwN_len {n:Nat} {R:Nat→Nat}:(rwN n R).length=n:=by simp [rwN,tab]
theorem rwN_take {n:Nat} {R:Nat→Nat}:(rwN n R).take n=rwN n R:=List.take_of_length_le (by simp [rwN,tab])
theorem rwN_set {n to r:Nat} {R:Nat→Nat}:(rwN n R).set to ((r:Nat):Int)=rwN n fun b=>if b=to then r else R b:=by
  apply List.ext_getElem
  · simp [rwN,tab]
  · intro b h1 h2
    simp only [rwN,tab,List.getElem_set,List.getElem_map,List.getElem_range]
    by_cases e:to=b
    · rw [if_pos e,if_pos e.symm]
    · rw [if_neg e,if_neg fun h=>e h.symm]
theorem rwN_getD {n b:Nat} {R:Nat→Nat} (h:b<n):(rwN n R).getD b 0=R b:=by simp [rwN,tab,List.getD_eq_getElem?_getD,h]
theorem rwN_get {n b:Nat} {R:Nat→Nat} (h:b<n):(i64s (rwN n R)).getD b []=[.v (.int .i64 ((R b:Nat):Int))]:=by simp [rwN,i64s,tab,List.getD_eq_getElem?_getD,h]
theorem viewO_rwN {n:Nat} {R:Nat→Nat}:viewO (some ⟨1,i64s (rwN n R),true,false,.arr⟩) 1 0 n=.sl 1 (i64s (rwN n R)):=viewO_all (by simp [rwN_len,i64s])
theorem rwN_rep {n:Nat}:(tab n fun _=>(0:Int))=rwN n fun _=>0:=rfl
noncomputable def suS (g:Gl) (ws:List (List Int)):List (List D):=ws.map fun w=>gsD (setW g w)
noncomputable def suE (g:Gl) (ws:List (List Int)) (i:Nat):List D:=[.v (.int .u64 (gwN (setW g (ws.getD i [])) 0)),.v (.int .u64 (gwN (setW g (ws.getD i [])) 1)),.v (.int .u64 (gwN (setW g (ws.getD i [])) 2)),.v (.int .u64 (gwN (setW g (ws.getD i [])) 3)),.v (.int .u64 (gwN (setW g (ws.getD i [])) 4)),iv .i64 i]
noncomputable def suM (g:Gl) (ws:List (List Int)):List (List D):=(List.range ws.length).map (suE g ws)
section
variable {k:Int} {l:List Dm.Node} {g:Gl} {ws:List (List Int)} {w:List Int} {i:Nat}
theorem suS_len:(suS g ws).length=ws.length:=by simp [suS]
theorem suS_take:(suS g ws).take ws.length=suS g ws:=List.take_of_length_le (by rw [suS_len];exact Nat.le_refl _)
theorem suS_get (h:i<ws.length):(suS g ws).getD i []=[.v (.int .u64 (gwN (setW g (ws.getD i [])) 0)),.v (.int .u64 (gwN (setW g (ws.getD i [])) 1)),.v (.int .u64 (gwN (setW g (ws.getD i [])) 2)),.v (.int .u64 (gwN (setW g (ws.getD i [])) 3)),.v (.int .u64 (gwN (setW g (ws.getD i [])) 4))]:=by
  simp [suS,List.getD_eq_getElem?_getD,h,gsD_eq]
theorem suS_app:suS g ws++[[.v (.int .u64 (gwN (setW g w) 0)),.v (.int .u64 (gwN (setW g w) 1)),.v (.int .u64 (gwN (setW g w) 2)),.v (.int .u64 (gwN (setW g w) 3)),.v (.int .u64 (gwN (setW g w) 4))]]=suS g (ws++[w]):=by simp [suS,gsD_eq]
theorem suM_len:(suM g ws).length=ws.length:=by simp [suM]
theorem suM_get (h:i<ws.length):(suM g ws).getD i []=suE g ws i:=by simp [suM,List.getD_eq_getElem?_getD,h]
theorem suM_app:suM g ws++[[.v (.int .u64 (gwN (setW g w) 0)),.v (.int .u64 (gwN (setW g w) 1)),.v (.int .u64 (gwN (setW g w) 2)),.v (.int .u64 (gwN (setW g w) 3)),.v (.int .u64 (gwN (setW g w) 4)),.v (.int .i64 (ws.length:Int))]]=suM g (ws++[w]):=by
  have h1:(ws++[w]).getD ws.length []=w:=by simp [List.getD_eq_getElem?_getD]
  unfold suM
  rw [List.length_append,List.length_singleton,List.range_succ,List.map_append,List.map_singleton]
  congr 1
  · refine List.map_congr_left fun i hi => ?_
    have:=List.mem_range.1 hi
    have:(ws++[w]).getD i []=ws.getD i []:=by simp only [List.getD_eq_getElem?_getD];rw [List.getElem?_append_left this]
    unfold suE
    rw [this]
  · unfold suE
    rw [h1]
theorem su_in {r:Nat} (hg:Gf k l g) (hr:r<(suM g ws).length) (he:Agr (((suM g ws).getD r []).take 5) [.v (.int .u64 (gwN (setW g w) 0)),.v (.int .u64 (gwN (setW g w) 1)),.v (.int .u64 (gwN (setW g w) 2)),.v (.int .u64 (gwN (setW g w) 3)),.v (.int .u64 (gwN (setW g w) 4))]):r<ws.length∧setW g (ws.getD r [])=setW g w∧(suM g ws).getD r []=suE g ws r:=by
  rw [suM_len] at hr
  rw [suM_get hr] at he ⊢
  simp only [suE,iv,List.take_succ_cons,List.take_zero,Agr_v,D.v.injEq,Value.int.injEq,true_and] at he
  obtain ⟨h0,h1,h2,h3,h4,_⟩:=he
  refine ⟨hr,hg.ext ?_,rfl⟩
  rw [gsD_eq,gsD_eq,h0,h1,h2,h3,h4]
theorem su_out (hno:∀ r,r<(suM g ws).length→((suM g ws).getD r []).take 5 ≠ [.v (.int .u64 (gwN (setW g w) 0)),.v (.int .u64 (gwN (setW g w) 1)),.v (.int .u64 (gwN (setW g w) 2)),.v (.int .u64 (gwN (setW g w) 3)),.v (.int .u64 (gwN (setW g w) 4))]) {a:Nat} (ha:a<ws.length):setW g (ws.getD a []) ≠ setW g w:=fun e=>by
  refine hno a (by rw [suM_len];exact ha) ?_
  rw [suM_get ha]
  unfold suE
  rw [e];rfl
structure SI (k:Int) (g:Gl) (ws:List (List Int)):Prop where
  st:0<ws.length∧ws.getD 0 []=[]
  inj:∀ a b,a<ws.length→b<ws.length→setW g (ws.getD a [])=setW g (ws.getD b [])→a=b
  ok:∀ a,a<ws.length→∀ c,c ∈ ws.getD a []→0≤c∧c<k
def RowOk (g:Gl) (ws:List (List Int)) (w:List Int) (m:Nat) (R:Nat→Nat):Prop:=∀ s:Nat,s<m→R s<ws.length∧setW g (ws.getD (R s) [])=setW g (w++[(s:Int)])
def NxOk (g:Gl) (ws:List (List Int)) (kk:Nat) (NX:List (List Int)) (i:Nat):Prop:=NX.length=i∧∀ a,a<i → ∃ R,NX.getD a []=rwN kk R∧RowOk g ws (ws.getD a []) kk R
def FiOk (g:Gl) (ws:List (List Int)) (FI:List Int) (i:Nat):Prop:=FI.length=i∧∀ a,a<i→FI.getD a 0=if gMeet (setW g (ws.getD a [])) g.last then 1 else 0
theorem getD_appL {α:Type} {l:List α} {x d:α} {a:Nat} (h:a<l.length):(l++[x]).getD a d=l.getD a d:=by simp only [List.getD_eq_getElem?_getD];rw [List.getElem?_append_left h]
theorem getD_appR {α:Type} {l:List α} {x d:α}:(l++[x]).getD l.length d=x:=by simp [List.getD_eq_getElem?_getD]
theorem SI.push (h : SI k g ws) (hw : ∀ c, c ∈ w → 0 ≤ c ∧ c < k) (hno : ∀ a, a < ws.length → setW g (ws.getD a []) ≠ setW g w) : SI k g (ws ++ [w]) := by
  have hl:(ws++[w]).length=ws.length+1:=by simp
  refine ⟨⟨by omega,by rw [getD_appL h.st.1];exact h.st.2⟩,fun a b ha hb e => ?_,fun a ha c hc => ?_⟩
  · rw [hl] at ha hb
    by_cases ea:a=ws.length
    · by_cases eb:b=ws.length
      · omega
      · rw [ea,getD_appR,getD_appL (by omega)] at e
        exact absurd e.symm (hno b (by omega))
    · by_cases eb:b=ws.length
      · rw [eb,getD_appR,getD_appL (by omega)] at e
        exact absurd e (hno a (by omega))
      · rw [getD_appL (by omega),getD_appL (by omega)] at e
        exact h.inj a b (by omega) (by omega) e
  · rw [hl] at ha
    by_cases ea:a=ws.length
    · rw [ea,getD_appR] at hc;exact hw c hc
    · rw [getD_appL (by omega)] at hc;exact h.ok a (by omega) c hc
theorem RowOk.app {v:List Int} {m:Nat} {R:Nat→Nat} (h:RowOk g ws v m R):RowOk g (ws++[w]) v m R:=fun s hs=>by
  obtain ⟨h1,h2⟩:=h s hs
  exact ⟨by rw [List.length_append];omega,by rw [getD_appL h1];exact h2⟩
theorem NxOk.app {kk:Nat} {NX:List (List Int)} (h:NxOk g ws kk NX i) (hi:i≤ws.length):NxOk g (ws++[w]) kk NX i:=⟨h.1,fun a ha=>by
  obtain ⟨R,r1,r2⟩:=h.2 a ha
  exact ⟨R,r1,by rw [getD_appL (by omega)];exact r2.app⟩⟩
theorem FiOk.app {FI:List Int} (h:FiOk g ws FI i) (hi:i≤ws.length):FiOk g (ws++[w]) FI i:=⟨h.1,fun a ha=>by rw [getD_appL (by omega)];exact h.2 a ha⟩
theorem RowOk.step {v:List Int} {m r:Nat} {R:Nat→Nat} (h:RowOk g ws v m R) (hr:r<ws.length) (he:setW g (ws.getD r [])=setW g (v++[(m:Int)])):RowOk g ws v (m+1) fun b=>if b=m then r else R b:=fun s hs=>by
  by_cases e:s=m
  · subst e;simp only [if_true];exact ⟨hr,he⟩
  · simp only [if_neg e];exact h s (by omega)
theorem NxOk.step {kk:Nat} {NX:List (List Int)} {R:Nat→Nat} (h:NxOk g ws kk NX i) (hR:RowOk g ws (ws.getD i []) kk R):NxOk g ws kk (NX++[rwN kk R]) (i+1):=by
  refine ⟨by simp [h.1],fun a ha => ?_⟩
  by_cases e:a=i
  · subst e
    exact ⟨R,by rw [← h.1,getD_appR],hR⟩
  · obtain ⟨R',r1,r2⟩:=h.2 a (by omega)
    exact ⟨R',by rw [getD_appL (by have:=h.1;omega)];exact r1,r2⟩
theorem FiOk.step {FI:List Int} {x:Int} (h:FiOk g ws FI i) (hx:x=if gMeet (setW g (ws.getD i [])) g.last then 1 else 0):FiOk g ws (FI++[x]) (i+1):=by
  refine ⟨by simp [h.1],fun a ha => ?_⟩
  by_cases e:a=i
  · subst e;rw [← h.1,getD_appR,h.1];exact hx
  · rw [getD_appL (by have:=h.1;omega)];exact h.2 a (by omega)
end
theorem su5 {f:Nat→Bool}:(0≤(gwN f 0:Int)∧(gwN f 0:Int)≤18446744073709551615)∧(0≤(gwN f 1:Int)∧(gwN f 1:Int)≤18446744073709551615)∧(0≤(gwN f 2:Int)∧(gwN f 2:Int)≤18446744073709551615)∧(0≤(gwN f 3:Int)∧(gwN f 3:Int)≤18446744073709551615)∧(0≤(gwN f 4:Int)∧(gwN f 4:Int)≤18446744073709551615):=⟨gwN_int,gwN_int,gwN_int,gwN_int,gwN_int⟩
def suR (k:Int) (l:List Dm.Node) (kk:Nat) (d:D):Prop := ∃ g ws NX FI,d=.ag [.sl 1 (rows i64s NX),.sl 1 (i64s FI)]∧Gf k l g∧SI k g ws∧NxOk g ws kk NX ws.length∧FiOk g ws FI ws.length
def vsw:=And.intro vsu<|And.intro @viewO_rwN<|And.intro @rwN_len<|And.intro @rwN_take<|And.intro @rwN_set<|And.intro @rwN_get<|And.intro @suS_len<|And.intro @suS_take<|And.intro @suS_app<|And.intro @suM_len<|And.intro @suM_app @suS_get
set_option maxRecDepth 10000 in
set_option maxHeartbeats 4000000 in
theorem subsets_spec (kk : Nat) (hk : 1 ≤ kk ∧ kk ≤ 3) (l : List Dm.Node) (hv : NodesOk (kk : Int) l) (hl : 0 < l.length ∧ l.length ≤ 9) : Dm.Spec Try.prog 10 [iv .i64 kk, .sl 3 (tbl nodD l)] (suR kk l kk) := by
  refine spec_of_vc mixed Try.func10 c10 (by rw [show Try.f10.ntmps=_ from Try.ntmps10];simp) ?_
  unfold m10 r10
  have hM:=gMake_spec (kk:Int) l hv hl
  have hW:=gWith_spec (fun _=>false) 0 (by omega)
  rw [gs_zero] at hW
  repeat' first|((first|refine Br.dec ?_ ?_|refine Br.eqi ?_ ?_)<;>intro h<;>try (exfalso;omega))|(simp (disch:=first|omega|(simp only [vlen];first|done|omega)) only [vsw,↓vAq,vBq,↓reduceIte,Nat.reduceBEq,Nat.reduceEqDiff,Nat.reduceLT,Nat.reduceLeDiff,Nat.reduceAdd,Nat.reduceMul,Nat.reduceSub,reduceCtorEq,Int.reduceToNat])|(refine Br.mk ?_ ?_<;>intro h)|(refine BrN.mk (fun h => ?_) ?_)|(refine AltVC.mk ?_ ?_)
  refine CallVC.mk hM ?_
  rintro _ ⟨x,u,rfl,hbl,hn⟩
  have hgf:=gf_of hv hl.1 hbl hn
  obtain ⟨g,hg⟩ : ∃ g,glOf x u=g:=⟨_,rfl⟩
  rw [hg] at hgf ⊢
  rw [← @setW_nil g] at hW
  repeat' first|((first|refine Br.dec ?_ ?_|refine Br.eqi ?_ ?_)<;>intro h<;>try (exfalso;omega))|(simp (disch:=first|omega|(simp only [vlen];first|done|omega)) only [vsw,↓vAq,vBq,↓reduceIte,Nat.reduceBEq,Nat.reduceEqDiff,Nat.reduceLT,Nat.reduceLeDiff,Nat.reduceAdd,Nat.reduceMul,Nat.reduceSub,reduceCtorEq,Int.reduceToNat])|(refine Br.mk ?_ ?_<;>intro h)|(refine BrN.mk (fun h => ?_) ?_)|(refine AltVC.mk ?_ ?_)
  refine CallVC.eq hW ?_
  repeat' first|((first|refine Br.dec ?_ ?_|refine Br.eqi ?_ ?_)<;>intro h<;>try (exfalso;omega))|(simp (disch:=first|omega|(simp only [vlen];first|done|omega)) only [vsw,↓vAq,vBq,↓reduceIte,Nat.reduceBEq,Nat.reduceEqDiff,Nat.reduceLT,Nat.reduceLeDiff,Nat.reduceAdd,Nat.reduceMul,Nat.reduceSub,reduceCtorEq,Int.reduceToNat])|(refine Br.mk ?_ ?_<;>intro h)|(refine BrN.mk (fun h => ?_) ?_)|(refine AltVC.mk ?_ ?_)
  refine Chk.mk su5 ?_
  repeat' first|((first|refine Br.dec ?_ ?_|refine Br.eqi ?_ ?_)<;>intro h<;>try (exfalso;omega))|(simp (disch:=first|omega|(simp only [vlen];first|done|omega)) only [vsw,↓vAq,vBq,↓reduceIte,Nat.reduceBEq,Nat.reduceEqDiff,Nat.reduceLT,Nat.reduceLeDiff,Nat.reduceAdd,Nat.reduceMul,Nat.reduceSub,reduceCtorEq,Int.reduceToNat])|(refine Br.mk ?_ ?_<;>intro h)|(refine BrN.mk (fun h => ?_) ?_)|(refine AltVC.mk ?_ ?_)
  refine BrK.mk (fun r hr _=>absurd hr (Nat.not_lt_zero _)) (fun _ => ?_)
  repeat' first|((first|refine Br.dec ?_ ?_|refine Br.eqi ?_ ?_)<;>intro h<;>try (exfalso;omega))|(simp (disch:=first|omega|(simp only [vlen];first|done|omega)) only [vsw,↓vAq,vBq,↓reduceIte,Nat.reduceBEq,Nat.reduceEqDiff,Nat.reduceLT,Nat.reduceLeDiff,Nat.reduceAdd,Nat.reduceMul,Nat.reduceSub,reduceCtorEq,Int.reduceToNat])|(refine Br.mk ?_ ?_<;>intro h)|(refine BrN.mk (fun h => ?_) ?_)|(refine AltVC.mk ?_ ?_)
  refine LoopVC.nlo 5 0 0 1 ?_
  repeat' first|((first|refine Br.dec ?_ ?_|refine Br.eqi ?_ ?_)<;>intro h<;>try (exfalso;omega))|(simp (disch:=first|omega|(simp only [vlen];first|done|omega)) only [vsw,↓vAq,vBq,↓reduceIte,Nat.reduceBEq,Nat.reduceEqDiff,Nat.reduceLT,Nat.reduceLeDiff,Nat.reduceAdd,Nat.reduceMul,Nat.reduceSub,reduceCtorEq,Int.reduceToNat])|(refine Br.mk ?_ ?_<;>intro h)|(refine BrN.mk (fun h => ?_) ?_)|(refine AltVC.mk ?_ ?_)
  refine LoopVC.nlo 5 0 1 1 ?_
  repeat' first|((first|refine Br.dec ?_ ?_|refine Br.eqi ?_ ?_)<;>intro h<;>try (exfalso;omega))|(simp (disch:=first|omega|(simp only [vlen];first|done|omega)) only [vsw,↓vAq,vBq,↓reduceIte,Nat.reduceBEq,Nat.reduceEqDiff,Nat.reduceLT,Nat.reduceLeDiff,Nat.reduceAdd,Nat.reduceMul,Nat.reduceSub,reduceCtorEq,Int.reduceToNat])|(refine Br.mk ?_ ?_<;>intro h)|(refine BrN.mk (fun h => ?_) ?_)|(refine AltVC.mk ?_ ?_)
  refine LoopVC.mk (X:=Nat × List (List Int) × List (List Int) × List Int) (fun x=>[(4,.ptr 0 2 0 0),(5,.ptr 1 7 0 0),(7,.mp 3),(8,.ref 4 5 0 x.2.1.length),(9,.ptr 5 2 0 0),(10,iv .i64 x.1)]) (fun x=>[(0,⟨2,[[.nl,.nl]],true,false,.fix⟩),(1,⟨7,[glD g],true,false,.fix⟩),(3,⟨6,suM g x.2.1,true,false,.map [.u64,.u64,.u64,.u64,.u64] true false⟩),(4,⟨5,suS g x.2.1,true,false,.arr⟩),(5,⟨2,[[.own false 1 (rows i64s x.2.2.1),.own false 1 (i64s x.2.2.2)]],true,true,.fix⟩)]) (fun x=>3298534883331 - x.1) (fun x=>x.1≤x.2.1.length∧SI (kk:Int) g x.2.1∧NxOk g x.2.1 kk x.2.2.1 x.1∧FiOk g x.2.1 x.2.2.2 x.1) (0,[[]],[],[]) ⟨Nat.zero_le _,⟨⟨by simp,rfl⟩,fun a b ha hb _=>by simp at ha hb;omega,fun a ha c hc=>by
    have:a=0:=by simpa using ha
    subst this;cases hc⟩,⟨rfl,fun a h=>absurd h (Nat.not_lt_zero _)⟩,⟨rfl,fun a h=>absurd h (Nat.not_lt_zero _)⟩⟩ ?_ ?_
  · (simp (disch:=first|omega|(simp only [vlen];first|done|omega)) only [Fits_u,Fits_m,Fits_nil,List.length_append,vsw,↓vAq,vBq,↓reduceIte,Nat.reduceBEq,Nat.reduceEqDiff,Nat.reduceLT,Nat.reduceLeDiff,Nat.reduceAdd,Nat.reduceMul,Nat.reduceSub,reduceCtorEq,Int.reduceToNat]<;>(repeat' first|rfl|apply And.intro))
    all_goals trace_state
  · rintro ⟨i, ws, NX, FI⟩ ⟨hi, hS, hN, hF⟩
    simp only at hi hS hN hF ⊢
    have hwl:=hgf.few hv (by omega) hl hS.inj
    by_cases hil:i<ws.length
    · repeat' first | ((first | refine Br.dec ?_ ?_ | refine Br.eqi ?_ ?_) <;> intro h <;> try (exfalso; omega)) | (simp (disch := first | omega | (simp only [vlen]; first | done | omega)) only [rwN_rep, vsw, ↓vAq, vBq, ↓reduceIte, Nat.reduceBEq, Nat.reduceEqDiff, Nat.reduceLT, Nat.reduceLeDiff, Nat.reduceAdd, Nat.reduceMul, Nat.reduceSub, reduceCtorEq, Int.reduceToNat]) | (refine Br.mk ?_ ?_ <;> intro h) | (refine BrN.mk (fun h => ?_) ?_) | (refine AltVC.mk ?_ ?_)
      refine LoopVC.mk (X:=Nat × List (List Int) × (Nat→Nat)) (fun x=>[(4,.ptr 0 2 0 0),(5,.ptr 1 7 0 0),(7,.mp 3),(8,.ref 4 5 0 x.2.1.length),(9,.ptr 5 2 0 0),(11,.ref 6 1 0 kk),(36,iv .i64 x.1)]) (fun x=>[(0,⟨2,[[.nl,.nl]],true,false,.fix⟩),(1,⟨7,[glD g],true,false,.fix⟩),(3,⟨6,suM g x.2.1,true,false,.map [.u64,.u64,.u64,.u64,.u64] true false⟩),(4,⟨5,suS g x.2.1,true,false,.arr⟩),(5,⟨2,[[.own false 1 (rows i64s NX),.own false 1 (i64s FI)]],true,true,.fix⟩),(6,⟨1,i64s (rwN kk x.2.2),true,false,.arr⟩)]) (fun x=>kk - x.1) (fun x=>x.1≤kk∧i<x.2.1.length∧SI (kk:Int) g x.2.1∧NxOk g x.2.1 kk NX i∧FiOk g x.2.1 FI i∧RowOk g x.2.1 (x.2.1.getD i []) x.1 x.2.2) (0,ws,fun _=>0) ⟨Nat.zero_le _,hil,hS,hN,hF,fun s h=>absurd h (Nat.not_lt_zero _)⟩ ?_ ?_
      · (simp (disch:=first|omega|(simp only [vlen];first|done|omega)) only [Fits_u,Fits_m,Fits_nil,List.length_append,vsw,↓vAq,vBq,↓reduceIte,Nat.reduceBEq,Nat.reduceEqDiff,Nat.reduceLT,Nat.reduceLeDiff,Nat.reduceAdd,Nat.reduceMul,Nat.reduceSub,reduceCtorEq,Int.reduceToNat]<;>(repeat' first|rfl|apply And.intro))
        all_goals trace_state
      · rintro ⟨s, ws, R⟩ ⟨hs, hil, hS, hN, hF, hR⟩
        simp only at hs hil hS hN hF hR ⊢
        have hwl:=hgf.few hv (by omega) hl hS.inj
        by_cases hsk:s<kk
        · have hSt:=gStep_spec g (by have:=hgf.n;omega) (setW g (ws.getD i [])) (s:Int)
          rw [hgf.go] at hSt
          obtain ⟨w,hw⟩ : ∃ w,ws.getD i []++[(s:Int)]=w:=⟨_,rfl⟩
          rw [hw] at hSt
          have hwk:∀ c,c ∈ w→0≤c∧c<(kk:Int):=fun c hc=>by
            rw [← hw] at hc
            rcases List.mem_append.1 hc with hc|hc
            · exact hS.ok i hil c hc
            · rw [List.mem_singleton.1 hc];omega
          repeat' first|((first|refine Br.dec ?_ ?_|refine Br.eqi ?_ ?_)<;>intro h<;>try (exfalso;omega))|(simp (disch:=first|omega|(simp only [vlen];first|done|omega)) only [vsw,↓vAq,vBq,↓reduceIte,Nat.reduceBEq,Nat.reduceEqDiff,Nat.reduceLT,Nat.reduceLeDiff,Nat.reduceAdd,Nat.reduceMul,Nat.reduceSub,reduceCtorEq,Int.reduceToNat])|(refine Br.mk ?_ ?_<;>intro h)|(refine BrN.mk (fun h => ?_) ?_)|(refine AltVC.mk ?_ ?_)
          refine DrawVC.cu (X:=Unit) (fun _=>[(4,.ptr 0 2 0 0),(5,.ptr 1 7 0 0),(7,.mp 3),(8,.ref 4 5 0 ws.length),(9,.ptr 5 2 0 0),(11,.ref 6 1 0 kk),(13,.ptr 7 5 0 0)]) (fun _=>[(0,⟨2,[[.nl,.nl]],true,false,.fix⟩),(1,⟨7,[glD g],true,false,.fix⟩),(3,⟨6,suM g ws,true,false,.map [.u64,.u64,.u64,.u64,.u64] true false⟩),(4,⟨5,suS g ws,true,false,.arr⟩),(5,⟨2,[[.own false 1 (rows i64s NX),.own false 1 (i64s FI)]],true,true,.fix⟩),(6,⟨1,i64s (rwN kk R),true,false,.arr⟩),(7,⟨5,[gsD (setW g w)],true,false,.fix⟩)]) (fun _=>True) 8 (by simp (disch:=first|omega|(simp only [vlen];first|done|omega)) only [vsw,↓vAq,vBq,↓reduceIte,Nat.reduceBEq,Nat.reduceEqDiff,Nat.reduceLT,Nat.reduceLeDiff,Nat.reduceAdd,Nat.reduceMul,Nat.reduceSub,reduceCtorEq,Int.reduceToNat]) ?_ ?_
          · repeat' first|((first|refine Br.dec ?_ ?_|refine Br.eqi ?_ ?_)<;>intro h<;>try (exfalso;omega))|(simp (disch:=first|omega|(simp only [vlen];first|done|omega)) only [vsw,↓vAq,vBq,↓reduceIte,Nat.reduceBEq,Nat.reduceEqDiff,Nat.reduceLT,Nat.reduceLeDiff,Nat.reduceAdd,Nat.reduceMul,Nat.reduceSub,reduceCtorEq,Int.reduceToNat])|(refine Br.mk ?_ ?_<;>intro h)|(refine BrN.mk (fun h => ?_) ?_)|(refine AltVC.mk ?_ ?_)
            all_goals
              first|refine CallP.eq hSt (by simp) ?_|refine CallVC.eq hSt ?_
              (repeat' first|((first|refine Br.dec ?_ ?_|refine Br.eqi ?_ ?_)<;>intro h<;>try (exfalso;omega))|(simp (disch:=first|omega|(simp only [vlen];first|done|omega)) only [vsw,↓vAq,vBq,↓reduceIte,Nat.reduceBEq,Nat.reduceEqDiff,Nat.reduceLT,Nat.reduceLeDiff,Nat.reduceAdd,Nat.reduceMul,Nat.reduceSub,reduceCtorEq,Int.reduceToNat])|(refine Br.mk ?_ ?_<;>intro h)|(refine BrN.mk (fun h => ?_) ?_)|(refine AltVC.mk ?_ ?_))
              refine cutK.mk () (by simp (disch:=first|omega|(simp only [vlen];first|done|omega)) only [vsw,↓vAq,vBq,↓reduceIte,Nat.reduceBEq,Nat.reduceEqDiff,Nat.reduceLT,Nat.reduceLeDiff,Nat.reduceAdd,Nat.reduceMul,Nat.reduceSub,reduceCtorEq,Int.reduceToNat]) trivial ?_
              ((simp (disch:=first|omega|(simp only [vlen];first|done|omega)) only [Fits_u,Fits_m,Fits_nil,List.length_append,vsw,↓vAq,vBq,↓reduceIte,Nat.reduceBEq,Nat.reduceEqDiff,Nat.reduceLT,Nat.reduceLeDiff,Nat.reduceAdd,Nat.reduceMul,Nat.reduceSub,reduceCtorEq,Int.reduceToNat]<;>(repeat' first|rfl|apply And.intro)))
            all_goals trace_state
          · intro _ _
            repeat' first|((first|refine Br.dec ?_ ?_|refine Br.eqi ?_ ?_)<;>intro h<;>try (exfalso;omega))|(simp (disch:=first|omega|(simp only [vlen];first|done|omega)) only [vsw,↓vAq,vBq,↓reduceIte,Nat.reduceBEq,Nat.reduceEqDiff,Nat.reduceLT,Nat.reduceLeDiff,Nat.reduceAdd,Nat.reduceMul,Nat.reduceSub,reduceCtorEq,Int.reduceToNat])|(refine Br.mk ?_ ?_<;>intro h)|(refine BrN.mk (fun h => ?_) ?_)|(refine AltVC.mk ?_ ?_)
            refine Chk.mk su5 ?_
            repeat' first|((first|refine Br.dec ?_ ?_|refine Br.eqi ?_ ?_)<;>intro h<;>try (exfalso;omega))|(simp (disch:=first|omega|(simp only [vlen];first|done|omega)) only [vsw,↓vAq,vBq,↓reduceIte,Nat.reduceBEq,Nat.reduceEqDiff,Nat.reduceLT,Nat.reduceLeDiff,Nat.reduceAdd,Nat.reduceMul,Nat.reduceSub,reduceCtorEq,Int.reduceToNat])|(refine Br.mk ?_ ?_<;>intro h)|(refine BrN.mk (fun h => ?_) ?_)|(refine AltVC.mk ?_ ?_)
            refine BrK.mk (fun r hr he => ?_) (fun hno => ?_)
            · obtain ⟨r1,r2,r3⟩:=su_in hgf hr he
              have r3:(suM g ws).getD r []=_:=r3
              unfold suE at r3
              repeat' first|((first|refine Br.dec ?_ ?_|refine Br.eqi ?_ ?_)<;>intro h<;>try (exfalso;omega))|(simp (disch:=first|omega|(simp only [vlen];first|done|omega)) only [r3,vsw,↓vAq,vBq,↓reduceIte,Nat.reduceBEq,Nat.reduceEqDiff,Nat.reduceLT,Nat.reduceLeDiff,Nat.reduceAdd,Nat.reduceMul,Nat.reduceSub,reduceCtorEq,Int.reduceToNat])|(refine Br.mk ?_ ?_<;>intro h)|(refine BrN.mk (fun h => ?_) ?_)|(refine AltVC.mk ?_ ?_)
              refine loopK.mk (s+1,ws,fun b=>if b=s then r else R b) (by simp (disch:=first|omega|(simp only [vlen];first|done|omega)) only [vsw,↓vAq,vBq,↓reduceIte,Nat.reduceBEq,Nat.reduceEqDiff,Nat.reduceLT,Nat.reduceLeDiff,Nat.reduceAdd,Nat.reduceMul,Nat.reduceSub,reduceCtorEq,Int.reduceToNat]) ⟨by show s+1≤kk;omega,hil,hS,hN,hF,hR.step r1 (by rw [hw];exact r2)⟩ (by show kk - (s+1)<kk - s;omega) ?_
              (simp (disch:=first|omega|(simp only [vlen];first|done|omega)) only [Fits_u,Fits_m,Fits_nil,List.length_append,vsw,↓vAq,vBq,↓reduceIte,Nat.reduceBEq,Nat.reduceEqDiff,Nat.reduceLT,Nat.reduceLeDiff,Nat.reduceAdd,Nat.reduceMul,Nat.reduceSub,reduceCtorEq,Int.reduceToNat]<;>(repeat' first|rfl|apply And.intro))
              all_goals trace_state
            · have hno2:=fun a ha=>su_out (a:=a) hno ha
              have hS2:=hS.push hwk hno2
              have hwl2:=hgf.few hv (by omega) hl hS2.inj
              rw [List.length_append,List.length_singleton] at hwl2
              have hlen:(ws++[w]).length=ws.length+1:=by simp
              repeat' first|((first|refine Br.dec ?_ ?_|refine Br.eqi ?_ ?_)<;>intro h<;>try (exfalso;omega))|(simp (disch:=first|omega|(simp only [vlen];first|done|omega)) only [hlen,vsw,↓vAq,vBq,↓reduceIte,Nat.reduceBEq,Nat.reduceEqDiff,Nat.reduceLT,Nat.reduceLeDiff,Nat.reduceAdd,Nat.reduceMul,Nat.reduceSub,reduceCtorEq,Int.reduceToNat])|(refine Br.mk ?_ ?_<;>intro h)|(refine BrN.mk (fun h => ?_) ?_)|(refine AltVC.mk ?_ ?_)
              first|refine Chk.mk su5 ?_|skip
              (repeat' first|((first|refine Br.dec ?_ ?_|refine Br.eqi ?_ ?_)<;>intro h<;>try (exfalso;omega))|(simp (disch:=first|omega|(simp only [vlen];first|done|omega)) only [hlen,vsw,↓vAq,vBq,↓reduceIte,Nat.reduceBEq,Nat.reduceEqDiff,Nat.reduceLT,Nat.reduceLeDiff,Nat.reduceAdd,Nat.reduceMul,Nat.reduceSub,reduceCtorEq,Int.reduceToNat])|(refine Br.mk ?_ ?_<;>intro h)|(refine BrN.mk (fun h => ?_) ?_)|(refine AltVC.mk ?_ ?_))
              refine BrK.mk (fun r hr he=>absurd (su_in hgf hr he).2.1 (hno2 r (su_in hgf hr he).1)) (fun _ => ?_)
              repeat' first|((first|refine Br.dec ?_ ?_|refine Br.eqi ?_ ?_)<;>intro h<;>try (exfalso;omega))|(simp (disch:=first|omega|(simp only [vlen];first|done|omega)) only [hlen,vsw,↓vAq,vBq,↓reduceIte,Nat.reduceBEq,Nat.reduceEqDiff,Nat.reduceLT,Nat.reduceLeDiff,Nat.reduceAdd,Nat.reduceMul,Nat.reduceSub,reduceCtorEq,Int.reduceToNat])|(refine Br.mk ?_ ?_<;>intro h)|(refine BrN.mk (fun h => ?_) ?_)|(refine AltVC.mk ?_ ?_)
              refine loopK.mk (s+1,ws++[w],fun b=>if b=s then ws.length else R b) (by simp (disch:=first|omega|(simp only [vlen];first|done|omega)) only [vsw,↓vAq,vBq,↓reduceIte,Nat.reduceBEq,Nat.reduceEqDiff,Nat.reduceLT,Nat.reduceLeDiff,Nat.reduceAdd,Nat.reduceMul,Nat.reduceSub,reduceCtorEq,Int.reduceToNat]) ⟨by show s+1≤kk;omega,by show i<(ws++[w]).length;omega,hS2,hN.app (by omega),hF.app (by omega),?_⟩ (by show kk - (s+1)<kk - s;omega) ?_
              · show RowOk g (ws++[w]) ((ws++[w]).getD i []) (s+1) _
                rw [getD_appL hil]
                exact hR.app.step (by omega) (by rw [getD_appR,hw])
              (simp (disch:=first|omega|(simp only [vlen];first|done|omega)) only [Fits_u,Fits_m,Fits_nil,List.length_append,hlen,vsw,↓vAq,vBq,↓reduceIte,Nat.reduceBEq,Nat.reduceEqDiff,Nat.reduceLT,Nat.reduceLeDiff,Nat.reduceAdd,Nat.reduceMul,Nat.reduceSub,reduceCtorEq,Int.reduceToNat]<;>(repeat' first|rfl|apply And.intro))
              all_goals trace_state
        · have hse:s=kk:=by omega
          subst hse
          have hNl:=hN.1
          have hFl:=hF.1
          have hMt:=gMeets_spec (setW g (ws.getD i [])) g.last
          cases hm:gMeet (setW g (ws.getD i [])) g.last with
          | true =>
            rw [hm] at hMt
            have hrw:rows i64s NX++[[.sl 1 (i64s (rwN s R))]]=rows i64s (NX++[rwN s R]):=by simp [rows]
            repeat' first|((first|refine Br.dec ?_ ?_|refine Br.eqi ?_ ?_)<;>intro h<;>try (exfalso;omega))|(simp (disch:=first|omega|(simp only [vlen];first|done|omega)) only [vsw,↓vAq,vBq,↓reduceIte,Nat.reduceBEq,Nat.reduceEqDiff,Nat.reduceLT,Nat.reduceLeDiff,Nat.reduceAdd,Nat.reduceMul,Nat.reduceSub,reduceCtorEq,Int.reduceToNat])|(refine Br.mk ?_ ?_<;>intro h)|(refine BrN.mk (fun h => ?_) ?_)|(refine AltVC.mk ?_ ?_)
            refine CallVC.eq hMt ?_
            repeat' first|((first|refine Br.dec ?_ ?_|refine Br.eqi ?_ ?_)<;>intro h<;>try (exfalso;omega))|(simp (disch:=first|omega|(simp only [vlen];first|done|omega)) only [vsw,↓vAq,vBq,↓reduceIte,Nat.reduceBEq,Nat.reduceEqDiff,Nat.reduceLT,Nat.reduceLeDiff,Nat.reduceAdd,Nat.reduceMul,Nat.reduceSub,reduceCtorEq,Int.reduceToNat])|(refine Br.mk ?_ ?_<;>intro h)|(refine BrN.mk (fun h => ?_) ?_)|(refine AltVC.mk ?_ ?_)
            refine loopK.frz 6 ?_
            repeat' first|((first|refine Br.dec ?_ ?_|refine Br.eqi ?_ ?_)<;>intro h<;>try (exfalso;omega))|(simp (disch:=first|omega|(simp only [vlen];first|done|omega)) only [vsw,↓vAq,vBq,↓reduceIte,Nat.reduceBEq,Nat.reduceEqDiff,Nat.reduceLT,Nat.reduceLeDiff,Nat.reduceAdd,Nat.reduceMul,Nat.reduceSub,reduceCtorEq,Int.reduceToNat])|(refine Br.mk ?_ ?_<;>intro h)|(refine BrN.mk (fun h => ?_) ?_)|(refine AltVC.mk ?_ ?_)
            refine loopK.flt 7 ?_
            repeat' first|((first|refine Br.dec ?_ ?_|refine Br.eqi ?_ ?_)<;>intro h<;>try (exfalso;omega))|(simp (disch:=first|omega|(simp only [vlen];first|done|omega)) only [hrw,vsw,↓vAq,vBq,↓reduceIte,Nat.reduceBEq,Nat.reduceEqDiff,Nat.reduceLT,Nat.reduceLeDiff,Nat.reduceAdd,Nat.reduceMul,Nat.reduceSub,reduceCtorEq,Int.reduceToNat])|(refine Br.mk ?_ ?_<;>intro h)|(refine BrN.mk (fun h => ?_) ?_)|(refine AltVC.mk ?_ ?_)
            refine loopK.fold 7 5 0 0 false ?_
            repeat' first|((first|refine Br.dec ?_ ?_|refine Br.eqi ?_ ?_)<;>intro h<;>try (exfalso;omega))|(simp (disch:=first|omega|(simp only [vlen];first|done|omega)) only [hrw,vsw,↓vAq,vBq,↓reduceIte,Nat.reduceBEq,Nat.reduceEqDiff,Nat.reduceLT,Nat.reduceLeDiff,Nat.reduceAdd,Nat.reduceMul,Nat.reduceSub,reduceCtorEq,Int.reduceToNat])|(refine Br.mk ?_ ?_<;>intro h)|(refine BrN.mk (fun h => ?_) ?_)|(refine AltVC.mk ?_ ?_)
            refine loopK.fold 9 5 0 1 true ?_
            repeat' first|((first|refine Br.dec ?_ ?_|refine Br.eqi ?_ ?_)<;>intro h<;>try (exfalso;omega))|(simp (disch:=first|omega|(simp only [vlen];first|done|omega)) only [hrw,vsw,↓vAq,vBq,↓reduceIte,Nat.reduceBEq,Nat.reduceEqDiff,Nat.reduceLT,Nat.reduceLeDiff,Nat.reduceAdd,Nat.reduceMul,Nat.reduceSub,reduceCtorEq,Int.reduceToNat])|(refine Br.mk ?_ ?_<;>intro h)|(refine BrN.mk (fun h => ?_) ?_)|(refine AltVC.mk ?_ ?_)
            refine loopK.mk (i+1,ws,NX++[rwN s R],FI++[1]) (by simp (disch:=first|omega|(simp only [vlen];first|done|omega)) only [vsw,↓vAq,vBq,↓reduceIte,Nat.reduceBEq,Nat.reduceEqDiff,Nat.reduceLT,Nat.reduceLeDiff,Nat.reduceAdd,Nat.reduceMul,Nat.reduceSub,reduceCtorEq,Int.reduceToNat]) ⟨by show i+1≤ws.length;omega,hS,hN.step hR,hF.step (by rw [hm];rfl)⟩ (by show 3298534883331 - (i+1)<3298534883331 - i;omega) ?_
            (simp (disch:=first|omega|(simp only [vlen];first|done|omega)) only [Fits_u,Fits_m,Fits_nil,List.length_append,hrw,vsw,↓vAq,vBq,↓reduceIte,Nat.reduceBEq,Nat.reduceEqDiff,Nat.reduceLT,Nat.reduceLeDiff,Nat.reduceAdd,Nat.reduceMul,Nat.reduceSub,reduceCtorEq,Int.reduceToNat]<;>(repeat' first|rfl|apply And.intro))
            all_goals trace_state
          | false =>
            rw [hm] at hMt
            have hrw:rows i64s NX++[[.sl 1 (i64s (rwN s R))]]=rows i64s (NX++[rwN s R]):=by simp [rows]
            repeat' first|((first|refine Br.dec ?_ ?_|refine Br.eqi ?_ ?_)<;>intro h<;>try (exfalso;omega))|(simp (disch:=first|omega|(simp only [vlen];first|done|omega)) only [vsw,↓vAq,vBq,↓reduceIte,Nat.reduceBEq,Nat.reduceEqDiff,Nat.reduceLT,Nat.reduceLeDiff,Nat.reduceAdd,Nat.reduceMul,Nat.reduceSub,reduceCtorEq,Int.reduceToNat])|(refine Br.mk ?_ ?_<;>intro h)|(refine BrN.mk (fun h => ?_) ?_)|(refine AltVC.mk ?_ ?_)
            refine CallVC.eq hMt ?_
            repeat' first|((first|refine Br.dec ?_ ?_|refine Br.eqi ?_ ?_)<;>intro h<;>try (exfalso;omega))|(simp (disch:=first|omega|(simp only [vlen];first|done|omega)) only [vsw,↓vAq,vBq,↓reduceIte,Nat.reduceBEq,Nat.reduceEqDiff,Nat.reduceLT,Nat.reduceLeDiff,Nat.reduceAdd,Nat.reduceMul,Nat.reduceSub,reduceCtorEq,Int.reduceToNat])|(refine Br.mk ?_ ?_<;>intro h)|(refine BrN.mk (fun h => ?_) ?_)|(refine AltVC.mk ?_ ?_)
            refine loopK.frz 6 ?_
            repeat' first|((first|refine Br.dec ?_ ?_|refine Br.eqi ?_ ?_)<;>intro h<;>try (exfalso;omega))|(simp (disch:=first|omega|(simp only [vlen];first|done|omega)) only [vsw,↓vAq,vBq,↓reduceIte,Nat.reduceBEq,Nat.reduceEqDiff,Nat.reduceLT,Nat.reduceLeDiff,Nat.reduceAdd,Nat.reduceMul,Nat.reduceSub,reduceCtorEq,Int.reduceToNat])|(refine Br.mk ?_ ?_<;>intro h)|(refine BrN.mk (fun h => ?_) ?_)|(refine AltVC.mk ?_ ?_)
            refine loopK.flt 7 ?_
            repeat' first|((first|refine Br.dec ?_ ?_|refine Br.eqi ?_ ?_)<;>intro h<;>try (exfalso;omega))|(simp (disch:=first|omega|(simp only [vlen];first|done|omega)) only [hrw,vsw,↓vAq,vBq,↓reduceIte,Nat.reduceBEq,Nat.reduceEqDiff,Nat.reduceLT,Nat.reduceLeDiff,Nat.reduceAdd,Nat.reduceMul,Nat.reduceSub,reduceCtorEq,Int.reduceToNat])|(refine Br.mk ?_ ?_<;>intro h)|(refine BrN.mk (fun h => ?_) ?_)|(refine AltVC.mk ?_ ?_)
            refine loopK.fold 7 5 0 0 false ?_
            repeat' first|((first|refine Br.dec ?_ ?_|refine Br.eqi ?_ ?_)<;>intro h<;>try (exfalso;omega))|(simp (disch:=first|omega|(simp only [vlen];first|done|omega)) only [hrw,vsw,↓vAq,vBq,↓reduceIte,Nat.reduceBEq,Nat.reduceEqDiff,Nat.reduceLT,Nat.reduceLeDiff,Nat.reduceAdd,Nat.reduceMul,Nat.reduceSub,reduceCtorEq,Int.reduceToNat])|(refine Br.mk ?_ ?_<;>intro h)|(refine BrN.mk (fun h => ?_) ?_)|(refine AltVC.mk ?_ ?_)
            refine loopK.fold 9 5 0 1 true ?_
            repeat' first|((first|refine Br.dec ?_ ?_|refine Br.eqi ?_ ?_)<;>intro h<;>try (exfalso;omega))|(simp (disch:=first|omega|(simp only [vlen];first|done|omega)) only [hrw,vsw,↓vAq,vBq,↓reduceIte,Nat.reduceBEq,Nat.reduceEqDiff,Nat.reduceLT,Nat.reduceLeDiff,Nat.reduceAdd,Nat.reduceMul,Nat.reduceSub,reduceCtorEq,Int.reduceToNat])|(refine Br.mk ?_ ?_<;>intro h)|(refine BrN.mk (fun h => ?_) ?_)|(refine AltVC.mk ?_ ?_)
            refine loopK.mk (i+1,ws,NX++[rwN s R],FI++[0]) (by simp (disch:=first|omega|(simp only [vlen];first|done|omega)) only [vsw,↓vAq,vBq,↓reduceIte,Nat.reduceBEq,Nat.reduceEqDiff,Nat.reduceLT,Nat.reduceLeDiff,Nat.reduceAdd,Nat.reduceMul,Nat.reduceSub,reduceCtorEq,Int.reduceToNat]) ⟨by show i+1≤ws.length;omega,hS,hN.step hR,hF.step (by rw [hm];rfl)⟩ (by show 3298534883331 - (i+1)<3298534883331 - i;omega) ?_
            (simp (disch:=first|omega|(simp only [vlen];first|done|omega)) only [Fits_u,Fits_m,Fits_nil,List.length_append,hrw,vsw,↓vAq,vBq,↓reduceIte,Nat.reduceBEq,Nat.reduceEqDiff,Nat.reduceLT,Nat.reduceLeDiff,Nat.reduceAdd,Nat.reduceMul,Nat.reduceSub,reduceCtorEq,Int.reduceToNat]<;>(repeat' first|rfl|apply And.intro))
            all_goals trace_state
    · have hie:i=ws.length:=by omega
      subst hie
      repeat' first|((first|refine Br.dec ?_ ?_|refine Br.eqi ?_ ?_)<;>intro h<;>try (exfalso;omega))|(simp (disch:=first|omega|(simp only [vlen];first|done|omega)) only [vsw,↓vAq,vBq,↓reduceIte,Nat.reduceBEq,Nat.reduceEqDiff,Nat.reduceLT,Nat.reduceLeDiff,Nat.reduceAdd,Nat.reduceMul,Nat.reduceSub,reduceCtorEq,Int.reduceToNat])|(refine Br.mk ?_ ?_<;>intro h)|(refine BrN.mk (fun h => ?_) ?_)|(refine AltVC.mk ?_ ?_)
      refine GhoV.frz 5 ?_
      repeat' first|((first|refine Br.dec ?_ ?_|refine Br.eqi ?_ ?_)<;>intro h<;>try (exfalso;omega))|(simp (disch:=first|omega|(simp only [vlen];first|done|omega)) only [vsw,↓vAq,vBq,↓reduceIte,Nat.reduceBEq,Nat.reduceEqDiff,Nat.reduceLT,Nat.reduceLeDiff,Nat.reduceAdd,Nat.reduceMul,Nat.reduceSub,reduceCtorEq,Int.reduceToNat])|(refine Br.mk ?_ ?_<;>intro h)|(refine BrN.mk (fun h => ?_) ?_)|(refine AltVC.mk ?_ ?_)
      refine GhoV.go ?_
      repeat' first|((first|refine Br.dec ?_ ?_|refine Br.eqi ?_ ?_)<;>intro h<;>try (exfalso;omega))|(simp (disch:=first|omega|(simp only [vlen];first|done|omega)) only [vsw,↓vAq,vBq,↓reduceIte,Nat.reduceBEq,Nat.reduceEqDiff,Nat.reduceLT,Nat.reduceLeDiff,Nat.reduceAdd,Nat.reduceMul,Nat.reduceSub,reduceCtorEq,Int.reduceToNat])|(refine Br.mk ?_ ?_<;>intro h)|(refine BrN.mk (fun h => ?_) ?_)|(refine AltVC.mk ?_ ?_)
      exact fin_mk ⟨g,ws,NX,FI,rfl,hgf,hS,hN,hF⟩
end Go.Proofs.Ytpgomgjpliallaa

namespace Go.Proofs.Ytpgomgjpliallaa
open Go.Dm
end Go.Proofs.Ytpgomgjpliallaa
