/-
 Texts of this claim, one behind another.
-/
import Derived.Test.YtpgomgjpliallaaMg9
import Derived.Test.YtpgomgjpliallaaMg11
import Derived.Test.YtpgomgjpliallaaCode
set_option linter.unusedSimpArgs false
set_option linter.unnecessarySimpa false
set_option linter.unusedVariables false
set_option linter.defProp false
namespace Go.Proofs.Ytpgomgjpliallaa
open Go.Dm
theorem mixed:Try.prog.follows .mixedOrders=true:=by kernel_rfl
end Go.Proofs.Ytpgomgjpliallaa

namespace Go.Proofs.Ytpgomgjpliallaa
open Go.Dm
def idxOf {α:Type} (p:α→Bool) (l:List α):Int:=if l.any p=true then ((l.findIdx p:Nat):Int) else -1
theorem idxOf_hit {α:Type} [Inhabited α] {p:α→Bool} {l:List α} {i:Nat} (hi:i<l.length) (h:p (l.getD i default)=true) (hn:∀ j,j<i→p (l.getD j default)=false):idxOf p l=i:=by
  have e:∀ j (hj:j<l.length),l.getD j default=l[j]:=fun j hj=>by simp [List.getD,hj]
  unfold idxOf
  rw [if_pos (List.any_eq_true.2 ⟨l[i],List.getElem_mem hi,by rw [← e i hi];exact h⟩)]
  rw [(List.findIdx_eq hi).2 ⟨by rw [← e i hi];exact h,fun j hj=>by rw [← e j (by omega)];exact hn j hj⟩]
theorem any_none {α:Type} [Inhabited α] {p:α→Bool} {l:List α} {i:Nat} (hi:l.length≤i) (hn:∀ j,j<i→p (l.getD j default)=false):l.any p=false:=by
  rw [List.any_eq_false]
  intro x hx
  obtain ⟨j,hj,e⟩:=mem_getD hx
  rw [← e,hn j (by omega)]
  simp
theorem idxOf_miss {α:Type} [Inhabited α] {p:α→Bool} {l:List α} {i:Nat} (hi:l.length≤i) (hn:∀ j,j<i→p (l.getD j default)=false):idxOf p l = -1:=by
  unfold idxOf
  rw [if_neg (by rw [any_none hi hn];simp)]
theorem cl_lf {f:D→D} (hf:∀ d,clL d=true→f d=d):∀ d:D,d.cl=true→d.lf f=d
  | .ag ds,h=>by
    have hd:∀ d,d ∈ ds→d.cl=true:=fun d hm=>by rw [D.cl,alls_ag] at h;exact List.all_eq_true.1 h d hm
    have ih:∀ d,d ∈ ds→d.lf f=d:=fun d hm=>cl_lf hf d (hd d hm)
    rw [lf_ag,List.map_congr_left ih,List.map_id']
  | .tu ds,h=>by
    have hd:∀ d,d ∈ ds→d.cl=true:=fun d hm=>by rw [D.cl,alls_tu] at h;exact List.all_eq_true.1 h d hm
    have ih:∀ d,d ∈ ds→d.lf f=d:=fun d hm=>cl_lf hf d (hd d hm)
    rw [lf_tu,List.map_congr_left ih,List.map_id']
  | .clo g ds,h=>by
    have hd:∀ d,d ∈ ds→d.cl=true:=fun d hm=>by rw [cl_clo] at h;exact List.all_eq_true.1 h d hm
    have ih:∀ d,d ∈ ds→d.lf f=d:=fun d hm=>cl_lf hf d (hd d hm)
    rw [lf_clo,List.map_congr_left ih,List.map_id']
  | .v x,h=>by rw [lf_leaf rfl];exact hf _ rfl
  | .nl,h=>by rw [lf_leaf rfl];exact hf _ rfl
  | .sl _ _,h=>by rw [lf_leaf rfl];exact hf _ rfl
  | .ip _ _,h=>by rw [lf_leaf rfl];exact hf _ rfl
  | .ref _ _ _ _,h=>by rw [D.cl,alls_leaf rfl] at h;cases h
  | .ptr _ _ _ _,h=>by rw [D.cl,alls_leaf rfl] at h;cases h
  | .mp _,h=>by rw [D.cl,alls_leaf rfl] at h;cases h
  | .own _ _ _,h=>by rw [D.cl,alls_leaf rfl] at h;cases h
  | .omp _ _ _,h=>by rw [D.cl,alls_leaf rfl] at h;cases h
  | .junk,h=>by rw [D.cl,alls_leaf rfl] at h;cases h
termination_by d=>SizeOf.sizeOf d
decreasing_by all_goals (have:=List.sizeOf_lt_of_mem hm;simp;omega)
theorem cl_J:∀ d:D,d.alls clL=true→d.alls clJ=true
  | .ag ds,h=>by
    rw [alls_ag] at h ⊢
    exact List.all_eq_true.2 fun d hm=>cl_J d (List.all_eq_true.1 h d hm)
  | .tu ds,h=>by
    rw [alls_tu] at h ⊢
    exact List.all_eq_true.2 fun d hm=>cl_J d (List.all_eq_true.1 h d hm)
  | .clo g ds,h=>by
    rw [alls_clo] at h ⊢
    exact List.all_eq_true.2 fun d hm=>cl_J d (List.all_eq_true.1 h d hm)
  | .v x,h=>by rw [alls_leaf rfl];rfl
  | .nl,h=>by rw [alls_leaf rfl];rfl
  | .sl _ _,h=>by rw [alls_leaf rfl];rfl
  | .ip _ _,h=>by rw [alls_leaf rfl];rfl
  | .ref _ _ _ _,h=>by rw [alls_leaf rfl] at h;cases h
  | .ptr _ _ _ _,h=>by rw [alls_leaf rfl] at h;cases h
  | .mp _,h=>by rw [alls_leaf rfl] at h;cases h
  | .own _ _ _,h=>by rw [alls_leaf rfl] at h;cases h
  | .omp _ _ _,h=>by rw [alls_leaf rfl] at h;cases h
  | .junk,h=>by rw [alls_leaf rfl] at h;cases h
termination_by d=>SizeOf.sizeOf d
decreasing_by all_goals (have:=List.sizeOf_lt_of_mem hm;simp;omega)
section
variable {ds:List D} (hd:ds.all D.cl=true)
include hd
theorem map_lf {f:D→D} (hf:∀ d,clL d=true→f d=d):ds.map (D.lf f)=ds:=by
  rw [List.map_congr_left (fun d hm=>cl_lf hf d (List.all_eq_true.1 hd d hm)),List.map_id']
theorem cl_trims (n:Nat):(ds.map fun d=>d.trim n)=ds:=map_lf hd (f:=trimL n) (fun d h=>by cases d<;>first|rfl|cases h)
theorem cl_views (s:S):ds.map s.view=ds:=map_lf hd (f:=s.viewL) (fun d h=>by cases d<;>first|rfl|cases h)
theorem cl_owned:ds.any D.owned=false:=by
  rw [List.any_eq_false]
  intro d hm
  have h:=List.all_eq_true.1 hd d hm
  have:d.alls clJ=true:=by
    revert h
    unfold D.cl
    exact cl_J d
  simp [D.owned,this]
end
set_option maxRecDepth 10000 in
set_option maxHeartbeats 4000000 in
theorem idxF_int (l : List (Int)) (p : Int → Bool) (f : FuncId) (ds : List D) (hl : l.length ≤ 9223372036854775807) (hd : ds.all D.cl = true) (hp : ∀ a, a ∈ l → Dm.Spec Try.prog f (iv .i64 a :: ds) (· = .v (.bool (p a)))) : Dm.Spec Try.prog 13 [.sl 1 (i64s l), .clo f ds] (· = .v (.int .i64 (idxOf p l))) := by
  refine spec_of_vc mixed Try.func13 c13 (by rw [show Try.f13.ntmps=_ from Try.ntmps13];simp) ?_
  unfold m13 r13
  repeat' first|((first|refine Br.dec ?_ ?_|refine Br.eqi ?_ ?_)<;>intro h<;>try (exfalso;omega))|(simp (disch:=first|omega|(simp only [vlen];first|done|omega)) only [↓vAq,vBq,↓reduceIte,Nat.reduceBEq,Nat.reduceEqDiff,Nat.reduceLT,Nat.reduceLeDiff,Nat.reduceAdd,Nat.reduceMul,Nat.reduceSub,reduceCtorEq,Int.reduceToNat])|(refine Br.mk ?_ ?_<;>intro h)|(refine BrN.mk (fun h => ?_) ?_)|(refine AltVC.mk ?_ ?_)
  refine LoopVC.mk (X:=Nat) (fun i=>[(1,.clo f ds),(8,iv .i64 i)]) (fun _=>[]) (fun i=>l.length - i) (fun i=>i≤l.length∧∀ j,j<i→p (l.getD j default)=false) 0 ⟨by omega,by omega⟩ ?_ ?_
  · (simp (disch:=first|omega|(simp only [vlen];first|done|omega)) only [Fits_u,Fits_m,Fits_nil,List.length_append,↓vAq,vBq,↓reduceIte,Nat.reduceBEq,Nat.reduceEqDiff,Nat.reduceLT,Nat.reduceLeDiff,Nat.reduceAdd,Nat.reduceMul,Nat.reduceSub,reduceCtorEq,Int.reduceToNat]<;>(repeat' first|rfl|apply And.intro))
  · rintro i ⟨hi,hn⟩
    repeat' first|((first|refine Br.dec ?_ ?_|refine Br.eqi ?_ ?_)<;>intro h<;>try (exfalso;omega))|(simp (disch:=first|omega|(simp only [vlen];first|done|omega)) only [↓vAq,vBq,↓reduceIte,Nat.reduceBEq,Nat.reduceEqDiff,Nat.reduceLT,Nat.reduceLeDiff,Nat.reduceAdd,Nat.reduceMul,Nat.reduceSub,reduceCtorEq,Int.reduceToNat])|(refine Br.mk ?_ ?_<;>intro h)|(refine BrN.mk (fun h => ?_) ?_)|(refine AltVC.mk ?_ ?_)
    · rw [cl_views hd, cl_owned hd]
      refine CallVC.eq (hp (l.getD i default) (getD_mem' (by omega))) ?_
      repeat' first|((first|refine Br.dec ?_ ?_|refine Br.eqi ?_ ?_)<;>intro h<;>try (exfalso;omega))|(simp (disch:=first|omega|(simp only [vlen];first|done|omega)) only [↓vAq,vBq,↓reduceIte,Nat.reduceBEq,Nat.reduceEqDiff,Nat.reduceLT,Nat.reduceLeDiff,Nat.reduceAdd,Nat.reduceMul,Nat.reduceSub,reduceCtorEq,Int.reduceToNat])|(refine Br.mk ?_ ?_<;>intro h)|(refine BrN.mk (fun h => ?_) ?_)|(refine AltVC.mk ?_ ?_)
      · refine fin_mk (viEq ?_)
        rw [idxOf_hit (by omega) (by assumption) hn]
      · refine loopK.mk (i+1) (by simp (disch:=first|omega|(simp only [vlen];first|done|omega)) only [↓vAq,vBq,↓reduceIte,Nat.reduceBEq,Nat.reduceEqDiff,Nat.reduceLT,Nat.reduceLeDiff,Nat.reduceAdd,Nat.reduceMul,Nat.reduceSub,reduceCtorEq,Int.reduceToNat]) ⟨by omega,fun j hj => ?_⟩ (by omega) ?_
        · by_cases e:j=i
          · subst e;assumption
          · exact hn j (by omega)
        · (simp (disch:=first|omega|(simp only [vlen];first|done|omega)) only [Fits_u,Fits_m,Fits_nil,List.length_append,↓vAq,vBq,↓reduceIte,Nat.reduceBEq,Nat.reduceEqDiff,Nat.reduceLT,Nat.reduceLeDiff,Nat.reduceAdd,Nat.reduceMul,Nat.reduceSub,reduceCtorEq,Int.reduceToNat]<;>(repeat' first|rfl|apply And.intro))
          rw [cl_trims hd]
    · refine fin_mk (viEq ?_)
      rw [idxOf_miss (by omega) hn]
end Go.Proofs.Ytpgomgjpliallaa

namespace Go.Proofs.Ytpgomgjpliallaa
open Go.Dm
def nodeCode (k i:Int) (n:Dm.Node):Int :=
  if n.kind<1∨6<n.kind then 6
  else if n.kind=3∧(n.a<0∨k≤n.a) then 2
  else if 4≤n.kind∧(n.a<0∨i≤n.a) then 2
  else if (n.kind=4∨n.kind=5)∧(n.b<0∨i≤n.b) then 2
  else 0
def rightF (k:Int):Nat→List Dm.Node→Int
  | _,[]=>0
  | i,n::r=>if nodeCode k i n=0 then rightF k (i+1) r else nodeCode k i n
def sentCode (k:Int) (l:List Dm.Node):Int:=if k<1∨3<k∨l.length=0∨9<l.length then 1 else rightF k 0 l
theorem dropN {l:List Dm.Node} {i:Nat} (h:i<l.length):l.drop i=l.getD i default::l.drop (i+1):=by
  rw [List.drop_eq_getElem_cons h];simp [List.getD,h]
theorem right_step {k:Int} {l:List Dm.Node} {i:Nat} (h:i<l.length) (hc:nodeCode k i (l.getD i default)=0):rightF k i (l.drop i)=rightF k (i+1) (l.drop (i+1)):=by
  rw [dropN h,rightF,if_pos hc]
theorem right_hit {k:Int} {l:List Dm.Node} {i:Nat} (h:i<l.length) (hc:¬ nodeCode k i (l.getD i default)=0):rightF k i (l.drop i)=nodeCode k i (l.getD i default):=by
  rw [dropN h,rightF,if_neg hc]
theorem right_end {k:Int} {l:List Dm.Node} {i:Nat} (h:l.length≤i):rightF k i (l.drop i)=0:=by
  rw [List.drop_eq_nil_of_le h];rfl
set_option maxRecDepth 10000 in
set_option maxHeartbeats 4000000 in
theorem before_spec (x i:Int):Dm.Spec Try.prog 28 [iv .i64 x,.ip [iv .i64 i] 0] (·=.v (.bool (decide (0≤x∧x<i)))):=by
  refine spec_of_vc mixed Try.func28 c28 (by rw [show Try.f28.ntmps=_ from Try.ntmps28];simp) ?_
  unfold m28 r28
  repeat' first|((first|refine Br.dec ?_ ?_|refine Br.eqi ?_ ?_)<;>intro h<;>try (exfalso;omega))|(simp (disch:=first|omega|(simp only [vlen];first|done|omega)) only [↓vAq,vBq,↓reduceIte,Nat.reduceBEq,Nat.reduceEqDiff,Nat.reduceLT,Nat.reduceLeDiff,Nat.reduceAdd,Nat.reduceMul,Nat.reduceSub,reduceCtorEq,Int.reduceToNat])|(refine Br.mk ?_ ?_<;>intro h)|(refine BrN.mk (fun h => ?_) ?_)|(refine AltVC.mk ?_ ?_)
  · exact fin_mk (vbEq (dec_iff (by omega)))
  · exact fin_mk (vbEq (decide_eq_false (by omega)).symm)
set_option maxRecDepth 10000 in
set_option maxHeartbeats 4000000 in
theorem fault_spec (k i:Int) (n:Dm.Node):Dm.Spec Try.prog 20 [iv .i64 k,iv .i64 i,.ag (nodD n)] (·=iv .i64 (nodeCode k i n)):=by
  refine spec_of_vc mixed Try.func20 c20 (by rw [show Try.f20.ntmps=_ from Try.ntmps20];simp) ?_
  unfold m20 r20
  repeat' first|((first|refine Br.dec ?_ ?_|refine Br.eqi ?_ ?_)<;>intro h<;>try (exfalso;omega))|(simp (disch:=first|omega|(simp only [vlen];first|done|omega)) only [↓vAq,vBq,↓reduceIte,Nat.reduceBEq,Nat.reduceEqDiff,Nat.reduceLT,Nat.reduceLeDiff,Nat.reduceAdd,Nat.reduceMul,Nat.reduceSub,reduceCtorEq,Int.reduceToNat])|(refine Br.mk ?_ ?_<;>intro h)|(refine BrN.mk (fun h => ?_) ?_)|(refine AltVC.mk ?_ ?_)
  all_goals repeat' first
    | exact fin_mk (viEq (by unfold nodeCode;(repeat' split)<;>omega))
    | (refine CallVC.eqo (before_spec _ _) (by simp (disch := first | omega | (simp only [vlen]; first | done | omega)) only [↓vAq, vBq, ↓reduceIte, Nat.reduceBEq, Nat.reduceEqDiff, Nat.reduceLT, Nat.reduceLeDiff, Nat.reduceAdd, Nat.reduceMul, Nat.reduceSub, reduceCtorEq, Int.reduceToNat]) ?_
       repeat' first|((first|refine Br.dec ?_ ?_|refine Br.eqi ?_ ?_)<;>intro h<;>try (exfalso;omega))|(simp (disch:=first|omega|(simp only [vlen];first|done|omega)) only [↓vAq,vBq,↓reduceIte,Nat.reduceBEq,Nat.reduceEqDiff,Nat.reduceLT,Nat.reduceLeDiff,Nat.reduceAdd,Nat.reduceMul,Nat.reduceSub,reduceCtorEq,Int.reduceToNat])|(refine Br.mk ?_ ?_<;>intro h)|(refine BrN.mk (fun h => ?_) ?_)|(refine AltVC.mk ?_ ?_))
set_option maxRecDepth 10000 in
set_option maxHeartbeats 4000000 in
theorem sCheck_spec (k:Int) (l:List Dm.Node) (hl:l.length≤9223372036854775807):Dm.Spec Try.prog 9 [iv .i64 k,.sl 3 (tbl nodD l)] (·=iv .i64 (sentCode k l)):=by
  refine spec_of_vc mixed Try.func9 c9 (by rw [show Try.f9.ntmps=_ from Try.ntmps9];simp) ?_
  unfold m9 r9
  repeat' first|((first|refine Br.dec ?_ ?_|refine Br.eqi ?_ ?_)<;>intro h<;>try (exfalso;omega))|(simp (disch:=first|omega|(simp only [vlen];first|done|omega)) only [↓vAq,vBq,↓reduceIte,Nat.reduceBEq,Nat.reduceEqDiff,Nat.reduceLT,Nat.reduceLeDiff,Nat.reduceAdd,Nat.reduceMul,Nat.reduceSub,reduceCtorEq,Int.reduceToNat])|(refine Br.mk ?_ ?_<;>intro h)|(refine BrN.mk (fun h => ?_) ?_)|(refine AltVC.mk ?_ ?_)
  all_goals first
    | exact fin_mk (viEq (by rw [sentCode,if_pos (by omega)]))
    | skip
  refine LoopVC.mk (X:=Nat) (fun i=>[(26,iv .i64 i)]) (fun _=>[]) (fun i=>l.length - i) (fun i=>i≤l.length∧rightF k 0 l=rightF k i (l.drop i)) 0 ⟨by omega,by simp⟩ ?_ ?_
  · (simp (disch:=first|omega|(simp only [vlen];first|done|omega)) only [Fits_u,Fits_m,Fits_nil,List.length_append,↓vAq,vBq,↓reduceIte,Nat.reduceBEq,Nat.reduceEqDiff,Nat.reduceLT,Nat.reduceLeDiff,Nat.reduceAdd,Nat.reduceMul,Nat.reduceSub,reduceCtorEq,Int.reduceToNat]<;>(repeat' first|rfl|apply And.intro))
  · rintro i ⟨h1,h2⟩
    repeat' first|((first|refine Br.dec ?_ ?_|refine Br.eqi ?_ ?_)<;>intro h<;>try (exfalso;omega))|(simp (disch:=first|omega|(simp only [vlen];first|done|omega)) only [↓vAq,vBq,↓reduceIte,Nat.reduceBEq,Nat.reduceEqDiff,Nat.reduceLT,Nat.reduceLeDiff,Nat.reduceAdd,Nat.reduceMul,Nat.reduceSub,reduceCtorEq,Int.reduceToNat])|(refine Br.mk ?_ ?_<;>intro h)|(refine BrN.mk (fun h => ?_) ?_)|(refine AltVC.mk ?_ ?_)
    · refine CallVC.eq (fault_spec k i (l.getD i default)) ?_
      repeat' first|((first|refine Br.dec ?_ ?_|refine Br.eqi ?_ ?_)<;>intro h<;>try (exfalso;omega))|(simp (disch:=first|omega|(simp only [vlen];first|done|omega)) only [↓vAq,vBq,↓reduceIte,Nat.reduceBEq,Nat.reduceEqDiff,Nat.reduceLT,Nat.reduceLeDiff,Nat.reduceAdd,Nat.reduceMul,Nat.reduceSub,reduceCtorEq,Int.reduceToNat])|(refine Br.mk ?_ ?_<;>intro h)|(refine BrN.mk (fun h => ?_) ?_)|(refine AltVC.mk ?_ ?_)
      · exact loopK.mk (i+1) (by simp (disch:=first|omega|(simp only [vlen];first|done|omega)) only [↓vAq,vBq,↓reduceIte,Nat.reduceBEq,Nat.reduceEqDiff,Nat.reduceLT,Nat.reduceLeDiff,Nat.reduceAdd,Nat.reduceMul,Nat.reduceSub,reduceCtorEq,Int.reduceToNat]) ⟨by omega,by rw [h2,right_step (by omega) (by assumption)]⟩ (by omega) (by (simp (disch:=first|omega|(simp only [vlen];first|done|omega)) only [Fits_u,Fits_m,Fits_nil,List.length_append,↓vAq,vBq,↓reduceIte,Nat.reduceBEq,Nat.reduceEqDiff,Nat.reduceLT,Nat.reduceLeDiff,Nat.reduceAdd,Nat.reduceMul,Nat.reduceSub,reduceCtorEq,Int.reduceToNat]<;>(repeat' first|rfl|apply And.intro)))
      · exact fin_mk (viEq (by rw [sentCode,if_neg (by omega),h2,right_hit (by omega) (by assumption)]))
    · exact fin_mk (viEq (by rw [sentCode,if_neg (by omega),h2,right_end (by omega)]))
set_option maxRecDepth 10000 in
set_option maxHeartbeats 4000000 in
theorem right_spec (k:Int) (l:List Dm.Node) (hl:l.length≤9223372036854775807):Dm.Spec Try.prog 15 [iv .i64 k,.sl 3 (tbl nodD l)] (·=iv .i64 (rightF k 0 l)):=by
  refine spec_of_vc mixed Try.func15 c15 (by rw [show Try.f15.ntmps=_ from Try.ntmps15];simp) ?_
  unfold m15 r15
  repeat' first|((first|refine Br.dec ?_ ?_|refine Br.eqi ?_ ?_)<;>intro h<;>try (exfalso;omega))|(simp (disch:=first|omega|(simp only [vlen];first|done|omega)) only [↓vAq,vBq,↓reduceIte,Nat.reduceBEq,Nat.reduceEqDiff,Nat.reduceLT,Nat.reduceLeDiff,Nat.reduceAdd,Nat.reduceMul,Nat.reduceSub,reduceCtorEq,Int.reduceToNat])|(refine Br.mk ?_ ?_<;>intro h)|(refine BrN.mk (fun h => ?_) ?_)|(refine AltVC.mk ?_ ?_)
  refine LoopVC.mk (X:=Nat) (fun i=>[(9,iv .i64 i)]) (fun _=>[]) (fun i=>l.length - i) (fun i=>i≤l.length∧rightF k 0 l=rightF k i (l.drop i)) 0 ⟨by omega,by simp⟩ ?_ ?_
  · (simp (disch:=first|omega|(simp only [vlen];first|done|omega)) only [Fits_u,Fits_m,Fits_nil,List.length_append,↓vAq,vBq,↓reduceIte,Nat.reduceBEq,Nat.reduceEqDiff,Nat.reduceLT,Nat.reduceLeDiff,Nat.reduceAdd,Nat.reduceMul,Nat.reduceSub,reduceCtorEq,Int.reduceToNat]<;>(repeat' first|rfl|apply And.intro))
  · rintro i ⟨h1,h2⟩
    have hc:nodeCode k i (l.getD i default)=nodeCode k i (l.getD i default):=rfl
    conv at hc=>rhs;unfold nodeCode
    repeat' first|((first|refine Br.dec ?_ ?_|refine Br.eqi ?_ ?_)<;>intro h<;>try (exfalso;omega))|(simp (disch:=first|omega|(simp only [vlen];first|done|omega)) only [↓vAq,vBq,↓reduceIte,Nat.reduceBEq,Nat.reduceEqDiff,Nat.reduceLT,Nat.reduceLeDiff,Nat.reduceAdd,Nat.reduceMul,Nat.reduceSub,reduceCtorEq,Int.reduceToNat])|(refine Br.mk ?_ ?_<;>intro h)|(refine BrN.mk (fun h => ?_) ?_)|(refine AltVC.mk ?_ ?_)
    all_goals first
      | exact fin_mk (viEq (by rw [h2,right_end (by omega)]))
      | exact fin_mk (viEq (by
          have hn:nodeCode k i (l.getD i default)=2∨nodeCode k i (l.getD i default)=6:=by rw [hc];(repeat' split)<;>omega
          rw [h2,right_hit (by omega) (by omega),hc]
          (repeat' split)<;>omega))
      | exact loopK.mk (i+1) (by simp (disch:=first|omega|(simp only [vlen];first|done|omega)) only [↓vAq,vBq,↓reduceIte,Nat.reduceBEq,Nat.reduceEqDiff,Nat.reduceLT,Nat.reduceLeDiff,Nat.reduceAdd,Nat.reduceMul,Nat.reduceSub,reduceCtorEq,Int.reduceToNat]) ⟨by omega,by rw [h2,right_step (by omega) (by rw [hc];(repeat' split)<;>omega)]⟩ (by omega) (by (simp (disch:=first|omega|(simp only [vlen];first|done|omega)) only [Fits_u,Fits_m,Fits_nil,List.length_append,↓vAq,vBq,↓reduceIte,Nat.reduceBEq,Nat.reduceEqDiff,Nat.reduceLT,Nat.reduceLeDiff,Nat.reduceAdd,Nat.reduceMul,Nat.reduceSub,reduceCtorEq,Int.reduceToNat]<;>(repeat' first|rfl|apply And.intro)))
set_option maxRecDepth 10000 in
set_option maxHeartbeats 4000000 in
theorem refSCheck_spec (k:Int) (l:List Dm.Node) (hl:l.length≤9223372036854775807):Dm.Spec Try.prog 5 [iv .i64 k,.sl 3 (tbl nodD l)] (·=iv .i64 (sentCode k l)):=by
  refine spec_of_vc mixed Try.func5 c5 (by rw [show Try.f5.ntmps=_ from Try.ntmps5];simp) ?_
  unfold m5 r5
  repeat' first|((first|refine Br.dec ?_ ?_|refine Br.eqi ?_ ?_)<;>intro h<;>try (exfalso;omega))|(simp (disch:=first|omega|(simp only [vlen];first|done|omega)) only [↓vAq,vBq,↓reduceIte,Nat.reduceBEq,Nat.reduceEqDiff,Nat.reduceLT,Nat.reduceLeDiff,Nat.reduceAdd,Nat.reduceMul,Nat.reduceSub,reduceCtorEq,Int.reduceToNat])|(refine Br.mk ?_ ?_<;>intro h)|(refine BrN.mk (fun h => ?_) ?_)|(refine AltVC.mk ?_ ?_)
  all_goals first
    | exact fin_mk (viEq (by rw [sentCode,if_pos (by omega)]))
    | skip
  refine CallVC.eq (right_spec k l hl) ?_
  repeat' first|((first|refine Br.dec ?_ ?_|refine Br.eqi ?_ ?_)<;>intro h<;>try (exfalso;omega))|(simp (disch:=first|omega|(simp only [vlen];first|done|omega)) only [↓vAq,vBq,↓reduceIte,Nat.reduceBEq,Nat.reduceEqDiff,Nat.reduceLT,Nat.reduceLeDiff,Nat.reduceAdd,Nat.reduceMul,Nat.reduceSub,reduceCtorEq,Int.reduceToNat])|(refine Br.mk ?_ ?_<;>intro h)|(refine BrN.mk (fun h => ?_) ?_)|(refine AltVC.mk ?_ ?_)
  exact fin_mk (viEq (by rw [sentCode,if_neg (by omega)]))
end Go.Proofs.Ytpgomgjpliallaa

namespace Go.Proofs.Ytpgomgjpliallaa
open Go.Dm
theorem and_one (n:Nat):n &&& 1=n % 2:=by
  have:=Nat.and_two_pow_sub_one_eq_mod n 1
  simpa using this
theorem bit_eq {S n:Nat}:decide ((((S >>> n) &&& 1:Nat):Int)=1)=S.testBit n:=by
  rw [and_one,Nat.testBit_eq_decide_div_mod_eq,Nat.shiftRight_eq_div_pow]
  exact dec_iff (by omega)
def setOf (f:Nat→Bool):Nat→Nat
  | 0=>0
  | n+1=>setOf f n ||| if f n=true then 2 ^ n else 0
theorem setOf_lt {f:Nat→Bool}:∀ {n:Nat},setOf f n<2 ^ n
  | 0=>by simp [setOf]
  | n+1=>by
    have:=@setOf_lt f n
    have h2:2 ^ n<2 ^ (n+1):=Nat.pow_lt_pow_right (by omega) (by omega)
    rw [setOf]
    split
    · exact Nat.or_lt_two_pow (by omega) h2
    · rw [Nat.or_zero];omega
theorem setOf_bit {f:Nat→Bool} {i:Nat}:∀ {n:Nat},(setOf f n).testBit i=(decide (i<n) && f i)
  | 0=>by simp [setOf]
  | n + 1 => by
    rw [setOf,Nat.testBit_or,setOf_bit]
    by_cases e:i=n
    · subst e
      by_cases h:f i=true
      · rw [if_pos h,Nat.testBit_two_pow_self,h];simp
      · rw [if_neg h,Nat.zero_testBit];simp at h;simp [h]
    · have h1:decide (i<n+1)=decide (i<n):=dec_iff (by omega)
      rw [h1]
      split
      · rw [Nat.testBit_two_pow_of_ne (by omega),Bool.or_false]
      · rw [Nat.zero_testBit,Bool.or_false]
theorem setOf_add {f:Nat→Bool} {n:Nat} (h:f n=true):setOf f (n+1)=setOf f n+2 ^ n:=by
  rw [setOf,if_pos h]
  have:=Nat.two_pow_add_eq_or_of_lt (@setOf_lt f n) 1
  rw [Nat.mul_one] at this
  rw [Nat.add_comm,this,Nat.or_comm]
theorem setOf_skip {f:Nat→Bool} {n:Nat} (h:¬ f n=true):setOf f (n+1)=setOf f n:=by
  rw [setOf,if_neg h,Nat.or_zero]
theorem set_ext {S:Nat} {f:Nat→Bool} {n:Nat} (hS:S<2 ^ n) (h:∀ i,i<n→S.testBit i=f i):S=setOf f n:=by
  apply Nat.eq_of_testBit_eq
  intro i
  rw [setOf_bit]
  by_cases e:i<n
  · rw [h i e,decide_eq_true e,Bool.true_and]
  · rw [decide_eq_false e,Bool.false_and]
    exact Nat.testBit_lt_two_pow (Nat.lt_of_lt_of_le hS (Nat.pow_le_pow_right (by omega) (by omega)))
theorem or_bit {S l x:Nat}:(S ||| 2 ^ l).testBit x=(S.testBit x || decide (x=l)):=by
  rw [Nat.testBit_or]
  by_cases e:x=l
  · subst e;rw [Nat.testBit_two_pow_self];simp
  · rw [Nat.testBit_two_pow_of_ne (by omega)];simp [e]
theorem orN {S T:Nat} (hS:(S:Int)≤4294967295) (hT:(T:Int)≤4294967295):IntKind.u32.wrap ((BitVec.ofInt IntKind.u32.bits (S:Int) ||| BitVec.ofInt IntKind.u32.bits (T:Int)).toNat:Int)=((S ||| T:Nat):Int):=by
  rw [or32 (by omega) (by omega),Int.toNat_natCast,Int.toNat_natCast]
theorem shlN {n:Nat} (hn:n≤31):IntKind.u32.wrap (1 * 2 ^ (min n IntKind.u32.bits))=((2 ^ n:Nat):Int):=by
  have:=shl32_1 (n:=n) (by omega)
  rwa [Int.toNat_natCast] at this
theorem shr_le {S n:Nat}:S >>> n≤S:=by rw [Nat.shiftRight_eq_div_pow];exact Nat.div_le_self _ _
theorem pow_le31 {n:Nat} (hn:n≤31):((2 ^ n:Nat):Int)≤2147483648:=by
  have h:2 ^ n≤2 ^ 31:=Nat.pow_le_pow_right (by omega) hn
  omega
end Go.Proofs.Ytpgomgjpliallaa

namespace Go.Proofs.Ytpgomgjpliallaa
open Go.Dm
theorem succ_all {p:Nat→Prop} {i:Nat} (h:∀ j,j<i→p j) (hi:p i):∀ j,j<i+1→p j:=fun j hj=>by
  by_cases e:j=i
  · rw [e];exact hi
  · exact h j (by omega)
structure VM (m:Dm.Machine):Prop where
  n:1≤m.n∧m.n≤7
  k:1≤m.k∧m.k≤3
  len:(m.next.length:Int)=m.n
  row:∀ l,l ∈ m.next→(l.length:Int)=m.k
  to:∀ l,l ∈ m.next→∀ x,x ∈ l→0≤x∧x<m.n
  start:0≤m.start∧m.start<m.n
  final:0≤m.final∧m.final.toNat<2 ^ m.n.toNat
end Go.Proofs.Ytpgomgjpliallaa

namespace Go.Proofs.Ytpgomgjpliallaa
open Go.Dm
theorem getD_ok {k:Int} {w:List Int} (hk:1≤k) (h:∀ s,s ∈ w→0≤s∧s<k) (i:Nat):0≤w.getD i 0∧w.getD i 0<k:=by
  by_cases hi:i<w.length
  · exact h _ (getD_mem' hi)
  · rw [show w.getD i 0=0 by simp [List.getD,show w[i]?=none from List.getElem?_eq_none (by omega)]];omega
def mstep (m:Dm.Machine) (p s:Int):Int:=(m.next.getD p.toNat default).getD s.toNat 0
def leads (m:Dm.Machine) (p:Int) (w:List Int):Int:=w.foldl (mstep m) p
theorem VM.nx {m:Dm.Machine} (hv:VM m) {p:Int} (hp:0≤p∧p<m.n):((m.next.getD p.toNat default).length:Int)=m.k :=
  hv.row _ (getD_mem' (by have:=hv.len;omega))
theorem VM.st {m:Dm.Machine} (hv:VM m) {p s:Int} (hp:0≤p∧p<m.n):0≤mstep m p s∧mstep m p s<m.n:=by
  have:=hv.len
  exact getD_ok (by have:=hv.n;omega) (hv.to _ (getD_mem' (by omega))) _
end Go.Proofs.Ytpgomgjpliallaa

namespace Go.Proofs.Ytpgomgjpliallaa
open Go.Dm
def bt (n:Nat) (f:Nat→Bool):List Bool:=(List.range n).map f
theorem bt_rep {n:Nat}:List.replicate n false=bt n fun _=>false:=by apply List.ext_getElem<;>simp [bt]
theorem bt_len {n:Nat} {f:Nat→Bool}:(bt n f).length=n:=by simp [bt]
theorem bt_get {n i:Nat} {f:Nat→Bool} {d:Bool} (h:i<n):(bt n f).getD i d=f i:=by simp [bt,List.getD,h]
theorem bt_set {n i:Nat} {f:Nat→Bool} {x:Bool}:(bt n f).set i x=bt n fun j=>if j=i then x else f j:=by
  apply List.ext_getElem
  · simp [bt]
  · intro j h1 h2
    simp only [bt,List.getElem_set,List.getElem_map,List.getElem_range]
    by_cases e:i=j
    · rw [if_pos e,if_pos e.symm]
    · rw [if_neg e,if_neg (fun h=>e h.symm)]
theorem bt_ext {n:Nat} {f g:Nat→Bool} (h:∀ j,j<n→f j=g j):bt n f=bt n g:=by
  unfold bt
  exact List.map_congr_left fun j hj=>h j (List.mem_range.mp hj)
theorem obBt {n:Nat} {f g:Nat→Bool} {a b:Bool} {c:Kd} (h:∀ j,j<n→f j=g j):some (⟨1,bls (bt n f),a,b,c⟩:Ob)=some ⟨1,bls (bt n g),a,b,c⟩:=by rw [bt_ext h]
theorem viewO_bt {N:Nat} {f:Nat→Bool}:viewO (some ⟨1,bls (bt N f),true,false,.arr⟩) 1 0 N=.sl 1 (bls (bt N f)):=viewO_all (by simp [bt_len,bls])
theorem md {n i j:Nat} (h:j<n):(i * n+j) % n=j:=by
  rw [Nat.mul_comm,Nat.mul_add_mod,Nat.mod_eq_of_lt h]
section
variable {l:List Dm.Node} {w:List Int} {n k size i:Nat}
variable {K:Int}
end
section
variable {l:List Dm.Node} {w:List Int} {N k:Nat} {s:S} {τ n:Nat} {ob:Ob} {f:Nat→Nat} {ι:List Nat}
end
end Go.Proofs.Ytpgomgjpliallaa

namespace Go.Proofs.Ytpgomgjpliallaa
open Go.Dm
theorem nodeCode_ok {k : Int} {i : Nat} {n : Dm.Node} : nodeCode k i n = 0 ↔ NodeOk k i n := by
  unfold nodeCode NodeOk
  constructor
  · intro h
    split at h
    · omega
    · split at h
      · omega
      · split at h
        · omega
        · split at h
          · omega
          · refine ⟨by omega,by omega,fun h=>by omega,fun h=>by omega,fun h=>by omega⟩
  · rintro ⟨h1,h2,h3,h4,h5⟩
    rw [if_neg (by omega),if_neg (by omega),if_neg (by omega),if_neg (by omega)]
theorem rightF_ok {k : Int} {l : List Dm.Node} : rightF k 0 l = 0 ↔ NodesOk k l := by
  have aux:∀ i,i≤l.length→(rightF k i (l.drop i)=0 ↔ ∀ j,i≤j→j<l.length→NodeOk k j (l.getD j default)):=by
    intro i hi
    obtain ⟨d,hd⟩ : ∃ d,d=l.length - i:=⟨_,rfl⟩
    induction d generalizing i with
    | zero =>
      rw [right_end (by omega)]
      exact ⟨fun _ j h1 h2=>by omega,fun _=>rfl⟩
    | succ d ih =>
      have ih:=ih (i+1) (by omega) (by omega)
      by_cases hc:nodeCode k i (l.getD i default)=0
      · rw [right_step (by omega) hc,ih]
        constructor
        · intro h j h1 h2
          by_cases e:j=i
          · subst e;exact nodeCode_ok.mp hc
          · exact h j (by omega) h2
        · exact fun h j h1 h2=>h j (by omega) h2
      · rw [right_hit (by omega) hc]
        exact ⟨fun h=>absurd h hc,fun h=>absurd (nodeCode_ok.mpr (h i (Nat.le_refl _) (by omega))) hc⟩
  have:=aux 0 (Nat.zero_le _)
  rw [List.drop_zero] at this
  exact this.trans ⟨fun h i hi=>h i (Nat.zero_le _) hi,fun h j _ hj=>h j hj⟩
theorem sent_ok {k:Int} {l:List Dm.Node} (h:sentCode k l=0):(1≤k∧k≤3)∧(0<l.length∧l.length≤9)∧NodesOk k l:=by
  unfold sentCode at h
  split at h
  · omega
  · exact ⟨by omega,by omega,rightF_ok.mp h⟩
end Go.Proofs.Ytpgomgjpliallaa

namespace Go.Dm
theorem kBldS_ii {cells:List D} {off:Nat} {k k':IntKind} {a b:Int} {go:List D→Prop}:kBldS off 2 cells go [.v (.int k a),.v (.int k' b)]=ChkD (off+2≤cells.length) (splice cells off [.v (.int k a),.v (.int k' b)]) go:=by
  rw [kBldS_n];unfold ChkD;simp [D.one,Value.one]
theorem kBldS_is {cells:List D} {off:Nat} {k:IntKind} {a:Int} {sz:Nat} {es:List (List D)} {go:List D→Prop}:kBldS off 2 cells go [.v (.int k a),.sl sz es]=ChkD (off+2≤cells.length) (splice cells off [.v (.int k a),.sl sz es]) go:=by
  rw [kBldS_n];unfold ChkD;simp [D.one,Value.one]
theorem kBldS_iiis {cells:List D} {off:Nat} {k k' k'':IntKind} {a b c:Int} {sz:Nat} {es:List (List D)} {go:List D→Prop}:kBldS off 4 cells go [.v (.int k a),.v (.int k' b),.v (.int k'' c),.sl sz es]=ChkD (off+4≤cells.length) (splice cells off [.v (.int k a),.v (.int k' b),.v (.int k'' c),.sl sz es]) go:=by
  rw [kBldS_n];unfold ChkD;simp [D.one,Value.one]
section
variable {P:Program} {s:S}
theorem fold_kill {σ τ i o : Nat} {fl : Bool} {K : S → Prop} (h : kFold σ τ i o fl K s) : ∃ s', Gho s (D.kill σ) s' ∧ K s' := by
  unfold kFold kM at h
  split at h
  · next ob hM =>
    unfold kFoldA kM at h
    split at h
    · next ob' hM' =>
      obtain ⟨⟨h1,h1',h2,h3,h4,h6,h7⟩,hk⟩:=h
      unfold kFoldC at hk
      split at hk
      · next υ sz off n hc =>
        obtain ⟨rfl,rfl,rfl,k4,k5,h5,k6⟩:=hk
        exact ⟨_,.fold s υ τ i o n fl ob ob' ⟨h1,h1'⟩ hM hM' h2 h3 h4 h5 h6 h7 hc k4 k5,k6⟩
      · next υ hc =>
        obtain ⟨rfl,k1,k2,k5,k6⟩:=hk
        exact ⟨_,.foldm s υ τ i o fl ob ob' ⟨h1,h1'⟩ hM hM' h2 h3 h4 k1 k2 h6 h7 hc k5,k6⟩
      · exact hk.elim
    · exact h.elim
  · exact h.elim
def callFd (P:Program) (f:FuncId) (d:Option Nat) (K:S→Prop) (σ:Nat) (raws:List D) (s':S):Prop:=CallVC P f d K (raws.map (D.kill σ)) s'
theorem callFd_eq {f:FuncId} {d:Option Nat} {K:S→Prop} {σ:Nat} {raws:List D}:callFd P f d K σ raws s=kD (raws.map (D.kill σ)) (kCallw P f d K s):=(rfl)
theorem nlo_id {τ i o z:Nat} {K:S→Prop} (h:kNlo τ i o z K s) : ∃ s',Gho s (fun d=>d) s'∧K s':=by
  unfold kNlo kM at h
  split at h
  · next ob hM =>
    obtain ⟨⟨h1,h2,h3,h4⟩,hk⟩:=h
    exact ⟨_,.nlo s τ i o z ob h1 hM h2 h3 h4,hk⟩
  · exact h.elim
def callNd (P:Program) (f:FuncId) (d:Option Nat) (K:S→Prop) (raws:List D) (s':S):Prop:=CallVC P f d K (raws.map fun d=>d) s'
theorem callNd_eq {f:FuncId} {d:Option Nat} {K:S→Prop} {raws:List D}:callNd P f d K raws s=kD raws (kCallw P f d K s):=by
  unfold callNd;rw [List.map_id'];rfl
theorem CallVC.nlo {f:FuncId} {d:Option Nat} {K:S→Prop} {raws views:List D} {own:Bool} (τ i o z:Nat) (h:kNlo τ i o z (callNd P f d K raws) s):CallV P f views own raws s d K:=fun _ _=>by
  obtain ⟨s',hg,hk⟩:=nlo_id h
  exact .ghost raws s _ _ hg hk
theorem CallVC.fold {f:FuncId} {d:Option Nat} {K:S→Prop} {raws views:List D} {own:Bool} (σ τ i o:Nat) (fl:Bool) (h:kFold σ τ i o fl (callFd P f d K σ raws) s):CallV P f views own raws s d K:=fun _ _=>by
  obtain ⟨s',hg,hk⟩:=fold_kill h
  exact .ghost raws s _ _ hg hk
def finHx (n0:Nat) (R:D→List (Option Ob)→Prop) (d:D) (s':S):Prop:=FinH n0 R s' d
theorem finHx_eq {n0:Nat} {R:D→List (Option Ob)→Prop} {d:D}:finHx n0 R d s=FinH n0 R s d:=(rfl)
theorem FinH.fold {n0:Nat} {R:D→List (Option Ob)→Prop} {d:D} (σ τ i o:Nat) (fl:Bool) (hd:d.kill σ=d) (h:kFold σ τ i o fl (finHx n0 R d) s):FinH n0 R s d:=by
  obtain ⟨s',hg,s'',g,l,h1,h2,h3,h4,h5⟩:=fold_kill h
  refine ⟨s'',_,l,.step _ _ _ _ _ hg h1,h2,h3,h4,?_⟩
  show R ((g (d.kill σ)).trim l.length) l
  rw [hd];exact h5
end
def vmr:=And.intro @callFd_eq<|And.intro @callNd_eq<|And.intro @finHx_eq<|And.intro @kBldS_ii<|And.intro @kBldS_is @kBldS_iiis
end Go.Dm

namespace Go.Dm
def ltAll:List Nat→Nat→Prop
  | [],_=>True
  | x::r,N=>x<N∧ltAll r N
theorem ltAll_nil {N:Nat}:ltAll [] N=True:=(rfl)
theorem ltAll_cons {x N:Nat} {r:List Nat}:ltAll (x::r) N=(x<N∧ltAll r N):=(rfl)
theorem ltAll_spec {N:Nat}:∀ {l:List Nat},ltAll l N→∀ x,x ∈ l→x<N
  | y::r,h,x,hx=>by
    rcases List.mem_cons.1 hx with rfl|hx
    · exact h.1
    · exact ltAll_spec h.2 x hx
def lentM (s:S) (ι:List Nat):List Nat→List Ob→Prop
  | [],_=>True
  | _,[]=>True
  | x::r,ob::q=>s.M x=some (ob.ren (iotaO ι s.N))∧lentM s ι r q
theorem lentM_nil {s:S} {ι:List Nat} {q:List Ob}:lentM s ι [] q=True:=(rfl)
theorem lentM_cons {s:S} {ι:List Nat} {x:Nat} {r:List Nat} {ob:Ob} {q:List Ob}:lentM s ι (x::r) (ob::q)=(s.M x=some (ob.ren (iotaO ι s.N))∧lentM s ι r q):=(rfl)
theorem lentM_spec {s:S} {ι:List Nat}:∀ {l:List Nat} {q:List Ob},l.length=q.length→lentM s ι l q→∀ k ob,q[k]?=some ob→s.M (l.getD k 0)=some (ob.ren (iotaO ι s.N))
  | [],[],_,_,k,ob,h=>by simp at h
  | [],_::_,hl,_,_,_,_=>by simp at hl
  | _::_,[],hl,_,_,_,_=>by simp at hl
  | x::r,o::q,hl,hm,k,ob,h=>by
    cases k with
    | zero=>simp at h;subst h;exact hm.1
    | succ k=>simpa using lentM_spec (by simpa using hl) hm.2 k ob (by simpa using h)
theorem CallVC.lendE {P:Program} {f:FuncId} {views raws:List D} {own:Bool} {s:S} {d:Option Nat} {K:S→Prop} (ι:List Nat) (ds:List D) (obs:List Ob) {R:D→List (Option Ob)→Prop} (h:SpecH P f ds obs R) (hn:ι.Nodup) (hl:ι.length=obs.length)
    (hq:ltAll ι s.N∧raws=ds.map (D.ren (iotaO ι s.N))∧lentM s ι ι obs) (hk:∀ r l,R r l→K ((s.after ι l).put d (r.ren (iotaO ι s.N)))):CallV P f views own raws s d K :=
  CallVC.lend ι ds obs h hn (ltAll_spec hq.1) hl hq.2.1 (lentM_spec hl hq.2.2) hk
def vle0:=And.intro @ltAll_nil<|And.intro @ltAll_cons<|And.intro @lentM_nil @lentM_cons
end Go.Dm

namespace Go.Proofs.Ytpgomgjpliallaa
open Go.Dm
def a3D (a:A3):List D:=[iv .i64 a.1,iv .i64 a.2.1,iv .i64 a.2.2]
theorem a3D_eq {a:A3}:a3D a=[iv .i64 a.1,iv .i64 a.2.1,iv .i64 a.2.2]:=(rfl)
theorem a3_app {A:List A3} {p:Nat} {c:Int} {q:Nat}:tbl a3D A++[[.v (.int .i64 (p:Nat)),.v (.int .i64 c),.v (.int .i64 (q:Nat))]]=tbl a3D (A++[(p,c,q)]):=by rw [tbl_app];rfl
def rnO (N:Nat) (k:Int) (A:List A3):Ob:=⟨5,[[iv .i64 N,iv .i64 k,.own false 3 (tbl a3D A),iv .u32 0,iv .u32 0]],true,true,.fix⟩
def vrn:=And.intro vmr<|And.intro @a3D_eq<|And.intro @a3_app @tbl_len
set_option maxRecDepth 10000 in
set_option maxHeartbeats 4000000 in
theorem rnAdd_spec (N:Nat) (k:Int) (A:List A3) (hA:A.length≤100000) (p:Nat) (c:Int) (q:Nat):Dm.SpecH Try.prog 26 [iv .i64 p,iv .i64 c,iv .i64 q,.ptr 0 1 0 0] [⟨1,[[.ptr 1 5 0 0]],false,false,.fix⟩,rnO N k A] (fun d o=>d=.tu []∧o=[some ⟨1,[[.ptr 1 5 0 0]],false,false,.fix⟩,some (rnO N k (A++[(p,c,q)]))]):=by
  refine specH_of_vc mixed Try.func26 c26 (by rw [show Try.f26.ntmps=_ from Try.ntmps26];simp) ?_
  unfold m26 r26
  have hl:(A++[(p,c,q)]).length=A.length+1:=by simp
  unfold rnO
  repeat' first|((first|refine Br.dec ?_ ?_|refine Br.eqi ?_ ?_)<;>intro h<;>try (exfalso;omega))|(simp (disch:=first|omega|(simp only [vlen];first|done|omega)) only [hl,vrn,↓vAq,vBq,↓reduceIte,Nat.reduceBEq,Nat.reduceEqDiff,Nat.reduceLT,Nat.reduceLeDiff,Nat.reduceAdd,Nat.reduceMul,Nat.reduceSub,reduceCtorEq,Int.reduceToNat])|(refine Br.mk ?_ ?_<;>intro h)|(refine BrN.mk (fun h => ?_) ?_)|(refine AltVC.mk ?_ ?_)
  refine DrawVC.u ?_
  repeat' first|((first|refine Br.dec ?_ ?_|refine Br.eqi ?_ ?_)<;>intro h<;>try (exfalso;omega))|(simp (disch:=first|omega|(simp only [vlen];first|done|omega)) only [hl,vrn,↓vAq,vBq,↓reduceIte,Nat.reduceBEq,Nat.reduceEqDiff,Nat.reduceLT,Nat.reduceLeDiff,Nat.reduceAdd,Nat.reduceMul,Nat.reduceSub,reduceCtorEq,Int.reduceToNat])|(refine Br.mk ?_ ?_<;>intro h)|(refine BrN.mk (fun h => ?_) ?_)|(refine AltVC.mk ?_ ?_)
  all_goals
    refine FinH.fold 2 1 0 2 true (by simp [D.kill,D.lf,killL]) ?_
    (repeat' first|((first|refine Br.dec ?_ ?_|refine Br.eqi ?_ ?_)<;>intro h<;>try (exfalso;omega))|(simp (disch:=first|omega|(simp only [vlen];first|done|omega)) only [hl,vrn,↓vAq,vBq,↓reduceIte,Nat.reduceBEq,Nat.reduceEqDiff,Nat.reduceLT,Nat.reduceLeDiff,Nat.reduceAdd,Nat.reduceMul,Nat.reduceSub,reduceCtorEq,Int.reduceToNat])|(refine Br.mk ?_ ?_<;>intro h)|(refine BrN.mk (fun h => ?_) ?_)|(refine AltVC.mk ?_ ?_))
    exact finH_mk [some ⟨1,[[.ptr 1 5 0 0]],false,false,.fix⟩,some (rnO N k (A++[(p,c,q)]))] (by simp) (by simp (disch:=first|omega|(simp only [vlen];first|done|omega)) only [vrn,↓vAq,vBq,↓reduceIte,Nat.reduceBEq,Nat.reduceEqDiff,Nat.reduceLT,Nat.reduceLeDiff,Nat.reduceAdd,Nat.reduceMul,Nat.reduceSub,reduceCtorEq,Int.reduceToNat]) (by unfold rnO;simp (disch:=first|omega|(simp only [vlen];first|done|omega)) only [hl,vrn,↓vAq,vBq,↓reduceIte,Nat.reduceBEq,Nat.reduceEqDiff,Nat.reduceLT,Nat.reduceLeDiff,Nat.reduceAdd,Nat.reduceMul,Nat.reduceSub,reduceCtorEq,Int.reduceToNat]) ⟨by simp (disch:=first|omega|(simp only [vlen];first|done|omega)) only [vrn,↓vAq,vBq,↓reduceIte,Nat.reduceBEq,Nat.reduceEqDiff,Nat.reduceLT,Nat.reduceLeDiff,Nat.reduceAdd,Nat.reduceMul,Nat.reduceSub,reduceCtorEq,Int.reduceToNat],rfl⟩
theorem rnAddU {N:Nat} {k:Int} {A:List A3} (hA:A.length≤100000) {p:Nat} {c:Int} {q:Nat}:Dm.SpecH Try.prog 26 [iv .i64 p,iv .i64 c,iv .i64 q,.ptr 0 1 0 0] [⟨1,[[.ptr 1 5 0 0]],false,false,.fix⟩,⟨5,[[iv .i64 N,iv .i64 k,.own false 3 (tbl a3D A),iv .u32 0,iv .u32 0]],true,true,.fix⟩] (fun d o=>d=.tu []∧o=[some ⟨1,[[.ptr 1 5 0 0]],false,false,.fix⟩,some ⟨5,[[iv .i64 N,iv .i64 k,.own false 3 (tbl a3D (A++[(p,c,q)])),iv .u32 0,iv .u32 0]],true,true,.fix⟩]):=rnAdd_spec N k A hA p c q
theorem ar_len {x:Rx}:∀ {b:Nat},(x.ar b).length≤2 * x.ns:=by
  induction x with
  | no=>intro b;simp [Rx.ar,Rx.ns]
  | em=>intro b;simp [Rx.ar,Rx.ns]
  | sy a=>intro b;simp [Rx.ar,Rx.ns]
  | cat x y ihx ihy=>intro b;have:=@ihx (b+2);have:=@ihy (b+2+x.ns);simp [Rx.ar,Rx.ns];omega
  | or x y ihx ihy=>intro b;have:=@ihx (b+2);have:=@ihy (b+2+x.ns);simp [Rx.ar,Rx.ns];omega
  | star x ih=>intro b;have:=@ih (b+2);simp [Rx.ar,Rx.ns];omega
theorem ns_le {k:Int} {l:List Dm.Node} (hv:NodesOk k l):∀ {i:Nat},i<l.length→(rx l i).ns+2≤2 ^ (i+2):=by
  intro i
  induction i using Nat.strongRecOn with
  | _ i ih =>
    intro h
    have up:∀ {a:Nat},a<i→(rx l a).ns+2≤2 ^ (i+1):=fun {a} ha=>Nat.le_trans (ih a ha (by omega)) (Nat.pow_le_pow_right (by omega) (by omega))
    have e:2 ^ (i+2)=2 ^ (i+1) * 2:=Nat.pow_succ ..
    have e1:2 ^ (i+1)=2 ^ i * 2:=Nat.pow_succ ..
    have e0:0<2 ^ i:=Nat.pow_pos (by omega)
    cases rxC hv h with
    | no e k=>rw [e];simp only [Rx.ns];omega
    | em e k=>rw [e];simp only [Rx.ns];omega
    | sy e k=>rw [e];simp only [Rx.ns];omega
    | cat a b ha hb e ea eb k=>rw [e];simp only [Rx.ns];have:=up ha;have:=up hb;omega
    | or a b ha hb e ea eb k=>rw [e];simp only [Rx.ns];have:=up ha;have:=up hb;omega
    | star a ha e ea k=>rw [e];simp only [Rx.ns];have:=up ha;omega
theorem catAr {A:List A3} {x y:Rx} {N:Nat}:(A++x.ar (N+2)++y.ar (N+2+x.ns)++[(N,-1,N+2)]++[(N+2+1,-1,N+2+x.ns)]++[(N+2+x.ns+1,-1,N+1)])=A++(Rx.cat x y).ar N:=by
  rw [show N+2+x.ns+1=N+3+x.ns by omega]
  simp [Rx.ar,List.append_assoc]
theorem orAr {A:List A3} {x y:Rx} {N:Nat}:(A++x.ar (N+2)++y.ar (N+2+x.ns)++[(N,-1,N+2)]++[(N,-1,N+2+x.ns)]++[(N+2+1,-1,N+1)]++[(N+2+x.ns+1,-1,N+1)])=A++(Rx.or x y).ar N:=by
  rw [show N+2+x.ns+1=N+3+x.ns by omega]
  simp [Rx.ar,List.append_assoc]
theorem starAr {A:List A3} {x:Rx} {N:Nat}:(A++x.ar (N+2)++[(N,-1,N+2)]++[(N,-1,N+1)]++[(N+2+1,-1,N+2)]++[(N+2+1,-1,N+1)])=A++(Rx.star x).ar N:=by
  simp [Rx.ar,List.append_assoc]
def snR (k:Int) (x:Rx) (N:Nat) (A:List A3) (d:D) (o:List (Option Ob)):Prop:=d=.tu [iv .i64 N,iv .i64 (N+1:Nat)]∧o=[some (rnO (N+x.ns) k (A++x.ar N))]
theorem sn_fin {k:Int} {x:Rx} {N:Nat} {A:List A3} {s:S} {d:D} (h1:1≤s.N) (h2:fitL s 1 0 [some (rnO (N+x.ns) k (A++x.ar N))]) (hd:d.trim 1=.tu [iv .i64 N,iv .i64 (N+1:Nat)]):FinH 1 (snR k x N A) s d :=
  finH_mk [some (rnO (N+x.ns) k (A++x.ar N))] (Nat.le_refl _) h1 h2 ⟨hd,rfl⟩
set_option maxRecDepth 10000 in
set_option maxHeartbeats 4000000 in
theorem spread_spec (k:Int) (l:List Dm.Node) (hv:NodesOk k l) (hl:l.length≤9) (i:Nat) (hi:i<l.length) (N:Nat) (hN:N+(rx l i).ns≤40000) (A:List A3) (hA:A.length≤2 * N):Dm.SpecH Try.prog 16 [.sl 3 (tbl nodD l),iv .i64 i,.ptr 0 5 0 0] [rnO N k A] (snR k (rx l i) N A):=by
  refine specH_of_vc mixed Try.func16 c16 (by rw [show Try.f16.ntmps=_ from Try.ntmps16];simp) ?_
  unfold m16 r16
  obtain ⟨T1,hT1⟩ : ∃ T,T=N+1:=⟨_,rfl⟩
  obtain ⟨T2,hT2⟩ : ∃ T,T=N+2:=⟨_,rfl⟩
  have hc1:(N:Int)+1=(T1:Int):=by omega
  have hc2:(N:Int)+2=(T2:Int):=by omega
  unfold rnO
  cases rxC hv hi with
  | no e hk =>
    rw [e] at hN ⊢
    simp only [Rx.ns] at hN
    repeat' first|((first|refine Br.dec ?_ ?_|refine Br.eqi ?_ ?_)<;>intro h<;>try (exfalso;omega))|(simp (disch:=first|omega|(simp only [vlen];first|done|omega)) only [hk,hc1,hc2,vrn,↓vAq,vBq,↓reduceIte,Nat.reduceBEq,Nat.reduceEqDiff,Nat.reduceLT,Nat.reduceLeDiff,Nat.reduceAdd,Nat.reduceMul,Nat.reduceSub,reduceCtorEq,Int.reduceToNat])|(refine Br.mk ?_ ?_<;>intro h)|(refine BrN.mk (fun h => ?_) ?_)|(refine AltVC.mk ?_ ?_)
    exact sn_fin (by simp (disch:=first|omega|(simp only [vlen];first|done|omega)) only [vrn,↓vAq,vBq,↓reduceIte,Nat.reduceBEq,Nat.reduceEqDiff,Nat.reduceLT,Nat.reduceLeDiff,Nat.reduceAdd,Nat.reduceMul,Nat.reduceSub,reduceCtorEq,Int.reduceToNat]) (by unfold rnO;simp (disch:=first|omega|(simp only [vlen];first|done|omega)) only [vrn,← hT2,← hT1,Rx.ar,Rx.ns,List.append_nil,↓vAq,vBq,↓reduceIte,Nat.reduceBEq,Nat.reduceEqDiff,Nat.reduceLT,Nat.reduceLeDiff,Nat.reduceAdd,Nat.reduceMul,Nat.reduceSub,reduceCtorEq,Int.reduceToNat]) (by simp (disch:=first|omega|(simp only [vlen];first|done|omega)) only [← hT1,vrn,↓vAq,vBq,↓reduceIte,Nat.reduceBEq,Nat.reduceEqDiff,Nat.reduceLT,Nat.reduceLeDiff,Nat.reduceAdd,Nat.reduceMul,Nat.reduceSub,reduceCtorEq,Int.reduceToNat])
  | em e hk =>
    rw [e] at hN ⊢
    simp only [Rx.ns] at hN
    have had:=rnAdd_spec T2 k A (by omega) N (-1) T1
    unfold rnO at had
    repeat' first|((first|refine Br.dec ?_ ?_|refine Br.eqi ?_ ?_)<;>intro h<;>try (exfalso;omega))|(simp (disch:=first|omega|(simp only [vlen];first|done|omega)) only [hk,hc1,hc2,vrn,↓vAq,vBq,↓reduceIte,Nat.reduceBEq,Nat.reduceEqDiff,Nat.reduceLT,Nat.reduceLeDiff,Nat.reduceAdd,Nat.reduceMul,Nat.reduceSub,reduceCtorEq,Int.reduceToNat])|(refine Br.mk ?_ ?_<;>intro h)|(refine BrN.mk (fun h => ?_) ?_)|(refine AltVC.mk ?_ ?_)
    refine CallVC.lendE [1,0] [iv .i64 N,iv .i64 (-1),iv .i64 T1,.ptr 0 1 0 0] _ had (by simp) (by rfl) (by (simp (disch:=first|omega|(simp only [vlen];first|done|omega)) only [vle0,vrn,↓vAq,vBq,↓reduceIte,Nat.reduceBEq,Nat.reduceEqDiff,Nat.reduceLT,Nat.reduceLeDiff,Nat.reduceAdd,Nat.reduceMul,Nat.reduceSub,reduceCtorEq,Int.reduceToNat]<;>(repeat' first|rfl|apply And.intro))) ?_
    rintro _ _ ⟨rfl,rfl⟩
    repeat' first|((first|refine Br.dec ?_ ?_|refine Br.eqi ?_ ?_)<;>intro h<;>try (exfalso;omega))|(simp (disch:=first|omega|(simp only [vlen];first|done|omega)) only [hk,hc1,hc2,vrn,↓vAq,vBq,↓reduceIte,Nat.reduceBEq,Nat.reduceEqDiff,Nat.reduceLT,Nat.reduceLeDiff,Nat.reduceAdd,Nat.reduceMul,Nat.reduceSub,reduceCtorEq,Int.reduceToNat])|(refine Br.mk ?_ ?_<;>intro h)|(refine BrN.mk (fun h => ?_) ?_)|(refine AltVC.mk ?_ ?_)
    exact sn_fin (by simp (disch:=first|omega|(simp only [vlen];first|done|omega)) only [vrn,↓vAq,vBq,↓reduceIte,Nat.reduceBEq,Nat.reduceEqDiff,Nat.reduceLT,Nat.reduceLeDiff,Nat.reduceAdd,Nat.reduceMul,Nat.reduceSub,reduceCtorEq,Int.reduceToNat]) (by unfold rnO;simp (disch:=first|omega|(simp only [vlen];first|done|omega)) only [vrn,← hT2,← hT1,Rx.ar,Rx.ns,↓vAq,vBq,↓reduceIte,Nat.reduceBEq,Nat.reduceEqDiff,Nat.reduceLT,Nat.reduceLeDiff,Nat.reduceAdd,Nat.reduceMul,Nat.reduceSub,reduceCtorEq,Int.reduceToNat]) (by simp (disch:=first|omega|(simp only [vlen];first|done|omega)) only [← hT1,vrn,↓vAq,vBq,↓reduceIte,Nat.reduceBEq,Nat.reduceEqDiff,Nat.reduceLT,Nat.reduceLeDiff,Nat.reduceAdd,Nat.reduceMul,Nat.reduceSub,reduceCtorEq,Int.reduceToNat])
  | sy e hk =>
    rw [e] at hN ⊢
    simp only [Rx.ns] at hN
    have had:=rnAdd_spec T2 k A (by omega) N (l.getD i default).a T1
    unfold rnO at had
    repeat' first|((first|refine Br.dec ?_ ?_|refine Br.eqi ?_ ?_)<;>intro h<;>try (exfalso;omega))|(simp (disch:=first|omega|(simp only [vlen];first|done|omega)) only [hk,hc1,hc2,vrn,↓vAq,vBq,↓reduceIte,Nat.reduceBEq,Nat.reduceEqDiff,Nat.reduceLT,Nat.reduceLeDiff,Nat.reduceAdd,Nat.reduceMul,Nat.reduceSub,reduceCtorEq,Int.reduceToNat])|(refine Br.mk ?_ ?_<;>intro h)|(refine BrN.mk (fun h => ?_) ?_)|(refine AltVC.mk ?_ ?_)
    refine CallVC.lendE [1,0] [iv .i64 N,iv .i64 (l.getD i default).a,iv .i64 T1,.ptr 0 1 0 0] _ had (by simp) (by rfl) (by (simp (disch:=first|omega|(simp only [vlen];first|done|omega)) only [vle0,vrn,↓vAq,vBq,↓reduceIte,Nat.reduceBEq,Nat.reduceEqDiff,Nat.reduceLT,Nat.reduceLeDiff,Nat.reduceAdd,Nat.reduceMul,Nat.reduceSub,reduceCtorEq,Int.reduceToNat]<;>(repeat' first|rfl|apply And.intro))) ?_
    rintro _ _ ⟨rfl,rfl⟩
    repeat' first|((first|refine Br.dec ?_ ?_|refine Br.eqi ?_ ?_)<;>intro h<;>try (exfalso;omega))|(simp (disch:=first|omega|(simp only [vlen];first|done|omega)) only [hk,hc1,hc2,vrn,↓vAq,vBq,↓reduceIte,Nat.reduceBEq,Nat.reduceEqDiff,Nat.reduceLT,Nat.reduceLeDiff,Nat.reduceAdd,Nat.reduceMul,Nat.reduceSub,reduceCtorEq,Int.reduceToNat])|(refine Br.mk ?_ ?_<;>intro h)|(refine BrN.mk (fun h => ?_) ?_)|(refine AltVC.mk ?_ ?_)
    exact sn_fin (by simp (disch:=first|omega|(simp only [vlen];first|done|omega)) only [vrn,↓vAq,vBq,↓reduceIte,Nat.reduceBEq,Nat.reduceEqDiff,Nat.reduceLT,Nat.reduceLeDiff,Nat.reduceAdd,Nat.reduceMul,Nat.reduceSub,reduceCtorEq,Int.reduceToNat]) (by unfold rnO;simp (disch:=first|omega|(simp only [vlen];first|done|omega)) only [vrn,← hT2,← hT1,Rx.ar,Rx.ns,↓vAq,vBq,↓reduceIte,Nat.reduceBEq,Nat.reduceEqDiff,Nat.reduceLT,Nat.reduceLeDiff,Nat.reduceAdd,Nat.reduceMul,Nat.reduceSub,reduceCtorEq,Int.reduceToNat]) (by simp (disch:=first|omega|(simp only [vlen];first|done|omega)) only [← hT1,vrn,↓vAq,vBq,↓reduceIte,Nat.reduceBEq,Nat.reduceEqDiff,Nat.reduceLT,Nat.reduceLeDiff,Nat.reduceAdd,Nat.reduceMul,Nat.reduceSub,reduceCtorEq,Int.reduceToNat])
  | cat a b ha hb e ea eb hk =>
    rw [e] at hN ⊢
    simp only [Rx.ns] at hN
    have hok:=hv i hi
    have hai:(l.getD i default).a=(a:Int):=by have:=hok.2.2.2.1 (by omega);omega
    have hbi:(l.getD i default).b=(b:Int):=by have:=hok.2.2.2.2 (by omega);omega
    have lx:=@ar_len (rx l a) T2
    have ly:=@ar_len (rx l b) (T2+(rx l a).ns)
    repeat' first|((first|refine Br.dec ?_ ?_|refine Br.eqi ?_ ?_)<;>intro h<;>try (exfalso;omega))|(simp (disch:=first|omega|(simp only [vlen];first|done|omega)) only [hk,hai,hbi,hc1,hc2,vrn,↓vAq,vBq,↓reduceIte,Nat.reduceBEq,Nat.reduceEqDiff,Nat.reduceLT,Nat.reduceLeDiff,Nat.reduceAdd,Nat.reduceMul,Nat.reduceSub,reduceCtorEq,Int.reduceToNat])|(refine Br.mk ?_ ?_<;>intro h)|(refine BrN.mk (fun h => ?_) ?_)|(refine AltVC.mk ?_ ?_)
    have sa:=spread_spec k l hv hl a (by omega) T2 (by omega) (A) (by (try simp only [List.length_append]);omega)
    unfold rnO at sa
    refine CallVC.lendE [0] [.sl 3 (tbl nodD l),iv .i64 a,.ptr 0 5 0 0] _ sa (by simp) (by rfl) (by (simp (disch:=first|omega|(simp only [vlen];first|done|omega)) only [vle0,vrn,↓vAq,vBq,↓reduceIte,Nat.reduceBEq,Nat.reduceEqDiff,Nat.reduceLT,Nat.reduceLeDiff,Nat.reduceAdd,Nat.reduceMul,Nat.reduceSub,reduceCtorEq,Int.reduceToNat]<;>(repeat' first|rfl|apply And.intro))) ?_
    rintro _ _ ⟨rfl,rfl⟩
    unfold rnO
    repeat' first|((first|refine Br.dec ?_ ?_|refine Br.eqi ?_ ?_)<;>intro h<;>try (exfalso;omega))|(simp (disch:=first|omega|(simp only [vlen];first|done|omega)) only [hk,hai,hbi,hc1,hc2,vrn,↓vAq,vBq,↓reduceIte,Nat.reduceBEq,Nat.reduceEqDiff,Nat.reduceLT,Nat.reduceLeDiff,Nat.reduceAdd,Nat.reduceMul,Nat.reduceSub,reduceCtorEq,Int.reduceToNat])|(refine Br.mk ?_ ?_<;>intro h)|(refine BrN.mk (fun h => ?_) ?_)|(refine AltVC.mk ?_ ?_)
    have sb:=spread_spec k l hv hl b (by omega) (T2+(rx l a).ns) (by omega) (A++(rx l a).ar T2) (by (try simp only [List.length_append]);omega)
    unfold rnO at sb
    refine CallVC.lendE [0] [.sl 3 (tbl nodD l),iv .i64 b,.ptr 0 5 0 0] _ sb (by simp) (by rfl) (by (simp (disch:=first|omega|(simp only [vlen];first|done|omega)) only [vle0,vrn,↓vAq,vBq,↓reduceIte,Nat.reduceBEq,Nat.reduceEqDiff,Nat.reduceLT,Nat.reduceLeDiff,Nat.reduceAdd,Nat.reduceMul,Nat.reduceSub,reduceCtorEq,Int.reduceToNat]<;>(repeat' first|rfl|apply And.intro))) ?_
    rintro _ _ ⟨rfl,rfl⟩
    unfold rnO
    repeat' first|((first|refine Br.dec ?_ ?_|refine Br.eqi ?_ ?_)<;>intro h<;>try (exfalso;omega))|(simp (disch:=first|omega|(simp only [vlen];first|done|omega)) only [hk,hai,hbi,hc1,hc2,vrn,↓vAq,vBq,↓reduceIte,Nat.reduceBEq,Nat.reduceEqDiff,Nat.reduceLT,Nat.reduceLeDiff,Nat.reduceAdd,Nat.reduceMul,Nat.reduceSub,reduceCtorEq,Int.reduceToNat])|(refine Br.mk ?_ ?_<;>intro h)|(refine BrN.mk (fun h => ?_) ?_)|(refine AltVC.mk ?_ ?_)
    refine CallVC.lendE [1,0] [iv .i64 (N:Nat),iv .i64 (-1),iv .i64 (T2:Nat),.ptr 0 1 0 0] _ (rnAddU (N:=T2+(rx l a).ns+(rx l b).ns) (k:=k) (A:=A++(rx l a).ar T2++(rx l b).ar (T2+(rx l a).ns)) (by (try simp only [List.length_append,List.length_cons,List.length_nil]);omega) (p:=N) (c := -1) (q:=T2)) (by simp) (by rfl) (by (simp (disch:=first|omega|(simp only [vlen];first|done|omega)) only [vle0,vrn,↓vAq,vBq,↓reduceIte,Nat.reduceBEq,Nat.reduceEqDiff,Nat.reduceLT,Nat.reduceLeDiff,Nat.reduceAdd,Nat.reduceMul,Nat.reduceSub,reduceCtorEq,Int.reduceToNat]<;>(repeat' first|rfl|apply And.intro))) ?_
    rintro _ _ ⟨rfl,rfl⟩
    repeat' first|((first|refine Br.dec ?_ ?_|refine Br.eqi ?_ ?_)<;>intro h<;>try (exfalso;omega))|(simp (disch:=first|omega|(simp only [vlen];first|done|omega)) only [hk,hai,hbi,hc1,hc2,vrn,↓vAq,vBq,↓reduceIte,Nat.reduceBEq,Nat.reduceEqDiff,Nat.reduceLT,Nat.reduceLeDiff,Nat.reduceAdd,Nat.reduceMul,Nat.reduceSub,reduceCtorEq,Int.reduceToNat])|(refine Br.mk ?_ ?_<;>intro h)|(refine BrN.mk (fun h => ?_) ?_)|(refine AltVC.mk ?_ ?_)
    refine CallVC.lendE [1,0] [iv .i64 (T2+1:Nat),iv .i64 (-1),iv .i64 (T2+(rx l a).ns:Nat),.ptr 0 1 0 0] _ (rnAddU (N:=T2+(rx l a).ns+(rx l b).ns) (k:=k) (A:=A++(rx l a).ar T2++(rx l b).ar (T2+(rx l a).ns)++[(N,-1,T2)]) (by (try simp only [List.length_append,List.length_cons,List.length_nil]);omega) (p:=T2+1) (c := -1) (q:=T2+(rx l a).ns)) (by simp) (by rfl) (by (simp (disch:=first|omega|(simp only [vlen];first|done|omega)) only [vle0,vrn,↓vAq,vBq,↓reduceIte,Nat.reduceBEq,Nat.reduceEqDiff,Nat.reduceLT,Nat.reduceLeDiff,Nat.reduceAdd,Nat.reduceMul,Nat.reduceSub,reduceCtorEq,Int.reduceToNat]<;>(repeat' first|rfl|apply And.intro))) ?_
    rintro _ _ ⟨rfl,rfl⟩
    repeat' first|((first|refine Br.dec ?_ ?_|refine Br.eqi ?_ ?_)<;>intro h<;>try (exfalso;omega))|(simp (disch:=first|omega|(simp only [vlen];first|done|omega)) only [hk,hai,hbi,hc1,hc2,vrn,↓vAq,vBq,↓reduceIte,Nat.reduceBEq,Nat.reduceEqDiff,Nat.reduceLT,Nat.reduceLeDiff,Nat.reduceAdd,Nat.reduceMul,Nat.reduceSub,reduceCtorEq,Int.reduceToNat])|(refine Br.mk ?_ ?_<;>intro h)|(refine BrN.mk (fun h => ?_) ?_)|(refine AltVC.mk ?_ ?_)
    refine CallVC.lendE [1,0] [iv .i64 (T2+(rx l a).ns+1:Nat),iv .i64 (-1),iv .i64 (T1:Nat),.ptr 0 1 0 0] _ (rnAddU (N:=T2+(rx l a).ns+(rx l b).ns) (k:=k) (A:=A++(rx l a).ar T2++(rx l b).ar (T2+(rx l a).ns)++[(N,-1,T2)]++[(T2+1,-1,T2+(rx l a).ns)]) (by (try simp only [List.length_append,List.length_cons,List.length_nil]);omega) (p:=T2+(rx l a).ns+1) (c := -1) (q:=T1)) (by simp) (by rfl) (by (simp (disch:=first|omega|(simp only [vlen];first|done|omega)) only [vle0,vrn,↓vAq,vBq,↓reduceIte,Nat.reduceBEq,Nat.reduceEqDiff,Nat.reduceLT,Nat.reduceLeDiff,Nat.reduceAdd,Nat.reduceMul,Nat.reduceSub,reduceCtorEq,Int.reduceToNat]<;>(repeat' first|rfl|apply And.intro))) ?_
    rintro _ _ ⟨rfl,rfl⟩
    repeat' first|((first|refine Br.dec ?_ ?_|refine Br.eqi ?_ ?_)<;>intro h<;>try (exfalso;omega))|(simp (disch:=first|omega|(simp only [vlen];first|done|omega)) only [hk,hai,hbi,hc1,hc2,vrn,↓vAq,vBq,↓reduceIte,Nat.reduceBEq,Nat.reduceEqDiff,Nat.reduceLT,Nat.reduceLeDiff,Nat.reduceAdd,Nat.reduceMul,Nat.reduceSub,reduceCtorEq,Int.reduceToNat])|(refine Br.mk ?_ ?_<;>intro h)|(refine BrN.mk (fun h => ?_) ?_)|(refine AltVC.mk ?_ ?_)
    have hfin:=catAr (A:=A) (x:=rx l a) (y:=rx l b) (N:=N)
    have hns:N+(Rx.cat (rx l a) (rx l b)).ns=T2+(rx l a).ns+(rx l b).ns:=by simp only [Rx.ns];omega
    rw [← hT2,← hT1] at hfin
    exact sn_fin (by simp (disch:=first|omega|(simp only [vlen];first|done|omega)) only [vrn,↓vAq,vBq,↓reduceIte,Nat.reduceBEq,Nat.reduceEqDiff,Nat.reduceLT,Nat.reduceLeDiff,Nat.reduceAdd,Nat.reduceMul,Nat.reduceSub,reduceCtorEq,Int.reduceToNat]) (by rw [← hfin,hns];unfold rnO;simp (disch:=first|omega|(simp only [vlen];first|done|omega)) only [vrn,↓vAq,vBq,↓reduceIte,Nat.reduceBEq,Nat.reduceEqDiff,Nat.reduceLT,Nat.reduceLeDiff,Nat.reduceAdd,Nat.reduceMul,Nat.reduceSub,reduceCtorEq,Int.reduceToNat]) (by simp (disch:=first|omega|(simp only [vlen];first|done|omega)) only [← hT1,vrn,↓vAq,vBq,↓reduceIte,Nat.reduceBEq,Nat.reduceEqDiff,Nat.reduceLT,Nat.reduceLeDiff,Nat.reduceAdd,Nat.reduceMul,Nat.reduceSub,reduceCtorEq,Int.reduceToNat])
  | or a b ha hb e ea eb hk =>
    rw [e] at hN ⊢
    simp only [Rx.ns] at hN
    have hok:=hv i hi
    have hai:(l.getD i default).a=(a:Int):=by have:=hok.2.2.2.1 (by omega);omega
    have hbi:(l.getD i default).b=(b:Int):=by have:=hok.2.2.2.2 (by omega);omega
    have lx:=@ar_len (rx l a) T2
    have ly:=@ar_len (rx l b) (T2+(rx l a).ns)
    repeat' first|((first|refine Br.dec ?_ ?_|refine Br.eqi ?_ ?_)<;>intro h<;>try (exfalso;omega))|(simp (disch:=first|omega|(simp only [vlen];first|done|omega)) only [hk,hai,hbi,hc1,hc2,vrn,↓vAq,vBq,↓reduceIte,Nat.reduceBEq,Nat.reduceEqDiff,Nat.reduceLT,Nat.reduceLeDiff,Nat.reduceAdd,Nat.reduceMul,Nat.reduceSub,reduceCtorEq,Int.reduceToNat])|(refine Br.mk ?_ ?_<;>intro h)|(refine BrN.mk (fun h => ?_) ?_)|(refine AltVC.mk ?_ ?_)
    have sa:=spread_spec k l hv hl a (by omega) (T2) (by omega) (A) (by (try simp only [List.length_append]);omega)
    unfold rnO at sa
    refine CallVC.lendE [0] [.sl 3 (tbl nodD l),iv .i64 a,.ptr 0 5 0 0] _ sa (by simp) (by rfl) (by (simp (disch:=first|omega|(simp only [vlen];first|done|omega)) only [vle0,vrn,↓vAq,vBq,↓reduceIte,Nat.reduceBEq,Nat.reduceEqDiff,Nat.reduceLT,Nat.reduceLeDiff,Nat.reduceAdd,Nat.reduceMul,Nat.reduceSub,reduceCtorEq,Int.reduceToNat]<;>(repeat' first|rfl|apply And.intro))) ?_
    rintro _ _ ⟨rfl,rfl⟩
    unfold rnO
    repeat' first|((first|refine Br.dec ?_ ?_|refine Br.eqi ?_ ?_)<;>intro h<;>try (exfalso;omega))|(simp (disch:=first|omega|(simp only [vlen];first|done|omega)) only [hk,hai,hbi,hc1,hc2,vrn,↓vAq,vBq,↓reduceIte,Nat.reduceBEq,Nat.reduceEqDiff,Nat.reduceLT,Nat.reduceLeDiff,Nat.reduceAdd,Nat.reduceMul,Nat.reduceSub,reduceCtorEq,Int.reduceToNat])|(refine Br.mk ?_ ?_<;>intro h)|(refine BrN.mk (fun h => ?_) ?_)|(refine AltVC.mk ?_ ?_)
    have sb:=spread_spec k l hv hl b (by omega) (T2+(rx l a).ns) (by omega) (A++(rx l a).ar T2) (by (try simp only [List.length_append]);omega)
    unfold rnO at sb
    refine CallVC.lendE [0] [.sl 3 (tbl nodD l),iv .i64 b,.ptr 0 5 0 0] _ sb (by simp) (by rfl) (by (simp (disch:=first|omega|(simp only [vlen];first|done|omega)) only [vle0,vrn,↓vAq,vBq,↓reduceIte,Nat.reduceBEq,Nat.reduceEqDiff,Nat.reduceLT,Nat.reduceLeDiff,Nat.reduceAdd,Nat.reduceMul,Nat.reduceSub,reduceCtorEq,Int.reduceToNat]<;>(repeat' first|rfl|apply And.intro))) ?_
    rintro _ _ ⟨rfl,rfl⟩
    unfold rnO
    repeat' first|((first|refine Br.dec ?_ ?_|refine Br.eqi ?_ ?_)<;>intro h<;>try (exfalso;omega))|(simp (disch:=first|omega|(simp only [vlen];first|done|omega)) only [hk,hai,hbi,hc1,hc2,vrn,↓vAq,vBq,↓reduceIte,Nat.reduceBEq,Nat.reduceEqDiff,Nat.reduceLT,Nat.reduceLeDiff,Nat.reduceAdd,Nat.reduceMul,Nat.reduceSub,reduceCtorEq,Int.reduceToNat])|(refine Br.mk ?_ ?_<;>intro h)|(refine BrN.mk (fun h => ?_) ?_)|(refine AltVC.mk ?_ ?_)
    refine CallVC.lendE [1,0] [iv .i64 (N:Nat),iv .i64 (-1),iv .i64 (T2:Nat),.ptr 0 1 0 0] _ (rnAddU (N:=T2+(rx l a).ns+(rx l b).ns) (k:=k) (A:=A++(rx l a).ar T2++(rx l b).ar (T2+(rx l a).ns)) (by (try simp only [List.length_append,List.length_cons,List.length_nil]);omega) (p:=N) (c := -1) (q:=T2)) (by simp) (by rfl) (by (simp (disch:=first|omega|(simp only [vlen];first|done|omega)) only [vle0,vrn,↓vAq,vBq,↓reduceIte,Nat.reduceBEq,Nat.reduceEqDiff,Nat.reduceLT,Nat.reduceLeDiff,Nat.reduceAdd,Nat.reduceMul,Nat.reduceSub,reduceCtorEq,Int.reduceToNat]<;>(repeat' first|rfl|apply And.intro))) ?_
    rintro _ _ ⟨rfl,rfl⟩
    repeat' first|((first|refine Br.dec ?_ ?_|refine Br.eqi ?_ ?_)<;>intro h<;>try (exfalso;omega))|(simp (disch:=first|omega|(simp only [vlen];first|done|omega)) only [hk,hai,hbi,hc1,hc2,vrn,↓vAq,vBq,↓reduceIte,Nat.reduceBEq,Nat.reduceEqDiff,Nat.reduceLT,Nat.reduceLeDiff,Nat.reduceAdd,Nat.reduceMul,Nat.reduceSub,reduceCtorEq,Int.reduceToNat])|(refine Br.mk ?_ ?_<;>intro h)|(refine BrN.mk (fun h => ?_) ?_)|(refine AltVC.mk ?_ ?_)
    refine CallVC.lendE [1,0] [iv .i64 (N:Nat),iv .i64 (-1),iv .i64 (T2+(rx l a).ns:Nat),.ptr 0 1 0 0] _ (rnAddU (N:=T2+(rx l a).ns+(rx l b).ns) (k:=k) (A:=A++(rx l a).ar T2++(rx l b).ar (T2+(rx l a).ns)++[(N,-1,T2)]) (by (try simp only [List.length_append,List.length_cons,List.length_nil]);omega) (p:=N) (c := -1) (q:=T2+(rx l a).ns)) (by simp) (by rfl) (by (simp (disch:=first|omega|(simp only [vlen];first|done|omega)) only [vle0,vrn,↓vAq,vBq,↓reduceIte,Nat.reduceBEq,Nat.reduceEqDiff,Nat.reduceLT,Nat.reduceLeDiff,Nat.reduceAdd,Nat.reduceMul,Nat.reduceSub,reduceCtorEq,Int.reduceToNat]<;>(repeat' first|rfl|apply And.intro))) ?_
    rintro _ _ ⟨rfl,rfl⟩
    repeat' first|((first|refine Br.dec ?_ ?_|refine Br.eqi ?_ ?_)<;>intro h<;>try (exfalso;omega))|(simp (disch:=first|omega|(simp only [vlen];first|done|omega)) only [hk,hai,hbi,hc1,hc2,vrn,↓vAq,vBq,↓reduceIte,Nat.reduceBEq,Nat.reduceEqDiff,Nat.reduceLT,Nat.reduceLeDiff,Nat.reduceAdd,Nat.reduceMul,Nat.reduceSub,reduceCtorEq,Int.reduceToNat])|(refine Br.mk ?_ ?_<;>intro h)|(refine BrN.mk (fun h => ?_) ?_)|(refine AltVC.mk ?_ ?_)
    refine CallVC.lendE [1,0] [iv .i64 (T2+1:Nat),iv .i64 (-1),iv .i64 (T1:Nat),.ptr 0 1 0 0] _ (rnAddU (N:=T2+(rx l a).ns+(rx l b).ns) (k:=k) (A:=A++(rx l a).ar T2++(rx l b).ar (T2+(rx l a).ns)++[(N,-1,T2)]++[(N,-1,T2+(rx l a).ns)]) (by (try simp only [List.length_append,List.length_cons,List.length_nil]);omega) (p:=T2+1) (c := -1) (q:=T1)) (by simp) (by rfl) (by (simp (disch:=first|omega|(simp only [vlen];first|done|omega)) only [vle0,vrn,↓vAq,vBq,↓reduceIte,Nat.reduceBEq,Nat.reduceEqDiff,Nat.reduceLT,Nat.reduceLeDiff,Nat.reduceAdd,Nat.reduceMul,Nat.reduceSub,reduceCtorEq,Int.reduceToNat]<;>(repeat' first|rfl|apply And.intro))) ?_
    rintro _ _ ⟨rfl,rfl⟩
    repeat' first|((first|refine Br.dec ?_ ?_|refine Br.eqi ?_ ?_)<;>intro h<;>try (exfalso;omega))|(simp (disch:=first|omega|(simp only [vlen];first|done|omega)) only [hk,hai,hbi,hc1,hc2,vrn,↓vAq,vBq,↓reduceIte,Nat.reduceBEq,Nat.reduceEqDiff,Nat.reduceLT,Nat.reduceLeDiff,Nat.reduceAdd,Nat.reduceMul,Nat.reduceSub,reduceCtorEq,Int.reduceToNat])|(refine Br.mk ?_ ?_<;>intro h)|(refine BrN.mk (fun h => ?_) ?_)|(refine AltVC.mk ?_ ?_)
    refine CallVC.lendE [1,0] [iv .i64 (T2+(rx l a).ns+1:Nat),iv .i64 (-1),iv .i64 (T1:Nat),.ptr 0 1 0 0] _ (rnAddU (N:=T2+(rx l a).ns+(rx l b).ns) (k:=k) (A:=A++(rx l a).ar T2++(rx l b).ar (T2+(rx l a).ns)++[(N,-1,T2)]++[(N,-1,T2+(rx l a).ns)]++[(T2+1,-1,T1)]) (by (try simp only [List.length_append,List.length_cons,List.length_nil]);omega) (p:=T2+(rx l a).ns+1) (c := -1) (q:=T1)) (by simp) (by rfl) (by (simp (disch:=first|omega|(simp only [vlen];first|done|omega)) only [vle0,vrn,↓vAq,vBq,↓reduceIte,Nat.reduceBEq,Nat.reduceEqDiff,Nat.reduceLT,Nat.reduceLeDiff,Nat.reduceAdd,Nat.reduceMul,Nat.reduceSub,reduceCtorEq,Int.reduceToNat]<;>(repeat' first|rfl|apply And.intro))) ?_
    rintro _ _ ⟨rfl,rfl⟩
    repeat' first|((first|refine Br.dec ?_ ?_|refine Br.eqi ?_ ?_)<;>intro h<;>try (exfalso;omega))|(simp (disch:=first|omega|(simp only [vlen];first|done|omega)) only [hk,hai,hbi,hc1,hc2,vrn,↓vAq,vBq,↓reduceIte,Nat.reduceBEq,Nat.reduceEqDiff,Nat.reduceLT,Nat.reduceLeDiff,Nat.reduceAdd,Nat.reduceMul,Nat.reduceSub,reduceCtorEq,Int.reduceToNat])|(refine Br.mk ?_ ?_<;>intro h)|(refine BrN.mk (fun h => ?_) ?_)|(refine AltVC.mk ?_ ?_)
    have hfin:=orAr (A:=A) (x:=rx l a) (y:=rx l b) (N:=N)
    have hns:N+(Rx.or (rx l a) (rx l b)).ns=T2+(rx l a).ns+(rx l b).ns:=by simp only [Rx.ns];omega
    rw [← hT2,← hT1] at hfin
    exact sn_fin (by simp (disch:=first|omega|(simp only [vlen];first|done|omega)) only [vrn,↓vAq,vBq,↓reduceIte,Nat.reduceBEq,Nat.reduceEqDiff,Nat.reduceLT,Nat.reduceLeDiff,Nat.reduceAdd,Nat.reduceMul,Nat.reduceSub,reduceCtorEq,Int.reduceToNat]) (by rw [← hfin,hns];unfold rnO;simp (disch:=first|omega|(simp only [vlen];first|done|omega)) only [vrn,↓vAq,vBq,↓reduceIte,Nat.reduceBEq,Nat.reduceEqDiff,Nat.reduceLT,Nat.reduceLeDiff,Nat.reduceAdd,Nat.reduceMul,Nat.reduceSub,reduceCtorEq,Int.reduceToNat]) (by simp (disch:=first|omega|(simp only [vlen];first|done|omega)) only [← hT1,vrn,↓vAq,vBq,↓reduceIte,Nat.reduceBEq,Nat.reduceEqDiff,Nat.reduceLT,Nat.reduceLeDiff,Nat.reduceAdd,Nat.reduceMul,Nat.reduceSub,reduceCtorEq,Int.reduceToNat])
  | star a ha e ea hk =>
    rw [e] at hN ⊢
    simp only [Rx.ns] at hN
    have hok:=hv i hi
    have hai:(l.getD i default).a=(a:Int):=by have:=hok.2.2.2.1 (by omega);omega
    have lx:=@ar_len (rx l a) T2
    repeat' first|((first|refine Br.dec ?_ ?_|refine Br.eqi ?_ ?_)<;>intro h<;>try (exfalso;omega))|(simp (disch:=first|omega|(simp only [vlen];first|done|omega)) only [hk,hai,hc1,hc2,vrn,↓vAq,vBq,↓reduceIte,Nat.reduceBEq,Nat.reduceEqDiff,Nat.reduceLT,Nat.reduceLeDiff,Nat.reduceAdd,Nat.reduceMul,Nat.reduceSub,reduceCtorEq,Int.reduceToNat])|(refine Br.mk ?_ ?_<;>intro h)|(refine BrN.mk (fun h => ?_) ?_)|(refine AltVC.mk ?_ ?_)
    have sa:=spread_spec k l hv hl a (by omega) (T2) (by omega) (A) (by (try simp only [List.length_append]);omega)
    unfold rnO at sa
    refine CallVC.lendE [0] [.sl 3 (tbl nodD l),iv .i64 a,.ptr 0 5 0 0] _ sa (by simp) (by rfl) (by (simp (disch:=first|omega|(simp only [vlen];first|done|omega)) only [vle0,vrn,↓vAq,vBq,↓reduceIte,Nat.reduceBEq,Nat.reduceEqDiff,Nat.reduceLT,Nat.reduceLeDiff,Nat.reduceAdd,Nat.reduceMul,Nat.reduceSub,reduceCtorEq,Int.reduceToNat]<;>(repeat' first|rfl|apply And.intro))) ?_
    rintro _ _ ⟨rfl,rfl⟩
    unfold rnO
    repeat' first|((first|refine Br.dec ?_ ?_|refine Br.eqi ?_ ?_)<;>intro h<;>try (exfalso;omega))|(simp (disch:=first|omega|(simp only [vlen];first|done|omega)) only [hk,hai,hc1,hc2,vrn,↓vAq,vBq,↓reduceIte,Nat.reduceBEq,Nat.reduceEqDiff,Nat.reduceLT,Nat.reduceLeDiff,Nat.reduceAdd,Nat.reduceMul,Nat.reduceSub,reduceCtorEq,Int.reduceToNat])|(refine Br.mk ?_ ?_<;>intro h)|(refine BrN.mk (fun h => ?_) ?_)|(refine AltVC.mk ?_ ?_)
    refine CallVC.lendE [1,0] [iv .i64 (N:Nat),iv .i64 (-1),iv .i64 (T2:Nat),.ptr 0 1 0 0] _ (rnAddU (N:=T2+(rx l a).ns) (k:=k) (A:=A++(rx l a).ar T2) (by (try simp only [List.length_append,List.length_cons,List.length_nil]);omega) (p:=N) (c := -1) (q:=T2)) (by simp) (by rfl) (by (simp (disch:=first|omega|(simp only [vlen];first|done|omega)) only [vle0,vrn,↓vAq,vBq,↓reduceIte,Nat.reduceBEq,Nat.reduceEqDiff,Nat.reduceLT,Nat.reduceLeDiff,Nat.reduceAdd,Nat.reduceMul,Nat.reduceSub,reduceCtorEq,Int.reduceToNat]<;>(repeat' first|rfl|apply And.intro))) ?_
    rintro _ _ ⟨rfl,rfl⟩
    repeat' first|((first|refine Br.dec ?_ ?_|refine Br.eqi ?_ ?_)<;>intro h<;>try (exfalso;omega))|(simp (disch:=first|omega|(simp only [vlen];first|done|omega)) only [hk,hai,hc1,hc2,vrn,↓vAq,vBq,↓reduceIte,Nat.reduceBEq,Nat.reduceEqDiff,Nat.reduceLT,Nat.reduceLeDiff,Nat.reduceAdd,Nat.reduceMul,Nat.reduceSub,reduceCtorEq,Int.reduceToNat])|(refine Br.mk ?_ ?_<;>intro h)|(refine BrN.mk (fun h => ?_) ?_)|(refine AltVC.mk ?_ ?_)
    refine CallVC.lendE [1,0] [iv .i64 (N:Nat),iv .i64 (-1),iv .i64 (T1:Nat),.ptr 0 1 0 0] _ (rnAddU (N:=T2+(rx l a).ns) (k:=k) (A:=A++(rx l a).ar T2++[(N,-1,T2)]) (by (try simp only [List.length_append,List.length_cons,List.length_nil]);omega) (p:=N) (c := -1) (q:=T1)) (by simp) (by rfl) (by (simp (disch:=first|omega|(simp only [vlen];first|done|omega)) only [vle0,vrn,↓vAq,vBq,↓reduceIte,Nat.reduceBEq,Nat.reduceEqDiff,Nat.reduceLT,Nat.reduceLeDiff,Nat.reduceAdd,Nat.reduceMul,Nat.reduceSub,reduceCtorEq,Int.reduceToNat]<;>(repeat' first|rfl|apply And.intro))) ?_
    rintro _ _ ⟨rfl,rfl⟩
    repeat' first|((first|refine Br.dec ?_ ?_|refine Br.eqi ?_ ?_)<;>intro h<;>try (exfalso;omega))|(simp (disch:=first|omega|(simp only [vlen];first|done|omega)) only [hk,hai,hc1,hc2,vrn,↓vAq,vBq,↓reduceIte,Nat.reduceBEq,Nat.reduceEqDiff,Nat.reduceLT,Nat.reduceLeDiff,Nat.reduceAdd,Nat.reduceMul,Nat.reduceSub,reduceCtorEq,Int.reduceToNat])|(refine Br.mk ?_ ?_<;>intro h)|(refine BrN.mk (fun h => ?_) ?_)|(refine AltVC.mk ?_ ?_)
    refine CallVC.lendE [1,0] [iv .i64 (T2+1:Nat),iv .i64 (-1),iv .i64 (T2:Nat),.ptr 0 1 0 0] _ (rnAddU (N:=T2+(rx l a).ns) (k:=k) (A:=A++(rx l a).ar T2++[(N,-1,T2)]++[(N,-1,T1)]) (by (try simp only [List.length_append,List.length_cons,List.length_nil]);omega) (p:=T2+1) (c := -1) (q:=T2)) (by simp) (by rfl) (by (simp (disch:=first|omega|(simp only [vlen];first|done|omega)) only [vle0,vrn,↓vAq,vBq,↓reduceIte,Nat.reduceBEq,Nat.reduceEqDiff,Nat.reduceLT,Nat.reduceLeDiff,Nat.reduceAdd,Nat.reduceMul,Nat.reduceSub,reduceCtorEq,Int.reduceToNat]<;>(repeat' first|rfl|apply And.intro))) ?_
    rintro _ _ ⟨rfl,rfl⟩
    repeat' first|((first|refine Br.dec ?_ ?_|refine Br.eqi ?_ ?_)<;>intro h<;>try (exfalso;omega))|(simp (disch:=first|omega|(simp only [vlen];first|done|omega)) only [hk,hai,hc1,hc2,vrn,↓vAq,vBq,↓reduceIte,Nat.reduceBEq,Nat.reduceEqDiff,Nat.reduceLT,Nat.reduceLeDiff,Nat.reduceAdd,Nat.reduceMul,Nat.reduceSub,reduceCtorEq,Int.reduceToNat])|(refine Br.mk ?_ ?_<;>intro h)|(refine BrN.mk (fun h => ?_) ?_)|(refine AltVC.mk ?_ ?_)
    refine CallVC.lendE [1,0] [iv .i64 (T2+1:Nat),iv .i64 (-1),iv .i64 (T1:Nat),.ptr 0 1 0 0] _ (rnAddU (N:=T2+(rx l a).ns) (k:=k) (A:=A++(rx l a).ar T2++[(N,-1,T2)]++[(N,-1,T1)]++[(T2+1,-1,T2)]) (by (try simp only [List.length_append,List.length_cons,List.length_nil]);omega) (p:=T2+1) (c := -1) (q:=T1)) (by simp) (by rfl) (by (simp (disch:=first|omega|(simp only [vlen];first|done|omega)) only [vle0,vrn,↓vAq,vBq,↓reduceIte,Nat.reduceBEq,Nat.reduceEqDiff,Nat.reduceLT,Nat.reduceLeDiff,Nat.reduceAdd,Nat.reduceMul,Nat.reduceSub,reduceCtorEq,Int.reduceToNat]<;>(repeat' first|rfl|apply And.intro))) ?_
    rintro _ _ ⟨rfl,rfl⟩
    repeat' first|((first|refine Br.dec ?_ ?_|refine Br.eqi ?_ ?_)<;>intro h<;>try (exfalso;omega))|(simp (disch:=first|omega|(simp only [vlen];first|done|omega)) only [hk,hai,hc1,hc2,vrn,↓vAq,vBq,↓reduceIte,Nat.reduceBEq,Nat.reduceEqDiff,Nat.reduceLT,Nat.reduceLeDiff,Nat.reduceAdd,Nat.reduceMul,Nat.reduceSub,reduceCtorEq,Int.reduceToNat])|(refine Br.mk ?_ ?_<;>intro h)|(refine BrN.mk (fun h => ?_) ?_)|(refine AltVC.mk ?_ ?_)
    have hfin:=starAr (A:=A) (x:=rx l a) (N:=N)
    have hns:N+(Rx.star (rx l a)).ns=T2+(rx l a).ns:=by simp only [Rx.ns];omega
    rw [← hT2,← hT1] at hfin
    exact sn_fin (by simp (disch:=first|omega|(simp only [vlen];first|done|omega)) only [vrn,↓vAq,vBq,↓reduceIte,Nat.reduceBEq,Nat.reduceEqDiff,Nat.reduceLT,Nat.reduceLeDiff,Nat.reduceAdd,Nat.reduceMul,Nat.reduceSub,reduceCtorEq,Int.reduceToNat]) (by rw [← hfin,hns];unfold rnO;simp (disch:=first|omega|(simp only [vlen];first|done|omega)) only [vrn,↓vAq,vBq,↓reduceIte,Nat.reduceBEq,Nat.reduceEqDiff,Nat.reduceLT,Nat.reduceLeDiff,Nat.reduceAdd,Nat.reduceMul,Nat.reduceSub,reduceCtorEq,Int.reduceToNat]) (by simp (disch:=first|omega|(simp only [vlen];first|done|omega)) only [← hT1,vrn,↓vAq,vBq,↓reduceIte,Nat.reduceBEq,Nat.reduceEqDiff,Nat.reduceLT,Nat.reduceLeDiff,Nat.reduceAdd,Nat.reduceMul,Nat.reduceSub,reduceCtorEq,Int.reduceToNat])
termination_by i
end Go.Proofs.Ytpgomgjpliallaa

namespace Go.Proofs.Ytpgomgjpliallaa
open Go.Dm
inductive Ep (A:List A3) (p:Nat):Nat→Prop
  | refl:Ep A p p
  | step {q r:Nat} (h:Ep A p q) (ha:(q,-1,r) ∈ A):Ep A p r
open Classical in
noncomputable def cloB (A:List A3) (f:Nat→Bool) (q:Nat):Bool:=decide (∃ p,f p=true∧Ep A p q)
open Classical in
theorem cloB_iff {A:List A3} {f:Nat→Bool} {q:Nat}:cloB A f q=true ↔ ∃ p,f p=true∧Ep A p q:=by unfold cloB;exact decide_eq_true_iff
open Classical in
noncomputable def stW (A:List A3) (p0:Nat) (w:List Int) (q:Nat):Bool:=decide (NS A p0 w q)
open Classical in
theorem stW_iff {A:List A3} {p0:Nat} {w:List Int} {q:Nat}:stW A p0 w q=true ↔ NS A p0 w q:=by unfold stW;exact decide_eq_true_iff
section
variable {A:List A3} {p0:Nat} {w:List Int} {q:Nat} {s:Int}
theorem ns_ep (h:NS A p0 w q) {r:Nat} (h2:Ep A q r):NS A p0 w r:=by
  induction h2 with
  | refl=>exact h
  | step _ ha ih=>exact ih.eps ha
theorem ns_nil:NS A p0 w q→w=[]→Ep A p0 q:=by
  intro h
  induction h with
  | nil=>exact fun _=>.refl
  | @step w p c q h ha ih =>
    intro e
    unfold arW at e
    split at e
    · next hc=>subst hc;exact (ih e).step ha
    · simp at e
theorem stW_nil:cloB A (fun q=>decide (q=p0))=stW A p0 []:=funext fun q=>by
  rw [Bool.eq_iff_iff,cloB_iff,stW_iff]
  constructor
  · rintro ⟨p,hp,h⟩
    rw [of_decide_eq_true hp] at h
    exact ns_ep .nil h
  · exact fun h=>⟨p0,decide_eq_true rfl,ns_nil h rfl⟩
theorem ns_snoc (hs:0≤s):∀ {v:List Int} {q:Nat},NS A p0 v q→v=w++[s] → ∃ p p',NS A p0 w p∧(p,s,p') ∈ A∧Ep A p' q:=by
  intro v q h
  induction h with
  | nil=>intro e;simp at e
  | @step v p c q h ha ih =>
    intro e
    unfold arW at e
    split at e
    · next hc =>
      subst hc
      obtain ⟨p1,p2,h1,h2,h3⟩:=ih e
      exact ⟨p1,p2,h1,h2,h3.step ha⟩
    · obtain ⟨e1,e2⟩:=List.append_inj' e rfl
      rw [List.cons.injEq] at e2
      subst e1
      rw [e2.1] at ha
      exact ⟨p,q,h,ha,.refl⟩
theorem stW_snoc (hs:0≤s) {g:Nat→Bool} (hg:∀ q,g q=true ↔ ∃ p,(p,s,q) ∈ A∧stW A p0 w p=true):cloB A g=stW A p0 (w++[s]):=funext fun q=>by
  rw [Bool.eq_iff_iff,cloB_iff,stW_iff]
  constructor
  · rintro ⟨p',hp,h⟩
    obtain ⟨p,h1,h2⟩:=(hg p').1 hp
    have h3:=NS.step (stW_iff.1 h2) h1
    unfold arW at h3
    rw [if_neg (by omega)] at h3
    exact ns_ep h3 h
  · intro h
    obtain ⟨p,p',h1,h2,h3⟩:=ns_snoc hs h rfl
    exact ⟨p',(hg p').2 ⟨p,h2,stW_iff.2 h1⟩,h3⟩
def unB (M:Nat) (f:Nat→Bool):Nat:=((List.range M).filter fun q => !f q).length
theorem unB_lt {M:Nat} {f:Nat→Bool} {t:Nat} (ht:t<M) (h:f t=false):unB M (fun j=>if j=t then true else f j)<unB M f:=by
  unfold unB
  refine Go.Dm.filter_lt (i:=t) (fun k hk => ?_) (List.mem_range.2 ht) (by rw [h];rfl) (by simp)
  by_cases e:k=t
  · rw [e,h];rfl
  · simp only [if_neg e] at hk;exact hk
structure ClI (A:List A3) (f f':Nat→Bool):Prop where
  lo:∀ q,f q=true→f' q=true
  hi:∀ q,f' q=true→cloB A f q=true
theorem ClI.refl {f:Nat→Bool}:ClI A f f:=⟨fun q h=>h,fun q h=>cloB_iff.2 ⟨q,h,.refl⟩⟩
theorem ClI.add {f f':Nat→Bool} (h:ClI A f f') {p t:Nat} (ha:(p,-1,t) ∈ A) (hp:f' p=true):ClI A f fun j=>if j=t then true else f' j:=by
  refine ⟨fun q hq => ?_,fun q hq => ?_⟩
  · by_cases e:q=t
    · simp only [if_pos e]
    · simp only [if_neg e];exact h.lo q hq
  · by_cases e:q=t
    · rw [e]
      obtain ⟨p1,h1,h2⟩:=cloB_iff.1 (h.hi p hp)
      exact cloB_iff.2 ⟨p1,h1,h2.step ha⟩
    · simp only [if_neg e] at hq;exact h.hi q hq
theorem ClI.all {f f':Nat→Bool} (h:ClI A f f') (hc:∀ p t,(p,-1,t) ∈ A→f' p=true→f' t=true):f'=cloB A f:=funext fun q=>by
  rw [Bool.eq_iff_iff]
  refine ⟨h.hi q,fun hq => ?_⟩
  obtain ⟨p,h1,h2⟩:=cloB_iff.1 hq
  induction h2 with
  | refl=>exact h.lo _ h1
  | step h3 ha ih=>exact hc _ _ ha (ih (cloB_iff.2 ⟨p,h1,h3⟩))
end
end Go.Proofs.Ytpgomgjpliallaa
