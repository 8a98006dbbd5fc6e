/-
 Texts of this claim, one behind another.
-/
import Derived.Test.YtpgomgjpliallaaMg13
import Derived.Test.YtpgomgjpliallaaMg14
import Derived.Test.YtpgomgjpliallaaMg11
set_option linter.unusedSimpArgs false
set_option linter.unnecessarySimpa false
set_option linter.unusedVariables false
set_option linter.defProp false
namespace Go.Proofs.Ytpgomgjpliallaa
open Go.Dm
open Classical in
noncomputable def ebB (l:List Dm.Node) (k:Nat):Bool:=decide (lang l k [])
open Classical in
noncomputable def nbB (l:List Dm.Node) (k:Nat):Bool:=decide (∀ u,¬ lang l k u)
section
variable {l:List Dm.Node} {k:Nat} {K:Int}
open Classical in
theorem ebB_iff:ebB l k=true ↔ lang l k []:=by unfold ebB;exact decide_eq_true_iff
open Classical in
theorem nbB_iff:nbB l k=true ↔ ∀ u,¬ lang l k u:=by unfold nbB;exact decide_eq_true_iff
theorem b_false {b:Bool} (h:¬ b=true):false=b:=by cases b<;>simp_all
theorem eb_1 (h:k<l.length) (e:(l.getD k default).kind=1):false=ebB l k:=b_false fun h2=>by
  rw [ebB_iff,lang_1 h e] at h2;exact h2
theorem eb_2 (h:k<l.length) (e:(l.getD k default).kind=2):true=ebB l k:=by
  rw [eq_comm,ebB_iff,lang_2 h e];rfl
theorem eb_3 (h:k<l.length) (e:(l.getD k default).kind=3):false=ebB l k:=b_false fun h2=>by
  rw [ebB_iff,lang_3 h e] at h2;cases h2
theorem eb_4 (hv:NodesOk K l) (h:k<l.length) (e:(l.getD k default).kind=4):ebB l k=(ebB l (l.getD k default).a.toNat && ebB l (l.getD k default).b.toNat):=by
  rw [Bool.eq_iff_iff,Bool.and_eq_true,ebB_iff,ebB_iff,ebB_iff,lang_4 hv h e]
  constructor
  · rintro ⟨a,b,h1,h2,h3⟩
    have h4:=List.append_eq_nil_iff.mp h3.symm
    rw [h4.1] at h1;rw [h4.2] at h2
    exact ⟨h1,h2⟩
  · exact fun h=>⟨[],[],h.1,h.2,rfl⟩
theorem eb_5 (hv:NodesOk K l) (h:k<l.length) (e:(l.getD k default).kind=5):ebB l k=(ebB l (l.getD k default).a.toNat || ebB l (l.getD k default).b.toNat):=by
  rw [Bool.eq_iff_iff,Bool.or_eq_true,ebB_iff,ebB_iff,ebB_iff,lang_5 hv h e];exact Iff.rfl
theorem eb_6 (hv:NodesOk K l) (h:k<l.length) (e:(l.getD k default).kind=6):true=ebB l k:=by
  rw [eq_comm,ebB_iff,lang_6 hv h e];exact .nil
theorem nb_1 (h:k<l.length) (e:(l.getD k default).kind=1):true=nbB l k:=by
  rw [eq_comm,nbB_iff,lang_1 h e];exact fun u h=>h
theorem nb_2 (h:k<l.length) (e:(l.getD k default).kind=2):false=nbB l k:=b_false fun h2=>by
  rw [nbB_iff,lang_2 h e] at h2;exact h2 [] rfl
theorem nb_3 (h:k<l.length) (e:(l.getD k default).kind=3):false=nbB l k:=b_false fun h2=>by
  rw [nbB_iff,lang_3 h e] at h2;exact h2 _ rfl
theorem nb_4 (hv:NodesOk K l) (h:k<l.length) (e:(l.getD k default).kind=4):nbB l k=(nbB l (l.getD k default).a.toNat || nbB l (l.getD k default).b.toNat):=by
  rw [Bool.eq_iff_iff,Bool.or_eq_true,nbB_iff,nbB_iff,nbB_iff,lang_4 hv h e]
  constructor
  · intro h
    apply Classical.byContradiction
    intro hn
    rw [not_or,Classical.not_forall,Classical.not_forall] at hn
    obtain ⟨⟨a,ha⟩,b,hb⟩:=hn
    exact h (a++b) ⟨a,b,Classical.not_not.mp ha,Classical.not_not.mp hb,rfl⟩
  · rintro (h|h) u ⟨a,b,h1,h2,_⟩
    · exact h a h1
    · exact h b h2
theorem nb_5 (hv:NodesOk K l) (h:k<l.length) (e:(l.getD k default).kind=5):nbB l k=(nbB l (l.getD k default).a.toNat && nbB l (l.getD k default).b.toNat):=by
  rw [Bool.eq_iff_iff,Bool.and_eq_true,nbB_iff,nbB_iff,nbB_iff,lang_5 hv h e]
  exact ⟨fun h=>⟨fun u hu=>h u (.inl hu),fun u hu=>h u (.inr hu)⟩,fun h u hu=>hu.elim (h.1 u) (h.2 u)⟩
theorem nb_6 (hv:NodesOk K l) (h:k<l.length) (e:(l.getD k default).kind=6):false=nbB l k:=b_false fun h2=>by
  rw [nbB_iff,lang_6 hv h e] at h2;exact h2 [] .nil
end
def upB (f:Nat→Bool) (i j:Nat):Bool:=if j<i then f j else false
theorem upB_at {f:Nat→Bool} {i j:Nat} (h:j<i):upB f i j=f j:=if_pos h
theorem upB_zero {f:Nat→Bool} {j:Nat}:false=upB f 0 j:=(rfl)
theorem upB_skip {f:Nat→Bool} {i:Nat} (h:false=f i) {j:Nat}:upB f i j=upB f (i+1) j:=by
  unfold upB
  by_cases e:j=i
  · subst e;rw [if_neg (by omega),if_pos (by omega)];exact h
  · (repeat' split)<;>first|rfl|omega
theorem upB_step {f:Nat→Bool} {i:Nat} {b:Bool} (h:b=f i) {j:Nat}:(if j=i then b else upB f i j)=upB f (i+1) j:=by
  unfold upB
  by_cases e:j=i
  · subst e;rw [if_pos rfl,if_pos (by omega)];exact h
  · rw [if_neg e];(repeat' split)<;>first|rfl|omega
theorem upB_all {f:Nat→Bool} {n:Nat}:bt n (upB f n)=bt n f:=bt_ext fun j hj=>upB_at hj
def vho:=And.intro @bt_len<|And.intro @bt_get<|And.intro @bt_set<|And.intro @bt_rep<|And.intro @viewO_bt<|And.intro @upB_at @Int.add_sub_cancel
noncomputable def hoO (l:List Dm.Node) (i:Nat):List (Nat × Ob):=[(2,⟨1,bls (bt l.length (upB (ebB l) i)),true,false,.arr⟩),(3,⟨1,bls (bt l.length (upB (nbB l) i)),true,false,.arr⟩)]
set_option maxRecDepth 10000 in
set_option maxHeartbeats 4000000 in
theorem hollow_spec (k0 : Int) (l : List Dm.Node) (hv : NodesOk k0 l) (hl : l.length ≤ 1000) : Dm.Spec Try.prog 29 [.sl 3 (tbl nodD l)] (· = .tu [.sl 1 (bls (bt l.length (ebB l))), .sl 1 (bls (bt l.length (nbB l)))]) := by
  refine spec_of_vc mixed Try.func29 c29 (by rw [show Try.f29.ntmps=_ from Try.ntmps29];simp) ?_
  unfold m29 r29
  repeat' first|((first|refine Br.dec ?_ ?_|refine Br.eqi ?_ ?_)<;>intro h<;>try (exfalso;omega))|(simp (disch:=first|omega|(simp only [vlen];first|done|omega)) only [vho,↓vAq,vBq,↓reduceIte,Nat.reduceBEq,Nat.reduceEqDiff,Nat.reduceLT,Nat.reduceLeDiff,Nat.reduceAdd,Nat.reduceMul,Nat.reduceSub,reduceCtorEq,Int.reduceToNat])|(refine Br.mk ?_ ?_<;>intro h)|(refine BrN.mk (fun h => ?_) ?_)|(refine AltVC.mk ?_ ?_)
  refine DrawVC.cu (X:=Unit) (fun _=>[(4,.ref 2 1 0 l.length),(5,.ref 3 1 0 l.length)]) (fun _=>hoO l 0) (fun _=>True) 4 (by simp (disch:=first|omega|(simp only [vlen];first|done|omega)) only [↓vAq,vBq,↓reduceIte,Nat.reduceBEq,Nat.reduceEqDiff,Nat.reduceLT,Nat.reduceLeDiff,Nat.reduceAdd,Nat.reduceMul,Nat.reduceSub,reduceCtorEq,Int.reduceToNat]) ?_ ?_
  · unfold hoO
    repeat' first|((first|refine Br.dec ?_ ?_|refine Br.eqi ?_ ?_)<;>intro h<;>try (exfalso;omega))|(simp (disch:=first|omega|(simp only [vlen];first|done|omega)) only [vho,↓vAq,vBq,↓reduceIte,Nat.reduceBEq,Nat.reduceEqDiff,Nat.reduceLT,Nat.reduceLeDiff,Nat.reduceAdd,Nat.reduceMul,Nat.reduceSub,reduceCtorEq,Int.reduceToNat])|(refine Br.mk ?_ ?_<;>intro h)|(refine BrN.mk (fun h => ?_) ?_)|(refine AltVC.mk ?_ ?_)
    · refine cutK.mk () (by simp (disch:=first|omega|(simp only [vlen];first|done|omega)) only [↓vAq,vBq,↓reduceIte,Nat.reduceBEq,Nat.reduceEqDiff,Nat.reduceLT,Nat.reduceLeDiff,Nat.reduceAdd,Nat.reduceMul,Nat.reduceSub,reduceCtorEq,Int.reduceToNat]) trivial ?_
      (simp (disch:=first|omega|(simp only [vlen];first|done|omega)) only [Fits_u,Fits_m,Fits_nil,List.length_append,vho,↓vAq,vBq,↓reduceIte,Nat.reduceBEq,Nat.reduceEqDiff,Nat.reduceLT,Nat.reduceLeDiff,Nat.reduceAdd,Nat.reduceMul,Nat.reduceSub,reduceCtorEq,Int.reduceToNat]<;>(repeat' first|rfl|apply And.intro))
      all_goals exact obBt fun j hj=>upB_zero
    · refine cutK.swap 2 3 ?_
      repeat' first|((first|refine Br.dec ?_ ?_|refine Br.eqi ?_ ?_)<;>intro h<;>try (exfalso;omega))|(simp (disch:=first|omega|(simp only [vlen];first|done|omega)) only [vho,↓vAq,vBq,↓reduceIte,Nat.reduceBEq,Nat.reduceEqDiff,Nat.reduceLT,Nat.reduceLeDiff,Nat.reduceAdd,Nat.reduceMul,Nat.reduceSub,reduceCtorEq,Int.reduceToNat])|(refine Br.mk ?_ ?_<;>intro h)|(refine BrN.mk (fun h => ?_) ?_)|(refine AltVC.mk ?_ ?_)
      refine cutK.mk () (by simp (disch:=first|omega|(simp only [vlen];first|done|omega)) only [↓vAq,vBq,↓reduceIte,Nat.reduceBEq,Nat.reduceEqDiff,Nat.reduceLT,Nat.reduceLeDiff,Nat.reduceAdd,Nat.reduceMul,Nat.reduceSub,reduceCtorEq,Int.reduceToNat]) trivial ?_
      (simp (disch:=first|omega|(simp only [vlen];first|done|omega)) only [Fits_u,Fits_m,Fits_nil,List.length_append,vho,↓vAq,vBq,↓reduceIte,Nat.reduceBEq,Nat.reduceEqDiff,Nat.reduceLT,Nat.reduceLeDiff,Nat.reduceAdd,Nat.reduceMul,Nat.reduceSub,reduceCtorEq,Int.reduceToNat]<;>(repeat' first|rfl|apply And.intro))
      all_goals exact obBt fun j hj=>upB_zero
  · intro _ _
    unfold hoO
    repeat' first|((first|refine Br.dec ?_ ?_|refine Br.eqi ?_ ?_)<;>intro h<;>try (exfalso;omega))|(simp (disch:=first|omega|(simp only [vlen];first|done|omega)) only [vho,↓vAq,vBq,↓reduceIte,Nat.reduceBEq,Nat.reduceEqDiff,Nat.reduceLT,Nat.reduceLeDiff,Nat.reduceAdd,Nat.reduceMul,Nat.reduceSub,reduceCtorEq,Int.reduceToNat])|(refine Br.mk ?_ ?_<;>intro h)|(refine BrN.mk (fun h => ?_) ?_)|(refine AltVC.mk ?_ ?_)
    refine LoopVC.mk (X:=Nat) (fun i=>[(4,.ref 2 1 0 l.length),(5,.ref 3 1 0 l.length),(16,iv .i64 i)]) (fun i=>hoO l i) (fun i=>l.length - i) (fun i=>i≤l.length) 0 (by omega) ?_ ?_
    · unfold hoO
      (simp (disch:=first|omega|(simp only [vlen];first|done|omega)) only [Fits_u,Fits_m,Fits_nil,List.length_append,vho,↓vAq,vBq,↓reduceIte,Nat.reduceBEq,Nat.reduceEqDiff,Nat.reduceLT,Nat.reduceLeDiff,Nat.reduceAdd,Nat.reduceMul,Nat.reduceSub,reduceCtorEq,Int.reduceToNat]<;>(repeat' first|rfl|apply And.intro))
      all_goals trace_state
    · intro i hi
      unfold hoO
      have b0:=@bt_len l.length (upB (ebB l) i)
      have b1:=@bt_len l.length (upB (nbB l) i)
      by_cases hil:i<l.length
      · have hx:=hv i hil
        unfold NodeOk at hx
        obtain ⟨x1,x2,x3,x4,x5⟩:=hx
        have e4:=fun e=>@eb_4 l i k0 hv hil e
        have e5:=fun e=>@eb_5 l i k0 hv hil e
        have n4:=fun e=>@nb_4 l i k0 hv hil e
        have n5:=fun e=>@nb_5 l i k0 hv hil e
        repeat' first|((first|refine Br.dec ?_ ?_|refine Br.eqi ?_ ?_)<;>intro h<;>try (exfalso;omega))|(simp (disch:=first|omega|(simp only [vlen];first|done|omega)) only [vho,↓vAq,vBq,↓reduceIte,Nat.reduceBEq,Nat.reduceEqDiff,Nat.reduceLT,Nat.reduceLeDiff,Nat.reduceAdd,Nat.reduceMul,Nat.reduceSub,reduceCtorEq,Int.reduceToNat])|(refine Br.mk ?_ ?_<;>intro h)|(refine BrN.mk (fun h => ?_) ?_)|(refine AltVC.mk ?_ ?_)
        all_goals (refine loopK.mk (i+1) (by simp (disch:=first|omega|(simp only [vlen];first|done|omega)) only [↓vAq,vBq,↓reduceIte,Nat.reduceBEq,Nat.reduceEqDiff,Nat.reduceLT,Nat.reduceLeDiff,Nat.reduceAdd,Nat.reduceMul,Nat.reduceSub,reduceCtorEq,Int.reduceToNat]) (by omega) (by omega) ?_)
        all_goals ((simp (disch:=first|omega|(simp only [vlen];first|done|omega)) only [Fits_u,Fits_m,Fits_nil,List.length_append,vho,↓vAq,vBq,↓reduceIte,Nat.reduceBEq,Nat.reduceEqDiff,Nat.reduceLT,Nat.reduceLeDiff,Nat.reduceAdd,Nat.reduceMul,Nat.reduceSub,reduceCtorEq,Int.reduceToNat]<;>(repeat' first|rfl|apply And.intro)))
        all_goals first
          | exact obBt fun j _=>upB_step (by
              first|exact eb_2 hil (by assumption)|exact eb_6 hv hil (by assumption)|exact nb_1 hil (by assumption)|(rw [e4 (by assumption)];simp only [Bool.true_or,Bool.false_or,Bool.true_and,Bool.false_and,Bool.or_true,Bool.or_false,Bool.and_true,Bool.and_false,Bool.or_self,Bool.and_self, *];done)|(rw [e5 (by assumption)];simp only [Bool.true_or,Bool.false_or,Bool.true_and,Bool.false_and,Bool.or_true,Bool.or_false,Bool.and_true,Bool.and_false,Bool.or_self,Bool.and_self, *];done)|(rw [n4 (by assumption)];simp only [Bool.true_or,Bool.false_or,Bool.true_and,Bool.false_and,Bool.or_true,Bool.or_false,Bool.and_true,Bool.and_false,Bool.or_self,Bool.and_self, *];done)|(rw [n5 (by assumption)];simp only [Bool.true_or,Bool.false_or,Bool.true_and,Bool.false_and,Bool.or_true,Bool.or_false,Bool.and_true,Bool.and_false,Bool.or_self,Bool.and_self, *];done))
          | exact obBt fun j _=>upB_skip (by
              first|exact eb_1 hil (by assumption)|exact eb_3 hil (by omega)|exact nb_2 hil (by assumption)|exact nb_3 hil (by omega)|exact nb_6 hv hil (by assumption))
      · rw [show i=l.length by omega,upB_all,upB_all]
        repeat' first|((first|refine Br.dec ?_ ?_|refine Br.eqi ?_ ?_)<;>intro h<;>try (exfalso;omega))|(simp (disch:=first|omega|(simp only [vlen];first|done|omega)) only [vho,↓vAq,vBq,↓reduceIte,Nat.reduceBEq,Nat.reduceEqDiff,Nat.reduceLT,Nat.reduceLeDiff,Nat.reduceAdd,Nat.reduceMul,Nat.reduceSub,reduceCtorEq,Int.reduceToNat])|(refine Br.mk ?_ ?_<;>intro h)|(refine BrN.mk (fun h => ?_) ?_)|(refine AltVC.mk ?_ ?_)
        exact fin_mk rfl
end Go.Proofs.Ytpgomgjpliallaa

namespace Go.Proofs.Ytpgomgjpliallaa
open Go.Dm
structure Au where
  syms:List Int
  fol:Nat→Nat→Bool
structure Ps where
  first:Nat→Bool
  last:Nat→Bool
  empty:Bool
def gsR (n:Nat) (f:Nat→Nat→Bool):List (List D):=(List.range n).map fun p=>gsD (f p)
theorem gsR_len {n:Nat} {f:Nat→Nat→Bool}:(gsR n f).length=n:=by simp [gsR]
theorem gsR_get {n p:Nat} {f:Nat→Nat→Bool} {d:List D} (h:p<n):(gsR n f).getD p d=[.v (.int .u64 (gwN (f p) 0)),.v (.int .u64 (gwN (f p) 1)),.v (.int .u64 (gwN (f p) 2)),.v (.int .u64 (gwN (f p) 3)),.v (.int .u64 (gwN (f p) 4))]:=by simp [gsR,List.getD,h,gsD_eq]
theorem gsR_take {n:Nat} {f:Nat→Nat→Bool}:(gsR n f).take n=gsR n f:=List.take_of_length_le (by rw [gsR_len];omega)
theorem gsR_set {n p:Nat} {f:Nat→Nat→Bool} {g:Nat→Bool}:(gsR n f).set p [.v (.int .u64 (gwN g 0)),.v (.int .u64 (gwN g 1)),.v (.int .u64 (gwN g 2)),.v (.int .u64 (gwN g 3)),.v (.int .u64 (gwN g 4))]=gsR n fun j=>if j=p then g else f j:=by
  rw [← gsD_eq]
  apply List.ext_getElem
  · simp [gsR]
  · intro k h1 h2
    simp only [gsR,List.getElem_set,List.getElem_map,List.getElem_range]
    by_cases e:p=k
    · rw [if_pos e,if_pos e.symm]
    · rw [if_neg e,if_neg (fun h=>e h.symm)]
theorem gsR_ext {n:Nat} {f g:Nat→Nat→Bool} (h:∀ p,p<n→∀ q,q<320→f p q=g p q):gsR n f=gsR n g:=by
  unfold gsR
  exact List.map_congr_left fun p hp=>gs_ext (h p (List.mem_range.mp hp))
theorem gsR_app {n:Nat} {f:Nat→Nat→Bool}:gsR n f++[[.v (.int .u64 0),.v (.int .u64 0),.v (.int .u64 0),.v (.int .u64 0),.v (.int .u64 0)]]=gsR (n+1) fun p q=>if p=n then false else f p q:=by
  unfold gsR
  rw [List.range_succ,List.map_append,List.map_cons,List.map_nil]
  congr 1
  · exact List.map_congr_left fun p hp=>gs_ext fun q _=>by
      have:=List.mem_range.mp hp
      show f p q=if p=n then false else f p q
      rw [if_neg (by omega)]
  · rw [← gs_zero]
    simp
theorem blbt_get {n i:Nat} {f:Nat→Bool} {d:List D} (h:i<n):(bls (bt n f)).getD i d=[.v (.bool (f i))]:=by simp [bls,bt,List.getD,h]
def vgb:=And.intro @blbt_get<|And.intro vmr<|And.intro @gsR_len<|And.intro @gsR_get<|And.intro @gsR_set<|And.intro @gsR_app<|And.intro @gsD_eq<|And.intro @bt_len<|And.intro @bt_get<|And.intro @Int.add_sub_cancel @Int.add_sub_cancel
def gJo (last first:Nat→Bool) (f:Nat→Nat→Bool) (p q:Nat):Bool:=f p q || (last p && first q)
def gJoU (last first:Nat→Bool) (f:Nat→Nat→Bool) (i p:Nat):Nat→Bool:=if p<i then gJo last first f p else f p
noncomputable def glO (l:List Dm.Node) (u:Au):List Ob:=[⟨9,[[.sl 3 (tbl nodD l),.sl 1 (bls (bt l.length (ebB l))),.ref 1 1 0 u.syms.length,.ref 2 5 0 u.syms.length,.v (.int .u64 0),.v (.int .u64 0),.v (.int .u64 0),.v (.int .u64 0),.v (.int .u64 0)]],false,false,.fix⟩,⟨1,i64s u.syms,true,false,.arr⟩,⟨5,gsR u.syms.length u.fol,true,false,.arr⟩]
theorem gl_fin {R:D→List (Option Ob)→Prop} {s:S} {d:D} {l:List Dm.Node} {u:Au} (h1:3≤s.N) (h2:fitL s 3 0 ((glO l u).map some)) (h:R (d.trim 3) ((glO l u).map some)):FinH 3 R s d:=finH_mk ((glO l u).map some) (Nat.le_refl _) h1 h2 h
theorem gjo_step {last first:Nat→Bool} {f:Nat→Nat→Bool} {n i:Nat} (h:last i=true):(gsR n fun j=>if j=i then gOr (gJoU last first f i i) first else gJoU last first f i j)=gsR n (gJoU last first f (i+1)):=gsR_ext fun p _ q _=>by
  by_cases e:p=i
  · subst e
    rw [if_pos rfl]
    unfold gOr gJoU gJo
    rw [if_neg (by omega),if_pos (by omega),h]
    simp
  · rw [if_neg e]
    unfold gJoU
    by_cases h2:p<i
    · rw [if_pos h2,if_pos (by omega)]
    · rw [if_neg h2,if_neg (by omega)]
theorem gjo_skip {last first:Nat→Bool} {f:Nat→Nat→Bool} {n i:Nat} (h:last i=false):gsR n (gJoU last first f i)=gsR n (gJoU last first f (i+1)):=gsR_ext fun p _ q _=>by
  unfold gJoU
  by_cases e:p=i
  · subst e
    rw [if_neg (by omega),if_pos (by omega)]
    unfold gJo
    rw [h];simp
  · by_cases h2:p<i
    · rw [if_pos h2,if_pos (by omega)]
    · rw [if_neg h2,if_neg (by omega)]
theorem gjo_all {last first:Nat→Bool} {f:Nat→Nat→Bool} {n:Nat}:gsR n (gJoU last first f n)=gsR n (gJo last first f):=gsR_ext fun p hp q _=>by
  unfold gJoU;rw [if_pos hp]
theorem gjo_zero {last first:Nat→Bool} {f:Nat→Nat→Bool} {n:Nat}:gsR n f=gsR n (gJoU last first f 0):=gsR_ext fun p hp q _=>by
  unfold gJoU;rw [if_neg (by omega)]
set_option maxRecDepth 10000 in
set_option maxHeartbeats 4000000 in
theorem join_spec (l : List Dm.Node) (u : Au) (hu : u.syms.length ≤ 319) (last first : Nat → Bool) : Dm.SpecH Try.prog 33 [.ptr 0 9 0 0, .ag (gsD last), .ag (gsD first)] (glO l u) (fun d o => d = .tu [] ∧ o = (glO l ⟨u.syms, gJo last first u.fol⟩).map some) := by
  refine specH_of_vc mixed Try.func33 c33 (by rw [show Try.f33.ntmps=_ from Try.ntmps33];simp) ?_
  unfold m33 r33
  unfold glO
  repeat' first|((first|refine Br.dec ?_ ?_|refine Br.eqi ?_ ?_)<;>intro h<;>try (exfalso;omega))|(simp (disch:=first|omega|(simp only [vlen];first|done|omega)) only [vgb,↓vAq,vBq,↓reduceIte,Nat.reduceBEq,Nat.reduceEqDiff,Nat.reduceLT,Nat.reduceLeDiff,Nat.reduceAdd,Nat.reduceMul,Nat.reduceSub,reduceCtorEq,Int.reduceToNat])|(refine Br.mk ?_ ?_<;>intro h)|(refine BrN.mk (fun h => ?_) ?_)|(refine AltVC.mk ?_ ?_)
  refine LoopVC.mk (X:=Nat) (fun i=>[(13,iv .i64 i)]) (fun i=>[(0,⟨9,[[.sl 3 (tbl nodD l),.sl 1 (bls (bt l.length (ebB l))),.ref 1 1 0 u.syms.length,.ref 2 5 0 u.syms.length,.v (.int .u64 0),.v (.int .u64 0),.v (.int .u64 0),.v (.int .u64 0),.v (.int .u64 0)]],false,false,.fix⟩),(1,⟨1,i64s u.syms,true,false,.arr⟩),(2,⟨5,gsR u.syms.length (gJoU last first u.fol i),true,false,.arr⟩),(3,⟨5,[gsD last],true,false,.fix⟩),(4,⟨5,[gsD first],true,false,.fix⟩)]) (fun i=>u.syms.length - i) (fun i=>i≤u.syms.length) 0 (Nat.zero_le _) ?_ ?_
  · rw [← gjo_zero]
    (simp (disch:=first|omega|(simp only [vlen];first|done|omega)) only [Fits_u,Fits_m,Fits_nil,List.length_append,vgb,↓vAq,vBq,↓reduceIte,Nat.reduceBEq,Nat.reduceEqDiff,Nat.reduceLT,Nat.reduceLeDiff,Nat.reduceAdd,Nat.reduceMul,Nat.reduceSub,reduceCtorEq,Int.reduceToNat]<;>(repeat' first|rfl|apply And.intro))
  · intro i hi
    by_cases hil:i<u.syms.length
    · have hH:=gHas_spec last i (by omega)
      cases hli:last i with
      | false =>
        rw [hli] at hH
        repeat' first|((first|refine Br.dec ?_ ?_|refine Br.eqi ?_ ?_)<;>intro h<;>try (exfalso;omega))|(simp (disch:=first|omega|(simp only [vlen];first|done|omega)) only [vgb,↓vAq,vBq,↓reduceIte,Nat.reduceBEq,Nat.reduceEqDiff,Nat.reduceLT,Nat.reduceLeDiff,Nat.reduceAdd,Nat.reduceMul,Nat.reduceSub,reduceCtorEq,Int.reduceToNat])|(refine Br.mk ?_ ?_<;>intro h)|(refine BrN.mk (fun h => ?_) ?_)|(refine AltVC.mk ?_ ?_)
        refine CallVC.eq hH ?_
        repeat' first|((first|refine Br.dec ?_ ?_|refine Br.eqi ?_ ?_)<;>intro h<;>try (exfalso;omega))|(simp (disch:=first|omega|(simp only [vlen];first|done|omega)) only [vgb,↓vAq,vBq,↓reduceIte,Nat.reduceBEq,Nat.reduceEqDiff,Nat.reduceLT,Nat.reduceLeDiff,Nat.reduceAdd,Nat.reduceMul,Nat.reduceSub,reduceCtorEq,Int.reduceToNat])|(refine Br.mk ?_ ?_<;>intro h)|(refine BrN.mk (fun h => ?_) ?_)|(refine AltVC.mk ?_ ?_)
        refine loopK.mk (i+1) (by simp (disch:=first|omega|(simp only [vlen];first|done|omega)) only [↓vAq,vBq,↓reduceIte,Nat.reduceBEq,Nat.reduceEqDiff,Nat.reduceLT,Nat.reduceLeDiff,Nat.reduceAdd,Nat.reduceMul,Nat.reduceSub,reduceCtorEq,Int.reduceToNat]) (by omega) (by omega) ?_
        rw [← gjo_skip hli]
        (simp (disch:=first|omega|(simp only [vlen];first|done|omega)) only [Fits_u,Fits_m,Fits_nil,List.length_append,vgb,↓vAq,vBq,↓reduceIte,Nat.reduceBEq,Nat.reduceEqDiff,Nat.reduceLT,Nat.reduceLeDiff,Nat.reduceAdd,Nat.reduceMul,Nat.reduceSub,reduceCtorEq,Int.reduceToNat]<;>(repeat' first|rfl|apply And.intro))
      | true =>
        rw [hli] at hH
        repeat' first|((first|refine Br.dec ?_ ?_|refine Br.eqi ?_ ?_)<;>intro h<;>try (exfalso;omega))|(simp (disch:=first|omega|(simp only [vlen];first|done|omega)) only [vgb,↓vAq,vBq,↓reduceIte,Nat.reduceBEq,Nat.reduceEqDiff,Nat.reduceLT,Nat.reduceLeDiff,Nat.reduceAdd,Nat.reduceMul,Nat.reduceSub,reduceCtorEq,Int.reduceToNat])|(refine Br.mk ?_ ?_<;>intro h)|(refine BrN.mk (fun h => ?_) ?_)|(refine AltVC.mk ?_ ?_)
        refine CallVC.eq hH ?_
        repeat' first|((first|refine Br.dec ?_ ?_|refine Br.eqi ?_ ?_)<;>intro h<;>try (exfalso;omega))|(simp (disch:=first|omega|(simp only [vlen];first|done|omega)) only [vgb,↓vAq,vBq,↓reduceIte,Nat.reduceBEq,Nat.reduceEqDiff,Nat.reduceLT,Nat.reduceLeDiff,Nat.reduceAdd,Nat.reduceMul,Nat.reduceSub,reduceCtorEq,Int.reduceToNat])|(refine Br.mk ?_ ?_<;>intro h)|(refine BrN.mk (fun h => ?_) ?_)|(refine AltVC.mk ?_ ?_)
        refine CallP.eq (gOr_spec (gJoU last first u.fol i i) first) (fun h=>by cases h) ?_
        repeat' first|((first|refine Br.dec ?_ ?_|refine Br.eqi ?_ ?_)<;>intro h<;>try (exfalso;omega))|(simp (disch:=first|omega|(simp only [vlen];first|done|omega)) only [vgb,↓vAq,vBq,↓reduceIte,Nat.reduceBEq,Nat.reduceEqDiff,Nat.reduceLT,Nat.reduceLeDiff,Nat.reduceAdd,Nat.reduceMul,Nat.reduceSub,reduceCtorEq,Int.reduceToNat])|(refine Br.mk ?_ ?_<;>intro h)|(refine BrN.mk (fun h => ?_) ?_)|(refine AltVC.mk ?_ ?_)
        refine loopK.mk (i+1) (by simp (disch:=first|omega|(simp only [vlen];first|done|omega)) only [↓vAq,vBq,↓reduceIte,Nat.reduceBEq,Nat.reduceEqDiff,Nat.reduceLT,Nat.reduceLeDiff,Nat.reduceAdd,Nat.reduceMul,Nat.reduceSub,reduceCtorEq,Int.reduceToNat]) (by omega) (by omega) ?_
        rw [← gjo_step hli]
        (simp (disch:=first|omega|(simp only [vlen];first|done|omega)) only [Fits_u,Fits_m,Fits_nil,List.length_append,vgb,↓vAq,vBq,↓reduceIte,Nat.reduceBEq,Nat.reduceEqDiff,Nat.reduceLT,Nat.reduceLeDiff,Nat.reduceAdd,Nat.reduceMul,Nat.reduceSub,reduceCtorEq,Int.reduceToNat]<;>(repeat' first|rfl|apply And.intro))
    · have:i=u.syms.length:=by omega
      subst this
      repeat' first|((first|refine Br.dec ?_ ?_|refine Br.eqi ?_ ?_)<;>intro h<;>try (exfalso;omega))|(simp (disch:=first|omega|(simp only [vlen];first|done|omega)) only [vgb,↓vAq,vBq,↓reduceIte,Nat.reduceBEq,Nat.reduceEqDiff,Nat.reduceLT,Nat.reduceLeDiff,Nat.reduceAdd,Nat.reduceMul,Nat.reduceSub,reduceCtorEq,Int.reduceToNat])|(refine Br.mk ?_ ?_<;>intro h)|(refine BrN.mk (fun h => ?_) ?_)|(refine AltVC.mk ?_ ?_)
      rw [gjo_all]
      exact gl_fin (l:=l) (u:=⟨u.syms,gJo last first u.fol⟩) (by simp (disch:=first|omega|(simp only [vlen];first|done|omega)) only [vgb,↓vAq,vBq,↓reduceIte,Nat.reduceBEq,Nat.reduceEqDiff,Nat.reduceLT,Nat.reduceLeDiff,Nat.reduceAdd,Nat.reduceMul,Nat.reduceSub,reduceCtorEq,Int.reduceToNat]) (by unfold glO;simp (disch:=first|omega|(simp only [vlen];first|done|omega)) only [vgb,↓vAq,vBq,↓reduceIte,Nat.reduceBEq,Nat.reduceEqDiff,Nat.reduceLT,Nat.reduceLeDiff,Nat.reduceAdd,Nat.reduceMul,Nat.reduceSub,reduceCtorEq,Int.reduceToNat]) ⟨by simp [D.trim,lf_tu],by simp [glO,gsD_eq]⟩
inductive Bl (l:List Dm.Node):Nat→Au→Ps→Au→Prop
  | none {i:Nat} {u:Au} (h:(l.getD i default).kind<3):Bl l i u ⟨fun _=>false,fun _=>false,ebB l i⟩ u
  | sym {i:Nat} {u:Au} (h:(l.getD i default).kind=3):Bl l i u ⟨fun q=>decide (q=u.syms.length),fun q=>decide (q=u.syms.length),ebB l i⟩ ⟨u.syms++[(l.getD i default).a],fun p q=>if p=u.syms.length then false else u.fol p q⟩
  | cat {i:Nat} {u u1 u2:Au} {x y:Ps} (h:(l.getD i default).kind=4) (hx:Bl l (l.getD i default).a.toNat u x u1) (hy:Bl l (l.getD i default).b.toNat u1 y u2) :
      Bl l i u ⟨if x.empty then gOr x.first y.first else x.first,if y.empty then gOr y.last x.last else y.last,ebB l i⟩ ⟨u2.syms,gJo x.last y.first u2.fol⟩
  | or {i:Nat} {u u1 u2:Au} {x y:Ps} (h:(l.getD i default).kind=5) (hx:Bl l (l.getD i default).a.toNat u x u1) (hy:Bl l (l.getD i default).b.toNat u1 y u2) :
      Bl l i u ⟨gOr x.first y.first,gOr x.last y.last,ebB l i⟩ u2
  | star {i:Nat} {u u1:Au} {x:Ps} (h:(l.getD i default).kind=6) (hx:Bl l (l.getD i default).a.toNat u x u1) :
      Bl l i u ⟨x.first,x.last,ebB l i⟩ ⟨u1.syms,gJo x.last x.first u1.fol⟩
def psD (x:Ps):List D:=gsD x.first++gsD x.last++[.v (.bool x.empty)]
theorem psD_eq {x:Ps}:psD x=[.v (.int .u64 (gwN x.first 0)),.v (.int .u64 (gwN x.first 1)),.v (.int .u64 (gwN x.first 2)),.v (.int .u64 (gwN x.first 3)),.v (.int .u64 (gwN x.first 4)),.v (.int .u64 (gwN x.last 0)),.v (.int .u64 (gwN x.last 1)),.v (.int .u64 (gwN x.last 2)),.v (.int .u64 (gwN x.last 3)),.v (.int .u64 (gwN x.last 4)),.v (.bool x.empty)]:=(rfl)
theorem ps_zero {b:Bool}:[D.v (.int .u64 0),.v (.int .u64 0),.v (.int .u64 0),.v (.int .u64 0),.v (.int .u64 0),.v (.int .u64 0),.v (.int .u64 0),.v (.int .u64 0),.v (.int .u64 0),.v (.int .u64 0),.v (.bool b)]=psD ⟨fun _=>false,fun _=>false,b⟩:=by
  unfold psD
  rw [gs_zero];rfl
theorem ps_trim {x:Ps} {n:Nat}:(D.ag (psD x)).trim n=.ag (psD x):=by simp [psD_eq,trim_ag,trim_v]
def blR (l:List Dm.Node) (i:Nat) (u:Au) (d:D) (o:List (Option Ob)):Prop := ∃ x u',d=.ag (psD x)∧o=(glO l u').map some∧Bl l i u x u'∧u'.syms.length≤u.syms.length+2 ^ i
theorem bl_fin {s:S} {l:List Dm.Node} {i:Nat} {u:Au} {c:List D} (x:Ps) (u':Au) (h1:3≤s.N) (h2:fitL s 3 0 ((glO l u').map some)) (hc:c=psD x) (hb:Bl l i u x u') (hn:u'.syms.length≤u.syms.length+2 ^ i):FinH 3 (blR l i u) s (.ag c):=gl_fin h1 h2 ⟨x,u',by rw [hc];exact ps_trim,rfl,hb,hn⟩
theorem two_pow2 {a b i:Nat} (ha:a<i) (hb:b<i):2 ^ a+2 ^ b≤2 ^ i:=by
  have h1:2 ^ a≤2 ^ (i - 1):=Nat.pow_le_pow_right (by omega) (by omega)
  have h2:2 ^ b≤2 ^ (i - 1):=Nat.pow_le_pow_right (by omega) (by omega)
  have h3:2 ^ i=2 ^ (i - 1) * 2:=by rw [← Nat.pow_succ];congr 1;omega
  omega
def vgc:=And.intro vgb @psD_eq
set_option maxRecDepth 10000 in
set_option maxHeartbeats 4000000 in
theorem build_spec (k0 : Int) (l : List Dm.Node) (hv : NodesOk k0 l) (hl : l.length ≤ 9) (i : Nat) (hi : i < l.length) (u : Au) (hu : u.syms.length + 2 ^ i ≤ 300) : Dm.SpecH Try.prog 30 [.ptr 0 9 0 0, iv .i64 i] (glO l u) (blR l i u) := by
  refine specH_of_vc mixed Try.func30 c30 (by rw [show Try.f30.ntmps=_ from Try.ntmps30];simp) ?_
  unfold m30 r30
  have hok:=hv i hi
  obtain ⟨hk1,hk6,hk3,hk4,hk5⟩:=hok
  obtain ⟨nd,hnd⟩ : ∃ nd,l.getD i default=nd:=⟨_,rfl⟩
  rw [hnd] at hk1 hk6 hk3 hk4 hk5
  obtain ⟨B,hB⟩ : ∃ B,2 ^ i=B:=⟨_,rfl⟩
  have hB0:0<B:=by rw [← hB];exact Nat.pow_pos (by omega)
  rw [hB] at hu
  have hkk:nd.kind<3∨nd.kind=3∨nd.kind=4∨nd.kind=5∨nd.kind=6:=by omega
  unfold glO
  rcases hkk with hk|hk|hk|hk|hk
  · repeat' first|((first|refine Br.dec ?_ ?_|refine Br.eqi ?_ ?_)<;>intro h<;>try (exfalso;omega))|(simp (disch:=first|omega|(simp only [vlen];first|done|omega)) only [vgc,hnd,↓vAq,vBq,↓reduceIte,Nat.reduceBEq,Nat.reduceEqDiff,Nat.reduceLT,Nat.reduceLeDiff,Nat.reduceAdd,Nat.reduceMul,Nat.reduceSub,reduceCtorEq,Int.reduceToNat])|(refine Br.mk ?_ ?_<;>intro h)|(refine BrN.mk (fun h => ?_) ?_)|(refine AltVC.mk ?_ ?_)
    all_goals first|(exfalso;omega;done)|skip
    exact bl_fin _ u (by simp (disch:=first|omega|(simp only [vlen];first|done|omega)) only [vgc,↓vAq,vBq,↓reduceIte,Nat.reduceBEq,Nat.reduceEqDiff,Nat.reduceLT,Nat.reduceLeDiff,Nat.reduceAdd,Nat.reduceMul,Nat.reduceSub,reduceCtorEq,Int.reduceToNat]) (by unfold glO;simp (disch:=first|omega|(simp only [vlen];first|done|omega)) only [vgc,↓vAq,vBq,↓reduceIte,Nat.reduceBEq,Nat.reduceEqDiff,Nat.reduceLT,Nat.reduceLeDiff,Nat.reduceAdd,Nat.reduceMul,Nat.reduceSub,reduceCtorEq,Int.reduceToNat]) ps_zero (.none (by rw [hnd];exact hk)) (by omega)
  · have hW:=gWith_spec (fun _=>false) u.syms.length (by omega)
    rw [gs_zero] at hW
    repeat' first|((first|refine Br.dec ?_ ?_|refine Br.eqi ?_ ?_)<;>intro h<;>try (exfalso;omega))|(simp (disch:=first|omega|(simp only [vlen];first|done|omega)) only [vgc,hnd,↓vAq,vBq,↓reduceIte,Nat.reduceBEq,Nat.reduceEqDiff,Nat.reduceLT,Nat.reduceLeDiff,Nat.reduceAdd,Nat.reduceMul,Nat.reduceSub,reduceCtorEq,Int.reduceToNat])|(refine Br.mk ?_ ?_<;>intro h)|(refine BrN.mk (fun h => ?_) ?_)|(refine AltVC.mk ?_ ?_)
    all_goals first|(exfalso;omega;done)|skip
    refine CallP.eq hW (fun h=>by cases h) ?_
    repeat' first|((first|refine Br.dec ?_ ?_|refine Br.eqi ?_ ?_)<;>intro h<;>try (exfalso;omega))|(simp (disch:=first|omega|(simp only [vlen];first|done|omega)) only [vgc,hnd,↓vAq,vBq,↓reduceIte,Nat.reduceBEq,Nat.reduceEqDiff,Nat.reduceLT,Nat.reduceLeDiff,Nat.reduceAdd,Nat.reduceMul,Nat.reduceSub,reduceCtorEq,Int.reduceToNat])|(refine Br.mk ?_ ?_<;>intro h)|(refine BrN.mk (fun h => ?_) ?_)|(refine AltVC.mk ?_ ?_)
    refine CallP.eq hW (fun h=>by cases h) ?_
    repeat' first|((first|refine Br.dec ?_ ?_|refine Br.eqi ?_ ?_)<;>intro h<;>try (exfalso;omega))|(simp (disch:=first|omega|(simp only [vlen];first|done|omega)) only [vgc,hnd,↓vAq,vBq,↓reduceIte,Nat.reduceBEq,Nat.reduceEqDiff,Nat.reduceLT,Nat.reduceLeDiff,Nat.reduceAdd,Nat.reduceMul,Nat.reduceSub,reduceCtorEq,Int.reduceToNat])|(refine Br.mk ?_ ?_<;>intro h)|(refine BrN.mk (fun h => ?_) ?_)|(refine AltVC.mk ?_ ?_)
    have hz:gAdd (fun _=>false) u.syms.length=fun q=>decide (q=u.syms.length):=by funext q;unfold gAdd;rw [Bool.false_or]
    have hbl:Bl l i u _ _:=.sym (by rw [hnd];exact hk)
    rw [hnd] at hbl
    rw [hz]
    have hsl:(u.syms++[nd.a]).length=u.syms.length+1:=by simp
    exact bl_fin _ _ (by simp (disch:=first|omega|(simp only [vlen];first|done|omega)) only [vgc,↓vAq,vBq,↓reduceIte,Nat.reduceBEq,Nat.reduceEqDiff,Nat.reduceLT,Nat.reduceLeDiff,Nat.reduceAdd,Nat.reduceMul,Nat.reduceSub,reduceCtorEq,Int.reduceToNat]) (by unfold glO;simp (disch:=first|omega|(simp only [vlen];first|done|omega)) only [vgc,hsl,gsR_take,↓vAq,vBq,↓reduceIte,Nat.reduceBEq,Nat.reduceEqDiff,Nat.reduceLT,Nat.reduceLeDiff,Nat.reduceAdd,Nat.reduceMul,Nat.reduceSub,reduceCtorEq,Int.reduceToNat]) (by rw [psD_eq]) hbl (by show (u.syms++[_]).length≤_;rw [hB,List.length_append];simp only [List.length_cons,List.length_nil];omega)
  · obtain ⟨h4a,h4b⟩:=hk4 (by omega)
    obtain ⟨h5a,h5b⟩:=hk5 (.inl hk)
    obtain ⟨a,ha⟩ : ∃ a:Nat,nd.a=a:=⟨nd.a.toNat,by omega⟩
    obtain ⟨b,hb⟩ : ∃ b:Nat,nd.b=b:=⟨nd.b.toNat,by omega⟩
    have hpa:0<2 ^ a:=Nat.pow_pos (by omega)
    have hpb:0<2 ^ b:=Nat.pow_pos (by omega)
    have hab:=two_pow2 (a:=a) (b:=b) (i:=i) (by omega) (by omega)
    have hIa:=fun u (hu:u.syms.length+2 ^ a≤300)=>build_spec k0 l hv hl a (by omega) u hu
    have hIb:=fun u (hu:u.syms.length+2 ^ b≤300)=>build_spec k0 l hv hl b (by omega) u hu
    rw [hB] at hab
    repeat' first|((first|refine Br.dec ?_ ?_|refine Br.eqi ?_ ?_)<;>intro h<;>try (exfalso;omega))|(simp (disch:=first|omega|(simp only [vlen];first|done|omega)) only [vgc,hnd,ha,hb,↓vAq,vBq,↓reduceIte,Nat.reduceBEq,Nat.reduceEqDiff,Nat.reduceLT,Nat.reduceLeDiff,Nat.reduceAdd,Nat.reduceMul,Nat.reduceSub,reduceCtorEq,Int.reduceToNat])|(refine Br.mk ?_ ?_<;>intro h)|(refine BrN.mk (fun h => ?_) ?_)|(refine AltVC.mk ?_ ?_)
    all_goals first|(exfalso;omega;done)|skip
    refine CallVC.lendE [0,1,2] [.ptr 0 9 0 0,iv .i64 a] (glO l u) (hIa u (by omega)) (by simp) (by rfl) (by unfold glO;(simp (disch:=first|omega|(simp only [vlen];first|done|omega)) only [vle0,↓vAq,vBq,↓reduceIte,Nat.reduceBEq,Nat.reduceEqDiff,Nat.reduceLT,Nat.reduceLeDiff,Nat.reduceAdd,Nat.reduceMul,Nat.reduceSub,reduceCtorEq,Int.reduceToNat]<;>(repeat' first|rfl|apply And.intro))) ?_
    rintro _ _ ⟨x,u1,rfl,rfl,hx,hn1⟩
    unfold glO
    repeat' first|((first|refine Br.dec ?_ ?_|refine Br.eqi ?_ ?_)<;>intro h<;>try (exfalso;omega))|(simp (disch:=first|omega|(simp only [vlen];first|done|omega)) only [vgc,hnd,ha,hb,↓vAq,vBq,↓reduceIte,Nat.reduceBEq,Nat.reduceEqDiff,Nat.reduceLT,Nat.reduceLeDiff,Nat.reduceAdd,Nat.reduceMul,Nat.reduceSub,reduceCtorEq,Int.reduceToNat])|(refine Br.mk ?_ ?_<;>intro h)|(refine BrN.mk (fun h => ?_) ?_)|(refine AltVC.mk ?_ ?_)
    refine CallVC.lendE [0,1,2] [.ptr 0 9 0 0,iv .i64 b] (glO l u1) (hIb u1 (by omega)) (by simp) (by rfl) (by unfold glO;(simp (disch:=first|omega|(simp only [vlen];first|done|omega)) only [vle0,↓vAq,vBq,↓reduceIte,Nat.reduceBEq,Nat.reduceEqDiff,Nat.reduceLT,Nat.reduceLeDiff,Nat.reduceAdd,Nat.reduceMul,Nat.reduceSub,reduceCtorEq,Int.reduceToNat]<;>(repeat' first|rfl|apply And.intro))) ?_
    rintro _ _ ⟨y,u2,rfl,rfl,hy,hn2⟩
    unfold glO
    repeat' first|((first|refine Br.dec ?_ ?_|refine Br.eqi ?_ ?_)<;>intro h<;>try (exfalso;omega))|(simp (disch:=first|omega|(simp only [vlen];first|done|omega)) only [vgc,hnd,ha,hb,↓vAq,vBq,↓reduceIte,Nat.reduceBEq,Nat.reduceEqDiff,Nat.reduceLT,Nat.reduceLeDiff,Nat.reduceAdd,Nat.reduceMul,Nat.reduceSub,reduceCtorEq,Int.reduceToNat])|(refine Br.mk ?_ ?_<;>intro h)|(refine BrN.mk (fun h => ?_) ?_)|(refine AltVC.mk ?_ ?_)
    refine CallVC.lendE [0,1,2] [.ptr 0 9 0 0,.ag (gsD x.last),.ag (gsD y.first)] (glO l u2) (join_spec l u2 (by omega) x.last y.first) (by simp) (by rfl) (by unfold glO gsD gw;(simp (disch:=first|omega|(simp only [vlen];first|done|omega)) only [vle0,↓vAq,vBq,↓reduceIte,Nat.reduceBEq,Nat.reduceEqDiff,Nat.reduceLT,Nat.reduceLeDiff,Nat.reduceAdd,Nat.reduceMul,Nat.reduceSub,reduceCtorEq,Int.reduceToNat]<;>(repeat' first|rfl|apply And.intro))) ?_
    rintro _ _ ⟨rfl,rfl⟩
    unfold glO
    repeat' first|((first|refine Br.dec ?_ ?_|refine Br.eqi ?_ ?_)<;>intro h<;>try (exfalso;omega))|(simp (disch:=first|omega|(simp only [vlen];first|done|omega)) only [vgc,hnd,ha,hb,↓vAq,vBq,↓reduceIte,Nat.reduceBEq,Nat.reduceEqDiff,Nat.reduceLT,Nat.reduceLeDiff,Nat.reduceAdd,Nat.reduceMul,Nat.reduceSub,reduceCtorEq,Int.reduceToNat])|(refine Br.mk ?_ ?_<;>intro h)|(refine BrN.mk (fun h => ?_) ?_)|(refine AltVC.mk ?_ ?_)
    refine DrawVC.u ?_
    have hbl:Bl l i u _ _:=.cat (by rw [hnd];exact hk) (by rw [hnd,ha];exact hx) (by rw [hnd,hb];exact hy)
    cases hxe:x.empty<;>cases hye:y.empty
    all_goals
      rw [hxe,hye] at hbl
      simp only [if_true,Bool.false_eq_true,if_false] at hbl
      repeat' first|((first|refine Br.dec ?_ ?_|refine Br.eqi ?_ ?_)<;>intro h<;>try (exfalso;omega))|(simp (disch:=first|omega|(simp only [vlen];first|done|omega)) only [vgc,hnd,ha,hb,hxe,hye,↓vAq,vBq,↓reduceIte,Nat.reduceBEq,Nat.reduceEqDiff,Nat.reduceLT,Nat.reduceLeDiff,Nat.reduceAdd,Nat.reduceMul,Nat.reduceSub,reduceCtorEq,Int.reduceToNat])|(refine Br.mk ?_ ?_<;>intro h)|(refine BrN.mk (fun h => ?_) ?_)|(refine AltVC.mk ?_ ?_)
    all_goals
      repeat (first
        | (refine CallVC.eq (gOr_spec x.first y.first) ?_;(repeat' first|((first|refine Br.dec ?_ ?_|refine Br.eqi ?_ ?_)<;>intro h<;>try (exfalso;omega))|(simp (disch:=first|omega|(simp only [vlen];first|done|omega)) only [vgc,hnd,ha,hb,hxe,hye,↓vAq,vBq,↓reduceIte,Nat.reduceBEq,Nat.reduceEqDiff,Nat.reduceLT,Nat.reduceLeDiff,Nat.reduceAdd,Nat.reduceMul,Nat.reduceSub,reduceCtorEq,Int.reduceToNat])|(refine Br.mk ?_ ?_<;>intro h)|(refine BrN.mk (fun h => ?_) ?_)|(refine AltVC.mk ?_ ?_)))
        | (refine CallVC.eq (gOr_spec y.last x.last) ?_;(repeat' first|((first|refine Br.dec ?_ ?_|refine Br.eqi ?_ ?_)<;>intro h<;>try (exfalso;omega))|(simp (disch:=first|omega|(simp only [vlen];first|done|omega)) only [vgc,hnd,ha,hb,hxe,hye,↓vAq,vBq,↓reduceIte,Nat.reduceBEq,Nat.reduceEqDiff,Nat.reduceLT,Nat.reduceLeDiff,Nat.reduceAdd,Nat.reduceMul,Nat.reduceSub,reduceCtorEq,Int.reduceToNat])|(refine Br.mk ?_ ?_<;>intro h)|(refine BrN.mk (fun h => ?_) ?_)|(refine AltVC.mk ?_ ?_))))
    all_goals
      exact bl_fin _ _ (by simp (disch:=first|omega|(simp only [vlen];first|done|omega)) only [vgc,↓vAq,vBq,↓reduceIte,Nat.reduceBEq,Nat.reduceEqDiff,Nat.reduceLT,Nat.reduceLeDiff,Nat.reduceAdd,Nat.reduceMul,Nat.reduceSub,reduceCtorEq,Int.reduceToNat]) (by unfold glO;simp (disch:=first|omega|(simp only [vlen];first|done|omega)) only [vgc,↓vAq,vBq,↓reduceIte,Nat.reduceBEq,Nat.reduceEqDiff,Nat.reduceLT,Nat.reduceLeDiff,Nat.reduceAdd,Nat.reduceMul,Nat.reduceSub,reduceCtorEq,Int.reduceToNat]) (by rw [psD_eq]) hbl (by show u2.syms.length≤_;rw [hB];omega)
  · obtain ⟨h4a,h4b⟩:=hk4 (by omega)
    obtain ⟨h5a,h5b⟩:=hk5 (.inr hk)
    obtain ⟨a,ha⟩ : ∃ a:Nat,nd.a=a:=⟨nd.a.toNat,by omega⟩
    obtain ⟨b,hb⟩ : ∃ b:Nat,nd.b=b:=⟨nd.b.toNat,by omega⟩
    have hpa:0<2 ^ a:=Nat.pow_pos (by omega)
    have hpb:0<2 ^ b:=Nat.pow_pos (by omega)
    have hab:=two_pow2 (a:=a) (b:=b) (i:=i) (by omega) (by omega)
    have hIa:=fun u (hu:u.syms.length+2 ^ a≤300)=>build_spec k0 l hv hl a (by omega) u hu
    have hIb:=fun u (hu:u.syms.length+2 ^ b≤300)=>build_spec k0 l hv hl b (by omega) u hu
    rw [hB] at hab
    repeat' first|((first|refine Br.dec ?_ ?_|refine Br.eqi ?_ ?_)<;>intro h<;>try (exfalso;omega))|(simp (disch:=first|omega|(simp only [vlen];first|done|omega)) only [vgc,hnd,ha,hb,↓vAq,vBq,↓reduceIte,Nat.reduceBEq,Nat.reduceEqDiff,Nat.reduceLT,Nat.reduceLeDiff,Nat.reduceAdd,Nat.reduceMul,Nat.reduceSub,reduceCtorEq,Int.reduceToNat])|(refine Br.mk ?_ ?_<;>intro h)|(refine BrN.mk (fun h => ?_) ?_)|(refine AltVC.mk ?_ ?_)
    all_goals first|(exfalso;omega;done)|skip
    refine CallVC.lendE [0,1,2] [.ptr 0 9 0 0,iv .i64 a] (glO l u) (hIa u (by omega)) (by simp) (by rfl) (by unfold glO;(simp (disch:=first|omega|(simp only [vlen];first|done|omega)) only [vle0,↓vAq,vBq,↓reduceIte,Nat.reduceBEq,Nat.reduceEqDiff,Nat.reduceLT,Nat.reduceLeDiff,Nat.reduceAdd,Nat.reduceMul,Nat.reduceSub,reduceCtorEq,Int.reduceToNat]<;>(repeat' first|rfl|apply And.intro))) ?_
    rintro _ _ ⟨x,u1,rfl,rfl,hx,hn1⟩
    unfold glO
    repeat' first|((first|refine Br.dec ?_ ?_|refine Br.eqi ?_ ?_)<;>intro h<;>try (exfalso;omega))|(simp (disch:=first|omega|(simp only [vlen];first|done|omega)) only [vgc,hnd,ha,hb,↓vAq,vBq,↓reduceIte,Nat.reduceBEq,Nat.reduceEqDiff,Nat.reduceLT,Nat.reduceLeDiff,Nat.reduceAdd,Nat.reduceMul,Nat.reduceSub,reduceCtorEq,Int.reduceToNat])|(refine Br.mk ?_ ?_<;>intro h)|(refine BrN.mk (fun h => ?_) ?_)|(refine AltVC.mk ?_ ?_)
    refine CallVC.lendE [0,1,2] [.ptr 0 9 0 0,iv .i64 b] (glO l u1) (hIb u1 (by omega)) (by simp) (by rfl) (by unfold glO;(simp (disch:=first|omega|(simp only [vlen];first|done|omega)) only [vle0,↓vAq,vBq,↓reduceIte,Nat.reduceBEq,Nat.reduceEqDiff,Nat.reduceLT,Nat.reduceLeDiff,Nat.reduceAdd,Nat.reduceMul,Nat.reduceSub,reduceCtorEq,Int.reduceToNat]<;>(repeat' first|rfl|apply And.intro))) ?_
    rintro _ _ ⟨y,u2,rfl,rfl,hy,hn2⟩
    unfold glO
    repeat' first|((first|refine Br.dec ?_ ?_|refine Br.eqi ?_ ?_)<;>intro h<;>try (exfalso;omega))|(simp (disch:=first|omega|(simp only [vlen];first|done|omega)) only [vgc,hnd,ha,hb,↓vAq,vBq,↓reduceIte,Nat.reduceBEq,Nat.reduceEqDiff,Nat.reduceLT,Nat.reduceLeDiff,Nat.reduceAdd,Nat.reduceMul,Nat.reduceSub,reduceCtorEq,Int.reduceToNat])|(refine Br.mk ?_ ?_<;>intro h)|(refine BrN.mk (fun h => ?_) ?_)|(refine AltVC.mk ?_ ?_)
    have hbl:Bl l i u _ _:=.or (by rw [hnd];exact hk) (by rw [hnd,ha];exact hx) (by rw [hnd,hb];exact hy)
    refine CallP.eq (gOr_spec x.first y.first) (fun h=>by cases h) ?_
    repeat' first|((first|refine Br.dec ?_ ?_|refine Br.eqi ?_ ?_)<;>intro h<;>try (exfalso;omega))|(simp (disch:=first|omega|(simp only [vlen];first|done|omega)) only [vgc,hnd,ha,hb,↓vAq,vBq,↓reduceIte,Nat.reduceBEq,Nat.reduceEqDiff,Nat.reduceLT,Nat.reduceLeDiff,Nat.reduceAdd,Nat.reduceMul,Nat.reduceSub,reduceCtorEq,Int.reduceToNat])|(refine Br.mk ?_ ?_<;>intro h)|(refine BrN.mk (fun h => ?_) ?_)|(refine AltVC.mk ?_ ?_)
    refine CallP.eq (gOr_spec x.last y.last) (fun h=>by cases h) ?_
    repeat' first|((first|refine Br.dec ?_ ?_|refine Br.eqi ?_ ?_)<;>intro h<;>try (exfalso;omega))|(simp (disch:=first|omega|(simp only [vlen];first|done|omega)) only [vgc,hnd,ha,hb,↓vAq,vBq,↓reduceIte,Nat.reduceBEq,Nat.reduceEqDiff,Nat.reduceLT,Nat.reduceLeDiff,Nat.reduceAdd,Nat.reduceMul,Nat.reduceSub,reduceCtorEq,Int.reduceToNat])|(refine Br.mk ?_ ?_<;>intro h)|(refine BrN.mk (fun h => ?_) ?_)|(refine AltVC.mk ?_ ?_)
    exact bl_fin _ _ (by simp (disch:=first|omega|(simp only [vlen];first|done|omega)) only [vgc,↓vAq,vBq,↓reduceIte,Nat.reduceBEq,Nat.reduceEqDiff,Nat.reduceLT,Nat.reduceLeDiff,Nat.reduceAdd,Nat.reduceMul,Nat.reduceSub,reduceCtorEq,Int.reduceToNat]) (by unfold glO;simp (disch:=first|omega|(simp only [vlen];first|done|omega)) only [vgc,↓vAq,vBq,↓reduceIte,Nat.reduceBEq,Nat.reduceEqDiff,Nat.reduceLT,Nat.reduceLeDiff,Nat.reduceAdd,Nat.reduceMul,Nat.reduceSub,reduceCtorEq,Int.reduceToNat]) (by rw [psD_eq]) hbl (by show u2.syms.length≤_;rw [hB];omega)
  · obtain ⟨h4a,h4b⟩:=hk4 (by omega)
    obtain ⟨a,ha⟩ : ∃ a:Nat,nd.a=a:=⟨nd.a.toNat,by omega⟩
    have hpa:0<2 ^ a:=Nat.pow_pos (by omega)
    have hab:=two_pow2 (a:=a) (b:=a) (i:=i) (by omega) (by omega)
    have hIa:=fun u (hu:u.syms.length+2 ^ a≤300)=>build_spec k0 l hv hl a (by omega) u hu
    rw [hB] at hab
    repeat' first|((first|refine Br.dec ?_ ?_|refine Br.eqi ?_ ?_)<;>intro h<;>try (exfalso;omega))|(simp (disch:=first|omega|(simp only [vlen];first|done|omega)) only [vgc,hnd,ha,↓vAq,vBq,↓reduceIte,Nat.reduceBEq,Nat.reduceEqDiff,Nat.reduceLT,Nat.reduceLeDiff,Nat.reduceAdd,Nat.reduceMul,Nat.reduceSub,reduceCtorEq,Int.reduceToNat])|(refine Br.mk ?_ ?_<;>intro h)|(refine BrN.mk (fun h => ?_) ?_)|(refine AltVC.mk ?_ ?_)
    all_goals first|(exfalso;omega;done)|skip
    refine CallVC.lendE [0,1,2] [.ptr 0 9 0 0,iv .i64 a] (glO l u) (hIa u (by omega)) (by simp) (by rfl) (by unfold glO;(simp (disch:=first|omega|(simp only [vlen];first|done|omega)) only [vle0,↓vAq,vBq,↓reduceIte,Nat.reduceBEq,Nat.reduceEqDiff,Nat.reduceLT,Nat.reduceLeDiff,Nat.reduceAdd,Nat.reduceMul,Nat.reduceSub,reduceCtorEq,Int.reduceToNat]<;>(repeat' first|rfl|apply And.intro))) ?_
    rintro _ _ ⟨x,u1,rfl,rfl,hx,hn1⟩
    unfold glO
    repeat' first|((first|refine Br.dec ?_ ?_|refine Br.eqi ?_ ?_)<;>intro h<;>try (exfalso;omega))|(simp (disch:=first|omega|(simp only [vlen];first|done|omega)) only [vgc,hnd,ha,↓vAq,vBq,↓reduceIte,Nat.reduceBEq,Nat.reduceEqDiff,Nat.reduceLT,Nat.reduceLeDiff,Nat.reduceAdd,Nat.reduceMul,Nat.reduceSub,reduceCtorEq,Int.reduceToNat])|(refine Br.mk ?_ ?_<;>intro h)|(refine BrN.mk (fun h => ?_) ?_)|(refine AltVC.mk ?_ ?_)
    refine CallVC.lendE [0,1,2] [.ptr 0 9 0 0,.ag (gsD x.last),.ag (gsD x.first)] (glO l u1) (join_spec l u1 (by omega) x.last x.first) (by simp) (by rfl) (by unfold glO gsD gw;(simp (disch:=first|omega|(simp only [vlen];first|done|omega)) only [vle0,↓vAq,vBq,↓reduceIte,Nat.reduceBEq,Nat.reduceEqDiff,Nat.reduceLT,Nat.reduceLeDiff,Nat.reduceAdd,Nat.reduceMul,Nat.reduceSub,reduceCtorEq,Int.reduceToNat]<;>(repeat' first|rfl|apply And.intro))) ?_
    rintro _ _ ⟨rfl,rfl⟩
    unfold glO
    repeat' first|((first|refine Br.dec ?_ ?_|refine Br.eqi ?_ ?_)<;>intro h<;>try (exfalso;omega))|(simp (disch:=first|omega|(simp only [vlen];first|done|omega)) only [vgc,hnd,ha,↓vAq,vBq,↓reduceIte,Nat.reduceBEq,Nat.reduceEqDiff,Nat.reduceLT,Nat.reduceLeDiff,Nat.reduceAdd,Nat.reduceMul,Nat.reduceSub,reduceCtorEq,Int.reduceToNat])|(refine Br.mk ?_ ?_<;>intro h)|(refine BrN.mk (fun h => ?_) ?_)|(refine AltVC.mk ?_ ?_)
    have hbl:Bl l i u _ _:=.star (by rw [hnd];exact hk) (by rw [hnd,ha];exact hx)
    refine DrawVC.u ?_
    repeat' first|((first|refine Br.dec ?_ ?_|refine Br.eqi ?_ ?_)<;>intro h<;>try (exfalso;omega))|(simp (disch:=first|omega|(simp only [vlen];first|done|omega)) only [vgc,hnd,ha,↓vAq,vBq,↓reduceIte,Nat.reduceBEq,Nat.reduceEqDiff,Nat.reduceLT,Nat.reduceLeDiff,Nat.reduceAdd,Nat.reduceMul,Nat.reduceSub,reduceCtorEq,Int.reduceToNat])|(refine Br.mk ?_ ?_<;>intro h)|(refine BrN.mk (fun h => ?_) ?_)|(refine AltVC.mk ?_ ?_)
    all_goals exact bl_fin _ _ (by simp (disch:=first|omega|(simp only [vlen];first|done|omega)) only [vgc,↓vAq,vBq,↓reduceIte,Nat.reduceBEq,Nat.reduceEqDiff,Nat.reduceLT,Nat.reduceLeDiff,Nat.reduceAdd,Nat.reduceMul,Nat.reduceSub,reduceCtorEq,Int.reduceToNat]) (by unfold glO;simp (disch:=first|omega|(simp only [vlen];first|done|omega)) only [vgc,↓vAq,vBq,↓reduceIte,Nat.reduceBEq,Nat.reduceEqDiff,Nat.reduceLT,Nat.reduceLeDiff,Nat.reduceAdd,Nat.reduceMul,Nat.reduceSub,reduceCtorEq,Int.reduceToNat]) (by rw [psD_eq]) hbl (by show u1.syms.length≤_;rw [hB];omega)
termination_by i
end Go.Proofs.Ytpgomgjpliallaa

namespace Go.Proofs.Ytpgomgjpliallaa
open Go.Dm
def au0:Au:=⟨[-1],fun _ _=>false⟩
structure Gl where
  syms:List Int
  fol:Nat→Nat→Bool
  last:Nat→Bool
def glD (g:Gl):List D:=[.sl 1 (i64s g.syms),.sl 5 (gsR g.syms.length g.fol)]++gsD g.last
theorem glD_eq {g:Gl}:glD g=[.sl 1 (i64s g.syms),.sl 5 (gsR g.syms.length g.fol),.v (.int .u64 (gwN g.last 0)),.v (.int .u64 (gwN g.last 1)),.v (.int .u64 (gwN g.last 2)),.v (.int .u64 (gwN g.last 3)),.v (.int .u64 (gwN g.last 4))]:=(rfl)
def glOf (x:Ps) (u:Au):Gl:=⟨u.syms,fun p=>if p=0 then x.first else u.fol p,if x.empty then gAdd x.last 0 else x.last⟩
def mkR (l:List Dm.Node) (d:D):Prop := ∃ x u,d=.ag (glD (glOf x u))∧Bl l (l.length - 1) au0 x u∧u.syms.length≤257
theorem kBldS_rr5 {cells:List D} {off:Nat} {τ s1 o1 n1 υ s2 o2 n2:Nat} {go:List D→Prop}:kBldS off 7 cells go [.ref τ s1 o1 n1,.ref υ s2 o2 n2,.v (.int .u64 0),.v (.int .u64 0),.v (.int .u64 0),.v (.int .u64 0),.v (.int .u64 0)]=ChkD (off+7≤cells.length) (splice cells off [.ref τ s1 o1 n1,.ref υ s2 o2 n2,.v (.int .u64 0),.v (.int .u64 0),.v (.int .u64 0),.v (.int .u64 0),.v (.int .u64 0)]) go:=by
  rw [kBldS_n];unfold ChkD;simp [D.one,Value.one]
theorem glO0 {l:List Dm.Node}:glO l au0=[⟨9,[[.sl 3 (tbl nodD l),.sl 1 (bls (bt l.length (ebB l))),.ref 1 1 0 1,.ref 2 5 0 1,.v (.int .u64 0),.v (.int .u64 0),.v (.int .u64 0),.v (.int .u64 0),.v (.int .u64 0)]],false,false,.fix⟩,⟨1,[[.v (.int .i64 (-1))]],true,false,.arr⟩,⟨5,[[.v (.int .u64 0),.v (.int .u64 0),.v (.int .u64 0),.v (.int .u64 0),.v (.int .u64 0)]],true,false,.arr⟩]:=by
  have e:gsR 1 (fun _ _=>false)=[[.v (.int .u64 0),.v (.int .u64 0),.v (.int .u64 0),.v (.int .u64 0),.v (.int .u64 0)]]:=by
    rw [← gs_zero];rfl
  have e2:glO l au0=[⟨9,[[.sl 3 (tbl nodD l),.sl 1 (bls (bt l.length (ebB l))),.ref 1 1 0 1,.ref 2 5 0 1,.v (.int .u64 0),.v (.int .u64 0),.v (.int .u64 0),.v (.int .u64 0),.v (.int .u64 0)]],false,false,.fix⟩,⟨1,i64s [-1],true,false,.arr⟩,⟨5,gsR 1 (fun _ _=>false),true,false,.arr⟩]:=rfl
  rw [e2,e];rfl
theorem bl_grow {l:List Dm.Node} {i:Nat} {u u':Au} {x:Ps} (h:Bl l i u x u') : ∃ t,u'.syms=u.syms++t:=by
  induction h with
  | none _=>exact ⟨[],by simp⟩
  | sym _=>exact ⟨_,rfl⟩
  | cat _ _ _ ih1 ih2 =>
    obtain ⟨t1,e1⟩:=ih1
    obtain ⟨t2,e2⟩:=ih2
    exact ⟨t1++t2,by show _=_;rw [e2,e1,List.append_assoc]⟩
  | or _ _ _ ih1 ih2 =>
    obtain ⟨t1,e1⟩:=ih1
    obtain ⟨t2,e2⟩:=ih2
    exact ⟨t1++t2,by rw [e2,e1,List.append_assoc]⟩
  | star _ _ ih=>exact ih
theorem viewO_gs {n:Nat} {f:Nat→Nat→Bool}:viewO (some ⟨5,gsR n f,true,false,.arr⟩) 5 0 n=.sl 5 (gsR n f):=viewO_all (by rw [gsR_len])
def vgm:=And.intro @viewO_gs<|And.intro vgc @kBldS_rr5
set_option maxRecDepth 10000 in
set_option maxHeartbeats 4000000 in
theorem gMake_spec (k0:Int) (l:List Dm.Node) (hv:NodesOk k0 l) (hl:0<l.length∧l.length≤9):Dm.Spec Try.prog 21 [.sl 3 (tbl nodD l)] (mkR l):=by
  refine spec_of_vc mixed Try.func21 c21 (by rw [show Try.f21.ntmps=_ from Try.ntmps21];simp) ?_
  unfold m21 r21
  have hm1:(l.length:Int) - 1=((l.length - 1:Nat):Int):=by omega
  have hp:2 ^ (l.length - 1)≤256:=Nat.le_trans (Nat.pow_le_pow_right (by omega) (show l.length - 1≤8 by omega)) (by decide)
  have hB:=build_spec k0 l hv hl.2 (l.length - 1) (by omega) au0 (by show 1+_≤300;omega)
  rw [glO0] at hB
  repeat' first|((first|refine Br.dec ?_ ?_|refine Br.eqi ?_ ?_)<;>intro h<;>try (exfalso;omega))|(simp (disch:=first|omega|(simp only [vlen];first|done|omega)) only [vgm,↓vAq,vBq,↓reduceIte,Nat.reduceBEq,Nat.reduceEqDiff,Nat.reduceLT,Nat.reduceLeDiff,Nat.reduceAdd,Nat.reduceMul,Nat.reduceSub,reduceCtorEq,Int.reduceToNat])|(refine Br.mk ?_ ?_<;>intro h)|(refine BrN.mk (fun h => ?_) ?_)|(refine AltVC.mk ?_ ?_)
  refine CallVC.eq (hollow_spec k0 l hv (by omega)) ?_
  repeat' first|((first|refine Br.dec ?_ ?_|refine Br.eqi ?_ ?_)<;>intro h<;>try (exfalso;omega))|(simp (disch:=first|omega|(simp only [vlen];first|done|omega)) only [vgm,hm1,↓vAq,vBq,↓reduceIte,Nat.reduceBEq,Nat.reduceEqDiff,Nat.reduceLT,Nat.reduceLeDiff,Nat.reduceAdd,Nat.reduceMul,Nat.reduceSub,reduceCtorEq,Int.reduceToNat])|(refine Br.mk ?_ ?_<;>intro h)|(refine BrN.mk (fun h => ?_) ?_)|(refine AltVC.mk ?_ ?_)
  refine CallVC.lendE [3,1,2] [.ptr 0 9 0 0,iv .i64 (l.length - 1:Nat)] _ hB (by simp) (by rfl) (by (simp (disch:=first|omega|(simp only [vlen];first|done|omega)) only [vle0,↓vAq,vBq,↓reduceIte,Nat.reduceBEq,Nat.reduceEqDiff,Nat.reduceLT,Nat.reduceLeDiff,Nat.reduceAdd,Nat.reduceMul,Nat.reduceSub,reduceCtorEq,Int.reduceToNat]<;>(repeat' first|rfl|apply And.intro))) ?_
  rintro _ _ ⟨x,u,rfl,rfl,hbl,hn⟩
  unfold glO
  have hn1:u.syms.length≤257:=by
    have e:au0.syms.length=1:=rfl
    omega
  have hn0:0<u.syms.length:=by
    obtain ⟨t,e⟩:=bl_grow hbl
    rw [e,List.length_append]
    have e:au0.syms.length=1:=rfl
    omega
  have hW:=gWith_spec x.last 0 (by omega)
  have hg:gsR u.syms.length (fun j=>if j=0 then x.first else u.fol j)=gsR u.syms.length (glOf x u).fol:=rfl
  cases hxe:x.empty
  · have hl:(glOf x u).last=x.last:=by unfold glOf;rw [hxe];rfl
    repeat' first|((first|refine Br.dec ?_ ?_|refine Br.eqi ?_ ?_)<;>intro h<;>try (exfalso;omega))|(simp (disch:=first|omega|(simp only [vlen];first|done|omega)) only [vgm,hm1,hxe,↓vAq,vBq,↓reduceIte,Nat.reduceBEq,Nat.reduceEqDiff,Nat.reduceLT,Nat.reduceLeDiff,Nat.reduceAdd,Nat.reduceMul,Nat.reduceSub,reduceCtorEq,Int.reduceToNat])|(refine Br.mk ?_ ?_<;>intro h)|(refine BrN.mk (fun h => ?_) ?_)|(refine AltVC.mk ?_ ?_)
    exact fin_mk ⟨x,u,by rw [glD_eq,hl];rfl,hbl,hn1⟩
  · have hl:(glOf x u).last=gAdd x.last 0:=by unfold glOf;rw [hxe];rfl
    repeat' first|((first|refine Br.dec ?_ ?_|refine Br.eqi ?_ ?_)<;>intro h<;>try (exfalso;omega))|(simp (disch:=first|omega|(simp only [vlen];first|done|omega)) only [vgm,hm1,hxe,↓vAq,vBq,↓reduceIte,Nat.reduceBEq,Nat.reduceEqDiff,Nat.reduceLT,Nat.reduceLeDiff,Nat.reduceAdd,Nat.reduceMul,Nat.reduceSub,reduceCtorEq,Int.reduceToNat])|(refine Br.mk ?_ ?_<;>intro h)|(refine BrN.mk (fun h => ?_) ?_)|(refine AltVC.mk ?_ ?_)
    refine CallVC.eq hW ?_
    repeat' first|((first|refine Br.dec ?_ ?_|refine Br.eqi ?_ ?_)<;>intro h<;>try (exfalso;omega))|(simp (disch:=first|omega|(simp only [vlen];first|done|omega)) only [vgm,hm1,hxe,↓vAq,vBq,↓reduceIte,Nat.reduceBEq,Nat.reduceEqDiff,Nat.reduceLT,Nat.reduceLeDiff,Nat.reduceAdd,Nat.reduceMul,Nat.reduceSub,reduceCtorEq,Int.reduceToNat])|(refine Br.mk ?_ ?_<;>intro h)|(refine BrN.mk (fun h => ?_) ?_)|(refine AltVC.mk ?_ ?_)
    exact fin_mk ⟨x,u,by rw [glD_eq,hl];rfl,hbl,hn1⟩
end Go.Proofs.Ytpgomgjpliallaa

namespace Go.Proofs.Ytpgomgjpliallaa
open Go.Dm
inductive Pth (f:Nat→Nat→Bool) (s:List Int):Nat→List Int→Nat→Prop
  | nil (p:Nat):Pth f s p [] p
  | cons {p q r:Nat} {w:List Int} {c:Int} (h:f p q=true) (hc:s.getD q 0=c) (t:Pth f s q w r):Pth f s p (c::w) r
theorem Pth.app {f:Nat→Nat→Bool} {s:List Int} {p q r:Nat} {v w:List Int} (h:Pth f s p v q) (k:Pth f s q w r):Pth f s p (v++w) r:=by
  induction h with
  | nil _=>exact k
  | cons h hc _ ih=>exact .cons h hc (ih k)
theorem Pth.snoc {f:Nat→Nat→Bool} {s:List Int} {p q r:Nat} {v:List Int} {c:Int} (h:Pth f s p v q) (k:f q r=true) (hc:s.getD r 0=c):Pth f s p (v++[c]) r:=h.app (.cons k hc (.nil _))
theorem Pth.congr {f g:Nat→Nat→Bool} {s t:List Int} {R:Nat→Prop} (hR:∀ p q,R p→f p q=true→R q) (hf:∀ p q,R p→f p q=true→g p q=true) (hs:∀ p,R p→t.getD p 0=s.getD p 0) {p q:Nat} {w:List Int} (h:Pth f s p w q) (hp:R p):Pth g t p w q∧R q:=by
  induction h with
  | nil _=>exact ⟨.nil _,hp⟩
  | @cons p q r w c h hc _ ih =>
    have hq:=hR _ _ hp h
    exact ⟨.cons (hf _ _ hp h) (by rw [hs _ hq];exact hc) (ih hq).1,(ih hq).2⟩
structure Gk (l:List Dm.Node) (i:Nat) (u:Au) (x:Ps) (u':Au):Prop where
  pre : ∃ t,u'.syms=u.syms++t
  fi:∀ p,x.first p=true→u.syms.length≤p∧p<u'.syms.length
  la:∀ p,x.last p=true→u.syms.length≤p∧p<u'.syms.length
  lo:∀ p,p<u.syms.length→∀ q,u'.fol p q=u.fol p q
  hi:∀ p q,u.syms.length≤p→p<u'.syms.length→u'.fol p q=true→u.syms.length≤q∧q<u'.syms.length
  ac:∀ c w,lang l i (c::w) ↔ ∃ p q,x.first p=true∧u'.syms.getD p 0=c∧Pth u'.fol u'.syms p w q∧x.last q=true
  em:x.empty=ebB l i
theorem Gk.len {l:List Dm.Node} {i:Nat} {u u':Au} {x:Ps} (h:Gk l i u x u'):u.syms.length≤u'.syms.length:=by
  obtain ⟨t,e⟩:=h.pre;rw [e,List.length_append];omega
theorem Gk.get {l:List Dm.Node} {i:Nat} {u u':Au} {x:Ps} (h:Gk l i u x u') {p:Nat} (hp:p<u.syms.length):u'.syms.getD p 0=u.syms.getD p 0:=by
  obtain ⟨t,e⟩:=h.pre;rw [e];simp [List.getD,List.getElem?_append_left hp]
section
variable {k0:Int} {l:List Dm.Node} {i a b:Nat} {u u1 u2:Au} {x y:Ps}
theorem cat_path (hx : Gk l a u x u1) (hy : Gk l b u1 y u2) {p q : Nat} {w : List Int} (h : Pth (gJo x.last y.first u2.fol) u2.syms p w q) (hp : u.syms.length ≤ p ∧ p < u2.syms.length) :
    (p<u1.syms.length→(q<u1.syms.length∧Pth u1.fol u1.syms p w q) ∨ ∃ w1 c w2 m m',w=w1++c::w2∧Pth u1.fol u1.syms p w1 m∧x.last m=true∧y.first m'=true∧u2.syms.getD m' 0=c∧Pth u2.fol u2.syms m' w2 q∧u1.syms.length≤q) ∧
    (u1.syms.length≤p→Pth u2.fol u2.syms p w q∧u1.syms.length≤q):=by
  have h01:=hx.len
  have h12:=hy.len
  induction h with
  | nil p=>exact ⟨fun h=>.inl ⟨h,.nil _⟩,fun h=>⟨.nil _,h⟩⟩
  | @cons p q r w c h hc t ih =>
    unfold gJo at h
    rw [Bool.or_eq_true,Bool.and_eq_true] at h
    refine ⟨fun hlt => ?_,fun hge => ?_⟩
    · rcases h with h|⟨h1,h2⟩
      · rw [hy.lo p hlt q] at h
        have hq:=hx.hi p q hp.1 hlt h
        have hg:=hy.get hq.2
        rw [hc] at hg
        rcases (ih ⟨hq.1,by omega⟩).1 hq.2 with ⟨k1,k2⟩|⟨w1,c',w2,m,m',e,k1,k2⟩
        · exact .inl ⟨k1,.cons h hg.symm k2⟩
        · exact .inr ⟨c::w1,c',w2,m,m',by rw [e];rfl,.cons h hg.symm k1,k2⟩
      · have hq:=hy.fi q h2
        obtain ⟨k1,k2⟩:=(ih ⟨by omega,hq.2⟩).2 hq.1
        exact .inr ⟨[],c,w,p,q,rfl,.nil _,h1,h2,hc,k1,k2⟩
    · rcases h with h|⟨h1,h2⟩
      · have hq:=hy.hi p q hge hp.2 h
        obtain ⟨k1,k2⟩:=(ih ⟨by omega,hq.2⟩).2 hq.1
        exact ⟨.cons h hc k1,k2⟩
      · have:=hx.la p h1
        omega
theorem up1 (hx:Gk l a u x u1) (hy:Gk l b u1 y u2) {g:Nat→Nat→Bool} (hg:∀ p q,u2.fol p q=true→g p q=true) {p q:Nat} {w:List Int} (h:Pth u1.fol u1.syms p w q) (hp:u.syms.length≤p∧p<u1.syms.length):Pth g u2.syms p w q∧(u.syms.length≤q∧q<u1.syms.length) :=
  h.congr (R:=fun p=>u.syms.length≤p∧p<u1.syms.length) (fun p q hp h=>hx.hi p q hp.1 hp.2 h) (fun p q hp h=>hg p q (by rw [hy.lo p hp.2 q];exact h)) (fun p hp=>hy.get hp.2) hp
theorem gk_cat (hv : NodesOk k0 l) (hi : i < l.length) (hk : (l.getD i default).kind = 4) (ha : (l.getD i default).a.toNat = a) (hb : (l.getD i default).b.toNat = b) (hx : Gk l a u x u1) (hy : Gk l b u1 y u2) :
    Gk l i u ⟨if x.empty then gOr x.first y.first else x.first,if y.empty then gOr y.last x.last else y.last,ebB l i⟩ ⟨u2.syms,gJo x.last y.first u2.fol⟩:=by
  have h01:=hx.len
  have h12:=hy.len
  have hL:=lang_4 hv hi hk
  rw [ha,hb] at hL
  refine ⟨?_,fun p hp => ?_,fun p hp => ?_,fun p hp q => ?_,fun p q h1 h2 h => ?_,fun c w => ?_,rfl⟩
  · obtain ⟨t1,e1⟩:=hx.pre
    obtain ⟨t2,e2⟩:=hy.pre
    exact ⟨t1++t2,by show u2.syms=_;rw [e2,e1,List.append_assoc]⟩
  · simp only at hp ⊢
    split at hp
    · unfold gOr at hp;rw [Bool.or_eq_true] at hp
      rcases hp with hp|hp
      · have:=hx.fi p hp;omega
      · have:=hy.fi p hp;omega
    · have:=hx.fi p hp;omega
  · simp only at hp ⊢
    split at hp
    · unfold gOr at hp;rw [Bool.or_eq_true] at hp
      rcases hp with hp|hp
      · have:=hy.la p hp;omega
      · have:=hx.la p hp;omega
    · have:=hy.la p hp;omega
  · show gJo x.last y.first u2.fol p q=_
    unfold gJo
    have h1:x.last p=false:=by
      cases h:x.last p with
      | false=>rfl
      | true=>have:=hx.la p h;omega
    rw [h1,Bool.false_and,Bool.or_false,hy.lo p (by omega) q,hx.lo p hp q]
  · simp only at h1 h2 h ⊢
    unfold gJo at h
    rw [Bool.or_eq_true,Bool.and_eq_true] at h
    rcases h with h|⟨h3,h4⟩
    · by_cases hp:p<u1.syms.length
      · rw [hy.lo p hp q] at h
        have:=hx.hi p q h1 hp h;omega
      · have:=hy.hi p q (by omega) h2 h;omega
    · have:=hy.fi q h4;omega
  · rw [hL]
    simp only
    have hg:∀ p q,u2.fol p q=true→gJo x.last y.first u2.fol p q=true:=fun p q h=>by unfold gJo;rw [h];rfl
    constructor
    · rintro ⟨v,v',h1,h2,e⟩
      cases v with
      | nil =>
        rw [List.nil_append] at e
        subst e
        have hem:x.empty=true:=by rw [hx.em,ebB_iff];exact h1
        obtain ⟨p,q,k1,k2,k3,k4⟩:=(hy.ac c w).mp h2
        refine ⟨p,q,?_,k2,(k3.congr (R:=fun _=>True) (fun _ _ _ _=>trivial) (fun p q _ h=>hg p q h) (fun _ _=>rfl) trivial).1,?_⟩
        · rw [if_pos hem];unfold gOr;rw [k1,Bool.or_true]
        · split
          · unfold gOr;rw [k4];rfl
          · exact k4
      | cons c' v =>
        rw [List.cons_append,List.cons.injEq] at e
        obtain ⟨rfl,rfl⟩:=e
        obtain ⟨p,m,k1,k2,k3,k4⟩:=(hx.ac c v).mp h1
        have hp:=hx.fi p k1
        obtain ⟨k5,hm⟩:=up1 hx hy hg k3 hp
        have hfp:(if x.empty=true then gOr x.first y.first else x.first) p=true:=by
          split
          · unfold gOr;rw [k1];rfl
          · exact k1
        have hsp:u2.syms.getD p 0=c:=by rw [hy.get hp.2];exact k2
        cases v' with
        | nil =>
          have hem:y.empty=true:=by rw [hy.em,ebB_iff];exact h2
          rw [List.append_nil]
          refine ⟨p,m,hfp,hsp,k5,?_⟩
          rw [if_pos hem];unfold gOr;rw [k4,Bool.or_true]
        | cons c2 v2 =>
          obtain ⟨m',q,j1,j2,j3,j4⟩:=(hy.ac c2 v2).mp h2
          refine ⟨p,q,hfp,hsp,k5.app (.cons (by unfold gJo;rw [k4,j1];simp) j2 (j3.congr (R:=fun _=>True) (fun _ _ _ _=>trivial) (fun p q _ h=>hg p q h) (fun _ _=>rfl) trivial).1),?_⟩
          split
          · unfold gOr;rw [j4];rfl
          · exact j4
    · rintro ⟨p,q,k1,k2,k3,k4⟩
      have hfr:(x.first p=true)∨(x.empty=true∧y.first p=true):=by
        by_cases hem:x.empty=true
        · rw [if_pos hem] at k1
          unfold gOr at k1
          rw [Bool.or_eq_true] at k1
          exact k1.imp id fun h=>⟨hem,h⟩
        · rw [if_neg hem] at k1;exact .inl k1
      have hla:(y.last q=true)∨(y.empty=true∧x.last q=true):=by
        by_cases hem:y.empty=true
        · rw [if_pos hem] at k4
          unfold gOr at k4
          rw [Bool.or_eq_true] at k4
          exact k4.imp id fun h=>⟨hem,h⟩
        · rw [if_neg hem] at k4;exact .inl k4
      rcases hfr with hfr|⟨hem,hfr⟩
      · have hp:=hx.fi p hfr
        have hsp:u1.syms.getD p 0=c:=by rw [← hy.get hp.2];exact k2
        rcases (cat_path hx hy k3 ⟨hp.1,by omega⟩).1 hp.2 with ⟨hq,j⟩|⟨w1,c',w2,m,m',e,j1,j2,j3,j4,j5,hq⟩
        · rcases hla with hla|⟨hem2,hla⟩
          · have:=hy.la q hla;omega
          · exact ⟨c::w,[],(hx.ac c w).mpr ⟨p,q,hfr,hsp,j,hla⟩,by rw [hy.em,ebB_iff] at hem2;exact hem2,by simp⟩
        · rcases hla with hla|⟨hem2,hla⟩
          · exact ⟨c::w1,c'::w2,(hx.ac c w1).mpr ⟨p,m,hfr,hsp,j1,j2⟩,(hy.ac c' w2).mpr ⟨m',q,j3,j4,j5,hla⟩,by rw [e];rfl⟩
          · have:=hx.la q hla;omega
      · have hp:=hy.fi p hfr
        obtain ⟨j,hq⟩:=(cat_path hx hy k3 ⟨by omega,hp.2⟩).2 hp.1
        rcases hla with hla|⟨hem2,hla⟩
        · exact ⟨[],c::w,by rw [hx.em,ebB_iff] at hem;exact hem,(hy.ac c w).mpr ⟨p,q,hfr,k2,j,hla⟩,rfl⟩
        · have:=hx.la q hla;omega
theorem gk_or (hv : NodesOk k0 l) (hi : i < l.length) (hk : (l.getD i default).kind = 5) (ha : (l.getD i default).a.toNat = a) (hb : (l.getD i default).b.toNat = b) (hx : Gk l a u x u1) (hy : Gk l b u1 y u2) :
    Gk l i u ⟨gOr x.first y.first,gOr x.last y.last,ebB l i⟩ u2:=by
  have h01:=hx.len
  have h12:=hy.len
  have hL:=lang_5 hv hi hk
  rw [ha,hb] at hL
  have lox:∀ p q,u.syms.length≤p→p<u1.syms.length→u2.fol p q=u1.fol p q:=fun p q _ h=>hy.lo p h q
  refine ⟨?_,fun p hp => ?_,fun p hp => ?_,fun p hp q => ?_,fun p q h1 h2 h => ?_,fun c w => ?_,rfl⟩
  · obtain ⟨t1,e1⟩:=hx.pre
    obtain ⟨t2,e2⟩:=hy.pre
    exact ⟨t1++t2,by rw [e2,e1,List.append_assoc]⟩
  · simp only [gOr,Bool.or_eq_true] at hp
    rcases hp with hp|hp
    · have:=hx.fi p hp;omega
    · have:=hy.fi p hp;omega
  · simp only [gOr,Bool.or_eq_true] at hp
    rcases hp with hp|hp
    · have:=hx.la p hp;omega
    · have:=hy.la p hp;omega
  · rw [hy.lo p (by omega) q,hx.lo p hp q]
  · by_cases hp:p<u1.syms.length
    · rw [hy.lo p hp q] at h
      have:=hx.hi p q h1 hp h;omega
    · have:=hy.hi p q (by omega) h2 h;omega
  · rw [hL]
    constructor
    · rintro (h|h)
      · obtain ⟨p,q,k1,k2,k3,k4⟩:=(hx.ac c w).mp h
        have hp:=hx.fi p k1
        exact ⟨p,q,by simp [gOr,k1],by rw [hy.get hp.2];exact k2,(up1 hx hy (fun _ _ h=>h) k3 hp).1,by simp [gOr,k4]⟩
      · obtain ⟨p,q,k1,k2,k3,k4⟩:=(hy.ac c w).mp h
        exact ⟨p,q,by simp [gOr,k1],k2,k3,by simp [gOr,k4]⟩
    · rintro ⟨p,q,k1,k2,k3,k4⟩
      simp only [gOr,Bool.or_eq_true] at k1 k4
      rcases k1 with k1|k1
      · have hp:=hx.fi p k1
        have hc:=k3.congr (g:=u1.fol) (t:=u1.syms) (R:=fun p=>u.syms.length≤p∧p<u1.syms.length) (fun p q hp h=>by rw [hy.lo p hp.2 q] at h;exact hx.hi p q hp.1 hp.2 h) (fun p q hp h=>by rw [hy.lo p hp.2 q] at h;exact h) (fun p hp=>(hy.get hp.2).symm) hp
        have hq:x.last q=true:=by
          rcases k4 with k4|k4
          · exact k4
          · have:=hy.la q k4
            have:=hc.2.2
            omega
        exact .inl ((hx.ac c w).mpr ⟨p,q,k1,by rw [← hy.get hp.2];exact k2,hc.1,hq⟩)
      · have hp:=hy.fi p k1
        have hc:=k3.congr (g:=u2.fol) (t:=u2.syms) (R:=fun p=>u1.syms.length≤p∧p<u2.syms.length) (fun p q hp h=>hy.hi p q hp.1 hp.2 h) (fun p q hp h=>h) (fun p hp=>rfl) hp
        have hq:y.last q=true:=by
          rcases k4 with k4|k4
          · have:=hx.la q k4
            have:=hc.2.1
            omega
          · exact k4
        exact .inr ((hy.ac c w).mpr ⟨p,q,k1,k2,k3,hq⟩)
theorem star_path (hx:Gk l a u x u1) {p q:Nat} {w:List Int} (h:Pth (gJo x.last x.first u1.fol) u1.syms p w q) (hq:x.last q=true) : ∃ w1 w2 m,w=w1++w2∧Pth u1.fol u1.syms p w1 m∧x.last m=true∧Star (lang l a) w2:=by
  induction h with
  | nil p=>exact ⟨[],[],p,rfl,.nil _,hq,.nil⟩
  | @cons p q r w c h hc t ih =>
    obtain ⟨w1,w2,m,e,k1,k2,k3⟩:=ih hq
    unfold gJo at h
    rw [Bool.or_eq_true,Bool.and_eq_true] at h
    rcases h with h|⟨h1,h2⟩
    · exact ⟨c::w1,w2,m,by rw [e];rfl,.cons h hc k1,k2,k3⟩
    · refine ⟨[],c::w,p,rfl,.nil _,h1,?_⟩
      have:=Star.app ((hx.ac c w1).mpr ⟨q,m,h2,hc,k1,k2⟩) k3
      rw [List.cons_append,← e] at this
      exact this
theorem star_ext (hx:Gk l a u x u1) {w:List Int} (h:Star (lang l a) w):∀ {p m:Nat} {v:List Int},Pth (gJo x.last x.first u1.fol) u1.syms p v m→x.last m=true → ∃ q,Pth (gJo x.last x.first u1.fol) u1.syms p (v++w) q∧x.last q=true:=by
  have hg:∀ p q,u1.fol p q=true→gJo x.last x.first u1.fol p q=true:=fun p q h=>by unfold gJo;rw [h];rfl
  induction h with
  | nil=>exact fun h hm=>⟨_,by rw [List.append_nil];exact h,hm⟩
  | @app v1 v2 h1 t ih =>
    intro p m v hp hm
    cases v1 with
    | nil=>exact ih hp hm
    | cons c v1 =>
      obtain ⟨p',q',k1,k2,k3,k4⟩:=(hx.ac c v1).mp h1
      have k5:=(k3.congr (R:=fun _=>True) (fun _ _ _ _=>trivial) (fun p q _ h=>hg p q h) (fun _ _=>rfl) trivial).1
      have:=ih (v:=v++c::v1) (hp.app (.cons (by unfold gJo;rw [hm,k1];simp) k2 k5)) k4
      rwa [List.append_assoc] at this
theorem gk_star (hv : NodesOk k0 l) (hi : i < l.length) (hk : (l.getD i default).kind = 6) (ha : (l.getD i default).a.toNat = a) (hx : Gk l a u x u1) :
    Gk l i u ⟨x.first,x.last,ebB l i⟩ ⟨u1.syms,gJo x.last x.first u1.fol⟩:=by
  have hL:=lang_6 hv hi hk
  rw [ha] at hL
  have hg:∀ p q,u1.fol p q=true→gJo x.last x.first u1.fol p q=true:=fun p q h=>by unfold gJo;rw [h];rfl
  refine ⟨hx.pre,hx.fi,hx.la,fun p hp q => ?_,fun p q h1 h2 h => ?_,fun c w => ?_,rfl⟩
  · show gJo x.last x.first u1.fol p q=_
    unfold gJo
    have h1:x.last p=false:=by
      cases h:x.last p with
      | false=>rfl
      | true=>have:=hx.la p h;omega
    rw [h1,Bool.false_and,Bool.or_false,hx.lo p hp q]
  · simp only [gJo,Bool.or_eq_true,Bool.and_eq_true] at h
    rcases h with h|⟨_,h⟩
    · exact hx.hi p q h1 h2 h
    · exact hx.fi q h
  · rw [hL]
    constructor
    · intro h
      rcases star_front h with e|⟨v,v',hne,h1,h2,e⟩
      · cases e
      · cases v with
        | nil=>exact absurd rfl hne
        | cons c' v =>
          rw [List.cons_append,List.cons.injEq] at e
          obtain ⟨rfl,rfl⟩:=e
          obtain ⟨p,m,k1,k2,k3,k4⟩:=(hx.ac c v).mp h1
          have k5:=(k3.congr (R:=fun _=>True) (fun _ _ _ _=>trivial) (fun p q _ h=>hg p q h) (fun _ _=>rfl) trivial).1
          obtain ⟨q,j1,j2⟩:=star_ext hx h2 k5 k4
          exact ⟨p,q,k1,k2,j1,j2⟩
    · rintro ⟨p,q,k1,k2,k3,k4⟩
      obtain ⟨w1,w2,m,e,j1,j2,j3⟩:=star_path hx k3 k4
      have:=Star.app ((hx.ac c w1).mpr ⟨p,m,k1,k2,j1,j2⟩) j3
      rw [List.cons_append,← e] at this
      exact this
end
theorem bl_gk {k0 : Int} {l : List Dm.Node} (hv : NodesOk k0 l) {i : Nat} {u u' : Au} {x : Ps} (h : Bl l i u x u') : i < l.length → Gk l i u x u' := by
  induction h with
  | @none i u h =>
    intro hi
    refine ⟨⟨[],by simp⟩,fun p h=>(by cases h),fun p h=>(by cases h),fun _ _ _=>rfl,fun p q h1 h2 _=>by omega,fun c w => ?_,rfl⟩
    have hk:=(hv i hi).1
    constructor
    · intro hw
      rcases (show (l.getD i default).kind=1∨(l.getD i default).kind=2 by omega) with e|e
      · rw [lang_1 hi e] at hw;exact hw.elim
      · rw [lang_2 hi e] at hw;cases hw
    · rintro ⟨p,q,h,_⟩;cases h
  | @sym i u h =>
    intro hi
    refine ⟨⟨_,rfl⟩,fun p hp => ?_,fun p hp => ?_,fun p hp q => ?_,fun p q h1 h2 hf => ?_,fun c w => ?_,rfl⟩
    · have:=of_decide_eq_true hp
      simp only [List.length_append,List.length_cons,List.length_nil];omega
    · have:=of_decide_eq_true hp
      simp only [List.length_append,List.length_cons,List.length_nil];omega
    · show (if p=u.syms.length then false else u.fol p q)=_
      rw [if_neg (by omega)]
    · simp only [List.length_append,List.length_cons,List.length_nil] at h2 hf
      rw [if_pos (by omega)] at hf;cases hf
    · have hg:(u.syms++[(l.getD i default).a]).getD u.syms.length 0=(l.getD i default).a:=by simp [List.getD]
      rw [lang_3 hi h]
      constructor
      · intro hw
        have hw:c::w=[(l.getD i default).a]:=hw
        rw [List.cons.injEq] at hw
        obtain ⟨e1,e2⟩:=hw
        subst e2
        exact ⟨u.syms.length,u.syms.length,decide_eq_true rfl,by rw [e1];exact hg,.nil _,decide_eq_true rfl⟩
      · rintro ⟨p,q,k1,k2,k3,k4⟩
        have hp:=of_decide_eq_true k1
        subst hp
        cases k3 with
        | nil _ =>
          have k2:(u.syms++[(l.getD i default).a]).getD u.syms.length 0=c:=k2
          show c::[]=[_]
          rw [← k2,hg]
        | cons h2 _ _ =>
          simp only [if_true] at h2
          cases h2
  | @cat i u u1 u2 x y h _ _ ih1 ih2 =>
    intro hi
    obtain ⟨_,_,_,h4,h5⟩:=hv i hi
    have h4:=h4 (by omega)
    have h5:=h5 (.inl h)
    exact gk_cat hv hi h rfl rfl (ih1 (by omega)) (ih2 (by omega))
  | @or i u u1 u2 x y h _ _ ih1 ih2 =>
    intro hi
    obtain ⟨_,_,_,h4,h5⟩:=hv i hi
    have h4:=h4 (by omega)
    have h5:=h5 (.inr h)
    exact gk_or hv hi h rfl rfl (ih1 (by omega)) (ih2 (by omega))
  | @star i u u1 x h _ ih =>
    intro hi
    obtain ⟨_,_,_,h4,_⟩:=hv i hi
    have h4:=h4 (by omega)
    exact gk_star hv hi h rfl (ih (by omega))
end Go.Proofs.Ytpgomgjpliallaa

namespace Go.Proofs.Ytpgomgjpliallaa
open Go.Dm
def GRx (l:List Dm.Node) (i:Nat) (u:Au) (x:Ps) (u':Au):Prop:=(u'.syms=u.syms++(rx l i).s)∧∀ c w q,(∃ p,x.first p=true∧u'.syms.getD p 0=c∧Pth u'.fol u'.syms p w q) ↔ ∃ r,q=u.syms.length+r∧(rx l i).R (c::w) r
section
variable {k0:Int} {l:List Dm.Node} {i a b:Nat} {u u1 u2:Au} {x y:Ps}
theorem lang_L (hv:NodesOk k0 l) (h:i<l.length) {w:List Int}:(rx l i).L w ↔ lang l i w:=by rw [lang_rx hv h]
theorem r_ne {X:Rx} {v:List Int} {p:Nat} (h:X.R v p) : ∃ c w,v=c::w:=by
  cases v with
  | nil =>
    obtain ⟨_,z,e⟩:=Rx.r_last h
    cases z<;>cases e
  | cons c w=>exact ⟨c,w,rfl⟩
theorem grx_cat (hv : NodesOk k0 l) (hi : i < l.length) (ha : a < l.length) (hb : b < l.length) (hR : rx l i = .cat (rx l a) (rx l b)) (hx : Gk l a u x u1) (hy : Gk l b u1 y u2) (gx : GRx l a u x u1) (gy : GRx l b u1 y u2) {e : Bool} {la : Nat → Bool} :
    GRx l i u ⟨if x.empty then gOr x.first y.first else x.first,la,e⟩ ⟨u2.syms,gJo x.last y.first u2.fol⟩:=by
  have h01:=hx.len
  have h12:=hy.len
  obtain ⟨sx,px⟩:=gx
  obtain ⟨sy,py⟩:=gy
  have n1:u1.syms.length=u.syms.length+(rx l a).s.length:=by rw [sx,List.length_append]
  refine ⟨by rw [hR];show u2.syms=_++((rx l a).s++(rx l b).s);rw [sy,sx,List.append_assoc],fun c w q => ?_⟩
  rw [hR]
  simp only
  have hg:∀ p q,u2.fol p q=true→gJo x.last y.first u2.fol p q=true:=fun p q h=>by unfold gJo;rw [h];rfl
  constructor
  · rintro ⟨p,k1,k2,k3⟩
    have hfr:(x.first p=true)∨(x.empty=true∧y.first p=true):=by
      by_cases hem:x.empty=true
      · rw [if_pos hem] at k1
        unfold gOr at k1
        rw [Bool.or_eq_true] at k1
        exact k1.imp id fun h=>⟨hem,h⟩
      · rw [if_neg hem] at k1;exact .inl k1
    rcases hfr with hfr|⟨hem,hfr⟩
    · have hp:=hx.fi p hfr
      have hsp:u1.syms.getD p 0=c:=by rw [← hy.get hp.2];exact k2
      rcases (cat_path hx hy k3 ⟨hp.1,by omega⟩).1 hp.2 with ⟨hq,j⟩|⟨w1,c',w2,m,m',e,j1,j2,j3,j4,j5,hq⟩
      · obtain ⟨r,r1,r2⟩:=(px c w q).1 ⟨p,hfr,hsp,j⟩
        exact ⟨r,r1,.inl r2⟩
      · obtain ⟨r,r1,r2⟩:=(py c' w2 q).1 ⟨m',j3,j4,j5⟩
        exact ⟨_,by rw [r1,n1,Nat.add_assoc],.inr ⟨c::w1,c'::w2,r,(lang_L hv ha).2 ((hx.ac c w1).mpr ⟨p,m,hfr,hsp,j1,j2⟩),r2,by rw [e];rfl,rfl⟩⟩
    · have hp:=hy.fi p hfr
      obtain ⟨j,hq⟩:=(cat_path hx hy k3 ⟨by omega,hp.2⟩).2 hp.1
      obtain ⟨r,r1,r2⟩:=(py c w q).1 ⟨p,hfr,k2,j⟩
      exact ⟨_,by rw [r1,n1,Nat.add_assoc],.inr ⟨[],c::w,r,(lang_L hv ha).2 (by rw [hx.em,ebB_iff] at hem;exact hem),r2,rfl,rfl⟩⟩
  · rintro ⟨r,rfl,hr⟩
    rcases hr with hr|⟨v,v',p',h1,h2,e,e2⟩
    · obtain ⟨p,k1,k2,k3⟩:=(px c w _).2 ⟨r,rfl,hr⟩
      have hp:=hx.fi p k1
      refine ⟨p,?_,by rw [hy.get hp.2];exact k2,(up1 hx hy hg k3 hp).1⟩
      split
      · unfold gOr;rw [k1];rfl
      · exact k1
    · obtain ⟨c',v2,rfl⟩:=r_ne h2
      obtain ⟨m',j1,j2,j3⟩:=(py c' v2 (u.syms.length+r)).2 ⟨p',by rw [e2,n1,Nat.add_assoc],h2⟩
      have j4:=(j3.congr (R:=fun _=>True) (fun _ _ _ _=>trivial) (fun p q _ h=>hg p q h) (fun _ _=>rfl) trivial).1
      cases v with
      | nil =>
        rw [List.nil_append,List.cons.injEq] at e
        obtain ⟨rfl,rfl⟩:=e
        have hem:x.empty=true:=by rw [hx.em,ebB_iff];exact (lang_L hv ha).1 h1
        refine ⟨m',?_,j2,j4⟩
        rw [if_pos hem];unfold gOr;rw [j1,Bool.or_true]
      | cons c1 v =>
        rw [List.cons_append,List.cons.injEq] at e
        obtain ⟨rfl,rfl⟩:=e
        obtain ⟨p,m,k1,k2,k3,k4⟩:=(hx.ac c v).mp ((lang_L hv ha).1 h1)
        have hp:=hx.fi p k1
        obtain ⟨k5,hm⟩:=up1 hx hy hg k3 hp
        refine ⟨p,?_,by rw [hy.get hp.2];exact k2,k5.app (.cons (by unfold gJo;rw [k4,j1];simp) j2 j4)⟩
        split
        · unfold gOr;rw [k1];rfl
        · exact k1
theorem grx_or (hv:NodesOk k0 l) (hi:i<l.length) (hR:rx l i=.or (rx l a) (rx l b)) (hx:Gk l a u x u1) (hy:Gk l b u1 y u2) (gx:GRx l a u x u1) (gy:GRx l b u1 y u2) {e:Bool} {la:Nat→Bool} :
    GRx l i u ⟨gOr x.first y.first,la,e⟩ u2:=by
  have h01:=hx.len
  have h12:=hy.len
  obtain ⟨sx,px⟩:=gx
  obtain ⟨sy,py⟩:=gy
  have n1:u1.syms.length=u.syms.length+(rx l a).s.length:=by rw [sx,List.length_append]
  refine ⟨by rw [hR];show u2.syms=_++((rx l a).s++(rx l b).s);rw [sy,sx,List.append_assoc],fun c w q => ?_⟩
  rw [hR]
  simp only [gOr,Bool.or_eq_true]
  constructor
  · rintro ⟨p,k1,k2,k3⟩
    rcases k1 with k1|k1
    · have hp:=hx.fi p k1
      have hc:=k3.congr (g:=u1.fol) (t:=u1.syms) (R:=fun p=>u.syms.length≤p∧p<u1.syms.length) (fun p q hp h=>by rw [hy.lo p hp.2 q] at h;exact hx.hi p q hp.1 hp.2 h) (fun p q hp h=>by rw [hy.lo p hp.2 q] at h;exact h) (fun p hp=>(hy.get hp.2).symm) hp
      obtain ⟨r,r1,r2⟩:=(px c w q).1 ⟨p,k1,by rw [← hy.get hp.2];exact k2,hc.1⟩
      exact ⟨r,r1,.inl r2⟩
    · obtain ⟨r,r1,r2⟩:=(py c w q).1 ⟨p,k1,k2,k3⟩
      exact ⟨_,by rw [r1,n1,Nat.add_assoc],.inr ⟨r,r2,rfl⟩⟩
  · rintro ⟨r,rfl,hr⟩
    rcases hr with hr|⟨p',h2,e2⟩
    · obtain ⟨p,k1,k2,k3⟩:=(px c w _).2 ⟨r,rfl,hr⟩
      have hp:=hx.fi p k1
      exact ⟨p,.inl k1,by rw [hy.get hp.2];exact k2,(up1 hx hy (fun _ _ h=>h) k3 hp).1⟩
    · obtain ⟨p,k1,k2,k3⟩:=(py c w (u.syms.length+r)).2 ⟨p',by rw [e2,n1,Nat.add_assoc],h2⟩
      exact ⟨p,.inr k1,k2,k3⟩
theorem star_path2 (hx:Gk l a u x u1) {p q:Nat} {w:List Int} (h:Pth (gJo x.last x.first u1.fol) u1.syms p w q):Pth u1.fol u1.syms p w q ∨ ∃ w1 v c' w2 m p',w=w1++v++c'::w2∧Pth u1.fol u1.syms p w1 m∧x.last m=true∧Star (lang l a) v∧x.first p'=true∧u1.syms.getD p' 0=c'∧Pth u1.fol u1.syms p' w2 q:=by
  induction h with
  | nil p=>exact .inl (.nil _)
  | @cons p q r w c h hc t ih =>
    unfold gJo at h
    rw [Bool.or_eq_true,Bool.and_eq_true] at h
    rcases ih with ih|⟨w1,v,c',w2,m,p',e,k1,k2,k3,k4,k5,k6⟩
    · rcases h with h|⟨h1,h2⟩
      · exact .inl (.cons h hc ih)
      · exact .inr ⟨[],[],c,w,p,q,rfl,.nil _,h1,.nil,h2,hc,ih⟩
    · rcases h with h|⟨h1,h2⟩
      · exact .inr ⟨c::w1,v,c',w2,m,p',by rw [e];rfl,.cons h hc k1,k2,k3,k4,k5,k6⟩
      · exact .inr ⟨[],c::w1++v,c',w2,p,p',by rw [e];rfl,.nil _,h1,Star.app ((hx.ac c w1).mpr ⟨q,m,h2,hc,k1,k2⟩) k3,k4,k5,k6⟩
theorem grx_star (hv : NodesOk k0 l) (hi : i < l.length) (ha : a < l.length) (hR : rx l i = .star (rx l a)) (hx : Gk l a u x u1) (gx : GRx l a u x u1) {e : Bool} {la : Nat → Bool} :
    GRx l i u ⟨x.first,la,e⟩ ⟨u1.syms,gJo x.last x.first u1.fol⟩:=by
  obtain ⟨sx,px⟩:=gx
  refine ⟨by rw [hR];exact sx,fun c w q => ?_⟩
  rw [hR]
  simp only
  have hg:∀ p q,u1.fol p q=true→gJo x.last x.first u1.fol p q=true:=fun p q h=>by unfold gJo;rw [h];rfl
  have hS:∀ {w:List Int},Star (rx l a).L w ↔ Star (lang l a) w:=fun {w}=>by rw [lang_rx hv ha]
  constructor
  · rintro ⟨p,k1,k2,k3⟩
    rcases star_path2 hx k3 with h|⟨w1,v,c',w2,m,p',e,j1,j2,j3,j4,j5,j6⟩
    · obtain ⟨r,r1,r2⟩:=(px c w q).1 ⟨p,k1,k2,h⟩
      exact ⟨r,r1,[],c::w,.nil,r2,rfl⟩
    · obtain ⟨r,r1,r2⟩:=(px c' w2 q).1 ⟨p',j4,j5,j6⟩
      exact ⟨r,r1,(c::w1)++v,c'::w2,hS.2 (.app ((hx.ac c w1).mpr ⟨p,m,k1,k2,j1,j2⟩) j3),r2,by rw [e];rfl⟩
  · rintro ⟨r,rfl,v,v',h1,h2,e⟩
    obtain ⟨c',v2,rfl⟩:=r_ne h2
    obtain ⟨p',j1,j2,j3⟩:=(px c' v2 _).2 ⟨r,rfl,h2⟩
    have j4:=(j3.congr (R:=fun _=>True) (fun _ _ _ _=>trivial) (fun p q _ h=>hg p q h) (fun _ _=>rfl) trivial).1
    rcases star_front (hS.1 h1) with e0|⟨v1,v3,hne,h3,h4,e0⟩
    · rw [e0,List.nil_append,List.cons.injEq] at e
      obtain ⟨rfl,rfl⟩:=e
      exact ⟨p',j1,j2,j4⟩
    · cases v1 with
      | nil=>exact absurd rfl hne
      | cons c1 v1 =>
        rw [e0,List.cons_append,List.cons_append,List.cons.injEq] at e
        obtain ⟨rfl,rfl⟩:=e
        obtain ⟨p,m,k1,k2,k3,k4⟩:=(hx.ac c v1).mp h3
        have k5:=(k3.congr (R:=fun _=>True) (fun _ _ _ _=>trivial) (fun p q _ h=>hg p q h) (fun _ _=>rfl) trivial).1
        obtain ⟨q',q1,q2⟩:=star_ext hx h4 k5 k4
        exact ⟨p,k1,k2,q1.app (.cons (by unfold gJo;rw [q2,j1];simp) j2 j4)⟩
end
theorem bl_rx {k0 : Int} {l : List Dm.Node} (hv : NodesOk k0 l) {i : Nat} {u u' : Au} {x : Ps} (h : Bl l i u x u') : i < l.length → GRx l i u x u' := by
  induction h with
  | @none i u h =>
    intro hi
    have hk:=(hv i hi).1
    have hR:rx l i=.no∨rx l i=.em:=by
      rcases (show (l.getD i default).kind=1∨(l.getD i default).kind=2 by omega) with e|e
      · exact .inl (rx_1 hi e)
      · exact .inr (rx_2 hi e)
    refine ⟨by rcases hR with e|e<;>rw [e]<;>simp [Rx.s],fun c w q=>⟨fun ⟨p,h,_⟩=>(by cases h),fun ⟨r,_,h⟩ => ?_⟩⟩
    rcases hR with e|e<;>rw [e] at h<;>exact h.elim
  | @sym i u h =>
    intro hi
    have hR:=rx_3 hi h
    refine ⟨by rw [hR];rfl,fun c w q => ?_⟩
    rw [hR]
    have hg:(u.syms++[(l.getD i default).a]).getD u.syms.length 0=(l.getD i default).a:=by simp [List.getD]
    constructor
    · rintro ⟨p,k1,k2,k3⟩
      have hp:=of_decide_eq_true k1
      subst hp
      cases k3 with
      | nil _ =>
        have k2:(u.syms++[(l.getD i default).a]).getD u.syms.length 0=c:=k2
        exact ⟨0,rfl,by rw [← k2,hg],rfl⟩
      | cons h2 _ _ =>
        simp only [if_true] at h2
        cases h2
    · rintro ⟨r,rfl,h1,rfl⟩
      rw [List.cons.injEq] at h1
      obtain ⟨rfl,rfl⟩:=h1
      exact ⟨u.syms.length,decide_eq_true rfl,hg,.nil _⟩
  | @cat i u u1 u2 x y h hx hy ih1 ih2 =>
    intro hi
    obtain ⟨_,_,_,h4,h5⟩:=hv i hi
    have h4:=h4 (by omega)
    have h5:=h5 (.inl h)
    exact grx_cat hv hi (by omega) (by omega) (rx_4 hv hi h) (bl_gk hv hx (by omega)) (bl_gk hv hy (by omega)) (ih1 (by omega)) (ih2 (by omega))
  | @or i u u1 u2 x y h hx hy ih1 ih2 =>
    intro hi
    obtain ⟨_,_,_,h4,h5⟩:=hv i hi
    have h4:=h4 (by omega)
    have h5:=h5 (.inr h)
    exact grx_or hv hi (rx_5 hv hi h) (bl_gk hv hx (by omega)) (bl_gk hv hy (by omega)) (ih1 (by omega)) (ih2 (by omega))
  | @star i u u1 x h hx ih =>
    intro hi
    obtain ⟨_,_,_,h4,_⟩:=hv i hi
    have h4:=h4 (by omega)
    exact grx_star hv hi (by omega) (rx_6 hv hi h) (bl_gk hv hx (by omega)) (ih (by omega))
end Go.Proofs.Ytpgomgjpliallaa
