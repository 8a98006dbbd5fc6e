/-
 Texts of this claim, one behind another.
-/
import Derived.Test.YtcclchnbjpncdaaMg9
import Derived.Test.YtcclchnbjpncdaaMg11
import Derived.Test.YtcclchnbjpncdaaCode
import Derived.WalkKit
import Derived.LoopTactic
import Derived.Deep.RegionHeld3
import Derived.Sort.Grow
import Derived.Test.YtcclchnbjpncdaaProg
import Derived.Shelf.SlSortCmp.NoneTotal
set_option linter.unusedSimpArgs false
set_option linter.unnecessarySimpa false
set_option linter.unusedVariables false
set_option linter.defProp false
namespace Go.Proofs.Ytcclchnbjpncdaa
open Go.Dm
theorem mixed:Try.prog.follows .mixedOrders=true:=by kernel_rfl
end Go.Proofs.Ytcclchnbjpncdaa

namespace Go.Proofs.Ytcclchnbjpncdaa
open Go.Dm
def idxOf {α:Type} (p:α→Bool) (l:List α):Int:=if l.any p=true then ((l.findIdx p:Nat):Int) else -1
theorem idxOf_hit {α:Type} [Inhabited α] {p:α→Bool} {l:List α} {i:Nat} (hi:i<l.length) (h:p (l.getD i default)=true) (hn:∀ j,j<i→p (l.getD j default)=false):idxOf p l=i:=by
  have e:∀ j (hj:j<l.length),l.getD j default=l[j]:=fun j hj=>by simp [List.getD,hj]
  unfold idxOf
  rw [if_pos (List.any_eq_true.2 ⟨l[i],List.getElem_mem hi,by rw [← e i hi];exact h⟩)]
  rw [(List.findIdx_eq hi).2 ⟨by rw [← e i hi];exact h,fun j hj=>by rw [← e j (by omega)];exact hn j hj⟩]
theorem any_none {α:Type} [Inhabited α] {p:α→Bool} {l:List α} {i:Nat} (hi:l.length≤i) (hn:∀ j,j<i→p (l.getD j default)=false):l.any p=false:=by
  rw [List.any_eq_false]
  intro x hx
  obtain ⟨j,hj,e⟩:=mem_getD hx
  rw [← e,hn j (by omega)]
  simp
theorem idxOf_miss {α:Type} [Inhabited α] {p:α→Bool} {l:List α} {i:Nat} (hi:l.length≤i) (hn:∀ j,j<i→p (l.getD j default)=false):idxOf p l = -1:=by
  unfold idxOf
  rw [if_neg (by rw [any_none hi hn];simp)]
theorem idxOf_geq {α:Type} {p:α→Bool} {l:List α}:decide (0≤idxOf p l)=l.any p:=by
  unfold idxOf
  by_cases h:l.any p=true
  · rw [if_pos h,h];exact decide_eq_true (by omega)
  · rw [if_neg h,Bool.not_eq_true] at *;rw [h];rfl
theorem cl_lf {f:D→D} (hf:∀ d,clL d=true→f d=d):∀ d:D,d.cl=true→d.lf f=d
  | .ag ds,h=>by
    have hd:∀ d,d ∈ ds→d.cl=true:=fun d hm=>by rw [D.cl,alls_ag] at h;exact List.all_eq_true.1 h d hm
    have ih:∀ d,d ∈ ds→d.lf f=d:=fun d hm=>cl_lf hf d (hd d hm)
    rw [lf_ag,List.map_congr_left ih,List.map_id']
  | .tu ds,h=>by
    have hd:∀ d,d ∈ ds→d.cl=true:=fun d hm=>by rw [D.cl,alls_tu] at h;exact List.all_eq_true.1 h d hm
    have ih:∀ d,d ∈ ds→d.lf f=d:=fun d hm=>cl_lf hf d (hd d hm)
    rw [lf_tu,List.map_congr_left ih,List.map_id']
  | .clo g ds,h=>by
    have hd:∀ d,d ∈ ds→d.cl=true:=fun d hm=>by rw [cl_clo] at h;exact List.all_eq_true.1 h d hm
    have ih:∀ d,d ∈ ds→d.lf f=d:=fun d hm=>cl_lf hf d (hd d hm)
    rw [lf_clo,List.map_congr_left ih,List.map_id']
  | .v x,h=>by rw [lf_leaf rfl];exact hf _ rfl
  | .nl,h=>by rw [lf_leaf rfl];exact hf _ rfl
  | .sl _ _,h=>by rw [lf_leaf rfl];exact hf _ rfl
  | .ip _ _,h=>by rw [lf_leaf rfl];exact hf _ rfl
  | .ref _ _ _ _,h=>by rw [D.cl,alls_leaf rfl] at h;cases h
  | .ptr _ _ _ _,h=>by rw [D.cl,alls_leaf rfl] at h;cases h
  | .mp _,h=>by rw [D.cl,alls_leaf rfl] at h;cases h
  | .own _ _ _,h=>by rw [D.cl,alls_leaf rfl] at h;cases h
  | .omp _ _ _,h=>by rw [D.cl,alls_leaf rfl] at h;cases h
  | .junk,h=>by rw [D.cl,alls_leaf rfl] at h;cases h
termination_by d=>SizeOf.sizeOf d
decreasing_by all_goals (have:=List.sizeOf_lt_of_mem hm;simp;omega)
theorem cl_J:∀ d:D,d.alls clL=true→d.alls clJ=true
  | .ag ds,h=>by
    rw [alls_ag] at h ⊢
    exact List.all_eq_true.2 fun d hm=>cl_J d (List.all_eq_true.1 h d hm)
  | .tu ds,h=>by
    rw [alls_tu] at h ⊢
    exact List.all_eq_true.2 fun d hm=>cl_J d (List.all_eq_true.1 h d hm)
  | .clo g ds,h=>by
    rw [alls_clo] at h ⊢
    exact List.all_eq_true.2 fun d hm=>cl_J d (List.all_eq_true.1 h d hm)
  | .v x,h=>by rw [alls_leaf rfl];rfl
  | .nl,h=>by rw [alls_leaf rfl];rfl
  | .sl _ _,h=>by rw [alls_leaf rfl];rfl
  | .ip _ _,h=>by rw [alls_leaf rfl];rfl
  | .ref _ _ _ _,h=>by rw [alls_leaf rfl] at h;cases h
  | .ptr _ _ _ _,h=>by rw [alls_leaf rfl] at h;cases h
  | .mp _,h=>by rw [alls_leaf rfl] at h;cases h
  | .own _ _ _,h=>by rw [alls_leaf rfl] at h;cases h
  | .omp _ _ _,h=>by rw [alls_leaf rfl] at h;cases h
  | .junk,h=>by rw [alls_leaf rfl] at h;cases h
termination_by d=>SizeOf.sizeOf d
decreasing_by all_goals (have:=List.sizeOf_lt_of_mem hm;simp;omega)
section
variable {ds:List D} (hd:ds.all D.cl=true)
include hd
theorem map_lf {f:D→D} (hf:∀ d,clL d=true→f d=d):ds.map (D.lf f)=ds:=by
  rw [List.map_congr_left (fun d hm=>cl_lf hf d (List.all_eq_true.1 hd d hm)),List.map_id']
theorem cl_trims (n:Nat):(ds.map fun d=>d.trim n)=ds:=map_lf hd (f:=trimL n) (fun d h=>by cases d<;>first|rfl|cases h)
theorem cl_views (s:S):ds.map s.view=ds:=map_lf hd (f:=s.viewL) (fun d h=>by cases d<;>first|rfl|cases h)
theorem cl_owned:ds.any D.owned=false:=by
  rw [List.any_eq_false]
  intro d hm
  have h:=List.all_eq_true.1 hd d hm
  have:d.alls clJ=true:=by
    revert h
    unfold D.cl
    exact cl_J d
  simp [D.owned,this]
end
set_option maxRecDepth 10000 in
set_option maxHeartbeats 4000000 in
theorem idxF_rule (l : List (Rule)) (p : Rule → Bool) (f : FuncId) (ds : List D) (hl : l.length ≤ 9223372036854775807) (hd : ds.all D.cl = true) (hp : ∀ a, a ∈ l → Dm.Spec Try.prog f (.ag (rulD a) :: ds) (· = .v (.bool (p a)))) : Dm.Spec Try.prog 48 [.sl 2 (tbl rulD l), .clo f ds] (· = .v (.int .i64 (idxOf p l))) := by
  refine spec_of_vc mixed Try.func48 c48 (by rw [show Try.f48.ntmps=_ from Try.ntmps48];simp) ?_
  unfold m48 r48
  repeat' first|((first|refine Br.dec ?_ ?_|refine Br.eqi ?_ ?_)<;>intro h<;>try (exfalso;omega))|refine Z1 ?_|with_reducible exact trivial|(refine Br.mk ?_ ?_<;>intro h)|(refine BrN.mk (fun h => ?_) ?_)|(refine AltVC.mk ?_ ?_)
  refine LoopVC.mk (X:=Nat) (fun i=>[(1,.clo f ds),(8,iv .i64 i)]) (fun _=>[]) (fun i=>l.length - i) (fun i=>i≤l.length∧∀ j,j<i→p (l.getD j default)=false) 0 ⟨by omega,by omega⟩ ?_ ?_
  · (simp (disch:=first|omega|(simp only [vlen];first|done|omega)) only [Fits_u,Fits_m,Fits_nil,List.length_append,↓vAq,vBq,↓reduceIte,Nat.reduceBEq,Nat.reduceEqDiff,Nat.reduceLT,Nat.reduceLeDiff,Nat.reduceAdd,Nat.reduceMul,Nat.reduceSub,reduceCtorEq,Int.reduceToNat]<;>(repeat' first|rfl|apply And.intro))
  · rintro i ⟨hi,hn⟩
    repeat' first|((first|refine Br.dec ?_ ?_|refine Br.eqi ?_ ?_)<;>intro h<;>try (exfalso;omega))|refine Z1 ?_|with_reducible exact trivial|(refine Br.mk ?_ ?_<;>intro h)|(refine BrN.mk (fun h => ?_) ?_)|(refine AltVC.mk ?_ ?_)
    · rw [cl_views hd, cl_owned hd]
      refine CallVC.eq (hp (l.getD i default) (getD_mem' (by omega))) ?_
      repeat' first|((first|refine Br.dec ?_ ?_|refine Br.eqi ?_ ?_)<;>intro h<;>try (exfalso;omega))|refine Z1 ?_|with_reducible exact trivial|(refine Br.mk ?_ ?_<;>intro h)|(refine BrN.mk (fun h => ?_) ?_)|(refine AltVC.mk ?_ ?_)
      · refine fin_mk (viEq ?_)
        rw [idxOf_hit (by omega) (by assumption) hn]
      · refine loopK.mk (i+1) Y0 ⟨by omega,fun j hj => ?_⟩ (by omega) ?_
        · by_cases e:j=i
          · subst e;assumption
          · exact hn j (by omega)
        · (simp (disch:=first|omega|(simp only [vlen];first|done|omega)) only [Fits_u,Fits_m,Fits_nil,List.length_append,↓vAq,vBq,↓reduceIte,Nat.reduceBEq,Nat.reduceEqDiff,Nat.reduceLT,Nat.reduceLeDiff,Nat.reduceAdd,Nat.reduceMul,Nat.reduceSub,reduceCtorEq,Int.reduceToNat]<;>(repeat' first|rfl|apply And.intro))
          rw [cl_trims hd]
    · refine fin_mk (viEq ?_)
      rw [idxOf_miss (by omega) hn]
set_option maxRecDepth 10000 in
set_option maxHeartbeats 4000000 in
theorem conF_rule (l:List (Rule)) (p:Rule→Bool) (f:FuncId) (ds:List D) (hl:l.length≤9223372036854775807) (hd:ds.all D.cl=true) (hp:∀ a,a ∈ l→Dm.Spec Try.prog f (.ag (rulD a)::ds) (·=.v (.bool (p a)))):Dm.Spec Try.prog 27 [.sl 2 (tbl rulD l),.clo f ds] (·=.v (.bool (l.any p))):=by
  refine spec_of_vc mixed Try.func27 c27 (by rw [show Try.f27.ntmps=_ from Try.ntmps27];simp) ?_
  unfold m27 r27
  repeat' first|((first|refine Br.dec ?_ ?_|refine Br.eqi ?_ ?_)<;>intro h<;>try (exfalso;omega))|refine Z1 ?_|with_reducible exact trivial|(refine Br.mk ?_ ?_<;>intro h)|(refine BrN.mk (fun h => ?_) ?_)|(refine AltVC.mk ?_ ?_)
  rw [cl_views hd,cl_owned hd]
  refine CallVC.eq (idxF_rule l p f ds hl hd hp) ?_
  repeat' first|((first|refine Br.dec ?_ ?_|refine Br.eqi ?_ ?_)<;>intro h<;>try (exfalso;omega))|refine Z1 ?_|with_reducible exact trivial|(refine Br.mk ?_ ?_<;>intro h)|(refine BrN.mk (fun h => ?_) ?_)|(refine AltVC.mk ?_ ?_)
  exact fin_mk (vbEq idxOf_geq)
set_option maxRecDepth 10000 in
set_option maxHeartbeats 4000000 in
theorem idxF_int (l : List (Int)) (p : Int → Bool) (f : FuncId) (ds : List D) (hl : l.length ≤ 9223372036854775807) (hd : ds.all D.cl = true) (hp : ∀ a, a ∈ l → Dm.Spec Try.prog f (iv .i64 a :: ds) (· = .v (.bool (p a)))) : Dm.Spec Try.prog 57 [.sl 1 (i64s l), .clo f ds] (· = .v (.int .i64 (idxOf p l))) := by
  refine spec_of_vc mixed Try.func57 c57 (by rw [show Try.f57.ntmps=_ from Try.ntmps57];simp) ?_
  unfold m57 r57
  repeat' first|((first|refine Br.dec ?_ ?_|refine Br.eqi ?_ ?_)<;>intro h<;>try (exfalso;omega))|refine Z1 ?_|with_reducible exact trivial|(refine Br.mk ?_ ?_<;>intro h)|(refine BrN.mk (fun h => ?_) ?_)|(refine AltVC.mk ?_ ?_)
  refine LoopVC.mk (X:=Nat) (fun i=>[(1,.clo f ds),(8,iv .i64 i)]) (fun _=>[]) (fun i=>l.length - i) (fun i=>i≤l.length∧∀ j,j<i→p (l.getD j default)=false) 0 ⟨by omega,by omega⟩ ?_ ?_
  · (simp (disch:=first|omega|(simp only [vlen];first|done|omega)) only [Fits_u,Fits_m,Fits_nil,List.length_append,↓vAq,vBq,↓reduceIte,Nat.reduceBEq,Nat.reduceEqDiff,Nat.reduceLT,Nat.reduceLeDiff,Nat.reduceAdd,Nat.reduceMul,Nat.reduceSub,reduceCtorEq,Int.reduceToNat]<;>(repeat' first|rfl|apply And.intro))
  · rintro i ⟨hi,hn⟩
    repeat' first|((first|refine Br.dec ?_ ?_|refine Br.eqi ?_ ?_)<;>intro h<;>try (exfalso;omega))|refine Z1 ?_|with_reducible exact trivial|(refine Br.mk ?_ ?_<;>intro h)|(refine BrN.mk (fun h => ?_) ?_)|(refine AltVC.mk ?_ ?_)
    · rw [cl_views hd, cl_owned hd]
      refine CallVC.eq (hp (l.getD i default) (getD_mem' (by omega))) ?_
      repeat' first|((first|refine Br.dec ?_ ?_|refine Br.eqi ?_ ?_)<;>intro h<;>try (exfalso;omega))|refine Z1 ?_|with_reducible exact trivial|(refine Br.mk ?_ ?_<;>intro h)|(refine BrN.mk (fun h => ?_) ?_)|(refine AltVC.mk ?_ ?_)
      · refine fin_mk (viEq ?_)
        rw [idxOf_hit (by omega) (by assumption) hn]
      · refine loopK.mk (i+1) Y0 ⟨by omega,fun j hj => ?_⟩ (by omega) ?_
        · by_cases e:j=i
          · subst e;assumption
          · exact hn j (by omega)
        · (simp (disch:=first|omega|(simp only [vlen];first|done|omega)) only [Fits_u,Fits_m,Fits_nil,List.length_append,↓vAq,vBq,↓reduceIte,Nat.reduceBEq,Nat.reduceEqDiff,Nat.reduceLT,Nat.reduceLeDiff,Nat.reduceAdd,Nat.reduceMul,Nat.reduceSub,reduceCtorEq,Int.reduceToNat]<;>(repeat' first|rfl|apply And.intro))
          rw [cl_trims hd]
    · refine fin_mk (viEq ?_)
      rw [idxOf_miss (by omega) hn]
set_option maxRecDepth 10000 in
set_option maxHeartbeats 4000000 in
theorem conF_int (l:List (Int)) (p:Int→Bool) (f:FuncId) (ds:List D) (hl:l.length≤9223372036854775807) (hd:ds.all D.cl=true) (hp:∀ a,a ∈ l→Dm.Spec Try.prog f (iv .i64 a::ds) (·=.v (.bool (p a)))):Dm.Spec Try.prog 45 [.sl 1 (i64s l),.clo f ds] (·=.v (.bool (l.any p))):=by
  refine spec_of_vc mixed Try.func45 c45 (by rw [show Try.f45.ntmps=_ from Try.ntmps45];simp) ?_
  unfold m45 r45
  repeat' first|((first|refine Br.dec ?_ ?_|refine Br.eqi ?_ ?_)<;>intro h<;>try (exfalso;omega))|refine Z1 ?_|with_reducible exact trivial|(refine Br.mk ?_ ?_<;>intro h)|(refine BrN.mk (fun h => ?_) ?_)|(refine AltVC.mk ?_ ?_)
  rw [cl_views hd,cl_owned hd]
  refine CallVC.eq (idxF_int l p f ds hl hd hp) ?_
  repeat' first|((first|refine Br.dec ?_ ?_|refine Br.eqi ?_ ?_)<;>intro h<;>try (exfalso;omega))|refine Z1 ?_|with_reducible exact trivial|(refine Br.mk ?_ ?_<;>intro h)|(refine BrN.mk (fun h => ?_) ?_)|(refine AltVC.mk ?_ ?_)
  exact fin_mk (vbEq idxOf_geq)
end Go.Proofs.Ytcclchnbjpncdaa

namespace Go.Proofs.Ytcclchnbjpncdaa
open Go.Dm
def isSign (g:Grammar) (x:Int):Bool:=decide (0≤x∧x<g.k+g.n)
def isSigns (g:Grammar) (l:List Int):Bool:=l.all (isSign g)
def gcode (g:Grammar):Int :=
  if ¬ (1≤g.k∧g.k≤3)∨¬ (1≤g.n∧g.n≤5)∨10<g.rules.length then 1
  else if g.rules.any (fun r=>decide (4<r.right.length))=true then 1
  else if ¬ (0≤g.start∧g.start<g.n) then 2
  else if g.rules.any (fun r => !(decide (0≤r.left∧r.left<g.n) && isSigns g r.right))=true then 2
  else 0
set_option maxRecDepth 10000 in
set_option maxHeartbeats 4000000 in
theorem gWithin_spec (n lo hi:Int):Dm.Spec Try.prog 42 [iv .i64 n,iv .i64 lo,iv .i64 hi] (·=.v (.bool (decide (lo≤n∧n≤hi)))):=by
  refine spec_of_vc mixed Try.func42 c42 (by rw [show Try.f42.ntmps=_ from Try.ntmps42];simp) ?_
  unfold m42 r42
  repeat' first|((first|refine Br.dec ?_ ?_|refine Br.eqi ?_ ?_)<;>intro h<;>try (exfalso;omega))|refine Z1 ?_|with_reducible exact trivial|(refine Br.mk ?_ ?_<;>intro h)|(refine BrN.mk (fun h => ?_) ?_)|(refine AltVC.mk ?_ ?_)
  · exact fin_mk (vbEq (by congr 1;exact propext ⟨fun h=>⟨by assumption,h⟩,fun h=>h.2⟩))
  · exact fin_mk (vbEq (by rw [decide_eq_false (fun h=>by omega)]))
set_option maxRecDepth 10000 in
set_option maxHeartbeats 4000000 in
theorem gLong_spec (r:Rule) (h:r.right.length≤9223372036854775807):Dm.Spec Try.prog 43 [.ag (rulD r)] (·=.v (.bool (decide (4<r.right.length)))):=by
  refine spec_of_vc mixed Try.func43 c43 (by rw [show Try.f43.ntmps=_ from Try.ntmps43];simp) ?_
  unfold m43 r43
  repeat' first|((first|refine Br.dec ?_ ?_|refine Br.eqi ?_ ?_)<;>intro h<;>try (exfalso;omega))|refine Z1 ?_|with_reducible exact trivial|(refine Br.mk ?_ ?_<;>intro h)|(refine BrN.mk (fun h => ?_) ?_)|(refine AltVC.mk ?_ ?_)
  exact fin_mk (vbEq (dec_iff (by omega)))
set_option maxRecDepth 10000 in
set_option maxHeartbeats 4000000 in
theorem isSign_spec (g:Grammar) (hk:0≤g.k∧g.k≤1000) (hn:0≤g.n∧g.n≤1000) (s:Int):Dm.Spec Try.prog 56 [iv .i64 s,.ip (graD g) 0] (·=.v (.bool (!isSign g s))):=by
  refine spec_of_vc mixed Try.func56 c56 (by rw [show Try.f56.ntmps=_ from Try.ntmps56];simp) ?_
  unfold m56 r56
  repeat' first|((first|refine Br.dec ?_ ?_|refine Br.eqi ?_ ?_)<;>intro h<;>try (exfalso;omega))|refine Z1 ?_|with_reducible exact trivial|(refine Br.mk ?_ ?_<;>intro h)|(refine BrN.mk (fun h => ?_) ?_)|(refine AltVC.mk ?_ ?_)
  · refine fin_mk (vbEq ?_)
    rw [isSign,decide_eq_false (by omega)];rfl
  · refine fin_mk (vbEq ?_)
    rw [isSign,← decide_not]
    exact dec_iff (by omega)
theorem all_not' {α:Type} {p:α→Bool} {l:List α}:(!(l.any fun a => !p a))=l.all p:=by
  rw [List.not_any_eq_all_not];simp
set_option maxRecDepth 10000 in
set_option maxHeartbeats 4000000 in
theorem isSigns_spec (g:Grammar) (hk:0≤g.k∧g.k≤1000) (hn:0≤g.n∧g.n≤1000) (l:List Int) (hl:l.length≤9223372036854775807):Dm.Spec Try.prog 44 [.ag (graD g),.sl 1 (i64s l)] (·=.v (.bool (isSigns g l))):=by
  refine spec_of_vc mixed Try.func44 c44 (by rw [show Try.f44.ntmps=_ from Try.ntmps44];simp) ?_
  unfold m44 r44
  repeat' first|((first|refine Br.dec ?_ ?_|refine Br.eqi ?_ ?_)<;>intro h<;>try (exfalso;omega))|refine Z1 ?_|with_reducible exact trivial|(refine Br.mk ?_ ?_<;>intro h)|(refine BrN.mk (fun h => ?_) ?_)|(refine AltVC.mk ?_ ?_)
  refine CallVC.eqo (conF_int l (fun s => !isSign g s) _ [.ip (graD g) 0] hl Y0 fun a ha=>isSign_spec g hk hn a) Y0 ?_
  repeat' first|((first|refine Br.dec ?_ ?_|refine Br.eqi ?_ ?_)<;>intro h<;>try (exfalso;omega))|refine Z1 ?_|with_reducible exact trivial|(refine Br.mk ?_ ?_<;>intro h)|(refine BrN.mk (fun h => ?_) ?_)|(refine AltVC.mk ?_ ?_)
  exact fin_mk (vbEq all_not')
def badRule (g:Grammar) (r:Rule):Bool := !(decide (0≤r.left∧r.left<g.n) && isSigns g r.right)
theorem gcode_b {g:Grammar}:gcode g=if ¬ (1≤g.k∧g.k≤3)∨¬ (1≤g.n∧g.n≤5)∨10<g.rules.length then 1
  else if g.rules.any (fun r=>decide (4<r.right.length))=true then 1
  else if ¬ (0≤g.start∧g.start<g.n) then 2
  else if g.rules.any (badRule g)=true then 2 else 0:=rfl
theorem any_hit {α:Type} [Inhabited α] {p:α→Bool} {l:List α} {i:Nat} (hi:i<l.length) (h:p (l.getD i default)=true):l.any p=true :=
  List.any_eq_true.2 ⟨_,getD_mem' hi,h⟩
set_option maxRecDepth 10000 in
set_option maxHeartbeats 4000000 in
theorem gCheck_spec (g : Grammar) (hg : g.ok) : Dm.Spec Try.prog 25 [.ag (graD g)] (· = iv .i64 (gcode g)) := by
  refine spec_of_vc mixed Try.func25 c25 (by rw [show Try.f25.ntmps=_ from Try.ntmps25];simp) ?_
  unfold m25 r25
  have hr:g.rules.length≤9223372036854775807:=maxLen_le hg.2.2.2.1
  have hk : -9223372036854775808≤g.k∧g.k≤9223372036854775807:=hg.1
  have hn : -9223372036854775808≤g.n∧g.n≤9223372036854775807:=hg.2.1
  have hq:∀ r,r ∈ g.rules→r.right.length≤9223372036854775807:=fun r h=>maxLen_le (hg.2.2.2.2 r h).2.1
  have r1:¬ (1≤g.k∧g.k≤3)∨¬ (1≤g.n∧g.n≤5)∨10<g.rules.length→gcode g=1:=fun h=>by rw [gcode,if_pos h]
  repeat' first|((first|refine Br.dec ?_ ?_|refine Br.eqi ?_ ?_)<;>intro h<;>try (exfalso;omega))|refine Z1 ?_|with_reducible exact trivial|(refine Br.mk ?_ ?_<;>intro h)|(refine BrN.mk (fun h => ?_) ?_)|(refine AltVC.mk ?_ ?_)
  refine CallVC.eq (gWithin_spec _ _ _) ?_
  repeat' first|((first|refine Br.dec ?_ ?_|refine Br.eqi ?_ ?_)<;>intro h<;>try (exfalso;omega))|refine Z1 ?_|with_reducible exact trivial|(refine Br.mk ?_ ?_<;>intro h)|(refine BrN.mk (fun h => ?_) ?_)|(refine AltVC.mk ?_ ?_)
  · refine CallVC.eq (gWithin_spec _ _ _) ?_
    repeat' first|((first|refine Br.dec ?_ ?_|refine Br.eqi ?_ ?_)<;>intro h<;>try (exfalso;omega))|refine Z1 ?_|with_reducible exact trivial|(refine Br.mk ?_ ?_<;>intro h)|(refine BrN.mk (fun h => ?_) ?_)|(refine AltVC.mk ?_ ?_)
    · exact fin_mk (by rw [r1 (by omega)])
    · refine CallVC.eqo (conF_rule g.rules (fun r=>decide (4<r.right.length)) _ [] hr rfl fun r h=>gLong_spec r (hq r h)) Y0 ?_
      repeat' first|((first|refine Br.dec ?_ ?_|refine Br.eqi ?_ ?_)<;>intro h<;>try (exfalso;omega))|refine Z1 ?_|with_reducible exact trivial|(refine Br.mk ?_ ?_<;>intro h)|(refine BrN.mk (fun h => ?_) ?_)|(refine AltVC.mk ?_ ?_)
      · exact fin_mk (by rw [gcode,if_neg (by omega),if_pos (by assumption)])
      · have h4 : (g.rules.any fun r => decide (4 < r.right.length)) = false := by assumption
        refine CallVC.eq (gWithin_spec _ _ _) ?_
        repeat' first|((first|refine Br.dec ?_ ?_|refine Br.eqi ?_ ?_)<;>intro h<;>try (exfalso;omega))|refine Z1 ?_|with_reducible exact trivial|(refine Br.mk ?_ ?_<;>intro h)|(refine BrN.mk (fun h => ?_) ?_)|(refine AltVC.mk ?_ ?_)
        · refine LoopVC.mk (X:=Nat) (fun i=>[(38,iv .i64 i)]) (fun i=>[(0,⟨4,[[iv .i64 g.k,iv .i64 g.n,iv .i64 g.start,.sl 2 (tbl rulD g.rules)]],true,false,.fix⟩)]) (fun i=>g.rules.length - i) (fun i=>i≤g.rules.length∧∀ j,j<i→badRule g (g.rules.getD j default)=false) 0 ⟨by omega,by omega⟩ ?_ ?_
          · (simp (disch:=first|omega|(simp only [vlen];first|done|omega)) only [Fits_u,Fits_m,Fits_nil,List.length_append,↓vAq,vBq,↓reduceIte,Nat.reduceBEq,Nat.reduceEqDiff,Nat.reduceLT,Nat.reduceLeDiff,Nat.reduceAdd,Nat.reduceMul,Nat.reduceSub,reduceCtorEq,Int.reduceToNat]<;>(repeat' first|rfl|apply And.intro))
          · rintro i ⟨hi,hb⟩
            repeat' first|((first|refine Br.dec ?_ ?_|refine Br.eqi ?_ ?_)<;>intro h<;>try (exfalso;omega))|refine Z1 ?_|with_reducible exact trivial|(refine Br.mk ?_ ?_<;>intro h)|(refine BrN.mk (fun h => ?_) ?_)|(refine AltVC.mk ?_ ?_)
            · have hm:g.rules.getD i default ∈ g.rules:=getD_mem' (by omega)
              refine CallVC.eq (gWithin_spec _ _ _) ?_
              repeat' first|((first|refine Br.dec ?_ ?_|refine Br.eqi ?_ ?_)<;>intro h<;>try (exfalso;omega))|refine Z1 ?_|with_reducible exact trivial|(refine Br.mk ?_ ?_<;>intro h)|(refine BrN.mk (fun h => ?_) ?_)|(refine AltVC.mk ?_ ?_)
              · refine CallVC.eq (isSigns_spec g (by omega) (by omega) _ (hq _ hm)) ?_
                repeat' first|((first|refine Br.dec ?_ ?_|refine Br.eqi ?_ ?_)<;>intro h<;>try (exfalso;omega))|refine Z1 ?_|with_reducible exact trivial|(refine Br.mk ?_ ?_<;>intro h)|(refine BrN.mk (fun h => ?_) ?_)|(refine AltVC.mk ?_ ?_)
                · have e:isSigns g (g.rules.getD i default).right=true:=by assumption
                  refine loopK.mk (i+1) Y0 ⟨by omega,fun j hj => ?_⟩ (by omega) ?_
                  · by_cases e2:j=i
                    · subst e2;rw [badRule,e,decide_eq_true (by omega)];rfl
                    · exact hb j (by omega)
                  · (simp (disch:=first|omega|(simp only [vlen];first|done|omega)) only [Fits_u,Fits_m,Fits_nil,List.length_append,↓vAq,vBq,↓reduceIte,Nat.reduceBEq,Nat.reduceEqDiff,Nat.reduceLT,Nat.reduceLeDiff,Nat.reduceAdd,Nat.reduceMul,Nat.reduceSub,reduceCtorEq,Int.reduceToNat]<;>(repeat' first|rfl|apply And.intro))
                · have e:isSigns g (g.rules.getD i default).right=false:=by assumption
                  exact fin_mk (by rw [gcode_b,if_neg (by omega),if_neg (by rw [h4];simp),if_neg (by omega),if_pos (any_hit (i:=i) (by omega) (by rw [badRule,e];simp))])
              · exact fin_mk (by rw [gcode_b,if_neg (by omega),if_neg (by rw [h4];simp),if_neg (by omega),if_pos (any_hit (i:=i) (by omega) (by rw [badRule,decide_eq_false (by omega)];rfl))])
            · exact fin_mk (by rw [gcode_b,if_neg (by omega),if_neg (by rw [h4];simp),if_neg (by omega),if_neg (by rw [any_none (i:=i) (by omega) hb];simp)])
        · exact fin_mk (by rw [gcode,if_neg (by omega),if_neg (by rw [h4];simp),if_pos (by omega)])
    · exact fin_mk (by rw [r1 (by omega)])
  · exact fin_mk (by rw [r1 (by omega)])
theorem all_hit {α:Type} [Inhabited α] {p:α→Bool} {l:List α} {i:Nat} (hi:i<l.length) (h:p (l.getD i default)=false):l.all p=false :=
  List.all_eq_false.2 ⟨_,getD_mem' hi,by rw [h];simp⟩
theorem all_none {α:Type} [Inhabited α] {p:α→Bool} {l:List α} {i:Nat} (hi:l.length≤i) (hn:∀ j,j<i→p (l.getD j default)=true):l.all p=true:=by
  rw [List.all_eq_true]
  intro x hx
  obtain ⟨j,hj,e⟩:=mem_getD hx
  rw [← e,hn j (by omega)]
theorem succ_all {p:Nat→Prop} {i:Nat} (h:∀ j,j<i→p j) (hi:p i):∀ j,j<i+1→p j:=fun j hj=>by
  by_cases e:j=i
  · rw [e];exact hi
  · exact h j (by omega)
set_option maxRecDepth 10000 in
set_option maxHeartbeats 4000000 in
theorem signs_spec (g:Grammar) (hk:0≤g.k∧g.k≤1000) (hn:0≤g.n∧g.n≤1000) (l:List Int) (hl:l.length≤9223372036854775807):Dm.Spec Try.prog 37 [.ag (graD g),.sl 1 (i64s l)] (·=.v (.bool (isSigns g l))):=by
  refine spec_of_vc mixed Try.func37 c37 (by rw [show Try.f37.ntmps=_ from Try.ntmps37];simp) ?_
  unfold m37 r37
  repeat' first|((first|refine Br.dec ?_ ?_|refine Br.eqi ?_ ?_)<;>intro h<;>try (exfalso;omega))|refine Z1 ?_|with_reducible exact trivial|(refine Br.mk ?_ ?_<;>intro h)|(refine BrN.mk (fun h => ?_) ?_)|(refine AltVC.mk ?_ ?_)
  refine LoopVC.mk (X:=Nat) (fun i=>[(9,iv .i64 i)]) (fun _=>[(0,⟨4,[[iv .i64 g.k,iv .i64 g.n,iv .i64 g.start,.sl 2 (tbl rulD g.rules)]],true,false,.fix⟩)]) (fun i=>l.length - i) (fun i=>i≤l.length∧∀ j,j<i→isSign g (l.getD j 0)=true) 0 ⟨by omega,by omega⟩ ?_ ?_
  · (simp (disch:=first|omega|(simp only [vlen];first|done|omega)) only [Fits_u,Fits_m,Fits_nil,List.length_append,↓vAq,vBq,↓reduceIte,Nat.reduceBEq,Nat.reduceEqDiff,Nat.reduceLT,Nat.reduceLeDiff,Nat.reduceAdd,Nat.reduceMul,Nat.reduceSub,reduceCtorEq,Int.reduceToNat]<;>(repeat' first|rfl|apply And.intro))
  · rintro i ⟨hi,hb⟩
    repeat' first|((first|refine Br.dec ?_ ?_|refine Br.eqi ?_ ?_)<;>intro h<;>try (exfalso;omega))|refine Z1 ?_|with_reducible exact trivial|(refine Br.mk ?_ ?_<;>intro h)|(refine BrN.mk (fun h => ?_) ?_)|(refine AltVC.mk ?_ ?_)
    · exact fin_mk (vbEq (all_hit (p:=isSign g) (l:=l) (i:=i) (by omega) (decide_eq_false (by show ¬ (0≤l.getD i 0∧l.getD i 0<g.k+g.n);omega))).symm)
    · exact fin_mk (vbEq (all_hit (p:=isSign g) (l:=l) (i:=i) (by omega) (decide_eq_false (by show ¬ (0≤l.getD i 0∧l.getD i 0<g.k+g.n);omega))).symm)
    · refine loopK.mk (i+1) Y0 ⟨by omega,succ_all hb (decide_eq_true (by omega))⟩ (by omega) Y10
    · exact fin_mk (vbEq (all_none (i:=i) (by omega) hb).symm)
set_option maxRecDepth 10000 in
set_option maxHeartbeats 4000000 in
theorem refGCheck_spec (g : Grammar) (hg : g.ok) : Dm.Spec Try.prog 15 [.ag (graD g)] (· = iv .i64 (gcode g)) := by
  refine spec_of_vc mixed Try.func15 c15 (by rw [show Try.f15.ntmps=_ from Try.ntmps15];simp) ?_
  unfold m15 r15
  have hr:g.rules.length≤9223372036854775807:=maxLen_le hg.2.2.2.1
  have hk : -9223372036854775808≤g.k∧g.k≤9223372036854775807:=hg.1
  have hn : -9223372036854775808≤g.n∧g.n≤9223372036854775807:=hg.2.1
  have hq:∀ r,r ∈ g.rules→r.right.length≤9223372036854775807:=fun r h=>maxLen_le (hg.2.2.2.2 r h).2.1
  have r1:¬ (1≤g.k∧g.k≤3)∨¬ (1≤g.n∧g.n≤5)∨10<g.rules.length→gcode g=1:=fun h=>by rw [gcode,if_pos h]
  repeat' first|((first|refine Br.dec ?_ ?_|refine Br.eqi ?_ ?_)<;>intro h<;>try (exfalso;omega))|refine Z1 ?_|with_reducible exact trivial|(refine Br.mk ?_ ?_<;>intro h)|(refine BrN.mk (fun h => ?_) ?_)|(refine AltVC.mk ?_ ?_)
  all_goals first|exact fin_mk (by rw [r1 (by omega)])|skip
  refine LoopVC.mk (X:=Nat) (fun i=>[(34,iv .i64 i)]) (fun _=>[(0,⟨4,[[iv .i64 g.k,iv .i64 g.n,iv .i64 g.start,.sl 2 (tbl rulD g.rules)]],true,false,.fix⟩)]) (fun i=>g.rules.length - i) (fun i=>i≤g.rules.length∧∀ j,j<i→decide (4<(g.rules.getD j default).right.length)=false) 0 ⟨by omega,by omega⟩ ?_ ?_
  · (simp (disch:=first|omega|(simp only [vlen];first|done|omega)) only [Fits_u,Fits_m,Fits_nil,List.length_append,↓vAq,vBq,↓reduceIte,Nat.reduceBEq,Nat.reduceEqDiff,Nat.reduceLT,Nat.reduceLeDiff,Nat.reduceAdd,Nat.reduceMul,Nat.reduceSub,reduceCtorEq,Int.reduceToNat]<;>(repeat' first|rfl|apply And.intro))
  · rintro i ⟨hi,hb⟩
    repeat' first|((first|refine Br.dec ?_ ?_|refine Br.eqi ?_ ?_)<;>intro h<;>try (exfalso;omega))|refine Z1 ?_|with_reducible exact trivial|(refine Br.mk ?_ ?_<;>intro h)|(refine BrN.mk (fun h => ?_) ?_)|(refine AltVC.mk ?_ ?_)
    · exact fin_mk (by rw [gcode,if_neg (by omega),if_pos (any_hit (p:=fun r:Rule=>decide (4<r.right.length)) (l:=g.rules) (i:=i) (by omega) (decide_eq_true (by omega)))])
    · refine loopK.mk (i+1) Y0 ⟨by omega,succ_all hb (decide_eq_false (by omega))⟩ (by omega) Y10
    · exact fin_mk (by rw [gcode,if_neg (by omega),if_neg (by rw [any_none (i:=i) (by omega) hb];simp),if_pos (by omega)])
    · exact fin_mk (by rw [gcode,if_neg (by omega),if_neg (by rw [any_none (i:=i) (by omega) hb];simp),if_pos (by omega)])
    · have h4:=any_none (p:=fun r:Rule=>decide (4<r.right.length)) (i:=i) (l:=g.rules) (by omega) hb
      refine LoopVC.mk (X:=Nat) (fun i=>[(56,iv .i64 i)]) (fun _=>[(0,⟨4,[[iv .i64 g.k,iv .i64 g.n,iv .i64 g.start,.sl 2 (tbl rulD g.rules)]],true,false,.fix⟩)]) (fun i=>g.rules.length - i) (fun i=>i≤g.rules.length∧∀ j,j<i→badRule g (g.rules.getD j default)=false) 0 ⟨by omega,by omega⟩ ?_ ?_
      · (simp (disch:=first|omega|(simp only [vlen];first|done|omega)) only [Fits_u,Fits_m,Fits_nil,List.length_append,↓vAq,vBq,↓reduceIte,Nat.reduceBEq,Nat.reduceEqDiff,Nat.reduceLT,Nat.reduceLeDiff,Nat.reduceAdd,Nat.reduceMul,Nat.reduceSub,reduceCtorEq,Int.reduceToNat]<;>(repeat' first|rfl|apply And.intro))
      · rintro k ⟨hk1,hb1⟩
        repeat' first|((first|refine Br.dec ?_ ?_|refine Br.eqi ?_ ?_)<;>intro h<;>try (exfalso;omega))|refine Z1 ?_|with_reducible exact trivial|(refine Br.mk ?_ ?_<;>intro h)|(refine BrN.mk (fun h => ?_) ?_)|(refine AltVC.mk ?_ ?_)
        · exact fin_mk (by rw [gcode_b,if_neg (by omega),if_neg (by rw [h4];simp),if_neg (by omega),if_pos (any_hit (i:=k) (by omega) (by rw [badRule,decide_eq_false (by omega)];rfl))])
        · exact fin_mk (by rw [gcode_b,if_neg (by omega),if_neg (by rw [h4];simp),if_neg (by omega),if_pos (any_hit (i:=k) (by omega) (by rw [badRule,decide_eq_false (by omega)];rfl))])
        · have hm:g.rules.getD k default ∈ g.rules:=getD_mem' (by omega)
          refine CallVC.eq (signs_spec g (by omega) (by omega) _ (hq _ hm)) ?_
          repeat' first|((first|refine Br.dec ?_ ?_|refine Br.eqi ?_ ?_)<;>intro h<;>try (exfalso;omega))|refine Z1 ?_|with_reducible exact trivial|(refine Br.mk ?_ ?_<;>intro h)|(refine BrN.mk (fun h => ?_) ?_)|(refine AltVC.mk ?_ ?_)
          · have e:isSigns g (g.rules.getD k default).right=true:=by assumption
            refine loopK.mk (k+1) Y0 ⟨by omega,succ_all hb1 (by rw [badRule,e,decide_eq_true (by omega)];rfl)⟩ (by omega) Y10
          · have e:isSigns g (g.rules.getD k default).right=false:=by assumption
            exact fin_mk (by rw [gcode_b,if_neg (by omega),if_neg (by rw [h4];simp),if_neg (by omega),if_pos (any_hit (i:=k) (by omega) (by rw [badRule,e];simp))])
        · exact fin_mk (by rw [gcode_b,if_neg (by omega),if_neg (by rw [h4];simp),if_neg (by omega),if_neg (by rw [any_none (i:=k) (by omega) hb1];simp)])
end Go.Proofs.Ytcclchnbjpncdaa

namespace Go.Proofs.Ytcclchnbjpncdaa
open Go.Dm
theorem and_one (n:Nat):n &&& 1=n % 2:=by
  have:=Nat.and_two_pow_sub_one_eq_mod n 1
  simpa using this
theorem bit_eq {S n:Nat}:decide ((((S >>> n) &&& 1:Nat):Int)=1)=S.testBit n:=by
  rw [and_one,Nat.testBit_eq_decide_div_mod_eq,Nat.shiftRight_eq_div_pow]
  exact dec_iff (by omega)
def setOf (f:Nat→Bool):Nat→Nat
  | 0=>0
  | n+1=>setOf f n ||| if f n=true then 2 ^ n else 0
theorem setOf_lt {f:Nat→Bool}:∀ {n:Nat},setOf f n<2 ^ n
  | 0=>by simp [setOf]
  | n+1=>by
    have:=@setOf_lt f n
    have h2:2 ^ n<2 ^ (n+1):=Nat.pow_lt_pow_right (by omega) (by omega)
    rw [setOf]
    split
    · exact Nat.or_lt_two_pow (by omega) h2
    · rw [Nat.or_zero];omega
theorem setOf_bit {f:Nat→Bool} {i:Nat}:∀ {n:Nat},(setOf f n).testBit i=(decide (i<n) && f i)
  | 0=>by simp [setOf]
  | n + 1 => by
    rw [setOf,Nat.testBit_or,setOf_bit]
    by_cases e:i=n
    · subst e
      by_cases h:f i=true
      · rw [if_pos h,Nat.testBit_two_pow_self,h];simp
      · rw [if_neg h,Nat.zero_testBit];simp at h;simp [h]
    · have h1:decide (i<n+1)=decide (i<n):=dec_iff (by omega)
      rw [h1]
      split
      · rw [Nat.testBit_two_pow_of_ne (by omega),Bool.or_false]
      · rw [Nat.zero_testBit,Bool.or_false]
theorem set_ext {S:Nat} {f:Nat→Bool} {n:Nat} (hS:S<2 ^ n) (h:∀ i,i<n→S.testBit i=f i):S=setOf f n:=by
  apply Nat.eq_of_testBit_eq
  intro i
  rw [setOf_bit]
  by_cases e:i<n
  · rw [h i e,decide_eq_true e,Bool.true_and]
  · rw [decide_eq_false e,Bool.false_and]
    exact Nat.testBit_lt_two_pow (Nat.lt_of_lt_of_le hS (Nat.pow_le_pow_right (by omega) (by omega)))
theorem or_two_lt {S l n:Nat} (hS:S<2 ^ n) (hl:l<n):S ||| 2 ^ l<2 ^ n:=Nat.or_lt_two_pow hS (Nat.pow_lt_pow_right (by omega) hl)
theorem le_or {S T:Nat}:S≤S ||| T:=Nat.left_le_or
theorem or_bit {S l x:Nat}:(S ||| 2 ^ l).testBit x=(S.testBit x || decide (x=l)):=by
  rw [Nat.testBit_or]
  by_cases e:x=l
  · subst e;rw [Nat.testBit_two_pow_self];simp
  · rw [Nat.testBit_two_pow_of_ne (by omega)];simp [e]
theorem shrN {S n:Nat} (hn:n≤32):((S:Nat):Int).fdiv (2 ^ (min n IntKind.u32.bits))=((S >>> n:Nat):Int):=by
  have e:min n IntKind.u32.bits=n:=Nat.min_eq_left (by show n≤32;omega)
  rw [e,Int.fdiv_eq_ediv_of_nonneg _ (Int.le_of_lt (Int.pow_pos (by omega))),Nat.shiftRight_eq_div_pow,Int.natCast_ediv]
  congr 1
theorem andN {S T:Nat} (hS:(S:Int)≤4294967295) (hT:(T:Int)≤4294967295):IntKind.u32.wrap ((BitVec.ofInt IntKind.u32.bits (S:Int) &&& BitVec.ofInt IntKind.u32.bits (T:Int)).toNat:Int)=((S &&& T:Nat):Int):=by
  rw [and32 (by omega) (by omega),Int.toNat_natCast,Int.toNat_natCast]
theorem orN {S T:Nat} (hS:(S:Int)≤4294967295) (hT:(T:Int)≤4294967295):IntKind.u32.wrap ((BitVec.ofInt IntKind.u32.bits (S:Int) ||| BitVec.ofInt IntKind.u32.bits (T:Int)).toNat:Int)=((S ||| T:Nat):Int):=by
  rw [or32 (by omega) (by omega),Int.toNat_natCast,Int.toNat_natCast]
theorem shlN {n:Nat} (hn:n≤31):IntKind.u32.wrap (1 * 2 ^ (min n IntKind.u32.bits))=((2 ^ n:Nat):Int):=by
  have:=shl32_1 (n:=n) (by omega)
  rwa [Int.toNat_natCast] at this
theorem shr_le {S n:Nat}:S >>> n≤S:=by rw [Nat.shiftRight_eq_div_pow];exact Nat.div_le_self _ _
theorem pow_le31 {n:Nat} (hn:n≤31):((2 ^ n:Nat):Int)≤2147483648:=by
  have h:2 ^ n≤2 ^ 31:=Nat.pow_le_pow_right (by omega) hn
  omega
set_option maxRecDepth 10000 in
set_option maxHeartbeats 4000000 in
theorem has_spec (S n:Nat) (hS:(S:Int)≤4294967295) (hn:n≤31):Dm.Spec Try.prog 12 [iv .u32 S,iv .i64 n] (·=.v (.bool (S.testBit n))):=by
  refine spec_of_vc mixed Try.func12 c12 (by rw [show Try.f12.ntmps=_ from Try.ntmps12];simp) ?_
  unfold m12 r12
  repeat' first|((first|refine Br.dec ?_ ?_|refine Br.eqi ?_ ?_)<;>intro h<;>try (exfalso;omega))|refine Z1 ?_|with_reducible exact trivial|(refine Br.mk ?_ ?_<;>intro h)|(refine BrN.mk (fun h => ?_) ?_)|(refine AltVC.mk ?_ ?_)
  refine fin_mk (vbEq ?_)
  have:=@shr_le S n
  rw [shrN (by omega),show (1:Int)=((1:Nat):Int) from rfl,andN (by omega) (by omega),← bit_eq]
  rfl
end Go.Proofs.Ytcclchnbjpncdaa

namespace Go.Proofs.Ytcclchnbjpncdaa
open Go.Dm
structure Valid (g:Grammar):Prop where
  k:1≤g.k∧g.k≤3
  n:1≤g.n∧g.n≤5
  start:0≤g.start∧g.start<g.n
  len:g.rules.length≤10
  left:∀ r,r ∈ g.rules→0≤r.left∧r.left<g.n
  long:∀ r,r ∈ g.rules→r.right.length≤4
  right:∀ r,r ∈ g.rules→∀ y,y ∈ r.right→0≤y∧y<g.k+g.n
theorem valid_of {g : Grammar} (h : gcode g = 0) : Valid g := by
  rw [gcode_b] at h
  split at h
  · omega
  · next h1 =>
    split at h
    · omega
    · next h2 =>
      split at h
      · omega
      · next h3 =>
        split at h
        · omega
        · next h4 =>
          have hr:∀ r,r ∈ g.rules→badRule g r=false:=fun r hm=>by
            cases hb:badRule g r
            · rfl
            · exact absurd (List.any_eq_true.2 ⟨r,hm,hb⟩) h4
          have hs:∀ r,r ∈ g.rules→(0≤r.left∧r.left<g.n)∧isSigns g r.right=true:=fun r hm=>by
            have:=hr r hm
            simpa [badRule] using this
          refine ⟨by omega,by omega,by omega,by omega,fun r hm=>(hs r hm).1,fun r hm => ?_,fun r hm y hy => ?_⟩
          · have:¬ (4<r.right.length):=fun hl=>h2 (List.any_eq_true.2 ⟨r,hm,decide_eq_true hl⟩)
            omega
          · have:=List.all_eq_true.1 (hs r hm).2 y hy
            exact of_decide_eq_true this
end Go.Proofs.Ytcclchnbjpncdaa

namespace Go.Proofs.Ytcclchnbjpncdaa
open Go.Dm
def tm (a b:Nat):Nat:=min (a * b) 1099511627777
theorem quoN {b:Nat}:(1099511627777:Int) / (b:Int)=((1099511627777 / b:Nat):Int):=by simp
theorem tm_big {a b:Nat} (hb:b ≠ 0) (h:1099511627777 / b<a):tm a b=1099511627777:=by
  unfold tm
  have:=(Nat.div_lt_iff_lt_mul (by omega)).mp h
  omega
theorem tm_small {a b:Nat} (hb:b ≠ 0) (h:¬ 1099511627777 / b<a):a * b≤1099511627777:=(Nat.le_div_iff_mul_le (by omega)).mp (by omega)
set_option maxRecDepth 10000 in
set_option maxHeartbeats 4000000 in
theorem coppicerref.capped_spec (a b : Nat) (ha : a ≤ 1099511627777) (hb : b ≤ 1099511627777) : Dm.Spec Try.prog 55 [iv .i64 a, iv .i64 b] (· = iv .i64 (tm a b)) := by
  refine spec_of_vc mixed Try.func55 c55 (by rw [show Try.f55.ntmps=_ from Try.ntmps55];simp) ?_
  unfold m55 r55
  by_cases hb0:b=0
  · subst hb0
    repeat' first|((first|refine Br.dec ?_ ?_|refine Br.eqi ?_ ?_)<;>intro h<;>try (exfalso;omega))|refine Z1 ?_|with_reducible exact trivial|(refine Br.mk ?_ ?_<;>intro h)|(refine BrN.mk (fun h => ?_) ?_)|(refine AltVC.mk ?_ ?_)
    all_goals exact fin_mk (by simp [tm])
  · have hq0:=@quoN b
    obtain ⟨q,hqd⟩ : ∃ q,1099511627777 / b=q:=⟨_,rfl⟩
    have hql:q≤1099511627777:=hqd ▸ Nat.div_le_self ..
    have hbig:=@tm_big a b hb0
    have hsml:=@tm_small a b hb0
    obtain ⟨m,hmd⟩ : ∃ m,a * b=m:=⟨_,rfl⟩
    have hmi:(a:Int) * (b:Int)=(m:Int):=by rw [← Int.natCast_mul,hmd]
    have htm:tm a b=min m 1099511627777:=by unfold tm;rw [hmd]
    rw [hqd] at hq0 hbig hsml
    rw [hmd] at hsml
    have hm0:a=0→m=0:=fun h=>by rw [← hmd,h,Nat.zero_mul]
    by_cases h:q<a
    · have e:=hbig h
      repeat' first|((first|refine Br.dec ?_ ?_|refine Br.eqi ?_ ?_)<;>intro h<;>try (exfalso;omega))|refine Z31 ?_|with_reducible exact trivial|(refine Br.mk ?_ ?_<;>intro h)|(refine BrN.mk (fun h => ?_) ?_)|(refine AltVC.mk ?_ ?_)
      all_goals first
        | exact fin_mk (by rw [e];rfl)
        | exact fin_mk (by rw [htm];exact viEq (by omega))
    · have hs:=hsml h
      repeat' first|((first|refine Br.dec ?_ ?_|refine Br.eqi ?_ ?_)<;>intro h<;>try (exfalso;omega))|refine Z31 ?_|with_reducible exact trivial|(refine Br.mk ?_ ?_<;>intro h)|(refine BrN.mk (fun h => ?_) ?_)|(refine AltVC.mk ?_ ?_)
      all_goals exact fin_mk (by rw [htm];exact viEq (by (try split)<;>omega))
theorem capped_cp (a b:Nat):Dm.Spec Try.prog 55 [iv .i64 (cp a),iv .i64 (cp b)] (·=iv .i64 (cp (a * b))):=by
  have h:=coppicerref.capped_spec (cp a) (cp b) cp_le cp_le
  rwa [show tm (cp a) (cp b)=cp (a * b) from cp_mul] at h
end Go.Proofs.Ytcclchnbjpncdaa

namespace Go.Dm
def ltAll:List Nat→Nat→Prop
  | [],_=>True
  | x::r,N=>x<N∧ltAll r N
theorem ltAll_nil {N:Nat}:ltAll [] N=True:=(rfl)
theorem ltAll_cons {x N:Nat} {r:List Nat}:ltAll (x::r) N=(x<N∧ltAll r N):=(rfl)
theorem ltAll_spec {N:Nat}:∀ {l:List Nat},ltAll l N→∀ x,x ∈ l→x<N
  | y::r,h,x,hx=>by
    rcases List.mem_cons.1 hx with rfl|hx
    · exact h.1
    · exact ltAll_spec h.2 x hx
def lentM (s:S) (ι:List Nat):List Nat→List Ob→Prop
  | [],_=>True
  | _,[]=>True
  | x::r,ob::q=>s.M x=some (ob.ren (iotaO ι s.N))∧lentM s ι r q
theorem lentM_nil {s:S} {ι:List Nat} {q:List Ob}:lentM s ι [] q=True:=(rfl)
theorem lentM_cons {s:S} {ι:List Nat} {x:Nat} {r:List Nat} {ob:Ob} {q:List Ob}:lentM s ι (x::r) (ob::q)=(s.M x=some (ob.ren (iotaO ι s.N))∧lentM s ι r q):=(rfl)
theorem lentM_spec {s:S} {ι:List Nat}:∀ {l:List Nat} {q:List Ob},l.length=q.length→lentM s ι l q→∀ k ob,q[k]?=some ob→s.M (l.getD k 0)=some (ob.ren (iotaO ι s.N))
  | [],[],_,_,k,ob,h=>by simp at h
  | [],_::_,hl,_,_,_,_=>by simp at hl
  | _::_,[],hl,_,_,_,_=>by simp at hl
  | x::r,o::q,hl,hm,k,ob,h=>by
    cases k with
    | zero=>simp at h;subst h;exact hm.1
    | succ k=>simpa using lentM_spec (by simpa using hl) hm.2 k ob (by simpa using h)
theorem CallVC.lendE {P:Program} {f:FuncId} {views raws:List D} {own:Bool} {s:S} {d:Option Nat} {K:S→Prop} (ι:List Nat) (ds:List D) (obs:List Ob) {R:D→List (Option Ob)→Prop} (h:SpecH P f ds obs R) (hn:ι.Nodup) (hl:ι.length=obs.length)
    (hq:ltAll ι s.N∧raws=ds.map (D.ren (iotaO ι s.N))∧lentM s ι ι obs) (hk:∀ r l,R r l→K ((s.after ι l).put d (r.ren (iotaO ι s.N)))):CallV P f views own raws s d K :=
  CallVC.lend ι ds obs h hn (ltAll_spec hq.1) hl hq.2.1 (lentM_spec hl hq.2.2) hk
def vle0:=And.intro @ltAll_nil<|And.intro @ltAll_cons<|And.intro @lentM_nil @lentM_cons
end Go.Dm

namespace Go.Dm
theorem kBldS_ii {cells:List D} {off:Nat} {k k':IntKind} {a b:Int} {go:List D→Prop}:kBldS off 2 cells go [.v (.int k a),.v (.int k' b)]=ChkD (off+2≤cells.length) (splice cells off [.v (.int k a),.v (.int k' b)]) go:=by
  rw [kBldS_n];unfold ChkD;simp [D.one,Value.one]
theorem kBldS_is {cells:List D} {off:Nat} {k:IntKind} {a:Int} {sz:Nat} {es:List (List D)} {go:List D→Prop}:kBldS off 2 cells go [.v (.int k a),.sl sz es]=ChkD (off+2≤cells.length) (splice cells off [.v (.int k a),.sl sz es]) go:=by
  rw [kBldS_n];unfold ChkD;simp [D.one,Value.one]
theorem kBldS_iiis {cells:List D} {off:Nat} {k k' k'':IntKind} {a b c:Int} {sz:Nat} {es:List (List D)} {go:List D→Prop}:kBldS off 4 cells go [.v (.int k a),.v (.int k' b),.v (.int k'' c),.sl sz es]=ChkD (off+4≤cells.length) (splice cells off [.v (.int k a),.v (.int k' b),.v (.int k'' c),.sl sz es]) go:=by
  rw [kBldS_n];unfold ChkD;simp [D.one,Value.one]
section
variable {P:Program} {s:S}
theorem fold_kill {σ τ i o : Nat} {fl : Bool} {K : S → Prop} (h : kFold σ τ i o fl K s) : ∃ s', Gho s (D.kill σ) s' ∧ K s' := by
  unfold kFold kM at h
  split at h
  · next ob hM =>
    unfold kFoldA kM at h
    split at h
    · next ob' hM' =>
      obtain ⟨⟨h1,h1',h2,h3,h4,h6,h7⟩,hk⟩:=h
      unfold kFoldC at hk
      split at hk
      · next υ sz off n hc =>
        obtain ⟨rfl,rfl,rfl,k4,k5,h5,k6⟩:=hk
        exact ⟨_,.fold s υ τ i o n fl ob ob' ⟨h1,h1'⟩ hM hM' h2 h3 h4 h5 h6 h7 hc k4 k5,k6⟩
      · next υ hc =>
        obtain ⟨rfl,k1,k2,k5,k6⟩:=hk
        exact ⟨_,.foldm s υ τ i o fl ob ob' ⟨h1,h1'⟩ hM hM' h2 h3 h4 k1 k2 h6 h7 hc k5,k6⟩
      · exact hk.elim
    · exact h.elim
  · exact h.elim
def callFd (P:Program) (f:FuncId) (d:Option Nat) (K:S→Prop) (σ:Nat) (raws:List D) (s':S):Prop:=CallVC P f d K (raws.map (D.kill σ)) s'
theorem callFd_eq {f:FuncId} {d:Option Nat} {K:S→Prop} {σ:Nat} {raws:List D}:callFd P f d K σ raws s=kD (raws.map (D.kill σ)) (kCallw P f d K s):=(rfl)
theorem nlo_id {τ i o z:Nat} {K:S→Prop} (h:kNlo τ i o z K s) : ∃ s',Gho s (fun d=>d) s'∧K s':=by
  unfold kNlo kM at h
  split at h
  · next ob hM =>
    obtain ⟨⟨h1,h2,h3,h4⟩,hk⟩:=h
    exact ⟨_,.nlo s τ i o z ob h1 hM h2 h3 h4,hk⟩
  · exact h.elim
def callNd (P:Program) (f:FuncId) (d:Option Nat) (K:S→Prop) (raws:List D) (s':S):Prop:=CallVC P f d K (raws.map fun d=>d) s'
theorem callNd_eq {f:FuncId} {d:Option Nat} {K:S→Prop} {raws:List D}:callNd P f d K raws s=kD raws (kCallw P f d K s):=by
  unfold callNd;rw [List.map_id'];rfl
theorem CallVC.nlo {f:FuncId} {d:Option Nat} {K:S→Prop} {raws views:List D} {own:Bool} (τ i o z:Nat) (h:kNlo τ i o z (callNd P f d K raws) s):CallV P f views own raws s d K:=fun _ _=>by
  obtain ⟨s',hg,hk⟩:=nlo_id h
  exact .ghost raws s _ _ hg hk
theorem CallVC.fold {f:FuncId} {d:Option Nat} {K:S→Prop} {raws views:List D} {own:Bool} (σ τ i o:Nat) (fl:Bool) (h:kFold σ τ i o fl (callFd P f d K σ raws) s):CallV P f views own raws s d K:=fun _ _=>by
  obtain ⟨s',hg,hk⟩:=fold_kill h
  exact .ghost raws s _ _ hg hk
def finHx (n0:Nat) (R:D→List (Option Ob)→Prop) (d:D) (s':S):Prop:=FinH n0 R s' d
theorem finHx_eq {n0:Nat} {R:D→List (Option Ob)→Prop} {d:D}:finHx n0 R d s=FinH n0 R s d:=(rfl)
theorem FinH.fold {n0:Nat} {R:D→List (Option Ob)→Prop} {d:D} (σ τ i o:Nat) (fl:Bool) (hd:d.kill σ=d) (h:kFold σ τ i o fl (finHx n0 R d) s):FinH n0 R s d:=by
  obtain ⟨s',hg,s'',g,l,h1,h2,h3,h4,h5⟩:=fold_kill h
  refine ⟨s'',_,l,.step _ _ _ _ _ hg h1,h2,h3,h4,?_⟩
  show R ((g (d.kill σ)).trim l.length) l
  rw [hd];exact h5
end
def vmr:=And.intro @callFd_eq<|And.intro @callNd_eq<|And.intro @finHx_eq<|And.intro @kBldS_ii<|And.intro @kBldS_is @kBldS_iiis
end Go.Dm

namespace Go.Proofs.Ytcclchnbjpncdaa
open Go.Dm
structure KE where
  r:Int
  f:Int
  i:Nat
  j:Nat
  v:Nat
deriving Inhabited
def kv (g:Grammar) (w:List Int) (r f:Int) (i j:Nat):Nat:=if r<0 then trees g w f i j else rowN g w ((g.rules.getD r.toNat default).right.drop f.toNat) i j
def MI (g:Grammar) (w:List Int) (L:List KE):Prop:=∀ e,e ∈ L→e.v=cp (kv g w e.r e.f e.i e.j)
theorem MI.nil {g:Grammar} {w:List Int}:MI g w []:=fun e h=>by cases h
theorem MI.add {g:Grammar} {w:List Int} {L:List KE} (h:MI g w L) {e:KE} (he:e.v=cp (kv g w e.r e.f e.i e.j)):MI g w (L++[e]):=fun x hx=>by
  rcases List.mem_append.mp hx with h1|h1
  · exact h x h1
  · rw [List.mem_singleton.mp h1];exact he
theorem MI.set {g:Grammar} {w:List Int} {L:List KE} (h:MI g w L) {e:KE} {r:Nat} (he:e.v=cp (kv g w e.r e.f e.i e.j)):MI g w (L.set r e):=fun x hx=>by
  rcases List.mem_or_eq_of_mem_set hx with h1|h1
  · exact h x h1
  · rw [h1];exact he
theorem nsum_succ {f:Nat→Nat} {n:Nat}:nsum f (n+1)=nsum f n+f n:=(rfl)
structure CC (g:Grammar) (w:List Int):Prop where
  v:Valid g
  p:Proper g
  w:w.length≤12
end Go.Proofs.Ytcclchnbjpncdaa

namespace Go.Dm
inductive Der (g:Grammar) (w:List Int):List Int→Nat→Nat→Prop
  | nil {i:Nat}:Der g w [] i i
  | sym {x:Int} {s:List Int} {i j:Nat} (hx:x<g.k) (hi:i<w.length) (hw:w.getD i 0=x) (h:Der g w s (i+1) j):Der g w (x::s) i j
  | name {x:Int} {s:List Int} {i m j q:Nat} (hx:¬ x<g.k) (hq:q<g.rules.length) (hl:(g.rules.getD q default).left=x - g.k) (h1:Der g w (g.rules.getD q default).right i m) (h2:Der g w s m j):Der g w (x::s) i j
theorem Der.le {g:Grammar} {w:List Int} {s:List Int} {i j:Nat} (h:Der g w s i j):i≤j∧(i≤w.length→j≤w.length):=by
  induction h with
  | nil=>exact ⟨Nat.le_refl _,fun h=>h⟩
  | sym _ hi _ _ ih=>exact ⟨by omega,fun _=>ih.2 (by omega)⟩
  | name _ _ _ _ _ ih1 ih2=>exact ⟨by omega,fun h=>ih2.2 (ih1.2 h)⟩
theorem Der.app {g:Grammar} {w:List Int} {a b:List Int} {i m j:Nat} (h:Der g w a i m) (k:Der g w b m j):Der g w (a++b) i j:=by
  induction h with
  | nil=>exact k
  | sym hx hi hw _ ih=>exact .sym hx hi hw (ih k)
  | name hx hq hl h1 _ _ ih2=>exact .name hx hq hl h1 (ih2 k)
theorem Der.cons {g:Grammar} {w:List Int} {x:Int} {s:List Int} {i j:Nat} (h:Der g w (x::s) i j) : ∃ m,Der g w [x] i m∧Der g w s m j:=by
  cases h with
  | sym hx hi hw h=>exact ⟨_,.sym hx hi hw .nil,h⟩
  | name hx hq hl h1 h2=>exact ⟨_,.name hx hq hl h1 .nil,h2⟩
theorem Der.split {g:Grammar} {w:List Int} {b:List Int}:∀ {a:List Int} {i j:Nat},Der g w (a++b) i j → ∃ m,Der g w a i m∧Der g w b m j
  | [],i,j,h=>⟨i,.nil,h⟩
  | x::a,i,j,h=>by
    obtain ⟨m,h1,h2⟩:=Der.cons (s:=a++b) h
    obtain ⟨m',h3,h4⟩:=Der.split h2
    exact ⟨m',Der.app h1 h3,h4⟩
theorem der_sym {g:Grammar} {w:List Int} {x:Int} {i j:Nat} (hx:x<g.k):Der g w [x] i j ↔ j=i+1∧i<w.length∧w.getD i 0=x:=by
  constructor
  · intro h
    cases h with
    | sym _ hi hw h=>cases h;exact ⟨rfl,hi,hw⟩
    | name h=>exact absurd hx h
  · rintro ⟨rfl,hi,hw⟩;exact .sym hx hi hw .nil
theorem der_name {g:Grammar} {w:List Int} {x:Int} {i j:Nat} (hx:¬ x<g.k):Der g w [x] i j ↔ ∃ q,q<g.rules.length∧(g.rules.getD q default).left=x - g.k∧Der g w (g.rules.getD q default).right i j:=by
  constructor
  · intro h
    cases h with
    | sym h=>exact absurd h hx
    | name _ hq hl h1 h2=>cases h2;exact ⟨_,hq,hl,h1⟩
  · rintro ⟨q,hq,hl,h⟩;exact .name hx hq hl h .nil
def oneB (g:Grammar) (w:List Int) (t:Nat→Nat→Nat→Bool) (x:Int) (i m:Nat):Bool:=if x<g.k then decide (m=i+1∧i<w.length∧w.getD i 0=x) else t (x - g.k).toNat i m
def ovB (g:Grammar) (w:List Int) (t:Nat→Nat→Nat→Bool):List Int→Nat→Nat→Bool
  | [],i,j=>decide (i=j)
  | x::s,i,j=>(List.range (j+1)).any fun m=>decide (i≤m) && oneB g w t x i m && ovB g w t s m j
theorem ovB_cons {g:Grammar} {w:List Int} {t:Nat→Nat→Nat→Bool} {x:Int} {s:List Int} {i j:Nat}:ovB g w t (x::s) i j=true ↔ ∃ m,i≤m∧m≤j∧oneB g w t x i m=true∧ovB g w t s m j=true:=by
  simp only [ovB,List.any_eq_true,List.mem_range,Bool.and_eq_true,decide_eq_true_eq]
  constructor
  · rintro ⟨m,h1,⟨h2,h3⟩,h4⟩;exact ⟨m,h2,by omega,h3,h4⟩
  · rintro ⟨m,h1,h2,h3,h4⟩;exact ⟨m,by omega,⟨h1,h3⟩,h4⟩
theorem ovB_snoc {g:Grammar} {w:List Int} {t:Nat→Nat→Nat→Bool} {x:Int}:∀ {s:List Int} {i j:Nat},ovB g w t (s++[x]) i j=true ↔ ∃ m,i≤m∧m≤j∧ovB g w t s i m=true∧oneB g w t x m j=true
  | [],i,j=>by
    rw [List.nil_append,ovB_cons]
    constructor
    · rintro ⟨m,h1,h2,h3,h4⟩
      have:m=j:=by simpa [ovB] using h4
      subst this
      exact ⟨i,Nat.le_refl _,h1,by simp [ovB],h3⟩
    · rintro ⟨m,h1,h2,h3,h4⟩
      have:i=m:=by simpa [ovB] using h3
      subst this
      exact ⟨j,h2,Nat.le_refl _,h4,by simp [ovB]⟩
  | y :: s, i, j => by
    rw [List.cons_append,ovB_cons]
    constructor
    · rintro ⟨m,h1,h2,h3,h4⟩
      obtain ⟨m',h5,h6,h7,h8⟩:=ovB_snoc.mp h4
      exact ⟨m',by omega,h6,ovB_cons.mpr ⟨m,h1,h5,h3,h7⟩,h8⟩
    · rintro ⟨m,h1,h2,h3,h4⟩
      obtain ⟨m',h5,h6,h7,h8⟩:=ovB_cons.mp h3
      exact ⟨m',h5,by omega,h7,ovB_snoc.mpr ⟨m,h6,h2,h8,h4⟩⟩
theorem ovB_sound {g:Grammar} {w:List Int} {t:Nat→Nat→Nat→Bool} (hs:∀ a i j,i≤j→t a i j=true→Der g w [g.k+a] i j):∀ {s:List Int} {i j:Nat},ovB g w t s i j=true→Der g w s i j
  | [], i, j, h => by have : i = j := by simpa [ovB] using h
                      subst this;exact .nil
  | x :: s, i, j, h => by
    obtain ⟨m,h1,h2,h3,h4⟩:=ovB_cons.mp h
    have k:=ovB_sound hs h4
    unfold oneB at h3
    split at h3
    · next hx =>
      have h5:=of_decide_eq_true h3
      exact Der.app ((der_sym hx).mpr h5) k
    · next hx =>
      have h5:=hs _ _ _ h1 h3
      rw [show g.k+((x - g.k).toNat:Int)=x by omega] at h5
      exact Der.app h5 k
theorem ovB_all {g:Grammar} {w:List Int} {t:Nat→Nat→Nat→Bool} (hc:∀ q,q<g.rules.length→∀ i j,i≤j→j≤w.length→ovB g w t (g.rules.getD q default).right i j=true→t (g.rules.getD q default).left.toNat i j=true)
    {s:List Int} {i j:Nat} (h:Der g w s i j):i≤w.length→ovB g w t s i j=true:=by
  induction h with
  | nil=>intro _;simp [ovB]
  | sym hx hi hw h ih =>
    intro _
    exact ovB_cons.mpr ⟨_,Nat.le_succ _,h.le.1,by unfold oneB;rw [if_pos hx];exact decide_eq_true ⟨rfl,hi,hw⟩,ih (by omega)⟩
  | name hx hq hl h1 h2 ih1 ih2 =>
    intro hi
    have hm:=h1.le.2 hi
    refine ovB_cons.mpr ⟨_,h1.le.1,h2.le.1,?_,ih2 hm⟩
    unfold oneB
    rw [if_neg hx,← hl]
    exact hc _ hq _ _ h1.le.1 hm (ih1 hi)
end Go.Dm

namespace Go.Proofs.Ytcclchnbjpncdaa
open Go.Dm
theorem nsum_ne {f : Nat → Nat} {n : Nat} : nsum f n ≠ 0 ↔ ∃ m, m < n ∧ f m ≠ 0 := by
  constructor
  · intro h
    rcases Classical.em (∃ m,m<n∧f m ≠ 0) with c|c
    · exact c
    · exact absurd (nsum_zero fun m hm=>by
        rcases Nat.eq_zero_or_pos (f m) with e|e
        · exact e
        · exact absurd ⟨m,hm,by omega⟩ c) h
  · rintro ⟨m,hm,hf⟩ h
    have:=nsum_le (f:=f) hm
    omega
theorem tsum_ne {f:Nat→Nat} {a b:Nat}:tsum f a b ≠ 0 ↔ ∃ m,a≤m∧m<b∧f m ≠ 0:=by
  unfold tsum
  rw [nsum_ne]
  constructor
  · rintro ⟨m,h1,h2⟩
    by_cases h:a≤m
    · rw [if_pos h] at h2;exact ⟨m,h,h1,h2⟩
    · rw [if_neg h] at h2;exact absurd rfl h2
  · rintro ⟨m,h1,h2,h3⟩
    exact ⟨m,h2,by rw [if_pos h1];exact h3⟩
theorem der_long {g:Grammar} {w:List Int} (hp:Proper g) {l:List Int} {i j:Nat} (h:Der g w l i j):i+l.length≤j:=by
  induction h with
  | nil=>exact Nat.le_refl _
  | sym _ _ _ _ ih=>simp only [List.length_cons];omega
  | @name x s i m j q hx hq hl h1 h2 ih1 ih2 =>
    have h3:(g.rules.getD q default).right ≠ []:=(hp _ (getD_mem' (l:=g.rules) (i:=q) hq)).1
    have h4:=List.length_pos_iff.2 h3
    simp only [List.length_cons];omega
theorem tr_sym {g:Grammar} {w:List Int} {x:Int} {i j:Nat} (hx:x<g.k) (hij:i≤j) (hj:j≤w.length):trees g w x i j ≠ 0 ↔ Der g w [x] i j:=by
  rw [trees_sym hx,der_sym hx]
  unfold symV
  constructor
  · intro h
    split at h
    · next c=>exact ⟨c.1,by omega,c.2⟩
    · exact absurd rfl h
  · rintro ⟨h1,_,h2⟩
    rw [if_pos ⟨h1,h2⟩];omega
theorem row_two {g:Grammar} {w:List Int} (hp:Proper g) {y z:Int} {l:List Int} {i j:Nat} (hy:∀ m,i<m→m<j→(trees g w y i m ≠ 0 ↔ Der g w [y] i m)) (hz:∀ m,i<m→m<j→(rowN g w (z::l) m j ≠ 0 ↔ Der g w (z::l) m j)) :
    rowN g w (y::z::l) i j ≠ 0 ↔ Der g w (y::z::l) i j:=by
  rw [rowN_two,tsum_ne]
  constructor
  · rintro ⟨m,h1,h2,h3⟩
    have h4:trees g w y i m ≠ 0:=fun e=>h3 (by rw [e,Nat.zero_mul])
    have h5:rowN g w (z::l) m j ≠ 0:=fun e=>h3 (by rw [e,Nat.mul_zero])
    exact Der.app (a:=[y]) ((hy m (by omega) h2).1 h4) ((hz m (by omega) h2).1 h5)
  · intro h
    obtain ⟨m,h1,h2⟩:=Der.cons h
    have e1:=der_long hp h1
    have e2:=der_long hp h2
    simp only [List.length_cons,List.length_nil] at e1 e2
    exact ⟨m,by omega,by omega,Nat.mul_ne_zero ((hy m (by omega) (by omega)).2 h1) ((hz m (by omega) (by omega)).2 h2)⟩
theorem row_of {g:Grammar} {w:List Int} (hp:Proper g) {n:Nat} (hT:∀ x i j,j - i<n→i≤j→j≤w.length→(trees g w x i j ≠ 0 ↔ Der g w [x] i j)):∀ (l:List Int),l ≠ []→∀ i j,i≤j→j≤w.length→j - i<n→(rowN g w l i j ≠ 0 ↔ Der g w l i j)
  | [],h,_,_,_,_,_=>absurd rfl h
  | [x],_,i,j,h1,h2,h3=>by rw [rowN_one];exact hT x i j h3 h1 h2
  | y::z::l,_,i,j,h1,h2,h3=>row_two hp (fun m h4 h5=>hT y i m (by omega) (by omega) (by omega)) (fun m h4 h5=>row_of hp hT (z::l) (by simp) m j (by omega) h2 (by omega))
theorem tr_all {g : Grammar} {w : List Int} (hp : Proper g) : ∀ (n : Nat) (x : Int) (i j : Nat), j - i < n → i ≤ j → j ≤ w.length → (trees g w x i j ≠ 0 ↔ Der g w [x] i j)
  | 0,_,_,_,h,_,_=>absurd h (Nat.not_lt_zero _)
  | n + 1, x, i, j, h, hij, hj => by
    have ih:=tr_all (g:=g) (w:=w) hp n
    by_cases hx:x<g.k
    · exact tr_sym hx hij hj
    · rw [trees_name hp hx,der_name hx,nsum_ne]
      refine exists_congr fun q=>and_congr_right fun hq => ?_
      have hpr:=hp _ (getD_mem' (l:=g.rules) (i:=q) hq)
      unfold ruleV
      generalize (g.rules.getD q default).left=a at *
      generalize (g.rules.getD q default).right=r at *
      have hr:rowN g w r i j ≠ 0 ↔ Der g w r i j:=by
        match r,hpr with
        | [],hpr=>exact absurd rfl hpr.1
        | [y],hpr=>rw [rowN_one];exact tr_sym (hpr.2 y rfl) hij hj
        | y::z::l,_=>exact row_two hp (fun m h4 h5=>ih y i m (by omega) (by omega) (by omega)) (fun m h4 h5=>row_of hp ih (z::l) (by simp) m j (by omega) hj (by omega))
      by_cases e:a=x - g.k
      · rw [if_pos e]
        exact ⟨fun h=>⟨e,hr.1 h⟩,fun h=>hr.2 h.2⟩
      · rw [if_neg e]
        exact ⟨fun h=>absurd rfl h,fun h=>absurd h.1 e⟩
theorem tr_der {g:Grammar} {w:List Int} (hp:Proper g) {x:Int} {i j:Nat} (hij:i≤j) (hj:j≤w.length):trees g w x i j ≠ 0 ↔ Der g w [x] i j:=tr_all hp (j - i+1) x i j (Nat.lt_succ_self _) hij hj
theorem splN_none {g:Grammar} {w:List Int} (hp:Proper g) {l:List Int} {i j:Nat} (hl:l ≠ []) (h:rowN g w l i j=0):splN g w l i j=[]:=by
  rw [splN_cut hp l i j hl,List.filter_eq_nil_iff]
  intro c hc
  have:=sumL_zero ((cut_sum l i j hl).trans h) c hc
  simp [this]
theorem splN_one {g:Grammar} {w:List Int} (hp:Proper g) {x:Int} {i j:Nat}:splN g w [x] i j=if trees g w x i j=0 then [] else [[j]]:=by
  rw [splN_cut hp [x] i j (by simp)]
  show (cutN 0 i j).filter _=_
  unfold cutN
  simp only [List.filter_cons,List.filter_nil,prT_cons,prT_nil,Nat.mul_one,decide_eq_true_eq]
  by_cases h:trees g w x i j=0
  · rw [if_neg (fun c=>c h),if_pos h]
  · rw [if_pos h,if_neg h]
def sp2 (g:Grammar) (w:List Int) (x:Int) (l:List Int) (i j n:Nat):List (List Nat):=(List.range n).flatMap fun q=>if trees g w x i (i+1+q)=0 then [] else (splN g w l (i+1+q) j).map fun r=>(i+1+q)::r
theorem sp2_succ {g:Grammar} {w:List Int} {x:Int} {l:List Int} {i j n:Nat}:sp2 g w x l i j (n+1)=sp2 g w x l i j n++(if trees g w x i (i+1+n)=0 then [] else (splN g w l (i+1+n) j).map fun r=>(i+1+n)::r):=by
  unfold sp2
  rw [List.range_succ,List.flatMap_append];simp
theorem sp2_eq {g:Grammar} {w:List Int} (hp:Proper g) {x y:Int} {l:List Int} {i j n:Nat}:splP g w x (y::l) i j n=sp2 g w x (y::l) i j n:=by
  refine flatMap_congr' fun q _ => ?_
  by_cases h:trees g w x i (i+1+q)=0
  · rw [if_pos (.inl h),if_pos h]
  · rw [if_neg h]
    by_cases h2:rowN g w (y::l) (i+1+q) j=0
    · rw [if_pos (.inr h2),splN_none hp (by simp) h2];rfl
    · rw [if_neg (fun c=>c.elim h h2)]
theorem splN_more {g:Grammar} {w:List Int} (hp:Proper g) {x y:Int} {l:List Int} {i j:Nat}:splN g w (x::y::l) i j=sp2 g w x (y::l) i j (j - (i+1)):=by
  rw [splN_cons,← sp2_eq hp]
  by_cases h:i<j
  · have h0:rowN g w (y::l) (i+1+(j - (i+1))) j=0:=by
      rw [show i+1+(j - (i+1))=j by omega]
      exact rowN_short hp (by simp)
    rw [show j - i=(j - (i+1))+1 by omega,splP_succ,if_pos (.inr h0),List.append_nil]
  · rw [show j - i=0 by omega,show j - (i+1)=0 by omega]
theorem spl_lt {g:Grammar} {w:List Int} {l:List Int} {i j:Nat} {es:List Nat} (hl:l ≠ []) (h:es ∈ splN g w l i j):i<j:=by
  match l,hl with
  | x::l,_ =>
    unfold splN at h
    obtain ⟨q,hq,_⟩:=List.mem_flatMap.1 h
    have:=List.mem_range.1 hq
    omega
theorem spl_mem {g : Grammar} {w : List Int} : ∀ {l : List Int} {i j : Nat} {es : List Nat}, es ∈ splN g w l i j → ∀ p, p ∈ wyS l i es → p.2.2 ∈ l ∧ i ≤ p.1 ∧ p.1 < p.2.1 ∧ p.2.1 ≤ j ∧ (2 ≤ l.length → p.2.1 - p.1 < j - i)
  | [],i,j,es,h,p,hp=>by simp [wyS] at hp
  | x :: l, i, j, es, h, p, hp => by
    unfold splN at h
    obtain ⟨q,hq,h2⟩:=List.mem_flatMap.1 h
    have hq:=List.mem_range.1 hq
    split at h2
    · cases h2
    · obtain ⟨r,hr,rfl⟩:=List.mem_map.1 h2
      rcases List.mem_cons.1 (show p ∈ (i,i+1+q,x)::wyS l (i+1+q) r from hp) with rfl|hp
      · refine ⟨by simp,Nat.le_refl _,by simp only;omega,by simp only;omega,fun h3 => ?_⟩
        have hl:l ≠ []:=fun e=>by subst e;simp at h3
        have:=spl_lt hl hr
        simp only;omega
      · obtain ⟨a1,a2,a3,a4,_⟩:=spl_mem hr p hp
        exact ⟨by simp [a1],by omega,a3,a4,fun _=>by omega⟩
abbrev St:=Nat × Nat × Int
def kwQ (g:Grammar) (w:List Int) (s:St) (q:Nat):List (Nat × List St):=if g.k+(g.rules.getD q default).left=s.2.2 then (splN g w (g.rules.getD q default).right s.1 s.2.1).map fun es=>(q,wyS (g.rules.getD q default).right s.1 es) else []
def kwN (g:Grammar) (w:List Int) (s:St) (n:Nat):List (Nat × List St):=(List.range n).flatMap (kwQ g w s)
def kwS (g:Grammar) (w:List Int) (s:St):List (Nat × List St):=kwN g w s g.rules.length
theorem kwN_succ {g:Grammar} {w:List Int} {s:St} {n:Nat}:kwN g w s (n+1)=kwN g w s n++kwQ g w s n:=by
  unfold kwN
  rw [List.range_succ,List.flatMap_append];simp
def muS (g:Grammar) (s:St):Nat:=2 * (s.2.1 - s.1)+(if s.2.2<g.k then 0 else 1)
structure OkS (g:Grammar) (w:List Int) (s:St):Prop where
  le:s.1≤s.2.1
  hi:s.2.1≤w.length
  ge:0≤s.2.2
  lt:s.2.2<g.k+g.n
theorem kw_mem {g:Grammar} {w:List Int} {s:St} {x:Nat × List St}:x ∈ kwS g w s ↔ ∃ q es,q<g.rules.length∧g.k+(g.rules.getD q default).left=s.2.2∧es ∈ splN g w (g.rules.getD q default).right s.1 s.2.1∧x=(q,wyS (g.rules.getD q default).right s.1 es):=by
  unfold kwS kwN
  rw [List.mem_flatMap]
  constructor
  · rintro ⟨q,hq,h⟩
    unfold kwQ at h
    split at h
    · next c =>
      obtain ⟨es,h1,rfl⟩:=List.mem_map.1 h
      exact ⟨q,es,List.mem_range.1 hq,c,h1,rfl⟩
    · cases h
  · rintro ⟨q,es,h1,h2,h3,rfl⟩
    refine ⟨q,List.mem_range.2 h1,?_⟩
    unfold kwQ
    rw [if_pos h2]
    exact List.mem_map.2 ⟨es,h3,rfl⟩
theorem kw_ok {g:Grammar} {w:List Int} (hc:CC g w) {s:St} (hs:OkS g w s) {x:Nat × List St} (hx:x ∈ kwS g w s) {p:St} (hp:p ∈ x.2):OkS g w p∧muS g p<muS g s:=by
  obtain ⟨q,es,h1,h2,h3,rfl⟩:=kw_mem.1 hx
  have hmem:=getD_mem' (l:=g.rules) (i:=q) h1
  have hpr:=hc.p _ hmem
  have hrt:=hc.v.right _ hmem
  have hlf:=hc.v.left _ hmem
  obtain ⟨a1,a2,a3,a4,a5⟩:=spl_mem h3 p hp
  have hb:=hrt _ a1
  have h6:=hs.hi
  refine ⟨⟨by omega,by omega,hb.1,hb.2⟩,?_⟩
  unfold muS
  rw [if_neg (show ¬ s.2.2<g.k by omega)]
  by_cases hl:2≤(g.rules.getD q default).right.length
  · have:=a5 hl
    split<;>omega
  · have hlen:(g.rules.getD q default).right.length=1:=by
      have:=List.length_pos_iff.2 hpr.1
      omega
    obtain ⟨y,hy⟩:=List.length_eq_one_iff.1 hlen
    have hyk:=hpr.2 y hy
    rw [hy] at a1
    have:p.2.2=y:=by simpa using a1
    rw [if_pos (by omega)]
    omega
inductive TRc (g:Grammar) (w:List Int) (r:St):St→Prop
  | root:TRc g w r r
  | step {s:St} {x:Nat × List St} {p:St} (h:TRc g w r s) (hx:x ∈ kwS g w s) (hp:p ∈ x.2):TRc g w r p
theorem TRc.trans {g:Grammar} {w:List Int} {r s p:St} (h1:TRc g w r s) (h2:TRc g w s p):TRc g w r p:=by
  induction h2 with
  | root=>exact h1
  | step _ hx hp ih=>exact .step ih hx hp
theorem TRc.ok {g:Grammar} {w:List Int} (hc:CC g w) {r s:St} (hr:OkS g w r) (h:TRc g w r s):OkS g w s:=by
  induction h with
  | root=>exact hr
  | step _ hx hp ih=>exact (kw_ok hc ih hx hp).1
def KidsIn (g:Grammar) (w:List Int) (L:List St) (s:St):Prop:=∀ x,x ∈ kwS g w s→∀ p,p ∈ x.2→p ∈ L
structure Clos (g:Grammar) (w:List Int) (r:St) (L:List St):Prop where
  nd:L.Nodup
  root:r ∈ L
  sd:∀ s,s ∈ L→TRc g w r s
  cl:∀ s,s ∈ L→KidsIn g w L s
theorem Clos.all {g:Grammar} {w:List Int} {r:St} {L:List St} (h:Clos g w r L) {s:St} (hs:TRc g w r s):s ∈ L:=by
  induction hs with
  | root=>exact h.root
  | step _ hx hp ih=>exact h.cl _ ih _ hx _ hp
theorem Clos.perm {g:Grammar} {w:List Int} {r:St} {L L':List St} (h:Clos g w r L) (h':Clos g w r L'):L.Perm L' :=
  (List.perm_ext_iff_of_nodup h.nd h'.nd).2 fun s=>⟨fun hs=>h'.all (h.sd s hs),fun hs=>h.all (h'.sd s hs)⟩
def codS (s:St):Nat:=s.2.2.toNat * 169+s.1 * 13+s.2.1
theorem codS_lt {g:Grammar} {w:List Int} (hc:CC g w) {s:St} (hs:OkS g w s):codS s<1352:=by
  have h1:=hc.v.k;have h2:=hc.v.n;have h3:=hc.w;have h4:=hs.le;have h5:=hs.hi;have h6:=hs.ge;have h7:=hs.lt
  unfold codS;omega
theorem codS_inj {g:Grammar} {w:List Int} (hc:CC g w) {s p:St} (hs:OkS g w s) (hp:OkS g w p) (h:codS s=codS p):s=p:=by
  have h3:=hc.w;have h4:=hs.le;have h5:=hs.hi;have h6:=hs.ge;have h8:=hp.le;have h9:=hp.hi;have h10:=hp.ge
  obtain ⟨a,b,x⟩:=s
  obtain ⟨a',b',x'⟩:=p
  simp only at h4 h5 h6 h8 h9 h10
  unfold codS at h
  simp only at h
  have e1:b=b':=by omega
  have e2:a=a':=by omega
  have e3:x=x':=by omega
  rw [e1,e2,e3]
theorem few_nat : ∀ (n : Nat) (l : List Nat), l.Nodup → (∀ x, x ∈ l → x < n) → l.length ≤ n
  | 0,l,_,h=>by
    cases l with
    | nil=>simp
    | cons x l=>have:=h x (by simp);omega
  | n + 1, l, hd, h => by
    by_cases e:n ∈ l
    · have:=few_nat n (l.erase n) (hd.erase n) fun x hx=>by
        have h1:=(hd.mem_erase_iff).1 hx
        have:=h x h1.2
        have:=h1.1
        omega
      rw [List.length_erase_of_mem e] at this
      omega
    · have:=few_nat n l hd fun x hx=>by
        have h1:=h x hx
        have:x ≠ n:=fun h=>e (h ▸ hx)
        omega
      omega
theorem spots_few {g:Grammar} {w:List Int} (hc:CC g w) {L:List St} (hn:L.Nodup) (ho:∀ s,s ∈ L→OkS g w s):L.length≤1352:=by
  have h1:(L.map codS).Nodup:=by
    refine List.pairwise_map.2 ((List.Pairwise.and_mem.1 hn).imp fun {a b} h => ?_)
    exact fun e=>h.2.2 (codS_inj hc (ho a h.1) (ho b h.2.1) e)
  have:=few_nat 1352 (L.map codS) h1 fun x hx=>by
    obtain ⟨s,hs,rfl⟩:=List.mem_map.1 hx
    exact codS_lt hc (ho s hs)
  simpa using this
end Go.Proofs.Ytcclchnbjpncdaa

namespace Go.Proofs.Ytcclchnbjpncdaa
open Go.RowKit Go.Dm
def cmpI (a b:Int):Int:=if a<b then -1 else if b<a then 1 else 0
def fnz:List Int→Int
  | []=>0
  | x::l=>if x ≠ 0 then x else fnz l
theorem cmpI_lt {a b:Int} (h:a<b):cmpI a b = -1:=if_pos h
theorem cmpI_gt {a b:Int} (h:b<a):cmpI a b=1:=by unfold cmpI;rw [if_neg (by omega),if_pos h]
theorem cmpI_eq {a b:Int} (h:a=b):cmpI a b=0:=by unfold cmpI;rw [if_neg (by omega),if_neg (by omega)]
theorem fnz_z {x:Int} {l:List Int} (h:x=0):fnz (x::l)=fnz l:=if_neg (by simp [h])
theorem fnz_n {x:Int} {l:List Int} (h:x ≠ 0):fnz (x::l)=x:=if_pos h
def slt (a b:St):Bool:=decide (a.1<b.1∨(a.1=b.1∧(a.2.1<b.2.1∨(a.2.1=b.2.1∧a.2.2<b.2.2))))
theorem slt_irr {a:St}:slt a a=false:=decide_eq_false (by omega)
theorem slt_trans {a b c:St} (h:slt a b=true) (k:slt b c=true):slt a c=true:=by
  have h:=of_decide_eq_true h
  have k:=of_decide_eq_true k
  exact decide_eq_true (by omega)
theorem slt_tri {a b : St} (h : a ≠ b) : slt a b = true ∨ slt b a = true := by
  by_cases h1:slt a b=true
  · exact .inl h1
  · refine .inr (decide_eq_true ?_)
    have h1:=of_decide_eq_false (by simpa using h1:slt a b=false)
    by_cases e1:a.1=b.1
    · by_cases e2:a.2.1=b.2.1
      · have e3:a.2.2 ≠ b.2.2:=fun e3=>h (by
          obtain ⟨a1,a2,a3⟩:=a
          obtain ⟨b1,b2,b3⟩:=b
          simp only at e1 e2 e3
          rw [e1,e2,e3])
        omega
      · omega
    · omega
def scmp (a b:St):Int:=fnz [cmpI a.1 b.1,cmpI a.2.1 b.2.1,cmpI a.2.2 b.2.2]
theorem scmp_lt {a b : St} : scmp a b < 0 ↔ slt a b = true := by
  unfold scmp slt
  rw [decide_eq_true_eq]
  rcases Nat.lt_trichotomy a.1 b.1 with h|h|h
  · rw [cmpI_lt (by omega),fnz_n (by decide)]
    exact ⟨fun _=>.inl h,fun _=>by decide⟩
  · rw [cmpI_eq (by omega), fnz_z rfl]
    rcases Nat.lt_trichotomy a.2.1 b.2.1 with h2|h2|h2
    · rw [cmpI_lt (by omega),fnz_n (by decide)]
      exact ⟨fun _=>.inr ⟨h,.inl h2⟩,fun _=>by decide⟩
    · rw [cmpI_eq (by omega),fnz_z rfl]
      rcases Int.lt_trichotomy a.2.2 b.2.2 with h3|h3|h3
      · rw [cmpI_lt (by omega),fnz_n (by decide)]
        exact ⟨fun _=>.inr ⟨h,.inr ⟨h2,h3⟩⟩,fun _=>by decide⟩
      · rw [cmpI_eq (by omega),fnz_z rfl]
        exact ⟨fun h=>absurd h (by decide),fun _=>by omega⟩
      · rw [cmpI_gt (by omega),fnz_n (by decide)]
        exact ⟨fun h=>absurd h (by decide),fun _=>by omega⟩
    · rw [cmpI_gt (by omega),fnz_n (by decide)]
      exact ⟨fun h=>absurd h (by decide),fun _=>by omega⟩
  · rw [cmpI_gt (by omega),fnz_n (by decide)]
    exact ⟨fun h=>absurd h (by decide),fun _=>by omega⟩
set_option maxHeartbeats 1000000 in
theorem isNaN_run (a:Int) (W:World):Calls Try.prog 53 #[.int .i64 a] W fun e w'=>e=.returned (.bool false)∧w'=W:=by
  go_enter Try.func53,Try.ntmps53
  go_wp2
  all_goals first
    | (go_ret;exact ⟨by simp,rfl⟩)
    | (go_end0;exact ⟨by simp,rfl⟩)
set_option maxRecDepth 100000 in
set_option maxHeartbeats 2000000 in
theorem ccmp_run (a b:Int) (W:World):Calls Try.prog 34 #[.int .i64 a,.int .i64 b] W fun e w'=>e=.returned (.int .i64 (cmpI a b))∧w'=W:=by
  have h1:=fun W'=>isNaN_run a W'
  have h2:=fun W'=>isNaN_run b W'
  go_enter Try.func34,Try.ntmps34
  go_wp2_with (go_at_call 53;first|(refine (h1 _).mono ?_;rintro e w' ⟨rfl,rfl⟩)|(refine (h2 _).mono ?_;rintro e w' ⟨rfl,rfl⟩))
  all_goals first
    | (go_ret;refine ⟨?_,rfl⟩;first|(simp [*,cmpI];done)|(rw [cmpI_eq (by omega)];rfl))
    | (go_end0;refine ⟨?_,rfl⟩;first|(simp [*,cmpI];done)|(rw [cmpI_eq (by omega)];rfl))
set_option maxRecDepth 100000 in
set_option maxHeartbeats 2000000 in
theorem cor_run (x y z : Int) (b : Nat) (W : World) (h0 : W.cell? ⟨b, 0, none⟩ = some (.int .i64 x)) (h1 : W.cell? ⟨b, 1, none⟩ = some (.int .i64 y)) (h2 : W.cell? ⟨b, 2, none⟩ = some (.int .i64 z)) :
    Calls Try.prog 33 #[.slice (some ⟨b,0,none⟩) 3 3] W fun e w'=>e=.returned (.int .i64 (fnz [x,y,z]))∧w'=W:=by
  go_enter Try.func33,Try.ntmps33
  go_wp2
  go_loop [8] (fun i=>i=.int .i64 0∨(i=.int .i64 1∧x=0)∨(i=.int .i64 2∧x=0∧y=0)∨(i=.int .i64 3∧x=0∧y=0∧z=0)) (fun i=>(3 - intOf i).toNat)
  case atStart=>exact .inl rfl
  case round =>
    rcases hrel with rfl|⟨rfl,e1⟩|⟨rfl,e1,e2⟩|⟨rfl,e1,e2,e3⟩
    · by_cases hx:x=0
      · go_wp2
        go_round
        case rel=>exact .inr (.inl ⟨rfl,hx⟩)
        case measure=>simp [intOf]
      · go_wp2
        go_ret
        exact ⟨by simp [fnz,hx],rfl⟩
    · by_cases hx:y=0
      · go_wp2
        go_round
        case rel=>exact .inr (.inr (.inl ⟨rfl,e1,hx⟩))
        case measure=>simp [intOf]
      · go_wp2
        go_ret
        exact ⟨by simp [fnz,hx,e1],rfl⟩
    · by_cases hx:z=0
      · go_wp2
        go_round
        case rel=>exact .inr (.inr (.inr ⟨rfl,e1,e2,hx⟩))
        case measure=>simp [intOf]
      · go_wp2
        go_ret
        exact ⟨by simp [fnz,hx,e1,e2],rfl⟩
    · go_wp2
      go_ret
      exact ⟨by simp [fnz,e1,e2,e3],rfl⟩
theorem acell {W:World} {arr:Array Value} {T:TypeId} {j:Nat} {x:Value} (h:arr[j]?=some x):(W.alloc (Obj.cells arr T)).drew.cell? ⟨W.heap.size,j,none⟩=some x:=by
  have h2:(W.alloc (Obj.cells arr T)).drew.heap[W.heap.size]?=some (Obj.cells arr T):=by
    show (W.heap.push _)[_]?=_
    rw [Array.getElem?_push,if_pos rfl]
  unfold World.cell?
  rw [h2]
  simpa using h
set_option maxRecDepth 100000 in
set_option maxHeartbeats 800000 in
theorem scmp_run0 (c:Int→Int→Int) (a1 a2 a3 b1 b2 b3 r:Int) (hc:Hid (∀ a b W',Calls Try.prog 34 #[.int .i64 a,.int .i64 b] W' fun e w'=>e=.returned (.int .i64 (c a b))∧w'=W'))
    (hor:Hid (∀ b W',W'.cell? ⟨b,0,none⟩=some (.int .i64 (c a2 b2))→W'.cell? ⟨b,1,none⟩=some (.int .i64 (c a3 b3))→W'.cell? ⟨b,2,none⟩=some (.int .i64 (c a1 b1))→Calls Try.prog 33 #[.slice (some ⟨b,0,none⟩) 3 3] W' fun e w'=>e=.returned (.int .i64 r)∧w'=W'))
    (W:World):Calls Try.prog 32 #[.agg #[.int .i64 a1,.int .i64 a2,.int .i64 a3],.agg #[.int .i64 b1,.int .i64 b2,.int .i64 b3]] W fun e w'=>e=.returned (.int .i64 r) ∧ ∃ q os',w'=Go.Sort.grow (W.drewN q) os':=by
  obtain ⟨o1,ho1⟩ : ∃ o1,o1=Obj.cells #[Value.int IntKind.i64 a1,Value.int IntKind.i64 a2,Value.int IntKind.i64 a3] 48:=⟨_,rfl⟩
  obtain ⟨o2,ho2⟩ : ∃ o2,o2=Obj.cells #[Value.int IntKind.i64 b1,Value.int IntKind.i64 b2,Value.int IntKind.i64 b3] 48:=⟨_,rfl⟩
  obtain ⟨W2,hW2⟩ : ∃ W2,W2=(W.alloc o1).alloc o2:=⟨_,rfl⟩
  obtain ⟨H,hH⟩ : ∃ H,H=W.heap.size:=⟨_,rfl⟩
  have g1:W2.heap[H]?=some o1:=by
    rw [hW2,hH]
    show ((W.heap.push o1).push o2)[_]?=_
    rw [Array.getElem?_push,if_neg (by simp),Array.getElem?_push,if_pos rfl]
  have g2:W2.heap[H+1]?=some o2:=by
    rw [hW2,hH]
    show ((W.heap.push o1).push o2)[_]?=_
    rw [Array.getElem?_push,if_pos (by simp)]
  have d1:W2.cell? ⟨H,0,none⟩=some (.int .i64 a1):=by simp [World.cell?,g1,ho1]
  have d2:W2.cell? ⟨H,1,none⟩=some (.int .i64 a2):=by simp [World.cell?,g1,ho1]
  have d3:W2.cell? ⟨H,2,none⟩=some (.int .i64 a3):=by simp [World.cell?,g1,ho1]
  have d4:W2.cell? ⟨H+1,0,none⟩=some (.int .i64 b1):=by simp [World.cell?,g2,ho2]
  have d5:W2.cell? ⟨H+1,1,none⟩=some (.int .i64 b2):=by simp [World.cell?,g2,ho2]
  have d6:W2.cell? ⟨H+1,2,none⟩=some (.int .i64 b3):=by simp [World.cell?,g2,ho2]
  have hgr:Hid (W2=Go.Sort.grow W #[o1,o2]):=by
    show W2=_
    rw [hW2,Go.Sort.alloc_eq_grow,Go.Sort.alloc_eq_grow,Go.Sort.grow_grow];rfl
  go_enter Try.func32,Try.ntmps32
  go_wp2
  rw [← ho1,← ho2,← hW2,← hH]
  clear hW2 g1 g2 ho1 ho2 hH
  go_region_held3 (fun w'=>w'.cell? ⟨H,0,none⟩=some (.int .i64 a1)∧w'.cell? ⟨H,1,none⟩=some (.int .i64 a2)∧w'.cell? ⟨H,2,none⟩=some (.int .i64 a3)
    ∧ w'.cell? ⟨H+1,0,none⟩=some (.int .i64 b1)∧w'.cell? ⟨H+1,1,none⟩=some (.int .i64 b2)∧w'.cell? ⟨H+1,2,none⟩=some (.int .i64 b3)) (go_keep)
    (first|(go_at_call 34;refine (hc.out _ _ _).mono ?_;rintro e w' ⟨rfl,rfl⟩)|(go_at_call 33;refine (hor.out _ _ ?_ ?_ ?_).mono ?_;(exact acell rfl);(exact acell rfl);(exact acell rfl);rintro e w' ⟨rfl,rfl⟩))
  go_wp2
  go_ret
  refine ⟨rfl,1,#[o1,o2,Obj.cells #[Value.int IntKind.i64 (c a2 b2),Value.int IntKind.i64 (c a3 b3),Value.int IntKind.i64 (c a1 b1)] 3],?_⟩
  rw [hgr.out]
  rw [Go.Sort.alloc_eq_grow,Go.Sort.grow_grow];rfl
theorem scmp_run (a b:St) (W:World):Calls Try.prog 32 #[.agg #[.int .i64 a.2.2,.int .i64 a.1,.int .i64 a.2.1],.agg #[.int .i64 b.2.2,.int .i64 b.1,.int .i64 b.2.1]] W fun e w'=>e=.returned (.int .i64 (scmp a b)) ∧ ∃ q os',w'=Go.Sort.grow (W.drewN q) os' :=
  scmp_run0 cmpI _ _ _ _ _ _ _ ccmp_run (fun b W' h0 h1 h2=>cor_run _ _ _ b W' h0 h1 h2) W
end Go.Proofs.Ytcclchnbjpncdaa

namespace Go.Proofs.Ytcclchnbjpncdaa
open Go.RowKit Go.Dm
def lcmp:List Int→List Int→Int
  | [],[]=>0
  | [],_::_ => -1
  | _::_,[]=>1
  | x::u,y::v=>if cmpI x y=0 then lcmp u v else cmpI x y
theorem cmpI_self {a:Int}:cmpI a a=0:=cmpI_eq rfl
theorem cmpI_zero {a b:Int} (h:cmpI a b=0):a=b:=by
  unfold cmpI at h
  split at h
  · omega
  · split at h
    · omega
    · omega
theorem lcmp_pre:∀ {k:Nat} {u v:List Int},k≤u.length→k≤v.length→(∀ j,j<k→u.getD j 0=v.getD j 0)→lcmp u v=lcmp (u.drop k) (v.drop k)
  | 0,u,v,_,_,_=>rfl
  | k+1,[],v,h,_,_=>absurd h (by simp)
  | k+1,x::u,[],_,h,_=>absurd h (by simp)
  | k+1,x::u,y::v,h1,h2,h3=>by
    have e:x=y:=by simpa using h3 0 (by omega)
    subst e
    rw [List.drop_succ_cons,List.drop_succ_cons,← lcmp_pre (k:=k) (by simpa using h1) (by simpa using h2) (fun j hj=>by simpa using h3 (j+1) (by omega))]
    show (if cmpI x x=0 then lcmp u v else cmpI x x)=_
    rw [if_pos cmpI_self]
theorem dropW {l:List Int} {k:Nat} (h:k<l.length):l.drop k=l.getD k 0::l.drop (k+1):=by
  rw [List.drop_eq_getElem_cons h];simp [List.getD,h]
theorem lcmp_ne {k:Nat} {u v:List Int} (h1:k<u.length) (h2:k<v.length) (h3:∀ j,j<k→u.getD j 0=v.getD j 0) (hr:cmpI (u.getD k 0) (v.getD k 0) ≠ 0):lcmp u v=cmpI (u.getD k 0) (v.getD k 0):=by
  rw [lcmp_pre (by omega) (by omega) h3,dropW h1,dropW h2]
  exact if_neg hr
theorem lcmp_long {u v:List Int} (h1:v.length<u.length) (h3:∀ j,j<v.length→u.getD j 0=v.getD j 0):lcmp u v=1:=by
  rw [lcmp_pre (by omega) (Nat.le_refl _) h3,List.drop_length,dropW h1];rfl
theorem lcmp_short {u v:List Int} (h1:u.length<v.length) (h3:∀ j,j<u.length→u.getD j 0=v.getD j 0):lcmp u v = -1:=by
  rw [lcmp_pre (Nat.le_refl _) (by omega) h3,List.drop_length,dropW h1];rfl
theorem lcmp_same {u v:List Int} (h1:u.length=v.length) (h3:∀ j,j<u.length→u.getD j 0=v.getD j 0):lcmp u v=0:=by
  rw [lcmp_pre (Nat.le_refl _) (by omega) h3,List.drop_length,h1,List.drop_length];rfl
set_option maxRecDepth 100000 in
set_option maxHeartbeats 2000000 in
theorem wcmp_run0 (n1 n2 : Nat) (hn1 : n1 ≤ 1000) (hn2 : n2 ≤ 1000) (U V : Nat → Int) (c : Int → Int → Int) (r : Int) (W : World) (b1 o1 c1 b2 o2 c2 : Nat) (hu : Hid (∀ j, j < n1 → W.cell? ⟨b1, o1 + j, none⟩ = some (.int .i64 (U j)))) (hv : Hid (∀ j, j < n2 → W.cell? ⟨b2, o2 + j, none⟩ = some (.int .i64 (V j))))
    (hcall:Hid (∀ a b W',Calls Try.prog 34 #[.int .i64 a,.int .i64 b] W' fun e w'=>e=.returned (.int .i64 (c a b))∧w'=W'))
    (q1:Hid (∀ k,k<n1→k<n2→(∀ j,j<k→c (U j) (V j)=0)→c (U k) (V k) ≠ 0→c (U k) (V k)=r)) (q2:Hid (n2<n1→(∀ j,j<n2→c (U j) (V j)=0)→(1:Int)=r)) (q3:Hid (n1<n2→(∀ j,j<n1→c (U j) (V j)=0)→(-1:Int)=r)) (q4:Hid (n1=n2→(∀ j,j<n1→c (U j) (V j)=0)→(0:Int)=r)) :
    Calls Try.prog 36 #[.slice (some ⟨b1,o1,none⟩) n1 c1,.slice (some ⟨b2,o2,none⟩) n2 c2] W fun e w'=>e=.returned (.int .i64 r)∧w'=W:=by
  go_enter Try.func36,Try.ntmps36
  go_wp2
  go_loop [11] (fun i => ∃ k:Nat,k≤n1∧i=.int .i64 k∧k≤n2∧Hid (∀ j,j<k→c (U j) (V j)=0)) (fun i=>n1 - (intOf i).toNat)
  case atStart=>exact ⟨0,Nat.zero_le _,rfl,Nat.zero_le _,fun j hj=>absurd hj (Nat.not_lt_zero _)⟩
  case round =>
    obtain ⟨k,hk,rfl,hk2,hp⟩:=hrel
    by_cases h1:k<n1
    · by_cases h2:k<n2
      · have e1:=hu.out k h1
        have e2:=hv.out k h2
        obtain ⟨x,hx⟩ : ∃ x,x=U k:=⟨_,rfl⟩
        obtain ⟨y,hy⟩ : ∃ y,y=V k:=⟨_,rfl⟩
        have hc:=hcall.out x y
        by_cases hr:c x y=0
        · have hp2:Hid (∀ j,j<k+1→c (U j) (V j)=0):=fun j hj=>by
            by_cases e:j=k
            · rw [e,← hx,← hy];exact hr
            · exact hp.out j (by omega)
          rw [hr] at hc
          rw [← hx] at e1;rw [← hy] at e2
          clear hx hy hr
          go_wp2_with (go_at_call 34;refine (hc _).mono ?_;rintro e w' ⟨rfl,rfl⟩)
          exact ⟨⟨k+1,by omega,by simp,by omega,hp2⟩,by simp [intOf];omega⟩
        · have hq:c x y=r:=by rw [hx,hy];exact q1.out k h1 h2 hp.out (by rw [← hx,← hy];exact hr)
          rw [hq] at hc hr
          rw [← hx] at e1;rw [← hy] at e2
          clear hx hy hq
          go_wp2_with (go_at_call 34;refine (hc _).mono ?_;rintro e w' ⟨rfl,rfl⟩)
          go_ret
          exact ⟨rfl,rfl⟩
      · have hq:=q2.out (by omega) (fun j hj=>hp.out j (by omega))
        have e1:=hu.out k h1
        clear hp q1 q2 q3 q4
        subst hq
        go_wp2
        go_ret
        exact ⟨rfl,rfl⟩
    · by_cases h2:n1<n2
      · have hq:=q3.out h2 (fun j hj=>hp.out j (by omega))
        clear hp q1 q2 q3 q4
        subst hq
        go_wp2
        go_ret
        exact ⟨rfl,rfl⟩
      · have hq:=q4.out (by omega) (fun j hj=>hp.out j (by omega))
        clear hp q1 q2 q3 q4
        subst hq
        go_wp2
        go_ret
        exact ⟨rfl,rfl⟩
theorem wcmp_run (u v:List Int) (hu1:u.length≤1000) (hv1:v.length≤1000) (W:World) (b1 o1 c1 b2 o2 c2:Nat) (hu:∀ j,j<u.length→W.cell? ⟨b1,o1+j,none⟩=some (.int .i64 (u.getD j 0))) (hv:∀ j,j<v.length→W.cell? ⟨b2,o2+j,none⟩=some (.int .i64 (v.getD j 0))) :
    Calls Try.prog 36 #[.slice (some ⟨b1,o1,none⟩) u.length c1,.slice (some ⟨b2,o2,none⟩) v.length c2] W fun e w'=>e=.returned (.int .i64 (lcmp u v))∧w'=W :=
  wcmp_run0 u.length v.length hu1 hv1 (fun j=>u.getD j 0) (fun j=>v.getD j 0) cmpI (lcmp u v) W b1 o1 c1 b2 o2 c2 hu hv ccmp_run (fun k h1 h2 h3 h4=>(lcmp_ne h1 h2 (fun j hj=>cmpI_zero (h3 j hj)) h4).symm) (fun h1 h3=>(lcmp_long h1 (fun j hj=>cmpI_zero (h3 j hj))).symm) (fun h1 h3=>(lcmp_short h1 (fun j hj=>cmpI_zero (h3 j hj))).symm) (fun h1 h3=>(lcmp_same h1 (fun j hj=>cmpI_zero (h3 j hj))).symm)
end Go.Proofs.Ytcclchnbjpncdaa

namespace Go.Proofs.Ytcclchnbjpncdaa
open Go.Shelf Go.Proofs
def sortA_ren:Go.Shelf.Ren:=⟨fun|6=>31|15=>52|14=>51|28=>67|29=>68|20=>59|21=>60|22=>61|23=>62|24=>63|25=>64|26=>65|27=>66|46=>77|47=>78|48=>79|49=>80|50=>81|57=>85|n=>n,fun|22=>82|24=>48|25=>88|3=>3|39=>107|0=>0|53=>50|55=>124|4=>4|46=>116|45=>115|50=>120|5=>5|9=>9|66=>130|70=>134|76=>138|77=>139|n=>n,fun|n=>n⟩
theorem sortA:Go.Proofs.SlLaysF0.n6 Try.prog sortA_ren where
  mixed:=by kernel_rfl
  f6:=⟨Try.f31.name,by decide,Try.func31.trans (congrArg some (by kernel_rfl))⟩
  f14:=⟨Try.f51.name,by decide,Try.func51.trans (congrArg some (by kernel_rfl))⟩
  f15:=Try.func52.trans (congrArg some (by kernel_rfl))
  f20:=⟨Try.f59.name,by decide,Try.func59.trans (congrArg some (by kernel_rfl))⟩
  f21:=⟨Try.f60.name,by decide,Try.func60.trans (congrArg some (by kernel_rfl))⟩
  f22:=⟨Try.f61.name,by decide,Try.func61.trans (congrArg some (by kernel_rfl))⟩
  f23:=⟨Try.f62.name,by decide,Try.func62.trans (congrArg some (by kernel_rfl))⟩
  f24:=⟨Try.f63.name,by decide,Try.func63.trans (congrArg some (by kernel_rfl))⟩
  f25:=⟨Try.f64.name,by decide,Try.func64.trans (congrArg some (by kernel_rfl))⟩
  f26:=⟨Try.f65.name,by decide,Try.func65.trans (congrArg some (by kernel_rfl))⟩
  f27:=⟨Try.f66.name,by decide,Try.func66.trans (congrArg some (by kernel_rfl))⟩
  f28:=Try.func67.trans (congrArg some (by kernel_rfl))
  f29:=Try.func68.trans (congrArg some (by kernel_rfl))
  f46:=⟨Try.f77.name,by decide,Try.func77.trans (congrArg some (by kernel_rfl))⟩
  f47:=Try.func78.trans (congrArg some (by kernel_rfl))
  f48:=Try.func79.trans (congrArg some (by kernel_rfl))
  f49:=⟨Try.f80.name,by decide,Try.func80.trans (congrArg some (by kernel_rfl))⟩
  f50:=⟨Try.f81.name,by decide,Try.func81.trans (congrArg some (by kernel_rfl))⟩
  f57:=⟨Try.f85.name,by decide,Try.func85.trans (congrArg some (by kernel_rfl))⟩
  t0:=Try.underlying0
  a0:=Try.isAgg0
  z0:=Try.sizeOf0
  v0:=Try.zeroValue0
  t3:=Try.underlying3
  a3:=Try.isAgg3
  z3:=Try.sizeOf3
  v3:=Try.zeroValue3
  t4:=Try.underlying4
  a4:=Try.isAgg4
  z4:=Try.sizeOf4
  v4:=Try.zeroValue4
  t5:=Try.underlying5
  a5:=Try.isAgg5
  z5:=Try.sizeOf5
  v5:=Try.zeroValue5
  t9:=Try.underlying9
  a9:=Try.isAgg9
  z9:=Try.sizeOf9
  v9:=Try.zeroValue9
  t22:=Try.underlying82
  a22:=Try.isAgg82
  z22:=Try.sizeOf82
  v22:=Try.zeroValue82
  t25:=Try.underlying88
  a25:=Try.isAgg88
  z25:=Try.sizeOf88
  v25:=Try.zeroValue88
  t39:=Try.underlying107
  a39:=Try.isAgg107
  z39:=Try.sizeOf107
  v39:=Try.zeroValue107
  t45:=Try.underlying115
  a45:=Try.isAgg115
  z45:=Try.sizeOf115
  v45:=Try.zeroValue115
  t46:=Try.underlying116
  a46:=Try.isAgg116
  z46:=Try.sizeOf116
  v46:=Try.zeroValue116
  t50:=Try.underlying120
  a50:=Try.isAgg120
  z50:=Try.sizeOf120
  v50:=Try.zeroValue120
  t53:=Try.underlying50
  a53:=Try.isAgg50
  z53:=Try.sizeOf50
  v53:=Try.zeroValue50
  t55:=Try.underlying124
  a55:=Try.isAgg124
  z55:=Try.sizeOf124
  v55:=Try.zeroValue124
  t66:=Try.underlying130
  a66:=Try.isAgg130
  z66:=Try.sizeOf130
  v66:=Try.zeroValue130
  t70:=Try.underlying134
  a70:=Try.isAgg134
  z70:=Try.sizeOf134
  v70:=Try.zeroValue134
  t76:=Try.underlying138
  a76:=Try.isAgg138
  z76:=Try.sizeOf138
  v76:=Try.zeroValue138
  t77:=Try.underlying139
  a77:=Try.isAgg139
  z77:=Try.sizeOf139
  v77:=Try.zeroValue139
def sortB_ren:Go.Shelf.Ren:=⟨fun|6=>35|15=>52|14=>54|28=>67|29=>68|20=>69|21=>70|22=>71|23=>72|24=>73|25=>74|26=>75|27=>76|46=>82|47=>78|48=>79|49=>83|50=>84|57=>86|n=>n,fun|22=>70|24=>25|25=>91|3=>3|39=>107|0=>0|53=>50|55=>124|4=>4|46=>116|45=>115|50=>120|5=>5|9=>9|66=>130|70=>134|76=>138|77=>139|n=>n,fun|n=>n⟩
theorem sortB:Go.Proofs.SlLaysF.n6 Try.prog sortB_ren where
  mixed:=by kernel_rfl
  f6:=⟨Try.f35.name,by decide,Try.func35.trans (congrArg some (by kernel_rfl))⟩
  f14:=⟨Try.f54.name,by decide,Try.func54.trans (congrArg some (by kernel_rfl))⟩
  f15:=Try.func52.trans (congrArg some (by kernel_rfl))
  f20:=⟨Try.f69.name,by decide,Try.func69.trans (congrArg some (by kernel_rfl))⟩
  f21:=⟨Try.f70.name,by decide,Try.func70.trans (congrArg some (by kernel_rfl))⟩
  f22:=⟨Try.f71.name,by decide,Try.func71.trans (congrArg some (by kernel_rfl))⟩
  f23:=⟨Try.f72.name,by decide,Try.func72.trans (congrArg some (by kernel_rfl))⟩
  f24:=⟨Try.f73.name,by decide,Try.func73.trans (congrArg some (by kernel_rfl))⟩
  f25:=⟨Try.f74.name,by decide,Try.func74.trans (congrArg some (by kernel_rfl))⟩
  f26:=⟨Try.f75.name,by decide,Try.func75.trans (congrArg some (by kernel_rfl))⟩
  f27:=⟨Try.f76.name,by decide,Try.func76.trans (congrArg some (by kernel_rfl))⟩
  f28:=Try.func67.trans (congrArg some (by kernel_rfl))
  f29:=Try.func68.trans (congrArg some (by kernel_rfl))
  f46:=⟨Try.f82.name,by decide,Try.func82.trans (congrArg some (by kernel_rfl))⟩
  f47:=Try.func78.trans (congrArg some (by kernel_rfl))
  f48:=Try.func79.trans (congrArg some (by kernel_rfl))
  f49:=⟨Try.f83.name,by decide,Try.func83.trans (congrArg some (by kernel_rfl))⟩
  f50:=⟨Try.f84.name,by decide,Try.func84.trans (congrArg some (by kernel_rfl))⟩
  f57:=⟨Try.f86.name,by decide,Try.func86.trans (congrArg some (by kernel_rfl))⟩
  t0:=Try.underlying0
  a0:=Try.isAgg0
  z0:=Try.sizeOf0
  v0:=Try.zeroValue0
  t3:=Try.underlying3
  a3:=Try.isAgg3
  z3:=Try.sizeOf3
  v3:=Try.zeroValue3
  t4:=Try.underlying4
  a4:=Try.isAgg4
  z4:=Try.sizeOf4
  v4:=Try.zeroValue4
  t5:=Try.underlying5
  a5:=Try.isAgg5
  z5:=Try.sizeOf5
  v5:=Try.zeroValue5
  t9:=Try.underlying9
  a9:=Try.isAgg9
  z9:=Try.sizeOf9
  v9:=Try.zeroValue9
  t22:=Try.underlying70
  a22:=Try.isAgg70
  z22:=Try.sizeOf70
  v22:=Try.zeroValue70
  a24:=Try.isAgg25
  z24:=Try.sizeOf25
  t25:=Try.underlying91
  a25:=Try.isAgg91
  z25:=Try.sizeOf91
  v25:=Try.zeroValue91
  t39:=Try.underlying107
  a39:=Try.isAgg107
  z39:=Try.sizeOf107
  v39:=Try.zeroValue107
  t45:=Try.underlying115
  a45:=Try.isAgg115
  z45:=Try.sizeOf115
  v45:=Try.zeroValue115
  t46:=Try.underlying116
  a46:=Try.isAgg116
  z46:=Try.sizeOf116
  v46:=Try.zeroValue116
  t50:=Try.underlying120
  a50:=Try.isAgg120
  z50:=Try.sizeOf120
  v50:=Try.zeroValue120
  t53:=Try.underlying50
  a53:=Try.isAgg50
  z53:=Try.sizeOf50
  v53:=Try.zeroValue50
  t55:=Try.underlying124
  a55:=Try.isAgg124
  z55:=Try.sizeOf124
  v55:=Try.zeroValue124
  t66:=Try.underlying130
  a66:=Try.isAgg130
  z66:=Try.sizeOf130
  v66:=Try.zeroValue130
  t70:=Try.underlying134
  a70:=Try.isAgg134
  z70:=Try.sizeOf134
  v70:=Try.zeroValue134
  t76:=Try.underlying138
  a76:=Try.isAgg138
  z76:=Try.sizeOf138
  v76:=Try.zeroValue138
  t77:=Try.underlying139
  a77:=Try.isAgg139
  z77:=Try.sizeOf139
  v77:=Try.zeroValue139
end Go.Proofs.Ytcclchnbjpncdaa
