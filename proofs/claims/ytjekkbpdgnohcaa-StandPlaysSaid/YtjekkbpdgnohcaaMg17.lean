/-
 Texts of this claim, one behind another.
-/
import Derived.Test.YtjekkbpdgnohcaaMg13
import Derived.Test.YtjekkbpdgnohcaaMg14
import Derived.Test.YtjekkbpdgnohcaaCuts
set_option linter.unusedSimpArgs false
set_option linter.unnecessarySimpa false
set_option linter.unusedVariables false
set_option linter.defProp false
namespace Go.Proofs.Ytjekkbpdgnohcaa
open Go.Dm
def nI (l:List Nat):List Int:=l.map fun i:Nat=>(i:Int)
theorem nI_len {l:List Nat}:(nI l).length=l.length:=by simp [nI]
theorem nI_get {l:List Nat} {i:Nat} (h:i<l.length):(nI l).getD i 0=((l.getD i 0:Nat):Int):=by simp [nI,List.getD,h]
theorem cutL_N:∀ (n i j:Nat),cutL n i j=(cutN n i j).map nI
  | 0,i,j=>by simp [cutL,cutN,nI]
  | n+1,i,j=>by
    unfold cutL cutN
    rw [List.map_flatMap]
    congr 1
    funext q
    rw [cutL_N n,List.map_map,List.map_map]
    rfl
theorem cutRows_len {n i j:Nat}:(cutRows n i j).length=(cutN n i j).length:=by simp [cutRows,cutL_N]
theorem cutRows_get {n i j c:Nat} (h:c<(cutN n i j).length):(cutRows n i j).getD c []=[.sl 1 (i64s (nI ((cutN n i j).getD c [])))]:=by
  simp [cutRows,cutL_N,List.getD,h]
def stA (i:Nat) (es:List Nat) (k:Nat):Nat:=if k=0 then i else es.getD (k - 1) 0
def rgs:Nat→List Nat→List (Nat × Nat)
  | _,[]=>[]
  | i,e::es=>(i,e)::rgs e es
theorem rgs_len:∀ {es:List Nat} {i:Nat},(rgs i es).length=es.length
  | [],_=>rfl
  | e::es,i=>by simp [rgs,rgs_len]
theorem stA_cons {i e:Nat} {es:List Nat} {k:Nat}:stA i (e::es) (k+1)=stA e es k:=by
  unfold stA
  rw [if_neg (by omega),Nat.add_sub_cancel]
  cases k with
  | zero=>rfl
  | succ k=>rw [if_neg (by omega)];rfl
theorem rgs_take:∀ {es:List Nat} {i k:Nat},k<es.length→rgs i (es.take (k+1))=rgs i (es.take k)++[(stA i es k,es.getD k 0)]
  | [],i,k,h=>absurd h (Nat.not_lt_zero _)
  | e::es,i,0,h=>by simp [rgs,stA]
  | e::es,i,k+1,h=>by
    rw [List.take_succ_cons,List.take_succ_cons,rgs,rgs,rgs_take (by simpa using h),stA_cons]
    rfl
theorem rgs_get:∀ {es:List Nat} {i k:Nat},k<es.length→(rgs i es).getD k default=(stA i es k,es.getD k 0)
  | [],i,k,h=>absurd h (Nat.not_lt_zero _)
  | e::es,i,0,h=>by simp [rgs,stA]
  | e::es,i,k+1,h=>by
    rw [rgs,List.getD_cons_succ,rgs_get (by simpa using h),stA_cons];rfl
theorem rgs_drop:∀ {es:List Nat} {i k:Nat},k≤es.length→(rgs i es).drop k=rgs (stA i es k) (es.drop k)
  | es,i,0,_=>by simp [stA]
  | [],i,k+1,h=>by simp at h
  | e::es,i,k+1,h=>by
    rw [rgs,List.drop_succ_cons,List.drop_succ_cons,rgs_drop (by simpa using h),stA_cons]
theorem prT_take {g:Grammar} {w:List Int}:∀ {l:List Int} {es:List Nat} {i k:Nat},k<l.length→k<es.length→prT g w (l.take (k+1)) i es=prT g w (l.take k) i es * trees g w (l.getD k 0) (stA i es k) (es.getD k 0)
  | [],es,i,k,h,_=>absurd h (Nat.not_lt_zero _)
  | x::l,[],i,k,_,h=>absurd h (Nat.not_lt_zero _)
  | x::l,e::es,i,0,_,_=>by simp [prT,stA]
  | x::l,e::es,i,k+1,h1,h2=>by
    rw [List.take_succ_cons,List.take_succ_cons,prT_cons,prT_cons,prT_take (by simpa using h1) (by simpa using h2),stA_cons,Nat.mul_assoc]
    rfl
def Mono:Nat→List Nat→Nat→Prop
  | _,[],_=>True
  | i,e::es,j=>i≤e∧e≤j∧Mono e es j
theorem Mono.get:∀ {es:List Nat} {i j k:Nat},Mono i es j→k<es.length→stA i es k≤es.getD k 0∧es.getD k 0≤j
  | [],i,j,k,_,h=>absurd h (Nat.not_lt_zero _)
  | e::es,i,j,0,h,_=>⟨h.1,h.2.1⟩
  | e::es,i,j,k+1,h,hk=>by
    rw [stA_cons];exact h.2.2.get (by simpa using hk)
theorem Mono.drop:∀ {es:List Nat} {i j k:Nat},Mono i es j→k≤es.length→Mono (stA i es k) (es.drop k) j
  | es,i,j,0,h,_=>by simpa [stA] using h
  | [],i,j,k+1,h,hk=>by simp at hk
  | e::es,i,j,k+1,h,hk=>by
    rw [stA_cons];exact h.2.2.drop (by simpa using hk)
theorem cutN_mono:∀ {n i j:Nat} {c:List Nat},i≤j→c ∈ cutN n i j→Mono i c j
  | 0,i,j,c,h,hc=>by simp [cutN] at hc;subst hc;exact ⟨h,Nat.le_refl _,trivial⟩
  | n+1,i,j,c,h,hc=>by
    simp only [cutN,List.mem_flatMap,List.mem_map,List.mem_range] at hc
    obtain ⟨q,hq,r,hr,rfl⟩:=hc
    exact ⟨by omega,by omega,cutN_mono (by omega) hr⟩
theorem cutN_short : ∀ {n i j : Nat} {c : List Nat}, c ∈ cutN n i j → ∀ k, k < c.length → 0 < n → c.getD k 0 - stA i c k < j - i
  | 0,i,j,c,hc,k,hk,h=>by omega
  | n + 1, i, j, c, hc, k, hk, _ => by
    simp only [cutN,List.mem_flatMap,List.mem_map,List.mem_range] at hc
    obtain ⟨q,hq,r,hr,rfl⟩:=hc
    cases k with
    | zero=>simp [stA];omega
    | succ k =>
      have hm:=cutN_mono (show i+1+q≤j by omega) hr
      rw [stA_cons]
      have hk':k<r.length:=by simpa using hk
      have h1:=hm.get hk'
      show r.getD k 0 - _<_
      have h2 : i + 1 + q ≤ stA (i + 1 + q) r k := by
        cases k with
        | zero=>simp [stA]
        | succ k =>
          have:∀ {es:List Nat} {a b k:Nat},Mono a es b→k<es.length→a≤es.getD k 0:=by
            intro es
            induction es with
            | nil=>intro a b k _ h;exact absurd h (Nat.not_lt_zero _)
            | cons e es ih =>
              intro a b k h hk
              cases k with
              | zero=>exact h.1
              | succ k=>exact Nat.le_trans h.1 (ih h.2.2 (by simpa using hk))
          unfold stA
          rw [if_neg (by omega),Nat.add_sub_cancel]
          exact this hm (by omega)
      omega
def rgD (p:Nat × Nat):List D:=[iv .i64 p.1,iv .i64 p.2]
theorem rg_app {l:List (Nat × Nat)} {a b:Nat}:tbl rgD l++[[D.v (.int .i64 a),D.v (.int .i64 b)]]=tbl rgD (l++[(a,b)]):=by rw [tbl_app];rfl
theorem rgD_mk {a b:Nat}:rgD (a,b)=[D.v (.int .i64 a),D.v (.int .i64 b)]:=(rfl)
def vmy:=And.intro vke<|And.intro @nI_len<|And.intro @nI_get<|And.intro @rg_app<|And.intro @rgs_len @rgD_mk
set_option maxRecDepth 10000 in
set_option maxHeartbeats 4000000 in
theorem ranges_spec (i:Nat) (es:List Nat) (hi:i≤1000) (hl:es.length≤1000) (hm:∀ e,e ∈ es→e≤1000):Dm.Spec Try.prog 47 [iv .i64 i,.sl 1 (i64s (nI es))] (·=.sl 2 (tbl rgD (rgs i es))):=by
  refine spec_of_vc mixed Try.func47 c47 (by rw [show Try.f47.ntmps=_ from Try.ntmps47];simp) ?_
  unfold m47 r47
  have hnl:=@nI_len es
  repeat' first|((first|refine Br.dec ?_ ?_|refine Br.eqi ?_ ?_)<;>intro h<;>try (exfalso;omega))|refine Z0 ?_|with_reducible exact trivial|(refine Br.mk ?_ ?_<;>intro h)|(refine BrN.mk (fun h => ?_) ?_)|(refine AltVC.mk ?_ ?_)
  refine LoopVC.mk (X:=Nat) (fun k=>[(5,.ref 1 2 0 k),(0,iv .i64 (stA i es k)),(10,iv .i64 k)]) (fun k=>[(1,⟨2,tbl rgD (rgs i (es.take k)),true,false,.arr⟩)]) (fun k=>es.length - k) (fun k=>k≤es.length) 0 (Nat.zero_le _) ?_ ?_
  · simp only [List.take_zero]
    (simp (disch:=first|omega|(simp only [vlen];first|done|omega)) only [Fits_u,Fits_m,Fits_nil,List.length_append,vmy,↓vAq,vBq,↓reduceIte,Nat.reduceBEq,Nat.reduceEqDiff,Nat.reduceLT,Nat.reduceLeDiff,Nat.reduceAdd,Nat.reduceMul,Nat.reduceSub,reduceCtorEq,Int.reduceToNat]<;>(repeat' first|rfl|apply And.intro))
    all_goals first|rfl|trace_state
  · intro k hk
    have hkl:(rgs i (es.take k)).length=k:=by rw [rgs_len,List.length_take];omega
    by_cases hke:k<es.length
    · have hr:=@rgs_take es i k hke
      have hst:stA i es (k+1)=es.getD k 0:=by unfold stA;rw [if_neg (by omega),Nat.add_sub_cancel]
      repeat' first|((first|refine Br.dec ?_ ?_|refine Br.eqi ?_ ?_)<;>intro h<;>try (exfalso;omega))|refine Z0 ?_|with_reducible exact trivial|(refine Br.mk ?_ ?_<;>intro h)|(refine BrN.mk (fun h => ?_) ?_)|(refine AltVC.mk ?_ ?_)
      refine loopK.mk (k+1) Y0 (by omega) (by omega) ?_
      simp only [hr,hst]
      (simp (disch:=first|omega|(simp only [vlen];first|done|omega)) only [Fits_u,Fits_m,Fits_nil,List.length_append,vmy,↓vAq,vBq,↓reduceIte,Nat.reduceBEq,Nat.reduceEqDiff,Nat.reduceLT,Nat.reduceLeDiff,Nat.reduceAdd,Nat.reduceMul,Nat.reduceSub,reduceCtorEq,Int.reduceToNat]<;>(repeat' first|rfl|apply And.intro))
    · have e:k=es.length:=by omega
      subst e
      rw [List.take_length] at hkl ⊢
      repeat' first|((first|refine Br.dec ?_ ?_|refine Br.eqi ?_ ?_)<;>intro h<;>try (exfalso;omega))|refine Z0 ?_|with_reducible exact trivial|(refine Br.mk ?_ ?_<;>intro h)|(refine BrN.mk (fun h => ?_) ?_)|(refine AltVC.mk ?_ ?_)
      exact fin_mk rfl
def myO (g:Grammar) (w:List Int) (L:List KE):List (Nat × Ob):=[(0,⟨6,[[iv .i64 g.k,iv .i64 g.n,iv .i64 g.start,.sl 2 (tbl rulD g.rules),.sl 1 (i64s w),.mp 1]],false,false,.fix⟩),(1,⟨5,tbl keD L,true,false,.map [.i64,.i64,.i64,.i64] true false⟩)]
set_option maxRecDepth 10000 in
set_option maxHeartbeats 4000000 in
theorem many_spec (g:Grammar) (w:List Int) (hc:CC g w) (l:List Int) (i j:Nat) (es:List Nat) (hl:l.length=es.length) (hl2:l.length≤1000) (hs:∀ x,x ∈ l→0≤x∧x<g.k+g.n) (hm:Mono i es j) (hj:j≤w.length) (L:List KE) (hL:MI g w L):Dm.SpecH Try.prog 48 [.ptr 0 6 0 0,.sl 1 (i64s l),.sl 2 (tbl rgD (rgs i es))] (coO g w L) (coR g w (prT g w l i es)):=by
  refine specH_of_vc mixed Try.func48 c48 (by rw [show Try.f48.ntmps=_ from Try.ntmps48];simp) ?_
  unfold m48 r48
  have hw:=hc.w
  have hrl:(rgs i es).length=l.length:=by rw [rgs_len,hl]
  unfold coO
  repeat' first|((first|refine Br.dec ?_ ?_|refine Br.eqi ?_ ?_)<;>intro h<;>try (exfalso;omega))|refine Z0 ?_|with_reducible exact trivial|(refine Br.mk ?_ ?_<;>intro h)|(refine BrN.mk (fun h => ?_) ?_)|(refine AltVC.mk ?_ ?_)
  refine LoopVC.mk (X:=Nat × List KE) (fun x=>[(7,iv .i64 (cp (prT g w (l.take x.1) i es))),(12,iv .i64 x.1)]) (fun x=>myO g w x.2) (fun x=>l.length - x.1) (fun x=>x.1≤l.length∧MI g w x.2) (0,L) ⟨Nat.zero_le _,hL⟩ ?_ ?_
  · unfold myO
    simp only [List.take_zero,prT_nil]
    (simp (disch:=first|omega|(simp only [vlen];first|done|omega)) only [Fits_u,Fits_m,Fits_nil,List.length_append,vmy,↓vAq,vBq,↓reduceIte,Nat.reduceBEq,Nat.reduceEqDiff,Nat.reduceLT,Nat.reduceLeDiff,Nat.reduceAdd,Nat.reduceMul,Nat.reduceSub,reduceCtorEq,Int.reduceToNat]<;>(repeat' first|rfl|apply And.intro))
    all_goals first|rfl|trace_state
  · rintro ⟨k,Lx⟩ ⟨hk,hLx⟩
    simp only at hk hLx ⊢
    unfold myO
    by_cases hkl:k<l.length
    · have hp:=@prT_take g w l es i k hkl (by omega)
      have hx:=hs _ (getD_mem (l:=l) (i:=k) (d:=0) hkl)
      have hg:=hm.get (k:=k) (by omega)
      have hr:=@rgs_get es i k (by omega)
      repeat' first|((first|refine Br.dec ?_ ?_|refine Br.eqi ?_ ?_)<;>intro h<;>try (exfalso;omega))|(simp (disch:=first|omega|(simp only [vlen];first|done|omega)) only [vmy,hr,↓vAq,vBq,↓reduceIte,Nat.reduceBEq,Nat.reduceEqDiff,Nat.reduceLT,Nat.reduceLeDiff,Nat.reduceAdd,Nat.reduceMul,Nat.reduceSub,reduceCtorEq,Int.reduceToNat])|(refine Br.mk ?_ ?_<;>intro h)|(refine BrN.mk (fun h => ?_) ?_)|(refine AltVC.mk ?_ ?_)
      refine CallVC.lendE [0,1] [.ptr 0 6 0 0,iv .i64 (l.getD k 0),.ag [iv .i64 (stA i es k),iv .i64 (es.getD k 0)]] (coO g w Lx) (sign_spec g w hc _ _ _ hx.1 hx.2 hg.1 (by omega) Lx hLx) (by simp) (by rfl) Y2 ?_
      rintro _ _ ⟨L2,rfl,rfl,hL2⟩
      unfold coO
      repeat' first|((first|refine Br.dec ?_ ?_|refine Br.eqi ?_ ?_)<;>intro h<;>try (exfalso;omega))|refine Z0 ?_|with_reducible exact trivial|(refine Br.mk ?_ ?_<;>intro h)|(refine BrN.mk (fun h => ?_) ?_)|(refine AltVC.mk ?_ ?_)
      refine CallVC.eq (times_cp _ _) ?_
      repeat' first|((first|refine Br.dec ?_ ?_|refine Br.eqi ?_ ?_)<;>intro h<;>try (exfalso;omega))|refine Z0 ?_|with_reducible exact trivial|(refine Br.mk ?_ ?_<;>intro h)|(refine BrN.mk (fun h => ?_) ?_)|(refine AltVC.mk ?_ ?_)
      refine loopK.mk (k+1,L2) Y0 ⟨by show k+1≤l.length;omega,hL2⟩ (by show l.length - (k+1)<l.length - k;omega) ?_
      simp only [hp]
      (simp (disch:=first|omega|(simp only [vlen];first|done|omega)) only [Fits_u,Fits_m,Fits_nil,List.length_append,vmy,↓vAq,vBq,↓reduceIte,Nat.reduceBEq,Nat.reduceEqDiff,Nat.reduceLT,Nat.reduceLeDiff,Nat.reduceAdd,Nat.reduceMul,Nat.reduceSub,reduceCtorEq,Int.reduceToNat]<;>(repeat' first|rfl|apply And.intro))
      all_goals first|rfl|trace_state
    · have e:l.take k=l:=List.take_of_length_le (by omega)
      rw [e]
      repeat' first|((first|refine Br.dec ?_ ?_|refine Br.eqi ?_ ?_)<;>intro h<;>try (exfalso;omega))|refine Z0 ?_|with_reducible exact trivial|(refine Br.mk ?_ ?_<;>intro h)|(refine BrN.mk (fun h => ?_) ?_)|(refine AltVC.mk ?_ ?_)
      exact ctr_fin (L:=Lx) Y12 Y16 rfl hLx
end Go.Proofs.Ytjekkbpdgnohcaa

namespace Go.Proofs.Ytjekkbpdgnohcaa
open Go.Dm
theorem FinH_frz {n0:Nat} {R:D→List (Option Ob)→Prop} {s:S} {d:D} {τ:Nat} {ob:Ob} (hN:τ<s.N) (hM:s.M τ=some ob) (hf:ob.flat=true) (hk:ob.kd.isMap=false) (h:FinH n0 R (s.frz τ ob) (d.frz τ ob)):FinH n0 R s d:=by
  obtain ⟨s',g,l,h1,h2,h3,h4,h5⟩:=h
  exact ⟨s',_,l,.step _ _ _ _ _ (.frz s τ ob hN hM hf hk) h1,h2,h3,h4,h5⟩
set_option maxRecDepth 10000 in
set_option maxHeartbeats 4000000 in
theorem cutsC_spec (n i j:Nat):Dm.Spec Try.prog 46 [iv .i64 n,.ag [iv .i64 i,iv .i64 j]] (·=.clo cutF [.ip [iv .i64 n] 0,.ip [iv .i64 i,iv .i64 j] 0]):=by
  refine spec_of_vc mixed Try.func46 c46 (by rw [show Try.f46.ntmps=_ from Try.ntmps46];simp) ?_
  unfold m46 r46
  repeat' first|((first|refine Br.dec ?_ ?_|refine Br.eqi ?_ ?_)<;>intro h<;>try (exfalso;omega))|refine Z0 ?_|with_reducible exact trivial|(refine Br.mk ?_ ?_<;>intro h)|(refine BrN.mk (fun h => ?_) ?_)|(refine AltVC.mk ?_ ?_)
  refine fin_frz 0 ?_
  repeat' first|((first|refine Br.dec ?_ ?_|refine Br.eqi ?_ ?_)<;>intro h<;>try (exfalso;omega))|refine Z0 ?_|with_reducible exact trivial|(refine Br.mk ?_ ?_<;>intro h)|(refine BrN.mk (fun h => ?_) ?_)|(refine AltVC.mk ?_ ?_)
  refine fin_frz 1 ?_
  repeat' first|((first|refine Br.dec ?_ ?_|refine Br.eqi ?_ ?_)<;>intro h<;>try (exfalso;omega))|refine Z0 ?_|with_reducible exact trivial|(refine Br.mk ?_ ?_<;>intro h)|(refine BrN.mk (fun h => ?_) ?_)|(refine AltVC.mk ?_ ?_)
  exact fin_mk rfl
theorem dropC {α:Type} {l:List α} {m:Nat} {d:α} (h:m<l.length):l.drop m=l.getD m d::l.drop (m+1):=by
  rw [List.drop_eq_getElem_cons h];simp [List.getD,h]
theorem last_stA {i e:Nat}:∀ {es:List Nat},es.getLast?=some e→stA i es es.length=e:=fun {es} h=>by
  have hne:es ≠ []:=fun e0=>by rw [e0] at h;cases h
  have hl:=List.length_pos_iff.2 hne
  rw [List.getLast?_eq_getElem?] at h
  unfold stA
  rw [if_neg (by omega),List.getD_eq_getElem?_getD,h];rfl
theorem tk_steps {g : Grammar} {w : List Int} (hp : Proper g) {l : List Int} {i : Nat} {es : List Nat} {st : List Int} {K : Nat} (h : Tk g w l i es st K) : st.length + l.length + 2 * i ≤ 2 * stA i es es.length := by
  induction h with
  | nil=>simp [stA]
  | @sym x l i es st K hx hw h ih =>
    rw [List.length_cons,List.length_cons,stA_cons];omega
  | @name x l i e es q c s1 s2 K1 K2 hx hq hc h1 h2 ih1 ih2 =>
    have hm:=getD_cut hc
    rw [last_stA (cutN_last hm)] at ih1
    have hne:=hp _ (getD_mem' (l:=g.rules) (i:=q) (rule_lt hq))
    have hl:=List.length_pos_iff.2 hne.1
    rw [show (e::es).length=es.length+1 from rfl,stA_cons,List.length_cons,List.cons_append,List.length_cons,List.length_append]
    by_cases h3:(g.rules.getD q default).right.length=1
    · have h4:s1=[]:=by
        match hr:(g.rules.getD q default).right,h3 with
        | [s],_ =>
          rw [hr] at h1
          have hs:=hne.2 s hr
          generalize (cutN ([s].length - 1) i e).getD c []=own at h1
          cases h1 with
          | sym _ _ h5=>cases h5;rfl
          | name h5=>exact absurd hs h5
      subst h4
      simp only [List.length_nil] at ih1 ⊢
      omega
    · omega
def nthR (g:Grammar) (w:List Int) (x:Int) (i j r:Nat) (d:D) (o:List (Option Ob)):Prop := ∃ st L,Tk g w [x] i [j] st r∧(d=.sl 1 (i64s st)∨(d=.nl∧st=[]))∧o=(coO g w L).map some∧MI g w L
def nthP (g:Grammar) (w:List Int) (x:Int) (i j:Nat):Prop:=∀ r,r<trees g w x i j→∀ L,MI g w L→Dm.SpecH Try.prog 26 [.ptr 0 6 0 0,iv .i64 x,.ag [iv .i64 i,iv .i64 j],iv .i64 r] (coO g w L) (nthR g w x i j r)
theorem sym_tree {g:Grammar} {w:List Int} {x:Int} {i j r:Nat} (hx:x<g.k) (hr:r<trees g w x i j):r=0∧j=i+1∧w.getD i 0=x:=by
  rw [trees_sym hx] at hr
  unfold symV at hr
  split at hr
  · next h=>exact ⟨by omega,h⟩
  · omega
set_option maxRecDepth 10000 in
set_option maxHeartbeats 4000000 in
theorem nthS_spec (g:Grammar) (w:List Int) (hc:CC g w) (x:Int) (hx:x<g.k) (i j r:Nat) (hr:r<trees g w x i j) (L:List KE) (hL:MI g w L):Dm.SpecH Try.prog 26 [.ptr 0 6 0 0,iv .i64 x,.ag [iv .i64 i,iv .i64 j],iv .i64 r] (coO g w L) (nthR g w x i j r):=by
  refine specH_of_vc mixed Try.func26 c26 (by rw [show Try.f26.ntmps=_ from Try.ntmps26];simp) ?_
  unfold m26 r26
  obtain ⟨h1,h2,h3⟩:=sym_tree hx hr
  have hT:Tk g w [x] i [j] [] r:=by subst h1 h2;exact .sym hx h3 (.nil _)
  unfold coO
  repeat' first|((first|refine Br.dec ?_ ?_|refine Br.eqi ?_ ?_)<;>intro h<;>try (exfalso;omega))|refine Z0 ?_|with_reducible exact trivial|(refine Br.mk ?_ ?_<;>intro h)|(refine BrN.mk (fun h => ?_) ?_)|(refine AltVC.mk ?_ ?_)
  exact finH_mk ((coO g w L).map some) (by simp [coO]) Y26 Y16 ⟨[],L,hT,.inr ⟨by simp (disch:=first|omega|(simp only [vlen];first|done|omega)) only [vmy,↓vAq,vBq,↓reduceIte,Nat.reduceBEq,Nat.reduceEqDiff,Nat.reduceLT,Nat.reduceLeDiff,Nat.reduceAdd,Nat.reduceMul,Nat.reduceSub,reduceCtorEq,Int.reduceToNat],rfl⟩,rfl,hL⟩
def nlO (g:Grammar) (w:List Int) (L:List KE) (i j r:Nat):List (Nat × Ob):=[(0,⟨6,[[iv .i64 g.k,iv .i64 g.n,iv .i64 g.start,.sl 2 (tbl rulD g.rules),.sl 1 (i64s w),.mp 1]],false,false,.fix⟩),(1,⟨5,tbl keD L,true,false,.map [.i64,.i64,.i64,.i64] true false⟩),
  (2,⟨1,[[.ptr 0 6 0 0]],false,false,.fix⟩),(3,⟨2,[[iv .i64 i,iv .i64 j]],true,false,.fix⟩),(4,⟨1,[[iv .i64 r]],true,false,.fix⟩),(5,⟨1,[[.nl]],true,false,.fix⟩)]
def nrO (g:Grammar) (w:List Int) (L:List KE) (i j r q:Nat):List (Nat × Ob):=nlO g w L i j r++[(6,⟨1,[[iv .i64 q]],true,false,.fix⟩),(7,⟨2,[[iv .i64 (g.rules.getD q default).left,.sl 1 (i64s (g.rules.getD q default).right)]],true,false,.fix⟩)]
def nsO (g:Grammar) (w:List Int) (L:List KE) (i j r q τ:Nat) (acc:List Int):List (Nat × Ob):=nrO g w L i j r q++[(τ,⟨1,i64s ((q:Int)::acc),true,false,.arr⟩)]
theorem rlB_succ {g:Grammar} {w:List Int} {x:Int} {i j q:Nat}:rlB g w x i j (q+1)=rlB g w x i j q+ruleV g w x i j q:=(rfl)
set_option maxRecDepth 10000 in
set_option maxHeartbeats 4000000 in
theorem nthN_spec (g : Grammar) (w : List Int) (hc : CC g w) (x : Int) (hx : ¬ x < g.k) (hx2 : x < g.k + g.n) (i j : Nat) (hij : i ≤ j) (hj : j ≤ w.length) (hT : trees g w x i j ≤ 1099511627776) (ih : ∀ x' i' j', 0 ≤ x' → x' < g.k + g.n → i' ≤ j' → j' ≤ w.length → (x' < g.k ∨ j' - i' < j - i) → trees g w x' i' j' ≤ 1099511627776 → nthP g w x' i' j') (r : Nat) (hr : r < trees g w x i j) (L : List KE) (hL : MI g w L) : Dm.SpecH Try.prog 26 [.ptr 0 6 0 0, iv .i64 x, .ag [iv .i64 i, iv .i64 j], iv .i64 r] (coO g w L) (nthR g w x i j r) := by
  refine specH_of_vc mixed Try.func26 c26 (by rw [show Try.f26.ntmps=_ from Try.ntmps26];simp) ?_
  unfold m26 r26
  have hk:=hc.v.k
  have hn:=hc.v.n
  have hw:=hc.w
  have hlen:=hc.v.len
  unfold coO
  repeat' first|((first|refine Br.dec ?_ ?_|refine Br.eqi ?_ ?_)<;>intro h<;>try (exfalso;omega))|refine Z0 ?_|with_reducible exact trivial|(refine Br.mk ?_ ?_<;>intro h)|(refine BrN.mk (fun h => ?_) ?_)|(refine AltVC.mk ?_ ?_)
  refine LoopVC.mk (X:=Nat × List KE) (fun y=>[(31,iv .i64 y.1)]) (fun y=>nlO g w y.2 i j (r - rlB g w x i j y.1)) (fun y=>g.rules.length - y.1) (fun y=>y.1≤g.rules.length∧MI g w y.2∧rlB g w x i j y.1≤r) (0,L) ⟨Nat.zero_le _,hL,Nat.zero_le _⟩ ?_ ?_
  · unfold nlO
    (simp (disch:=first|omega|(simp only [vlen];first|done|omega)) only [Fits_u,Fits_m,Fits_nil,List.length_append,vmy,↓vAq,vBq,↓reduceIte,Nat.reduceBEq,Nat.reduceEqDiff,Nat.reduceLT,Nat.reduceLeDiff,Nat.reduceAdd,Nat.reduceMul,Nat.reduceSub,reduceCtorEq,Int.reduceToNat]<;>(repeat' first|rfl|apply And.intro))
    all_goals first|rfl|trace_state
  · rintro ⟨q, Lx⟩ ⟨hq1, hLx, hqr⟩
    simp only at hq1 hLx hqr ⊢
    unfold nlO
    by_cases hq:q<g.rules.length
    · have hm : g.rules.getD q default ∈ g.rules := getD_mem' hq
      have hlong:=hc.v.long _ hm
      have hright:=hc.v.right _ hm
      have hleft:=hc.v.left _ hm
      have hsu:=@rlB_succ g w x i j q
      by_cases hlx:(g.rules.getD q default).left=x - g.k
      · have hRA:RuleAt g x q:=⟨by omega,by omega,by rw [Int.toNat_natCast];exact hlx⟩
        have hne:=right_ne hc.p hq
        have hrl:0<(g.rules.getD q default).right.length:=List.length_pos_iff.2 hne
        have hrow:=rlB_row hc.p (w:=w) (i:=i) (j:=j) hx hRA
        have hcs:=cut_sum (g:=g) (w:=w) _ i j hne
        repeat' first|((first|refine Br.dec ?_ ?_|refine Br.eqi ?_ ?_)<;>intro h<;>try (exfalso;omega))|refine Z0 ?_|with_reducible exact trivial|(refine Br.mk ?_ ?_<;>intro h)|(refine BrN.mk (fun h => ?_) ?_)|(refine AltVC.mk ?_ ?_)
        refine CallVC.eq (cutsC_spec _ i j) ?_
        repeat' first|((first|refine Br.dec ?_ ?_|refine Br.eqi ?_ ?_)<;>intro h<;>try (exfalso;omega))|refine Z0 ?_|with_reducible exact trivial|(refine Br.mk ?_ ?_<;>intro h)|(refine BrN.mk (fun h => ?_) ?_)|(refine AltVC.mk ?_ ?_)
        refine RfVC.mk (cutRows ((g.rules.getD q default).right.length - 1) i j) (fun _=>[]) (fun y:Nat × List KE=>nrO g w y.2 i j y.1 q) (fun k y=>MI g w y.2∧rlB g w x i j q+sumL (prT g w (g.rules.getD q default).right i) ((cutN ((g.rules.getD q default).right.length - 1) i j).take k)+y.1=r) (r - rlB g w x i j q,Lx) ?_ ?_ ⟨hLx,by simp only [List.take_zero,sumL];omega⟩ ?_ (fun _=>rfl) ?_ ?_
        · repeat' first|((first|refine Br.dec ?_ ?_|refine Br.eqi ?_ ?_)<;>intro h<;>try (exfalso;omega))|refine Z0 ?_|with_reducible exact trivial|(refine Br.mk ?_ ?_<;>intro h)|(refine BrN.mk (fun h => ?_) ?_)|(refine AltVC.mk ?_ ?_)
          have:=cuts_it ((g.rules.getD q default).right.length - 1) i j (by omega) (by omega) (by omega)
          rw [show (g.rules.getD q default).right.length - 1+1=(g.rules.getD q default).right.length by omega] at this
          exact IterD.mk (by simp only [List.all_cons,List.all_nil,Bool.and_true];unfold D.cl;rw [alls_leaf rfl,alls_leaf rfl];rfl) this
        · intro row hrow'
          obtain ⟨c,_,rfl⟩:=List.mem_map.1 hrow'
          rfl
        · unfold nrO nlO
          (simp (disch:=first|omega|(simp only [vlen];first|done|omega)) only [Fits_u,Fits_m,Fits_nil,List.length_append,vmy,↓vAq,vBq,↓reduceIte,Nat.reduceBEq,Nat.reduceEqDiff,Nat.reduceLT,Nat.reduceLeDiff,Nat.reduceAdd,Nat.reduceMul,Nat.reduceSub,reduceCtorEq,Int.reduceToNat]<;>(repeat' first|rfl|apply And.intro))
          all_goals first|rfl|trace_state
        · rintro c ⟨rem, Ly⟩ hcl ⟨hLy, hrem⟩
          rw [cutRows_len] at hcl
          simp only at hLy hrem ⊢
          rw [cutRows_get hcl]
          have hmem:=getD_cut hcl
          have hmono:=cutN_mono hij hmem
          have hol:=cutN_len hmem
          have hpl:=sumL_take (f:=prT g w (g.rules.getD q default).right i) (d:=[]) hcl
          have hps:=sumL_take_succ (f:=prT g w (g.rules.getD q default).right i) (d:=[]) hcl
          have hshort:=cutN_short hmem
          generalize hown:(cutN ((g.rules.getD q default).right.length - 1) i j).getD c []=own at hmem hmono hol hpl hps hshort ⊢
          have hcp:cp (prT g w (g.rules.getD q default).right i own)=prT g w (g.rules.getD q default).right i own:=by unfold cp;omega
          have hown1:∀ e,e ∈ own→e≤1000:=fun e he=>by
            obtain ⟨k,hk,rfl⟩:=List.getElem_of_mem he
            have:=(hmono.get hk).2
            rw [List.getD_eq_getElem?_getD,List.getElem?_eq_getElem hk] at this
            exact Nat.le_trans this (by omega)
          unfold nrO nlO
          repeat' first|((first|refine Br.dec ?_ ?_|refine Br.eqi ?_ ?_)<;>intro h<;>try (exfalso;omega))|refine Z0 ?_|with_reducible exact trivial|(refine Br.mk ?_ ?_<;>intro h)|(refine BrN.mk (fun h => ?_) ?_)|(refine AltVC.mk ?_ ?_)
          refine CallVC.eq (ranges_spec i own (by omega) (by omega) hown1) ?_
          repeat' first|((first|refine Br.dec ?_ ?_|refine Br.eqi ?_ ?_)<;>intro h<;>try (exfalso;omega))|refine Z0 ?_|with_reducible exact trivial|(refine Br.mk ?_ ?_<;>intro h)|(refine BrN.mk (fun h => ?_) ?_)|(refine AltVC.mk ?_ ?_)
          refine CallVC.lendE [0,1] [.ptr 0 6 0 0,.sl 1 (i64s (g.rules.getD q default).right),.sl 2 (tbl rgD (rgs i own))] (coO g w Ly) (many_spec g w hc _ i j own (by omega) (by omega) hright hmono hj Ly hLy) (by simp) (by rfl) Y2 ?_
          rintro _ _ ⟨L2,rfl,rfl,hL2⟩
          unfold coO
          rw [hcp]
          repeat' first|((first|refine Br.dec ?_ ?_|refine Br.eqi ?_ ?_)<;>intro h<;>try (exfalso;omega))|refine Z0 ?_|with_reducible exact trivial|(refine Br.mk ?_ ?_<;>intro h)|(refine BrN.mk (fun h => ?_) ?_)|(refine AltVC.mk ?_ ?_)
          · refine rfK.mk (rem - prT g w (g.rules.getD q default).right i own,L2) Y0 ⟨hL2,by show _+_+(rem - _)=r;rw [hps];omega⟩ ?_
            have hsub:(rem:Int) - (prT g w (g.rules.getD q default).right i own:Nat)=((rem - prT g w (g.rules.getD q default).right i own:Nat):Int):=by omega
            (simp (disch:=first|omega|(simp only [vlen];first|done|omega)) only [Fits_u,Fits_m,Fits_nil,List.length_append,vmy,hsub,↓vAq,vBq,↓reduceIte,Nat.reduceBEq,Nat.reduceEqDiff,Nat.reduceLT,Nat.reduceLeDiff,Nat.reduceAdd,Nat.reduceMul,Nat.reduceSub,reduceCtorEq,Int.reduceToNat]<;>(repeat' first|rfl|apply And.intro))
          · have hlt:rem<prT g w (g.rules.getD q default).right i own:=by omega
            refine LoopVC.mk (X:=Nat × Nat × List Int × List KE) (fun y=>[(14,.ref 8 1 0 (y.2.2.1.length+1)),(72,iv .i64 y.1)]) (fun y=>nsO g w y.2.2.2 i j y.2.1 q 8 y.2.2.1) (fun y=>(g.rules.getD q default).right.length - y.1)
              (fun y=>y.1≤(g.rules.getD q default).right.length∧MI g w y.2.2.2∧y.2.1<prT g w ((g.rules.getD q default).right.drop y.1) (stA i own y.1) (own.drop y.1)∧prT g w ((g.rules.getD q default).right.drop y.1) (stA i own y.1) (own.drop y.1)≤1099511627776∧y.2.2.1.length≤1000000 * y.1∧∀ st2,Tk g w ((g.rules.getD q default).right.drop y.1) (stA i own y.1) (own.drop y.1) st2 y.2.1→Tk g w (g.rules.getD q default).right i own (y.2.2.1++st2) rem) (0,rem,[],L2) ⟨Nat.zero_le _,hL2,hlt,by show prT g w (g.rules.getD q default).right i own≤_;omega,by simp,fun st2 h=>h⟩ ?_ ?_
            · unfold nsO nrO nlO
              (simp (disch:=first|omega|(simp only [vlen];first|done|omega)) only [Fits_u,Fits_m,Fits_nil,List.length_append,vmy,↓vAq,vBq,↓reduceIte,Nat.reduceBEq,Nat.reduceEqDiff,Nat.reduceLT,Nat.reduceLeDiff,Nat.reduceAdd,Nat.reduceMul,Nat.reduceSub,reduceCtorEq,Int.reduceToNat]<;>(repeat' first|rfl|apply And.intro))
              all_goals first|rfl|trace_state
            · rintro ⟨m, idx, acc, Lz⟩ ⟨hm1, hLz, hidx, hib, hal, hcont⟩
              simp only at hm1 hLz hidx hib hal hcont ⊢
              unfold nsO nrO nlO
              by_cases hmr:m<(g.rules.getD q default).right.length
              · have hmo:m<own.length:=by omega
                have hsA:stA i own (m+1)=own.getD m 0:=by unfold stA;rw [if_neg (by omega),Nat.add_sub_cancel]
                have hd1:(g.rules.getD q default).right.drop m=(g.rules.getD q default).right.getD m 0::(g.rules.getD q default).right.drop (m+1):=by
                  exact dropC hmr
                have hd2:own.drop m=own.getD m 0::own.drop (m+1):=by
                  exact dropC hmo
                rw [hd1,hd2] at hidx hib hcont
                rw [prT_cons] at hidx hib
                have hmd:=hmono.drop (k:=m+1) (by omega)
                have htk:List.take own.length (rgs i own)=rgs i own:=List.take_of_length_le (by rw [rgs_len];exact Nat.le_refl _)
                have hrd:=@rgs_drop own i (m+1) (by omega)
                have hrg:=@rgs_get own i m hmo
                have hgm:=hmono.get hmo
                have hxm:=hright _ (getD_mem (l:=(g.rules.getD q default).right) (i:=m) (d:=0) hmr)
                have hmany:=many_spec g w hc ((g.rules.getD q default).right.drop (m+1)) (stA i own (m+1)) j (own.drop (m+1)) (by rw [List.length_drop,List.length_drop];omega) (by rw [List.length_drop];omega) (fun y hy=>hright y (List.mem_of_mem_drop hy)) hmd hj Lz hLz
                have hrl2:(rgs i own).length=own.length:=rgs_len
                rw [← hsA] at hidx hib hcont
                generalize hrest:prT g w ((g.rules.getD q default).right.drop (m+1)) (stA i own (m+1)) (own.drop (m+1))=rest at hidx hib hmany
                have hr0:0<rest:=by
                  rcases Nat.eq_zero_or_pos rest with h0|h0
                  · rw [h0,Nat.mul_zero] at hidx;exact absurd hidx (Nat.not_lt_zero _)
                  · exact h0
                have hT0:0<trees g w ((g.rules.getD q default).right.getD m 0) (stA i own m) (stA i own (m+1)):=by
                  rcases Nat.eq_zero_or_pos (trees g w ((g.rules.getD q default).right.getD m 0) (stA i own m) (stA i own (m+1))) with h0|h0
                  · rw [h0,Nat.zero_mul] at hidx;exact absurd hidx (Nat.not_lt_zero _)
                  · exact h0
                have hTle:=Nat.le_mul_of_pos_right (trees g w ((g.rules.getD q default).right.getD m 0) (stA i own m) (stA i own (m+1))) hr0
                have hrle:=Nat.le_mul_of_pos_left rest hT0
                have hcr:cp rest=rest:=by unfold cp;omega
                have hdiv:idx / rest<trees g w ((g.rules.getD q default).right.getD m 0) (stA i own m) (stA i own (m+1)):=Nat.div_lt_of_lt_mul (by rw [Nat.mul_comm];exact hidx)
                have hmod:=Nat.mod_lt idx hr0
                have hde:idx / rest * rest+idx % rest=idx:=by rw [Nat.mul_comm];exact Nat.div_add_mod idx rest
                have hI1:(idx:Int) / (rest:Int)=((idx / rest:Nat):Int):=(Int.natCast_ediv idx rest).symm
                have hI2:(idx:Int) % (rest:Int)=((idx % rest:Nat):Int):=(Int.natCast_emod idx rest).symm
                have hdle:=Nat.div_le_self idx rest
                generalize idx / rest=dv at hdiv hde hI1 hdle
                generalize idx % rest=md at hmod hde hI2
                have hsm:(g.rules.getD q default).right.getD m 0<g.k∨stA i own (m+1) - stA i own m<j - i:=by
                  by_cases h1:(g.rules.getD q default).right.length=1
                  · left
                    have h2:=hc.p _ (getD_mem' (l:=g.rules) (i:=q) hq)
                    refine h2.2 _ ?_
                    match hr:(g.rules.getD q default).right,h1 with
                    | [s],_ =>
                      rw [hr] at hmr
                      have:m=0:=by simpa using hmr
                      subst this;rfl
                  · right
                    rw [hsA]
                    exact hshort m hmo (by omega)
                have hn2:=ih _ (stA i own m) (stA i own (m+1)) hxm.1 hxm.2 (by rw [hsA];exact hgm.1) (by rw [hsA];omega) hsm (by omega) dv hdiv
                repeat' first|((first|refine Br.dec ?_ ?_|refine Br.eqi ?_ ?_)<;>intro h<;>try (exfalso;omega))|(simp (disch:=first|omega|(simp only [vlen];first|done|omega)) only [vmy,htk,hrd,↓vAq,vBq,↓reduceIte,Nat.reduceBEq,Nat.reduceEqDiff,Nat.reduceLT,Nat.reduceLeDiff,Nat.reduceAdd,Nat.reduceMul,Nat.reduceSub,reduceCtorEq,Int.reduceToNat])|(refine Br.mk ?_ ?_<;>intro h)|(refine BrN.mk (fun h => ?_) ?_)|(refine AltVC.mk ?_ ?_)
                refine CallVC.lendE [0,1] [.ptr 0 6 0 0,.sl 1 (i64s ((g.rules.getD q default).right.drop (m+1))),.sl 2 (tbl rgD (rgs (stA i own (m+1)) (own.drop (m+1))))] (coO g w Lz) hmany (by simp) (by rfl) Y2 ?_
                rintro _ _ ⟨L3,rfl,rfl,hL3⟩
                unfold coO
                rw [hcr]
                rw [hsA] at hn2
                have hwr:IntKind.i64.wrap ((dv:Nat):Int)=((dv:Nat):Int):=wrap64_id (by omega)
                repeat' first|((first|refine Br.dec ?_ ?_|refine Br.eqi ?_ ?_)<;>intro h<;>try (exfalso;omega))|(simp (disch:=first|omega|(simp only [vlen];first|done|omega)) only [vmy,hrg,hI1,hwr,↓vAq,vBq,↓reduceIte,Nat.reduceBEq,Nat.reduceEqDiff,Nat.reduceLT,Nat.reduceLeDiff,Nat.reduceAdd,Nat.reduceMul,Nat.reduceSub,reduceCtorEq,Int.reduceToNat])|(refine Br.mk ?_ ?_<;>intro h)|(refine BrN.mk (fun h => ?_) ?_)|(refine AltVC.mk ?_ ?_)
                refine CallVC.lendE [0,1] [.ptr 0 6 0 0,iv .i64 ((g.rules.getD q default).right.getD m 0),.ag [iv .i64 (stA i own m),iv .i64 (own.getD m 0)],iv .i64 (dv:Nat)] (coO g w L3) (hn2 L3 hL3) (by simp) (by rfl) Y2 ?_
                rintro _ _ ⟨st1,L4,hst1,hres,rfl,hL4⟩
                have hnext:∀ st2,Tk g w ((g.rules.getD q default).right.drop (m+1)) (stA i own (m+1)) (own.drop (m+1)) st2 md→Tk g w (g.rules.getD q default).right i own ((acc++st1)++st2) rem:=fun st2 h2=>by
                  rw [List.append_assoc]
                  refine hcont _ ?_
                  have:=Tk.cons (by rw [hsA];exact hst1) h2
                  rw [hrest,hde] at this
                  exact this
                have hlen1:st1.length≤1000000:=by
                  have:=tk_steps hc.p hst1
                  simp only [List.length_singleton,stA,Nat.one_ne_zero,if_false,Nat.sub_self,List.getD_cons_zero] at this
                  omega
                unfold coO
                rcases hres with rfl|⟨rfl,rfl⟩
                · repeat' first|((first|refine Br.dec ?_ ?_|refine Br.eqi ?_ ?_)<;>intro h<;>try (exfalso;omega))|refine Z25 ?_|with_reducible exact trivial|(refine Br.mk ?_ ?_<;>intro h)|(refine BrN.mk (fun h => ?_) ?_)|(refine AltVC.mk ?_ ?_)
                  refine loopK.mk (m+1,md,acc++st1,L4) Y0 ⟨by show m+1≤_;omega,hL4,by rw [hrest];exact hmod,by rw [hrest];omega,by show (acc++st1).length≤1000000 * (m+1);rw [List.length_append];omega,hnext⟩ (by show (g.rules.getD q default).right.length - (m+1)<(g.rules.getD q default).right.length - m;omega) ?_
                  (simp (disch:=first|omega|(simp only [vlen];first|done|omega)) only [Fits_u,Fits_m,Fits_nil,List.length_append,vmy,hI2,↓vAq,vBq,↓reduceIte,Nat.reduceBEq,Nat.reduceEqDiff,Nat.reduceLT,Nat.reduceLeDiff,Nat.reduceAdd,Nat.reduceMul,Nat.reduceSub,reduceCtorEq,Int.reduceToNat]<;>(repeat' first|rfl|apply And.intro))
                  all_goals first|rfl|(congr 1;omega)
                · repeat' first|((first|refine Br.dec ?_ ?_|refine Br.eqi ?_ ?_)<;>intro h<;>try (exfalso;omega))|refine Z25 ?_|with_reducible exact trivial|(refine Br.mk ?_ ?_<;>intro h)|(refine BrN.mk (fun h => ?_) ?_)|(refine AltVC.mk ?_ ?_)
                  refine loopK.mk (m+1,md,acc++[],L4) Y0 ⟨by show m+1≤_;omega,hL4,by rw [hrest];exact hmod,by rw [hrest];omega,by show (acc++[]).length≤1000000 * (m+1);rw [List.length_append];simp;omega,hnext⟩ (by show (g.rules.getD q default).right.length - (m+1)<(g.rules.getD q default).right.length - m;omega) ?_
                  rw [List.append_nil]
                  (simp (disch:=first|omega|(simp only [vlen];first|done|omega)) only [Fits_u,Fits_m,Fits_nil,List.length_append,vmy,hI2,↓vAq,vBq,↓reduceIte,Nat.reduceBEq,Nat.reduceEqDiff,Nat.reduceLT,Nat.reduceLeDiff,Nat.reduceAdd,Nat.reduceMul,Nat.reduceSub,reduceCtorEq,Int.reduceToNat]<;>(repeat' first|rfl|apply And.intro))
                  all_goals first|rfl|(congr 1;omega)
              · have e:m=(g.rules.getD q default).right.length:=by omega
                have h0:=hcont [] (by
                  rw [List.drop_of_length_le (by omega),List.drop_of_length_le (by omega)]
                  rw [List.drop_of_length_le (by omega),prT_nil] at hidx
                  have:idx=0:=by omega
                  subst this;exact .nil _)
                rw [List.append_nil] at h0
                have hfin:Tk g w [x] i [j] ((q:Int)::acc) r:=by
                  have:=Tk.name (l:=[]) (es:=[]) (s2:=[]) (K2:=0) hx hRA hcl (by rw [hown];exact h0) (.nil j)
                  rw [prT_nil,Nat.mul_one,Nat.add_zero,hrem,List.append_nil] at this
                  exact this
                have hll:((q:Int)::acc).length=acc.length+1:=rfl
                repeat' first|((first|refine Br.dec ?_ ?_|refine Br.eqi ?_ ?_)<;>intro h<;>try (exfalso;omega))|refine Z0 ?_|with_reducible exact trivial|(refine Br.mk ?_ ?_<;>intro h)|(refine BrN.mk (fun h => ?_) ?_)|(refine AltVC.mk ?_ ?_)
                refine FinH_frz (τ:=8) (ob:=⟨1,i64s ((q:Int)::acc),true,false,.arr⟩) Y12 Y12 rfl rfl ?_
                repeat' first|((first|refine Br.dec ?_ ?_|refine Br.eqi ?_ ?_)<;>intro h<;>try (exfalso;omega))|(simp (disch:=first|omega|(simp only [vlen];first|done|omega)) only [vmy,hll,↓vAq,vBq,↓reduceIte,Nat.reduceBEq,Nat.reduceEqDiff,Nat.reduceLT,Nat.reduceLeDiff,Nat.reduceAdd,Nat.reduceMul,Nat.reduceSub,reduceCtorEq,Int.reduceToNat])|(refine Br.mk ?_ ?_<;>intro h)|(refine BrN.mk (fun h => ?_) ?_)|(refine AltVC.mk ?_ ?_)
                exact finH_mk ((coO g w Lz).map some) (by simp [coO]) Y26 Y16 ⟨(q:Int)::acc,Lz,hfin,.inl Y12,rfl,hLz⟩
        · rintro ⟨rem,Ly⟩ ⟨hLy,hrem⟩
          rw [cutRows_len,List.take_length,hcs] at hrem
          simp only at hLy hrem ⊢
          have hru:=rule_row (w:=w) (i:=i) (j:=j) hRA
          unfold nrO nlO
          repeat' first|((first|refine Br.dec ?_ ?_|refine Br.eqi ?_ ?_)<;>intro h<;>try (exfalso;omega))|refine Z0 ?_|with_reducible exact trivial|(refine Br.mk ?_ ?_<;>intro h)|(refine BrN.mk (fun h => ?_) ?_)|(refine AltVC.mk ?_ ?_)
          refine loopK.mk (q+1,Ly) Y0 ⟨by show q+1≤g.rules.length;omega,hLy,by show rlB g w x i j (q+1)≤r;omega⟩ (by show g.rules.length - (q+1)<g.rules.length - q;omega) ?_
          rw [show r - rlB g w x i j (q+1)=rem by omega]
          (simp (disch:=first|omega|(simp only [vlen];first|done|omega)) only [Fits_u,Fits_m,Fits_nil,List.length_append,vmy,↓vAq,vBq,↓reduceIte,Nat.reduceBEq,Nat.reduceEqDiff,Nat.reduceLT,Nat.reduceLeDiff,Nat.reduceAdd,Nat.reduceMul,Nat.reduceSub,reduceCtorEq,Int.reduceToNat]<;>(repeat' first|rfl|apply And.intro))
          all_goals first|rfl|trace_state
      · have hru:ruleV g w x i j q=0:=by unfold ruleV;rw [if_neg hlx]
        repeat' first|((first|refine Br.dec ?_ ?_|refine Br.eqi ?_ ?_)<;>intro h<;>try (exfalso;omega))|refine Z0 ?_|with_reducible exact trivial|(refine Br.mk ?_ ?_<;>intro h)|(refine BrN.mk (fun h => ?_) ?_)|(refine AltVC.mk ?_ ?_)
        refine loopK.mk (q+1,Lx) Y0 ⟨by show q+1≤g.rules.length;omega,hLx,by show rlB g w x i j (q+1)≤r;omega⟩ (by show g.rules.length - (q+1)<g.rules.length - q;omega) ?_
        rw [show rlB g w x i j (q+1)=rlB g w x i j q by omega]
        (simp (disch:=first|omega|(simp only [vlen];first|done|omega)) only [Fits_u,Fits_m,Fits_nil,List.length_append,vmy,↓vAq,vBq,↓reduceIte,Nat.reduceBEq,Nat.reduceEqDiff,Nat.reduceLT,Nat.reduceLeDiff,Nat.reduceAdd,Nat.reduceMul,Nat.reduceSub,reduceCtorEq,Int.reduceToNat]<;>(repeat' first|rfl|apply And.intro))
        all_goals first|rfl|trace_state
    · have e2:q=g.rules.length:=by omega
      subst e2
      rw [trees_name hc.p hx] at hr
      exact absurd hqr (Nat.not_le.2 hr)
theorem nth_all (g:Grammar) (w:List Int) (hc:CC g w):∀ n x i j,0≤x→x<g.k+g.n→i≤j→j≤w.length→(x<g.k∨j - i<n)→trees g w x i j≤1099511627776→nthP g w x i j:=by
  intro n
  induction n with
  | zero =>
    intro x i j h0 h1 hij hj h2 hT r hr L hL
    exact nthS_spec g w hc x (h2.resolve_right (Nat.not_lt_zero _)) i j r hr L hL
  | succ n ih =>
    intro x i j h0 h1 hij hj h2 hT r hr L hL
    by_cases hx:x<g.k
    · exact nthS_spec g w hc x hx i j r hr L hL
    · have h3:=h2.resolve_left hx
      exact nthN_spec g w hc x hx h1 i j hij hj hT (fun x' i' j' a b c d e f=>ih x' i' j' a b c d (e.imp (fun h=>h) fun h=>by omega) f) r hr L hL
theorem nth_spec (g:Grammar) (w:List Int) (hc:CC g w) (x:Int) (i j:Nat) (h0:0≤x) (h1:x<g.k+g.n) (hij:i≤j) (hj:j≤w.length) (hT:trees g w x i j≤1099511627776):nthP g w x i j:=nth_all g w hc (j - i+1) x i j h0 h1 hij hj (.inr (Nat.lt_succ_self _)) hT
end Go.Proofs.Ytjekkbpdgnohcaa

namespace Go.Dm
def splN (g:Grammar) (w:List Int):List Int→Nat→Nat→List (List Nat)
  | [],i,j=>if i=j then [[]] else []
  | x::l,i,j=>(List.range (j - i)).flatMap fun q=>if trees g w x i (i+1+q)=0∨rowN g w l (i+1+q) j=0 then [] else (splN g w l (i+1+q) j).map fun r=>(i+1+q)::r
def splP (g:Grammar) (w:List Int) (x:Int) (l:List Int) (i j n:Nat):List (List Nat):=(List.range n).flatMap fun q=>if trees g w x i (i+1+q)=0∨rowN g w l (i+1+q) j=0 then [] else (splN g w l (i+1+q) j).map fun r=>(i+1+q)::r
theorem splN_cons {g:Grammar} {w:List Int} {x:Int} {l:List Int} {i j:Nat}:splN g w (x::l) i j=splP g w x l i j (j - i):=rfl
theorem splP_succ {g:Grammar} {w:List Int} {x:Int} {l:List Int} {i j n:Nat}:splP g w x l i j (n+1)=splP g w x l i j n++(if trees g w x i (i+1+n)=0∨rowN g w l (i+1+n) j=0 then [] else (splN g w l (i+1+n) j).map fun r=>(i+1+n)::r):=by
  unfold splP
  rw [List.range_succ,List.flatMap_append];simp
theorem flatMap_congr' {α β:Type} {f k:α→List β}:∀ {l:List α},(∀ x,x ∈ l→f x=k x)→l.flatMap f=l.flatMap k
  | [],_=>rfl
  | x::l,h=>by rw [List.flatMap_cons,List.flatMap_cons,h x (by simp),flatMap_congr' fun y hy=>h y (by simp [hy])]
theorem filter_flat {α β:Type} {f:α→List β} {p:β→Bool}:∀ {l:List α},(l.flatMap f).filter p=l.flatMap fun x=>(f x).filter p
  | []=>rfl
  | x::l=>by rw [List.flatMap_cons,List.filter_append,List.flatMap_cons,filter_flat]
theorem sumL_zero {α:Type} {f:α→Nat}:∀ {l:List α},sumL f l=0→∀ x,x ∈ l→f x=0
  | [],_,x,hx=>by cases hx
  | y::l,h,x,hx=>by
    rw [sumL] at h
    rcases List.mem_cons.1 hx with rfl|hx
    · omega
    · exact sumL_zero (l:=l) (by omega) x hx
theorem splN_cut {g : Grammar} {w : List Int} (hp : Proper g) : ∀ (l : List Int) (i j : Nat), l ≠ [] → splN g w l i j = (cutN (l.length - 1) i j).filter fun c => decide (prT g w l i c ≠ 0)
  | [],_,_,h=>absurd rfl h
  | [x], i, j, _ => by
    have e1:cutN ([x].length - 1) i j=[[j]]:=rfl
    rw [e1,splN_cons]
    have e2 : ∀ n, n ≤ j - i → splP g w x [] i j n = if n = j - i ∧ i < j ∧ trees g w x i j ≠ 0 then [[j]] else [] := by
      intro n
      induction n with
      | zero=>intro _;rw [if_neg (fun h=>by omega)];rfl
      | succ n ih =>
        intro hn
        rw [splP_succ,ih (by omega),if_neg (fun h=>by omega),List.nil_append,rowN_nil]
        by_cases h:n+1=j - i
        · have e:i+1+n=j:=by omega
          rw [e,if_pos rfl]
          by_cases ht:trees g w x i j=0
          · rw [if_pos (.inl ht),if_neg (fun c=>c.2.2 ht)]
          · rw [if_neg (fun c=>c.elim ht (fun c=>by omega)),if_pos ⟨h,by omega,ht⟩]
            simp [splN]
        · rw [if_pos (.inr (if_neg (by omega))),if_neg (fun c=>h c.1)]
    rw [e2 _ (Nat.le_refl _)]
    simp only [prT_cons,prT_nil,Nat.mul_one,List.filter_cons,List.filter_nil,decide_eq_true_eq]
    by_cases h:i<j
    · by_cases ht:trees g w x i j=0
      · rw [if_neg (fun c=>c.2.2 ht),if_neg (fun c=>c ht)]
      · simp [h,ht]
    · rw [if_neg (fun c=>h c.2.1),if_neg (fun c=>c (trees_none hp (by omega)))]
  | x :: y :: l, i, j, _ => by
    rw [splN_cons]
    show splP g w x (y::l) i j (j - i)=(cutN (l.length+1) i j).filter _
    unfold cutN
    rw [filter_flat]
    have key:∀ q,(if trees g w x i (i+1+q)=0∨rowN g w (y::l) (i+1+q) j=0 then [] else (splN g w (y::l) (i+1+q) j).map fun r=>(i+1+q)::r)=((cutN l.length (i+1+q) j).map fun r=>(i+1+q)::r).filter fun c=>decide (prT g w (x::y::l) i c ≠ 0):=fun q=>by
      rw [List.filter_map]
      have hs:=cut_sum (g:=g) (w:=w) (y::l) (i+1+q) j (by simp)
      by_cases hc:trees g w x i (i+1+q)=0∨rowN g w (y::l) (i+1+q) j=0
      · rw [if_pos hc]
        symm
        rw [List.map_eq_nil_iff,List.filter_eq_nil_iff]
        intro r hr
        simp only [Function.comp,decide_eq_true_eq,ne_eq,Decidable.not_not]
        rw [prT_cons]
        rcases hc with hc|hc
        · rw [hc,Nat.zero_mul]
        · have:=sumL_zero (hs.trans hc) r hr
          rw [this,Nat.mul_zero]
      · rw [if_neg hc,splN_cut hp (y::l) _ _ (by simp)]
        refine congrArg _ (List.filter_congr fun r _ => ?_)
        have ht:trees g w x i (i+1+q) ≠ 0:=fun h=>hc (.inl h)
        simp only [Function.comp,prT_cons (l:=y::l),ne_eq,Nat.mul_eq_zero,ht,false_or]
    have hsm:splP g w x (y::l) i j (j - i)=splP g w x (y::l) i j (j - (i+1)):=by
      by_cases h:i<j
      · have h0:rowN g w (y::l) (i+1+(j - (i+1))) j=0:=by
          rw [show i+1+(j - (i+1))=j by omega]
          exact rowN_short hp (by simp)
        rw [show j - i=(j - (i+1))+1 by omega,splP_succ,if_pos (.inr h0),List.append_nil]
      · rw [show j - i=0 by omega,show j - (i+1)=0 by omega]
    rw [hsm]
    exact flatMap_congr' fun q _=>key q
theorem flat_len {α β:Type} {f:α→List β} {c:Nat}:∀ {l:List α},(∀ x,x ∈ l→(f x).length≤c)→(l.flatMap f).length≤l.length * c
  | [],_=>by simp
  | x::l,h=>by
    rw [List.flatMap_cons,List.length_append,List.length_cons,Nat.succ_mul]
    have:=h x (by simp)
    have:=flat_len (l:=l) fun y hy=>h y (by simp [hy])
    omega
theorem splN_len {g:Grammar} {w:List Int}:∀ {l:List Int} {i j:Nat},j - i≤12→(splN g w l i j).length≤13 ^ l.length
  | [],i,j,_=>by unfold splN;split<;>simp
  | x :: l, i, j, h => by
    unfold splN
    refine Nat.le_trans (flat_len (c:=13 ^ l.length) fun q _ => ?_) ?_
    · split
      · simp
      · rw [List.length_map];exact splN_len (by omega)
    · rw [List.length_range,List.length_cons,Nat.pow_succ,Nat.mul_comm]
      exact Nat.mul_le_mul_left _ (by omega)
theorem splN_small {g:Grammar} {w:List Int} {l:List Int} {i j:Nat} (hl:l.length≤3) (h:j - i≤12):(splN g w l i j).length≤2197 :=
  Nat.le_trans (splN_len h) (Nat.le_trans (Nat.pow_le_pow_right (by omega) hl) (by omega))
theorem splN_wlen {g:Grammar} {w:List Int}:∀ {l:List Int} {i j:Nat} {c:List Nat},c ∈ splN g w l i j→c.length=l.length
  | [],i,j,c,h=>by
    unfold splN at h
    split at h
    · simp at h;subst h;rfl
    · cases h
  | x :: l, i, j, c, h => by
    unfold splN at h
    obtain ⟨q,_,hq⟩:=List.mem_flatMap.1 h
    split at hq
    · cases hq
    · obtain ⟨r,hr,rfl⟩:=List.mem_map.1 hq
      rw [List.length_cons,List.length_cons,splN_wlen hr]
end Go.Dm

namespace Go.Proofs.Ytjekkbpdgnohcaa
open Go.Dm
def wyS:List Int→Nat→List Nat→List (Nat × Nat × Int)
  | x::l,i,e::es=>(i,e,x)::wyS l e es
  | _,_,_=>[]
def stD (s:Nat × Nat × Int):List D:=[iv .i64 s.1,iv .i64 s.2.1,iv .i64 s.2.2]
theorem stD_mk {a b:Nat} {x:Int}:stD (a,b,x)=[D.v (.int .i64 a),D.v (.int .i64 b),D.v (.int .i64 x)]:=(rfl)
def wyD (l:List Int) (i:Nat) (es:List Nat):List D:=[if l=[] then .nl else .sl 3 (tbl stD (wyS l i es))]
theorem wyD_cons {x:Int} {l:List Int} {i:Nat} {es:List Nat}:wyD (x::l) i es=[.sl 3 (tbl stD (wyS (x::l) i es))]:=(rfl)
theorem wy_app {l:List Int} {i:Nat} {L:List (List Nat)} {x:Int} {es:List Nat}:tbl (wyD (x::l) i) L++[[D.sl 3 (tbl stD (wyS (x::l) i es))]]=tbl (wyD (x::l) i) (L++[es]):=by rw [tbl_app];rfl
theorem st_cons {l:List Int} {i e:Nat} {x:Int} {es:List Nat}:[D.v (.int .i64 i),D.v (.int .i64 e),D.v (.int .i64 x)]::tbl stD (wyS l e es)=tbl stD (wyS (x::l) i (e::es)):=(rfl)
theorem wy_kill {x:Int} {l:List Int} {i τ:Nat} {L:List (List Nat)}:(tbl (wyD (x::l) i) L).map (fun e=>e.map (D.kill τ))=tbl (wyD (x::l) i) L:=by simp [tbl,wyD_cons,kill_sl]
theorem wy_frz {x:Int} {l:List Int} {i τ:Nat} {ob:Ob} {L:List (List Nat)}:(tbl (wyD (x::l) i) L).map (fun e=>e.map (D.frz τ ob))=tbl (wyD (x::l) i) L:=by simp [tbl,wyD_cons,frz_sl]
theorem wy_clo {x:Int} {l:List Int} {i:Nat} {L:List (List Nat)}:(tbl (wyD (x::l) i) L).all (fun e=>e.all D.clo')=true:=by simp [tbl,wyD_cons,clo'_sl]
theorem wy_view {x:Int} {l:List Int} {i e:Nat} {es:List Nat}:viewO (some ⟨3,tbl stD (wyS (x::l) i (e::es)),true,false,.arr⟩) 3 0 (1+(wyS l e es).length)=.sl 3 (tbl stD (wyS (x::l) i (e::es))):=viewO_all (by rw [tbl_len];simp [wyS];omega)
def vsp:=And.intro vbe<|And.intro @wy_kill<|And.intro @wy_frz<|And.intro @wy_clo<|And.intro @wy_view<|And.intro @stD_mk<|And.intro @wy_app<|And.intro @st_cons @tbl_len
theorem wyS_len:∀ {l:List Int} {i:Nat} {es:List Nat},(wyS l i es).length≤l.length
  | [],_,_=>by simp [wyS]
  | _::_,_,[]=>by simp [wyS]
  | _::l,_,e::es=>by simp only [wyS,List.length_cons];have:=@wyS_len l e es;omega
def splR (g:Grammar) (w:List Int) (l:List Int) (i j:Nat) (d:D) (o:List (Option Ob)):Prop := ∃ L,(d=.sl 1 (tbl (wyD l i) (splN g w l i j))∨(d=.nl∧splN g w l i j=[]))∧o=(buO g w L).map some∧BI g w L
def spP (g:Grammar) (w:List Int) (l:List Int) (i j:Nat):Prop:=∀ L,BI g w L→Dm.SpecH Try.prog 52 [.ptr 0 6 0 0,.sl 1 (i64s l),iv .i64 i,iv .i64 j] (buO g w L) (splR g w l i j)
set_option maxRecDepth 10000 in
set_option maxHeartbeats 4000000 in
theorem spl0_spec (g:Grammar) (w:List Int) (i j:Nat) (L:List BE) (hL:BI g w L):Dm.SpecH Try.prog 52 [.ptr 0 6 0 0,.sl 1 (i64s []),iv .i64 i,iv .i64 j] (buO g w L) (splR g w [] i j):=by
  refine specH_of_vc mixed Try.func52 c52 (by rw [show Try.f52.ntmps=_ from Try.ntmps52];simp) ?_
  unfold m52 r52
  unfold buO
  by_cases h:i=j
  · have hs:splN g w [] i j=[[]]:=if_pos h
    repeat' first|((first|refine Br.dec ?_ ?_|refine Br.eqi ?_ ?_)<;>intro h<;>try (exfalso;omega))|refine Z10 ?_|with_reducible exact trivial|(refine Br.mk ?_ ?_<;>intro h)|(refine BrN.mk (fun h => ?_) ?_)|(refine AltVC.mk ?_ ?_)
    refine FinH_frz (τ:=3) (ob:=⟨1,[[.nl]],true,false,.arr⟩) Y14 Y14 rfl rfl ?_
    repeat' first|((first|refine Br.dec ?_ ?_|refine Br.eqi ?_ ?_)<;>intro h<;>try (exfalso;omega))|refine Z10 ?_|with_reducible exact trivial|(refine Br.mk ?_ ?_<;>intro h)|(refine BrN.mk (fun h => ?_) ?_)|(refine AltVC.mk ?_ ?_)
    exact finH_mk ((buO g w L).map some) (by simp [buO]) Y20 Y21 ⟨L,.inl Y27,rfl,hL⟩
  · have hs:splN g w [] i j=[]:=if_neg h
    repeat' first|((first|refine Br.dec ?_ ?_|refine Br.eqi ?_ ?_)<;>intro h<;>try (exfalso;omega))|refine Z10 ?_|with_reducible exact trivial|(refine Br.mk ?_ ?_<;>intro h)|(refine BrN.mk (fun h => ?_) ?_)|(refine AltVC.mk ?_ ?_)
    refine FinH_frz (τ:=3) (ob:=⟨1,[],true,false,.arr⟩) Y14 Y14 rfl rfl ?_
    repeat' first|((first|refine Br.dec ?_ ?_|refine Br.eqi ?_ ?_)<;>intro h<;>try (exfalso;omega))|refine Z10 ?_|with_reducible exact trivial|(refine Br.mk ?_ ?_<;>intro h)|(refine BrN.mk (fun h => ?_) ?_)|(refine AltVC.mk ?_ ?_)
    exact finH_mk ((buO g w L).map some) (by simp [buO]) Y20 Y21 ⟨L,.inl Y27,rfl,hL⟩
set_option maxRecDepth 10000 in
set_option maxHeartbeats 4000000 in
theorem spl1_spec (g : Grammar) (w : List Int) (hc : CC g w) (x : Int) (l : List Int) (hl : l.length ≤ 3) (hx : ∀ y, y ∈ x :: l → 0 ≤ y ∧ y < g.k + g.n) (i j : Nat) (hij : i ≤ j) (hj : j ≤ w.length) (ih : ∀ m, i < m → m ≤ j → spP g w l m j) (L : List BE) (hL : BI g w L) : Dm.SpecH Try.prog 52 [.ptr 0 6 0 0, .sl 1 (i64s (x :: l)), iv .i64 i, iv .i64 j] (buO g w L) (splR g w (x :: l) i j) := by
  refine specH_of_vc mixed Try.func52 c52 (by rw [show Try.f52.ntmps=_ from Try.ntmps52];simp) ?_
  unfold m52 r52
  have hw:=hc.w
  have hx0:=hx x (by simp)
  have hll:(x::l).length=l.length+1:=rfl
  have hg0:(x::l).getD 0 0=x:=rfl
  have hd1:(x::l).drop 1=l:=rfl
  unfold buO
  repeat' first|((first|refine Br.dec ?_ ?_|refine Br.eqi ?_ ?_)<;>intro h<;>try (exfalso;omega))|(simp (disch:=first|omega|(simp only [vlen];first|done|omega)) only [vsp,hll,↓vAq,vBq,↓reduceIte,Nat.reduceBEq,Nat.reduceEqDiff,Nat.reduceLT,Nat.reduceLeDiff,Nat.reduceAdd,Nat.reduceMul,Nat.reduceSub,reduceCtorEq,Int.reduceToNat])|(refine Br.mk ?_ ?_<;>intro h)|(refine BrN.mk (fun h => ?_) ?_)|(refine AltVC.mk ?_ ?_)
  refine LoopVC.mk (X:=Nat × List BE) (fun y=>[(9,.ref 3 1 0 (splP g w x l i j y.1).length),(10,iv .i64 (i+1+y.1:Nat))]) (fun y=>buL g w y.2++[(3,⟨1,tbl (wyD (x::l) i) (splP g w x l i j y.1),true,false,.arr⟩)]) (fun y=>j - i - y.1) (fun y=>y.1≤j - i∧BI g w y.2∧(splP g w x l i j y.1).length≤2197 * y.1) (0,L) ⟨Nat.zero_le _,hL,by simp [splP]⟩ ?_ ?_
  · unfold buL
    (simp (disch:=first|omega|(simp only [vlen];first|done|omega)) only [Fits_u,Fits_m,Fits_nil,List.length_append,vsp,↓vAq,vBq,↓reduceIte,Nat.reduceBEq,Nat.reduceEqDiff,Nat.reduceLT,Nat.reduceLeDiff,Nat.reduceAdd,Nat.reduceMul,Nat.reduceSub,reduceCtorEq,Int.reduceToNat]<;>(repeat' first|rfl|apply And.intro))
    all_goals first|rfl|trace_state
  · rintro ⟨q, Lx⟩ ⟨hq, hLx, hql⟩
    simp only at hq hLx hql ⊢
    unfold buL
    by_cases hqj:q<j - i
    · have hsu := @splP_succ g w x l i j q
      have hT:=bushT_spec g w hc x i (i+1+q) hx0.1 hx0.2 (by omega) (by omega) Lx hLx
      have hsm:=splN_small (g:=g) (w:=w) (l:=l) (i:=i+1+q) (j:=j) hl (by omega)
      have hnone:(trees g w x i (i+1+q)=0∨rowN g w l (i+1+q) j=0)→splP g w x l i j (q+1)=splP g w x l i j q:=fun h=>by rw [hsu,if_pos h,List.append_nil]
      repeat' first|((first|refine Br.dec ?_ ?_|refine Br.eqi ?_ ?_)<;>intro h<;>try (exfalso;omega))|(simp (disch:=first|omega|(simp only [vlen];first|done|omega)) only [vsp,hg0,↓vAq,vBq,↓reduceIte,Nat.reduceBEq,Nat.reduceEqDiff,Nat.reduceLT,Nat.reduceLeDiff,Nat.reduceAdd,Nat.reduceMul,Nat.reduceSub,reduceCtorEq,Int.reduceToNat])|(refine Br.mk ?_ ?_<;>intro h)|(refine BrN.mk (fun h => ?_) ?_)|(refine AltVC.mk ?_ ?_)
      refine CallVC.lendE [0,1] [.ptr 0 6 0 0,iv .i64 x,iv .i64 i,iv .i64 (i+1+q:Nat)] (buO g w Lx) hT (by simp) (by rfl) Y5 ?_
      rintro _ _ ⟨L2,rfl,rfl,hL2⟩
      unfold buO
      by_cases ht:trees g w x i (i+1+q)=0
      · have hcz:((cp (trees g w x i (i+1+q)):Nat):Int)=0:=by rw [ht];rfl
        repeat' first|((first|refine Br.dec ?_ ?_|refine Br.eqi ?_ ?_)<;>intro h<;>try (exfalso;omega))|(simp (disch:=first|omega|(simp only [vlen];first|done|omega)) only [vsp,hcz,↓vAq,vBq,↓reduceIte,Nat.reduceBEq,Nat.reduceEqDiff,Nat.reduceLT,Nat.reduceLeDiff,Nat.reduceAdd,Nat.reduceMul,Nat.reduceSub,reduceCtorEq,Int.reduceToNat])|(refine Br.mk ?_ ?_<;>intro h)|(refine BrN.mk (fun h => ?_) ?_)|(refine AltVC.mk ?_ ?_)
        refine loopK.mk (q+1,L2) Y0 ⟨by show q+1≤j - i;omega,hL2,by show (splP g w x l i j (q+1)).length≤_;rw [hnone (.inl ht)];omega⟩ (by show j - i - (q+1)<j - i - q;omega) ?_
        rw [hnone (.inl ht)]
        (simp (disch:=first|omega|(simp only [vlen];first|done|omega)) only [Fits_u,Fits_m,Fits_nil,List.length_append,vsp,↓vAq,vBq,↓reduceIte,Nat.reduceBEq,Nat.reduceEqDiff,Nat.reduceLT,Nat.reduceLeDiff,Nat.reduceAdd,Nat.reduceMul,Nat.reduceSub,reduceCtorEq,Int.reduceToNat]<;>(repeat' first|rfl|apply And.intro))
      · have hcz:¬ ((cp (trees g w x i (i+1+q)):Nat):Int)=0:=fun h=>ht (cp_zero.mp (by omega))
        have hR:=bushR_spec g w hc l (i+1+q) j (by omega) (fun k hk=>hx _ (by rw [List.mem_cons];exact .inr (getD_mem (l:=l) (i:=k) (d:=0) hk))) (by omega) hj L2 hL2
        repeat' first|((first|refine Br.dec ?_ ?_|refine Br.eqi ?_ ?_)<;>intro h<;>try (exfalso;omega))|refine Z26 ?_|with_reducible exact trivial|(refine Br.mk ?_ ?_<;>intro h)|(refine BrN.mk (fun h => ?_) ?_)|(refine AltVC.mk ?_ ?_)
        refine CallVC.lendE [0,1] [.ptr 0 6 0 0,.sl 1 (i64s l),iv .i64 (i+1+q:Nat),iv .i64 j] (buO g w L2) hR (by simp) (by rfl) Y5 ?_
        rintro _ _ ⟨L3,rfl,rfl,hL3⟩
        unfold buO
        by_cases hr:rowN g w l (i+1+q) j=0
        · have hrz:((cp (rowN g w l (i+1+q) j):Nat):Int)=0:=by rw [hr];rfl
          repeat' first|((first|refine Br.dec ?_ ?_|refine Br.eqi ?_ ?_)<;>intro h<;>try (exfalso;omega))|(simp (disch:=first|omega|(simp only [vlen];first|done|omega)) only [vsp,hrz,↓vAq,vBq,↓reduceIte,Nat.reduceBEq,Nat.reduceEqDiff,Nat.reduceLT,Nat.reduceLeDiff,Nat.reduceAdd,Nat.reduceMul,Nat.reduceSub,reduceCtorEq,Int.reduceToNat])|(refine Br.mk ?_ ?_<;>intro h)|(refine BrN.mk (fun h => ?_) ?_)|(refine AltVC.mk ?_ ?_)
          refine loopK.mk (q+1,L3) Y0 ⟨by show q+1≤j - i;omega,hL3,by show (splP g w x l i j (q+1)).length≤_;rw [hnone (.inr hr)];omega⟩ (by show j - i - (q+1)<j - i - q;omega) ?_
          rw [hnone (.inr hr)]
          (simp (disch:=first|omega|(simp only [vlen];first|done|omega)) only [Fits_u,Fits_m,Fits_nil,List.length_append,vsp,↓vAq,vBq,↓reduceIte,Nat.reduceBEq,Nat.reduceEqDiff,Nat.reduceLT,Nat.reduceLeDiff,Nat.reduceAdd,Nat.reduceMul,Nat.reduceSub,reduceCtorEq,Int.reduceToNat]<;>(repeat' first|rfl|apply And.intro))
        · have hrz:¬ ((cp (rowN g w l (i+1+q) j):Nat):Int)=0:=fun h=>hr (cp_zero.mp (by omega))
          rw [if_neg (fun h=>h.elim ht hr)] at hsu
          repeat' first|((first|refine Br.dec ?_ ?_|refine Br.eqi ?_ ?_)<;>intro h<;>try (exfalso;omega))|refine Z26 ?_|with_reducible exact trivial|(refine Br.mk ?_ ?_<;>intro h)|(refine BrN.mk (fun h => ?_) ?_)|(refine AltVC.mk ?_ ?_)
          refine CallVC.lendE [0,1] [.ptr 0 6 0 0,.sl 1 (i64s l),iv .i64 (i+1+q:Nat),iv .i64 j] (buO g w L3) (ih _ (by omega) (by omega) L3 hL3) (by simp) (by rfl) Y5 ?_
          rintro _ _ ⟨L4,hres,rfl,hL4⟩
          unfold buO
          rcases hres with rfl|⟨rfl,hemp⟩
          · repeat' first|((first|refine Br.dec ?_ ?_|refine Br.eqi ?_ ?_)<;>intro h<;>try (exfalso;omega))|refine Z10 ?_|with_reducible exact trivial|(refine Br.mk ?_ ?_<;>intro h)|(refine BrN.mk (fun h => ?_) ?_)|(refine AltVC.mk ?_ ?_)
            refine LoopVC.mk (X:=Nat) (fun c=>[(9,.ref 3 1 0 ((splP g w x l i j q).length+c)),(51,iv .i64 c)]) (fun c=>buL g w L4++[(3,⟨1,tbl (wyD (x::l) i) (splP g w x l i j q++((splN g w l (i+1+q) j).take c).map fun r=>(i+1+q)::r),true,false,.arr⟩)]) (fun c=>(splN g w l (i+1+q) j).length - c) (fun c=>c≤(splN g w l (i+1+q) j).length) 0 (Nat.zero_le _) ?_ ?_
            · unfold buL
              simp only [List.take_zero,List.map_nil,List.append_nil]
              (simp (disch:=first|omega|(simp only [vlen];first|done|omega)) only [Fits_u,Fits_m,Fits_nil,List.length_append,vsp,↓vAq,vBq,↓reduceIte,Nat.reduceBEq,Nat.reduceEqDiff,Nat.reduceLT,Nat.reduceLeDiff,Nat.reduceAdd,Nat.reduceMul,Nat.reduceSub,reduceCtorEq,Int.reduceToNat]<;>(repeat' first|rfl|apply And.intro))
              all_goals first|rfl|trace_state
            · intro c hcl
              unfold buL
              have hlc:(splP g w x l i j q++((splN g w l (i+1+q) j).take c).map fun r=>(i+1+q)::r).length=(splP g w x l i j q).length+c:=by rw [List.length_append,List.length_map,List.length_take];omega
              by_cases hcn:c<(splN g w l (i+1+q) j).length
              · have htc:splP g w x l i j q++((splN g w l (i+1+q) j).take (c+1)).map (fun r=>(i+1+q)::r)=(splP g w x l i j q++((splN g w l (i+1+q) j).take c).map fun r=>(i+1+q)::r)++[(i+1+q)::(splN g w l (i+1+q) j).getD c default]:=by
                  rw [List.take_add_one,List.getElem?_eq_getElem hcn,List.map_append,List.append_assoc]
                  simp [List.getD,hcn]
                have hwl:=splN_wlen (getD_mem' (l:=splN g w l (i+1+q) j) (i:=c) hcn)
                generalize hLs:(splP g w x l i j q++((splN g w l (i+1+q) j).take c).map fun r=>(i+1+q)::r)=Ls at hlc htc ⊢
                generalize hes:(splN g w l (i+1+q) j).getD c default=es at htc hwl ⊢
                have hrow:tbl (wyD (x::l) i) (Ls++[(i+1+q)::es])=tbl (wyD (x::l) i) Ls++[[D.sl 3 ([D.v (.int .i64 i),D.v (.int .i64 (i+1+q:Nat)),D.v (.int .i64 x)]::tbl stD (wyS l (i+1+q) es))]]:=by rw [tbl_app];rfl
                rcases (show l=[]∨l ≠ [] by by_cases h:l=[]<;>simp [h]) with hl0|hl0
                · have hwy:wyD l (i+1+q) es=[.nl]:=by unfold wyD;rw [if_pos hl0]
                  have hws:wyS l (i+1+q) es=[]:=by rw [hl0];rfl
                  rw [hws] at hrow
                  repeat' first|((first|refine Br.dec ?_ ?_|refine Br.eqi ?_ ?_)<;>intro h<;>try (exfalso;omega))|refine Z14 ?_|with_reducible exact trivial|(refine Br.mk ?_ ?_<;>intro h)|(refine BrN.mk (fun h => ?_) ?_)|(refine AltVC.mk ?_ ?_)
                  refine loopK.frz 4 ?_
                  repeat' first|((first|refine Br.dec ?_ ?_|refine Br.eqi ?_ ?_)<;>intro h<;>try (exfalso;omega))|refine Z14 ?_|with_reducible exact trivial|(refine Br.mk ?_ ?_<;>intro h)|(refine BrN.mk (fun h => ?_) ?_)|(refine AltVC.mk ?_ ?_)
                  refine loopK.flt 3 ?_
                  repeat' first|((first|refine Br.dec ?_ ?_|refine Br.eqi ?_ ?_)<;>intro h<;>try (exfalso;omega))|refine Z14 ?_|with_reducible exact trivial|(refine Br.mk ?_ ?_<;>intro h)|(refine BrN.mk (fun h => ?_) ?_)|(refine AltVC.mk ?_ ?_)
                  refine loopK.mk (c+1) Y0 (by show c+1≤(splN g w l (i+1+q) j).length;omega) (by show (splN g w l (i+1+q) j).length - (c+1)<(splN g w l (i+1+q) j).length - c;omega) ?_
                  rw [htc,hrow]
                  (simp (disch:=first|omega|(simp only [vlen];first|done|omega)) only [Fits_u,Fits_m,Fits_nil,List.length_append,vsp,hlc,↓vAq,vBq,↓reduceIte,Nat.reduceBEq,Nat.reduceEqDiff,Nat.reduceLT,Nat.reduceLeDiff,Nat.reduceAdd,Nat.reduceMul,Nat.reduceSub,reduceCtorEq,Int.reduceToNat]<;>(repeat' first|rfl|apply And.intro))
                  all_goals first|rfl|trace_state
                · have hwsl:=@wyS_len l (i+1+q) es
                  have hwy:wyD l (i+1+q) es=[.sl 3 (tbl stD (wyS l (i+1+q) es))]:=by unfold wyD;rw [if_neg hl0]
                  repeat' first|((first|refine Br.dec ?_ ?_|refine Br.eqi ?_ ?_)<;>intro h<;>try (exfalso;omega))|refine Z14 ?_|with_reducible exact trivial|(refine Br.mk ?_ ?_<;>intro h)|(refine BrN.mk (fun h => ?_) ?_)|(refine AltVC.mk ?_ ?_)
                  refine loopK.frz 4 ?_
                  repeat' first|((first|refine Br.dec ?_ ?_|refine Br.eqi ?_ ?_)<;>intro h<;>try (exfalso;omega))|refine Z14 ?_|with_reducible exact trivial|(refine Br.mk ?_ ?_<;>intro h)|(refine BrN.mk (fun h => ?_) ?_)|(refine AltVC.mk ?_ ?_)
                  refine loopK.flt 3 ?_
                  repeat' first|((first|refine Br.dec ?_ ?_|refine Br.eqi ?_ ?_)<;>intro h<;>try (exfalso;omega))|refine Z14 ?_|with_reducible exact trivial|(refine Br.mk ?_ ?_<;>intro h)|(refine BrN.mk (fun h => ?_) ?_)|(refine AltVC.mk ?_ ?_)
                  refine loopK.mk (c+1) Y0 (by show c+1≤(splN g w l (i+1+q) j).length;omega) (by show (splN g w l (i+1+q) j).length - (c+1)<(splN g w l (i+1+q) j).length - c;omega) ?_
                  rw [htc,hrow]
                  (simp (disch:=first|omega|(simp only [vlen];first|done|omega)) only [Fits_u,Fits_m,Fits_nil,List.length_append,vsp,hlc,↓vAq,vBq,↓reduceIte,Nat.reduceBEq,Nat.reduceEqDiff,Nat.reduceLT,Nat.reduceLeDiff,Nat.reduceAdd,Nat.reduceMul,Nat.reduceSub,reduceCtorEq,Int.reduceToNat]<;>(repeat' first|rfl|apply And.intro))
                  all_goals first|rfl|trace_state
              · have hce:c=(splN g w l (i+1+q) j).length:=by omega
                subst hce
                rw [List.take_length] at hlc ⊢
                rw [← hsu] at hlc ⊢
                repeat' first|((first|refine Br.dec ?_ ?_|refine Br.eqi ?_ ?_)<;>intro h<;>try (exfalso;omega))|refine Z10 ?_|with_reducible exact trivial|(refine Br.mk ?_ ?_<;>intro h)|(refine BrN.mk (fun h => ?_) ?_)|(refine AltVC.mk ?_ ?_)
                refine loopK.mk (q+1,L4) Y0 ⟨by show q+1≤j - i;omega,hL4,by show (splP g w x l i j (q+1)).length≤_;omega⟩ (by show j - i - (q+1)<j - i - q;omega) ?_
                rw [hlc]
                (simp (disch:=first|omega|(simp only [vlen];first|done|omega)) only [Fits_u,Fits_m,Fits_nil,List.length_append,vsp,↓vAq,vBq,↓reduceIte,Nat.reduceBEq,Nat.reduceEqDiff,Nat.reduceLT,Nat.reduceLeDiff,Nat.reduceAdd,Nat.reduceMul,Nat.reduceSub,reduceCtorEq,Int.reduceToNat]<;>(repeat' first|rfl|apply And.intro))
                all_goals first|rfl|trace_state
          · rw [hemp,List.map_nil,List.append_nil] at hsu
            repeat' first|((first|refine Br.dec ?_ ?_|refine Br.eqi ?_ ?_)<;>intro h<;>try (exfalso;omega))|refine Z10 ?_|with_reducible exact trivial|(refine Br.mk ?_ ?_<;>intro h)|(refine BrN.mk (fun h => ?_) ?_)|(refine AltVC.mk ?_ ?_)
            refine LoopVC.mk (X:=Unit) (fun _=>[(9,.ref 3 1 0 (splP g w x l i j q).length),(51,iv .i64 0)]) (fun _=>buL g w L4++[(3,⟨1,tbl (wyD (x::l) i) (splP g w x l i j q),true,false,.arr⟩)]) (fun _=>0) (fun _=>True) () trivial ?_ ?_
            · unfold buL
              (simp (disch:=first|omega|(simp only [vlen];first|done|omega)) only [Fits_u,Fits_m,Fits_nil,List.length_append,vsp,↓vAq,vBq,↓reduceIte,Nat.reduceBEq,Nat.reduceEqDiff,Nat.reduceLT,Nat.reduceLeDiff,Nat.reduceAdd,Nat.reduceMul,Nat.reduceSub,reduceCtorEq,Int.reduceToNat]<;>(repeat' first|rfl|apply And.intro))
              all_goals first|rfl|trace_state
            · rintro _ _
              unfold buL
              repeat' first|((first|refine Br.dec ?_ ?_|refine Br.eqi ?_ ?_)<;>intro h<;>try (exfalso;omega))|refine Z10 ?_|with_reducible exact trivial|(refine Br.mk ?_ ?_<;>intro h)|(refine BrN.mk (fun h => ?_) ?_)|(refine AltVC.mk ?_ ?_)
              refine loopK.mk (q+1,L4) Y0 ⟨by show q+1≤j - i;omega,hL4,by show (splP g w x l i j (q+1)).length≤_;rw [hsu];omega⟩ (by show j - i - (q+1)<j - i - q;omega) ?_
              rw [hsu]
              (simp (disch:=first|omega|(simp only [vlen];first|done|omega)) only [Fits_u,Fits_m,Fits_nil,List.length_append,vsp,↓vAq,vBq,↓reduceIte,Nat.reduceBEq,Nat.reduceEqDiff,Nat.reduceLT,Nat.reduceLeDiff,Nat.reduceAdd,Nat.reduceMul,Nat.reduceSub,reduceCtorEq,Int.reduceToNat]<;>(repeat' first|rfl|apply And.intro))
              all_goals first|rfl|trace_state
    · have hqe:q=j - i:=by omega
      subst hqe
      repeat' first|((first|refine Br.dec ?_ ?_|refine Br.eqi ?_ ?_)<;>intro h<;>try (exfalso;omega))|refine Z10 ?_|with_reducible exact trivial|(refine Br.mk ?_ ?_<;>intro h)|(refine BrN.mk (fun h => ?_) ?_)|(refine AltVC.mk ?_ ?_)
      refine FinH_frz (τ:=3) (ob:=⟨1,tbl (wyD (x::l) i) (splP g w x l i j (j - i)),true,false,.arr⟩) Y14 Y14 rfl rfl ?_
      repeat' first|((first|refine Br.dec ?_ ?_|refine Br.eqi ?_ ?_)<;>intro h<;>try (exfalso;omega))|refine Z10 ?_|with_reducible exact trivial|(refine Br.mk ?_ ?_<;>intro h)|(refine BrN.mk (fun h => ?_) ?_)|(refine AltVC.mk ?_ ?_)
      exact finH_mk ((buO g w Lx).map some) (by simp [buO]) Y20 Y21 ⟨Lx,.inl (by rw [splN_cons];simp (disch:=first|omega|(simp only [vlen];first|done|omega)) only [vsp,↓vAq,vBq,↓reduceIte,Nat.reduceBEq,Nat.reduceEqDiff,Nat.reduceLT,Nat.reduceLeDiff,Nat.reduceAdd,Nat.reduceMul,Nat.reduceSub,reduceCtorEq,Int.reduceToNat]),rfl,hLx⟩
theorem spl_all (g:Grammar) (w:List Int) (hc:CC g w):∀ (l:List Int),l.length≤4→(∀ y,y ∈ l→0≤y∧y<g.k+g.n)→∀ i j,i≤j→j≤w.length→spP g w l i j
  | [],_,_,i,j,_,_=>fun L hL=>spl0_spec g w i j L hL
  | x::l,hl,hx,i,j,hij,hj=>fun L hL=>spl1_spec g w hc x l (by simp only [List.length_cons] at hl;omega) hx i j hij hj (fun m h1 h2=>spl_all g w hc l (by simp only [List.length_cons] at hl;omega) (fun y hy=>hx y (List.mem_cons_of_mem _ hy)) m j h2 hj) L hL
end Go.Proofs.Ytjekkbpdgnohcaa

namespace Go.Proofs.Ytjekkbpdgnohcaa
open Go.Dm
theorem getD_idx {α:Type} {l:List α} {t:Nat} {d:α} (h:t<l.length):l.getD t d=l[t]:=by simp [List.getD,h]
theorem sumL_filter {α:Type} {f:α→Nat}:∀ {l:List α},sumL f (l.filter fun c=>decide (f c ≠ 0))=sumL f l
  | []=>rfl
  | x::l=>by
    rw [List.filter_cons]
    by_cases h:f x=0
    · rw [if_neg (by simp [h]),sumL_filter,sumL,h,Nat.zero_add]
    · rw [if_pos (by simp [h]),sumL,sumL,sumL_filter]
theorem filter_at {α : Type} {p : α → Bool} : ∀ {l : List α} {t : Nat}, t < (l.filter p).length → ∃ c, c < l.length ∧ (l.take c).filter p = (l.filter p).take t ∧ ∀ d, l.getD c d = (l.filter p).getD t d
  | [],t,h=>absurd h (Nat.not_lt_zero _)
  | x :: l, t, h => by
    by_cases hx:p x=true
    · rw [List.filter_cons_of_pos hx] at h ⊢
      cases t with
      | zero=>exact ⟨0,by simp,by simp,fun d=>rfl⟩
      | succ t =>
        obtain ⟨c,h1,h2,h3⟩:=filter_at (l:=l) (p:=p) (t:=t) (by simpa using h)
        exact ⟨c+1,by simpa using h1,by rw [List.take_succ_cons,List.filter_cons_of_pos hx,h2,List.take_succ_cons],fun d=>by rw [List.getD_cons_succ,List.getD_cons_succ,h3]⟩
    · rw [List.filter_cons_of_neg hx] at h ⊢
      obtain ⟨c,h1,h2,h3⟩:=filter_at (l:=l) (p:=p) (t:=t) h
      exact ⟨c+1,by simpa using h1,by rw [List.take_succ_cons,List.filter_cons_of_neg hx,h2],fun d=>by rw [List.getD_cons_succ,h3]⟩
theorem tk_uncons {g:Grammar} {w:List Int} {x:Int} {l:List Int} {i:Nat} {es:List Nat} {st:List Int} {K:Nat} (h:Tk g w (x::l) i es st K) : ∃ e es' s1 s2 n K2,es=e::es'∧st=s1++s2∧Tk g w [x] i [e] s1 n∧Tk g w l e es' s2 K2:=by
  cases h with
  | @sym _ _ _ es st _ hx hw h=>exact ⟨_,_,[],st,0,K,rfl,rfl,.sym hx hw (.nil _),h⟩
  | @name _ _ _ e es q c s1 s2 K1 K2 hx hq hc h1 h2 =>
    exact ⟨_,_,_,s2,_,K2,rfl,rfl,by have:=Tk.name hx hq hc h1 (.nil e);rwa [List.append_nil] at this,h2⟩
structure AI (g:Grammar) (w:List Int) (rt:List Int) (i:Nat) (way:List Nat) (stp:List Int) (m:Nat) (acc:List Int) (own:Nat):Prop where
  pre : ∃ rest,stp=acc++rest
  fw:∀ st2 K2,Tk g w (rt.drop m) (stA i way m) (way.drop m) st2 K2→Tk g w rt i way (acc++st2) (own+K2)
  bw:∀ st K r,Tk g w rt i way st K→stp=st++r → ∃ st2 K2,st=acc++st2∧Tk g w (rt.drop m) (stA i way m) (way.drop m) st2 K2
  le:own+prT g w (rt.drop m) (stA i way m) (way.drop m)≤prT g w rt i way
section
variable {g:Grammar} {w:List Int} {rt:List Int} {i:Nat} {way:List Nat} {stp:List Int} {m:Nat}
theorem AI.zero:AI g w rt i way stp 0 [] 0 where
  pre:=⟨stp,rfl⟩
  fw:=fun st2 K2 h=>by rw [Nat.zero_add];exact h
  bw:=fun st K r h _=>⟨st,K,rfl,h⟩
  le:=by rw [Nat.zero_add];exact Nat.le_refl _
theorem stA_succ:stA i way (m+1)=way.getD m 0:=by unfold stA;rw [if_neg (by omega),Nat.add_sub_cancel]
theorem AI.stepG (hm:m<rt.length) (hw:m<way.length) {acc:List Int} {own:Nat} (h:AI g w rt i way stp m acc own) {s1:List Int} {n:Nat} (hT:Tk g w [rt.getD m 0] (stA i way m) [way.getD m 0] s1 n) (hp : ∃ rest,stp=acc++s1++rest) (hpr:Proper g):AI g w rt i way stp (m+1) (acc++s1) (own+n * prT g w (rt.drop (m+1)) (stA i way (m+1)) (way.drop (m+1))):=by
  have hd1:rt.drop m=rt.getD m 0::rt.drop (m+1):=dropC hm
  have hd2:way.drop m=way.getD m 0::way.drop (m+1):=dropC hw
  refine ⟨hp,fun st2 K2 h2 => ?_,fun st K r hK hs => ?_,?_⟩
  · rw [List.append_assoc,Nat.add_assoc]
    refine h.fw _ _ ?_
    rw [stA_succ] at h2 ⊢
    rw [hd1,hd2]
    exact Tk.cons hT h2
  · obtain ⟨st2,K2,e1,h2⟩:=h.bw st K r hK hs
    rw [hd1,hd2] at h2
    obtain ⟨e,es',t1,t2,n',K3,e2,e3,h3,h4⟩:=tk_uncons h2
    simp only [List.cons.injEq] at e2
    obtain ⟨rfl,rfl⟩:=e2
    obtain ⟨rest,hp⟩:=hp
    have e5:s1++rest=t1++(t2++r):=by
      have:acc++(s1++rest)=acc++(t1++(t2++r)):=by rw [← List.append_assoc,← hp,hs,e1,e3];simp
      exact List.append_cancel_left this
    obtain ⟨rfl,_,_,_⟩:=hT.det h3 e5
    exact ⟨t2,K3,by rw [e1,e3,List.append_assoc],by rw [stA_succ];exact h4⟩
  · have h1:=h.le
    have h2:=hT.lt hpr
    rw [prT_cons,prT_nil,Nat.mul_one] at h2
    rw [hd1,hd2,prT_cons,← stA_succ (i:=i)] at h1
    have:=Nat.mul_le_mul_right (prT g w (rt.drop (m+1)) (stA i way (m+1)) (way.drop (m+1))) h2
    rw [← stA_succ (i:=i),Nat.succ_mul] at this
    omega
theorem AI.sym (hm:m<rt.length) (hw:m<way.length) {acc:List Int} {own:Nat} (h:AI g w rt i way stp m acc own) (hx:rt.getD m 0<g.k) (ht:trees g w (rt.getD m 0) (stA i way m) (way.getD m 0) ≠ 0) (hpr:Proper g):AI g w rt i way stp (m+1) acc own:=by
  obtain ⟨h1,h2,h3⟩:=sym_tree (r:=0) hx (Nat.pos_of_ne_zero ht)
  have hT:Tk g w [rt.getD m 0] (stA i way m) [way.getD m 0] [] 0:=by rw [h2];exact .sym hx h3 (.nil _)
  have:=AI.stepG hm hw h hT (by rw [List.append_nil];exact h.pre) hpr
  rwa [List.append_nil,Nat.zero_mul,Nat.add_zero] at this
theorem AI.none (hm:m<rt.length) (hw:m<way.length) {acc:List Int} {own:Nat} (h:AI g w rt i way stp m acc own) (hn:∀ st1 K r,stp.drop acc.length=st1++r→¬ Tk g w [rt.getD m 0] (stA i way m) [way.getD m 0] st1 K):∀ st K r,stp=st++r→¬ Tk g w rt i way st K:=fun st K r hs hK=>by
  obtain ⟨st2,K2,e1,h2⟩:=h.bw st K r hK hs
  rw [dropC (d:=0) hm,dropC (d:=0) hw] at h2
  obtain ⟨e,es',t1,t2,n',K3,e2,e3,h3,h4⟩:=tk_uncons h2
  simp only [List.cons.injEq] at e2
  obtain ⟨rfl,rfl⟩:=e2
  refine hn t1 n' (t2++r) ?_ h3
  rw [hs,e1,e3,List.append_assoc,List.drop_left,List.append_assoc]
theorem AI.all (hm:m=rt.length) (hw:m=way.length) {acc:List Int} {own:Nat} (h:AI g w rt i way stp m acc own):Tk g w rt i way acc own:=by
  have:=h.fw [] 0
  rw [List.drop_of_length_le (by omega),List.drop_of_length_le (by omega),List.append_nil] at this
  exact this (.nil _)
end
def ahNo (g:Grammar) (w:List Int) (x:Int) (i j:Nat) (stp:List Int):Prop:=∀ st K r,stp=st++r→¬ Tk g w [x] i [j] st K
theorem ahNo_nil {g:Grammar} {w:List Int} {x:Int} {i j:Nat} (hx:¬ x<g.k):ahNo g w x i j []:=fun st K r hs hK=>by
  cases hK with
  | sym h=>exact hx h
  | name=>cases hs
theorem ahNo_rule {g:Grammar} {w:List Int} {x:Int} {i j:Nat} {stp:List Int} (hx:¬ x<g.k) (h:∀ q:Nat,stp ≠ []→stp.getD 0 0=q→¬ RuleAt g x q):ahNo g w x i j stp:=fun st K r hs hK=>by
  cases hK with
  | sym h0=>exact hx h0
  | @name _ _ _ _ _ q c s1 s2 K1 K2 hx hq hc h1 h2 =>
    exact h q (by rw [hs];simp) (by rw [hs];rfl) hq
theorem ahNo_ways {g : Grammar} {w : List Int} (hp : Proper g) {x : Int} {i j q : Nat} {stp : List Int} (hx : ¬ x < g.k) (hq0 : stp.getD 0 0 = q) (hRA : RuleAt g x q)
    (h:∀ t,t<(splN g w (g.rules.getD q default).right i j).length→∀ st K r,stp.drop 1=st++r→¬ Tk g w (g.rules.getD q default).right i ((splN g w (g.rules.getD q default).right i j).getD t default) st K):ahNo g w x i j stp:=fun st K r hs hK=>by
  cases hK with
  | sym h0=>exact hx h0
  | @name _ _ _ _ _ q' c s1 s2 K1 K2 hx hq hc h1 h2 =>
    have e:q'=q:=by
      rw [hs] at hq0
      have:((q':Nat):Int)=q:=hq0
      omega
    subst e
    have hm:(cutN ((g.rules.getD q' default).right.length - 1) i j).getD c [] ∈ splN g w (g.rules.getD q' default).right i j:=by
      rw [splN_cut hp _ _ _ (right_ne hp (rule_lt hq)),List.mem_filter]
      exact ⟨getD_cut hc,by have:=h1.lt hp;simp only [decide_eq_true_eq];omega⟩
    obtain ⟨t,ht,he⟩:=List.getElem_of_mem hm
    refine h t ht s1 K1 (s2++r) ?_ ?_
    · rw [hs,List.cons_append,List.cons_append,List.drop_succ_cons,List.drop_zero,List.append_assoc]
    · have e2:(splN g w (g.rules.getD q' default).right i j).getD t default=(cutN ((g.rules.getD q' default).right.length - 1) i j).getD c []:=by
        rw [← he];exact getD_idx ht
      rw [e2];exact h1
theorem ah_done {g:Grammar} {w:List Int} (hp:Proper g) {x:Int} {i j q t:Nat} {acc:List Int} {own:Nat} (hx:¬ x<g.k) (hRA:RuleAt g x q) (ht:t<(splN g w (g.rules.getD q default).right i j).length)
    (h:Tk g w (g.rules.getD q default).right i ((splN g w (g.rules.getD q default).right i j).getD t default) acc own):Tk g w [x] i [j] ((q:Int)::acc) (rlB g w x i j q+sumL (prT g w (g.rules.getD q default).right i) ((splN g w (g.rules.getD q default).right i j).take t)+own):=by
  have e:=splN_cut (w:=w) hp (g.rules.getD q default).right i j (right_ne hp (rule_lt hRA))
  rw [e] at ht h ⊢
  obtain ⟨c,h1,h2,h3⟩:=filter_at ht
  rw [← h3] at h
  have:=Tk.name (l:=[]) (es:=[]) (s2:=[]) (K2:=0) hx hRA h1 h (.nil j)
  rw [prT_nil,Nat.mul_one,Nat.add_zero,List.append_nil] at this
  rw [← h2,sumL_filter]
  exact this
theorem ways_sum {g:Grammar} {w:List Int} (hp:Proper g) {l:List Int} {i j:Nat} (hl:l ≠ []):sumL (prT g w l i) (splN g w l i j)=rowN g w l i j:=by
  rw [splN_cut hp l i j hl,sumL_filter,cut_sum l i j hl]
theorem way_pos {g:Grammar} {w:List Int} (hp:Proper g) {l:List Int} {i j:Nat} (hl:l ≠ []) {c:List Nat} (hc:c ∈ splN g w l i j):c ∈ cutN (l.length - 1) i j∧prT g w l i c ≠ 0:=by
  rw [splN_cut hp l i j hl,List.mem_filter] at hc
  exact ⟨hc.1,by simpa using hc.2⟩
end Go.Proofs.Ytjekkbpdgnohcaa
