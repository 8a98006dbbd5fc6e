/-
 Texts of this claim, one behind another.
-/
import Derived.Test.YtjekkbpdgnohcaaMg13
import Derived.Test.YtjekkbpdgnohcaaMg11
set_option linter.unusedSimpArgs false
set_option linter.unnecessarySimpa false
set_option linter.unusedVariables false
set_option linter.defProp false
namespace Go.Proofs.Ytjekkbpdgnohcaa
open Go.Dm
structure BE where
  x:Int
  i:Nat
  j:Nat
  v:Nat
deriving Inhabited
def beD (e:BE):List D:=[iv .i64 e.x,iv .i64 e.i,iv .i64 e.j,iv .i64 e.v]
theorem beD_eq {e:BE}:beD e=[iv .i64 e.x,iv .i64 e.i,iv .i64 e.j,iv .i64 e.v]:=(rfl)
def BI (g:Grammar) (w:List Int) (L:List BE):Prop:=∀ e,e ∈ L→e.v=cp (trees g w e.x e.i e.j)
theorem BI.nil {g:Grammar} {w:List Int}:BI g w []:=fun e h=>by cases h
theorem BI.add {g:Grammar} {w:List Int} {L:List BE} (h:BI g w L) {e:BE} (he:e.v=cp (trees g w e.x e.i e.j)):BI g w (L++[e]):=fun x hx=>by
  rcases List.mem_append.mp hx with h1|h1
  · exact h x h1
  · rw [List.mem_singleton.mp h1];exact he
theorem BI.set {g:Grammar} {w:List Int} {L:List BE} (h:BI g w L) {e:BE} {r:Nat} (he:e.v=cp (trees g w e.x e.i e.j)):BI g w (L.set r e):=fun x hx=>by
  rcases List.mem_or_eq_of_mem_set hx with h1|h1
  · exact h x h1
  · rw [h1];exact he
theorem be_in {g:Grammar} {w:List Int} {L:List BE} (h:BI g w L) {r:Nat} {x:Int} {i j:Nat} (hr:r<(tbl beD L).length) (he:Agr (((tbl beD L).getD r []).take 3) [.v (.int .i64 x),.v (.int .i64 i),.v (.int .i64 j)]):(tbl beD L).getD r []=[iv .i64 x,iv .i64 i,iv .i64 j,iv .i64 (cp (trees g w x i j))]:=by
  rw [tbl_len] at hr
  rw [tbl_get hr] at he ⊢
  rw [beD_eq] at he ⊢
  simp only [List.take_succ_cons,List.take_zero,Agr_v,D.v.injEq,Value.int.injEq,true_and,Int.natCast_inj] at he
  have hm:=h _ (getD_mem' (l:=L) (i:=r) hr)
  rw [hm,he.1,he.2.1,he.2.2.1]
theorem be_app {L:List BE} {x:Int} {i j v:Nat}:tbl beD L++[[D.v (.int .i64 x),D.v (.int .i64 i),D.v (.int .i64 j),D.v (.int .i64 v)]]=tbl beD (L++[⟨x,i,j,v⟩]):=by rw [tbl_app];rfl
theorem be_set {L:List BE} {r:Nat} {x:Int} {i j v:Nat}:(tbl beD L).set r [D.v (.int .i64 x),D.v (.int .i64 i),D.v (.int .i64 j),D.v (.int .i64 v)]=tbl beD (L.set r ⟨x,i,j,v⟩):=by rw [← tbl_set];rfl
def vbe:=And.intro vmr<|And.intro @be_app<|And.intro @be_set<|And.intro @rulD_eq @Int.add_sub_cancel
def buO (g:Grammar) (w:List Int) (L:List BE):List Ob:=[⟨6,[[iv .i64 g.k,iv .i64 g.n,iv .i64 g.start,.sl 2 (tbl rulD g.rules),.sl 1 (i64s w),.mp 1]],false,false,.fix⟩,⟨4,tbl beD L,true,false,.map [.i64,.i64,.i64] true false⟩]
def buL (g:Grammar) (w:List Int) (L:List BE):List (Nat × Ob):=[(0,⟨6,[[iv .i64 g.k,iv .i64 g.n,iv .i64 g.start,.sl 2 (tbl rulD g.rules),.sl 1 (i64s w),.mp 1]],false,false,.fix⟩),(1,⟨4,tbl beD L,true,false,.map [.i64,.i64,.i64] true false⟩)]
def buR (g:Grammar) (w:List Int) (n:Nat) (d:D) (o:List (Option Ob)):Prop := ∃ L,d=iv .i64 (cp n)∧o=(buO g w L).map some∧BI g w L
theorem bush_fin {g:Grammar} {w:List Int} {s:S} {n:Nat} {v:Int} {L:List BE} (h1:2≤s.N) (h2:fitL s 2 0 ((buO g w L).map some)) (hv:v=(cp n:Nat)) (hL:BI g w L):FinH 2 (buR g w n) s (D.v (.int .i64 v)) :=
  finH_mk ((buO g w L).map some) (by simp [buO]) (by simpa [buO] using h1) (by simpa [buO] using h2) ⟨L,by subst hv;rw [trim_v],rfl,hL⟩
theorem nsum_cp_le {f:Nat→Nat}:∀ {n:Nat},nsum (fun q=>cp (f q)) n≤n * 1099511627777
  | 0=>Nat.zero_le _
  | n+1=>by
    have:=@nsum_cp_le f n
    have h2:=@cp_le (f n)
    rw [nsum_succ,Nat.succ_mul];omega
theorem nsum_cp {f:Nat→Nat}:∀ {n:Nat},cp (nsum f n)=cp (nsum (fun q=>cp (f q)) n)
  | 0=>rfl
  | n+1=>by
    have:=@nsum_cp f n
    rw [nsum_succ,nsum_succ]
    unfold cp at this ⊢;omega
def btP (g:Grammar) (w:List Int) (x:Int) (i j:Nat):Prop:=∀ L,BI g w L→Dm.SpecH Try.prog 15 [.ptr 0 6 0 0,iv .i64 x,iv .i64 i,iv .i64 j] (buO g w L) (buR g w (trees g w x i j))
def brP (g:Grammar) (w:List Int) (l:List Int) (i j:Nat):Prop:=∀ L,BI g w L→Dm.SpecH Try.prog 28 [.ptr 0 6 0 0,.sl 1 (i64s l),iv .i64 i,iv .i64 j] (buO g w L) (buR g w (rowN g w l i j))
set_option maxRecDepth 10000 in
set_option maxHeartbeats 4000000 in
theorem trS_spec (g:Grammar) (w:List Int) (hc:CC g w) (x:Int) (i j:Nat) (hx:x<g.k) (hx0:0≤x) (hij:i≤j) (hj:j≤w.length) (L:List BE) (hL:BI g w L):Dm.SpecH Try.prog 15 [.ptr 0 6 0 0,iv .i64 x,iv .i64 i,iv .i64 j] (buO g w L) (buR g w (trees g w x i j)):=by
  refine specH_of_vc mixed Try.func15 c15 (by rw [show Try.f15.ntmps=_ from Try.ntmps15];simp) ?_
  unfold m15 r15
  have hk:=hc.v.k
  have hw:=hc.w
  rw [trees_sym hx]
  unfold buO
  repeat' first|((first|refine Br.dec ?_ ?_|refine Br.eqi ?_ ?_)<;>intro h<;>try (exfalso;omega))|refine Z5 ?_|with_reducible exact trivial|(refine Br.mk ?_ ?_<;>intro h)|(refine BrN.mk (fun h => ?_) ?_)|(refine AltVC.mk ?_ ?_)
  · refine bush_fin (L:=L) Y4 Y6 ?_ hL
    unfold symV;rw [if_pos ⟨by omega,by assumption⟩];rfl
  · refine bush_fin (L:=L) Y4 Y6 ?_ hL
    unfold symV;rw [if_neg fun h=>by have:=h.2;contradiction];rfl
  · refine bush_fin (L:=L) Y4 Y6 ?_ hL
    unfold symV;rw [if_neg fun h=>by have:=h.1;omega];rfl
set_option maxRecDepth 10000 in
set_option maxHeartbeats 4000000 in
theorem trN_spec (g : Grammar) (w : List Int) (hc : CC g w) (x : Int) (i j : Nat) (hx : ¬ x < g.k) (hx2 : x < g.k + g.n) (hij : i ≤ j) (hj : j ≤ w.length) (ihR : ∀ q, q < g.rules.length → brP g w (g.rules.getD q default).right i j) (L : List BE) (hL : BI g w L) : Dm.SpecH Try.prog 15 [.ptr 0 6 0 0, iv .i64 x, iv .i64 i, iv .i64 j] (buO g w L) (buR g w (trees g w x i j)) := by
  refine specH_of_vc mixed Try.func15 c15 (by rw [show Try.f15.ntmps=_ from Try.ntmps15];simp) ?_
  unfold m15 r15
  have hk:=hc.v.k
  have hn:=hc.v.n
  have hw:=hc.w
  have hlen:=hc.v.len
  have hleft:∀ q,q<g.rules.length→0≤(g.rules.getD q default).left∧(g.rules.getD q default).left<g.n:=fun q hq=>hc.v.left _ (getD_mem' hq)
  by_cases hij0:i=j
  · subst hij0
    rw [trees_none hc.p (Nat.le_refl _)]
    unfold buO
    repeat' first|((first|refine Br.dec ?_ ?_|refine Br.eqi ?_ ?_)<;>intro h<;>try (exfalso;omega))|refine Z5 ?_|with_reducible exact trivial|(refine Br.mk ?_ ?_<;>intro h)|(refine BrN.mk (fun h => ?_) ?_)|(refine AltVC.mk ?_ ?_)
    exact bush_fin (L:=L) Y4 Y6 rfl hL
  unfold buO
  repeat' first|((first|refine Br.dec ?_ ?_|refine Br.eqi ?_ ?_)<;>intro h<;>try (exfalso;omega))|refine Z5 ?_|with_reducible exact trivial|(refine Br.mk ?_ ?_<;>intro h)|(refine BrN.mk (fun h => ?_) ?_)|(refine AltVC.mk ?_ ?_)
  refine BrK.mk (fun r hr he => ?_) (fun hnn => ?_)
  · have hR:=be_in hL hr he
    repeat' first|((first|refine Br.dec ?_ ?_|refine Br.eqi ?_ ?_)<;>intro h<;>try (exfalso;omega))|(simp (disch:=first|omega|(simp only [vlen];first|done|omega)) only [vbe,hR,↓vAq,vBq,↓reduceIte,Nat.reduceBEq,Nat.reduceEqDiff,Nat.reduceLT,Nat.reduceLeDiff,Nat.reduceAdd,Nat.reduceMul,Nat.reduceSub,reduceCtorEq,Int.reduceToNat])|(refine Br.mk ?_ ?_<;>intro h)|(refine BrN.mk (fun h => ?_) ?_)|(refine AltVC.mk ?_ ?_)
    exact bush_fin (L:=L) Y4 Y6 rfl hL
  · repeat' first | ((first | refine Br.dec ?_ ?_ | refine Br.eqi ?_ ?_) <;> intro h <;> try (exfalso; omega)) | refine Z5 ?_ | with_reducible exact trivial | (refine Br.mk ?_ ?_ <;> intro h) | (refine BrN.mk (fun h => ?_) ?_) | (refine AltVC.mk ?_ ?_)
    refine LoopVC.mk (X:=Nat × List BE) (fun y=>[(9,iv .i64 (nsum (fun q=>cp (ruleV g w x i j q)) y.1)),(58,iv .i64 y.1)]) (fun y=>buL g w y.2) (fun y=>g.rules.length - y.1) (fun y=>y.1≤g.rules.length∧BI g w y.2) (0,L) ⟨Nat.zero_le _,hL⟩ ?_ ?_
    · unfold buL
      (simp (disch:=first|omega|(simp only [vlen];first|done|omega)) only [Fits_u,Fits_m,Fits_nil,List.length_append,vbe,↓vAq,vBq,↓reduceIte,Nat.reduceBEq,Nat.reduceEqDiff,Nat.reduceLT,Nat.reduceLeDiff,Nat.reduceAdd,Nat.reduceMul,Nat.reduceSub,reduceCtorEq,Int.reduceToNat]<;>(repeat' first|rfl|apply And.intro))
      all_goals first|rfl|trace_state
    · rintro ⟨q,Lx⟩ ⟨hq1,hLx⟩
      simp only at hq1 hLx ⊢
      unfold buL
      have hsum:=nsum_cp_le (f:=ruleV g w x i j) (n:=q)
      have hsq:=Nat.mul_le_mul_right 1099511627777 (show q≤10 by omega)
      by_cases hq:q<g.rules.length
      · have hlq:=hleft q hq
        have hmr:=hc.v.long _ (getD_mem' (l:=g.rules) (i:=q) hq)
        have hcq:=@cp_le (rowN g w (g.rules.getD q default).right i j)
        by_cases hlx:(g.rules.getD q default).left=x - g.k
        · repeat' first|((first|refine Br.dec ?_ ?_|refine Br.eqi ?_ ?_)<;>intro h<;>try (exfalso;omega))|refine Z5 ?_|with_reducible exact trivial|(refine Br.mk ?_ ?_<;>intro h)|(refine BrN.mk (fun h => ?_) ?_)|(refine AltVC.mk ?_ ?_)
          refine CallVC.lendE [0,1] [.ptr 0 6 0 0,.sl 1 (i64s (g.rules.getD q default).right),iv .i64 i,iv .i64 j] (buO g w Lx) (ihR q hq Lx hLx) (by simp) (by rfl) Y5 ?_
          rintro _ _ ⟨L2,rfl,rfl,hL2⟩
          unfold buO
          repeat' first|((first|refine Br.dec ?_ ?_|refine Br.eqi ?_ ?_)<;>intro h<;>try (exfalso;omega))|refine Z5 ?_|with_reducible exact trivial|(refine Br.mk ?_ ?_<;>intro h)|(refine BrN.mk (fun h => ?_) ?_)|(refine AltVC.mk ?_ ?_)
          refine loopK.mk (q+1,L2) Y0 ⟨by show q+1≤g.rules.length;omega,hL2⟩ (by show g.rules.length - (q+1)<g.rules.length - q;omega) ?_
          simp only [nsum_succ]
          rw [show ruleV g w x i j q=rowN g w (g.rules.getD q default).right i j by unfold ruleV;rw [if_pos hlx]]
          (simp (disch:=first|omega|(simp only [vlen];first|done|omega)) only [Fits_u,Fits_m,Fits_nil,List.length_append,vbe,↓vAq,vBq,↓reduceIte,Nat.reduceBEq,Nat.reduceEqDiff,Nat.reduceLT,Nat.reduceLeDiff,Nat.reduceAdd,Nat.reduceMul,Nat.reduceSub,reduceCtorEq,Int.reduceToNat]<;>(repeat' first|rfl|apply And.intro))
          all_goals first|rfl|trace_state
        · repeat' first|((first|refine Br.dec ?_ ?_|refine Br.eqi ?_ ?_)<;>intro h<;>try (exfalso;omega))|refine Z5 ?_|with_reducible exact trivial|(refine Br.mk ?_ ?_<;>intro h)|(refine BrN.mk (fun h => ?_) ?_)|(refine AltVC.mk ?_ ?_)
          refine loopK.mk (q+1,Lx) Y0 ⟨by show q+1≤g.rules.length;omega,hLx⟩ (by show g.rules.length - (q+1)<g.rules.length - q;omega) ?_
          simp only [nsum_succ]
          rw [show ruleV g w x i j q=0 by unfold ruleV;rw [if_neg hlx],show cp 0=0 from rfl,Nat.add_zero]
          (simp (disch:=first|omega|(simp only [vlen];first|done|omega)) only [Fits_u,Fits_m,Fits_nil,List.length_append,vbe,↓vAq,vBq,↓reduceIte,Nat.reduceBEq,Nat.reduceEqDiff,Nat.reduceLT,Nat.reduceLeDiff,Nat.reduceAdd,Nat.reduceMul,Nat.reduceSub,reduceCtorEq,Int.reduceToNat]<;>(repeat' first|rfl|apply And.intro))
          all_goals first|rfl|trace_state
      · have e2:q=g.rules.length:=by omega
        subst e2
        have htr:=trees_name hc.p (w:=w) (i:=i) (j:=j) hx
        have hcp:cp (trees g w x i j)=cp (nsum (fun q=>cp (ruleV g w x i j q)) g.rules.length):=by rw [htr,nsum_cp]
        obtain ⟨S,hS⟩ : ∃ S,nsum (fun q=>cp (ruleV g w x i j q)) g.rules.length=S:=⟨_,rfl⟩
        rw [hS] at hcp hsum ⊢
        repeat' first|((first|refine Br.dec ?_ ?_|refine Br.eqi ?_ ?_)<;>intro h<;>try (exfalso;omega))|refine Z5 ?_|with_reducible exact trivial|(refine Br.mk ?_ ?_<;>intro h)|(refine BrN.mk (fun h => ?_) ?_)|(refine AltVC.mk ?_ ?_)
        · have hv:cp (trees g w x i j)=1099511627777:=by rw [hcp];unfold cp;omega
          obtain ⟨C,hC,hC2⟩ : ∃ C:Nat,(1099511627777:Int)=C∧1099511627777=C:=⟨1099511627777,rfl,rfl⟩
          rw [hC2] at hv
          refine BrK.mk (fun r hr he => ?_) (fun hnn => ?_)
          · repeat' first|((first|refine Br.dec ?_ ?_|refine Br.eqi ?_ ?_)<;>intro h<;>try (exfalso;omega))|refine Z24 ?_|with_reducible exact trivial|(refine Br.mk ?_ ?_<;>intro h)|(refine BrN.mk (fun h => ?_) ?_)|(refine AltVC.mk ?_ ?_)
            exact bush_fin (L:=Lx.set r ⟨x,i,j,C⟩) Y4 Y6 (by rw [hv]) (hLx.set hv.symm)
          · repeat' first|((first|refine Br.dec ?_ ?_|refine Br.eqi ?_ ?_)<;>intro h<;>try (exfalso;omega))|refine Z24 ?_|with_reducible exact trivial|(refine Br.mk ?_ ?_<;>intro h)|(refine BrN.mk (fun h => ?_) ?_)|(refine AltVC.mk ?_ ?_)
            exact bush_fin (L:=Lx++[⟨x,i,j,C⟩]) Y4 Y6 (by rw [hv]) (hLx.add hv.symm)
        · have hv:cp (trees g w x i j)=S:=by rw [hcp];unfold cp;omega
          refine BrK.mk (fun r hr he => ?_) (fun hnn => ?_)
          · repeat' first|((first|refine Br.dec ?_ ?_|refine Br.eqi ?_ ?_)<;>intro h<;>try (exfalso;omega))|refine Z5 ?_|with_reducible exact trivial|(refine Br.mk ?_ ?_<;>intro h)|(refine BrN.mk (fun h => ?_) ?_)|(refine AltVC.mk ?_ ?_)
            exact bush_fin (L:=Lx.set r ⟨x,i,j,S⟩) Y4 Y6 (by rw [hv]) (hLx.set hv.symm)
          · repeat' first|((first|refine Br.dec ?_ ?_|refine Br.eqi ?_ ?_)<;>intro h<;>try (exfalso;omega))|refine Z5 ?_|with_reducible exact trivial|(refine Br.mk ?_ ?_<;>intro h)|(refine BrN.mk (fun h => ?_) ?_)|(refine AltVC.mk ?_ ?_)
            exact bush_fin (L:=Lx++[⟨x,i,j,S⟩]) Y4 Y6 (by rw [hv]) (hLx.add hv.symm)
def lsF (g:Grammar) (w:List Int) (l:List Int) (i j m:Nat):Nat:=trees g w (l.getD 0 0) i m * rowN g w (l.drop 1) m j
theorem lsF_eq {g:Grammar} {w:List Int} {l:List Int} {i j:Nat} (h:1<l.length):rowN g w l i j=tsum (lsF g w l i j) (i+1) j:=by
  have:=@rowN_drop g w l 0 i j (by omega)
  rw [List.drop_zero] at this;exact this
theorem bush_sum {a b:Nat} (h:¬ (1099511627776:Int)<(cp a:Nat)+(cp b:Nat)):((cp a:Nat):Int)+(cp b:Nat)=(cp (a+b):Nat):=by unfold cp at *;omega
theorem bush_cap {a b:Nat} (h:(1099511627776:Int)<(cp a:Nat)+(cp b:Nat)):(1099511627777:Int)=(cp (a+b):Nat):=by unfold cp at *;omega
theorem bush_no {a:Nat} (h:(1099511627776:Int)<(cp a:Nat)):(1099511627777:Int)=(cp a:Nat):=by unfold cp at *;omega
set_option maxRecDepth 10000 in
set_option maxHeartbeats 4000000 in
theorem rwB_spec (g : Grammar) (w : List Int) (hc : CC g w) (l : List Int) (hll : l.length ≤ 4) (hx : ∀ k, k < l.length → 0 ≤ l.getD k 0 ∧ l.getD k 0 < g.k + g.n) (i j : Nat) (hij : i ≤ j) (hj : j ≤ w.length) (ihT : ∀ m, i ≤ m → m < j → btP g w (l.getD 0 0) i m) (ihR : ∀ m, i < m → m ≤ j → brP g w (l.drop 1) m j) (hs : l.length = 1 → btP g w (l.getD 0 0) i j) (L : List BE) (hL : BI g w L) : Dm.SpecH Try.prog 28 [.ptr 0 6 0 0, .sl 1 (i64s l), iv .i64 i, iv .i64 j] (buO g w L) (buR g w (rowN g w l i j)) := by
  refine specH_of_vc mixed Try.func28 c28 (by rw [show Try.f28.ntmps=_ from Try.ntmps28];simp) ?_
  unfold m28 r28
  have hk:=hc.v.k
  have hw:=hc.w
  by_cases hsh:j - i<l.length
  · unfold buO
    repeat' first|((first|refine Br.dec ?_ ?_|refine Br.eqi ?_ ?_)<;>intro h<;>try (exfalso;omega))|refine Z5 ?_|with_reducible exact trivial|(refine Br.mk ?_ ?_<;>intro h)|(refine BrN.mk (fun h => ?_) ?_)|(refine AltVC.mk ?_ ?_)
    refine bush_fin (L:=L) Y4 Y6 ?_ hL
    rw [rowN_short hc.p hsh];rfl
  by_cases h0:l.length=0
  · have h0':=List.eq_nil_of_length_eq_zero h0
    subst h0'
    unfold buO
    repeat' first|((first|refine Br.dec ?_ ?_|refine Br.eqi ?_ ?_)<;>intro h<;>try (exfalso;omega))|refine Z5 ?_|with_reducible exact trivial|(refine Br.mk ?_ ?_<;>intro h)|(refine BrN.mk (fun h => ?_) ?_)|(refine AltVC.mk ?_ ?_)
    · refine bush_fin (L:=L) Y4 Y6 ?_ hL
      rw [rowN_nil,if_pos (by omega)];rfl
    · refine bush_fin (L:=L) Y4 Y6 ?_ hL
      rw [rowN_nil,if_neg (by omega)];rfl
  by_cases hone:l.length=1
  · have hS:=hs hone L hL
    have e:=@rowN_last g w l 0 i j (by omega)
    rw [List.drop_zero] at e
    rw [e]
    unfold buO
    repeat' first|((first|refine Br.dec ?_ ?_|refine Br.eqi ?_ ?_)<;>intro h<;>try (exfalso;omega))|refine Z5 ?_|with_reducible exact trivial|(refine Br.mk ?_ ?_<;>intro h)|(refine BrN.mk (fun h => ?_) ?_)|(refine AltVC.mk ?_ ?_)
    refine CallVC.lendE [0,1] [.ptr 0 6 0 0,iv .i64 (l.getD 0 0),iv .i64 i,iv .i64 j] (buO g w L) hS (by simp) (by rfl) Y5 ?_
    rintro _ _ ⟨L2,rfl,rfl,hL2⟩
    unfold buO
    repeat' first|((first|refine Br.dec ?_ ?_|refine Br.eqi ?_ ?_)<;>intro h<;>try (exfalso;omega))|refine Z5 ?_|with_reducible exact trivial|(refine Br.mk ?_ ?_<;>intro h)|(refine BrN.mk (fun h => ?_) ?_)|(refine AltVC.mk ?_ ?_)
    exact bush_fin (L:=L2) Y4 Y6 rfl hL2
  · rw [lsF_eq (by omega)]
    unfold buO
    repeat' first|((first|refine Br.dec ?_ ?_|refine Br.eqi ?_ ?_)<;>intro h<;>try (exfalso;omega))|refine Z5 ?_|with_reducible exact trivial|(refine Br.mk ?_ ?_<;>intro h)|(refine BrN.mk (fun h => ?_) ?_)|(refine AltVC.mk ?_ ?_)
    refine LoopVC.mk (X:=Nat × List BE) (fun y=>[(9,iv .i64 (cp (tsum (lsF g w l i j) (i+1) y.1))),(10,iv .i64 y.1)]) (fun y=>buL g w y.2) (fun y=>j - y.1) (fun y=>i+1≤y.1∧y.1≤j∧BI g w y.2) (i+1,L) ⟨Nat.le_refl _,by omega,hL⟩ ?_ ?_
    · unfold buL
      rw [tsum_empty (Nat.le_refl _)]
      (simp (disch:=first|omega|(simp only [vlen];first|done|omega)) only [Fits_u,Fits_m,Fits_nil,List.length_append,vbe,↓vAq,vBq,↓reduceIte,Nat.reduceBEq,Nat.reduceEqDiff,Nat.reduceLT,Nat.reduceLeDiff,Nat.reduceAdd,Nat.reduceMul,Nat.reduceSub,reduceCtorEq,Int.reduceToNat]<;>(repeat' first|rfl|apply And.intro))
      all_goals first|rfl|trace_state
    · rintro ⟨m,Lx⟩ ⟨hm1,hm2,hLx⟩
      simp only at hm1 hm2 hLx ⊢
      unfold buL
      have hsl:=@cp_le (tsum (lsF g w l i j) (i+1) m)
      have hpl:=@cp_le (lsF g w l i j m)
      by_cases hmj:m<j
      · have hdr:(l.drop 1).length=l.length - 1:=List.length_drop
        repeat' first|((first|refine Br.dec ?_ ?_|refine Br.eqi ?_ ?_)<;>intro h<;>try (exfalso;omega))|refine Z5 ?_|with_reducible exact trivial|(refine Br.mk ?_ ?_<;>intro h)|(refine BrN.mk (fun h => ?_) ?_)|(refine AltVC.mk ?_ ?_)
        refine CallVC.lendE [0,1] [.ptr 0 6 0 0,.sl 1 (i64s (l.drop 1)),iv .i64 m,iv .i64 j] (buO g w Lx) (ihR m (by omega) (by omega) Lx hLx) (by simp) (by rfl) Y5 ?_
        rintro _ _ ⟨L2,rfl,rfl,hL2⟩
        unfold buO
        repeat' first|((first|refine Br.dec ?_ ?_|refine Br.eqi ?_ ?_)<;>intro h<;>try (exfalso;omega))|refine Z5 ?_|with_reducible exact trivial|(refine Br.mk ?_ ?_<;>intro h)|(refine BrN.mk (fun h => ?_) ?_)|(refine AltVC.mk ?_ ?_)
        · refine CallVC.lendE [0,1] [.ptr 0 6 0 0,iv .i64 (l.getD 0 0),iv .i64 i,iv .i64 m] (buO g w L2) (ihT m (by omega) hmj L2 hL2) (by simp) (by rfl) Y5 ?_
          rintro _ _ ⟨L3,rfl,rfl,hL3⟩
          unfold buO
          repeat' first|((first|refine Br.dec ?_ ?_|refine Br.eqi ?_ ?_)<;>intro h<;>try (exfalso;omega))|refine Z5 ?_|with_reducible exact trivial|(refine Br.mk ?_ ?_<;>intro h)|(refine BrN.mk (fun h => ?_) ?_)|(refine AltVC.mk ?_ ?_)
          refine CallVC.eq (capped_cp _ _) ?_
          rw [show trees g w (l.getD 0 0) i m * rowN g w (l.drop 1) m j=lsF g w l i j m from rfl]
          repeat' first|((first|refine Br.dec ?_ ?_|refine Br.eqi ?_ ?_)<;>intro h<;>try (exfalso;omega))|refine Z5 ?_|with_reducible exact trivial|(refine Br.mk ?_ ?_<;>intro h)|(refine BrN.mk (fun h => ?_) ?_)|(refine AltVC.mk ?_ ?_)
          · refine loopK.mk (m+1,L3) Y0 ⟨by show i+1≤m+1;omega,by show m+1≤j;omega,hL3⟩ (by show j - (m+1)<j - m;omega) ?_
            simp only [tsum_succ hm1,← bush_cap h]
            (simp (disch:=first|omega|(simp only [vlen];first|done|omega)) only [Fits_u,Fits_m,Fits_nil,List.length_append,vbe,↓vAq,vBq,↓reduceIte,Nat.reduceBEq,Nat.reduceEqDiff,Nat.reduceLT,Nat.reduceLeDiff,Nat.reduceAdd,Nat.reduceMul,Nat.reduceSub,reduceCtorEq,Int.reduceToNat]<;>(repeat' first|rfl|apply And.intro))
            all_goals first|rfl|trace_state
          · refine loopK.mk (m+1,L3) Y0 ⟨by show i+1≤m+1;omega,by show m+1≤j;omega,hL3⟩ (by show j - (m+1)<j - m;omega) ?_
            simp only [tsum_succ hm1,← bush_sum h]
            (simp (disch:=first|omega|(simp only [vlen];first|done|omega)) only [Fits_u,Fits_m,Fits_nil,List.length_append,vbe,↓vAq,vBq,↓reduceIte,Nat.reduceBEq,Nat.reduceEqDiff,Nat.reduceLT,Nat.reduceLeDiff,Nat.reduceAdd,Nat.reduceMul,Nat.reduceSub,reduceCtorEq,Int.reduceToNat]<;>(repeat' first|rfl|apply And.intro))
            all_goals first|rfl|trace_state
        all_goals
          have hz:lsF g w l i j m=0:=by unfold lsF;rw [(cp_zero (n:=rowN g w (l.drop 1) m j)).mp (by omega),Nat.mul_zero]
        · refine loopK.mk (m+1,L2) Y0 ⟨by show i+1≤m+1;omega,by show m+1≤j;omega,hL2⟩ (by show j - (m+1)<j - m;omega) ?_
          simp only [tsum_succ hm1,hz,Nat.add_zero]
          rw [← bush_no (by assumption)]
          (simp (disch:=first|omega|(simp only [vlen];first|done|omega)) only [Fits_u,Fits_m,Fits_nil,List.length_append,vbe,↓vAq,vBq,↓reduceIte,Nat.reduceBEq,Nat.reduceEqDiff,Nat.reduceLT,Nat.reduceLeDiff,Nat.reduceAdd,Nat.reduceMul,Nat.reduceSub,reduceCtorEq,Int.reduceToNat]<;>(repeat' first|rfl|apply And.intro))
          all_goals first|rfl|trace_state
        · refine loopK.mk (m+1,L2) Y0 ⟨by show i+1≤m+1;omega,by show m+1≤j;omega,hL2⟩ (by show j - (m+1)<j - m;omega) ?_
          simp only [tsum_succ hm1,hz,Nat.add_zero]
          (simp (disch:=first|omega|(simp only [vlen];first|done|omega)) only [Fits_u,Fits_m,Fits_nil,List.length_append,vbe,↓vAq,vBq,↓reduceIte,Nat.reduceBEq,Nat.reduceEqDiff,Nat.reduceLT,Nat.reduceLeDiff,Nat.reduceAdd,Nat.reduceMul,Nat.reduceSub,reduceCtorEq,Int.reduceToNat]<;>(repeat' first|rfl|apply And.intro))
          all_goals first|rfl|trace_state
      · have e2:m=j:=by omega
        subst e2
        repeat' first|((first|refine Br.dec ?_ ?_|refine Br.eqi ?_ ?_)<;>intro h<;>try (exfalso;omega))|refine Z5 ?_|with_reducible exact trivial|(refine Br.mk ?_ ?_<;>intro h)|(refine BrN.mk (fun h => ?_) ?_)|(refine AltVC.mk ?_ ?_)
        exact bush_fin (L:=Lx) Y4 Y6 rfl hLx
theorem bush_all (g : Grammar) (w : List Int) (hc : CC g w) : ∀ n, (∀ x i j, 0 ≤ x → x < g.k + g.n → i ≤ j → j ≤ w.length → j - i < n → btP g w x i j) ∧ (∀ l i j, l.length ≤ 4 → (∀ k, k < l.length → 0 ≤ l.getD k 0 ∧ l.getD k 0 < g.k + g.n) → i ≤ j → j ≤ w.length → j - i < n → brP g w l i j) := by
  intro n
  induction n with
  | zero=>exact ⟨fun _ _ _ _ _ _ _ h=>absurd h (Nat.not_lt_zero _),fun _ _ _ _ _ _ _ h=>absurd h (Nat.not_lt_zero _)⟩
  | succ n ih =>
    have hdx:∀ l:List Int,(∀ k,k<l.length→0≤l.getD k 0∧l.getD k 0<g.k+g.n)→∀ k,k<(l.drop 1).length→0≤(l.drop 1).getD k 0∧(l.drop 1).getD k 0<g.k+g.n:=fun l h k hk=>by
      rw [List.length_drop] at hk
      have:=h (k+1) (by omega)
      rwa [show (l.drop 1).getD k 0=l.getD (k+1) 0 by simp [List.getD,Nat.add_comm]]
    have hR:∀ l i j,l.length≤4→(∀ k,k<l.length→0≤l.getD k 0∧l.getD k 0<g.k+g.n)→i≤j→j≤w.length→j - i<n+1→(l.length=1→btP g w (l.getD 0 0) i j)→brP g w l i j:=fun l i j hl hx hij hj hn hs L hL=>by
      by_cases h2:l.length<2
      · by_cases h1:l.length=1
        · refine rwB_spec g w hc l hl hx i j hij hj (fun m h3 h4=>ih.1 _ _ _ (hx 0 (by omega)).1 (hx 0 (by omega)).2 h3 (by omega) (by omega)) (fun m h3 h4=>ih.2 _ m j (by rw [List.length_drop];omega) (hdx l hx) h4 hj (by omega)) hs L hL
        · have h0:=List.eq_nil_of_length_eq_zero (show l.length=0 by omega)
          subst h0
          refine rwB_spec g w hc [] (by simp) (by simp) i j hij hj (fun m h3 h4 L hL => ?_) (fun m h3 h4=>ih.2 _ m j (by simp) (by simp) h4 hj (by omega)) hs L hL
          have hk:=hc.v.k
          exact trS_spec g w hc 0 i m (by omega) (Int.le_refl 0) h3 (by omega) L hL
      · refine rwB_spec g w hc l hl hx i j hij hj (fun m h3 h4=>ih.1 _ _ _ (hx 0 (by omega)).1 (hx 0 (by omega)).2 h3 (by omega) (by omega)) (fun m h3 h4=>ih.2 _ m j (by rw [List.length_drop];omega) (hdx l hx) h4 hj (by omega)) hs L hL
    have hT:∀ x i j,0≤x→x<g.k+g.n→i≤j→j≤w.length→j - i<n+1→btP g w x i j:=fun x i j h0 h1 hij hj hn L hL=>by
      by_cases hx:x<g.k
      · exact trS_spec g w hc x i j hx h0 hij hj L hL
      · refine trN_spec g w hc x i j hx h1 hij hj (fun q hq => ?_) L hL
        have hr:=getD_mem' (l:=g.rules) (i:=q) hq
        refine hR _ i j (hc.v.long _ hr) (fun k hk=>hc.v.right _ hr _ (getD_mem' (l:=(g.rules.getD q default).right) (i:=k) hk)) hij hj hn (fun h1 L hL => ?_)
        have hs:(g.rules.getD q default).right=[(g.rules.getD q default).right.getD 0 0]:=by
          match hl:(g.rules.getD q default).right,h1 with
          | [s],_=>rfl
        have h0:=hc.v.right _ hr _ (by rw [hs];simp:(g.rules.getD q default).right.getD 0 0 ∈ (g.rules.getD q default).right)
        exact trS_spec g w hc _ i j ((hc.p _ hr).2 _ hs) h0.1 hij hj L hL
    exact ⟨hT,fun l i j hl hx hij hj hn=>hR l i j hl hx hij hj hn fun h1=>hT _ i j (hx 0 (by omega)).1 (hx 0 (by omega)).2 hij hj hn⟩
theorem bushT_spec (g:Grammar) (w:List Int) (hc:CC g w) (x:Int) (i j:Nat) (h0:0≤x) (h1:x<g.k+g.n) (hij:i≤j) (hj:j≤w.length):btP g w x i j:=(bush_all g w hc (j - i+1)).1 x i j h0 h1 hij hj (Nat.lt_succ_self _)
theorem bushR_spec (g:Grammar) (w:List Int) (hc:CC g w) (l:List Int) (i j:Nat) (hl:l.length≤4) (hx:∀ k,k<l.length→0≤l.getD k 0∧l.getD k 0<g.k+g.n) (hij:i≤j) (hj:j≤w.length):brP g w l i j:=(bush_all g w hc (j - i+1)).2 l i j hl hx hij hj (Nat.lt_succ_self _)
end Go.Proofs.Ytjekkbpdgnohcaa

namespace Go.Proofs.Ytjekkbpdgnohcaa
open Go.Dm
structure VM (m:Dm.Machine):Prop where
  n:1≤m.n∧m.n≤7
  k:1≤m.k∧m.k≤3
  len:(m.next.length:Int)=m.n
  row:∀ l,l ∈ m.next→(l.length:Int)=m.k
  to:∀ l,l ∈ m.next→∀ x,x ∈ l→0≤x∧x<m.n
  start:0≤m.start∧m.start<m.n
  final:0≤m.final∧m.final.toNat<2 ^ m.n.toNat
set_option maxRecDepth 10000 in
set_option maxHeartbeats 4000000 in
theorem within_spec (n lo hi:Int):Dm.Spec Try.prog 67 [iv .i64 n,iv .i64 lo,iv .i64 hi] (·=.v (.bool (decide (lo≤n∧n≤hi)))):=by
  refine spec_of_vc mixed Try.func67 c67 (by rw [show Try.f67.ntmps=_ from Try.ntmps67];simp) ?_
  unfold m67 r67
  repeat' first|((first|refine Br.dec ?_ ?_|refine Br.eqi ?_ ?_)<;>intro h<;>try (exfalso;omega))|refine Z1 ?_|with_reducible exact trivial|(refine Br.mk ?_ ?_<;>intro h)|(refine BrN.mk (fun h => ?_) ?_)|(refine AltVC.mk ?_ ?_)
  · exact fin_mk (vbEq (dec_iff (by omega)))
  · exact fin_mk (vbEq (decide_eq_false (by omega)).symm)
end Go.Proofs.Ytjekkbpdgnohcaa

namespace Go.Proofs.Ytjekkbpdgnohcaa
open Go.Dm
def badSym (k s:Int):Bool:=decide (s<0∨k≤s)
def wcode (k:Int) (w:List Int):Int:=if 12<(w.length:Int) then 1 else if w.any (badSym k)=true then 2 else 0
theorem wcode_ok {k:Int} {w:List Int} (h:wcode k w=0):w.length≤12∧∀ s,s ∈ w→0≤s∧s<k:=by
  unfold wcode at h
  split at h
  · omega
  · split at h
    · omega
    · next h1 h2 =>
      refine ⟨by omega,fun s hs => ?_⟩
      have:¬ badSym k s=true:=fun e=>h2 (List.any_eq_true.2 ⟨s,hs,e⟩)
      unfold badSym at this
      rw [decide_eq_true_eq] at this
      omega
theorem getD_ok {k:Int} {w:List Int} (hk:1≤k) (h:∀ s,s ∈ w→0≤s∧s<k) (i:Nat):0≤w.getD i 0∧w.getD i 0<k:=by
  by_cases hi:i<w.length
  · exact h _ (getD_mem' hi)
  · rw [show w.getD i 0=0 by simp [List.getD,show w[i]?=none from List.getElem?_eq_none (by omega)]];omega
def mstep (m:Dm.Machine) (p s:Int):Int:=(m.next.getD p.toNat default).getD s.toNat 0
def leads (m:Dm.Machine) (p:Int) (w:List Int):Int:=w.foldl (mstep m) p
theorem VM.nx {m:Dm.Machine} (hv:VM m) {p:Int} (hp:0≤p∧p<m.n):((m.next.getD p.toNat default).length:Int)=m.k :=
  hv.row _ (getD_mem' (by have:=hv.len;omega))
theorem VM.st {m:Dm.Machine} (hv:VM m) {p s:Int} (hp:0≤p∧p<m.n):0≤mstep m p s∧mstep m p s<m.n:=by
  have:=hv.len
  exact getD_ok (by have:=hv.n;omega) (hv.to _ (getD_mem' (by omega))) _
set_option maxRecDepth 10000 in
set_option maxHeartbeats 4000000 in
theorem wsym_spec (k:Int) (hk:0≤k∧k≤3) (s:Int):Dm.Spec Try.prog 66 [iv .i64 s,.ip [iv .i64 k] 0] (·=.v (.bool (badSym k s))):=by
  refine spec_of_vc mixed Try.func66 c66 (by rw [show Try.f66.ntmps=_ from Try.ntmps66];simp) ?_
  unfold m66 r66
  repeat' first|((first|refine Br.dec ?_ ?_|refine Br.eqi ?_ ?_)<;>intro h<;>try (exfalso;omega))|refine Z1 ?_|with_reducible exact trivial|(refine Br.mk ?_ ?_<;>intro h)|(refine BrN.mk (fun h => ?_) ?_)|(refine AltVC.mk ?_ ?_)
  refine CallVC.eq (within_spec _ _ _) ?_
  repeat' first|((first|refine Br.dec ?_ ?_|refine Br.eqi ?_ ?_)<;>intro h<;>try (exfalso;omega))|refine Z1 ?_|with_reducible exact trivial|(refine Br.mk ?_ ?_<;>intro h)|(refine BrN.mk (fun h => ?_) ?_)|(refine AltVC.mk ?_ ?_)
  refine fin_mk (vbEq ?_)
  unfold badSym
  rw [← decide_not]
  exact dec_iff (by omega)
set_option maxRecDepth 10000 in
set_option maxHeartbeats 4000000 in
theorem word_spec (k:Int) (hk:0≤k∧k≤3) (w:List Int) (hw:w.length≤9223372036854775807):Dm.Spec Try.prog 59 [iv .i64 k,.sl 1 (i64s w)] (·=iv .i64 (wcode k w)):=by
  refine spec_of_vc mixed Try.func59 c59 (by rw [show Try.f59.ntmps=_ from Try.ntmps59];simp) ?_
  unfold m59 r59
  repeat' first|((first|refine Br.dec ?_ ?_|refine Br.eqi ?_ ?_)<;>intro h<;>try (exfalso;omega))|refine Z1 ?_|with_reducible exact trivial|(refine Br.mk ?_ ?_<;>intro h)|(refine BrN.mk (fun h => ?_) ?_)|(refine AltVC.mk ?_ ?_)
  · exact fin_mk (by rw [wcode,if_pos (by assumption)])
  · refine CallVC.eqo (conF_int w (badSym k) _ [.ip [iv .i64 k] 0] hw Y0 fun s _=>wsym_spec k hk s) Y0 ?_
    repeat' first|((first|refine Br.dec ?_ ?_|refine Br.eqi ?_ ?_)<;>intro h<;>try (exfalso;omega))|refine Z1 ?_|with_reducible exact trivial|(refine Br.mk ?_ ?_<;>intro h)|(refine BrN.mk (fun h => ?_) ?_)|(refine AltVC.mk ?_ ?_)
    · exact fin_mk (by rw [wcode,if_neg (by assumption),if_pos (by assumption)])
    · have h2:w.any (badSym k)=false:=by assumption
      exact fin_mk (by rw [wcode,if_neg (by assumption),if_neg (by rw [h2];simp)])
set_option maxRecDepth 10000 in
set_option maxHeartbeats 4000000 in
theorem refWord_spec (k : Int) (hk : 0 ≤ k ∧ k ≤ 3) (w : List Int) (hw : w.length ≤ 9223372036854775807) : Dm.Spec Try.prog 49 [iv .i64 k, .sl 1 (i64s w)] (· = iv .i64 (wcode k w)) := by
  refine spec_of_vc mixed Try.func49 c49 (by rw [show Try.f49.ntmps=_ from Try.ntmps49];simp) ?_
  unfold m49 r49
  repeat' first|((first|refine Br.dec ?_ ?_|refine Br.eqi ?_ ?_)<;>intro h<;>try (exfalso;omega))|refine Z1 ?_|with_reducible exact trivial|(refine Br.mk ?_ ?_<;>intro h)|(refine BrN.mk (fun h => ?_) ?_)|(refine AltVC.mk ?_ ?_)
  · exact fin_mk (by rw [wcode,if_pos (by assumption)])
  · refine LoopVC.mk (X:=Nat) (fun i=>[(12,iv .i64 i)]) (fun _=>[]) (fun i=>w.length - i) (fun i=>i≤w.length∧∀ j,j<i→badSym k (w.getD j 0)=false) 0 ⟨by omega,by omega⟩ ?_ ?_
    · (simp (disch:=first|omega|(simp only [vlen];first|done|omega)) only [Fits_u,Fits_m,Fits_nil,List.length_append,↓vAq,vBq,↓reduceIte,Nat.reduceBEq,Nat.reduceEqDiff,Nat.reduceLT,Nat.reduceLeDiff,Nat.reduceAdd,Nat.reduceMul,Nat.reduceSub,reduceCtorEq,Int.reduceToNat]<;>(repeat' first|rfl|apply And.intro))
    · rintro i ⟨h1,h2⟩
      repeat' first|((first|refine Br.dec ?_ ?_|refine Br.eqi ?_ ?_)<;>intro h<;>try (exfalso;omega))|refine Z1 ?_|with_reducible exact trivial|(refine Br.mk ?_ ?_<;>intro h)|(refine BrN.mk (fun h => ?_) ?_)|(refine AltVC.mk ?_ ?_)
      · exact fin_mk (by rw [wcode,if_neg (by assumption),if_pos (any_hit (p:=badSym k) (i:=i) (by omega) (decide_eq_true (.inl (by assumption))))])
      · exact fin_mk (by rw [wcode,if_neg (by assumption),if_pos (any_hit (p:=badSym k) (i:=i) (by omega) (decide_eq_true (.inr (by assumption))))])
      · exact loopK.mk (i+1) Y0 ⟨by omega,succ_all h2 (decide_eq_false (by show ¬ (w.getD i 0<0∨k≤w.getD i 0);omega))⟩ (by omega) Y15
      · have h3:w.any (badSym k)=false:=any_none (i:=i) (by omega) h2
        exact fin_mk (by rw [wcode,if_neg (by assumption),if_neg (by rw [h3];simp)])
end Go.Proofs.Ytjekkbpdgnohcaa

namespace Go.Proofs.Ytjekkbpdgnohcaa
open Go.Dm
def gwC (g:Grammar) (w:List Int):Int:=if gcode g=0 then wcode g.k w else gcode g
set_option maxRecDepth 10000 in
set_option maxHeartbeats 4000000 in
theorem tcheck_spec (g:Grammar) (hg:g.ok) (w:List Int) (hw:w.length≤9223372036854775807):Dm.Spec Try.prog 42 [.ag (graD g),.sl 1 (i64s w)] (·=iv .i64 (gwC g w)):=by
  refine spec_of_vc mixed Try.func42 c42 (by rw [show Try.f42.ntmps=_ from Try.ntmps42];simp) ?_
  unfold m42 r42
  unfold gwC
  repeat' first|((first|refine Br.dec ?_ ?_|refine Br.eqi ?_ ?_)<;>intro h<;>try (exfalso;omega))|refine Z1 ?_|with_reducible exact trivial|(refine Br.mk ?_ ?_<;>intro h)|(refine BrN.mk (fun h => ?_) ?_)|(refine AltVC.mk ?_ ?_)
  refine CallVC.eq (gCheck_spec g hg) ?_
  repeat' first|((first|refine Br.dec ?_ ?_|refine Br.eqi ?_ ?_)<;>intro h<;>try (exfalso;omega))|refine Z1 ?_|with_reducible exact trivial|(refine Br.mk ?_ ?_<;>intro h)|(refine BrN.mk (fun h => ?_) ?_)|(refine AltVC.mk ?_ ?_)
  · have e:gcode g=0:=by assumption
    have hk:=(valid_of e).k
    refine CallVC.eq (word_spec g.k (by omega) w hw) ?_
    repeat' first|((first|refine Br.dec ?_ ?_|refine Br.eqi ?_ ?_)<;>intro h<;>try (exfalso;omega))|refine Z1 ?_|with_reducible exact trivial|(refine Br.mk ?_ ?_<;>intro h)|(refine BrN.mk (fun h => ?_) ?_)|(refine AltVC.mk ?_ ?_)
    exact fin_mk (by rw [if_pos e])
  · exact fin_mk (by rw [if_neg (by assumption)])
end Go.Proofs.Ytjekkbpdgnohcaa

namespace Go.Proofs.Ytjekkbpdgnohcaa
open Go.Dm
def propB (g:Grammar) (r:Rule):Bool:=decide (¬ (r.right.length=0∨(r.right.length=1∧g.k≤r.right.getD 0 0)))
def isProper (g:Grammar):Bool:=g.rules.all (propB g)
theorem isProper_iff {g : Grammar} : isProper g = true ↔ Proper g := by
  unfold isProper Proper
  rw [List.all_eq_true]
  refine ⟨fun h r hr => ?_,fun h r hr => ?_⟩
  · have:=of_decide_eq_true (h r hr)
    refine ⟨fun e=>this (.inl (by rw [e];rfl)),fun x e => ?_⟩
    rw [e] at this
    have h2:¬ (g.k≤x):=fun h3=>this (.inr ⟨rfl,h3⟩)
    omega
  · refine decide_eq_true fun h2 => ?_
    have:=h r hr
    rcases h2 with h2|⟨h2,h3⟩
    · exact this.1 (List.eq_nil_of_length_eq_zero h2)
    · match hl:r.right,h2 with
      | [x],_ =>
        have:=this.2 x hl
        rw [hl] at h3
        simp at h3;omega
set_option maxRecDepth 10000 in
set_option maxHeartbeats 4000000 in
theorem prop1_spec (g:Grammar) (r:Rule) (hr:r.right.length≤1000):Dm.Spec Try.prog 60 [.ag (rulD r),.ip (graD g) 0] (·=.v (.bool (!propB g r))):=by
  refine spec_of_vc mixed Try.func60 c60 (by rw [show Try.f60.ntmps=_ from Try.ntmps60];simp) ?_
  unfold m60 r60
  repeat' first|((first|refine Br.dec ?_ ?_|refine Br.eqi ?_ ?_)<;>intro h<;>try (exfalso;omega))|refine Z1 ?_|with_reducible exact trivial|(refine Br.mk ?_ ?_<;>intro h)|(refine BrN.mk (fun h => ?_) ?_)|(refine AltVC.mk ?_ ?_)
  all_goals (refine fin_mk (vbEq ?_);unfold propB;rw [← decide_not];first|exact (decide_eq_true (by omega)).symm|exact (decide_eq_false (by omega)).symm|exact dec_iff (by omega))
set_option maxRecDepth 10000 in
set_option maxHeartbeats 4000000 in
theorem proper_spec (g:Grammar) (hr:g.rules.length≤9223372036854775807) (hl:∀ r,r ∈ g.rules→r.right.length≤1000):Dm.Spec Try.prog 43 [.ag (graD g)] (·=.v (.bool (isProper g))):=by
  refine spec_of_vc mixed Try.func43 c43 (by rw [show Try.f43.ntmps=_ from Try.ntmps43];simp) ?_
  unfold m43 r43
  repeat' first|((first|refine Br.dec ?_ ?_|refine Br.eqi ?_ ?_)<;>intro h<;>try (exfalso;omega))|refine Z1 ?_|with_reducible exact trivial|(refine Br.mk ?_ ?_<;>intro h)|(refine BrN.mk (fun h => ?_) ?_)|(refine AltVC.mk ?_ ?_)
  refine CallVC.eqo (conF_rule g.rules (fun r => !propB g r) _ [.ip (graD g) 0] hr Y0 fun r h=>prop1_spec g r (hl r h)) Y0 ?_
  repeat' first|((first|refine Br.dec ?_ ?_|refine Br.eqi ?_ ?_)<;>intro h<;>try (exfalso;omega))|refine Z1 ?_|with_reducible exact trivial|(refine Br.mk ?_ ?_<;>intro h)|(refine BrN.mk (fun h => ?_) ?_)|(refine AltVC.mk ?_ ?_)
  exact fin_mk (vbEq all_not')
set_option maxRecDepth 10000 in
set_option maxHeartbeats 4000000 in
theorem refProper_spec (g:Grammar) (hr:g.rules.length≤9223372036854775807) (hl:∀ r,r ∈ g.rules→r.right.length≤1000):Dm.Spec Try.prog 50 [.ag (graD g)] (·=.v (.bool (isProper g))):=by
  refine spec_of_vc mixed Try.func50 c50 (by rw [show Try.f50.ntmps=_ from Try.ntmps50];simp) ?_
  unfold m50 r50
  repeat' first|((first|refine Br.dec ?_ ?_|refine Br.eqi ?_ ?_)<;>intro h<;>try (exfalso;omega))|refine Z1 ?_|with_reducible exact trivial|(refine Br.mk ?_ ?_<;>intro h)|(refine BrN.mk (fun h => ?_) ?_)|(refine AltVC.mk ?_ ?_)
  refine LoopVC.mk (X:=Nat) (fun i=>[(8,iv .i64 i)]) (fun _=>[(0,⟨4,[[iv .i64 g.k,iv .i64 g.n,iv .i64 g.start,.sl 2 (tbl rulD g.rules)]],true,false,.fix⟩)]) (fun i=>g.rules.length - i) (fun i=>i≤g.rules.length∧∀ j,j<i→propB g (g.rules.getD j default)=true) 0 ⟨by omega,by omega⟩ ?_ ?_
  · (simp (disch:=first|omega|(simp only [vlen];first|done|omega)) only [Fits_u,Fits_m,Fits_nil,List.length_append,↓vAq,vBq,↓reduceIte,Nat.reduceBEq,Nat.reduceEqDiff,Nat.reduceLT,Nat.reduceLeDiff,Nat.reduceAdd,Nat.reduceMul,Nat.reduceSub,reduceCtorEq,Int.reduceToNat]<;>(repeat' first|rfl|apply And.intro))
  · rintro i ⟨h1,h2⟩
    have hb:i<g.rules.length→(g.rules.getD i default).right.length≤1000:=fun h=>hl _ (getD_mem' h)
    repeat' first|((first|refine Br.dec ?_ ?_|refine Br.eqi ?_ ?_)<;>intro h<;>try (exfalso;omega))|refine Z1 ?_|with_reducible exact trivial|(refine Br.mk ?_ ?_<;>intro h)|(refine BrN.mk (fun h => ?_) ?_)|(refine AltVC.mk ?_ ?_)
    all_goals first
      | exact fin_mk (vbEq (all_none (i:=i) (by omega) h2).symm)
      | exact fin_mk (vbEq (all_hit (p:=propB g) (i:=i) (by omega) (by unfold propB;exact decide_eq_false (by omega))).symm)
      | exact loopK.mk (i+1) Y0 ⟨by omega,succ_all h2 (by unfold propB;exact decide_eq_true (by omega))⟩ (by omega) Y15
def tcode (g:Grammar) (w:List Int):Int:=if gcode g=0 then (if wcode g.k w=0 then (if isProper g=true then 0 else 3) else wcode g.k w) else gcode g
def trN (g:Grammar) (w:List Int):Nat:=trees g w (g.k+g.start) 0 w.length
theorem cc_of {g:Grammar} {w:List Int} (h:tcode g w=0):CC g w∧gcode g=0∧wcode g.k w=0∧isProper g=true:=by
  unfold tcode at h
  split at h
  · next h1 =>
    split at h
    · next h2 =>
      split at h
      · next h3=>exact ⟨⟨valid_of h1,isProper_iff.mp h3,(wcode_ok h2).1⟩,h1,h2,h3⟩
      · omega
    · next h2=>exact absurd h h2
  · next h1=>exact absurd h h1
set_option maxRecDepth 10000 in
set_option maxHeartbeats 4000000 in
theorem treesCheck_spec (g : Grammar) (hg : g.ok) (w : List Int) (hw : w.length ≤ 9223372036854775807) : Dm.Spec Try.prog 27 [.ag (graD g), .sl 1 (i64s w)] (· = iv .i64 (tcode g w)) := by
  refine spec_of_vc mixed Try.func27 c27 (by rw [show Try.f27.ntmps=_ from Try.ntmps27];simp) ?_
  unfold m27 r27
  have hr:g.rules.length≤9223372036854775807:=maxLen_le hg.2.2.2.1
  unfold tcode
  by_cases e:gcode g=0
  · have hv:=valid_of e
    have hk:=hv.k
    have hq:=refGCheck_spec g hg
    rw [e] at hq
    rw [if_pos e]
    repeat' first|((first|refine Br.dec ?_ ?_|refine Br.eqi ?_ ?_)<;>intro h<;>try (exfalso;omega))|refine Z1 ?_|with_reducible exact trivial|(refine Br.mk ?_ ?_<;>intro h)|(refine BrN.mk (fun h => ?_) ?_)|(refine AltVC.mk ?_ ?_)
    refine CallVC.eq hq ?_
    repeat' first|((first|refine Br.dec ?_ ?_|refine Br.eqi ?_ ?_)<;>intro h<;>try (exfalso;omega))|refine Z1 ?_|with_reducible exact trivial|(refine Br.mk ?_ ?_<;>intro h)|(refine BrN.mk (fun h => ?_) ?_)|(refine AltVC.mk ?_ ?_)
    refine CallVC.eq (refWord_spec g.k (by omega) w hw) ?_
    repeat' first|((first|refine Br.dec ?_ ?_|refine Br.eqi ?_ ?_)<;>intro h<;>try (exfalso;omega))|refine Z1 ?_|with_reducible exact trivial|(refine Br.mk ?_ ?_<;>intro h)|(refine BrN.mk (fun h => ?_) ?_)|(refine AltVC.mk ?_ ?_)
    · have hp:=refProper_spec g hr fun r h=>by have:=hv.long r h;omega
      refine CallVC.eq hp ?_
      rw [if_pos (by assumption)]
      cases hb:isProper g with
      | true =>
        repeat' first|((first|refine Br.dec ?_ ?_|refine Br.eqi ?_ ?_)<;>intro h<;>try (exfalso;omega))|refine Z1 ?_|with_reducible exact trivial|(refine Br.mk ?_ ?_<;>intro h)|(refine BrN.mk (fun h => ?_) ?_)|(refine AltVC.mk ?_ ?_)
        exact fin_mk (by rw [h])
      | false =>
        repeat' first|((first|refine Br.dec ?_ ?_|refine Br.eqi ?_ ?_)<;>intro h<;>try (exfalso;omega))|refine Z1 ?_|with_reducible exact trivial|(refine Br.mk ?_ ?_<;>intro h)|(refine BrN.mk (fun h => ?_) ?_)|(refine AltVC.mk ?_ ?_)
        exact fin_mk (by rfl)
    · exact fin_mk (by rw [if_neg (by assumption)])
  · rw [if_neg e]
    repeat' first|((first|refine Br.dec ?_ ?_|refine Br.eqi ?_ ?_)<;>intro h<;>try (exfalso;omega))|refine Z1 ?_|with_reducible exact trivial|(refine Br.mk ?_ ?_<;>intro h)|(refine BrN.mk (fun h => ?_) ?_)|(refine AltVC.mk ?_ ?_)
    refine CallVC.eq (refGCheck_spec g hg) ?_
    repeat' first|((first|refine Br.dec ?_ ?_|refine Br.eqi ?_ ?_)<;>intro h<;>try (exfalso;omega))|refine Z1 ?_|with_reducible exact trivial|(refine Br.mk ?_ ?_<;>intro h)|(refine BrN.mk (fun h => ?_) ?_)|(refine AltVC.mk ?_ ?_)
    exact fin_mk rfl
def nwR (g:Grammar) (w:List Int) (d:D) (o:List (Option Ob)):Prop:=d=.ptr 2 6 0 0∧o=[none,some ⟨5,tbl keD [],true,false,.map [.i64,.i64,.i64,.i64] true false⟩,some ⟨6,[[iv .i64 g.k,iv .i64 g.n,iv .i64 g.start,.sl 2 (tbl rulD g.rules),.sl 1 (i64s w),.mp 1]],false,false,.fix⟩]
set_option maxRecDepth 10000 in
set_option maxHeartbeats 4000000 in
theorem newC_spec (g:Grammar) (w:List Int):Dm.SpecH Try.prog 44 [.ag (graD g),.sl 1 (i64s w)] [] (nwR g w):=by
  refine specH_of_vc mixed Try.func44 c44 (by rw [show Try.f44.ntmps=_ from Try.ntmps44];simp) ?_
  unfold m44 r44
  repeat' first|((first|refine Br.dec ?_ ?_|refine Br.eqi ?_ ?_)<;>intro h<;>try (exfalso;omega))|refine Z4 ?_|with_reducible exact trivial|(refine Br.mk ?_ ?_<;>intro h)|(refine BrN.mk (fun h => ?_) ?_)|(refine AltVC.mk ?_ ?_)
  exact finH_mk [none,some ⟨5,tbl keD [],true,false,.map [.i64,.i64,.i64,.i64] true false⟩,some ⟨6,[[iv .i64 g.k,iv .i64 g.n,iv .i64 g.start,.sl 2 (tbl rulD g.rules),.sl 1 (i64s w),.mp 1]],false,false,.fix⟩] (by simp) Y3 (by simp (disch:=first|omega|(simp only [vlen];first|done|omega)) only [tbl_nil,vke,↓vAq,vBq,↓reduceIte,Nat.reduceBEq,Nat.reduceEqDiff,Nat.reduceLT,Nat.reduceLeDiff,Nat.reduceAdd,Nat.reduceMul,Nat.reduceSub,reduceCtorEq,Int.reduceToNat]) ⟨by simp (disch:=first|omega|(simp only [vlen];first|done|omega)) only [vke,↓vAq,vBq,↓reduceIte,Nat.reduceBEq,Nat.reduceEqDiff,Nat.reduceLT,Nat.reduceLeDiff,Nat.reduceAdd,Nat.reduceMul,Nat.reduceSub,reduceCtorEq,Int.reduceToNat],rfl⟩
set_option maxRecDepth 10000 in
set_option maxHeartbeats 4000000 in
theorem grow_bspec (g:Grammar) (w:List Int):Dm.SpecH Try.prog 14 [.ag (graD g),.sl 1 (i64s w)] [] (fun d o=>d=.ptr 2 6 0 0∧o=[none,some ⟨4,tbl beD [],true,false,.map [.i64,.i64,.i64] true false⟩,some ⟨6,[[iv .i64 g.k,iv .i64 g.n,iv .i64 g.start,.sl 2 (tbl rulD g.rules),.sl 1 (i64s w),.mp 1]],false,false,.fix⟩]):=by
  refine specH_of_vc mixed Try.func14 c14 (by rw [show Try.f14.ntmps=_ from Try.ntmps14];simp) ?_
  unfold m14 r14
  repeat' first|((first|refine Br.dec ?_ ?_|refine Br.eqi ?_ ?_)<;>intro h<;>try (exfalso;omega))|refine Z5 ?_|with_reducible exact trivial|(refine Br.mk ?_ ?_<;>intro h)|(refine BrN.mk (fun h => ?_) ?_)|(refine AltVC.mk ?_ ?_)
  exact finH_mk [none,some ⟨4,tbl beD [],true,false,.map [.i64,.i64,.i64] true false⟩,some ⟨6,[[iv .i64 g.k,iv .i64 g.n,iv .i64 g.start,.sl 2 (tbl rulD g.rules),.sl 1 (i64s w),.mp 1]],false,false,.fix⟩] (by simp) Y4 (by simp (disch:=first|omega|(simp only [vlen];first|done|omega)) only [tbl_nil,vbe,↓vAq,vBq,↓reduceIte,Nat.reduceBEq,Nat.reduceEqDiff,Nat.reduceLT,Nat.reduceLeDiff,Nat.reduceAdd,Nat.reduceMul,Nat.reduceSub,reduceCtorEq,Int.reduceToNat]) ⟨by simp (disch:=first|omega|(simp only [vlen];first|done|omega)) only [vbe,↓vAq,vBq,↓reduceIte,Nat.reduceBEq,Nat.reduceEqDiff,Nat.reduceLT,Nat.reduceLeDiff,Nat.reduceAdd,Nat.reduceMul,Nat.reduceSub,reduceCtorEq,Int.reduceToNat],rfl⟩
def whR (g:Grammar) (w:List Int) (d:D) (o:List (Option Ob)):Prop :=
  (tcode g w=0∧trN g w≤1099511627776 ∧ ∃ L,d=.tu [.ptr 3 6 0 0,iv .i64 (trN g w),iv .i64 0]∧o=[none,none,some ⟨5,tbl keD L,true,false,.map [.i64,.i64,.i64,.i64] true false⟩,some ⟨6,[[iv .i64 g.k,iv .i64 g.n,iv .i64 g.start,.sl 2 (tbl rulD g.rules),.sl 1 (i64s w),.mp 2]],false,false,.fix⟩]∧MI g w L) ∨
  (∃ c:Int,c ≠ 0∧c=(if tcode g w=0 then 1 else tcode g w)∧(tcode g w=0→1099511627776<trN g w)∧d=.tu [.v (.pointer none),iv .i64 0,iv .i64 c])
set_option maxRecDepth 10000 in
set_option maxHeartbeats 4000000 in
theorem whole_spec (g : Grammar) (hg : g.ok) (w : List Int) (hw : w.length ≤ 9223372036854775807) : Dm.SpecH Try.prog 25 [.ag (graD g), .sl 1 (i64s w)] [] (whR g w) := by
  refine specH_of_vc mixed Try.func25 c25 (by rw [show Try.f25.ntmps=_ from Try.ntmps25];simp) ?_
  unfold m25 r25
  have hr:g.rules.length≤9223372036854775807:=maxLen_le hg.2.2.2.1
  have htc:=tcheck_spec g hg w hw
  by_cases h0:gwC g w=0
  · have e:gcode g=0:=by unfold gwC at h0;split at h0<;>assumption
    have hv:=valid_of e
    have e2:wcode g.k w=0:=by unfold gwC at h0;rwa [if_pos e] at h0
    have hk:=hv.k
    have hn:=hv.n
    have hst:=hv.start
    rw [h0] at htc
    have hp:=proper_spec g hr fun r h=>by have:=hv.long r h;omega
    have hwl:=(wcode_ok e2).1
    cases hb:isProper g with
    | true =>
      have ht:tcode g w=0:=by unfold tcode;rw [if_pos e,if_pos e2,if_pos hb]
      have hc:=(cc_of ht).1
      rw [hb] at hp
      repeat' first|((first|refine Br.dec ?_ ?_|refine Br.eqi ?_ ?_)<;>intro h<;>try (exfalso;omega))|refine Z4 ?_|with_reducible exact trivial|(refine Br.mk ?_ ?_<;>intro h)|(refine BrN.mk (fun h => ?_) ?_)|(refine AltVC.mk ?_ ?_)
      refine CallVC.eq htc ?_
      repeat' first|((first|refine Br.dec ?_ ?_|refine Br.eqi ?_ ?_)<;>intro h<;>try (exfalso;omega))|refine Z4 ?_|with_reducible exact trivial|(refine Br.mk ?_ ?_<;>intro h)|(refine BrN.mk (fun h => ?_) ?_)|(refine AltVC.mk ?_ ?_)
      refine CallVC.eq hp ?_
      repeat' first|((first|refine Br.dec ?_ ?_|refine Br.eqi ?_ ?_)<;>intro h<;>try (exfalso;omega))|refine Z4 ?_|with_reducible exact trivial|(refine Br.mk ?_ ?_<;>intro h)|(refine BrN.mk (fun h => ?_) ?_)|(refine AltVC.mk ?_ ?_)
      refine CallVC.lendE [] [.ag (graD g),.sl 1 (i64s w)] [] (newC_spec g w) (by simp) (by rfl) Y13 ?_
      rintro _ _ ⟨rfl,rfl⟩
      repeat' first|((first|refine Br.dec ?_ ?_|refine Br.eqi ?_ ?_)<;>intro h<;>try (exfalso;omega))|refine Z4 ?_|with_reducible exact trivial|(refine Br.mk ?_ ?_<;>intro h)|(refine BrN.mk (fun h => ?_) ?_)|(refine AltVC.mk ?_ ?_)
      refine CallVC.lendE [3,2] [.ptr 0 6 0 0,iv .i64 (g.k+g.start),.ag [iv .i64 (0:Nat),iv .i64 w.length]] (coO g w []) (sign_spec g w hc (g.k+g.start) 0 w.length (by omega) (by omega) (Nat.zero_le _) (Nat.le_refl _) [] MI.nil) (by simp) (by rfl) Y2 ?_
      rintro _ _ ⟨L2,rfl,rfl,hL2⟩
      unfold coO
      rw [show trees g w (g.k+g.start) 0 w.length=trN g w from rfl]
      repeat' first|((first|refine Br.dec ?_ ?_|refine Br.eqi ?_ ?_)<;>intro h<;>try (exfalso;omega))|refine Z4 ?_|with_reducible exact trivial|(refine Br.mk ?_ ?_<;>intro h)|(refine BrN.mk (fun h => ?_) ?_)|(refine AltVC.mk ?_ ?_)
      · have hbig:1099511627776<trN g w:=by unfold cp at h;omega
        exact finH_mk [] (by simp) (by simp) Y3 (.inr ⟨1,by omega,by rw [if_pos ht],fun _=>hbig,by simp (disch:=first|omega|(simp only [vlen];first|done|omega)) only [vke,↓vAq,vBq,↓reduceIte,Nat.reduceBEq,Nat.reduceEqDiff,Nat.reduceLT,Nat.reduceLeDiff,Nat.reduceAdd,Nat.reduceMul,Nat.reduceSub,reduceCtorEq,Int.reduceToNat]⟩)
      · have hsm:trN g w≤1099511627776:=by unfold cp at h;omega
        have hcp:cp (trN g w)=trN g w:=by unfold cp;omega
        rw [hcp]
        exact finH_mk [none,none,some ⟨5,tbl keD L2,true,false,.map [.i64,.i64,.i64,.i64] true false⟩,some ⟨6,[[iv .i64 g.k,iv .i64 g.n,iv .i64 g.start,.sl 2 (tbl rulD g.rules),.sl 1 (i64s w),.mp 2]],false,false,.fix⟩] (by simp) Y3 Y3 (.inl ⟨ht,hsm,L2,by simp (disch:=first|omega|(simp only [vlen];first|done|omega)) only [vke,↓vAq,vBq,↓reduceIte,Nat.reduceBEq,Nat.reduceEqDiff,Nat.reduceLT,Nat.reduceLeDiff,Nat.reduceAdd,Nat.reduceMul,Nat.reduceSub,reduceCtorEq,Int.reduceToNat],rfl,hL2⟩)
    | false =>
      have ht:tcode g w=3:=by unfold tcode;rw [if_pos e,if_pos e2,if_neg (by rw [hb];simp)]
      rw [hb] at hp
      repeat' first|((first|refine Br.dec ?_ ?_|refine Br.eqi ?_ ?_)<;>intro h<;>try (exfalso;omega))|refine Z4 ?_|with_reducible exact trivial|(refine Br.mk ?_ ?_<;>intro h)|(refine BrN.mk (fun h => ?_) ?_)|(refine AltVC.mk ?_ ?_)
      refine CallVC.eq htc ?_
      repeat' first|((first|refine Br.dec ?_ ?_|refine Br.eqi ?_ ?_)<;>intro h<;>try (exfalso;omega))|refine Z4 ?_|with_reducible exact trivial|(refine Br.mk ?_ ?_<;>intro h)|(refine BrN.mk (fun h => ?_) ?_)|(refine AltVC.mk ?_ ?_)
      refine CallVC.eq hp ?_
      repeat' first|((first|refine Br.dec ?_ ?_|refine Br.eqi ?_ ?_)<;>intro h<;>try (exfalso;omega))|refine Z4 ?_|with_reducible exact trivial|(refine Br.mk ?_ ?_<;>intro h)|(refine BrN.mk (fun h => ?_) ?_)|(refine AltVC.mk ?_ ?_)
      exact finH_mk [] (by simp) (by simp) Y3 (.inr ⟨3,by omega,by rw [ht];rfl,by omega,by simp (disch:=first|omega|(simp only [vlen];first|done|omega)) only [vke,↓vAq,vBq,↓reduceIte,Nat.reduceBEq,Nat.reduceEqDiff,Nat.reduceLT,Nat.reduceLeDiff,Nat.reduceAdd,Nat.reduceMul,Nat.reduceSub,reduceCtorEq,Int.reduceToNat]⟩)
  · repeat' first|((first|refine Br.dec ?_ ?_|refine Br.eqi ?_ ?_)<;>intro h<;>try (exfalso;omega))|refine Z4 ?_|with_reducible exact trivial|(refine Br.mk ?_ ?_<;>intro h)|(refine BrN.mk (fun h => ?_) ?_)|(refine AltVC.mk ?_ ?_)
    refine CallVC.eq htc ?_
    repeat' first|((first|refine Br.dec ?_ ?_|refine Br.eqi ?_ ?_)<;>intro h<;>try (exfalso;omega))|refine Z4 ?_|with_reducible exact trivial|(refine Br.mk ?_ ?_<;>intro h)|(refine BrN.mk (fun h => ?_) ?_)|(refine AltVC.mk ?_ ?_)
    have ht:tcode g w=gwC g w:=by
      unfold gwC at h0 ⊢
      unfold tcode
      by_cases e:gcode g=0
      · rw [if_pos e] at h0
        rw [if_pos e,if_pos e,if_neg h0]
      · rw [if_neg e,if_neg e]
    exact finH_mk [] (by simp) (by simp) Y3 (.inr ⟨gwC g w,h0,by rw [ht,if_neg h0],fun h1=>absurd (ht ▸ h1) h0,by simp (disch:=first|omega|(simp only [vlen];first|done|omega)) only [vke,↓vAq,vBq,↓reduceIte,Nat.reduceBEq,Nat.reduceEqDiff,Nat.reduceLT,Nat.reduceLeDiff,Nat.reduceAdd,Nat.reduceMul,Nat.reduceSub,reduceCtorEq,Int.reduceToNat]⟩)
end Go.Proofs.Ytjekkbpdgnohcaa

namespace Go.Dm
def RuleAt (g:Grammar) (x q:Int):Prop:=0≤q∧q<g.rules.length∧(g.rules.getD q.toNat default).left=x - g.k
inductive Pr (g:Grammar):List Int→List Int→List Int→List Int→Prop
  | nil {st:List Int}:Pr g [] st [] st
  | sym {x:Int} {s st w r:List Int} (hx:x<g.k) (h:Pr g s st w r):Pr g (x::s) st (x::w) r
  | name {x q:Int} {s st w r:List Int} (hx:¬ x<g.k) (hq:RuleAt g x q) (h:Pr g ((g.rules.getD q.toNat default).right++s) st w r):Pr g (x::s) (q::st) w r
theorem Pr.det {g:Grammar} {s st w r w' r':List Int} (h:Pr g s st w r) (h':Pr g s st w' r'):w=w'∧r=r':=by
  induction h generalizing w' r' with
  | nil=>cases h';exact ⟨rfl,rfl⟩
  | sym hx _ ih =>
    cases h' with
    | sym _ h2=>have:=ih h2;exact ⟨by rw [this.1],this.2⟩
    | name hn _ _=>exact absurd hx hn
  | name hx hq _ ih =>
    cases h' with
    | sym hn _=>exact absurd hn hx
    | name _ _ h2=>exact ih h2
theorem Pr.app {g:Grammar} {a b st w1 m w2 r:List Int} (h:Pr g a st w1 m) (k:Pr g b m w2 r):Pr g (a++b) st (w1++w2) r:=by
  induction h with
  | nil=>exact k
  | sym hx _ ih=>exact .sym hx (ih k)
  | @name x q s st w r hx hq _ ih =>
    refine .name hx hq ?_
    have:=ih k
    rwa [List.append_assoc] at this
theorem Pr.split {g:Grammar} {c st w r:List Int} (h:Pr g c st w r):∀ {a b:List Int},c=a++b → ∃ w1 m w2,Pr g a st w1 m∧Pr g b m w2 r∧w=w1++w2:=by
  induction h with
  | nil =>
    intro a b e
    obtain ⟨rfl,rfl⟩:=List.append_eq_nil_iff.mp e.symm
    exact ⟨[],_,[],.nil,.nil,rfl⟩
  | @sym x s st w r hx h ih =>
    intro a b e
    cases a with
    | nil=>simp only [List.nil_append] at e;subst e;exact ⟨[],_,_,.nil,.sym hx h,rfl⟩
    | cons y a =>
      simp only [List.cons_append,List.cons.injEq] at e
      obtain ⟨rfl,rfl⟩:=e
      obtain ⟨w1,m,w2,h1,h2,h3⟩:=ih rfl
      exact ⟨x::w1,m,w2,.sym hx h1,h2,by rw [h3];rfl⟩
  | @name x q s st w r hx hq h ih =>
    intro a b e
    cases a with
    | nil=>simp only [List.nil_append] at e;subst e;exact ⟨[],_,_,.nil,.name hx hq h,rfl⟩
    | cons y a =>
      simp only [List.cons_append,List.cons.injEq] at e
      obtain ⟨rfl,rfl⟩:=e
      obtain ⟨w1,m,w2,h1,h2,h3⟩:=ih (by rw [List.append_assoc])
      exact ⟨w1,m,w2,.name hx hq h1,h2,h3⟩
theorem Pr.terms {g:Grammar} {u st:List Int} (h:∀ x,x ∈ u→x<g.k):Pr g u st u st:=by
  induction u with
  | nil=>exact .nil
  | cons x u ih=>exact .sym (h x (by simp)) (ih fun y hy=>h y (List.mem_cons_of_mem _ hy))
theorem Pr.pass {g:Grammar} {u s st w r:List Int} (h:∀ x,x ∈ u→x<g.k):Pr g (u++s) st w r ↔ ∃ w',Pr g s st w' r∧w=u++w':=by
  constructor
  · intro hp
    obtain ⟨w1,m,w2,h1,h2,h3⟩:=hp.split rfl
    obtain ⟨rfl,rfl⟩:=h1.det (Pr.terms h)
    exact ⟨w2,h2,h3⟩
  · rintro ⟨w',h1,rfl⟩
    exact (Pr.terms h).app h1
theorem Pr.step {g:Grammar} {u s st w r:List Int} {x q:Int} (h:∀ x,x ∈ u→x<g.k) (hx:¬ x<g.k):Pr g (u++x::s) (q::st) w r ↔ RuleAt g x q∧Pr g (u++((g.rules.getD q.toNat default).right++s)) st w r:=by
  rw [Pr.pass h]
  constructor
  · rintro ⟨w',h1,rfl⟩
    cases h1 with
    | sym hn _=>exact absurd hn hx
    | name _ hq h2=>exact ⟨hq,(Pr.pass h).mpr ⟨w',h2,rfl⟩⟩
  · rintro ⟨hq,h1⟩
    obtain ⟨w',h2,rfl⟩:=(Pr.pass h).mp h1
    exact ⟨w',.name hx hq h2,rfl⟩
theorem Pr.done {g:Grammar} {l w r:List Int} (h:Pr g l [] w r):(∀ x,x ∈ l→x<g.k)∧w=l∧r=[]:=by
  generalize he:([]:List Int)=st at h
  induction h with
  | nil=>subst he;exact ⟨by simp,rfl,rfl⟩
  | sym hx _ ih =>
    obtain ⟨h1,h2,h3⟩:=ih he
    refine ⟨fun y hy => ?_,by rw [h2],h3⟩
    rcases List.mem_cons.mp hy with e|hy
    · rw [e];exact hx
    · exact h1 y hy
  | name _ _ _ _=>cases he
theorem Pr.len {g:Grammar} {B:Nat} (hB:∀ q,q<g.rules.length→(g.rules.getD q default).right.length≤B) {s st w r:List Int} (h:Pr g s st w r):r.length≤st.length∧w.length≤s.length+B * (st.length - r.length):=by
  induction h with
  | nil=>exact ⟨Nat.le_refl _,by simp⟩
  | sym _ _ ih=>refine ⟨ih.1,?_⟩;have:=ih.2;simp only [List.length_cons];omega
  | @name x q s st w r hx hq _ ih =>
    obtain ⟨h1,h2⟩:=ih
    have h3:=hB q.toNat (by have:=hq.1;have:=hq.2.1;omega)
    refine ⟨by simp only [List.length_cons];omega,?_⟩
    rw [List.length_append] at h2
    simp only [List.length_cons]
    rw [show st.length+1 - r.length=(st.length - r.length)+1 by omega,Nat.mul_succ]
    omega
end Go.Dm

namespace Go.Dm
def cutN:Nat→Nat→Nat→List (List Nat)
  | 0,_,to=>[[to]]
  | n+1,frm,to=>(List.range (to - (frm+1))).flatMap fun q=>(cutN n (frm+1+q) to).map fun r=>(frm+1+q)::r
theorem cutN_len:∀ {n i j:Nat} {c:List Nat},c ∈ cutN n i j→c.length=n+1
  | 0,i,j,c,h=>by simp [cutN] at h;subst h;rfl
  | n+1,i,j,c,h=>by
    simp only [cutN,List.mem_flatMap,List.mem_map] at h
    obtain ⟨q,_,r,hr,rfl⟩:=h
    rw [List.length_cons,cutN_len hr]
theorem cutN_last:∀ {n i j:Nat} {c:List Nat},c ∈ cutN n i j→c.getLast?=some j
  | 0,i,j,c,h=>by simp [cutN] at h;subst h;rfl
  | n+1,i,j,c,h=>by
    simp only [cutN,List.mem_flatMap,List.mem_map] at h
    obtain ⟨q,_,r,hr,rfl⟩:=h
    have:=cutN_last hr
    cases r with
    | nil=>simp at this
    | cons y r=>rw [List.getLast?_cons_cons];exact this
theorem nodup_flat {α β:Type} {f:α→List β}:∀ {l:List α},l.Nodup→(∀ x,x ∈ l→(f x).Nodup)→(∀ x,x ∈ l→∀ y,y ∈ l→x ≠ y→∀ z,z ∈ f x→z ∉ f y)→(l.flatMap f).Nodup
  | [],_,_,_=>by simp
  | x::l,hn,h1,h2=>by
    rw [List.nodup_cons] at hn
    rw [List.flatMap_cons,List.nodup_append]
    refine ⟨h1 x (by simp),nodup_flat hn.2 (fun y hy=>h1 y (by simp [hy])) (fun y hy z hz=>h2 y (by simp [hy]) z (by simp [hz])),fun a ha b hb e => ?_⟩
    subst e
    obtain ⟨y,hy,hz⟩:=List.mem_flatMap.1 hb
    exact h2 x (by simp) y (by simp [hy]) (fun e=>hn.1 (e ▸ hy)) a ha hz
theorem cutN_nodup:∀ {n i j:Nat},(cutN n i j).Nodup
  | 0,i,j=>by simp [cutN]
  | n + 1, i, j => by
    unfold cutN
    refine nodup_flat List.nodup_range (fun q _ => ?_) (fun x _ y _ hxy z hz hz' => ?_)
    · have:=cutN_nodup (n:=n) (i:=i+1+q) (j:=j)
      exact List.Pairwise.map _ (fun a b hab e=>hab (by simpa using e)) this
    · obtain ⟨r,_,rfl⟩:=List.mem_map.1 hz
      obtain ⟨r',_,e⟩:=List.mem_map.1 hz'
      simp only [List.cons.injEq] at e
      omega
theorem cutN_inj {n i j c c':Nat} (h:c<(cutN n i j).length) (h':c'<(cutN n i j).length) (e:(cutN n i j).getD c []=(cutN n i j).getD c' []):c=c':=by
  rw [List.getD_eq_getElem?_getD,List.getD_eq_getElem?_getD,List.getElem?_eq_getElem h,List.getElem?_eq_getElem h'] at e
  exact (List.getElem_inj cutN_nodup).1 (by simpa using e)
theorem getD_cut {n i j c:Nat} (h:c<(cutN n i j).length):(cutN n i j).getD c [] ∈ cutN n i j:=by
  rw [List.getD_eq_getElem?_getD,List.getElem?_eq_getElem h];exact List.getElem_mem h
def prT (g:Grammar) (w:List Int):List Int→Nat→List Nat→Nat
  | x::l,i,e::es=>trees g w x i e * prT g w l e es
  | _,_,_=>1
theorem prT_nil {g:Grammar} {w:List Int} {i:Nat} {es:List Nat}:prT g w [] i es=1:=(rfl)
theorem prT_cons {g:Grammar} {w:List Int} {x:Int} {l:List Int} {i e:Nat} {es:List Nat}:prT g w (x::l) i (e::es)=trees g w x i e * prT g w l e es:=(rfl)
def sumL {α:Type} (f:α→Nat):List α→Nat
  | []=>0
  | x::l=>f x+sumL f l
theorem sumL_app {α:Type} {f:α→Nat}:∀ {a b:List α},sumL f (a++b)=sumL f a+sumL f b
  | [],b=>by simp [sumL]
  | x::a,b=>by simp only [List.cons_append,sumL,sumL_app];omega
theorem sumL_map {α β:Type} {f:β→Nat} {h:α→β}:∀ {a:List α},sumL f (a.map h)=sumL (fun x=>f (h x)) a
  | []=>rfl
  | x::a=>by simp only [List.map_cons,sumL,sumL_map]
theorem sumL_mul {α:Type} {f:α→Nat} {c:Nat}:∀ {a:List α},sumL (fun x=>c * f x) a=c * sumL f a
  | []=>by simp [sumL]
  | x::a=>by simp only [sumL,sumL_mul,Nat.mul_add]
theorem sumL_congr {α:Type} {f h:α→Nat}:∀ {a:List α},(∀ x,x ∈ a→f x=h x)→sumL f a=sumL h a
  | [],_=>rfl
  | x::a,hh=>by rw [sumL,sumL,hh x (by simp),sumL_congr fun y hy=>hh y (by simp [hy])]
theorem sumL_flat {α β:Type} {f:β→Nat} {h:α→List β}:∀ {a:List α},sumL f (a.flatMap h)=sumL (fun x=>sumL f (h x)) a
  | []=>rfl
  | x::a=>by rw [List.flatMap_cons,sumL_app,sumL,sumL_flat]
theorem sumL_range {f:Nat→Nat}:∀ {n:Nat},sumL f (List.range n)=nsum f n
  | 0=>rfl
  | n+1=>by rw [List.range_succ,sumL_app,sumL_range,sumL,sumL];rfl
theorem sumL_take {α:Type} {f:α→Nat} {l:List α} {c:Nat} {d:α} (h:c<l.length):sumL f (l.take c)+f (l.getD c d)≤sumL f l:=by
  have e:l=l.take c++l.getD c d::l.drop (c+1):=by
    conv=>lhs;rw [← List.take_append_drop c l,List.drop_eq_getElem_cons h]
    simp [List.getD,h]
  conv=>rhs;rw [e]
  rw [sumL_app,sumL];omega
theorem sumL_take_succ {α:Type} {f:α→Nat} {l:List α} {c:Nat} {d:α} (h:c<l.length):sumL f (l.take (c+1))=sumL f (l.take c)+f (l.getD c d):=by
  rw [List.take_add_one,sumL_app,List.getElem?_eq_getElem h]
  simp [sumL,List.getD,h]
theorem nsum_shift {f:Nat→Nat} {a:Nat}:∀ {b:Nat},a≤b→tsum f a b=nsum (fun q=>f (a+q)) (b - a)
  | 0, h => by have : a = 0 := by omega
               subst this;rfl
  | b + 1, h => by
    by_cases e:a=b+1
    · subst e;rw [tsum_empty (Nat.le_refl _),Nat.sub_self];rfl
    · rw [tsum_succ (by omega),nsum_shift (b:=b) (by omega),show b+1 - a=(b - a)+1 by omega]
      show _=nsum _ (b - a)+f (a+(b - a))
      rw [show a+(b - a)=b by omega]
theorem cut_sum {g:Grammar} {w:List Int}:∀ (l:List Int) (i j:Nat),l ≠ []→sumL (prT g w l i) (cutN (l.length - 1) i j)=rowN g w l i j
  | [],_,_,h=>absurd rfl h
  | [x],i,j,_=>by simp [cutN,sumL,prT,rowN_one]
  | x :: y :: l, i, j, _ => by
    rw [rowN_two]
    show sumL _ (cutN (l.length+1) i j)=_
    unfold cutN
    rw [sumL_flat,sumL_range]
    have key:∀ q,sumL (prT g w (x::y::l) i) ((cutN l.length (i+1+q) j).map fun r=>(i+1+q)::r)=trees g w x i (i+1+q) * rowN g w (y::l) (i+1+q) j:=fun q=>by
      rw [sumL_map,← cut_sum (y::l) (i+1+q) j (by simp),← sumL_mul]
      exact sumL_congr fun r _=>prT_cons
    rw [nsum_ext (fun q _=>key q)]
    by_cases h:i+1≤j
    · rw [nsum_shift h]
    · rw [show j - (i+1)=0 by omega,tsum_empty (by omega)];rfl
def rlB (g:Grammar) (w:List Int) (x:Int) (i j q:Nat):Nat:=nsum (ruleV g w x i j) q
inductive Tk (g:Grammar) (w:List Int):List Int→Nat→List Nat→List Int→Nat→Prop
  | nil (i:Nat):Tk g w [] i [] [] 0
  | sym {x:Int} {l:List Int} {i:Nat} {es:List Nat} {st:List Int} {K:Nat} (hx:x<g.k) (hw:w.getD i 0=x) (h:Tk g w l (i+1) es st K):Tk g w (x::l) i ((i+1)::es) st K
  | name {x:Int} {l:List Int} {i e:Nat} {es:List Nat} {q c:Nat} {s1 s2:List Int} {K1 K2:Nat} (hx:¬ x<g.k) (hq:RuleAt g x q) (hc:c<(cutN ((g.rules.getD q default).right.length - 1) i e).length)
      (h1:Tk g w (g.rules.getD q default).right i ((cutN ((g.rules.getD q default).right.length - 1) i e).getD c []) s1 K1) (h2:Tk g w l e es s2 K2) :
      Tk g w (x::l) i (e::es) ((q:Int)::s1++s2) ((rlB g w x i e q+sumL (prT g w (g.rules.getD q default).right i) ((cutN ((g.rules.getD q default).right.length - 1) i e).take c)+K1) * prT g w l e es+K2)
theorem rule_row {g:Grammar} {w:List Int} {x:Int} {q i j:Nat} (hq:RuleAt g x q):ruleV g w x i j q=rowN g w (g.rules.getD q default).right i j:=by
  unfold ruleV
  have:=hq.2.2
  rw [Int.toNat_natCast] at this
  rw [if_pos this]
theorem rlB_row {g:Grammar} {w:List Int} (hp:Proper g) {x:Int} {q i j:Nat} (hx:¬ x<g.k) (hq:RuleAt g x q):rlB g w x i j q+rowN g w (g.rules.getD q default).right i j≤trees g w x i j:=by
  rw [trees_name hp hx,← rule_row hq]
  exact nsum_mono (f:=ruleV g w x i j) (n:=q+1) (by have:=hq.2.1;omega)
theorem right_ne {g:Grammar} (hp:Proper g) {q:Nat} (hq:q<g.rules.length):(g.rules.getD q default).right ≠ []:=(hp _ (getD_mem' (l:=g.rules) (i:=q) hq)).1
theorem rule_lt {g:Grammar} {x:Int} {q:Nat} (hq:RuleAt g x q):q<g.rules.length:=by have:=hq.2.1;omega
theorem Tk.lt {g:Grammar} {w:List Int} (hp:Proper g) {l:List Int} {i:Nat} {es:List Nat} {st:List Int} {K:Nat} (h:Tk g w l i es st K):K<prT g w l i es:=by
  induction h with
  | nil=>exact Nat.one_pos
  | @sym x l i es st K hx hw h ih =>
    rw [prT_cons,trees_sym hx,symV,if_pos ⟨rfl,hw⟩,Nat.one_mul];exact ih
  | @name x l i e es q c s1 s2 K1 K2 hx hq hc h1 h2 ih1 ih2 =>
    have hr:=cut_sum (g:=g) (w:=w) _ i e (right_ne hp (rule_lt hq))
    have h3:=sumL_take (f:=prT g w (g.rules.getD q default).right i) (d:=[]) hc
    have h4:=rlB_row hp (w:=w) (i:=i) (j:=e) hx hq
    rw [prT_cons]
    have h5:rlB g w x i e q+sumL (prT g w (g.rules.getD q default).right i) ((cutN ((g.rules.getD q default).right.length - 1) i e).take c)+K1+1≤trees g w x i e:=by omega
    refine Nat.lt_of_lt_of_le ?_ (Nat.mul_le_mul_right _ h5)
    rw [Nat.succ_mul];omega
theorem Tk.cons {g:Grammar} {w:List Int} {x:Int} {l:List Int} {i e:Nat} {es:List Nat} {s1 s2:List Int} {n K:Nat} (h1:Tk g w [x] i [e] s1 n) (h2:Tk g w l e es s2 K):Tk g w (x::l) i (e::es) (s1++s2) (n * prT g w l e es+K):=by
  cases h1 with
  | sym hx hw h =>
    cases h with
    | nil=>rw [Nat.zero_mul,Nat.zero_add];exact .sym hx hw h2
  | @name _ _ _ _ _ q c t1 t2 K1 K2 hx hq hc h3 h4 =>
    cases h4 with
    | nil =>
      rw [List.append_nil]
      have:=Tk.name hx hq hc h3 h2
      rw [show prT g w [] e []=1 from rfl,Nat.mul_one,Nat.add_zero]
      exact this
theorem Tk.len {g:Grammar} {w:List Int} {l:List Int} {i:Nat} {es:List Nat} {st:List Int} {K:Nat} (h:Tk g w l i es st K):es.length=l.length:=by
  induction h with
  | nil=>rfl
  | sym _ _ _ ih=>simp [ih]
  | name _ _ _ _ _ _ ih2=>simp [ih2]
theorem Tk.det {g:Grammar} {w:List Int} {l:List Int} {i:Nat} {es:List Nat} {st:List Int} {K:Nat} (h:Tk g w l i es st K):∀ {es':List Nat} {st' r r':List Int} {K':Nat},Tk g w l i es' st' K'→st++r=st'++r'→st=st'∧es=es'∧K=K'∧r=r':=by
  induction h with
  | nil =>
    intro es' st' r r' K' h' e
    cases h' with
    | nil=>exact ⟨rfl,rfl,rfl,e⟩
  | sym hx hw h ih =>
    intro es' st' r r' K' h' e
    cases h' with
    | sym _ _ h2=>obtain ⟨e1,e2,e3,e4⟩:=ih h2 e;exact ⟨e1,by rw [e2],e3,e4⟩
    | name hn=>exact absurd hx hn
  | @name x l i e es q c s1 s2 K1 K2 hx hq hc h1 h2 ih1 ih2 =>
    intro es' st' r r' K' h' he
    cases h' with
    | sym hn=>exact absurd hn hx
    | @name _ _ _ e' es' q' c' t1 t2 L1 L2 hx' hq' hc' k1 k2 =>
      simp only [List.cons_append,List.append_assoc,List.cons.injEq,Int.natCast_inj] at he
      obtain ⟨rfl,he⟩:=he
      obtain ⟨e1,e2,e3,e4⟩:=ih1 k1 he
      have l1:=cutN_last (getD_cut hc)
      have l2:=cutN_last (getD_cut hc')
      rw [e2,l2] at l1
      have hee:e'=e:=by simpa using l1
      subst hee
      have hcc:=cutN_inj hc hc' e2
      subst hcc
      obtain ⟨f1,f2,f3,f4⟩:=ih2 k2 e4
      exact ⟨by rw [e1,f1],by rw [f2],by rw [e3,f2,f3],f4⟩
end Go.Dm
