/-
 Texts of this claim, one behind another.
-/
import Derived.Test.YtjekkbpdgnohcaaMg17
import Derived.Test.YtjekkbpdgnohcaaMg14
import Derived.Test.YtjekkbpdgnohcaaMg13
import Derived.Test.YtjekkbpdgnohcaaMg11
set_option linter.unusedSimpArgs false
set_option linter.unnecessarySimpa false
set_option linter.unusedVariables false
set_option linter.defProp false
namespace Go.Proofs.Ytjekkbpdgnohcaa
open Go.Dm
theorem wyD_ne {l:List Int} {i:Nat} {es:List Nat} (h:l ≠ []):wyD l i es=[.sl 3 (tbl stD (wyS l i es))]:=by unfold wyD;rw [if_neg h]
theorem wyS_len2:∀ {l:List Int} {i:Nat} {es:List Nat},es.length=l.length→(wyS l i es).length=l.length
  | [],_,_,_=>by simp [wyS]
  | _::_,_,[],h=>by simp at h
  | _::l,_,e::es,h=>by simp only [wyS,List.length_cons];rw [wyS_len2 (by simpa using h)]
theorem wyS_get:∀ {l:List Int} {i k:Nat} {es:List Nat},es.length=l.length→k<l.length→(wyS l i es).getD k default=(stA i es k,es.getD k 0,l.getD k 0)
  | [],_,_,_,_,h=>absurd h (Nat.not_lt_zero _)
  | _::_,_,_,[],h,_=>by simp at h
  | x::l,i,0,e::es,h,_=>by simp [wyS,stA]
  | x::l,i,k+1,e::es,h,hk=>by
    rw [wyS,List.getD_cons_succ,wyS_get (by simpa using h) (by simpa using hk),stA_cons];rfl
theorem prT_split {g:Grammar} {w:List Int}:∀ {l:List Int} {es:List Nat} {i m:Nat},es.length=l.length→prT g w l i es=prT g w (l.take m) i es * prT g w (l.drop m) (stA i es m) (es.drop m)
  | l,es,i,0,h=>by simp [stA,prT]
  | [],[],i,m+1,h=>by simp [prT]
  | [],_::_,i,m+1,h=>by simp at h
  | x::l,[],i,m+1,h=>by simp at h
  | x::l,e::es,i,m+1,h=>by
    rw [List.take_succ_cons,List.drop_succ_cons,List.drop_succ_cons,prT_cons,prT_cons,stA_cons,prT_split (l:=l) (es:=es) (m:=m) (by simpa using h),Nat.mul_assoc]
theorem prT_fac {g:Grammar} {w:List Int} {l:List Int} {es:List Nat} {i m B:Nat} (hl:es.length=l.length) (hm:m<l.length) (h0:prT g w l i es ≠ 0) (hB:prT g w l i es≤B) :
    ∃ T P Q,trees g w (l.getD m 0) (stA i es m) (es.getD m 0)=T∧prT g w (l.take m) i es=P∧prT g w (l.drop (m+1)) (stA i es (m+1)) (es.drop (m+1))=Q∧prT g w (l.take (m+1)) i es=P * T∧prT g w (l.drop m) (stA i es m) (es.drop m)=T * Q∧T ≠ 0∧T≤B∧P ≠ 0∧P * T≤B∧P≤B∧Q ≠ 0∧T * Q≤B∧Q≤B:=by
  refine ⟨_,_,_,rfl,rfl,rfl,prT_take hm (by omega),?_,?_⟩
  · rw [dropC (d:=0) hm,dropC (d:=0) (show m<es.length by omega),prT_cons,← stA_succ (i:=i)]
  have e1:=prT_split (g:=g) (w:=w) (i:=i) (m:=m) hl
  have e2:prT g w (l.drop m) (stA i es m) (es.drop m)=trees g w (l.getD m 0) (stA i es m) (es.getD m 0) * prT g w (l.drop (m+1)) (stA i es (m+1)) (es.drop (m+1)):=by
    rw [dropC (d:=0) hm,dropC (d:=0) (show m<es.length by omega),prT_cons,← stA_succ (i:=i)]
  rw [e1,e2] at h0 hB
  generalize trees g w (l.getD m 0) (stA i es m) (es.getD m 0)=T at *
  generalize prT g w (l.take m) i es=P at *
  generalize prT g w (l.drop (m+1)) (stA i es (m+1)) (es.drop (m+1))=Q at *
  have hP:P ≠ 0:=fun e=>h0 (by rw [e,Nat.zero_mul])
  have hT:T ≠ 0:=fun e=>h0 (by rw [e,Nat.zero_mul,Nat.mul_zero])
  have hQ:Q ≠ 0:=fun e=>h0 (by rw [e,Nat.mul_zero,Nat.mul_zero])
  have a1:T * Q≤P * (T * Q):=Nat.le_mul_of_pos_left _ (Nat.pos_of_ne_zero hP)
  have a2:T≤T * Q:=Nat.le_mul_of_pos_right _ (Nat.pos_of_ne_zero hQ)
  have a3:Q≤T * Q:=Nat.le_mul_of_pos_left _ (Nat.pos_of_ne_zero hT)
  have a4:P * T≤P * T * Q:=Nat.le_mul_of_pos_right _ (Nat.pos_of_ne_zero hQ)
  have a5:P≤P * T:=Nat.le_mul_of_pos_right _ (Nat.pos_of_ne_zero hT)
  rw [Nat.mul_assoc] at a4
  exact ⟨hT,by omega,hP,by omega,by omega,hQ,by omega,by omega⟩
def ahV (g:Grammar) (w:List Int) (x:Int) (i j:Nat) (stp:List Int) (d:D):Prop :=
  (∃ st K r,stp=st++r∧Tk g w [x] i [j] st K∧d=.tu [iv .i64 K,iv .i64 st.length])∨(ahNo g w x i j stp∧d=.tu [iv .i64 (-1),iv .i64 0])
def ahR (g:Grammar) (w:List Int) (x:Int) (i j:Nat) (stp:List Int) (d:D) (o:List (Option Ob)):Prop := ∃ L,ahV g w x i j stp d∧o=(buO g w L).map some∧BI g w L
def ahP (g:Grammar) (w:List Int) (x:Int) (i j:Nat):Prop:=∀ stp:List Int,stp.length≤1000000→∀ L,BI g w L→Dm.SpecH Try.prog 29 [.ptr 0 6 0 0,iv .i64 (x - g.k),iv .i64 i,iv .i64 j,.sl 1 (i64s stp)] (buO g w L) (ahR g w x i j stp)
theorem ah_fin {g:Grammar} {w:List Int} {x:Int} {i j:Nat} {stp:List Int} {s:S} {d:D} {L:List BE} (h1:2≤s.N) (h2:fitL s 2 0 ((buO g w L).map some)) (hv:ahV g w x i j stp (d.trim 2)) (hL:BI g w L):FinH 2 (ahR g w x i j stp) s d :=
  finH_mk ((buO g w L).map some) (by simp [buO]) (by simpa [buO] using h1) (by simpa [buO] using h2) ⟨L,hv,rfl,hL⟩
theorem ivEq {a b:Int} (h:a=b):D.v (.int .i64 a)=iv .i64 b:=by subst h;rfl
def vah:=And.intro vsp<|And.intro @wyS_len @wyS_len
set_option maxRecDepth 10000 in
set_option maxHeartbeats 4000000 in
theorem ahead_step (g : Grammar) (w : List Int) (hc : CC g w) (x : Int) (hx : ¬ x < g.k) (hx2 : x < g.k + g.n) (i j : Nat) (hij : i ≤ j) (hj : j ≤ w.length) (hT : trees g w x i j ≤ 1099511627776) (ih : ∀ x' i' j', ¬ x' < g.k → x' < g.k + g.n → i' ≤ j' → j' ≤ w.length → j' - i' < j - i → trees g w x' i' j' ≤ 1099511627776 → ahP g w x' i' j') (stp : List Int) (hstp : stp.length ≤ 1000000) (L : List BE) (hL : BI g w L) : Dm.SpecH Try.prog 29 [.ptr 0 6 0 0, iv .i64 (x - g.k), iv .i64 i, iv .i64 j, .sl 1 (i64s stp)] (buO g w L) (ahR g w x i j stp) := by
  refine specH_of_vc mixed Try.func29 c29 (by rw [show Try.f29.ntmps=_ from Try.ntmps29];simp) ?_
  unfold m29 r29
  have hk:=hc.v.k
  have hn:=hc.v.n
  have hw:=hc.w
  have hlen:=hc.v.len
  have hno:∀ L:List BE,BI g w L→∀ s:S,2≤s.N→fitL s 2 0 ((buO g w L).map some)→ahNo g w x i j stp→FinH 2 (ahR g w x i j stp) s (.tu [iv .i64 (-1),iv .i64 0]):=fun L hL s h1 h2 h3=>ah_fin h1 h2 (.inr ⟨h3,by simp (disch:=first|omega|(simp only [vlen];first|done|omega)) only [vah,↓vAq,vBq,↓reduceIte,Nat.reduceBEq,Nat.reduceEqDiff,Nat.reduceLT,Nat.reduceLeDiff,Nat.reduceAdd,Nat.reduceMul,Nat.reduceSub,reduceCtorEq,Int.reduceToNat]⟩) hL
  by_cases hs0:stp=[]
  · subst hs0
    unfold buO at hno ⊢
    repeat' first|((first|refine Br.dec ?_ ?_|refine Br.eqi ?_ ?_)<;>intro h<;>try (exfalso;omega))|refine Z13 ?_|with_reducible exact trivial|(refine Br.mk ?_ ?_<;>intro h)|(refine BrN.mk (fun h => ?_) ?_)|(refine AltVC.mk ?_ ?_)
    exact hno L hL _ Y10 Y10 (ahNo_nil hx)
  have hsl:0<stp.length:=List.length_pos_iff.2 hs0
  by_cases hr0:0≤stp.getD 0 0∧stp.getD 0 0<g.rules.length
  · obtain ⟨q, hq0⟩ : ∃ q : Nat, stp.getD 0 0 = q := ⟨(stp.getD 0 0).toNat, by omega⟩
    have hql:q<g.rules.length:=by omega
    by_cases hlx:(g.rules.getD q default).left=x - g.k
    · have hRA : RuleAt g x q := ⟨by omega, by omega, by rw [Int.toNat_natCast]; exact hlx⟩
      have hm:g.rules.getD q default ∈ g.rules:=getD_mem' hql
      have hlong:=hc.v.long _ hm
      have hright:=hc.v.right _ hm
      have hne:=right_ne hc.p hql
      have hrl:0<(g.rules.getD q default).right.length:=List.length_pos_iff.2 hne
      have hrow:=rlB_row hc.p (w:=w) (i:=i) (j:=j) hx hRA
      have hws:=ways_sum (w:=w) hc.p (i:=i) (j:=j) hne
      have hdone:=fun t acc own=>@ah_done g w hc.p x i j q t acc own hx hRA
      have hways:=@ahNo_ways g w hc.p x i j q stp hx hq0 hRA
      unfold buO
      repeat' first|((first|refine Br.dec ?_ ?_|refine Br.eqi ?_ ?_)<;>intro h<;>try (exfalso;omega))|refine Z11 ?_|with_reducible exact trivial|(refine Br.mk ?_ ?_<;>intro h)|(refine BrN.mk (fun h => ?_) ?_)|(refine AltVC.mk ?_ ?_)
      refine LoopVC.mk (X:=Nat × List BE) (fun y=>[(12,iv .i64 (rlB g w x i j y.1)),(13,iv .i64 y.1)]) (fun y=>buL g w y.2) (fun y=>q - y.1) (fun y=>y.1≤q∧BI g w y.2) (0,L) ⟨Nat.zero_le _,hL⟩ ?_ ?_
      · unfold buL
        (simp (disch:=first|omega|(simp only [vlen];first|done|omega)) only [Fits_u,Fits_m,Fits_nil,List.length_append,vah,↓vAq,vBq,↓reduceIte,Nat.reduceBEq,Nat.reduceEqDiff,Nat.reduceLT,Nat.reduceLeDiff,Nat.reduceAdd,Nat.reduceMul,Nat.reduceSub,reduceCtorEq,Int.reduceToNat]<;>(repeat' first|rfl|apply And.intro))
        all_goals first|rfl|trace_state
      · rintro ⟨k, Lx⟩ ⟨hkq, hLx⟩
        simp only at hkq hLx ⊢
        unfold buL
        have hk1:=@rlB_succ g w x i j k
        have hk2:rlB g w x i j (k+1)≤trees g w x i j:=by rw [trees_name hc.p hx];exact nsum_mono (f:=ruleV g w x i j) (by omega)
        by_cases hkl:k<q
        · have hkr:=hc.v.long _ (getD_mem' (l:=g.rules) (i:=k) (by omega))
          have hkr2:=hc.v.right _ (getD_mem' (l:=g.rules) (i:=k) (by omega))
          by_cases hlk:(g.rules.getD k default).left=x - g.k
          · have hru:ruleV g w x i j k=rowN g w (g.rules.getD k default).right i j:=by unfold ruleV;rw [if_pos hlk]
            have hcp:cp (rowN g w (g.rules.getD k default).right i j)=rowN g w (g.rules.getD k default).right i j:=by unfold cp;omega
            repeat' first|((first|refine Br.dec ?_ ?_|refine Br.eqi ?_ ?_)<;>intro h<;>try (exfalso;omega))|refine Z11 ?_|with_reducible exact trivial|(refine Br.mk ?_ ?_<;>intro h)|(refine BrN.mk (fun h => ?_) ?_)|(refine AltVC.mk ?_ ?_)
            refine CallVC.lendE [0,1] [.ptr 0 6 0 0,.sl 1 (i64s (g.rules.getD k default).right),iv .i64 i,iv .i64 j] (buO g w Lx) (bushR_spec g w hc _ i j (by omega) (fun m hm=>hkr2 _ (getD_mem (d:=0) hm)) hij hj Lx hLx) (by simp) (by rfl) Y5 ?_
            rintro _ _ ⟨L2,rfl,rfl,hL2⟩
            unfold buO
            rw [hcp,← hru]
            repeat' first|((first|refine Br.dec ?_ ?_|refine Br.eqi ?_ ?_)<;>intro h<;>try (exfalso;omega))|refine Z11 ?_|with_reducible exact trivial|(refine Br.mk ?_ ?_<;>intro h)|(refine BrN.mk (fun h => ?_) ?_)|(refine AltVC.mk ?_ ?_)
            refine loopK.mk (k+1,L2) Y0 ⟨by show k+1≤q;omega,hL2⟩ (by show q - (k+1)<q - k;omega) ?_
            rw [hk1]
            (simp (disch:=first|omega|(simp only [vlen];first|done|omega)) only [Fits_u,Fits_m,Fits_nil,List.length_append,vah,↓vAq,vBq,↓reduceIte,Nat.reduceBEq,Nat.reduceEqDiff,Nat.reduceLT,Nat.reduceLeDiff,Nat.reduceAdd,Nat.reduceMul,Nat.reduceSub,reduceCtorEq,Int.reduceToNat]<;>(repeat' first|rfl|apply And.intro))
            all_goals first|rfl|trace_state
          · have hru:ruleV g w x i j k=0:=by unfold ruleV;rw [if_neg hlk]
            repeat' first|((first|refine Br.dec ?_ ?_|refine Br.eqi ?_ ?_)<;>intro h<;>try (exfalso;omega))|refine Z11 ?_|with_reducible exact trivial|(refine Br.mk ?_ ?_<;>intro h)|(refine BrN.mk (fun h => ?_) ?_)|(refine AltVC.mk ?_ ?_)
            refine loopK.mk (k+1,Lx) Y0 ⟨by show k+1≤q;omega,hLx⟩ (by show q - (k+1)<q - k;omega) ?_
            rw [hk1,hru,Nat.add_zero]
            (simp (disch:=first|omega|(simp only [vlen];first|done|omega)) only [Fits_u,Fits_m,Fits_nil,List.length_append,vah,↓vAq,vBq,↓reduceIte,Nat.reduceBEq,Nat.reduceEqDiff,Nat.reduceLT,Nat.reduceLeDiff,Nat.reduceAdd,Nat.reduceMul,Nat.reduceSub,reduceCtorEq,Int.reduceToNat]<;>(repeat' first|rfl|apply And.intro))
            all_goals first|rfl|trace_state
        · have hkq2 : k = q := by omega
          subst hkq2
          repeat' first|((first|refine Br.dec ?_ ?_|refine Br.eqi ?_ ?_)<;>intro h<;>try (exfalso;omega))|refine Z11 ?_|with_reducible exact trivial|(refine Br.mk ?_ ?_<;>intro h)|(refine BrN.mk (fun h => ?_) ?_)|(refine AltVC.mk ?_ ?_)
          refine CallVC.lendE [0,1] [.ptr 0 6 0 0,.sl 1 (i64s (g.rules.getD k default).right),iv .i64 i,iv .i64 j] (buO g w Lx) (spl_all g w hc _ (by omega) hright i j hij hj Lx hLx) (by simp) (by rfl) Y5 ?_
          rintro _ _ ⟨L2,hres,rfl,hL2⟩
          unfold buO
          rcases hres with rfl|⟨rfl,hemp⟩
          · generalize hW : splN g w (g.rules.getD k default).right i j = W at hdone hways hws ⊢
            have hWl:W.length≤28561:=by rw [← hW];exact Nat.le_trans (splN_len (by omega)) (Nat.le_trans (Nat.pow_le_pow_right (by omega) hlong) (by omega))
            repeat' first|((first|refine Br.dec ?_ ?_|refine Br.eqi ?_ ?_)<;>intro h<;>try (exfalso;omega))|refine Z11 ?_|with_reducible exact trivial|(refine Br.mk ?_ ?_<;>intro h)|(refine BrN.mk (fun h => ?_) ?_)|(refine AltVC.mk ?_ ?_)
            refine LoopVC.mk (X:=Nat × List BE) (fun y=>[(12,iv .i64 (rlB g w x i j k+sumL (prT g w (g.rules.getD k default).right i) (W.take y.1):Nat)),(112,iv .i64 y.1)]) (fun y=>buL g w y.2) (fun y=>W.length - y.1) (fun y=>y.1≤W.length∧BI g w y.2∧∀ t,t<y.1→∀ st K r,stp.drop 1=st++r→¬ Tk g w (g.rules.getD k default).right i (W.getD t default) st K) (0,L2) ⟨Nat.zero_le _,hL2,fun t h=>absurd h (Nat.not_lt_zero _)⟩ ?_ ?_
            · unfold buL
              simp only [List.take_zero,sumL,Nat.add_zero]
              (simp (disch:=first|omega|(simp only [vlen];first|done|omega)) only [Fits_u,Fits_m,Fits_nil,List.length_append,vah,↓vAq,vBq,↓reduceIte,Nat.reduceBEq,Nat.reduceEqDiff,Nat.reduceLT,Nat.reduceLeDiff,Nat.reduceAdd,Nat.reduceMul,Nat.reduceSub,reduceCtorEq,Int.reduceToNat]<;>(repeat' first|rfl|apply And.intro))
              all_goals first|rfl|trace_state
            · rintro ⟨t, Ly⟩ ⟨htW, hLy, htn⟩
              simp only at htW hLy htn ⊢
              unfold buL
              by_cases htl:t<W.length
              · have hmem : W.getD t default ∈ W := getD_mem' htl
                have hpos:=@way_pos g w hc.p (g.rules.getD k default).right i j hne (W.getD t default) (by rw [hW];exact hmem)
                have hwlen:=splN_wlen (by rw [hW];exact hmem)
                have hgw:=wyD_ne (i:=i) (es:=W.getD t default) hne
                have hmono:=cutN_mono hij hpos.1
                have hshort:=cutN_short hpos.1
                have hst:=sumL_take (f:=prT g w (g.rules.getD k default).right i) (d:=default) htl
                have hst2:=sumL_take_succ (f:=prT g w (g.rules.getD k default).right i) (d:=default) htl
                have hdone:=hdone t
                generalize hway:W.getD t default=way at hmem hpos hwlen hgw hmono hshort hst hst2 hdone ⊢
                have hwl:=@wyS_len2 (g.rules.getD k default).right i way hwlen
                have hpB:prT g w (g.rules.getD k default).right i way≤1099511627776:=by omega
                have hfac:=fun m hm=>@prT_fac g w (g.rules.getD k default).right way i m _ hwlen hm hpos.2 hpB
                have hsget:=fun m=>@wyS_get (g.rules.getD k default).right i m way hwlen
                repeat' first|((first|refine Br.dec ?_ ?_|refine Br.eqi ?_ ?_)<;>intro h<;>try (exfalso;omega))|refine Z22 ?_|with_reducible exact trivial|(refine Br.mk ?_ ?_<;>intro h)|(refine BrN.mk (fun h => ?_) ?_)|(refine AltVC.mk ?_ ?_)
                refine LoopVC.mk (X:=Nat × List BE) (fun y=>[(16,iv .i64 (prT g w ((g.rules.getD k default).right.take y.1) i way)),(118,iv .i64 y.1)]) (fun y=>buL g w y.2) (fun y=>(g.rules.getD k default).right.length - y.1) (fun y=>y.1≤(g.rules.getD k default).right.length∧BI g w y.2) (0,Ly) ⟨Nat.zero_le _,hLy⟩ ?_ ?_
                · unfold buL
                  simp only [List.take_zero,prT_nil]
                  (simp (disch:=first|omega|(simp only [vlen];first|done|omega)) only [Fits_u,Fits_m,Fits_nil,List.length_append,vah,↓vAq,vBq,↓reduceIte,Nat.reduceBEq,Nat.reduceEqDiff,Nat.reduceLT,Nat.reduceLeDiff,Nat.reduceAdd,Nat.reduceMul,Nat.reduceSub,reduceCtorEq,Int.reduceToNat]<;>(repeat' first|rfl|apply And.intro))
                  all_goals first|rfl|trace_state
                · rintro ⟨m, Lz⟩ ⟨hmr, hLz⟩
                  simp only at hmr hLz ⊢
                  unfold buL
                  by_cases hml:m<(g.rules.getD k default).right.length
                  · obtain ⟨T,P,Q,eT,eP,eQ,eP2,eQ2,hT0,hTB,hP0,hPT,hPB,hQ0,hTQ,hQB⟩:=hfac m hml
                    have hsg:=hsget m hml
                    have hxm:=hright _ (getD_mem (l:=(g.rules.getD k default).right) (i:=m) (d:=0) hml)
                    have hgm:=hmono.get (k:=m) (by omega)
                    rw [eP]
                    have hPT2:(P:Int) * (T:Int)=((P * T:Nat):Int):=(Int.natCast_mul P T).symm
                    have hcT:cp T=T:=by unfold cp;omega
                    have hbt:=bushT_spec g w hc ((g.rules.getD k default).right.getD m 0) (stA i way m) (way.getD m 0) hxm.1 hxm.2 hgm.1 (by omega) Lz hLz
                    rw [eT] at hbt
                    repeat' first|((first|refine Br.dec ?_ ?_|refine Br.eqi ?_ ?_)<;>intro h<;>try (exfalso;omega))|refine Z27 ?_|with_reducible exact trivial|(refine Br.mk ?_ ?_<;>intro h)|(refine BrN.mk (fun h => ?_) ?_)|(refine AltVC.mk ?_ ?_)
                    refine CallVC.lendE [0,1] [.ptr 0 6 0 0,iv .i64 ((g.rules.getD k default).right.getD m 0),iv .i64 (stA i way m),iv .i64 (way.getD m 0)] (buO g w Lz) hbt (by simp) (by rfl) Y5 ?_
                    rintro _ _ ⟨L3,rfl,rfl,hL3⟩
                    unfold buO
                    rw [hcT]
                    repeat' first|((first|refine Br.dec ?_ ?_|refine Br.eqi ?_ ?_)<;>intro h<;>try (exfalso;omega))|(simp (disch:=first|omega|(simp only [vlen];first|done|omega)) only [vah,hq0,hway,hgw,hsg,hPT2,↓vAq,vBq,↓reduceIte,Nat.reduceBEq,Nat.reduceEqDiff,Nat.reduceLT,Nat.reduceLeDiff,Nat.reduceAdd,Nat.reduceMul,Nat.reduceSub,reduceCtorEq,Int.reduceToNat])|(refine Br.mk ?_ ?_<;>intro h)|(refine BrN.mk (fun h => ?_) ?_)|(refine AltVC.mk ?_ ?_)
                    refine loopK.mk (m+1,L3) Y0 ⟨by show m+1≤(g.rules.getD k default).right.length;omega,hL3⟩ (by show (g.rules.getD k default).right.length - (m+1)<(g.rules.getD k default).right.length - m;omega) ?_
                    simp only [eP2]
                    (simp (disch:=first|omega|(simp only [vlen];first|done|omega)) only [Fits_u,Fits_m,Fits_nil,List.length_append,vah,↓vAq,vBq,↓reduceIte,Nat.reduceBEq,Nat.reduceEqDiff,Nat.reduceLT,Nat.reduceLeDiff,Nat.reduceAdd,Nat.reduceMul,Nat.reduceSub,reduceCtorEq,Int.reduceToNat]<;>(repeat' first|rfl|apply And.intro))
                    all_goals first|rfl|trace_state
                  · have hme:m=(g.rules.getD k default).right.length:=by omega
                    subst hme
                    rw [List.take_length]
                    repeat' first|((first|refine Br.dec ?_ ?_|refine Br.eqi ?_ ?_)<;>intro h<;>try (exfalso;omega))|refine Z22 ?_|with_reducible exact trivial|(refine Br.mk ?_ ?_<;>intro h)|(refine BrN.mk (fun h => ?_) ?_)|(refine AltVC.mk ?_ ?_)
                    refine LoopVC.mk (X:=Nat × List Int × Nat × List BE) (fun y=>[(19,iv .i64 (y.2.1.length+1:Nat)),(20,iv .i64 y.2.2.1),(21,iv .i64 (prT g w ((g.rules.getD k default).right.drop y.1) (stA i way y.1) (way.drop y.1))),(22,.v (.bool true)),(136,iv .i64 y.1)]) (fun y=>buL g w y.2.2.2) (fun y=>(g.rules.getD k default).right.length - y.1) (fun y=>y.1≤(g.rules.getD k default).right.length∧BI g w y.2.2.2∧AI g w (g.rules.getD k default).right i way (stp.drop 1) y.1 y.2.1 y.2.2.1) (0,[],0,Lz) ⟨Nat.zero_le _,hLz,AI.zero⟩ ?_ ?_
                    · unfold buL
                      simp only [List.drop_zero,show stA i way 0=i from rfl,List.length_nil,Nat.zero_add]
                      (simp (disch:=first|omega|(simp only [vlen];first|done|omega)) only [Fits_u,Fits_m,Fits_nil,List.length_append,vah,↓vAq,vBq,↓reduceIte,Nat.reduceBEq,Nat.reduceEqDiff,Nat.reduceLT,Nat.reduceLeDiff,Nat.reduceAdd,Nat.reduceMul,Nat.reduceSub,reduceCtorEq,Int.reduceToNat]<;>(repeat' first|rfl|apply And.intro))
                      all_goals first|rfl|trace_state
                    · rintro ⟨m, acc, own, Lu⟩ ⟨hmr2, hLu, hAI⟩
                      simp only at hmr2 hLu hAI ⊢
                      unfold buL
                      have hal:acc.length+1≤stp.length:=by
                        obtain ⟨rest,e⟩:=hAI.pre
                        have:=congrArg List.length e
                        rw [List.length_drop,List.length_append] at this
                        omega
                      have hle:=hAI.le
                      by_cases hml:m<(g.rules.getD k default).right.length
                      · obtain ⟨T, P, Q, eT, eP, eQ, eP2, eQ2, hT0, hTB, hP0, hPT, hPB, hQ0, hTQ, hQB⟩ := hfac m hml
                        have hsg:=hsget m hml
                        have hxm:=hright _ (getD_mem (l:=(g.rules.getD k default).right) (i:=m) (d:=0) hml)
                        have hgm:=hmono.get (k:=m) (by omega)
                        rw [eQ2] at hle ⊢
                        have hdv:((T * Q:Nat):Int) / (T:Int)=(Q:Int):=by
                          rw [← Int.natCast_ediv,Nat.mul_div_cancel_left _ (Nat.pos_of_ne_zero hT0)]
                        have hcT:cp T=T:=by unfold cp;omega
                        have hbt:=bushT_spec g w hc ((g.rules.getD k default).right.getD m 0) (stA i way m) (way.getD m 0) hxm.1 hxm.2 hgm.1 (by omega) Lu hLu
                        rw [eT] at hbt
                        repeat' first|((first|refine Br.dec ?_ ?_|refine Br.eqi ?_ ?_)<;>intro h<;>try (exfalso;omega))|refine Z27 ?_|with_reducible exact trivial|(refine Br.mk ?_ ?_<;>intro h)|(refine BrN.mk (fun h => ?_) ?_)|(refine AltVC.mk ?_ ?_)
                        refine CallVC.lendE [0,1] [.ptr 0 6 0 0,iv .i64 ((g.rules.getD k default).right.getD m 0),iv .i64 (stA i way m),iv .i64 (way.getD m 0)] (buO g w Lu) hbt (by simp) (by rfl) Y5 ?_
                        rintro _ _ ⟨L3,rfl,rfl,hL3⟩
                        unfold buO
                        rw [hcT]
                        rcases (show (g.rules.getD k default).right.getD m 0<g.k∨¬ (g.rules.getD k default).right.getD m 0<g.k from Decidable.em _) with hsy|hsy
                        · have hn:=AI.sym hml (by omega) hAI hsy (by rw [eT];exact hT0) hc.p
                          repeat' first|((first|refine Br.dec ?_ ?_|refine Br.eqi ?_ ?_)<;>intro h<;>try (exfalso;omega))|refine Z23 ?_|with_reducible exact trivial|(refine Br.mk ?_ ?_<;>intro h)|(refine BrN.mk (fun h => ?_) ?_)|(refine AltVC.mk ?_ ?_)
                          refine loopK.mk (m+1,acc,own,L3) Y0 ⟨by show m+1≤(g.rules.getD k default).right.length;omega,hL3,hn⟩ (by show (g.rules.getD k default).right.length - (m+1)<(g.rules.getD k default).right.length - m;omega) ?_
                          simp only [eQ]
                          (simp (disch:=first|omega|(simp only [vlen];first|done|omega)) only [Fits_u,Fits_m,Fits_nil,List.length_append,vah,↓vAq,vBq,↓reduceIte,Nat.reduceBEq,Nat.reduceEqDiff,Nat.reduceLT,Nat.reduceLeDiff,Nat.reduceAdd,Nat.reduceMul,Nat.reduceSub,reduceCtorEq,Int.reduceToNat]<;>(repeat' first|rfl|apply And.intro))
                          all_goals first|rfl|trace_state
                        · have h1l:0<(g.rules.getD k default).right.length - 1:=by
                            by_cases h1:(g.rules.getD k default).right.length=1
                            · exfalso
                              refine hsy ((hc.p _ hm).2 _ ?_)
                              match hr:(g.rules.getD k default).right,h1 with
                              | [s],_ =>
                                rw [hr] at hml
                                have:m=0:=by simpa using hml
                                subst this;rfl
                            · omega
                          have hsub:=ih _ (stA i way m) (way.getD m 0) hsy hxm.2 hgm.1 (by omega) (hshort m (by omega) h1l) (by rw [eT];exact hTB) (stp.drop (acc.length+1)) (by rw [List.length_drop];omega) L3 hL3
                          have hdd:(stp.drop 1).drop acc.length=stp.drop (acc.length+1):=by rw [List.drop_drop];congr 1;omega
                          repeat' first|((first|refine Br.dec ?_ ?_|refine Br.eqi ?_ ?_)<;>intro h<;>try (exfalso;omega))|refine Z23 ?_|with_reducible exact trivial|(refine Br.mk ?_ ?_<;>intro h)|(refine BrN.mk (fun h => ?_) ?_)|(refine AltVC.mk ?_ ?_)
                          refine CallVC.lendE [0,1] [.ptr 0 6 0 0,iv .i64 ((g.rules.getD k default).right.getD m 0 - g.k),iv .i64 (stA i way m),iv .i64 (way.getD m 0),.sl 1 (i64s (stp.drop (acc.length+1)))] (buO g w L3) hsub (by simp) (by rfl) Y5 ?_
                          rintro _ _ ⟨L4,hres,rfl,hL4⟩
                          unfold buO
                          rcases hres with ⟨st1,K1,r,e1,hT1,rfl⟩|⟨hno1,rfl⟩
                          · have hlt:=hT1.lt hc.p
                            rw [prT_cons,prT_nil,Nat.mul_one,eT] at hlt
                            have hn:=AI.stepG hml (by omega) hAI hT1 (by
                              obtain ⟨rest,e⟩:=hAI.pre
                              have e2:=hdd
                              rw [e,List.drop_left,e1] at e2
                              exact ⟨r,by rw [e,e2,List.append_assoc]⟩) hc.p
                            rw [eQ] at hn
                            have hle2:=hn.le
                            rw [eQ] at hle2
                            have hKQ:(K1:Int) * (Q:Int)=((K1 * Q:Nat):Int):=(Int.natCast_mul K1 Q).symm
                            have hsl1:st1.length≤stp.length:=by
                              have:=congrArg List.length e1
                              rw [List.length_drop,List.length_append] at this
                              omega
                            repeat' first|((first|refine Br.dec ?_ ?_|refine Br.eqi ?_ ?_)<;>intro h<;>try (exfalso;omega))|(simp (disch:=first|omega|(simp only [vlen];first|done|omega)) only [vah,hq0,hway,hgw,hsg,hdv,hKQ,↓vAq,vBq,↓reduceIte,Nat.reduceBEq,Nat.reduceEqDiff,Nat.reduceLT,Nat.reduceLeDiff,Nat.reduceAdd,Nat.reduceMul,Nat.reduceSub,reduceCtorEq,Int.reduceToNat])|(refine Br.mk ?_ ?_<;>intro h)|(refine BrN.mk (fun h => ?_) ?_)|(refine AltVC.mk ?_ ?_)
                            refine loopK.mk (m+1,acc++st1,own+K1 * Q,L4) Y0 ⟨by show m+1≤(g.rules.getD k default).right.length;omega,hL4,hn⟩ (by show (g.rules.getD k default).right.length - (m+1)<(g.rules.getD k default).right.length - m;omega) ?_
                            simp only [eQ]
                            (simp (disch:=first|omega|(simp only [vlen];first|done|omega)) only [Fits_u,Fits_m,Fits_nil,List.length_append,vah,↓vAq,vBq,↓reduceIte,Nat.reduceBEq,Nat.reduceEqDiff,Nat.reduceLT,Nat.reduceLeDiff,Nat.reduceAdd,Nat.reduceMul,Nat.reduceSub,reduceCtorEq,Int.reduceToNat]<;>(repeat' first|rfl|apply And.intro))
                            all_goals first|rfl|exact ivEq (by omega)|trace_state
                          · have hnone:=AI.none hml (by omega) hAI (by rw [hdd];exact hno1)
                            repeat' first|((first|refine Br.dec ?_ ?_|refine Br.eqi ?_ ?_)<;>intro h<;>try (exfalso;omega))|refine Z23 ?_|with_reducible exact trivial|(refine Br.mk ?_ ?_<;>intro h)|(refine BrN.mk (fun h => ?_) ?_)|(refine AltVC.mk ?_ ?_)
                            refine loopK.mk (t+1,L4) Y0 ⟨by show t+1≤W.length;omega,hL4,fun t' ht' => ?_⟩ (by show W.length - (t+1)<W.length - t;omega) ?_
                            · have ht2:t'<t+1:=ht'
                              by_cases e:t'=t
                              · rw [e,hway];exact hnone
                              · exact htn t' (by omega)
                            · simp only [hst2]
                              (simp (disch:=first|omega|(simp only [vlen];first|done|omega)) only [Fits_u,Fits_m,Fits_nil,List.length_append,vah,↓vAq,vBq,↓reduceIte,Nat.reduceBEq,Nat.reduceEqDiff,Nat.reduceLT,Nat.reduceLeDiff,Nat.reduceAdd,Nat.reduceMul,Nat.reduceSub,reduceCtorEq,Int.reduceToNat]<;>(repeat' first|rfl|apply And.intro))
                              all_goals first|rfl|exact ivEq (by omega)|trace_state
                      · have hme:m=(g.rules.getD k default).right.length:=by omega
                        have hfin:=hAI.all hme (by omega)
                        have hTk:=hdone acc own htl hfin
                        obtain ⟨rest,hrest⟩:=hAI.pre
                        have hstp:stp=((k:Int)::acc)++rest:=by
                          rw [List.cons_append,← hrest,← hq0]
                          exact (dropC (d:=0) hsl)
                        repeat' first|((first|refine Br.dec ?_ ?_|refine Br.eqi ?_ ?_)<;>intro h<;>try (exfalso;omega))|refine Z22 ?_|with_reducible exact trivial|(refine Br.mk ?_ ?_<;>intro h)|(refine BrN.mk (fun h => ?_) ?_)|(refine AltVC.mk ?_ ?_)
                        exact ah_fin (L:=Lu) Y10 Y22 (.inl ⟨_,_,rest,hstp,hTk,by (simp (disch:=first|omega|(simp only [vlen];first|done|omega)) only [vah,↓vAq,vBq,↓reduceIte,Nat.reduceBEq,Nat.reduceEqDiff,Nat.reduceLT,Nat.reduceLeDiff,Nat.reduceAdd,Nat.reduceMul,Nat.reduceSub,reduceCtorEq,Int.reduceToNat]);exact congrArg (fun v=>D.tu [v,_]) (ivEq (by omega))⟩) hLu
              · repeat' first|((first|refine Br.dec ?_ ?_|refine Br.eqi ?_ ?_)<;>intro h<;>try (exfalso;omega))|refine Z11 ?_|with_reducible exact trivial|(refine Br.mk ?_ ?_<;>intro h)|(refine BrN.mk (fun h => ?_) ?_)|(refine AltVC.mk ?_ ?_)
                refine hno Ly hLy _ Y10 Y22 (hways fun t' h=>htn t' (by omega))
          · repeat' first|((first|refine Br.dec ?_ ?_|refine Br.eqi ?_ ?_)<;>intro h<;>try (exfalso;omega))|refine Z11 ?_|with_reducible exact trivial|(refine Br.mk ?_ ?_<;>intro h)|(refine BrN.mk (fun h => ?_) ?_)|(refine AltVC.mk ?_ ?_)
            refine LoopVC.mk (X:=Unit) (fun _=>[(12,iv .i64 (rlB g w x i j k)),(112,iv .i64 0)]) (fun _=>buL g w L2) (fun _=>0) (fun _=>True) () trivial ?_ ?_
            · unfold buL
              (simp (disch:=first|omega|(simp only [vlen];first|done|omega)) only [Fits_u,Fits_m,Fits_nil,List.length_append,vah,↓vAq,vBq,↓reduceIte,Nat.reduceBEq,Nat.reduceEqDiff,Nat.reduceLT,Nat.reduceLeDiff,Nat.reduceAdd,Nat.reduceMul,Nat.reduceSub,reduceCtorEq,Int.reduceToNat]<;>(repeat' first|rfl|apply And.intro))
              all_goals first|rfl|trace_state
            · rintro _ _
              unfold buL
              repeat' first|((first|refine Br.dec ?_ ?_|refine Br.eqi ?_ ?_)<;>intro h<;>try (exfalso;omega))|refine Z11 ?_|with_reducible exact trivial|(refine Br.mk ?_ ?_<;>intro h)|(refine BrN.mk (fun h => ?_) ?_)|(refine AltVC.mk ?_ ?_)
              exact hno L2 hL2 _ Y10 Y22 (hways fun t' h=>by rw [hemp] at h;exact absurd h (Nat.not_lt_zero _))
    · unfold buO at hno ⊢
      repeat' first|((first|refine Br.dec ?_ ?_|refine Br.eqi ?_ ?_)<;>intro h<;>try (exfalso;omega))|refine Z11 ?_|with_reducible exact trivial|(refine Br.mk ?_ ?_<;>intro h)|(refine BrN.mk (fun h => ?_) ?_)|(refine AltVC.mk ?_ ?_)
      exact hno L hL _ Y10 Y10 (ahNo_rule hx fun q' _ hq' hRA=>hlx (by have:=hRA.2.2;rw [Int.toNat_natCast] at this;rw [show q=q' by omega];exact this))
  · unfold buO at hno ⊢
    repeat' first|((first|refine Br.dec ?_ ?_|refine Br.eqi ?_ ?_)<;>intro h<;>try (exfalso;omega))|refine Z13 ?_|with_reducible exact trivial|(refine Br.mk ?_ ?_<;>intro h)|(refine BrN.mk (fun h => ?_) ?_)|(refine AltVC.mk ?_ ?_)
    all_goals exact hno L hL _ Y10 Y10 (ahNo_rule hx fun q' _ hq' hRA=>hr0 (by have:=hRA.1;have:=hRA.2.1;omega))
theorem ahead_all (g:Grammar) (w:List Int) (hc:CC g w):∀ n x i j,¬ x<g.k→x<g.k+g.n→i≤j→j≤w.length→j - i<n→trees g w x i j≤1099511627776→ahP g w x i j:=by
  intro n
  induction n with
  | zero=>intro x i j _ _ _ _ h;exact absurd h (Nat.not_lt_zero _)
  | succ n ih =>
    intro x i j h0 h1 hij hj h2 hT stp hs L hL
    exact ahead_step g w hc x h0 h1 i j hij hj hT (fun x' i' j' a b c d e f=>ih x' i' j' a b c d (by omega) f) stp hs L hL
theorem ahead_spec (g:Grammar) (w:List Int) (hc:CC g w) (x:Int) (i j:Nat) (h0:¬ x<g.k) (h1:x<g.k+g.n) (hij:i≤j) (hj:j≤w.length) (hT:trees g w x i j≤1099511627776):ahP g w x i j:=ahead_all g w hc (j - i+1) x i j h0 h1 hij hj (Nat.lt_succ_self _) hT
end Go.Proofs.Ytjekkbpdgnohcaa

namespace Go.Proofs.Ytjekkbpdgnohcaa
open Go.Dm
def trC (g:Grammar) (w:List Int):Int:=if tcode g w=0 then (if 1099511627776<trN g w then 1 else 0) else tcode g w
set_option maxRecDepth 10000 in
set_option maxHeartbeats 4000000 in
theorem trees_spec (g : Grammar) (hg : g.ok) (w : List Int) (hw : w.length ≤ 9223372036854775807) : Dm.Spec Try.prog 58 [.ag (graD g), .sl 1 (i64s w)] (· = .tu [iv .i64 (if trC g w = 0 then (trN g w : Int) else 0), iv .i64 (trC g w)]) := by
  refine spec_of_vc mixed Try.func58 c58 (by rw [show Try.f58.ntmps=_ from Try.ntmps58];simp) ?_
  unfold m58 r58
  repeat' first|((first|refine Br.dec ?_ ?_|refine Br.eqi ?_ ?_)<;>intro h<;>try (exfalso;omega))|refine Z4 ?_|with_reducible exact trivial|(refine Br.mk ?_ ?_<;>intro h)|(refine BrN.mk (fun h => ?_) ?_)|(refine AltVC.mk ?_ ?_)
  refine CallVC.lendE [] [.ag (graD g),.sl 1 (i64s w)] [] (whole_spec g hg w hw) (by simp) (by rfl) Y13 ?_
  rintro _ _ (⟨h1,h2,L,rfl,rfl,hL⟩|⟨c,h1,h2,h3,rfl⟩)
  · repeat' first|((first|refine Br.dec ?_ ?_|refine Br.eqi ?_ ?_)<;>intro h<;>try (exfalso;omega))|refine Z4 ?_|with_reducible exact trivial|(refine Br.mk ?_ ?_<;>intro h)|(refine BrN.mk (fun h => ?_) ?_)|(refine AltVC.mk ?_ ?_)
    have e:trC g w=0:=by unfold trC;rw [if_pos h1,if_neg (by omega)]
    exact fin_mk (by rw [e,if_pos rfl])
  · repeat' first|((first|refine Br.dec ?_ ?_|refine Br.eqi ?_ ?_)<;>intro h<;>try (exfalso;omega))|refine Z4 ?_|with_reducible exact trivial|(refine Br.mk ?_ ?_<;>intro h)|(refine BrN.mk (fun h => ?_) ?_)|(refine AltVC.mk ?_ ?_)
    have e:trC g w=c:=by
      unfold trC
      by_cases ht:tcode g w=0
      · rw [if_pos ht] at h2
        rw [if_pos ht,if_pos (h3 ht),h2]
      · rw [if_neg ht] at h2
        rw [if_neg ht,h2]
    exact fin_mk (by rw [e,if_neg h1])
end Go.Proofs.Ytjekkbpdgnohcaa

namespace Go.Proofs.Ytjekkbpdgnohcaa
open Go.Dm
theorem cc_ok {g:Grammar} {w:List Int} (h:trC g w=0):CC g w∧tcode g w=0∧trN g w≤1099511627776:=by
  unfold trC at h
  by_cases ht:tcode g w=0
  · rw [if_pos ht] at h
    refine ⟨(cc_of ht).1,ht,?_⟩
    by_cases hb:1099511627776<trN g w
    · rw [if_pos hb] at h;omega
    · omega
  · rw [if_neg ht] at h;exact absurd h ht
set_option maxRecDepth 10000 in
set_option maxHeartbeats 4000000 in
theorem pickCode_spec (g:Grammar) (hg:g.ok) (w:List Int) (hw:w.length≤9223372036854775807):Dm.Spec Try.prog 13 [.ag (graD g),.sl 1 (i64s w)] (·=iv .i64 (trC g w)):=by
  refine spec_of_vc mixed Try.func13 c13 (by rw [show Try.f13.ntmps=_ from Try.ntmps13];simp) ?_
  unfold m13 r13
  have hq:=treesCheck_spec g hg w hw
  by_cases ht:tcode g w=0
  · have hc:=(cc_of ht).1
    have hk:=hc.v.k
    have hn:=hc.v.n
    have hst:=hc.v.start
    have hw12:=hc.w
    have hB:=bushT_spec g w hc (g.k+g.start) 0 w.length (by omega) (by omega) (Nat.zero_le _) (Nat.le_refl _) [] BI.nil
    rw [ht] at hq
    have hcpi:((cp (trees g w (g.k+g.start) 0 w.length):Nat):Int)=(cp (trN g w):Nat):=rfl
    repeat' first|((first|refine Br.dec ?_ ?_|refine Br.eqi ?_ ?_)<;>intro h<;>try (exfalso;omega))|refine Z5 ?_|with_reducible exact trivial|(refine Br.mk ?_ ?_<;>intro h)|(refine BrN.mk (fun h => ?_) ?_)|(refine AltVC.mk ?_ ?_)
    refine CallVC.eq hq ?_
    repeat' first|((first|refine Br.dec ?_ ?_|refine Br.eqi ?_ ?_)<;>intro h<;>try (exfalso;omega))|refine Z5 ?_|with_reducible exact trivial|(refine Br.mk ?_ ?_<;>intro h)|(refine BrN.mk (fun h => ?_) ?_)|(refine AltVC.mk ?_ ?_)
    refine CallP.lend [.ag (graD g),.sl 1 (i64s w)] (grow_bspec g w) Y4 ?_
    rintro _ _ ⟨rfl,rfl⟩
    repeat' first|((first|refine Br.dec ?_ ?_|refine Br.eqi ?_ ?_)<;>intro h<;>try (exfalso;omega))|refine Z5 ?_|with_reducible exact trivial|(refine Br.mk ?_ ?_<;>intro h)|(refine BrN.mk (fun h => ?_) ?_)|(refine AltVC.mk ?_ ?_)
    refine CallVC.lendE [3,2] [.ptr 0 6 0 0,iv .i64 (g.k+g.start),iv .i64 (0:Nat),iv .i64 w.length] (buO g w []) hB (by simp) (by rfl) Y5 ?_
    rintro _ _ ⟨L2,rfl,rfl,hL2⟩
    unfold buO
    rw [hcpi]
    by_cases hbig:1099511627776<trN g w
    · have hcp:(cp (trN g w):Int)=1099511627777:=by unfold cp;omega
      have e:trC g w=1:=by unfold trC;rw [if_pos ht,if_pos hbig]
      rw [hcp]
      repeat' first|((first|refine Br.dec ?_ ?_|refine Br.eqi ?_ ?_)<;>intro h<;>try (exfalso;omega))|refine Z5 ?_|with_reducible exact trivial|(refine Br.mk ?_ ?_<;>intro h)|(refine BrN.mk (fun h => ?_) ?_)|(refine AltVC.mk ?_ ?_)
      exact fin_mk (by rw [e])
    · have hcp:(cp (trN g w):Int)=(trN g w:Int):=by unfold cp;omega
      have e:trC g w=0:=by unfold trC;rw [if_pos ht,if_neg hbig]
      rw [hcp]
      repeat' first|((first|refine Br.dec ?_ ?_|refine Br.eqi ?_ ?_)<;>intro h<;>try (exfalso;omega))|refine Z5 ?_|with_reducible exact trivial|(refine Br.mk ?_ ?_<;>intro h)|(refine BrN.mk (fun h => ?_) ?_)|(refine AltVC.mk ?_ ?_)
      exact fin_mk (by rw [e])
  · have e:trC g w=tcode g w:=by unfold trC;rw [if_neg ht]
    repeat' first|((first|refine Br.dec ?_ ?_|refine Br.eqi ?_ ?_)<;>intro h<;>try (exfalso;omega))|refine Z5 ?_|with_reducible exact trivial|(refine Br.mk ?_ ?_<;>intro h)|(refine BrN.mk (fun h => ?_) ?_)|(refine AltVC.mk ?_ ?_)
    refine CallVC.eq hq ?_
    repeat' first|((first|refine Br.dec ?_ ?_|refine Br.eqi ?_ ?_)<;>intro h<;>try (exfalso;omega))|refine Z5 ?_|with_reducible exact trivial|(refine Br.mk ?_ ?_<;>intro h)|(refine BrN.mk (fun h => ?_) ?_)|(refine AltVC.mk ?_ ?_)
    exact fin_mk (by rw [e])
def plR (g:Grammar) (w:List Int) (stp:List Int) (d:D):Prop :=
  (∃ K,Tk g w [g.k+g.start] 0 [w.length] stp K∧d=iv .i64 (K:Nat))∨((∀ K,¬ Tk g w [g.k+g.start] 0 [w.length] stp K)∧d=iv .i64 (-1))
set_option maxRecDepth 10000 in
set_option maxHeartbeats 4000000 in
theorem placeOf_spec (g:Grammar) (w:List Int) (ht:trC g w=0) (stp:List Int) (hs:stp.length≤1000000):Dm.Spec Try.prog 16 [.ag (graD g),.sl 1 (i64s w),.sl 1 (i64s stp)] (fun d=>plR g w stp d):=by
  refine spec_of_vc mixed Try.func16 c16 (by rw [show Try.f16.ntmps=_ from Try.ntmps16];simp) ?_
  unfold m16 r16
  obtain ⟨hc,h0,hT⟩:=cc_ok ht
  have hk:=hc.v.k
  have hn:=hc.v.n
  have hst:=hc.v.start
  have hw:=hc.w
  have hA:=ahead_spec g w hc (g.k+g.start) 0 w.length (by omega) (by omega) (Nat.zero_le _) (Nat.le_refl _) hT stp hs [] BI.nil
  rw [show g.k+g.start - g.k=g.start by omega] at hA
  repeat' first|((first|refine Br.dec ?_ ?_|refine Br.eqi ?_ ?_)<;>intro h<;>try (exfalso;omega))|refine Z13 ?_|with_reducible exact trivial|(refine Br.mk ?_ ?_<;>intro h)|(refine BrN.mk (fun h => ?_) ?_)|(refine AltVC.mk ?_ ?_)
  refine CallP.lend [.ag (graD g),.sl 1 (i64s w)] (grow_bspec g w) Y4 ?_
  rintro _ _ ⟨rfl,rfl⟩
  repeat' first|((first|refine Br.dec ?_ ?_|refine Br.eqi ?_ ?_)<;>intro h<;>try (exfalso;omega))|refine Z13 ?_|with_reducible exact trivial|(refine Br.mk ?_ ?_<;>intro h)|(refine BrN.mk (fun h => ?_) ?_)|(refine AltVC.mk ?_ ?_)
  refine CallVC.lendE [3,2] [.ptr 0 6 0 0,iv .i64 g.start,iv .i64 (0:Nat),iv .i64 w.length,.sl 1 (i64s stp)] (buO g w []) hA (by simp) (by rfl) Y5 ?_
  rintro _ _ ⟨L2,hres,rfl,hL2⟩
  unfold buO
  rcases hres with ⟨st1,K1,r,e1,hT1,rfl⟩|⟨hno1,rfl⟩
  · have hsl1:st1.length+r.length=stp.length:=by rw [e1,List.length_append]
    by_cases hr:st1.length=stp.length
    · have hr0:r=[]:=List.eq_nil_of_length_eq_zero (by omega)
      rw [hr0,List.append_nil] at e1
      subst e1
      repeat' first|((first|refine Br.dec ?_ ?_|refine Br.eqi ?_ ?_)<;>intro h<;>try (exfalso;omega))|refine Z13 ?_|with_reducible exact trivial|(refine Br.mk ?_ ?_<;>intro h)|(refine BrN.mk (fun h => ?_) ?_)|(refine AltVC.mk ?_ ?_)
      exact fin_mk (.inl ⟨K1,hT1,rfl⟩)
    · repeat' first|((first|refine Br.dec ?_ ?_|refine Br.eqi ?_ ?_)<;>intro h<;>try (exfalso;omega))|refine Z13 ?_|with_reducible exact trivial|(refine Br.mk ?_ ?_<;>intro h)|(refine BrN.mk (fun h => ?_) ?_)|(refine AltVC.mk ?_ ?_)
      refine fin_mk (.inr ⟨fun K hK => ?_,rfl⟩)
      have:=hT1.det hK (r:=r) (r':=[]) (by rw [List.append_nil];exact e1.symm)
      exact hr (by rw [this.1])
  · have hno2:∀ K,¬ Tk g w [g.k+g.start] 0 [w.length] stp K:=fun K hK=>hno1 stp K [] (by rw [List.append_nil]) hK
    repeat' first|((first|refine Br.dec ?_ ?_|refine Br.eqi ?_ ?_)<;>intro h<;>try (exfalso;omega))|refine Z13 ?_|with_reducible exact trivial|(refine Br.mk ?_ ?_<;>intro h)|(refine BrN.mk (fun h => ?_) ?_)|(refine AltVC.mk ?_ ?_)
    all_goals exact fin_mk (.inr ⟨hno2,rfl⟩)
def pkR (g:Grammar) (w:List Int) (i:Int) (d:D):Prop :=
  (trC g w ≠ 0∧d=.tu [.sl 1 [],iv .i64 (trC g w)])∨(trC g w=0∧¬ (0≤i∧i<trN g w)∧d=.tu [.sl 1 [],iv .i64 5]) ∨
  (trC g w=0 ∧ ∃ (r:Nat) (st:List Int),i=r∧r<trN g w∧Tk g w [g.k+g.start] 0 [w.length] st r∧(d=.tu [.sl 1 (i64s st),iv .i64 0]∨(st=[]∧d=.tu [.nl,iv .i64 0])))
set_option maxRecDepth 10000 in
set_option maxHeartbeats 4000000 in
theorem pick_spec (g : Grammar) (hg : g.ok) (w : List Int) (hw : w.length ≤ 9223372036854775807) (i : Int) (hi : ok64 i) : Dm.Spec Try.prog 12 [.ag (graD g), .sl 1 (i64s w), iv .i64 i] (fun d => pkR g w i d) := by
  refine spec_of_vc mixed Try.func12 c12 (by rw [show Try.f12.ntmps=_ from Try.ntmps12];simp) ?_
  unfold m12 r12
  repeat' first|((first|refine Br.dec ?_ ?_|refine Br.eqi ?_ ?_)<;>intro h<;>try (exfalso;omega))|refine Z0 ?_|with_reducible exact trivial|(refine Br.mk ?_ ?_<;>intro h)|(refine BrN.mk (fun h => ?_) ?_)|(refine AltVC.mk ?_ ?_)
  refine CallVC.lendE [] [.ag (graD g),.sl 1 (i64s w)] [] (whole_spec g hg w hw) (by simp) (by rfl) Y13 ?_
  rintro _ _ (⟨h1,h2,L,rfl,rfl,hL⟩|⟨c,h1,h2,h3,rfl⟩)
  · have e:trC g w=0:=by unfold trC;rw [if_pos h1,if_neg (by omega)]
    obtain ⟨hc,_,_⟩:=cc_ok e
    have hk:=hc.v.k
    have hn:=hc.v.n
    have hst:=hc.v.start
    have hw12:=hc.w
    by_cases hin:0≤i∧i<trN g w
    · obtain ⟨r,rfl⟩ : ∃ r:Nat,i=r:=⟨i.toNat,by omega⟩
      have hnt:=nth_spec g w hc (g.k+g.start) 0 w.length (by omega) (by omega) (Nat.zero_le _) (Nat.le_refl _) h2 r (show r<trN g w by omega) L hL
      repeat' first|((first|refine Br.dec ?_ ?_|refine Br.eqi ?_ ?_)<;>intro h<;>try (exfalso;omega))|refine Z0 ?_|with_reducible exact trivial|(refine Br.mk ?_ ?_<;>intro h)|(refine BrN.mk (fun h => ?_) ?_)|(refine AltVC.mk ?_ ?_)
      refine CallVC.lendE [5,4] [.ptr 0 6 0 0,iv .i64 (g.k+g.start),.ag [iv .i64 (0:Nat),iv .i64 w.length],iv .i64 r] (coO g w L) hnt (by simp) (by rfl) Y2 ?_
      rintro _ _ ⟨st,L2,hT,hres,rfl,hL2⟩
      unfold coO
      rcases hres with rfl|⟨rfl,rfl⟩
      · repeat' first|((first|refine Br.dec ?_ ?_|refine Br.eqi ?_ ?_)<;>intro h<;>try (exfalso;omega))|refine Z0 ?_|with_reducible exact trivial|(refine Br.mk ?_ ?_<;>intro h)|(refine BrN.mk (fun h => ?_) ?_)|(refine AltVC.mk ?_ ?_)
        exact fin_mk (.inr (.inr ⟨e,r,st,rfl,by omega,hT,.inl rfl⟩))
      · repeat' first|((first|refine Br.dec ?_ ?_|refine Br.eqi ?_ ?_)<;>intro h<;>try (exfalso;omega))|refine Z0 ?_|with_reducible exact trivial|(refine Br.mk ?_ ?_<;>intro h)|(refine BrN.mk (fun h => ?_) ?_)|(refine AltVC.mk ?_ ?_)
        exact fin_mk (.inr (.inr ⟨e,r,[],rfl,by omega,hT,.inr ⟨rfl,rfl⟩⟩))
    · repeat' first|((first|refine Br.dec ?_ ?_|refine Br.eqi ?_ ?_)<;>intro h<;>try (exfalso;omega))|refine Z0 ?_|with_reducible exact trivial|(refine Br.mk ?_ ?_<;>intro h)|(refine BrN.mk (fun h => ?_) ?_)|(refine AltVC.mk ?_ ?_)
      all_goals exact fin_mk (.inr (.inl ⟨e,hin,rfl⟩))
  · have e:trC g w=c:=by
      unfold trC
      by_cases ht:tcode g w=0
      · rw [if_pos ht] at h2
        rw [if_pos ht,if_pos (h3 ht),h2]
      · rw [if_neg ht] at h2
        rw [if_neg ht,h2]
    repeat' first|((first|refine Br.dec ?_ ?_|refine Br.eqi ?_ ?_)<;>intro h<;>try (exfalso;omega))|refine Z0 ?_|with_reducible exact trivial|(refine Br.mk ?_ ?_<;>intro h)|(refine BrN.mk (fun h => ?_) ?_)|(refine AltVC.mk ?_ ?_)
    exact fin_mk (.inl ⟨by rw [e];exact h1,by rw [e]⟩)
end Go.Proofs.Ytjekkbpdgnohcaa

namespace Go.Proofs.Ytjekkbpdgnohcaa
open Go.Dm
theorem mul_add_inj {A A' P K K':Nat} (h:A * P+K=A' * P+K') (hK:K<P) (hK':K'<P):A=A'∧K=K':=by
  have h1:A=A':=by
    rcases Nat.lt_trichotomy A A' with h2|h2|h2
    · have:(A+1) * P≤A' * P:=Nat.mul_le_mul_right _ h2
      rw [Nat.succ_mul] at this;omega
    · exact h2
    · have:(A'+1) * P≤A * P:=Nat.mul_le_mul_right _ h2
      rw [Nat.succ_mul] at this;omega
  subst h1
  exact ⟨rfl,by omega⟩
theorem sumL_mono {α:Type} {f:α→Nat} {l:List α} {a b:Nat} (h:a≤b):sumL f (l.take a)≤sumL f (l.take b):=by
  have:l.take b=l.take a++(l.drop a).take (b - a):=by
    rw [← List.take_add];congr 1;omega
  rw [this,sumL_app];omega
theorem Tk.inj {g:Grammar} {w:List Int} (hp:Proper g) {l:List Int} {i:Nat} {es:List Nat} {st:List Int} {K:Nat} (h:Tk g w l i es st K):∀ {st':List Int},Tk g w l i es st' K→st=st':=by
  induction h with
  | nil =>
    intro st' h'
    cases h';rfl
  | sym hx hw h ih =>
    intro st' h'
    cases h' with
    | sym hx' hw' h'=>exact ih h'
    | name hx'=>exact absurd hx hx'
  | @name x l i e es q c s1 s2 K1 K2 hx hq hc h1 h2 ih1 ih2 =>
    intro st' h'
    generalize hKK:(rlB g w x i e q+sumL (prT g w (g.rules.getD q default).right i) ((cutN ((g.rules.getD q default).right.length - 1) i e).take c)+K1) * prT g w l e es+K2=KK at h'
    cases h' with
    | sym hx'=>exact absurd hx' hx
    | @name _ _ _ _ _ q' c' s1' s2' K1' K2' hx' hq' hc' h1' h2' =>
      obtain ⟨eA,eK⟩:=mul_add_inj hKK (h2.lt hp) (h2'.lt hp)
      have b1:=h1.lt hp
      have b1':=h1'.lt hp
      have t1:=sumL_take (f:=prT g w (g.rules.getD q default).right i) (d:=[]) hc
      have t1':=sumL_take (f:=prT g w (g.rules.getD q' default).right i) (d:=[]) hc'
      have r1:=cut_sum (g:=g) (w:=w) _ i e (right_ne hp (rule_lt hq))
      have r1':=cut_sum (g:=g) (w:=w) _ i e (right_ne hp (rule_lt hq'))
      have v1:=rule_row (w:=w) (i:=i) (j:=e) hq
      have v1':=rule_row (w:=w) (i:=i) (j:=e) hq'
      have n1:rlB g w x i e (q+1)=rlB g w x i e q+ruleV g w x i e q:=rfl
      have n1':rlB g w x i e (q'+1)=rlB g w x i e q'+ruleV g w x i e q':=rfl
      have m1:q<q'→rlB g w x i e (q+1)≤rlB g w x i e q':=fun h=>nsum_mono h
      have m1':q'<q→rlB g w x i e (q'+1)≤rlB g w x i e q:=fun h=>nsum_mono h
      obtain rfl:q=q':=by omega
      have s1e:=sumL_take_succ (f:=prT g w (g.rules.getD q default).right i) (d:=[]) hc
      have s1e':=sumL_take_succ (f:=prT g w (g.rules.getD q default).right i) (d:=[]) hc'
      have k1:c<c'→sumL (prT g w (g.rules.getD q default).right i) ((cutN ((g.rules.getD q default).right.length - 1) i e).take (c+1))≤sumL (prT g w (g.rules.getD q default).right i) ((cutN ((g.rules.getD q default).right.length - 1) i e).take c'):=fun h=>sumL_mono h
      have k1':c'<c→sumL (prT g w (g.rules.getD q default).right i) ((cutN ((g.rules.getD q default).right.length - 1) i e).take (c'+1))≤sumL (prT g w (g.rules.getD q default).right i) ((cutN ((g.rules.getD q default).right.length - 1) i e).take c):=fun h=>sumL_mono h
      obtain rfl:c=c':=by omega
      obtain rfl:K1=K1':=by omega
      subst eK
      rw [ih1 h1',ih2 h2']
def addR (g:Grammar) (r:Rule):Grammar:=⟨g.k,g.n,g.start,g.rules++[r]⟩
def dropR (g:Grammar):Grammar:=⟨g.k,g.n,g.start,g.rules.take (g.rules.length - 1)⟩
def rcode (g:Grammar) (r:Rule):Int:=if gcode (addR g r)=0 then (if isProper (addR g r)=true then 0 else 3) else gcode (addR g r)
def nxG (g:Grammar) (d:Deed):Grammar :=
  if d.kind=1 then (if rcode g d.rule=0 then addR g d.rule else g)
  else if d.kind=2 then (if g.rules.length=0 then g else dropR g)
  else g
def nxs (g:Grammar) (l:List Deed):Grammar:=l.foldl nxG g
theorem nxs_nil {g:Grammar}:nxs g []=g:=rfl
theorem nxs_snoc {g:Grammar} {l:List Deed} {d:Deed}:nxs g (l++[d])=nxG (nxs g l) d:=by unfold nxs;rw [List.foldl_append];rfl
theorem nxs_app {g:Grammar} {l m:List Deed}:nxs g (l++m)=nxs (nxs g l) m:=by unfold nxs;rw [List.foldl_append]
inductive TO (g:Grammar) (d:Deed):Int→Int→List Int→Prop
  | rule (h:d.kind=1):TO g d (rcode g d.rule) (if rcode g d.rule=0 then (g.rules.length:Int) else 0) []
  | undo (h:d.kind=2):TO g d (if g.rules.length=0 then 5 else 0) 0 []
  | many (h:d.kind=3):TO g d (trC g d.word) (if trC g d.word=0 then (trN g d.word:Int) else 0) []
  | pickC (h:d.kind=4) (e:trC g d.word ≠ 0):TO g d (trC g d.word) 0 []
  | pickN (h:d.kind=4) (e:trC g d.word=0) (hn:¬ (0≤d.n∧d.n<trN g d.word)):TO g d 5 0 []
  | pick (h:d.kind=4) (e:trC g d.word=0) (r:Nat) (st:List Int) (hr:d.n=r) (hl:r<trN g d.word) (hT:Tk g d.word [g.k+g.start] 0 [d.word.length] st r):TO g d 0 0 st
  | plC (h:d.kind=5) (e:trC g d.word ≠ 0):TO g d (trC g d.word) 0 []
  | plL (h:d.kind=5) (e:trC g d.word=0) (hl:60<d.steps.length):TO g d 1 0 []
  | plN (h:d.kind=5) (e:trC g d.word=0) (hl:d.steps.length≤60) (hn:∀ K,¬ Tk g d.word [g.k+g.start] 0 [d.word.length] d.steps K):TO g d 5 0 []
  | pl (h:d.kind=5) (e:trC g d.word=0) (hl:d.steps.length≤60) (K:Nat) (hT:Tk g d.word [g.k+g.start] 0 [d.word.length] d.steps K):TO g d 0 K []
  | none (h:¬ (1≤d.kind∧d.kind≤5)):TO g d 6 0 []
theorem TO.det {g:Grammar} {d:Deed} {c n c' n':Int} {st st':List Int} (h:TO g d c n st) (h':TO g d c' n' st'):c=c'∧n=n'∧st=st':=by
  cases h<;>cases h'<;>first
    | exact ⟨rfl,rfl,rfl⟩
    | (exfalso;omega)
    | (exfalso;contradiction)
    | (exfalso;apply_assumption;exact ⟨by omega,by omega⟩)
    | skip
  · rename_i h1 e1 r1 hr1 hl1 hT1 h2 e2 r2 hr2 hl2 hT2
    obtain rfl:r1=r2:=by omega
    exact ⟨rfl,rfl,Tk.inj (cc_ok e1).1.p hT1 hT2⟩
  · rename_i h1 e1 hl1 hn1 h2 e2 hl2 K hT
    exact absurd hT (hn1 K)
  · rename_i h1 e1 hl1 K hT h2 e2 hl2 hn2
    exact absurd hT (hn2 K)
  · rename_i h1 e1 hl1 K hT1 h2 e2 hl2 K2 hT2
    have:=(hT1.det hT2 (r:=[]) (r':=[]) rfl).2.2.1
    subst this
    exact ⟨rfl,rfl,rfl⟩
def VG (g:Grammar):Prop:=gcode g=0∧isProper g=true
theorem gcode_of {g:Grammar} (h:Valid g):gcode g=0:=by
  have hk:=h.k
  have hn:=h.n
  have hl:=h.len
  have hs:=h.start
  rw [gcode_b,if_neg (by omega),if_neg,if_neg (by omega),if_neg]
  · rw [Bool.not_eq_true,List.any_eq_false]
    intro r hr
    have h1:=h.left r hr
    unfold badRule isSigns
    rw [decide_eq_true h1,Bool.true_and,Bool.not_eq_true',Bool.not_eq_false,List.all_eq_true]
    exact fun y hy=>decide_eq_true (h.right r hr y hy)
  · rw [Bool.not_eq_true,List.any_eq_false]
    intro r hr
    have:=h.long r hr
    simp;omega
theorem rcode_ok {g:Grammar} {r:Rule} (h:rcode g r=0):VG (addR g r):=by
  unfold rcode at h
  split at h
  · next h1 =>
    split at h
    · next h2=>exact ⟨h1,h2⟩
    · omega
  · next h1=>exact absurd h h1
theorem VG.drop {g:Grammar} (h:VG g):VG (dropR g):=by
  have hv:=valid_of h.1
  have hm:∀ r,r ∈ (dropR g).rules→r ∈ g.rules:=fun r hr=>List.mem_of_mem_take hr
  refine ⟨gcode_of ⟨hv.k,hv.n,hv.start,?_,fun r hr=>hv.left r (hm r hr),fun r hr=>hv.long r (hm r hr),fun r hr=>hv.right r (hm r hr)⟩,?_⟩
  · have:=hv.len
    simp only [dropR,List.length_take];omega
  · have h2:=h.2
    unfold isProper at h2 ⊢
    rw [List.all_eq_true] at h2 ⊢
    exact fun r hr=>h2 r (hm r hr)
theorem VG.nx {g:Grammar} (h:VG g) (d:Deed):VG (nxG g d):=by
  unfold nxG
  split
  · split
    · next h2=>exact rcode_ok h2
    · exact h
  · split
    · split
      · exact h
      · exact h.drop
    · exact h
theorem VG.nxs {g:Grammar} (h:VG g) (l:List Deed):VG (nxs g l):=by
  induction l generalizing g with
  | nil=>exact h
  | cons d l ih=>exact ih (h.nx d)
theorem VG.tcode {g:Grammar} (h:VG g) (w:List Int):tcode g w=wcode g.k w:=by
  unfold Go.Proofs.Ytjekkbpdgnohcaa.tcode
  rw [if_pos h.1]
  split
  · next e=>rw [if_pos h.2,e]
  · rfl
theorem ok_add {g:Grammar} (h:VG g) (hg:g.ok) {r:Rule} (hr:r.ok):(addR g r).ok :=
  ⟨hg.1,hg.2.1,hg.2.2.1,by
    have:=(valid_of h.1).len
    simp only [addR,List.length_append,List.length_singleton]
    exact Nat.le_trans (by omega) (show 11≤maxLen by decide),fun x hx=>by
    rcases List.mem_append.1 hx with hx|hx
    · exact hg.2.2.2.2 x hx
    · rw [List.mem_singleton.1 hx];exact hr⟩
theorem ok_drop {g:Grammar} (hg:g.ok):(dropR g).ok :=
  ⟨hg.1,hg.2.1,hg.2.2.1,by
    have:=hg.2.2.2.1
    simp only [dropR,List.length_take];omega,fun x hx=>hg.2.2.2.2 x (List.mem_of_mem_take hx)⟩
theorem ok_nx {g:Grammar} (h:VG g) (hg:g.ok) {d:Deed} (hd:d.ok):(nxG g d).ok:=by
  unfold nxG
  split
  · split
    · exact ok_add h hg hd.2.1
    · exact hg
  · split
    · split
      · exact hg
      · exact ok_drop hg
    · exact hg
end Go.Proofs.Ytjekkbpdgnohcaa

namespace Go.Proofs.Ytjekkbpdgnohcaa
open Go.Dm
def kw (w:List Int):List D:=(w++List.replicate (12 - w.length) 0).map (iv .i64)
theorem kw_len {w:List Int} (h:w.length≤12):(kw w).length=12:=by simp [kw];omega
theorem kw_take {w:List Int} {r:List D} (h:w.length≤12):(kw w++r).take 12=kw w:=by
  rw [List.take_append_of_le_length (by rw [kw_len h];exact Nat.le_refl _),List.take_of_length_le (by rw [kw_len h];exact Nat.le_refl _)]
theorem kw_take' {w:List Int} (h:w.length≤12):(kw w).take 12=kw w:=List.take_of_length_le (by rw [kw_len h];exact Nat.le_refl _)
theorem kw_drop {w:List Int} {r:List D} (h:w.length≤12):(kw w++r).drop 12=r:=by
  rw [List.drop_append_of_le_length (by rw [kw_len h];exact Nat.le_refl _),List.drop_of_length_le (by rw [kw_len h];exact Nat.le_refl _)];rfl
theorem kw_cpy {w:List Int} {x:D} (h:w.length≤12):cpyD 12 (i64s w)++List.drop (1+(cpyD 12 (i64s w)).length) [x,D.v (.int .i64 0),D.v (.int .i64 0),D.v (.int .i64 0),D.v (.int .i64 0),D.v (.int .i64 0),D.v (.int .i64 0),D.v (.int .i64 0),D.v (.int .i64 0),D.v (.int .i64 0),D.v (.int .i64 0),D.v (.int .i64 0),D.v (.int .i64 0)]=kw w:=by
  have e:cpyD 12 (i64s w)=w.map (iv .i64):=by
    unfold cpyD i64s
    rw [List.take_of_length_le (by simpa using h),List.map_map]
    rfl
  rw [e,List.length_map]
  have e2:([x,D.v (.int .i64 0),D.v (.int .i64 0),D.v (.int .i64 0),D.v (.int .i64 0),D.v (.int .i64 0),D.v (.int .i64 0),D.v (.int .i64 0),D.v (.int .i64 0),D.v (.int .i64 0),D.v (.int .i64 0),D.v (.int .i64 0),D.v (.int .i64 0)]:List D)=x::List.replicate 12 (iv .i64 0):=rfl
  rw [e2,Nat.add_comm,List.drop_succ_cons,List.drop_replicate]
  simp [kw]
abbrev akK:Kd:=.map [.i64,.i64,.i64,.i64,.i64,.i64,.i64,.i64,.i64,.i64,.i64,.i64,.i64] true true
theorem keyP_ints:∀ {l:List Int},(∀ x,x ∈ l→ok64 x)→keyP (List.replicate l.length .i64) (l.map (iv .i64))
  | [],_=>trivial
  | x::l,h=>by
    rw [List.length_cons,List.replicate_succ,List.map_cons]
    show keyP (.i64::_) (D.v (.int .i64 x)::_)
    rw [keyP_i64]
    exact ⟨h x (by simp),keyP_ints fun y hy=>h y (by simp [hy])⟩
theorem keyP_kw {w:List Int} (h:w.length≤12∧∀ x,x ∈ w→ok64 x):keyP [.i64,.i64,.i64,.i64,.i64,.i64,.i64,.i64,.i64,.i64,.i64,.i64] (kw w)=True:=by
  have hl:(w++List.replicate (12 - w.length) (0:Int)).length=12:=by simp;omega
  have:=keyP_ints (l:=w++List.replicate (12 - w.length) 0) (fun x hx=>by
    rcases List.mem_append.1 hx with hx|hx
    · exact h.2 x hx
    · rw [List.eq_of_mem_replicate hx];exact ⟨by decide,by decide⟩)
  rw [hl] at this
  exact eq_true this
theorem Agr_ints:∀ {a b:List Int},a.length=b.length→Agr (a.map (iv .i64)) (b.map (iv .i64))→a=b
  | [],[],_,_=>rfl
  | [],_::_,h,_=>by simp at h
  | _::_,[],h,_=>by simp at h
  | x::a,y::b,h,he=>by
    rw [List.map_cons,List.map_cons] at he
    have he:iv .i64 x=iv .i64 y∧Agr (a.map (iv .i64)) (b.map (iv .i64)):=he
    have e:x=y:=by have:=he.1;simpa [iv] using this
    rw [e,Agr_ints (by simpa using h) he.2]
structure AK where
  w:List Int
  n:Int
  c:Int
instance : Inhabited AK:=⟨⟨[],0,0⟩⟩
def akD (e:AK):List D:=iv .i64 e.w.length::(kw e.w++[iv .i64 e.n,iv .i64 e.c])
def akN (g:Grammar) (w:List Int):Int:=if trC g w=0 then (trN g w:Int) else 0
def MA (g:Grammar) (L:List AK):Prop:=∀ e,e ∈ L→e.w.length≤12∧e.n=akN g e.w∧e.c=trC g e.w
theorem MA.nil {g:Grammar}:MA g []:=fun e h=>by cases h
theorem MA.add {g:Grammar} {L:List AK} (h:MA g L) {w:List Int} (hw:w.length≤12):MA g (L++[⟨w,akN g w,trC g w⟩]):=fun x hx=>by
  rcases List.mem_append.1 hx with hx|hx
  · exact h x hx
  · rw [List.mem_singleton.1 hx];exact ⟨hw,rfl,rfl⟩
theorem MA.set {g:Grammar} {L:List AK} (h:MA g L) {w:List Int} {r:Nat} (hw:w.length≤12):MA g (L.set r ⟨w,akN g w,trC g w⟩):=fun x hx=>by
  rcases List.mem_or_eq_of_mem_set hx with hx|hx
  · exact h x hx
  · rw [hx];exact ⟨hw,rfl,rfl⟩
theorem ak_in {g:Grammar} {L:List AK} (h:MA g L) {r:Nat} {w:List Int} (hw:w.length≤12) (hr:r<(tbl akD L).length) (he:Agr (((tbl akD L).getD r []).take 13) (iv .i64 w.length::kw w)):((tbl akD L).getD r []).drop 13=[iv .i64 (akN g w),iv .i64 (trC g w)]:=by
  have hr':r<L.length:=by simpa [tbl] using hr
  have e:(tbl akD L).getD r []=akD (L.getD r default):=by simp [tbl,List.getD_eq_getElem?_getD,hr']
  obtain ⟨h1,h2,h3⟩:=h _ (getD_mem' (l:=L) (i:=r) hr')
  rw [e] at he ⊢
  generalize L.getD r default=x at *
  unfold akD at he ⊢
  rw [List.take_succ_cons,kw_take h1] at he
  have he:iv .i64 x.w.length=iv .i64 w.length∧Agr (kw x.w) (kw w):=he
  have hl:x.w.length=w.length:=by have:=he.1;simp [iv] at this;omega
  have hk:=Agr_ints (by simp [hl]) he.2
  have hxw:x.w=w:=(List.append_inj hk hl).1
  rw [List.drop_succ_cons,kw_drop h1,h2,h3,hxw]
theorem ak_app {L:List AK} {w:List Int} {n c:Int}:tbl akD L++[iv .i64 w.length::(kw w++[D.v (.int .i64 n),D.v (.int .i64 c)])]=tbl akD (L++[⟨w,n,c⟩]):=by rw [tbl_app];rfl
theorem ak_set {L:List AK} {w:List Int} {n c:Int} {r:Nat}:(tbl akD L).set r (iv .i64 w.length::(kw w++[D.v (.int .i64 n),D.v (.int .i64 c)]))=tbl akD (L.set r ⟨w,n,c⟩):=by rw [← tbl_set];rfl
def stB (g:Grammar) (L:List AK):Ob:=⟨5,[[iv .i64 g.k,iv .i64 g.n,iv .i64 g.start,.sl 2 (tbl rulD g.rules),.omp akK 15 (tbl akD L)]],true,true,.fix⟩
def vst:=And.intro vmr<|And.intro @kw_len<|And.intro @kw_take<|And.intro @kw_take'<|And.intro @kw_drop<|And.intro @ak_app<|And.intro @ak_set @rulD_eq
set_option maxRecDepth 10000 in
set_option maxHeartbeats 4000000 in
theorem cloneB_rule (l:List Rule) (h:l.length≤1000000):Dm.SpecH Try.prog 40 [.sl 2 (tbl rulD l)] [] (fun d o=>d=.ref 1 2 0 l.length∧o=[none,some ⟨2,tbl rulD l,true,false,.arr⟩]):=by
  refine specH_of_vc mixed Try.func40 c40 (by rw [show Try.f40.ntmps=_ from Try.ntmps40];simp) ?_
  unfold m40 r40
  repeat' first|((first|refine Br.dec ?_ ?_|refine Br.eqi ?_ ?_)<;>intro h<;>try (exfalso;omega))|refine Z1 ?_|with_reducible exact trivial|(refine Br.mk ?_ ?_<;>intro h)|(refine BrN.mk (fun h => ?_) ?_)|(refine AltVC.mk ?_ ?_)
  · have:l=[]:=List.eq_nil_of_length_eq_zero (by assumption)
    subst this
    exact finH_mk [none,some ⟨2,[],true,false,.arr⟩] (by simp) Y0 Y0 ⟨by simp (disch:=first|omega|(simp only [vlen];first|done|omega)) only [↓vAq,vBq,↓reduceIte,Nat.reduceBEq,Nat.reduceEqDiff,Nat.reduceLT,Nat.reduceLeDiff,Nat.reduceAdd,Nat.reduceMul,Nat.reduceSub,reduceCtorEq,Int.reduceToNat],rfl⟩
  · exact finH_mk [none,some ⟨2,tbl rulD l,true,false,.arr⟩] (by simp) Y0 Y0 ⟨by simp (disch:=first|omega|(simp only [vlen];first|done|omega)) only [↓vAq,vBq,↓reduceIte,Nat.reduceBEq,Nat.reduceEqDiff,Nat.reduceLT,Nat.reduceLeDiff,Nat.reduceAdd,Nat.reduceMul,Nat.reduceSub,reduceCtorEq,Int.reduceToNat],rfl⟩
set_option maxRecDepth 10000 in
set_option maxHeartbeats 4000000 in
theorem cloneZ_int (l:List Int) (h:l.length * 8≤140737488351232):Dm.Spec Try.prog 57 [.sl 1 (i64s l)] (·=.sl 1 (i64s l)):=by
  refine spec_of_vc mixed Try.func57 c57 (by rw [show Try.f57.ntmps=_ from Try.ntmps57];simp) ?_
  unfold m57 r57
  repeat' first|((first|refine Br.dec ?_ ?_|refine Br.eqi ?_ ?_)<;>intro h<;>try (exfalso;omega))|refine Z1 ?_|with_reducible exact trivial|(refine Br.mk ?_ ?_<;>intro h)|(refine BrN.mk (fun h => ?_) ?_)|(refine AltVC.mk ?_ ?_)
  · have:l=[]:=List.eq_nil_of_length_eq_zero (by assumption)
    subst this
    exact fin_mk rfl
  · exact fin_mk rfl
set_option maxRecDepth 10000 in
set_option maxHeartbeats 4000000 in
theorem set0_spec (k n:Int):Dm.SpecH Try.prog 21 [.ptr 0 5 0 0,.nl] [⟨5,[[iv .i64 k,iv .i64 n,iv .i64 0,.nl,.v (.map none)]],true,false,.fix⟩] (fun d o=>d=.tu []∧o=[some ⟨5,[[iv .i64 k,iv .i64 n,iv .i64 0,.nl,.omp akK 15 []]],true,true,.fix⟩]):=by
  refine specH_of_vc mixed Try.func21 c21 (by rw [show Try.f21.ntmps=_ from Try.ntmps21];simp) ?_
  unfold m21 r21
  repeat' first|((first|refine Br.dec ?_ ?_|refine Br.eqi ?_ ?_)<;>intro h<;>try (exfalso;omega))|refine Z8 ?_|with_reducible exact trivial|(refine Br.mk ?_ ?_<;>intro h)|(refine BrN.mk (fun h => ?_) ?_)|(refine AltVC.mk ?_ ?_)
  refine FinH.fold 1 0 0 4 true Y7 ?_
  repeat' first|((first|refine Br.dec ?_ ?_|refine Br.eqi ?_ ?_)<;>intro h<;>try (exfalso;omega))|refine Z8 ?_|with_reducible exact trivial|(refine Br.mk ?_ ?_<;>intro h)|(refine BrN.mk (fun h => ?_) ?_)|(refine AltVC.mk ?_ ?_)
  exact finH_mk [some ⟨5,[[iv .i64 k,iv .i64 n,iv .i64 0,.nl,.omp akK 15 []]],true,true,.fix⟩] (by simp) Y7 Y7 ⟨by simp (disch:=first|omega|(simp only [vlen];first|done|omega)) only [vst,↓vAq,vBq,↓reduceIte,Nat.reduceBEq,Nat.reduceEqDiff,Nat.reduceLT,Nat.reduceLeDiff,Nat.reduceAdd,Nat.reduceMul,Nat.reduceSub,reduceCtorEq,Int.reduceToNat],rfl⟩
set_option maxRecDepth 10000 in
set_option maxHeartbeats 4000000 in
theorem set_spec (g:Grammar) (L:List AK) (rs:List Rule):Dm.SpecH Try.prog 21 [.ptr 0 5 0 0,.sl 2 (tbl rulD rs)] [stB g L] (fun d o=>d=.tu []∧o=[some (stB ⟨g.k,g.n,g.start,rs⟩ [])]):=by
  refine specH_of_vc mixed Try.func21 c21 (by rw [show Try.f21.ntmps=_ from Try.ntmps21];simp) ?_
  unfold m21 r21
  unfold stB
  repeat' first|((first|refine Br.dec ?_ ?_|refine Br.eqi ?_ ?_)<;>intro h<;>try (exfalso;omega))|refine Z8 ?_|with_reducible exact trivial|(refine Br.mk ?_ ?_<;>intro h)|(refine BrN.mk (fun h => ?_) ?_)|(refine AltVC.mk ?_ ?_)
  refine FinH.fold 1 0 0 4 true Y7 ?_
  repeat' first|((first|refine Br.dec ?_ ?_|refine Br.eqi ?_ ?_)<;>intro h<;>try (exfalso;omega))|refine Z8 ?_|with_reducible exact trivial|(refine Br.mk ?_ ?_<;>intro h)|(refine BrN.mk (fun h => ?_) ?_)|(refine AltVC.mk ?_ ?_)
  exact finH_mk [some (stB ⟨g.k,g.n,g.start,rs⟩ [])] (by simp) Y7 (by unfold stB;rw [tbl_nil];simp (disch:=first|omega|(simp only [vlen];first|done|omega)) only [vst,↓vAq,vBq,↓reduceIte,Nat.reduceBEq,Nat.reduceEqDiff,Nat.reduceLT,Nat.reduceLeDiff,Nat.reduceAdd,Nat.reduceMul,Nat.reduceSub,reduceCtorEq,Int.reduceToNat]) ⟨by simp (disch:=first|omega|(simp only [vlen];first|done|omega)) only [vst,↓vAq,vBq,↓reduceIte,Nat.reduceBEq,Nat.reduceEqDiff,Nat.reduceLT,Nat.reduceLeDiff,Nat.reduceAdd,Nat.reduceMul,Nat.reduceSub,reduceCtorEq,Int.reduceToNat],rfl⟩
theorem wcode_long {k:Int} {w:List Int} (h:12<w.length):wcode k w=1:=by
  unfold wcode;rw [if_pos (by omega)]
theorem trC_long {g:Grammar} (hv:VG g) {w:List Int} (h:12<w.length):trC g w=1:=by
  unfold trC
  rw [hv.tcode,wcode_long h,if_neg (by decide)]
def trR (g:Grammar) (w:List Int) (d:D) (o:List (Option Ob)):Prop:=d=.ag [iv .i64 (trC g w),iv .i64 (akN g w),.nl] ∧ ∃ L',o=[some (stB g L')]∧MA g L'
set_option maxRecDepth 10000 in
set_option maxHeartbeats 4000000 in
theorem stTrees_spec (g : Grammar) (hv : VG g) (hg : g.ok) (w : List Int) (hw : okL ok64 w) (L : List AK) (hL : MA g L) : Dm.SpecH Try.prog 41 [.ptr 0 5 0 0, .sl 1 (i64s w)] [stB g L] (trR g w) := by
  refine specH_of_vc mixed Try.func41 c41 (by rw [show Try.f41.ntmps=_ from Try.ntmps41];simp) ?_
  unfold m41 r41
  have hwl:=maxLen_le hw.1
  by_cases h12:12<w.length
  · have e1:=trC_long hv h12
    have e2:akN g w=0:=by unfold akN;rw [e1,if_neg (by decide)]
    unfold stB
    repeat' first|((first|refine Br.dec ?_ ?_|refine Br.eqi ?_ ?_)<;>intro h<;>try (exfalso;omega))|refine Z8 ?_|with_reducible exact trivial|(refine Br.mk ?_ ?_<;>intro h)|(refine BrN.mk (fun h => ?_) ?_)|(refine AltVC.mk ?_ ?_)
    exact finH_mk [some (stB g L)] (by simp) Y7 Y18 ⟨by rw [e1,e2];simp (disch:=first|omega|(simp only [vlen];first|done|omega)) only [vst,↓vAq,vBq,↓reduceIte,Nat.reduceBEq,Nat.reduceEqDiff,Nat.reduceLT,Nat.reduceLeDiff,Nat.reduceAdd,Nat.reduceMul,Nat.reduceSub,reduceCtorEq,Int.reduceToNat],L,rfl,hL⟩
  · have hk:=keyP_kw (w:=w) ⟨by omega,hw.2⟩
    unfold stB
    repeat' first|((first|refine Br.dec ?_ ?_|refine Br.eqi ?_ ?_)<;>intro h<;>try (exfalso;omega))|(simp (disch:=first|omega|(simp only [vlen];first|done|omega)) only [vst,kw_cpy,hk,↓vAq,vBq,↓reduceIte,Nat.reduceBEq,Nat.reduceEqDiff,Nat.reduceLT,Nat.reduceLeDiff,Nat.reduceAdd,Nat.reduceMul,Nat.reduceSub,reduceCtorEq,Int.reduceToNat])|(refine Br.mk ?_ ?_<;>intro h)|(refine BrN.mk (fun h => ?_) ?_)|(refine AltVC.mk ?_ ?_)
    refine BrK.mk (fun r hr he => ?_) (fun hnn => ?_)
    · have hR:=ak_in hL (by omega) hr he
      repeat' first|((first|refine Br.dec ?_ ?_|refine Br.eqi ?_ ?_)<;>intro h<;>try (exfalso;omega))|(simp (disch:=first|omega|(simp only [vlen];first|done|omega)) only [vst,hR,↓vAq,vBq,↓reduceIte,Nat.reduceBEq,Nat.reduceEqDiff,Nat.reduceLT,Nat.reduceLeDiff,Nat.reduceAdd,Nat.reduceMul,Nat.reduceSub,reduceCtorEq,Int.reduceToNat])|(refine Br.mk ?_ ?_<;>intro h)|(refine BrN.mk (fun h => ?_) ?_)|(refine AltVC.mk ?_ ?_)
      refine FinH.fold 3 0 0 4 true Y7 ?_
      repeat' first|((first|refine Br.dec ?_ ?_|refine Br.eqi ?_ ?_)<;>intro h<;>try (exfalso;omega))|refine Z8 ?_|with_reducible exact trivial|(refine Br.mk ?_ ?_<;>intro h)|(refine BrN.mk (fun h => ?_) ?_)|(refine AltVC.mk ?_ ?_)
      exact finH_mk [some (stB g L)] (by simp) Y7 Y18 ⟨by simp (disch:=first|omega|(simp only [vlen];first|done|omega)) only [vst,↓vAq,vBq,↓reduceIte,Nat.reduceBEq,Nat.reduceEqDiff,Nat.reduceLT,Nat.reduceLeDiff,Nat.reduceAdd,Nat.reduceMul,Nat.reduceSub,reduceCtorEq,Int.reduceToNat],L,rfl,hL⟩
    · have htr:Dm.Spec Try.prog 58 [.ag (graD g),.sl 1 (i64s w)] (·=.tu [iv .i64 (akN g w),iv .i64 (trC g w)]):=trees_spec g hg w hwl
      repeat' first|((first|refine Br.dec ?_ ?_|refine Br.eqi ?_ ?_)<;>intro h<;>try (exfalso;omega))|refine Z8 ?_|with_reducible exact trivial|(refine Br.mk ?_ ?_<;>intro h)|(refine BrN.mk (fun h => ?_) ?_)|(refine AltVC.mk ?_ ?_)
      refine GhoV.go ?_
      repeat' first|((first|refine Br.dec ?_ ?_|refine Br.eqi ?_ ?_)<;>intro h<;>try (exfalso;omega))|refine Z8 ?_|with_reducible exact trivial|(refine Br.mk ?_ ?_<;>intro h)|(refine BrN.mk (fun h => ?_) ?_)|(refine AltVC.mk ?_ ?_)
      refine CallVC.eq htr ?_
      repeat' first|((first|refine Br.dec ?_ ?_|refine Br.eqi ?_ ?_)<;>intro h<;>try (exfalso;omega))|(simp (disch:=first|omega|(simp only [vlen];first|done|omega)) only [vst,hk,↓vAq,vBq,↓reduceIte,Nat.reduceBEq,Nat.reduceEqDiff,Nat.reduceLT,Nat.reduceLeDiff,Nat.reduceAdd,Nat.reduceMul,Nat.reduceSub,reduceCtorEq,Int.reduceToNat])|(refine Br.mk ?_ ?_<;>intro h)|(refine BrN.mk (fun h => ?_) ?_)|(refine AltVC.mk ?_ ?_)
      refine BrK.mk (fun r hr he => ?_) (fun hnn2 => ?_)
      · repeat' first|((first|refine Br.dec ?_ ?_|refine Br.eqi ?_ ?_)<;>intro h<;>try (exfalso;omega))|refine Z8 ?_|with_reducible exact trivial|(refine Br.mk ?_ ?_<;>intro h)|(refine BrN.mk (fun h => ?_) ?_)|(refine AltVC.mk ?_ ?_)
        refine FinH.fold 3 0 0 4 true Y7 ?_
        repeat' first|((first|refine Br.dec ?_ ?_|refine Br.eqi ?_ ?_)<;>intro h<;>try (exfalso;omega))|refine Z8 ?_|with_reducible exact trivial|(refine Br.mk ?_ ?_<;>intro h)|(refine BrN.mk (fun h => ?_) ?_)|(refine AltVC.mk ?_ ?_)
        exact finH_mk [some (stB g (L.set r ⟨w,akN g w,trC g w⟩))] (by simp) Y7 Y18 ⟨by simp (disch:=first|omega|(simp only [vlen];first|done|omega)) only [vst,↓vAq,vBq,↓reduceIte,Nat.reduceBEq,Nat.reduceEqDiff,Nat.reduceLT,Nat.reduceLeDiff,Nat.reduceAdd,Nat.reduceMul,Nat.reduceSub,reduceCtorEq,Int.reduceToNat],_,rfl,hL.set (by omega)⟩
      · repeat' first|((first|refine Br.dec ?_ ?_|refine Br.eqi ?_ ?_)<;>intro h<;>try (exfalso;omega))|refine Z8 ?_|with_reducible exact trivial|(refine Br.mk ?_ ?_<;>intro h)|(refine BrN.mk (fun h => ?_) ?_)|(refine AltVC.mk ?_ ?_)
        refine FinH.fold 3 0 0 4 true Y7 ?_
        repeat' first|((first|refine Br.dec ?_ ?_|refine Br.eqi ?_ ?_)<;>intro h<;>try (exfalso;omega))|refine Z8 ?_|with_reducible exact trivial|(refine Br.mk ?_ ?_<;>intro h)|(refine BrN.mk (fun h => ?_) ?_)|(refine AltVC.mk ?_ ?_)
        exact finH_mk [some (stB g (L++[⟨w,akN g w,trC g w⟩]))] (by simp) Y7 Y18 ⟨by simp (disch:=first|omega|(simp only [vlen];first|done|omega)) only [vst,↓vAq,vBq,↓reduceIte,Nat.reduceBEq,Nat.reduceEqDiff,Nat.reduceLT,Nat.reduceLeDiff,Nat.reduceAdd,Nat.reduceMul,Nat.reduceSub,reduceCtorEq,Int.reduceToNat],_,rfl,hL.add (by omega)⟩
structure Tl where
  c:Int
  n:Int
  st:List Int
  z:Bool
instance : Inhabited Tl:=⟨⟨0,0,[],true⟩⟩
def stnD (t:Tl):D:=if t.z=true then .nl else .sl 1 (i64s t.st)
def tlD (t:Tl):List D:=[iv .i64 t.c,iv .i64 t.n,stnD t]
def TR (g:Grammar) (d:Deed) (t:Tl):Prop:=TO g d t.c t.n t.st∧(t.z=true→t.st=[])
def rule2G (g:Grammar) (r:Rule):Grammar:=if rcode g r=0 then addR g r else g
def ruR (g:Grammar) (r:Rule) (d:D) (o:List (Option Ob)):Prop:=d=.ag [iv .i64 (rcode g r),iv .i64 (if rcode g r=0 then (g.rules.length:Int) else 0),.nl] ∧ ∃ L',o=[some (stB (rule2G g r) L')]∧MA (rule2G g r) L'
theorem rul_snoc {l:List Rule} {r:Rule}:tbl rulD l++[[D.v (.int .i64 r.left),D.sl 1 (i64s r.right)]]=tbl rulD (l++[r]):=by rw [tbl_app];rfl
def vsu:=And.intro vst @rul_snoc
set_option maxRecDepth 10000 in
set_option maxHeartbeats 4000000 in
theorem rule_spec (g:Grammar) (hv:VG g) (hg:g.ok) (r:Rule) (hr:okR r) (L:List AK) (hL:MA g L):Dm.SpecH Try.prog 39 [.ptr 0 5 0 0,.ag (rulD r)] [stB g L] (ruR g r):=by
  refine specH_of_vc mixed Try.func39 c39 (by rw [show Try.f39.ntmps=_ from Try.ntmps39];simp) ?_
  unfold m39 r39
  have hlen:=(valid_of hv.1).len
  have hr2:=hr.2
  have hok:=ok_add hv hg hr.1
  have hck:=gCheck_spec (addR g r) hok
  unfold stB
  repeat' first|((first|refine Br.dec ?_ ?_|refine Br.eqi ?_ ?_)<;>intro h<;>try (exfalso;omega))|refine Z9 ?_|with_reducible exact trivial|(refine Br.mk ?_ ?_<;>intro h)|(refine BrN.mk (fun h => ?_) ?_)|(refine AltVC.mk ?_ ?_)
  refine GhoV.go ?_
  repeat' first|((first|refine Br.dec ?_ ?_|refine Br.eqi ?_ ?_)<;>intro h<;>try (exfalso;omega))|refine Z9 ?_|with_reducible exact trivial|(refine Br.mk ?_ ?_<;>intro h)|(refine BrN.mk (fun h => ?_) ?_)|(refine AltVC.mk ?_ ?_)
  refine CallP.lend [.sl 2 (tbl rulD g.rules)] (cloneB_rule g.rules (by omega)) Y19 ?_
  rintro _ _ ⟨rfl,rfl⟩
  repeat' first|((first|refine Br.dec ?_ ?_|refine Br.eqi ?_ ?_)<;>intro h<;>try (exfalso;omega))|refine Z9 ?_|with_reducible exact trivial|(refine Br.mk ?_ ?_<;>intro h)|(refine BrN.mk (fun h => ?_) ?_)|(refine AltVC.mk ?_ ?_)
  refine CallP.eq (cloneZ_int r.right hr2) (by simp) ?_
  repeat' first|((first|refine Br.dec ?_ ?_|refine Br.eqi ?_ ?_)<;>intro h<;>try (exfalso;omega))|refine Z9 ?_|with_reducible exact trivial|(refine Br.mk ?_ ?_<;>intro h)|(refine BrN.mk (fun h => ?_) ?_)|(refine AltVC.mk ?_ ?_)
  refine CallVC.eqo hck Y23 ?_
  by_cases h0:gcode (addR g r)=0
  · have hva:=valid_of h0
    have hp:=proper_spec (addR g r) (maxLen_le hok.2.2.2.1) (fun x hx=>by have:=hva.long x hx;omega)
    have hla:(addR g r).rules.length=g.rules.length+1:=by simp [addR]
    cases hb:isProper (addR g r) with
    | true =>
      rw [hb] at hp
      have e:rcode g r=0:=by unfold rcode;rw [if_pos h0,if_pos hb]
      have eg:rule2G g r=addR g r:=if_pos e
      repeat' first|((first|refine Br.dec ?_ ?_|refine Br.eqi ?_ ?_)<;>intro h<;>try (exfalso;omega))|refine Z9 ?_|with_reducible exact trivial|(refine Br.mk ?_ ?_<;>intro h)|(refine BrN.mk (fun h => ?_) ?_)|(refine AltVC.mk ?_ ?_)
      refine CallVC.eqo hp Y23 ?_
      repeat' first|((first|refine Br.dec ?_ ?_|refine Br.eqi ?_ ?_)<;>intro h<;>try (exfalso;omega))|refine Z9 ?_|with_reducible exact trivial|(refine Br.mk ?_ ?_<;>intro h)|(refine BrN.mk (fun h => ?_) ?_)|(refine AltVC.mk ?_ ?_)
      refine CallVC.frz 5 ?_
      repeat' first|((first|refine Br.dec ?_ ?_|refine Br.eqi ?_ ?_)<;>intro h<;>try (exfalso;omega))|refine Z9 ?_|with_reducible exact trivial|(refine Br.mk ?_ ?_<;>intro h)|(refine BrN.mk (fun h => ?_) ?_)|(refine AltVC.mk ?_ ?_)
      refine CallVC.lendE [0] [.ptr 0 5 0 0,.sl 2 (tbl rulD (g.rules++[r]))] [stB g L] (set_spec g L (g.rules++[r])) (by simp) (by rfl) Y17 ?_
      rintro _ _ ⟨rfl,rfl⟩
      have hl2:((g.rules++[r]).length:Int) - 1=g.rules.length:=by simp
      unfold stB
      repeat' first|((first|refine Br.dec ?_ ?_|refine Br.eqi ?_ ?_)<;>intro h<;>try (exfalso;omega))|refine Z9 ?_|with_reducible exact trivial|(refine Br.mk ?_ ?_<;>intro h)|(refine BrN.mk (fun h => ?_) ?_)|(refine AltVC.mk ?_ ?_)
      rw [hl2]
      exact finH_mk [some (stB (addR g r) [])] (by simp) Y19 (by unfold stB addR;simp (disch:=first|omega|(simp only [vlen];first|done|omega)) only [vsu,↓vAq,vBq,↓reduceIte,Nat.reduceBEq,Nat.reduceEqDiff,Nat.reduceLT,Nat.reduceLeDiff,Nat.reduceAdd,Nat.reduceMul,Nat.reduceSub,reduceCtorEq,Int.reduceToNat]) ⟨by rw [e,if_pos rfl];simp (disch:=first|omega|(simp only [vlen];first|done|omega)) only [vsu,↓vAq,vBq,↓reduceIte,Nat.reduceBEq,Nat.reduceEqDiff,Nat.reduceLT,Nat.reduceLeDiff,Nat.reduceAdd,Nat.reduceMul,Nat.reduceSub,reduceCtorEq,Int.reduceToNat],[],by rw [eg],MA.nil⟩
    | false =>
      rw [hb] at hp
      have e:rcode g r=3:=by unfold rcode;rw [if_pos h0,if_neg (by rw [hb];simp)]
      have eg:rule2G g r=g:=if_neg (by rw [e];decide)
      repeat' first|((first|refine Br.dec ?_ ?_|refine Br.eqi ?_ ?_)<;>intro h<;>try (exfalso;omega))|refine Z9 ?_|with_reducible exact trivial|(refine Br.mk ?_ ?_<;>intro h)|(refine BrN.mk (fun h => ?_) ?_)|(refine AltVC.mk ?_ ?_)
      refine CallVC.eqo hp Y23 ?_
      repeat' first|((first|refine Br.dec ?_ ?_|refine Br.eqi ?_ ?_)<;>intro h<;>try (exfalso;omega))|refine Z9 ?_|with_reducible exact trivial|(refine Br.mk ?_ ?_<;>intro h)|(refine BrN.mk (fun h => ?_) ?_)|(refine AltVC.mk ?_ ?_)
      exact finH_mk [some (stB g L)] (by simp) Y19 Y28 ⟨by rw [e,if_neg (by decide)];simp (disch:=first|omega|(simp only [vlen];first|done|omega)) only [vsu,↓vAq,vBq,↓reduceIte,Nat.reduceBEq,Nat.reduceEqDiff,Nat.reduceLT,Nat.reduceLeDiff,Nat.reduceAdd,Nat.reduceMul,Nat.reduceSub,reduceCtorEq,Int.reduceToNat],L,by rw [eg],by rw [eg];exact hL⟩
  · have e:rcode g r=gcode (addR g r):=by unfold rcode;rw [if_neg h0]
    have eg:rule2G g r=g:=if_neg (by rw [e];exact h0)
    repeat' first|((first|refine Br.dec ?_ ?_|refine Br.eqi ?_ ?_)<;>intro h<;>try (exfalso;omega))|refine Z9 ?_|with_reducible exact trivial|(refine Br.mk ?_ ?_<;>intro h)|(refine BrN.mk (fun h => ?_) ?_)|(refine AltVC.mk ?_ ?_)
    exact finH_mk [some (stB g L)] (by simp) Y19 Y28 ⟨by rw [e,if_neg h0];simp (disch:=first|omega|(simp only [vlen];first|done|omega)) only [vsu,↓vAq,vBq,↓reduceIte,Nat.reduceBEq,Nat.reduceEqDiff,Nat.reduceLT,Nat.reduceLeDiff,Nat.reduceAdd,Nat.reduceMul,Nat.reduceSub,reduceCtorEq,Int.reduceToNat],L,by rw [eg],by rw [eg];exact hL⟩
end Go.Proofs.Ytjekkbpdgnohcaa
