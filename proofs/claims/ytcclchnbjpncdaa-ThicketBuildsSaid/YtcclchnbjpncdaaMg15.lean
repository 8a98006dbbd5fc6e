/-
 Texts of this claim, one behind another.
-/
import Derived.Test.YtcclchnbjpncdaaMg14
import Derived.Test.YtcclchnbjpncdaaMg11
set_option linter.unusedSimpArgs false
set_option linter.unnecessarySimpa false
set_option linter.unusedVariables false
set_option linter.defProp false
namespace Go.Proofs.Ytcclchnbjpncdaa
open Go.Dm
def wgt (n:Nat) (t:Nat→Nat→Nat):Nat:=nsum (fun i=>nsum (fun j=>t i j) (n+1)) (n+1)
theorem wgt_le {n:Nat} {t:Nat→Nat→Nat} (hn:n≤12) (h:∀ i j,t i j<32):wgt n t≤5408:=by
  have h1:∀ i,nsum (fun j=>t i j) (n+1)≤416:=fun i=>Nat.le_trans (nsum_const (c:=32) fun j _=>by have:=h i j;omega) (by have:=Nat.mul_le_mul_right 32 (show n+1≤13 by omega);omega)
  exact Nat.le_trans (nsum_const (c:=416) fun i _=>h1 i) (by have:=Nat.mul_le_mul_right 416 (show n+1≤13 by omega);omega)
theorem wgt_upd {n i j v:Nat} {t:Nat→Nat→Nat} (hi:i≤n) (hj:j≤n) (h:t i j<v):wgt n t<wgt n (upd2 t i j v):=by
  have hle:∀ a b,t a b≤upd2 t i j v a b:=fun a b=>by
    by_cases e:a=i∧b=j
    · obtain ⟨rfl,rfl⟩:=e;rw [upd2_at];omega
    · rw [upd2_ne e];exact Nat.le_refl _
  refine nsum_lt_of (m:=i) (fun a _=>nsum_le_of fun b _=>hle a b) (by omega) ?_
  exact nsum_lt_of (m:=j) (fun b _=>hle i b) (by omega) (by rw [upd2_at];exact h)
def Snd (g:Grammar) (w:List Int) (t:Nat→Nat→Nat):Prop:=∀ a i j,tbB t a i j=true→i≤j∧j≤w.length∧(a:Int)<g.n∧Der g w [g.k+a] i j
theorem Snd.ov {g:Grammar} {w:List Int} {t:Nat→Nat→Nat} (h:Snd g w t) {l:List Int} {i j:Nat} (ho:ovB g w (tbB t) l i j=true):Der g w l i j:=ovB_sound (fun a i j _ ht=>(h a i j ht).2.2.2) ho
theorem Snd.add {g:Grammar} {w:List Int} {t:Nat→Nat→Nat} (h:Snd g w t) {q i j:Nat} (hk:1≤g.k) (hq:q<g.rules.length) (hl:0≤(g.rules.getD q default).left∧(g.rules.getD q default).left<g.n) (hij:i≤j) (hj:j≤w.length) (hd:Der g w (g.rules.getD q default).right i j):Snd g w (upd2 t i j (t i j ||| 2 ^ (g.rules.getD q default).left.toNat)):=fun a b c hb=>by
  by_cases e:b=i∧c=j
  · obtain ⟨rfl,rfl⟩:=e
    unfold tbB at hb
    rw [upd2_at,or_bit,Bool.or_eq_true,decide_eq_true_eq] at hb
    rcases hb with hb|rfl
    · exact h a b c hb
    · refine ⟨hij,hj,by omega,(der_name (by omega)).mpr ⟨q,hq,by omega,hd⟩⟩
  · unfold tbB at hb
    rw [upd2_ne e] at hb
    exact h a b c hb
def CLq (g:Grammar) (w:List Int) (t:Nat→Nat→Nat) (i q:Nat):Prop:=∀ j,i≤j→j≤w.length→ovB g w (tbB t) (g.rules.getD q default).right i j=true→tbB t (g.rules.getD q default).left.toNat i j=true
structure MK (g:Grammar) (w:List Int) (L:List SE) (t:Nat→Nat→Nat):Prop where
  si:SI L t
  sd:Snd g w t
theorem MK.le {g:Grammar} {w:List Int} {L:List SE} {t:Nat→Nat→Nat} (h:MK g w L t) (hn:w.length≤12):wgt w.length t≤5408:=wgt_le hn h.si.lt
def Full (g:Grammar) (w:List Int) (t:Nat→Nat→Nat):Prop:=∀ l i j,i≤w.length→(ovB g w (tbB t) l i j=true ↔ Der g w l i j)
theorem MK.full {g:Grammar} {w:List Int} {L:List SE} {t:Nat→Nat→Nat} (h:MK g w L t) (hc:∀ i q,i≤w.length→q<g.rules.length→CLq g w t i q):Full g w t:=fun l i j hi=>⟨fun ho=>h.sd.ov ho,fun hd=>ovB_all (fun q hq i j hij hj ho=>hc i q (by omega) hq j hij hj ho) hd hi⟩
theorem se_app0 {L:List SE} {i j:Nat}:tbl seD L++[[D.v (.int .i64 i),D.v (.int .i64 j),D.v (.int .u32 0)]]=tbl seD (L++[⟨i,j,0⟩]):=by rw [tbl_app];rfl
theorem se_end {L:List SE} {x:SE}:(tbl seD (L++[x])).getD L.length []=seD x:=by
  rw [tbl_app];simp [tbl,List.getD]
theorem app_set {L:List SE} {x y:SE}:(L++[x]).set L.length y=L++[y]:=by simp
theorem end_get {L:List SE} {x:SE}:(L++[x]).getD L.length default=x:=by simp [List.getD]
def vmk:=And.intro @end_get<|And.intro @se_app0<|And.intro @se_end<|And.intro @app_set @seD_eq
theorem upd2_self {t:Nat→Nat→Nat} {i j:Nat} {v:Nat} (h:t i j=v):upd2 t i j v=t:=by
  funext a b
  by_cases e:a=i∧b=j
  · obtain ⟨rfl,rfl⟩:=e;rw [upd2_at,h]
  · rw [upd2_ne e]
def mkO (g:Grammar) (L:List SE):List (Nat × Ob):=[(0,⟨4,[[iv .i64 g.k,iv .i64 g.n,iv .i64 g.start,.sl 2 (tbl rulD g.rules)]],true,false,.fix⟩),(1,⟨3,tbl seD L,true,false,.map [.i64,.i64] true false⟩)]
set_option maxRecDepth 10000 in
set_option maxHeartbeats 4000000 in
theorem make_spec (g : Grammar) (w : List Int) (hc : CW g w) : Dm.SpecH Try.prog 11 [.ag (graD g), .sl 1 (i64s w)] [] (fun d o => d = .mp 1 ∧ ∃ L t, o = [none, some ⟨3, tbl seD L, true, false, .map [.i64, .i64] true false⟩] ∧ MK g w L t ∧ Full g w t) := by
  refine specH_of_vc mixed Try.func11 c11 (by rw [show Try.f11.ntmps=_ from Try.ntmps11];simp) ?_
  unfold m11 r11
  have hk:=hc.v.k
  have hn:=hc.v.n
  have hw:=hc.w
  have hlen:=hc.v.len
  repeat' first|((first|refine Br.dec ?_ ?_|refine Br.eqi ?_ ?_)<;>intro h<;>try (exfalso;omega))|refine Z5 ?_|with_reducible exact trivial|(refine Br.mk ?_ ?_<;>intro h)|(refine BrN.mk (fun h => ?_) ?_)|(refine AltVC.mk ?_ ?_)
  refine LoopVC.mk (X:=List SE × (Nat→Nat→Nat) × Bool) (fun x=>[(5,.mp 1),(6,.v (.bool x.2.2))]) (fun x=>mkO g x.1) (fun x=>if x.2.2 then 5409 - wgt w.length x.2.1 else 0) (fun x=>MK g w x.1 x.2.1∧(x.2.2=false→∀ i q,i≤w.length→q<g.rules.length→CLq g w x.2.1 i q)) ([],fun _ _=>0,true) ⟨⟨.nil,fun a i j h=>by unfold tbB at h;simp at h⟩,by simp⟩ ?_ ?_
  · unfold mkO
    (simp (disch:=first|omega|(simp only [vlen];first|done|omega)) only [Fits_u,Fits_m,Fits_nil,List.length_append,vse,↓vAq,vBq,↓reduceIte,Nat.reduceBEq,Nat.reduceEqDiff,Nat.reduceLT,Nat.reduceLeDiff,Nat.reduceAdd,Nat.reduceMul,Nat.reduceSub,reduceCtorEq,Int.reduceToNat]<;>(repeat' first|rfl|apply And.intro))
    all_goals first|rfl|skip
  · rintro ⟨L0, t0, g0⟩ ⟨hM0, hc0⟩
    simp only at hM0 hc0 ⊢
    unfold mkO
    cases g0 with
    | false =>
      have hF:=hM0.full (hc0 rfl)
      repeat' first|((first|refine Br.dec ?_ ?_|refine Br.eqi ?_ ?_)<;>intro h<;>try (exfalso;omega))|refine Z5 ?_|with_reducible exact trivial|(refine Br.mk ?_ ?_<;>intro h)|(refine BrN.mk (fun h => ?_) ?_)|(refine AltVC.mk ?_ ?_)
      exact finH_mk [none,some ⟨3,tbl seD L0,true,false,.map [.i64,.i64] true false⟩] (by simp) Y8 Y8 ⟨by simp (disch:=first|omega|(simp only [vlen];first|done|omega)) only [vse,↓vAq,vBq,↓reduceIte,Nat.reduceBEq,Nat.reduceEqDiff,Nat.reduceLT,Nat.reduceLeDiff,Nat.reduceAdd,Nat.reduceMul,Nat.reduceSub,reduceCtorEq,Int.reduceToNat],L0,t0,rfl,hM0,hF⟩
    | true =>
      have hW0:=hM0.le hw
      repeat' first|((first|refine Br.dec ?_ ?_|refine Br.eqi ?_ ?_)<;>intro h<;>try (exfalso;omega))|refine Z5 ?_|with_reducible exact trivial|(refine Br.mk ?_ ?_<;>intro h)|(refine BrN.mk (fun h => ?_) ?_)|(refine AltVC.mk ?_ ?_)
      refine LoopVC.mk (X:=List SE × (Nat→Nat→Nat) × Bool × Nat) (fun x=>[(5,.mp 1),(6,.v (.bool x.2.2.1)),(7,iv .i64 ((x.2.2.2:Int) - 1))]) (fun x=>mkO g x.1) (fun x=>x.2.2.2) (fun x=>MK g w x.1 x.2.1∧x.2.2.2≤w.length+1∧wgt w.length t0+(if x.2.2.1 then 1 else 0)≤wgt w.length x.2.1∧(x.2.2.1=false→∀ i q,x.2.2.2≤i→i≤w.length→q<g.rules.length→CLq g w x.2.1 i q)) (L0,t0,false,w.length+1) ⟨hM0,Nat.le_refl _,by simp,fun _ i q h1 h2=>by simp only at h1;omega⟩ ?_ ?_
      · unfold mkO
        (simp (disch:=first|omega|(simp only [vlen];first|done|omega)) only [Fits_u,Fits_m,Fits_nil,List.length_append,vse,↓vAq,vBq,↓reduceIte,Nat.reduceBEq,Nat.reduceEqDiff,Nat.reduceLT,Nat.reduceLeDiff,Nat.reduceAdd,Nat.reduceMul,Nat.reduceSub,reduceCtorEq,Int.reduceToNat]<;>(repeat' first|rfl|apply And.intro))
        all_goals first|rfl|exact viEq (by omega)|skip
      · rintro ⟨L1, t1, g1, f⟩ ⟨hM1, hf, hw1, hc1⟩
        simp only at hM1 hf hw1 hc1 ⊢
        unfold mkO
        have hW1:=hM1.le hw
        cases f with
        | zero =>
          repeat' first|((first|refine Br.dec ?_ ?_|refine Br.eqi ?_ ?_)<;>intro h<;>try (exfalso;omega))|refine Z5 ?_|with_reducible exact trivial|(refine Br.mk ?_ ?_<;>intro h)|(refine BrN.mk (fun h => ?_) ?_)|(refine AltVC.mk ?_ ?_)
          refine loopK.mk (L1,t1,g1) Y0 ⟨hM1,fun h i q h1 h2=>hc1 h i q (Nat.zero_le _) h1 h2⟩ ?_ ?_
          · show (if g1 then 5409 - wgt w.length t1 else 0)<(if true then 5409 - wgt w.length t0 else 0)
            cases g1<;>simp only [if_true,Bool.false_eq_true,if_false] at hw1 ⊢<;>omega
          · (simp (disch:=first|omega|(simp only [vlen];first|done|omega)) only [Fits_u,Fits_m,Fits_nil,List.length_append,vse,↓vAq,vBq,↓reduceIte,Nat.reduceBEq,Nat.reduceEqDiff,Nat.reduceLT,Nat.reduceLeDiff,Nat.reduceAdd,Nat.reduceMul,Nat.reduceSub,reduceCtorEq,Int.reduceToNat]<;>(repeat' first|rfl|apply And.intro))
            all_goals first|rfl|skip
        | succ fr =>
          have hfr:((fr+1:Nat):Int) - 1=(fr:Int):=by omega
          repeat' first|((first|refine Br.dec ?_ ?_|refine Br.eqi ?_ ?_)<;>intro h<;>try (exfalso;omega))|refine Z10 ?_|with_reducible exact trivial|(refine Br.mk ?_ ?_<;>intro h)|(refine BrN.mk (fun h => ?_) ?_)|(refine AltVC.mk ?_ ?_)
          refine LoopVC.mk (X:=List SE × (Nat→Nat→Nat) × Bool × Nat) (fun x=>[(5,.mp 1),(6,.v (.bool x.2.2.1)),(24,iv .i64 x.2.2.2)]) (fun x=>mkO g x.1) (fun x=>g.rules.length - x.2.2.2) (fun x=>MK g w x.1 x.2.1∧x.2.2.2≤g.rules.length∧wgt w.length t0+(if x.2.2.1 then 1 else 0)≤wgt w.length x.2.1∧(x.2.2.1=false→(∀ i q,fr+1≤i→i≤w.length→q<g.rules.length→CLq g w x.2.1 i q)∧∀ q,q<x.2.2.2→CLq g w x.2.1 fr q)) (L1,t1,g1,0) ⟨hM1,Nat.zero_le _,hw1,fun h=>⟨hc1 h,fun q hq=>absurd hq (Nat.not_lt_zero _)⟩⟩ ?_ ?_
          · unfold mkO
            (simp (disch:=first|omega|(simp only [vlen];first|done|omega)) only [Fits_u,Fits_m,Fits_nil,List.length_append,vse,↓vAq,vBq,↓reduceIte,Nat.reduceBEq,Nat.reduceEqDiff,Nat.reduceLT,Nat.reduceLeDiff,Nat.reduceAdd,Nat.reduceMul,Nat.reduceSub,reduceCtorEq,Int.reduceToNat]<;>(repeat' first|rfl|apply And.intro))
            all_goals first|rfl|skip
          · rintro ⟨L2, t2, g2, q⟩ ⟨hM2, hq, hw2, hc2⟩
            simp only at hM2 hq hw2 hc2 ⊢
            unfold mkO
            have hW2:=hM2.le hw
            by_cases hql:q<g.rules.length
            · have hmr := getD_mem' (l := g.rules) (i := q) hql
              have hleft:=hc.v.left _ hmr
              have hlong:=hc.v.long _ hmr
              have hE:=ends_spec g w hc L2 t2 hM2.si (g.rules.getD q default).right hlong (fun k hk=>hc.v.right _ hmr _ (getD_mem' (l:=(g.rules.getD q default).right) (i:=k) hk)) fr (by omega)
              obtain ⟨a,ha⟩ : ∃ a:Nat,(g.rules.getD q default).left=a:=⟨(g.rules.getD q default).left.toNat,by omega⟩
              have hS:ndS g w t2 (g.rules.getD q default).right fr<2 ^ (w.length+1):=setOf_lt
              have hp:2 ^ (w.length+1)≤8192:=Nat.le_trans (Nat.pow_le_pow_right (show 0<2 by omega) (show w.length+1≤13 by omega)) (by decide)
              repeat' first|((first|refine Br.dec ?_ ?_|refine Br.eqi ?_ ?_)<;>intro h<;>try (exfalso;omega))|refine Z10 ?_|with_reducible exact trivial|(refine Br.mk ?_ ?_<;>intro h)|(refine BrN.mk (fun h => ?_) ?_)|(refine AltVC.mk ?_ ?_)
              refine CallVC.lendE [1] [.mp 0,.ag (graD g),.sl 1 (i64s w),.sl 1 (i64s (g.rules.getD q default).right),iv .i64 fr] (spO L2) hE (by simp) (by rfl) Y6 ?_
              rintro _ _ ⟨rfl,rfl⟩
              unfold spO
              repeat' first|((first|refine Br.dec ?_ ?_|refine Br.eqi ?_ ?_)<;>intro h<;>try (exfalso;omega))|refine Z10 ?_|with_reducible exact trivial|(refine Br.mk ?_ ?_<;>intro h)|(refine BrN.mk (fun h => ?_) ?_)|(refine AltVC.mk ?_ ?_)
              refine LoopVC.mk (X:=List SE × (Nat→Nat→Nat) × Bool × Nat) (fun x=>[(5,.mp 1),(6,.v (.bool x.2.2.1)),(11,iv .i64 x.2.2.2)]) (fun x=>mkO g x.1++[(2,⟨2,[[iv .i64 (g.rules.getD q default).left,.sl 1 (i64s (g.rules.getD q default).right)]],true,false,.fix⟩)]) (fun x=>w.length+1 - x.2.2.2) (fun x=>MK g w x.1 x.2.1∧fr≤x.2.2.2∧x.2.2.2≤w.length+1∧wgt w.length t0+(if x.2.2.1 then 1 else 0)≤wgt w.length x.2.1∧(x.2.2.1=false→x.2.1=t2∧g2=false∧∀ j,fr≤j→j<x.2.2.2→ovB g w (tbB t2) (g.rules.getD q default).right fr j=true→tbB t2 a fr j=true)) (L2,t2,g2,fr) ⟨hM2,Nat.le_refl _,by show fr≤w.length+1;omega,hw2,fun h=>⟨rfl,h,fun j h1 h2=>by simp only at h2;omega⟩⟩ ?_ ?_
              · simp only [mkO,List.cons_append,List.nil_append]
                (simp (disch:=first|omega|(simp only [vlen];first|done|omega)) only [Fits_u,Fits_m,Fits_nil,List.length_append,vse,hfr,↓vAq,vBq,↓reduceIte,Nat.reduceBEq,Nat.reduceEqDiff,Nat.reduceLT,Nat.reduceLeDiff,Nat.reduceAdd,Nat.reduceMul,Nat.reduceSub,reduceCtorEq,Int.reduceToNat]<;>(repeat' first|rfl|apply And.intro))
                all_goals first|rfl|skip
              · rintro ⟨L3, t3, g3, j⟩ ⟨hM3, hj1, hj2, hw3, hc3⟩
                simp only at hM3 hj1 hj2 hw3 hc3 ⊢
                simp only [mkO,List.cons_append,List.nil_append]
                have hW3:=hM3.le hw
                by_cases hj:j≤w.length
                · have hH := has_spec (ndS g w t2 (g.rules.getD q default).right fr) j (by omega) (by omega)
                  rw [nd_bit hj] at hH
                  cases hb:ovB g w (tbB t2) (g.rules.getD q default).right fr j with
                  | false =>
                    rw [hb] at hH
                    repeat' first|((first|refine Br.dec ?_ ?_|refine Br.eqi ?_ ?_)<;>intro h<;>try (exfalso;omega))|refine Z10 ?_|with_reducible exact trivial|(refine Br.mk ?_ ?_<;>intro h)|(refine BrN.mk (fun h => ?_) ?_)|(refine AltVC.mk ?_ ?_)
                    refine CallVC.eq hH ?_
                    repeat' first|((first|refine Br.dec ?_ ?_|refine Br.eqi ?_ ?_)<;>intro h<;>try (exfalso;omega))|refine Z10 ?_|with_reducible exact trivial|(refine Br.mk ?_ ?_<;>intro h)|(refine BrN.mk (fun h => ?_) ?_)|(refine AltVC.mk ?_ ?_)
                    refine loopK.mk (L3,t3,g3,j+1) Y0 ⟨hM3,by show fr≤j+1;omega,by show j+1≤w.length+1;omega,hw3,fun h=>⟨(hc3 h).1,(hc3 h).2.1,fun j' h1 h2 h3 => ?_⟩⟩ (by show w.length+1 - (j+1)<w.length+1 - j;omega) ?_
                    · by_cases e:j'=j
                      · subst e;rw [hb] at h3;cases h3
                      · exact (hc3 h).2.2 j' h1 (by have:j'<j+1:=h2;omega) h3
                    · (simp (disch:=first|omega|(simp only [vlen];first|done|omega)) only [Fits_u,Fits_m,Fits_nil,List.length_append,vse,hfr,↓vAq,vBq,↓reduceIte,Nat.reduceBEq,Nat.reduceEqDiff,Nat.reduceLT,Nat.reduceLeDiff,Nat.reduceAdd,Nat.reduceMul,Nat.reduceSub,reduceCtorEq,Int.reduceToNat]<;>(repeat' first|rfl|apply And.intro))
                      all_goals first|rfl|skip
                  | true =>
                    rw [hb] at hH
                    have hlt3:=hM3.si.lt fr j
                    have hHa:=has_spec (t3 fr j) a (by omega) (by omega)
                    have hkeep:tbB t3 a fr j=true→∀ (h:g3=false),∀ j',fr≤j'→j'<j+1→ovB g w (tbB t2) (g.rules.getD q default).right fr j'=true→tbB t2 a fr j'=true:=fun hbt h j' h1 h2 h3=>by
                      by_cases e:j'=j
                      · subst e;rw [← (hc3 h).1];exact hbt
                      · exact (hc3 h).2.2 j' h1 (by omega) h3
                    repeat' first|((first|refine Br.dec ?_ ?_|refine Br.eqi ?_ ?_)<;>intro h<;>try (exfalso;omega))|refine Z10 ?_|with_reducible exact trivial|(refine Br.mk ?_ ?_<;>intro h)|(refine BrN.mk (fun h => ?_) ?_)|(refine AltVC.mk ?_ ?_)
                    refine CallVC.eq hH ?_
                    repeat' first|((first|refine Br.dec ?_ ?_|refine Br.eqi ?_ ?_)<;>intro h<;>try (exfalso;omega))|refine Z10 ?_|with_reducible exact trivial|(refine Br.mk ?_ ?_<;>intro h)|(refine BrN.mk (fun h => ?_) ?_)|(refine AltVC.mk ?_ ?_)
                    refine BrK.mk (fun r hr he => ?_) (fun hnn => ?_)
                    · obtain ⟨hr1,hr2,hr3,hR⟩:=se_in hM3.si hr he
                      cases hbt:(t3 fr j).testBit a with
                      | true =>
                        rw [hbt] at hHa
                        repeat' first|((first|refine Br.dec ?_ ?_|refine Br.eqi ?_ ?_)<;>intro h<;>try (exfalso;omega))|refine Z33 ?_|with_reducible exact trivial|(refine Br.mk ?_ ?_<;>intro h)|(refine BrN.mk (fun h => ?_) ?_)|(refine AltVC.mk ?_ ?_)
                        refine CallVC.eq hHa ?_
                        repeat' first|((first|refine Br.dec ?_ ?_|refine Br.eqi ?_ ?_)<;>intro h<;>try (exfalso;omega))|refine Z15 ?_|with_reducible exact trivial|(refine Br.mk ?_ ?_<;>intro h)|(refine BrN.mk (fun h => ?_) ?_)|(refine AltVC.mk ?_ ?_)
                        refine loopK.mk (L3,t3,g3,j+1) Y0 ⟨hM3,by show fr≤j+1;omega,by show j+1≤w.length+1;omega,hw3,fun h=>⟨(hc3 h).1,(hc3 h).2.1,hkeep hbt h⟩⟩ (by show w.length+1 - (j+1)<w.length+1 - j;omega) ?_
                        (simp (disch:=first|omega|(simp only [vlen];first|done|omega)) only [Fits_u,Fits_m,Fits_nil,List.length_append,vse,hfr,ha,↓vAq,vBq,↓reduceIte,Nat.reduceBEq,Nat.reduceEqDiff,Nat.reduceLT,Nat.reduceLeDiff,Nat.reduceAdd,Nat.reduceMul,Nat.reduceSub,reduceCtorEq,Int.reduceToNat]<;>(repeat' first|rfl|apply And.intro))
                        all_goals first|rfl|skip
                      | false =>
                        rw [hbt] at hHa
                        have hV:t3 fr j ||| 2 ^ a<32:=or_two_lt (n:=5) hlt3 (by omega)
                        have hgt:t3 fr j<t3 fr j ||| 2 ^ a:=Nat.lt_of_le_of_ne le_or fun e=>by
                          have h2:=or_bit (S:=t3 fr j) (l:=a) (x:=a)
                          rw [← e,hbt] at h2;simp at h2
                        have hwn:wgt w.length t0+(if true then 1 else 0)≤wgt w.length (upd2 t3 fr j (t3 fr j ||| 2 ^ a)):=by
                          have:=wgt_upd (n:=w.length) (i:=fr) (j:=j) (by omega) hj hgt
                          simp only [if_true];omega
                        have hsd:Snd g w (upd2 t3 fr j (t3 fr j ||| 2 ^ a)):=by
                          have:=hM3.sd.add (by omega) hql hleft hj1 hj (hM2.sd.ov hb)
                          rwa [ha,Int.toNat_natCast] at this
                        have hsh:=@shlN a (by omega)
                        have hor:=@orN (t3 fr j) (2 ^ a) (by omega) (by have:=@pow_le31 a (by omega);omega)
                        have hr1':=hr1
                        have hset:∀ r',r'<L3.length→(L3.getD r' default).i=fr→(L3.getD r' default).j=j→MK g w (L3.set r' ⟨fr,j,t3 fr j ||| 2 ^ a⟩) (upd2 t3 fr j (t3 fr j ||| 2 ^ a)):=fun r' h1 h2 h3=>⟨hM3.si.set h1 h2 h3 hV,hsd⟩
                        repeat' first|((first|refine Br.dec ?_ ?_|refine Br.eqi ?_ ?_)<;>intro h<;>try (exfalso;omega))|refine Z33 ?_|with_reducible exact trivial|(refine Br.mk ?_ ?_<;>intro h)|(refine BrN.mk (fun h => ?_) ?_)|(refine AltVC.mk ?_ ?_)
                        refine CallVC.eq hHa ?_
                        repeat' first|((first|refine Br.dec ?_ ?_|refine Br.eqi ?_ ?_)<;>intro h<;>try (exfalso;omega))|refine Z15 ?_|with_reducible exact trivial|(refine Br.mk ?_ ?_<;>intro h)|(refine BrN.mk (fun h => ?_) ?_)|(refine AltVC.mk ?_ ?_)
                        refine DrawVC.t ?_
                        repeat' first|((first|refine Br.dec ?_ ?_|refine Br.eqi ?_ ?_)<;>intro h<;>try (exfalso;omega))|refine Z15 ?_|with_reducible exact trivial|(refine Br.mk ?_ ?_<;>intro h)|(refine BrN.mk (fun h => ?_) ?_)|(refine AltVC.mk ?_ ?_)
                        · refine BrK.mk (fun r1 hr1 he1 => ?_) (fun hnn=>absurd ⟨hr2,hr3⟩ (se_out hnn r hr1'))
                          obtain ⟨k1,k2,k3,hR1⟩:=se_in hM3.si hr1 he1
                          repeat' first|((first|refine Br.dec ?_ ?_|refine Br.eqi ?_ ?_)<;>intro h<;>try (exfalso;omega))|(simp (disch:=first|omega|(simp only [vlen];first|done|omega)) only [vse,vmk,hfr,hR1,ha,hsh,hor,↓vAq,vBq,↓reduceIte,Nat.reduceBEq,Nat.reduceEqDiff,Nat.reduceLT,Nat.reduceLeDiff,Nat.reduceAdd,Nat.reduceMul,Nat.reduceSub,reduceCtorEq,Int.reduceToNat])|(refine Br.mk ?_ ?_<;>intro h)|(refine BrN.mk (fun h => ?_) ?_)|(refine AltVC.mk ?_ ?_)
                          refine BrK.mk (fun r2 hr2' he2 => ?_) (fun hnn=>absurd ⟨hr2,hr3⟩ (se_out hnn r hr1'))
                          obtain ⟨m1,m2,m3,hR2⟩:=se_in hM3.si hr2' he2
                          repeat' first|((first|refine Br.dec ?_ ?_|refine Br.eqi ?_ ?_)<;>intro h<;>try (exfalso;omega))|refine Z34 ?_|with_reducible exact trivial|(refine Br.mk ?_ ?_<;>intro h)|(refine BrN.mk (fun h => ?_) ?_)|(refine AltVC.mk ?_ ?_)
                          refine loopK.mk (L3.set r2 ⟨fr,j,t3 fr j ||| 2 ^ a⟩,upd2 t3 fr j (t3 fr j ||| 2 ^ a),true,j+1) Y0 ⟨hset r2 m1 m2 m3,by show fr≤j+1;omega,by show j+1≤w.length+1;omega,hwn,fun h=>by cases h⟩ (by show w.length+1 - (j+1)<w.length+1 - j;omega) ?_
                          (simp (disch:=first|omega|(simp only [vlen];first|done|omega)) only [Fits_u,Fits_m,Fits_nil,List.length_append,vse,vmk,hfr,ha,↓vAq,vBq,↓reduceIte,Nat.reduceBEq,Nat.reduceEqDiff,Nat.reduceLT,Nat.reduceLeDiff,Nat.reduceAdd,Nat.reduceMul,Nat.reduceSub,reduceCtorEq,Int.reduceToNat]<;>(repeat' first|rfl|apply And.intro))
                          all_goals first|rfl|skip
                        · refine BrK.mk (fun r2 hr2' he2 => ?_) (fun hnn=>absurd ⟨hr2,hr3⟩ (se_out hnn r hr1'))
                          obtain ⟨m1,m2,m3,hR2⟩:=se_in hM3.si hr2' he2
                          repeat' first|((first|refine Br.dec ?_ ?_|refine Br.eqi ?_ ?_)<;>intro h<;>try (exfalso;omega))|refine Z34 ?_|with_reducible exact trivial|(refine Br.mk ?_ ?_<;>intro h)|(refine BrN.mk (fun h => ?_) ?_)|(refine AltVC.mk ?_ ?_)
                          refine BrK.mk (fun r1 hr1 he1 => ?_) (fun hnn=>absurd ⟨hr2,hr3⟩ (se_out hnn r hr1'))
                          obtain ⟨k1,k2,k3,hR1⟩:=se_in hM3.si hr1 he1
                          repeat' first|((first|refine Br.dec ?_ ?_|refine Br.eqi ?_ ?_)<;>intro h<;>try (exfalso;omega))|(simp (disch:=first|omega|(simp only [vlen];first|done|omega)) only [vse,vmk,hfr,hR1,hR2,ha,hsh,hor,↓vAq,vBq,↓reduceIte,Nat.reduceBEq,Nat.reduceEqDiff,Nat.reduceLT,Nat.reduceLeDiff,Nat.reduceAdd,Nat.reduceMul,Nat.reduceSub,reduceCtorEq,Int.reduceToNat])|(refine Br.mk ?_ ?_<;>intro h)|(refine BrN.mk (fun h => ?_) ?_)|(refine AltVC.mk ?_ ?_)
                          refine loopK.mk (L3.set r2 ⟨fr,j,t3 fr j ||| 2 ^ a⟩,upd2 t3 fr j (t3 fr j ||| 2 ^ a),true,j+1) Y0 ⟨hset r2 m1 m2 m3,by show fr≤j+1;omega,by show j+1≤w.length+1;omega,hwn,fun h=>by cases h⟩ (by show w.length+1 - (j+1)<w.length+1 - j;omega) ?_
                          (simp (disch:=first|omega|(simp only [vlen];first|done|omega)) only [Fits_u,Fits_m,Fits_nil,List.length_append,vse,vmk,hfr,ha,↓vAq,vBq,↓reduceIte,Nat.reduceBEq,Nat.reduceEqDiff,Nat.reduceLT,Nat.reduceLeDiff,Nat.reduceAdd,Nat.reduceMul,Nat.reduceSub,reduceCtorEq,Int.reduceToNat]<;>(repeat' first|rfl|apply And.intro))
                          all_goals first|rfl|skip
                    · have h0:=hM3.si.no fr j (se_out hnn)
                      have hno:=se_out hnn
                      have hbt:(t3 fr j).testBit a=false:=by rw [h0,Nat.zero_testBit]
                      have hV:t3 fr j ||| 2 ^ a<32:=or_two_lt (n:=5) hlt3 (by omega)
                      have hgt:t3 fr j<t3 fr j ||| 2 ^ a:=Nat.lt_of_le_of_ne le_or fun e=>by
                        have h2:=or_bit (S:=t3 fr j) (l:=a) (x:=a)
                        rw [← e,hbt] at h2;simp at h2
                      have hwn:wgt w.length t0+(if true then 1 else 0)≤wgt w.length (upd2 t3 fr j (t3 fr j ||| 2 ^ a)):=by
                        have:=wgt_upd (n:=w.length) (i:=fr) (j:=j) (by omega) hj hgt
                        simp only [if_true];omega
                      have hsd:Snd g w (upd2 t3 fr j (t3 fr j ||| 2 ^ a)):=by
                        have:=hM3.sd.add (by omega) hql hleft hj1 hj (hM2.sd.ov hb)
                        rwa [ha,Int.toNat_natCast] at this
                      have hsh:=@shlN a (by omega)
                      have hadd:MK g w (L3++[⟨fr,j,2 ^ a⟩]) (upd2 t3 fr j (t3 fr j ||| 2 ^ a)):=by
                        have e:t3 fr j ||| 2 ^ a=2 ^ a:=by rw [h0,Nat.zero_or]
                        rw [e] at hV hsd ⊢
                        exact ⟨hM3.si.add hno hV,hsd⟩
                      have hsi0:SI (L3++[⟨fr,j,0⟩]) t3:=by
                        have:=hM3.si.add hno (v:=0) (by omega)
                        rwa [upd2_self h0] at this
                      have hend:∀ h:(∀ r,r<(tbl seD (L3++[⟨fr,j,0⟩])).length→((tbl seD (L3++[⟨fr,j,0⟩])).getD r []).take 2 ≠ [.v (.int .i64 fr),.v (.int .i64 j)]),¬ (fr=fr∧j=j):=fun h _=>by
                        have:=h L3.length (by rw [tbl_len];simp)
                        rw [se_end] at this
                        exact this rfl
                      have hor0:=@orN 0 (2 ^ a) (by omega) (by have:=@pow_le31 a (by omega);omega)
                      rw [show ((0:Nat):Int)=0 from rfl,Nat.zero_or] at hor0
                      rw [h0,Nat.zero_testBit,show ((0:Nat):Int)=0 from rfl] at hHa
                      repeat' first|((first|refine Br.dec ?_ ?_|refine Br.eqi ?_ ?_)<;>intro h<;>try (exfalso;omega))|refine Z15 ?_|with_reducible exact trivial|(refine Br.mk ?_ ?_<;>intro h)|(refine BrN.mk (fun h => ?_) ?_)|(refine AltVC.mk ?_ ?_)
                      refine CallVC.eq hHa ?_
                      repeat' first|((first|refine Br.dec ?_ ?_|refine Br.eqi ?_ ?_)<;>intro h<;>try (exfalso;omega))|refine Z15 ?_|with_reducible exact trivial|(refine Br.mk ?_ ?_<;>intro h)|(refine BrN.mk (fun h => ?_) ?_)|(refine AltVC.mk ?_ ?_)
                      refine DrawVC.t ?_
                      repeat' first|((first|refine Br.dec ?_ ?_|refine Br.eqi ?_ ?_)<;>intro h<;>try (exfalso;omega))|refine Z15 ?_|with_reducible exact trivial|(refine Br.mk ?_ ?_<;>intro h)|(refine BrN.mk (fun h => ?_) ?_)|(refine AltVC.mk ?_ ?_)
                      · refine BrK.mk (fun r1 hr1 he1=>absurd ⟨(se_in hM3.si hr1 he1).2.1,(se_in hM3.si hr1 he1).2.2.1⟩ (hno r1 (se_in hM3.si hr1 he1).1)) (fun _ => ?_)
                        repeat' first|((first|refine Br.dec ?_ ?_|refine Br.eqi ?_ ?_)<;>intro h<;>try (exfalso;omega))|refine Z27 ?_|with_reducible exact trivial|(refine Br.mk ?_ ?_<;>intro h)|(refine BrN.mk (fun h => ?_) ?_)|(refine AltVC.mk ?_ ?_)
                        refine BrK.mk (fun r1 hr1 he1=>absurd ⟨(se_in hM3.si hr1 he1).2.1,(se_in hM3.si hr1 he1).2.2.1⟩ (hno r1 (se_in hM3.si hr1 he1).1)) (fun _ => ?_)
                        repeat' first|((first|refine Br.dec ?_ ?_|refine Br.eqi ?_ ?_)<;>intro h<;>try (exfalso;omega))|refine Z27 ?_|with_reducible exact trivial|(refine Br.mk ?_ ?_<;>intro h)|(refine BrN.mk (fun h => ?_) ?_)|(refine AltVC.mk ?_ ?_)
                        refine loopK.mk (L3++[⟨fr,j,2 ^ a⟩],upd2 t3 fr j (t3 fr j ||| 2 ^ a),true,j+1) Y0 ⟨hadd,by show fr≤j+1;omega,by show j+1≤w.length+1;omega,hwn,fun h=>by cases h⟩ (by show w.length+1 - (j+1)<w.length+1 - j;omega) ?_
                        (simp (disch:=first|omega|(simp only [vlen];first|done|omega)) only [Fits_u,Fits_m,Fits_nil,List.length_append,vse,vmk,hfr,ha,↓vAq,vBq,↓reduceIte,Nat.reduceBEq,Nat.reduceEqDiff,Nat.reduceLT,Nat.reduceLeDiff,Nat.reduceAdd,Nat.reduceMul,Nat.reduceSub,reduceCtorEq,Int.reduceToNat]<;>(repeat' first|rfl|apply And.intro))
                        all_goals first|rfl|skip
                      · refine BrK.mk (fun r1 hr1 he1=>absurd ⟨(se_in hM3.si hr1 he1).2.1,(se_in hM3.si hr1 he1).2.2.1⟩ (hno r1 (se_in hM3.si hr1 he1).1)) (fun _ => ?_)
                        repeat' first|((first|refine Br.dec ?_ ?_|refine Br.eqi ?_ ?_)<;>intro h<;>try (exfalso;omega))|refine Z27 ?_|with_reducible exact trivial|(refine Br.mk ?_ ?_<;>intro h)|(refine BrN.mk (fun h => ?_) ?_)|(refine AltVC.mk ?_ ?_)
                        refine BrK.mk (fun r1 hr1 he1 => ?_) (fun hnn2=>absurd ⟨rfl,rfl⟩ (hend hnn2))
                        obtain ⟨k1,k2,k3,hR1⟩:=se_in hsi0 hr1 he1
                        rw [h0,show ((0:Nat):Int)=0 from rfl] at hR1
                        repeat' first|((first|refine Br.dec ?_ ?_|refine Br.eqi ?_ ?_)<;>intro h<;>try (exfalso;omega))|(simp (disch:=first|omega|(simp only [vlen];first|done|omega)) only [vse,vmk,hfr,hR1,ha,hsh,hor0,↓vAq,vBq,↓reduceIte,Nat.reduceBEq,Nat.reduceEqDiff,Nat.reduceLT,Nat.reduceLeDiff,Nat.reduceAdd,Nat.reduceMul,Nat.reduceSub,reduceCtorEq,Int.reduceToNat])|(refine Br.mk ?_ ?_<;>intro h)|(refine BrN.mk (fun h => ?_) ?_)|(refine AltVC.mk ?_ ?_)
                        refine loopK.mk (L3++[⟨fr,j,2 ^ a⟩],upd2 t3 fr j (t3 fr j ||| 2 ^ a),true,j+1) Y0 ⟨hadd,by show fr≤j+1;omega,by show j+1≤w.length+1;omega,hwn,fun h=>by cases h⟩ (by show w.length+1 - (j+1)<w.length+1 - j;omega) ?_
                        (simp (disch:=first|omega|(simp only [vlen];first|done|omega)) only [Fits_u,Fits_m,Fits_nil,List.length_append,vse,vmk,hfr,ha,↓vAq,vBq,↓reduceIte,Nat.reduceBEq,Nat.reduceEqDiff,Nat.reduceLT,Nat.reduceLeDiff,Nat.reduceAdd,Nat.reduceMul,Nat.reduceSub,reduceCtorEq,Int.reduceToNat]<;>(repeat' first|rfl|apply And.intro))
                        all_goals first|rfl|skip
                · repeat' first|((first|refine Br.dec ?_ ?_|refine Br.eqi ?_ ?_)<;>intro h<;>try (exfalso;omega))|refine Z10 ?_|with_reducible exact trivial|(refine Br.mk ?_ ?_<;>intro h)|(refine BrN.mk (fun h => ?_) ?_)|(refine AltVC.mk ?_ ?_)
                  refine loopK.mk (L3,t3,g3,q+1) Y0 ⟨hM3,by show q+1≤g.rules.length;omega,hw3,fun h => ?_⟩ (by show g.rules.length - (q+1)<g.rules.length - q;omega) ?_
                  · obtain ⟨e1,e2,e3⟩:=hc3 h
                    subst e1
                    refine ⟨(hc2 e2).1,fun q' hq' => ?_⟩
                    by_cases e:q'=q
                    · subst e
                      intro j' h1 h2 h3
                      rw [ha,Int.toNat_natCast]
                      exact e3 j' h1 (by omega) h3
                    · exact (hc2 e2).2 q' (by have:q'<q+1:=hq';omega)
                  · (simp (disch:=first|omega|(simp only [vlen];first|done|omega)) only [Fits_u,Fits_m,Fits_nil,List.length_append,vse,hfr,↓vAq,vBq,↓reduceIte,Nat.reduceBEq,Nat.reduceEqDiff,Nat.reduceLT,Nat.reduceLeDiff,Nat.reduceAdd,Nat.reduceMul,Nat.reduceSub,reduceCtorEq,Int.reduceToNat]<;>(repeat' first|rfl|apply And.intro))
                    all_goals first|rfl|skip
            · repeat' first|((first|refine Br.dec ?_ ?_|refine Br.eqi ?_ ?_)<;>intro h<;>try (exfalso;omega))|refine Z10 ?_|with_reducible exact trivial|(refine Br.mk ?_ ?_<;>intro h)|(refine BrN.mk (fun h => ?_) ?_)|(refine AltVC.mk ?_ ?_)
              refine loopK.mk (L2,t2,g2,fr) Y0 ⟨hM2,by show fr≤w.length+1;omega,hw2,fun h i q' h1 h2 h3 => ?_⟩ (by show fr<fr+1;omega) ?_
              · by_cases e:i=fr
                · subst e;exact (hc2 h).2 q' (by omega)
                · exact (hc2 h).1 i q' (by have:fr≤i:=h1;omega) h2 h3
              · (simp (disch:=first|omega|(simp only [vlen];first|done|omega)) only [Fits_u,Fits_m,Fits_nil,List.length_append,vse,hfr,↓vAq,vBq,↓reduceIte,Nat.reduceBEq,Nat.reduceEqDiff,Nat.reduceLT,Nat.reduceLeDiff,Nat.reduceAdd,Nat.reduceMul,Nat.reduceSub,reduceCtorEq,Int.reduceToNat]<;>(repeat' first|rfl|apply And.intro))
                all_goals first|rfl|skip
end Go.Proofs.Ytcclchnbjpncdaa

namespace Go.Proofs.Ytcclchnbjpncdaa
open Go.Dm
theorem FinH_frz {n0:Nat} {R:D→List (Option Ob)→Prop} {s:S} {d:D} {τ:Nat} {ob:Ob} (hN:τ<s.N) (hM:s.M τ=some ob) (hf:ob.flat=true) (hk:ob.kd.isMap=false) (h:FinH n0 R (s.frz τ ob) (d.frz τ ob)):FinH n0 R s d:=by
  obtain ⟨s',g,l,h1,h2,h3,h4,h5⟩:=h
  exact ⟨s',_,l,.step _ _ _ _ _ (.frz s τ ob hN hM hf hk) h1,h2,h3,h4,h5⟩
end Go.Proofs.Ytcclchnbjpncdaa

namespace Go.Proofs.Ytcclchnbjpncdaa
open Go.Dm
theorem ov_oneT {g:Grammar} {w:List Int} {t:Nat→Nat→Nat→Bool} {x:Int} {i j:Nat} (h:i≤j):ovB g w t [x] i j=oneB g w t x i j:=by
  rw [Bool.eq_iff_iff,ovB_cons]
  constructor
  · rintro ⟨m,_,_,h1,h2⟩
    have:m=j:=by simpa [ovB] using h2
    rwa [this] at h1
  · intro h1
    exact ⟨j,h,Nat.le_refl _,h1,by simp [ovB]⟩
theorem one_tr {g:Grammar} {w:List Int} (hc:CC g w) {t:Nat→Nat→Nat} (h:Full g w t) {x:Int} {i j:Nat} (hi:i≤j) (hj:j≤w.length):oneB g w (tbB t) x i j=true ↔ trees g w x i j ≠ 0:=by
  rw [tr_der hc.p hi hj,← h [x] i j (by omega),ov_oneT hi]
def wkD (l:List Int) (i:Nat) (es:List Nat):List D:=[.sl 3 (tbl skD (wyS l i es))]
def kwD (x:Nat × List St):List D:=[iv .i64 x.1,.sl 3 (tbl skD x.2)]
def wmD (g:Grammar) (w:List Int) (s:St):List D:=[iv .i64 s.2.2,iv .i64 s.1,iv .i64 s.2.1,.sl 2 (tbl kwD (kwS g w s))]
def grO (g:Grammar) (w:List Int) (L:List SE) (Wk:List St):List Ob:=[⟨7,[[iv .i64 g.k,iv .i64 g.n,iv .i64 g.start,.sl 2 (tbl rulD g.rules),.sl 1 (i64s w),.mp 1,.mp 2]],false,false,.fix⟩,⟨3,tbl seD L,true,false,.map [.i64,.i64] true false⟩,⟨4,tbl (wmD g w) Wk,true,false,.map [.i64,.i64,.i64] true false⟩]
def grL (g:Grammar) (w:List Int) (L:List SE) (Wk:List St):List (Nat × Ob):=[(0,⟨7,[[iv .i64 g.k,iv .i64 g.n,iv .i64 g.start,.sl 2 (tbl rulD g.rules),.sl 1 (i64s w),.mp 1,.mp 2]],false,false,.fix⟩),(1,⟨3,tbl seD L,true,false,.map [.i64,.i64] true false⟩),(2,⟨4,tbl (wmD g w) Wk,true,false,.map [.i64,.i64,.i64] true false⟩)]
def rwR (g:Grammar) (w:List Int) (L:List SE) (Wk:List St) (l:List Int) (i j:Nat) (d:D) (o:List (Option Ob)):Prop:=d=.sl 1 (tbl (wkD l i) (splN g w l i j))∧o=(grO g w L Wk).map some
def vth:=And.intro vse<|And.intro vsr3<|And.intro @skD_mk @tbl_len
theorem FinH_flt {n0:Nat} {R:D→List (Option Ob)→Prop} {s:S} {d:D} {τ:Nat} {ob:Ob} (hN:τ<s.N) (hM:s.M τ=some ob) (hfl:ob.es.all (fun e=>e.all D.clo')=true) (h:FinH n0 R (s.setM τ ⟨ob.sz,ob.es,true,ob.ow,ob.kd⟩) d):FinH n0 R s d:=by
  obtain ⟨s',g,l,h1,h2,h3,h4,h5⟩:=h
  exact ⟨s',_,l,.step _ _ _ _ _ (.flt s τ ob hN hM hfl) h1,h2,h3,h4,h5⟩
set_option maxRecDepth 10000 in
set_option maxHeartbeats 4000000 in
theorem rows1_spec (g:Grammar) (w:List Int) (hc:CC g w) (L:List SE) (t:Nat→Nat→Nat) (hL:SI L t) (hF:Full g w t) (Wk:List St) (x:Int) (hx:0≤x∧x<g.k+g.n) (i j:Nat) (hij:i≤j) (hj:j≤w.length):Dm.SpecH Try.prog 30 [.ptr 0 7 0 0,.sl 1 (i64s [x]),.ag [iv .i64 i,iv .i64 j]] (grO g w L Wk) (rwR g w L Wk [x] i j):=by
  refine specH_of_vc mixed Try.func30 c30 (by rw [show Try.f30.ntmps=_ from Try.ntmps30];simp) ?_
  unfold m30 r30
  have hs:=@splN_one g w hc.p x i j
  have hw:=hc.w
  have hll:([x]:List Int).length=1:=rfl
  have hg0:([x]:List Int).getD 0 0=x:=rfl
  have ho:=one_tr hc hF (x:=x) hij hj
  have hD:=derives_spec g w ⟨hc.v,hc.w⟩ L t hL x i j hx hij hj
  unfold grO
  by_cases h:trees g w x i j=0
  · rw [if_pos h] at hs
    have hb:oneB g w (tbB t) x i j=false:=by
      cases hh:oneB g w (tbB t) x i j with
      | false=>rfl
      | true=>exact absurd h (ho.1 hh)
    rw [hb] at hD
    repeat' first|((first|refine Br.dec ?_ ?_|refine Br.eqi ?_ ?_)<;>intro h<;>try (exfalso;omega))|refine Z11 ?_|with_reducible exact trivial|(refine Br.mk ?_ ?_<;>intro h)|(refine BrN.mk (fun h => ?_) ?_)|(refine AltVC.mk ?_ ?_)
    refine CallVC.lendE [1] [.mp 0,.ag (graD g),.sl 1 (i64s w),iv .i64 x,.ag [iv .i64 i,iv .i64 j]] (spO L) hD (by simp) (by rfl) Y6 ?_
    rintro _ _ ⟨rfl,rfl⟩
    unfold spO
    repeat' first|((first|refine Br.dec ?_ ?_|refine Br.eqi ?_ ?_)<;>intro h<;>try (exfalso;omega))|refine Z11 ?_|with_reducible exact trivial|(refine Br.mk ?_ ?_<;>intro h)|(refine BrN.mk (fun h => ?_) ?_)|(refine AltVC.mk ?_ ?_)
    refine FinH_frz (τ:=5) (ob:=⟨1,[],true,false,.arr⟩) Y3 Y3 rfl rfl ?_
    repeat' first|((first|refine Br.dec ?_ ?_|refine Br.eqi ?_ ?_)<;>intro h<;>try (exfalso;omega))|refine Z19 ?_|with_reducible exact trivial|(refine Br.mk ?_ ?_<;>intro h)|(refine BrN.mk (fun h => ?_) ?_)|(refine AltVC.mk ?_ ?_)
    exact finH_mk ((grO g w L Wk).map some) (by simp [grO]) Y17 Y18 ⟨by rw [hs];(simp (disch:=first|omega|(simp only [vlen];first|done|omega)) only [vth,↓vAq,vBq,↓reduceIte,Nat.reduceBEq,Nat.reduceEqDiff,Nat.reduceLT,Nat.reduceLeDiff,Nat.reduceAdd,Nat.reduceMul,Nat.reduceSub,reduceCtorEq,Int.reduceToNat]);rfl,rfl⟩
  · rw [if_neg h] at hs
    have hb:oneB g w (tbB t) x i j=true:=ho.2 h
    rw [hb] at hD
    repeat' first|((first|refine Br.dec ?_ ?_|refine Br.eqi ?_ ?_)<;>intro h<;>try (exfalso;omega))|refine Z11 ?_|with_reducible exact trivial|(refine Br.mk ?_ ?_<;>intro h)|(refine BrN.mk (fun h => ?_) ?_)|(refine AltVC.mk ?_ ?_)
    refine CallVC.lendE [1] [.mp 0,.ag (graD g),.sl 1 (i64s w),iv .i64 x,.ag [iv .i64 i,iv .i64 j]] (spO L) hD (by simp) (by rfl) Y6 ?_
    rintro _ _ ⟨rfl,rfl⟩
    unfold spO
    repeat' first|((first|refine Br.dec ?_ ?_|refine Br.eqi ?_ ?_)<;>intro h<;>try (exfalso;omega))|refine Z11 ?_|with_reducible exact trivial|(refine Br.mk ?_ ?_<;>intro h)|(refine BrN.mk (fun h => ?_) ?_)|(refine AltVC.mk ?_ ?_)
    refine FinH_frz (τ:=5) (ob:=⟨3,[[.v (.int .i64 x),.v (.int .i64 i),.v (.int .i64 j)]],true,false,.arr⟩) Y3 Y3 rfl rfl ?_
    repeat' first|((first|refine Br.dec ?_ ?_|refine Br.eqi ?_ ?_)<;>intro h<;>try (exfalso;omega))|refine Z19 ?_|with_reducible exact trivial|(refine Br.mk ?_ ?_<;>intro h)|(refine BrN.mk (fun h => ?_) ?_)|(refine AltVC.mk ?_ ?_)
    refine FinH_flt (τ:=6) (ob:=⟨1,[[.sl 3 [[.v (.int .i64 x),.v (.int .i64 i),.v (.int .i64 j)]]]],false,false,.arr⟩) Y3 Y3 Y3 ?_
    repeat' first|((first|refine Br.dec ?_ ?_|refine Br.eqi ?_ ?_)<;>intro h<;>try (exfalso;omega))|refine Z19 ?_|with_reducible exact trivial|(refine Br.mk ?_ ?_<;>intro h)|(refine BrN.mk (fun h => ?_) ?_)|(refine AltVC.mk ?_ ?_)
    refine FinH_frz (τ:=6) (ob:=⟨1,[[.sl 3 [[.v (.int .i64 x),.v (.int .i64 i),.v (.int .i64 j)]]]],true,false,.arr⟩) Y3 Y3 rfl rfl ?_
    repeat' first|((first|refine Br.dec ?_ ?_|refine Br.eqi ?_ ?_)<;>intro h<;>try (exfalso;omega))|refine Z19 ?_|with_reducible exact trivial|(refine Br.mk ?_ ?_<;>intro h)|(refine BrN.mk (fun h => ?_) ?_)|(refine AltVC.mk ?_ ?_)
    exact finH_mk ((grO g w L Wk).map some) (by simp [grO]) Y17 Y18 ⟨by rw [hs];(simp (disch:=first|omega|(simp only [vlen];first|done|omega)) only [vth,↓vAq,vBq,↓reduceIte,Nat.reduceBEq,Nat.reduceEqDiff,Nat.reduceLT,Nat.reduceLeDiff,Nat.reduceAdd,Nat.reduceMul,Nat.reduceSub,reduceCtorEq,Int.reduceToNat]);rfl,rfl⟩
def rwP (g:Grammar) (w:List Int) (L:List SE) (l:List Int) (i j:Nat):Prop:=∀ Wk,Dm.SpecH Try.prog 30 [.ptr 0 7 0 0,.sl 1 (i64s l),.ag [iv .i64 i,iv .i64 j]] (grO g w L Wk) (rwR g w L Wk l i j)
theorem wk_app {l:List Int} {i:Nat} {Ls:List (List Nat)} {es:List Nat}:tbl (wkD l i) Ls++[[D.sl 3 (tbl skD (wyS l i es))]]=tbl (wkD l i) (Ls++[es]):=by rw [tbl_app];rfl
set_option maxRecDepth 10000 in
set_option maxHeartbeats 4000000 in
theorem rows2_spec (g : Grammar) (w : List Int) (hc : CC g w) (L : List SE) (t : Nat → Nat → Nat) (hL : SI L t) (hF : Full g w t) (Wk : List St) (x y : Int) (l : List Int) (hl : l.length ≤ 2) (hx : 0 ≤ x ∧ x < g.k + g.n) (i j : Nat) (hij : i ≤ j) (hj : j ≤ w.length) (ih : ∀ m, i < m → m < j → rwP g w L (y :: l) m j) : Dm.SpecH Try.prog 30 [.ptr 0 7 0 0, .sl 1 (i64s (x :: y :: l)), .ag [iv .i64 i, iv .i64 j]] (grO g w L Wk) (rwR g w L Wk (x :: y :: l) i j) := by
  refine specH_of_vc mixed Try.func30 c30 (by rw [show Try.f30.ntmps=_ from Try.ntmps30];simp) ?_
  unfold m30 r30
  have hw:=hc.w
  have hll:(x::y::l).length=l.length+2:=rfl
  have hg0:(x::y::l).getD 0 0=x:=rfl
  have hd1:(x::y::l).drop 1=y::l:=rfl
  unfold grO
  repeat' first|((first|refine Br.dec ?_ ?_|refine Br.eqi ?_ ?_)<;>intro h<;>try (exfalso;omega))|refine Z35 ?_|with_reducible exact trivial|(refine Br.mk ?_ ?_<;>intro h)|(refine BrN.mk (fun h => ?_) ?_)|(refine AltVC.mk ?_ ?_)
  refine LoopVC.mk (X:=Nat) (fun q=>[(0,.ptr 0 7 0 0),(5,.ptr 3 2 0 0),(7,.ref 5 1 0 (sp2 g w x (y::l) i j q).length),(8,iv .i64 (i+1+q:Nat))]) (fun q=>grL g w L Wk++[(3,⟨2,[[iv .i64 i,iv .i64 j]],true,false,.fix⟩),(5,⟨1,tbl (wkD (x::y::l) i) (sp2 g w x (y::l) i j q),true,false,.arr⟩)]) (fun q=>j - (i+1) - q) (fun q=>q≤j - (i+1)∧(sp2 g w x (y::l) i j q).length≤2197 * q) 0 ⟨Nat.zero_le _,by simp [sp2]⟩ ?_ ?_
  · unfold grL
    (simp (disch:=first|omega|(simp only [vlen];first|done|omega)) only [Fits_u,Fits_m,Fits_nil,List.length_append,vth,↓vAq,vBq,↓reduceIte,Nat.reduceBEq,Nat.reduceEqDiff,Nat.reduceLT,Nat.reduceLeDiff,Nat.reduceAdd,Nat.reduceMul,Nat.reduceSub,reduceCtorEq,Int.reduceToNat]<;>(repeat' first|rfl|apply And.intro))
    all_goals first|rfl|trace_state
  · rintro q ⟨hq, hql⟩
    unfold grL
    by_cases hqj:i+1+q<j
    · have hsu := @sp2_succ g w x (y :: l) i j q
      have hsm:=splN_small (g:=g) (w:=w) (l:=y::l) (i:=i+1+q) (j:=j) (by simp;omega) (by omega)
      have ho:=one_tr hc hF (x:=x) (i:=i) (j:=i+1+q) (by omega) (by omega)
      have hD:=derives_spec g w ⟨hc.v,hc.w⟩ L t hL x i (i+1+q) hx (by omega) (by omega)
      by_cases h:trees g w x i (i+1+q)=0
      · rw [if_pos h,List.append_nil] at hsu
        have hb:oneB g w (tbB t) x i (i+1+q)=false:=by
          cases hh:oneB g w (tbB t) x i (i+1+q) with
          | false=>rfl
          | true=>exact absurd h (ho.1 hh)
        rw [hb] at hD
        repeat' first|((first|refine Br.dec ?_ ?_|refine Br.eqi ?_ ?_)<;>intro h<;>try (exfalso;omega))|refine Z11 ?_|with_reducible exact trivial|(refine Br.mk ?_ ?_<;>intro h)|(refine BrN.mk (fun h => ?_) ?_)|(refine AltVC.mk ?_ ?_)
        refine CallVC.lendE [1] [.mp 0,.ag (graD g),.sl 1 (i64s w),iv .i64 x,.ag [iv .i64 i,iv .i64 (i+1+q:Nat)]] (spO L) hD (by simp) (by rfl) Y6 ?_
        rintro _ _ ⟨rfl,rfl⟩
        unfold spO
        repeat' first|((first|refine Br.dec ?_ ?_|refine Br.eqi ?_ ?_)<;>intro h<;>try (exfalso;omega))|refine Z11 ?_|with_reducible exact trivial|(refine Br.mk ?_ ?_<;>intro h)|(refine BrN.mk (fun h => ?_) ?_)|(refine AltVC.mk ?_ ?_)
        refine loopK.mk (q+1) Y3 ⟨by omega,by rw [hsu];omega⟩ (by omega) ?_
        rw [hsu]
        (simp (disch:=first|omega|(simp only [vlen];first|done|omega)) only [Fits_u,Fits_m,Fits_nil,List.length_append,vth,↓vAq,vBq,↓reduceIte,Nat.reduceBEq,Nat.reduceEqDiff,Nat.reduceLT,Nat.reduceLeDiff,Nat.reduceAdd,Nat.reduceMul,Nat.reduceSub,reduceCtorEq,Int.reduceToNat]<;>(repeat' first|rfl|apply And.intro))
        all_goals first|rfl|trace_state
      · rw [if_neg h] at hsu
        have hb:oneB g w (tbB t) x i (i+1+q)=true:=ho.2 h
        rw [hb] at hD
        repeat' first|((first|refine Br.dec ?_ ?_|refine Br.eqi ?_ ?_)<;>intro h<;>try (exfalso;omega))|refine Z11 ?_|with_reducible exact trivial|(refine Br.mk ?_ ?_<;>intro h)|(refine BrN.mk (fun h => ?_) ?_)|(refine AltVC.mk ?_ ?_)
        refine CallVC.lendE [1] [.mp 0,.ag (graD g),.sl 1 (i64s w),iv .i64 x,.ag [iv .i64 i,iv .i64 (i+1+q:Nat)]] (spO L) hD (by simp) (by rfl) Y6 ?_
        rintro _ _ ⟨rfl,rfl⟩
        unfold spO
        repeat' first|((first|refine Br.dec ?_ ?_|refine Br.eqi ?_ ?_)<;>intro h<;>try (exfalso;omega))|(simp (disch:=first|omega|(simp only [vlen];first|done|omega)) only [vth,hll,hg0,hd1,↓vAq,vBq,↓reduceIte,Nat.reduceBEq,Nat.reduceEqDiff,Nat.reduceLT,Nat.reduceLeDiff,Nat.reduceAdd,Nat.reduceMul,Nat.reduceSub,reduceCtorEq,Int.reduceToNat])|(refine Br.mk ?_ ?_<;>intro h)|(refine BrN.mk (fun h => ?_) ?_)|(refine AltVC.mk ?_ ?_)
        refine CallVC.lendE [0,1,2] [.ptr 0 7 0 0,.sl 1 (i64s (y::l)),.ag [iv .i64 (i+1+q:Nat),iv .i64 j]] (grO g w L Wk) (ih _ (by omega) (by omega) Wk) (by simp) (by rfl) Y19 ?_
        rintro _ _ ⟨rfl,rfl⟩
        unfold grO
        repeat' first|((first|refine Br.dec ?_ ?_|refine Br.eqi ?_ ?_)<;>intro h<;>try (exfalso;omega))|refine Z11 ?_|with_reducible exact trivial|(refine Br.mk ?_ ?_<;>intro h)|(refine BrN.mk (fun h => ?_) ?_)|(refine AltVC.mk ?_ ?_)
        refine LoopVC.mk (X:=Nat) (fun c=>[(0,.ptr 0 7 0 0),(5,.ptr 3 2 0 0),(9,.ptr 6 2 0 0),(7,.ref 5 1 0 ((sp2 g w x (y::l) i j q).length+c)),(79,iv .i64 c)]) (fun c=>grL g w L Wk++[(3,⟨2,[[iv .i64 i,iv .i64 j]],true,false,.fix⟩),(5,⟨1,tbl (wkD (x::y::l) i) (sp2 g w x (y::l) i j q++((splN g w (y::l) (i+1+q) j).take c).map fun r=>(i+1+q)::r),true,false,.arr⟩),(6,⟨2,[[iv .i64 i,iv .i64 (i+1+q:Nat)]],true,false,.fix⟩)]) (fun c=>(splN g w (y::l) (i+1+q) j).length - c) (fun c=>c≤(splN g w (y::l) (i+1+q) j).length) 0 (Nat.zero_le _) ?_ ?_
        · unfold grL
          simp only [List.take_zero,List.map_nil,List.append_nil]
          (simp (disch:=first|omega|(simp only [vlen];first|done|omega)) only [Fits_u,Fits_m,Fits_nil,List.length_append,vth,↓vAq,vBq,↓reduceIte,Nat.reduceBEq,Nat.reduceEqDiff,Nat.reduceLT,Nat.reduceLeDiff,Nat.reduceAdd,Nat.reduceMul,Nat.reduceSub,reduceCtorEq,Int.reduceToNat]<;>(repeat' first|rfl|apply And.intro))
          all_goals first|rfl|trace_state
        · intro c hcl
          unfold grL
          have hlc:(sp2 g w x (y::l) i j q++((splN g w (y::l) (i+1+q) j).take c).map fun r=>(i+1+q)::r).length=(sp2 g w x (y::l) i j q).length+c:=by rw [List.length_append,List.length_map,List.length_take];omega
          by_cases hcn:c<(splN g w (y::l) (i+1+q) j).length
          · have htc:sp2 g w x (y::l) i j q++((splN g w (y::l) (i+1+q) j).take (c+1)).map (fun r=>(i+1+q)::r)=(sp2 g w x (y::l) i j q++((splN g w (y::l) (i+1+q) j).take c).map fun r=>(i+1+q)::r)++[(i+1+q)::(splN g w (y::l) (i+1+q) j).getD c default]:=by
              rw [List.take_add_one,List.getElem?_eq_getElem hcn,List.map_append,List.append_assoc]
              simp [List.getD,hcn]
            have hmem:=getD_mem' (l:=splN g w (y::l) (i+1+q) j) (i:=c) hcn
            have hwl:=splN_wlen hmem
            generalize hLs:(sp2 g w x (y::l) i j q++((splN g w (y::l) (i+1+q) j).take c).map fun r=>(i+1+q)::r)=Ls at hlc htc ⊢
            generalize hes:(splN g w (y::l) (i+1+q) j).getD c default=es at htc hwl ⊢
            have hwsl:(wyS (y::l) (i+1+q) es).length≤3:=by
              have:∀ (l:List Int) (i:Nat) (es:List Nat),(wyS l i es).length≤l.length:=fun l=>by
                induction l with
                | nil=>intro i es;simp [wyS]
                | cons x l ih=>intro i es;cases es with
                  | nil=>simp [wyS]
                  | cons e es=>simp only [wyS,List.length_cons];have:=ih e es;omega
              have:=this (y::l) (i+1+q) es
              simp only [List.length_cons] at this;omega
            have hCo:=concat_sk [[(i,i+1+q,x)],wyS (y::l) (i+1+q) es] (by simp) (by simp;omega) (by simp)
            have hfl:[[(i,i+1+q,x)],wyS (y::l) (i+1+q) es].flatten=wyS (x::y::l) i ((i+1+q)::es):=by simp [wyS]
            rw [hfl] at hCo
            have hwk:wkD (y::l) (i+1+q) es=[.sl 3 (tbl skD (wyS (y::l) (i+1+q) es))]:=rfl
            repeat' first|((first|refine Br.dec ?_ ?_|refine Br.eqi ?_ ?_)<;>intro h<;>try (exfalso;omega))|refine Z23 ?_|with_reducible exact trivial|(refine Br.mk ?_ ?_<;>intro h)|(refine BrN.mk (fun h => ?_) ?_)|(refine AltVC.mk ?_ ?_)
            refine CallVC.frz 7 ?_
            repeat' first|((first|refine Br.dec ?_ ?_|refine Br.eqi ?_ ?_)<;>intro h<;>try (exfalso;omega))|refine Z23 ?_|with_reducible exact trivial|(refine Br.mk ?_ ?_<;>intro h)|(refine BrN.mk (fun h => ?_) ?_)|(refine AltVC.mk ?_ ?_)
            refine CallVC.fl 8 ?_
            repeat' first|((first|refine Br.dec ?_ ?_|refine Br.eqi ?_ ?_)<;>intro h<;>try (exfalso;omega))|refine Z23 ?_|with_reducible exact trivial|(refine Br.mk ?_ ?_<;>intro h)|(refine BrN.mk (fun h => ?_) ?_)|(refine AltVC.mk ?_ ?_)
            refine CallVC.frz 8 ?_
            repeat' first|((first|refine Br.dec ?_ ?_|refine Br.eqi ?_ ?_)<;>intro h<;>try (exfalso;omega))|refine Z23 ?_|with_reducible exact trivial|(refine Br.mk ?_ ?_<;>intro h)|(refine BrN.mk (fun h => ?_) ?_)|(refine AltVC.mk ?_ ?_)
            refine CallVC.eq hCo ?_
            repeat' first|((first|refine Br.dec ?_ ?_|refine Br.eqi ?_ ?_)<;>intro h<;>try (exfalso;omega))|(simp (disch:=first|omega|(simp only [vlen];first|done|omega)) only [vth,hll,hg0,hes,hwk,hlc,↓vAq,vBq,↓reduceIte,Nat.reduceBEq,Nat.reduceEqDiff,Nat.reduceLT,Nat.reduceLeDiff,Nat.reduceAdd,Nat.reduceMul,Nat.reduceSub,reduceCtorEq,Int.reduceToNat])|(refine Br.mk ?_ ?_<;>intro h)|(refine BrN.mk (fun h => ?_) ?_)|(refine AltVC.mk ?_ ?_)
            refine loopK.mk (c+1) Y3 (by omega) (by omega) ?_
            rw [htc,← wk_app]
            (simp (disch:=first|omega|(simp only [vlen];first|done|omega)) only [Fits_u,Fits_m,Fits_nil,List.length_append,vth,hlc,↓vAq,vBq,↓reduceIte,Nat.reduceBEq,Nat.reduceEqDiff,Nat.reduceLT,Nat.reduceLeDiff,Nat.reduceAdd,Nat.reduceMul,Nat.reduceSub,reduceCtorEq,Int.reduceToNat]<;>(repeat' first|rfl|apply And.intro))
            all_goals first|rfl|trace_state
          · have hce:c=(splN g w (y::l) (i+1+q) j).length:=by omega
            subst hce
            rw [List.take_length] at hlc ⊢
            rw [← hsu] at hlc ⊢
            repeat' first|((first|refine Br.dec ?_ ?_|refine Br.eqi ?_ ?_)<;>intro h<;>try (exfalso;omega))|refine Z11 ?_|with_reducible exact trivial|(refine Br.mk ?_ ?_<;>intro h)|(refine BrN.mk (fun h => ?_) ?_)|(refine AltVC.mk ?_ ?_)
            refine loopK.mk (q+1) Y3 ⟨by omega,by omega⟩ (by omega) ?_
            rw [hlc]
            (simp (disch:=first|omega|(simp only [vlen];first|done|omega)) only [Fits_u,Fits_m,Fits_nil,List.length_append,vth,↓vAq,vBq,↓reduceIte,Nat.reduceBEq,Nat.reduceEqDiff,Nat.reduceLT,Nat.reduceLeDiff,Nat.reduceAdd,Nat.reduceMul,Nat.reduceSub,reduceCtorEq,Int.reduceToNat]<;>(repeat' first|rfl|apply And.intro))
            all_goals first|rfl|trace_state
    · have hqe:q=j - (i+1):=by omega
      subst hqe
      repeat' first|((first|refine Br.dec ?_ ?_|refine Br.eqi ?_ ?_)<;>intro h<;>try (exfalso;omega))|refine Z35 ?_|with_reducible exact trivial|(refine Br.mk ?_ ?_<;>intro h)|(refine BrN.mk (fun h => ?_) ?_)|(refine AltVC.mk ?_ ?_)
      refine FinH_frz (τ:=5) (ob:=⟨1,tbl (wkD (x::y::l) i) (sp2 g w x (y::l) i j (j - (i+1))),true,false,.arr⟩) Y3 Y3 rfl rfl ?_
      repeat' first|((first|refine Br.dec ?_ ?_|refine Br.eqi ?_ ?_)<;>intro h<;>try (exfalso;omega))|refine Z19 ?_|with_reducible exact trivial|(refine Br.mk ?_ ?_<;>intro h)|(refine BrN.mk (fun h => ?_) ?_)|(refine AltVC.mk ?_ ?_)
      exact finH_mk ((grO g w L Wk).map some) (by simp [grO]) Y17 Y18 ⟨by rw [splN_more hc.p];(simp (disch:=first|omega|(simp only [vlen];first|done|omega)) only [vth,↓vAq,vBq,↓reduceIte,Nat.reduceBEq,Nat.reduceEqDiff,Nat.reduceLT,Nat.reduceLeDiff,Nat.reduceAdd,Nat.reduceMul,Nat.reduceSub,reduceCtorEq,Int.reduceToNat]),rfl⟩
theorem rows_all (g:Grammar) (w:List Int) (hc:CC g w) (L:List SE) (t:Nat→Nat→Nat) (hL:SI L t) (hF:Full g w t):∀ (l:List Int),l ≠ []→l.length≤4→(∀ y,y ∈ l→0≤y∧y<g.k+g.n)→∀ i j,i≤j→j≤w.length→rwP g w L l i j
  | [],h,_,_,_,_,_,_=>absurd rfl h
  | [x],_,_,hx,i,j,hij,hj=>fun Wk=>rows1_spec g w hc L t hL hF Wk x (hx x (by simp)) i j hij hj
  | x::y::l,_,hl,hx,i,j,hij,hj=>fun Wk=>rows2_spec g w hc L t hL hF Wk x y l (by simp at hl;omega) (hx x (by simp)) i j hij hj (fun m h1 h2=>rows_all g w hc L t hL hF (y::l) (by simp) (by simp at hl ⊢;omega) (fun z hz=>hx z (List.mem_cons_of_mem _ hz)) m j (by omega) hj)
end Go.Proofs.Ytcclchnbjpncdaa

namespace Go.Proofs.Ytcclchnbjpncdaa
open Go.Dm
structure GI (g:Grammar) (w:List Int) (s:St) (Wk E:List St):Prop where
  nd:(Wk++E).Nodup
  mem:s ∈ Wk++E
  sd:∀ e,e ∈ E→TRc g w s e
  cl:∀ e,e ∈ E→KidsIn g w (Wk++E) e
structure GJ (g:Grammar) (w:List Int) (s:St) (Wk E:List St):Prop where
  nd:(Wk++s::E).Nodup
  sd:∀ e,e ∈ E→TRc g w s e
  cl:∀ e,e ∈ E→KidsIn g w (Wk++s::E) e
theorem GJ.step {g:Grammar} {w:List Int} {s p:St} {Wk E E3:List St} (h:GJ g w s Wk E) (hp:TRc g w s p) (k:GI g w p (Wk++s::E) E3):GJ g w s Wk (E++E3)∧p ∈ Wk++s::(E++E3):=by
  have e:Wk++s::E++E3=Wk++s::(E++E3):=by simp
  have h1:=k.nd;have h2:=k.mem;have h3:=k.cl
  rw [e] at h1 h2 h3
  refine ⟨⟨h1,fun x hx => ?_,fun x hx => ?_⟩,h2⟩
  · rcases List.mem_append.1 hx with hx|hx
    · exact h.sd x hx
    · exact hp.trans (k.sd x hx)
  · rcases List.mem_append.1 hx with hx|hx
    · intro y hy q hq
      have:=h.cl x hx y hy q hq
      rw [← e]
      exact List.mem_append_left _ this
    · exact h3 x hx
theorem GJ.fin {g:Grammar} {w:List Int} {s:St} {Wk E:List St} (h:GJ g w s Wk E) (hk:KidsIn g w (Wk++s::E) s):GI g w s Wk (s::E) :=
  ⟨h.nd,by simp,fun e he=>by
    rcases List.mem_cons.1 he with rfl|he
    · exact .root
    · exact h.sd e he,fun e he=>by
    rcases List.mem_cons.1 he with rfl|he
    · exact hk
    · exact h.cl e he⟩
theorem GI.clos {g:Grammar} {w:List Int} {s:St} {E:List St} (h:GI g w s [] E):Clos g w s E:=⟨by simpa using h.nd,by simpa using h.mem,h.sd,fun e he=>by simpa using h.cl e he⟩
theorem wm_row {g:Grammar} {w:List Int} {Wk:List St} {r:Nat} (h:r<Wk.length):(tbl (wmD g w) Wk).getD r []=wmD g w (Wk.getD r default):=tbl_get h
theorem wm_in {g:Grammar} {w:List Int} {Wk:List St} {r:Nat} {s:St} (hr:r<(tbl (wmD g w) Wk).length) (he:Agr (((tbl (wmD g w) Wk).getD r []).take 3) [.v (.int .i64 s.2.2),.v (.int .i64 s.1),.v (.int .i64 s.2.1)]):s ∈ Wk∧(tbl (wmD g w) Wk).getD r []=wmD g w s:=by
  rw [tbl_len] at hr
  rw [wm_row hr] at he ⊢
  unfold wmD at he
  simp only [List.take_succ_cons,List.take_zero,Agr_v,D.v.injEq,Value.int.injEq,true_and,Int.natCast_inj] at he
  have e:Wk.getD r default=s:=by
    obtain ⟨a,b,x⟩:=s
    simp only at he
    have h1:∀ y:St,y.2.2=x→y.1=a→y.2.1=b→y=(a,b,x):=fun y h1 h2 h3=>by
      obtain ⟨_,_,_⟩:=y
      simp only at h1 h2 h3
      rw [h1,h2,h3]
    exact h1 _ he.1 he.2.1 he.2.2.1
  refine ⟨?_,by rw [e]⟩
  rw [← e];exact getD_mem' hr
theorem wm_out {g:Grammar} {w:List Int} {Wk:List St} {s:St} (hn:∀ r,r<(tbl (wmD g w) Wk).length→((tbl (wmD g w) Wk).getD r []).take 3 ≠ [.v (.int .i64 s.2.2),.v (.int .i64 s.1),.v (.int .i64 s.2.1)]):s ∉ Wk:=fun h=>by
  obtain ⟨r,hr,e⟩:=List.getElem_of_mem h
  refine hn r (by rw [tbl_len];exact hr) ?_
  rw [wm_row hr]
  have:Wk.getD r default=s:=by simp [List.getD,hr,e]
  rw [this];rfl
theorem wm_app {g:Grammar} {w:List Int} {Wk:List St} {s:St}:tbl (wmD g w) Wk++[[D.v (.int .i64 s.2.2),D.v (.int .i64 s.1),D.v (.int .i64 s.2.1),D.sl 2 (tbl kwD (kwS g w s))]]=tbl (wmD g w) (Wk++[s]):=by rw [tbl_app];rfl
theorem kw_app {Ls:List (Nat × List St)} {q:Nat} {l:List St}:tbl kwD Ls++[[D.v (.int .i64 q),D.sl 3 (tbl skD l)]]=tbl kwD (Ls++[(q,l)]):=by rw [tbl_app];rfl
theorem kwQ_len {g:Grammar} {w:List Int} (hc:CC g w) {s:St} (hs:OkS g w s) {q:Nat} (hq:q<g.rules.length):(splN g w (g.rules.getD q default).right s.1 s.2.1).length≤28561:=by
  have h1:=hc.v.long _ (getD_mem' (l:=g.rules) (i:=q) hq)
  have h2:=hc.w;have h3:=hs.hi
  exact Nat.le_trans (splN_len (by omega)) (Nat.le_trans (Nat.pow_le_pow_right (by omega) h1) (by decide))
theorem wyS_le:∀ {l:List Int} {i:Nat} {es:List Nat},(wyS l i es).length≤l.length
  | [],_,_=>by simp [wyS]
  | _::_,_,[]=>by simp [wyS]
  | _::l,_,e::es=>by simp only [wyS,List.length_cons];have:=@wyS_le l e es;omega
theorem kw_len {g:Grammar} {w:List Int} (hc:CC g w) {s:St} {x:Nat × List St} (hx:x ∈ kwS g w s):x.2.length≤4:=by
  obtain ⟨q,es,h1,h2,h3,rfl⟩:=kw_mem.1 hx
  exact Nat.le_trans wyS_le (hc.v.long _ (getD_mem' (l:=g.rules) (i:=q) h1))
def grR (g:Grammar) (w:List Int) (L:List SE) (Wk:List St) (s:St) (d:D) (o:List (Option Ob)):Prop:=d=.tu [] ∧ ∃ E,o=(grO g w L (Wk++E)).map some∧GI g w s Wk E
def grP (g:Grammar) (w:List Int) (L:List SE) (s:St):Prop:=∀ Wk,Wk.Nodup→Dm.SpecH Try.prog 13 [.ptr 0 7 0 0,.ag (skD s)] (grO g w L Wk) (grR g w L Wk s)
theorem skD_eq {s:St}:skD s=[D.v (.int .i64 s.2.2),D.v (.int .i64 s.1),D.v (.int .i64 s.2.1)]:=(rfl)
theorem kwD_eq {x:Nat × List St}:kwD x=[D.v (.int .i64 x.1),D.sl 3 (tbl skD x.2)]:=(rfl)
theorem wmD_eq {g:Grammar} {w:List Int} {s:St}:wmD g w s=[D.v (.int .i64 s.2.2),D.v (.int .i64 s.1),D.v (.int .i64 s.2.1),D.sl 2 (tbl kwD (kwS g w s))]:=(rfl)
theorem wkD_e {l:List Int} {i:Nat} {es:List Nat}:wkD l i es=[D.sl 3 (tbl skD (wyS l i es))]:=(rfl)
theorem wm_frz {g:Grammar} {w:List Int} {Wk:List St} {τ:Nat} {ob:Ob}:(tbl (wmD g w) Wk).map (fun e=>e.map (D.frz τ ob))=tbl (wmD g w) Wk:=by simp [tbl,wmD,frz_sl,frz_v,iv]
theorem wm_kill {g:Grammar} {w:List Int} {Wk:List St} {τ:Nat}:(tbl (wmD g w) Wk).map (fun e=>e.map (D.kill τ))=tbl (wmD g w) Wk:=by simp [tbl,wmD,kill_sl,kill_v,iv]
theorem wm_clo {g:Grammar} {w:List Int} {Wk:List St}:(tbl (wmD g w) Wk).all (fun e=>e.all D.clo')=true:=by simp [tbl,wmD,clo'_sl,clo'_v,iv]
def vtg:=And.intro vse<|And.intro @wm_frz<|And.intro @wm_kill<|And.intro @wm_clo<|And.intro @wm_app<|And.intro vsr3<|And.intro @skD_eq<|And.intro @wmD_eq<|And.intro @kwD_eq<|And.intro @wkD_e @tbl_len
set_option maxRecDepth 10000 in
set_option maxHeartbeats 4000000 in
theorem grow1_spec (g : Grammar) (w : List Int) (hc : CC g w) (L : List SE) (t : Nat → Nat → Nat) (hL : SI L t) (hF : Full g w t) (s : St) (hs : OkS g w s) (ih : ∀ p, OkS g w p → muS g p < muS g s → grP g w L p) (Wk : List St) (hW : Wk.Nodup) : Dm.SpecH Try.prog 13 [.ptr 0 7 0 0, .ag (skD s)] (grO g w L Wk) (grR g w L Wk s) := by
  refine specH_of_vc mixed Try.func13 c13 (by rw [show Try.f13.ntmps=_ from Try.ntmps13];simp) ?_
  unfold m13 r13
  have hw:=hc.w
  have hlen:=hc.v.len
  have hk:=hc.v.k
  have hn:=hc.v.n
  have h1:=hs.le
  have h2:=hs.hi
  have h3:=hs.ge
  have h4:=hs.lt
  have hleft:∀ q,q<g.rules.length→0≤(g.rules.getD q default).left∧(g.rules.getD q default).left<g.n:=fun q hq=>hc.v.left _ (getD_mem' hq)
  unfold grO
  repeat' first|((first|refine Br.dec ?_ ?_|refine Br.eqi ?_ ?_)<;>intro h<;>try (exfalso;omega))|refine Z6 ?_|with_reducible exact trivial|(refine Br.mk ?_ ?_<;>intro h)|(refine BrN.mk (fun h => ?_) ?_)|(refine AltVC.mk ?_ ?_)
  refine BrK.mk (fun r hr he => ?_) (fun hnn => ?_)
  · obtain ⟨hm,hR⟩:=wm_in hr he
    repeat' first|((first|refine Br.dec ?_ ?_|refine Br.eqi ?_ ?_)<;>intro h<;>try (exfalso;omega))|(simp (disch:=first|omega|(simp only [vlen];first|done|omega)) only [vtg,hR,↓vAq,vBq,↓reduceIte,Nat.reduceBEq,Nat.reduceEqDiff,Nat.reduceLT,Nat.reduceLeDiff,Nat.reduceAdd,Nat.reduceMul,Nat.reduceSub,reduceCtorEq,Int.reduceToNat])|(refine Br.mk ?_ ?_<;>intro h)|(refine BrN.mk (fun h => ?_) ?_)|(refine AltVC.mk ?_ ?_)
    exact finH_mk ((grO g w L Wk).map some) (by simp [grO]) Y24 Y25 ⟨by simp (disch:=first|omega|(simp only [vlen];first|done|omega)) only [vtg,↓vAq,vBq,↓reduceIte,Nat.reduceBEq,Nat.reduceEqDiff,Nat.reduceLT,Nat.reduceLeDiff,Nat.reduceAdd,Nat.reduceMul,Nat.reduceSub,reduceCtorEq,Int.reduceToNat],[],by rw [List.append_nil],⟨by simpa using hW,by simpa using hm,fun e he=>absurd he (by simp),fun e he=>absurd he (by simp)⟩⟩
  · have hout := wm_out hnn
    repeat' first|((first|refine Br.dec ?_ ?_|refine Br.eqi ?_ ?_)<;>intro h<;>try (exfalso;omega))|refine Z6 ?_|with_reducible exact trivial|(refine Br.mk ?_ ?_<;>intro h)|(refine BrN.mk (fun h => ?_) ?_)|(refine AltVC.mk ?_ ?_)
    refine LoopVC.mk (X:=Nat) (fun q=>[(0,.ptr 0 7 0 0),(3,.ptr 3 3 0 0),(6,.ref 4 2 0 (kwN g w s q).length),(31,iv .i64 q)]) (fun q=>grL g w L Wk++[(3,⟨3,[[iv .i64 s.2.2,iv .i64 s.1,iv .i64 s.2.1]],true,false,.fix⟩),(4,⟨2,tbl kwD (kwN g w s q),true,false,.arr⟩)]) (fun q=>g.rules.length - q) (fun q=>q≤g.rules.length∧(kwN g w s q).length≤28561 * q) 0 ⟨Nat.zero_le _,by simp [kwN]⟩ ?_ ?_
    · unfold grL
      (simp (disch:=first|omega|(simp only [vlen];first|done|omega)) only [Fits_u,Fits_m,Fits_nil,List.length_append,vtg,↓vAq,vBq,↓reduceIte,Nat.reduceBEq,Nat.reduceEqDiff,Nat.reduceLT,Nat.reduceLeDiff,Nat.reduceAdd,Nat.reduceMul,Nat.reduceSub,reduceCtorEq,Int.reduceToNat]<;>(repeat' first|rfl|apply And.intro))
      all_goals first|rfl|trace_state
    · rintro q ⟨hq, hql⟩
      unfold grL
      by_cases hqn:q<g.rules.length
      · have hlq:=hleft q hqn
        have hmem:=getD_mem' (l:=g.rules) (i:=q) hqn
        have hmr:=hc.v.long _ hmem
        have hpr:=(hc.p _ hmem).1
        have hrt:=hc.v.right _ hmem
        have hsl:=kwQ_len hc hs hqn
        have hsu:=@kwN_succ g w s q
        by_cases hlx:g.k+(g.rules.getD q default).left=s.2.2
        · have hR:=rows_all g w hc L t hL hF (g.rules.getD q default).right hpr hmr hrt s.1 s.2.1 h1 h2 Wk
          unfold kwQ at hsu
          rw [if_pos hlx] at hsu
          repeat' first|((first|refine Br.dec ?_ ?_|refine Br.eqi ?_ ?_)<;>intro h<;>try (exfalso;omega))|refine Z6 ?_|with_reducible exact trivial|(refine Br.mk ?_ ?_<;>intro h)|(refine BrN.mk (fun h => ?_) ?_)|(refine AltVC.mk ?_ ?_)
          refine CallVC.lendE [0,1,2] [.ptr 0 7 0 0,.sl 1 (i64s (g.rules.getD q default).right),.ag [iv .i64 s.1,iv .i64 s.2.1]] (grO g w L Wk) hR (by simp) (by rfl) Y19 ?_
          rintro _ _ ⟨rfl,rfl⟩
          unfold grO
          repeat' first|((first|refine Br.dec ?_ ?_|refine Br.eqi ?_ ?_)<;>intro h<;>try (exfalso;omega))|refine Z6 ?_|with_reducible exact trivial|(refine Br.mk ?_ ?_<;>intro h)|(refine BrN.mk (fun h => ?_) ?_)|(refine AltVC.mk ?_ ?_)
          refine LoopVC.mk (X:=Nat) (fun c=>[(0,.ptr 0 7 0 0),(3,.ptr 3 3 0 0),(6,.ref 4 2 0 ((kwN g w s q).length+c)),(54,iv .i64 c)]) (fun c=>grL g w L Wk++[(3,⟨3,[[iv .i64 s.2.2,iv .i64 s.1,iv .i64 s.2.1]],true,false,.fix⟩),(4,⟨2,tbl kwD (kwN g w s q++((splN g w (g.rules.getD q default).right s.1 s.2.1).take c).map fun es=>(q,wyS (g.rules.getD q default).right s.1 es)),true,false,.arr⟩)]) (fun c=>(splN g w (g.rules.getD q default).right s.1 s.2.1).length - c) (fun c=>c≤(splN g w (g.rules.getD q default).right s.1 s.2.1).length) 0 (Nat.zero_le _) ?_ ?_
          · unfold grL
            simp only [List.take_zero,List.map_nil,List.append_nil]
            (simp (disch:=first|omega|(simp only [vlen];first|done|omega)) only [Fits_u,Fits_m,Fits_nil,List.length_append,vtg,↓vAq,vBq,↓reduceIte,Nat.reduceBEq,Nat.reduceEqDiff,Nat.reduceLT,Nat.reduceLeDiff,Nat.reduceAdd,Nat.reduceMul,Nat.reduceSub,reduceCtorEq,Int.reduceToNat]<;>(repeat' first|rfl|apply And.intro))
            all_goals first|rfl|trace_state
          · intro c hcl
            unfold grL
            have hlc:(kwN g w s q++((splN g w (g.rules.getD q default).right s.1 s.2.1).take c).map fun es=>(q,wyS (g.rules.getD q default).right s.1 es)).length=(kwN g w s q).length+c:=by rw [List.length_append,List.length_map,List.length_take];omega
            generalize hspl:splN g w (g.rules.getD q default).right s.1 s.2.1=Sp at *
            by_cases hcn:c<Sp.length
            · have htc:kwN g w s q++(Sp.take (c+1)).map (fun es=>(q,wyS (g.rules.getD q default).right s.1 es))=(kwN g w s q++(Sp.take c).map fun es=>(q,wyS (g.rules.getD q default).right s.1 es))++[(q,wyS (g.rules.getD q default).right s.1 (Sp.getD c default))]:=by
                rw [List.take_add_one,List.getElem?_eq_getElem hcn,List.map_append,List.append_assoc]
                simp [List.getD,hcn]
              generalize hLs:(kwN g w s q++(Sp.take c).map fun es=>(q,wyS (g.rules.getD q default).right s.1 es))=Ls at hlc htc ⊢
              repeat' first|((first|refine Br.dec ?_ ?_|refine Br.eqi ?_ ?_)<;>intro h<;>try (exfalso;omega))|(simp (disch:=first|omega|(simp only [vlen];first|done|omega)) only [vtg,hlc,↓vAq,vBq,↓reduceIte,Nat.reduceBEq,Nat.reduceEqDiff,Nat.reduceLT,Nat.reduceLeDiff,Nat.reduceAdd,Nat.reduceMul,Nat.reduceSub,reduceCtorEq,Int.reduceToNat])|(refine Br.mk ?_ ?_<;>intro h)|(refine BrN.mk (fun h => ?_) ?_)|(refine AltVC.mk ?_ ?_)
              refine loopK.mk (c+1) Y12 (by omega) (by omega) ?_
              rw [htc,← kw_app]
              (simp (disch:=first|omega|(simp only [vlen];first|done|omega)) only [Fits_u,Fits_m,Fits_nil,List.length_append,vtg,hlc,↓vAq,vBq,↓reduceIte,Nat.reduceBEq,Nat.reduceEqDiff,Nat.reduceLT,Nat.reduceLeDiff,Nat.reduceAdd,Nat.reduceMul,Nat.reduceSub,reduceCtorEq,Int.reduceToNat]<;>(repeat' first|rfl|apply And.intro))
              all_goals first|rfl|trace_state
            · have hce:c=Sp.length:=by omega
              subst hce
              rw [List.take_length] at hlc ⊢
              rw [← hsu] at hlc ⊢
              repeat' first|((first|refine Br.dec ?_ ?_|refine Br.eqi ?_ ?_)<;>intro h<;>try (exfalso;omega))|refine Z6 ?_|with_reducible exact trivial|(refine Br.mk ?_ ?_<;>intro h)|(refine BrN.mk (fun h => ?_) ?_)|(refine AltVC.mk ?_ ?_)
              refine loopK.mk (q+1) Y12 ⟨by omega,by omega⟩ (by omega) ?_
              rw [hlc]
              (simp (disch:=first|omega|(simp only [vlen];first|done|omega)) only [Fits_u,Fits_m,Fits_nil,List.length_append,vtg,↓vAq,vBq,↓reduceIte,Nat.reduceBEq,Nat.reduceEqDiff,Nat.reduceLT,Nat.reduceLeDiff,Nat.reduceAdd,Nat.reduceMul,Nat.reduceSub,reduceCtorEq,Int.reduceToNat]<;>(repeat' first|rfl|apply And.intro))
              all_goals first|rfl|trace_state
        · unfold kwQ at hsu
          rw [if_neg hlx,List.append_nil] at hsu
          repeat' first|((first|refine Br.dec ?_ ?_|refine Br.eqi ?_ ?_)<;>intro h<;>try (exfalso;omega))|refine Z6 ?_|with_reducible exact trivial|(refine Br.mk ?_ ?_<;>intro h)|(refine BrN.mk (fun h => ?_) ?_)|(refine AltVC.mk ?_ ?_)
          refine loopK.mk (q+1) Y12 ⟨by omega,by rw [hsu];omega⟩ (by omega) ?_
          rw [hsu]
          (simp (disch:=first|omega|(simp only [vlen];first|done|omega)) only [Fits_u,Fits_m,Fits_nil,List.length_append,vtg,↓vAq,vBq,↓reduceIte,Nat.reduceBEq,Nat.reduceEqDiff,Nat.reduceLT,Nat.reduceLeDiff,Nat.reduceAdd,Nat.reduceMul,Nat.reduceSub,reduceCtorEq,Int.reduceToNat]<;>(repeat' first|rfl|apply And.intro))
          all_goals first|rfl|trace_state
      · have hqe:q=g.rules.length:=by omega
        subst hqe
        have hKe:kwN g w s g.rules.length=kwS g w s:=rfl
        have hkid:∀ x,x ∈ kwS g w s→∀ p,p ∈ x.2→OkS g w p∧muS g p<muS g s:=fun x hx p hp=>kw_ok hc hs hx hp
        have hKl:(kwS g w s).length≤285610:=by rw [← hKe];omega
        rw [hKe]
        clear hql hKe
        repeat' first|((first|refine Br.dec ?_ ?_|refine Br.eqi ?_ ?_)<;>intro h<;>try (exfalso;omega))|refine Z6 ?_|with_reducible exact trivial|(refine Br.mk ?_ ?_<;>intro h)|(refine BrN.mk (fun h => ?_) ?_)|(refine AltVC.mk ?_ ?_)
        refine BrK.mk (fun r hr he=>absurd (wm_in hr he).1 hout) (fun hnn2 => ?_)
        repeat' first|((first|refine Br.dec ?_ ?_|refine Br.eqi ?_ ?_)<;>intro h<;>try (exfalso;omega))|refine Z6 ?_|with_reducible exact trivial|(refine Br.mk ?_ ?_<;>intro h)|(refine BrN.mk (fun h => ?_) ?_)|(refine AltVC.mk ?_ ?_)
        refine LoopVC.frz 4 ?_
        repeat' first|((first|refine Br.dec ?_ ?_|refine Br.eqi ?_ ?_)<;>intro h<;>try (exfalso;omega))|refine Z6 ?_|with_reducible exact trivial|(refine Br.mk ?_ ?_<;>intro h)|(refine BrN.mk (fun h => ?_) ?_)|(refine AltVC.mk ?_ ?_)
        refine LoopVC.flt 2 ?_
        repeat' first|((first|refine Br.dec ?_ ?_|refine Br.eqi ?_ ?_)<;>intro h<;>try (exfalso;omega))|refine Z6 ?_|with_reducible exact trivial|(refine Br.mk ?_ ?_<;>intro h)|(refine BrN.mk (fun h => ?_) ?_)|(refine AltVC.mk ?_ ?_)
        have hk4:∀ x,x ∈ kwS g w s→x.2.length≤4:=fun x hx=>kw_len hc hx
        have hin:∀ (E:List St) (p:St) (x:Nat × List St),x ∈ kwS g w s→p ∈ x.2→TRc g w s p:=fun E p x hx hp=>.step .root hx hp
        have hks:∀ E,(∀ b,b<(kwS g w s).length→∀ p,p ∈ ((kwS g w s).getD b default).2→p ∈ Wk++s::E)→KidsIn g w (Wk++s::E) s:=fun E h x hx p hp=>by
          obtain ⟨b,hb,e⟩:=List.getElem_of_mem hx
          refine h b hb p ?_
          simp [List.getD,hb,e,hp]
        generalize hK:kwS g w s=K at *
        refine LoopVC.mk (X:=Nat × List St) (fun y=>[(0,.ptr 0 7 0 0),(74,iv .i64 y.1)]) (fun y=>grL g w L (Wk++s::y.2)) (fun y=>K.length - y.1) (fun y=>y.1≤K.length∧GJ g w s Wk y.2∧∀ b,b<y.1→∀ p,p ∈ (K.getD b default).2→p ∈ Wk++s::y.2) (0,[]) ⟨Nat.zero_le _,⟨?_,fun e he=>absurd he (by simp),fun e he=>absurd he (by simp)⟩,fun b hb=>absurd hb (Nat.not_lt_zero _)⟩ ?_ ?_
        · rw [List.nodup_append]
          exact ⟨hW,by simp,fun a ha b hb=>by
            have:b=s:=by simpa using hb
            subst this
            exact fun e=>hout (e ▸ ha)⟩
        · unfold grL
          (simp (disch:=first|omega|(simp only [vlen];first|done|omega)) only [Fits_u,Fits_m,Fits_nil,List.length_append,vtg,↓vAq,vBq,↓reduceIte,Nat.reduceBEq,Nat.reduceEqDiff,Nat.reduceLT,Nat.reduceLeDiff,Nat.reduceAdd,Nat.reduceMul,Nat.reduceSub,reduceCtorEq,Int.reduceToNat]<;>(repeat' first|rfl|apply And.intro))
          all_goals first|rfl|trace_state
        · rintro ⟨a, E⟩ ⟨ha, hJ, hdone⟩
          simp only at ha hJ hdone ⊢
          unfold grL
          by_cases haK:a<K.length
          · have hxm:=getD_mem' (l:=K) (i:=a) haK
            repeat' first|((first|refine Br.dec ?_ ?_|refine Br.eqi ?_ ?_)<;>intro h<;>try (exfalso;omega))|refine Z6 ?_|with_reducible exact trivial|(refine Br.mk ?_ ?_<;>intro h)|(refine BrN.mk (fun h => ?_) ?_)|(refine AltVC.mk ?_ ?_)
            generalize hl:(K.getD a default).2=l at *
            have hl4:l.length≤4:=hl ▸ hk4 _ hxm
            have hkl:∀ p,p ∈ l→OkS g w p∧muS g p<muS g s∧TRc g w s p:=fun p hp=>⟨(hkid _ hxm p (hl ▸ hp)).1,(hkid _ hxm p (hl ▸ hp)).2,hin [] p _ hxm (hl ▸ hp)⟩
            refine LoopVC.mk (X:=Nat × List St) (fun y=>[(0,.ptr 0 7 0 0),(81,iv .i64 y.1)]) (fun y=>grL g w L (Wk++s::y.2)) (fun y=>l.length - y.1) (fun y=>y.1≤l.length∧GJ g w s Wk y.2∧(∀ b,b<a→∀ p,p ∈ (K.getD b default).2→p ∈ Wk++s::y.2)∧∀ b,b<y.1→l.getD b default ∈ Wk++s::y.2) (0,E) ⟨Nat.zero_le _,hJ,hdone,fun b hb=>absurd hb (Nat.not_lt_zero _)⟩ ?_ ?_
            · unfold grL
              (simp (disch:=first|omega|(simp only [vlen];first|done|omega)) only [Fits_u,Fits_m,Fits_nil,List.length_append,vtg,↓vAq,vBq,↓reduceIte,Nat.reduceBEq,Nat.reduceEqDiff,Nat.reduceLT,Nat.reduceLeDiff,Nat.reduceAdd,Nat.reduceMul,Nat.reduceSub,reduceCtorEq,Int.reduceToNat]<;>(repeat' first|rfl|apply And.intro))
              all_goals first|rfl|trace_state
            · rintro ⟨b,E2⟩ ⟨hb,hJ2,hd2,hd3⟩
              simp only at hb hJ2 hd2 hd3 ⊢
              unfold grL
              by_cases hbl:b<l.length
              · obtain ⟨p1,p2,p3⟩:=hkl _ (getD_mem' (l:=l) (i:=b) hbl)
                repeat' first|((first|refine Br.dec ?_ ?_|refine Br.eqi ?_ ?_)<;>intro h<;>try (exfalso;omega))|refine Z6 ?_|with_reducible exact trivial|(refine Br.mk ?_ ?_<;>intro h)|(refine BrN.mk (fun h => ?_) ?_)|(refine AltVC.mk ?_ ?_)
                refine CallVC.lendE [0,1,2] [.ptr 0 7 0 0,.ag [iv .i64 (l.getD b default).2.2,iv .i64 (l.getD b default).1,iv .i64 (l.getD b default).2.1]] (grO g w L (Wk++s::E2)) (ih _ p1 p2 _ hJ2.nd) (by simp) (by rfl) Y19 ?_
                rintro _ _ ⟨rfl,E3,rfl,hI⟩
                obtain ⟨hJ3,hp3⟩:=hJ2.step p3 hI
                have hsub:∀ p,p ∈ Wk++s::E2→p ∈ Wk++s::(E2++E3):=fun p hp=>by
                  have:Wk++s::(E2++E3)=(Wk++s::E2)++E3:=by simp
                  rw [this];exact List.mem_append_left _ hp
                rw [show Wk++s::E2++E3=Wk++s::(E2++E3) by simp]
                unfold grO
                repeat' first|((first|refine Br.dec ?_ ?_|refine Br.eqi ?_ ?_)<;>intro h<;>try (exfalso;omega))|refine Z6 ?_|with_reducible exact trivial|(refine Br.mk ?_ ?_<;>intro h)|(refine BrN.mk (fun h => ?_) ?_)|(refine AltVC.mk ?_ ?_)
                refine loopK.mk (b+1,E2++E3) Y12 ⟨by show b+1≤l.length;omega,hJ3,fun c hc p hp=>hsub p (hd2 c hc p hp),fun c hc => ?_⟩ (by show l.length - (b+1)<l.length - b;omega) ?_
                · by_cases e:c=b
                  · rw [e];exact hp3
                  · exact hsub _ (hd3 c (by simp only at hc;omega))
                · (simp (disch:=first|omega|(simp only [vlen];first|done|omega)) only [Fits_u,Fits_m,Fits_nil,List.length_append,vtg,↓vAq,vBq,↓reduceIte,Nat.reduceBEq,Nat.reduceEqDiff,Nat.reduceLT,Nat.reduceLeDiff,Nat.reduceAdd,Nat.reduceMul,Nat.reduceSub,reduceCtorEq,Int.reduceToNat]<;>(repeat' first|rfl|apply And.intro))
                  all_goals first|rfl|trace_state
              · have hbe:b=l.length:=by omega
                subst hbe
                repeat' first|((first|refine Br.dec ?_ ?_|refine Br.eqi ?_ ?_)<;>intro h<;>try (exfalso;omega))|refine Z6 ?_|with_reducible exact trivial|(refine Br.mk ?_ ?_<;>intro h)|(refine BrN.mk (fun h => ?_) ?_)|(refine AltVC.mk ?_ ?_)
                refine loopK.mk (a+1,E2) Y12 ⟨by show a+1≤K.length;omega,hJ2,fun c hc p hp => ?_⟩ (by show K.length - (a+1)<K.length - a;omega) ?_
                · by_cases e:c=a
                  · rw [e,hl] at hp
                    obtain ⟨b,hb,e⟩:=List.getElem_of_mem hp
                    have:=hd3 b hb
                    simpa [List.getD,hb,e] using this
                  · exact hd2 c (by simp only at hc;omega) p hp
                · (simp (disch:=first|omega|(simp only [vlen];first|done|omega)) only [Fits_u,Fits_m,Fits_nil,List.length_append,vtg,↓vAq,vBq,↓reduceIte,Nat.reduceBEq,Nat.reduceEqDiff,Nat.reduceLT,Nat.reduceLeDiff,Nat.reduceAdd,Nat.reduceMul,Nat.reduceSub,reduceCtorEq,Int.reduceToNat]<;>(repeat' first|rfl|apply And.intro))
                  all_goals first|rfl|trace_state
          · have hae:a=K.length:=by omega
            subst hae
            repeat' first|((first|refine Br.dec ?_ ?_|refine Br.eqi ?_ ?_)<;>intro h<;>try (exfalso;omega))|refine Z6 ?_|with_reducible exact trivial|(refine Br.mk ?_ ?_<;>intro h)|(refine BrN.mk (fun h => ?_) ?_)|(refine AltVC.mk ?_ ?_)
            exact finH_mk ((grO g w L (Wk++s::E)).map some) (by simp [grO]) Y24 Y25 ⟨by simp (disch:=first|omega|(simp only [vlen];first|done|omega)) only [vtg,↓vAq,vBq,↓reduceIte,Nat.reduceBEq,Nat.reduceEqDiff,Nat.reduceLT,Nat.reduceLeDiff,Nat.reduceAdd,Nat.reduceMul,Nat.reduceSub,reduceCtorEq,Int.reduceToNat],s::E,rfl,hJ.fin (hks E hdone)⟩
theorem grow_all (g:Grammar) (w:List Int) (hc:CC g w) (L:List SE) (t:Nat→Nat→Nat) (hL:SI L t) (hF:Full g w t):∀ (n:Nat) (s:St),OkS g w s→muS g s<n→grP g w L s
  | 0,_,_,h=>absurd h (Nat.not_lt_zero _)
  | n+1,s,hs,h=>fun Wk hW=>grow1_spec g w hc L t hL hF s hs (fun p hp hm=>grow_all g w hc L t hL hF n p hp (by omega)) Wk hW
theorem growS_spec (g:Grammar) (w:List Int) (hc:CC g w) (L:List SE) (t:Nat→Nat→Nat) (hL:SI L t) (hF:Full g w t) (s:St) (hs:OkS g w s):grP g w L s:=grow_all g w hc L t hL hF (muS g s+1) s hs (Nat.lt_succ_self _)
end Go.Proofs.Ytcclchnbjpncdaa
