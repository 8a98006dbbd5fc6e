/-
  coppicerref.Thicket.
-/
import Derived.Test.YtcclchnbjpncdaaMg17
set_option linter.unusedSimpArgs false
set_option linter.unnecessarySimpa false
set_option linter.unusedVariables false
set_option linter.defProp false
namespace Go.Proofs.Ytcclchnbjpncdaa
open Go.Dm
theorem DrawVC.cutT {P:Program} {asg:List Nat} {t u:DT} {K:S→Prop} {s:S} (h:CutVC P asg t K s):DrawVC P asg t u K s:=.inr (.inr (.inl h))
theorem CutVC.step {P:Program} {asg:List Nat} {t:DT} {K:S→Prop} {s s':S} {g:D→D} (hg:Gho s g s') (h:CutVC P asg t K s'):CutVC P asg t K s :=
  let ⟨s1,X,ups,ms,Inv,n,h1,h2⟩:=h;⟨s1,X,ups,ms,Inv,n,.step _ _ _ _ hg h1,h2⟩
theorem CutVC.frz {P:Program} {asg:List Nat} {t:DT} {K:S→Prop} {s:S} (τ:Nat) (h:kFrz τ (CutVC P asg t K) s):CutVC P asg t K s:=let ⟨_,_,hg,hk⟩:=frz_of h;CutVC.step hg hk
theorem CutVC.fold {P:Program} {asg:List Nat} {t:DT} {K:S→Prop} {s:S} (σ τ i o:Nat) (fl:Bool) (h:kFold σ τ i o fl (CutVC P asg t K) s):CutVC P asg t K s:=let ⟨_,_,hg,hk⟩:=fold_of h;CutVC.step hg hk
theorem CutVC.mk {P:Program} {asg:List Nat} {t:DT} {K:S→Prop} {s:S} {X:Type} (ups:X→List (Nat × D)) (ms:X→List (Nat × Ob)) (Inv:X→Prop) (n:Nat) (hn:s.N≤n) (h:vcT P t (cutK ups ms Inv n) s) (hr:∀ x,Inv x→K ((s.head asg (ups x) (ms x)).setN n)):CutVC P asg t K s :=
  ⟨s,X,ups,ms,Inv,n,.refl s,hn,h,hr⟩
def rtR (g:Grammar) (w:List Int):St:=(0,w.length,g.k+g.start)
structure RtR (g:Grammar) (w:List Int) (d:D):Prop where
  ex : ∃ Wk,Clos g w (rtR g w) Wk∧d=if 200<Wk.length then .tu [.ag [.nl,iv .i64 0],.v (.bool false)] else .tu [.ag (thiD (thiT g w (srtS Wk) (rtR g w))),.v (.bool true)]
def rfL (g:Grammar) (w:List Int) (Lb:List BE):List (Nat × Ob):=[(0,⟨4,[[iv .i64 g.k,iv .i64 g.n,iv .i64 g.start,.sl 2 (tbl rulD g.rules)]],true,false,.fix⟩),(1,⟨2,[[.nl,iv .i64 0]],true,false,.fix⟩),(3,⟨4,tbl beD Lb,true,false,.map [.i64,.i64,.i64] true false⟩),(4,⟨6,[[iv .i64 g.k,iv .i64 g.n,iv .i64 g.start,.sl 2 (tbl rulD g.rules),.sl 1 (i64s w),.mp 3]],false,false,.fix⟩)]
theorem st_eq2 {y s:St} (h1:y.1=s.1) (h2:y.2.1=s.2.1) (h3:y.2.2=s.2.2):y=s:=by
  obtain ⟨_,_,_⟩:=y
  obtain ⟨_,_,_⟩:=s
  simp only at h1 h2 h3
  rw [h1,h2,h3]
theorem st_app {l:List St} {s:St}:tbl stD l++[[D.v (.int .i64 s.1),D.v (.int .i64 s.2.1),D.v (.int .i64 s.2.2)]]=tbl stD (l++[s]):=by rw [tbl_app];rfl
theorem tab4_take {n:Nat} {f:Nat→List D}:(tab4 n f).take n=tab4 n f:=List.take_of_length_le (by rw [tab4_len];exact Nat.le_refl _)
def vtt:=And.intro vtr<|And.intro @tab4_take2<|And.intro @sp4_drop<|And.intro @set_next<|And.intro @tab4_get<|And.intro @tab4_take @tab4_len
set_option maxRecDepth 10000 in
set_option maxHeartbeats 4000000 in
theorem rthicket_spec (g : Grammar) (w : List Int) (hc : CC g w) : Dm.Spec Try.prog 7 [.ag (graD g), .sl 1 (i64s w)] (RtR g w) := by
  refine spec_of_vc mixed Try.func7 c7 (by rw [show Try.f7.ntmps=_ from Try.ntmps7];simp) ?_
  unfold m7 r7
  have hw:=hc.w
  have hlen:=hc.v.len
  have hk:=hc.v.k
  have hn:=hc.v.n
  have hst:=hc.v.start
  have hleft:∀ q,q<g.rules.length→0≤(g.rules.getD q default).left∧(g.rules.getD q default).left<g.n:=fun q hq=>hc.v.left _ (getD_mem' hq)
  have hroot:OkS g w (rtR g w):=⟨Nat.zero_le _,Nat.le_refl _,by show 0≤g.k+g.start;omega,by show g.k+g.start<g.k+g.n;omega⟩
  repeat' first|((first|refine Br.dec ?_ ?_|refine Br.eqi ?_ ?_)<;>intro h<;>try (exfalso;omega))|refine Z0 ?_|with_reducible exact trivial|(refine Br.mk ?_ ?_<;>intro h)|(refine BrN.mk (fun h => ?_) ?_)|(refine AltVC.mk ?_ ?_)
  refine CallVC.lendE [] [.ag (graD g),.sl 1 (i64s w)] [] (grow_bspec g w) (by simp) (by rfl) (by (simp (disch:=first|omega|(simp only [vlen];first|done|omega)) only [vle0,vtt,↓vAq,vBq,↓reduceIte,Nat.reduceBEq,Nat.reduceEqDiff,Nat.reduceLT,Nat.reduceLeDiff,Nat.reduceAdd,Nat.reduceMul,Nat.reduceSub,reduceCtorEq,Int.reduceToNat]<;>(repeat' first|rfl|apply And.intro))) ?_
  rintro _ _ ⟨rfl,rfl⟩
  repeat' first|((first|refine Br.dec ?_ ?_|refine Br.eqi ?_ ?_)<;>intro h<;>try (exfalso;omega))|refine Z0 ?_|with_reducible exact trivial|(refine Br.mk ?_ ?_<;>intro h)|(refine BrN.mk (fun h => ?_) ?_)|(refine AltVC.mk ?_ ?_)
  refine LoopVC.fold 5 6 0 0 true ?_
  repeat' first|((first|refine Br.dec ?_ ?_|refine Br.eqi ?_ ?_)<;>intro h<;>try (exfalso;omega))|refine Z0 ?_|with_reducible exact trivial|(refine Br.mk ?_ ?_<;>intro h)|(refine BrN.mk (fun h => ?_) ?_)|(refine AltVC.mk ?_ ?_)
  refine LoopVC.mk (X:=Nat × List St × List BE) (fun x=>[(2,.ptr 0 4 0 0),(4,.ptr 1 2 0 0),(6,.ptr 4 6 0 0),(7,.ptr 6 1 0 0),(8,iv .i64 x.1)]) (fun x=>rfL g w x.2.2++[(6,⟨1,[[.own false 3 (tbl stD x.2.1)]],true,true,.fix⟩)]) (fun x=>1353 - x.1) (fun x=>BG g w (rtR g w) x.1 x.2.1∧BI g w x.2.2) (0,[rtR g w],[]) ⟨BG.start,BI.nil⟩ ?_ ?_
  · simp only [rfL,List.cons_append,List.nil_append]
    (simp (disch:=first|omega|(simp only [vlen];first|done|omega)) only [Fits_u,Fits_m,Fits_nil,List.length_append,vtt,↓vAq,vBq,↓reduceIte,Nat.reduceBEq,Nat.reduceEqDiff,Nat.reduceLT,Nat.reduceLeDiff,Nat.reduceAdd,Nat.reduceMul,Nat.reduceSub,reduceCtorEq,Int.reduceToNat]<;>(repeat' first|rfl|apply And.intro))
    all_goals first|rfl|trace_state
  · rintro ⟨k, all, Lb⟩ ⟨hG, hLb⟩
    simp only at hG hLb
    have hfew:=hG.few hc hroot
    have hkl0:=hG.kl
    simp only [rfL,List.cons_append,List.nil_append]
    by_cases hkl:k<all.length
    · have hF := hG.bf hkl
      obtain ⟨o1,o2,o3,o4⟩:=TRc.ok hc hroot (hG.sd _ (getD_mem' (l:=all) (i:=k) hkl))
      have hsT:=hG.sd _ (getD_mem' (l:=all) (i:=k) hkl)
      generalize hs:all.getD k default=s at *
      repeat' first|((first|refine Br.dec ?_ ?_|refine Br.eqi ?_ ?_)<;>intro h<;>try (exfalso;omega))|refine Z0 ?_|with_reducible exact trivial|(refine Br.mk ?_ ?_<;>intro h)|(refine BrN.mk (fun h => ?_) ?_)|(refine AltVC.mk ?_ ?_)
      refine LoopVC.fold 7 6 0 0 true ?_
      repeat' first|((first|refine Br.dec ?_ ?_|refine Br.eqi ?_ ?_)<;>intro h<;>try (exfalso;omega))|refine Z0 ?_|with_reducible exact trivial|(refine Br.mk ?_ ?_<;>intro h)|(refine BrN.mk (fun h => ?_) ?_)|(refine AltVC.mk ?_ ?_)
      refine LoopVC.mk (X:=Nat × List St × List BE) (fun x=>[(2,.ptr 0 4 0 0),(4,.ptr 1 2 0 0),(6,.ptr 4 6 0 0),(7,.ptr 6 1 0 0),(53,iv .i64 x.1)]) (fun x=>rfL g w x.2.2++[(6,⟨1,[[.own false 3 (tbl stD x.2.1)]],true,true,.fix⟩)]) (fun x=>g.rules.length - x.1) (fun x=>x.1≤g.rules.length∧BF g w (rtR g w) s k x.2.1 (DnR g w s x.1)∧BI g w x.2.2) (0,all,Lb) ⟨Nat.zero_le _,hF.same (fun y hy=>DnR.zero hy),hLb⟩ ?_ ?_
      · simp only [rfL,List.cons_append,List.nil_append]
        (simp (disch:=first|omega|(simp only [vlen];first|done|omega)) only [Fits_u,Fits_m,Fits_nil,List.length_append,vtt,↓vAq,vBq,↓reduceIte,Nat.reduceBEq,Nat.reduceEqDiff,Nat.reduceLT,Nat.reduceLeDiff,Nat.reduceAdd,Nat.reduceMul,Nat.reduceSub,reduceCtorEq,Int.reduceToNat]<;>(repeat' first|rfl|apply And.intro))
        all_goals first|rfl|trace_state
      · rintro ⟨q, al, Lc⟩ ⟨hq, hF, hLc⟩
        simp only at hq hF hLc
        have hfw:=hF.few hc hroot
        have hkal:=hF.kl
        have hsal:=hF.sk
        simp only [rfL,List.cons_append,List.nil_append]
        by_cases hqn:q<g.rules.length
        · have hlq := hleft q hqn
          have hmem:=getD_mem' (l:=g.rules) (i:=q) hqn
          have hmr:=hc.v.long _ hmem
          have hpr:=(hc.p _ hmem).1
          have hrt:=hc.v.right _ hmem
          by_cases hlx:g.k+(g.rules.getD q default).left=s.2.2
          · have hsp := splits_spec2 g w hc _ hmr hrt s.1 s.2.1 o1 o2 Lc hLc
            have hsl:(splN g w (g.rules.getD q default).right s.1 s.2.1).length≤28561:=Nat.le_trans (splN_len (by omega)) (Nat.le_trans (Nat.pow_le_pow_right (by omega) hmr) (by decide))
            repeat' first|((first|refine Br.dec ?_ ?_|refine Br.eqi ?_ ?_)<;>intro h<;>try (exfalso;omega))|refine Z28 ?_|with_reducible exact trivial|(refine Br.mk ?_ ?_<;>intro h)|(refine BrN.mk (fun h => ?_) ?_)|(refine AltVC.mk ?_ ?_)
            refine CallVC.lendE [4,3] [.ptr 0 6 0 0,.sl 1 (i64s (g.rules.getD q default).right),iv .i64 s.1,iv .i64 s.2.1] (buO g w Lc) hsp (by simp) (by rfl) Y23 ?_
            rintro _ _ ⟨Ld,rfl,rfl,hLd⟩
            unfold buO
            repeat' first|((first|refine Br.dec ?_ ?_|refine Br.eqi ?_ ?_)<;>intro h<;>try (exfalso;omega))|refine Z28 ?_|with_reducible exact trivial|(refine Br.mk ?_ ?_<;>intro h)|(refine BrN.mk (fun h => ?_) ?_)|(refine AltVC.mk ?_ ?_)
            refine LoopVC.fold 9 6 0 0 true ?_
            repeat' first|((first|refine Br.dec ?_ ?_|refine Br.eqi ?_ ?_)<;>intro h<;>try (exfalso;omega))|refine Z0 ?_|with_reducible exact trivial|(refine Br.mk ?_ ?_<;>intro h)|(refine BrN.mk (fun h => ?_) ?_)|(refine AltVC.mk ?_ ?_)
            have hwd:∀ es,wyD (g.rules.getD q default).right s.1 es=[.sl 3 (tbl stD (wyS (g.rules.getD q default).right s.1 es))]:=fun es=>by unfold wyD;rw [if_neg hpr]
            have hhit:=fun p=>@DnR.hit g w s p q hlx
            have htr:=fun es p=>@sp_tr g w (rtR g w) s q es p hsT hqn hlx
            have hwl:∀ es,(wyS (g.rules.getD q default).right s.1 es).length≤4:=fun es=>Nat.le_trans wyS_len hmr
            generalize (g.rules.getD q default).right=rt at *
            generalize splN g w rt s.1 s.2.1=Sp at *
            refine LoopVC.mk (X:=Nat × List St) (fun x=>[(2,.ptr 0 4 0 0),(4,.ptr 1 2 0 0),(6,.ptr 4 6 0 0),(7,.ptr 6 1 0 0),(83,iv .i64 x.1)]) (fun x=>rfL g w Ld++[(6,⟨1,[[.own false 3 (tbl stD x.2)]],true,true,.fix⟩)]) (fun x=>Sp.length - x.1) (fun x=>x.1≤Sp.length∧BF g w (rtR g w) s k x.2 (DnW (DnR g w s q) (Sp.map (wyS rt s.1)) x.1)) (0,al) ⟨Nat.zero_le _,hF.same (fun y hy=>DnW.zero hy)⟩ ?_ ?_
            · simp only [rfL,List.cons_append,List.nil_append]
              (simp (disch:=first|omega|(simp only [vlen];first|done|omega)) only [Fits_u,Fits_m,Fits_nil,List.length_append,vtt,↓vAq,vBq,↓reduceIte,Nat.reduceBEq,Nat.reduceEqDiff,Nat.reduceLT,Nat.reduceLeDiff,Nat.reduceAdd,Nat.reduceMul,Nat.reduceSub,reduceCtorEq,Int.reduceToNat]<;>(repeat' first|rfl|apply And.intro))
              all_goals first|rfl|trace_state
            · rintro ⟨c, am⟩ ⟨hcs, hF2⟩
              simp only at hcs hF2
              have hfw2:=hF2.few hc hroot
              simp only [rfL,List.cons_append,List.nil_append]
              by_cases hcl:c<Sp.length
              · have hem := getD_mem' (l := Sp) (i := c) hcl
                have hgs:(Sp.map (wyS rt s.1)).getD c default=wyS rt s.1 (Sp.getD c default):=by rw [List.getD_eq_getElem?_getD,List.getElem?_map,List.getElem?_eq_getElem hcl,gdE hcl];rfl
                have htr2:=fun p=>htr _ p hem
                have hwl2:=hwl (Sp.getD c default)
                have hwd2:=hwd (Sp.getD c default)
                have hsc:=fun p=>@DnW.succ (DnR g w s q) (Sp.map (wyS rt s.1)) c p
                rw [hgs] at hsc
                generalize hes:Sp.getD c default=es at *
                generalize wyS rt s.1 es=l at *
                repeat' first|((first|refine Br.dec ?_ ?_|refine Br.eqi ?_ ?_)<;>intro h<;>try (exfalso;omega))|refine Z29 ?_|with_reducible exact trivial|(refine Br.mk ?_ ?_<;>intro h)|(refine BrN.mk (fun h => ?_) ?_)|(refine AltVC.mk ?_ ?_)
                refine LoopVC.mk (X:=Nat × List St) (fun x=>[(2,.ptr 0 4 0 0),(4,.ptr 1 2 0 0),(6,.ptr 4 6 0 0),(7,.ptr 6 1 0 0),(89,iv .i64 x.1)]) (fun x=>rfL g w Ld++[(6,⟨1,[[.own false 3 (tbl stD x.2)]],true,true,.fix⟩)]) (fun x=>l.length - x.1) (fun x=>x.1≤l.length∧BF g w (rtR g w) s k x.2 (DnE (DnW (DnR g w s q) (Sp.map (wyS rt s.1)) c) l x.1)) (0,am) ⟨Nat.zero_le _,hF2.same (fun y hy=>DnE.zero hy)⟩ ?_ ?_
                · simp only [rfL,List.cons_append,List.nil_append]
                  (simp (disch:=first|omega|(simp only [vlen];first|done|omega)) only [Fits_u,Fits_m,Fits_nil,List.length_append,vtt,↓vAq,vBq,↓reduceIte,Nat.reduceBEq,Nat.reduceEqDiff,Nat.reduceLT,Nat.reduceLeDiff,Nat.reduceAdd,Nat.reduceMul,Nat.reduceSub,reduceCtorEq,Int.reduceToNat]<;>(repeat' first|rfl|apply And.intro))
                  all_goals first|rfl|trace_state
                · rintro ⟨e, an⟩ ⟨hel, hF3⟩
                  simp only at hel hF3
                  have hfw3:=hF3.few hc hroot
                  simp only [rfL,List.cons_append,List.nil_append]
                  by_cases hecl:e<l.length
                  · have hpt:=htr2 _ (getD_mem' (l:=l) (i:=e) hecl)
                    obtain ⟨u1,u2,u3,u4⟩:=TRc.ok hc hroot hpt
                    have hes:=fun p=>@DnE.succ (DnW (DnR g w s q) (Sp.map (wyS rt s.1)) c) l e p
                    generalize hpe:l.getD e default=p at *
                    repeat' first|((first|refine Br.dec ?_ ?_|refine Br.eqi ?_ ?_)<;>intro h<;>try (exfalso;omega))|(simp (disch:=first|omega|(simp only [vlen];first|done|omega)) only [vtt,hpe,↓vAq,vBq,↓reduceIte,Nat.reduceBEq,Nat.reduceEqDiff,Nat.reduceLT,Nat.reduceLeDiff,Nat.reduceAdd,Nat.reduceMul,Nat.reduceSub,reduceCtorEq,Int.reduceToNat])|(refine Br.mk ?_ ?_<;>intro h)|(refine BrN.mk (fun h => ?_) ?_)|(refine AltVC.mk ?_ ?_)
                    refine LoopVC.mk (X:=Nat × Bool) (fun x=>[(2,.ptr 0 4 0 0),(4,.ptr 1 2 0 0),(6,.ptr 4 6 0 0),(7,.ptr 6 1 0 0),(14,.ptr 10 3 0 0),(15,.v (.bool x.2)),(93,.ref 11 3 0 an.length),(95,iv .i64 x.1)]) (fun x=>rfL g w Ld++[(6,⟨1,[[.ref 11 3 0 an.length]],false,true,.fix⟩),(10,⟨3,[[iv .i64 p.1,iv .i64 p.2.1,iv .i64 p.2.2]],true,false,.fix⟩),(11,⟨3,tbl stD an,true,false,.arr⟩)]) (fun x=>an.length - x.1) (fun x=>x.1≤an.length∧(x.2=true ↔ ∀ j,j<x.1→an.getD j default ≠ p)) (0,true) ⟨Nat.zero_le _,fun _ j hj=>absurd hj (Nat.not_lt_zero _),fun _=>rfl⟩ ?_ ?_
                    · simp only [rfL,List.cons_append,List.nil_append]
                      (simp (disch:=first|omega|(simp only [vlen];first|done|omega)) only [Fits_u,Fits_m,Fits_nil,List.length_append,vtt,↓vAq,vBq,↓reduceIte,Nat.reduceBEq,Nat.reduceEqDiff,Nat.reduceLT,Nat.reduceLeDiff,Nat.reduceAdd,Nat.reduceMul,Nat.reduceSub,reduceCtorEq,Int.reduceToNat]<;>(repeat' first|rfl|apply And.intro))
                      all_goals first|rfl|trace_state
                    · rintro ⟨j, b⟩ ⟨hj, hb⟩
                      simp only at hj hb
                      simp only [rfL,List.cons_append,List.nil_append]
                      by_cases hjl:j<an.length
                      · obtain ⟨m1,m2,m3,m4⟩:=TRc.ok hc hroot (hF3.sd _ (getD_mem' (l:=an) (i:=j) hjl))
                        cases b with
                        | true =>
                          generalize hjp:an.getD j default=y at *
                          repeat' first|((first|refine Br.dec ?_ ?_|refine Br.eqi ?_ ?_)<;>intro h<;>try (exfalso;omega))|(simp (disch:=first|omega|(simp only [vlen];first|done|omega)) only [vtt,hjp,↓vAq,vBq,↓reduceIte,Nat.reduceBEq,Nat.reduceEqDiff,Nat.reduceLT,Nat.reduceLeDiff,Nat.reduceAdd,Nat.reduceMul,Nat.reduceSub,reduceCtorEq,Int.reduceToNat])|(refine Br.mk ?_ ?_<;>intro h)|(refine BrN.mk (fun h => ?_) ?_)|(refine AltVC.mk ?_ ?_)
                          refine BrE.mk (fun heq => ?_) (fun hne => ?_)
                          · have hpy:p=y:=by
                              simp only [List.cons.injEq,D.v.injEq,Value.int.injEq,true_and,and_true,Int.natCast_inj] at heq
                              exact st_eq2 heq.1 heq.2.1 heq.2.2
                            repeat' first|((first|refine Br.dec ?_ ?_|refine Br.eqi ?_ ?_)<;>intro h<;>try (exfalso;omega))|refine Z0 ?_|with_reducible exact trivial|(refine Br.mk ?_ ?_<;>intro h)|(refine BrN.mk (fun h => ?_) ?_)|(refine AltVC.mk ?_ ?_)
                            refine loopK.mk (j+1,false) Y1 ⟨by show j+1≤an.length;omega,fun h=>(by cases h),fun h=>absurd (hjp.trans hpy.symm) (h j (by show j<j+1;omega))⟩ (by show an.length - (j+1)<an.length - j;omega) ?_
                            simp only [rfL,List.cons_append,List.nil_append]
                            (simp (disch:=first|omega|(simp only [vlen];first|done|omega)) only [Fits_u,Fits_m,Fits_nil,List.length_append,vtt,↓vAq,vBq,↓reduceIte,Nat.reduceBEq,Nat.reduceEqDiff,Nat.reduceLT,Nat.reduceLeDiff,Nat.reduceAdd,Nat.reduceMul,Nat.reduceSub,reduceCtorEq,Int.reduceToNat]<;>(repeat' first|rfl|apply And.intro))
                            all_goals first|rfl|trace_state
                          · have hpy:p ≠ y:=fun h=>hne (by rw [h])
                            repeat' first|((first|refine Br.dec ?_ ?_|refine Br.eqi ?_ ?_)<;>intro h<;>try (exfalso;omega))|refine Z0 ?_|with_reducible exact trivial|(refine Br.mk ?_ ?_<;>intro h)|(refine BrN.mk (fun h => ?_) ?_)|(refine AltVC.mk ?_ ?_)
                            refine loopK.mk (j+1,true) Y1 ⟨by show j+1≤an.length;omega,fun _ i hi => ?_,fun _=>rfl⟩ (by show an.length - (j+1)<an.length - j;omega) ?_
                            · by_cases ei:i=j
                              · rw [ei,hjp];exact fun h=>hpy h.symm
                              · exact hb.1 rfl i (by simp only at hi;omega)
                            · simp only [rfL,List.cons_append,List.nil_append]
                              (simp (disch:=first|omega|(simp only [vlen];first|done|omega)) only [Fits_u,Fits_m,Fits_nil,List.length_append,vtt,↓vAq,vBq,↓reduceIte,Nat.reduceBEq,Nat.reduceEqDiff,Nat.reduceLT,Nat.reduceLeDiff,Nat.reduceAdd,Nat.reduceMul,Nat.reduceSub,reduceCtorEq,Int.reduceToNat]<;>(repeat' first|rfl|apply And.intro))
                              all_goals first|rfl|trace_state
                        | false =>
                          have hb':¬ ∀ i,i<j→an.getD i default ≠ p:=fun h=>by have:=hb.2 h;cases this
                          repeat' first|((first|refine Br.dec ?_ ?_|refine Br.eqi ?_ ?_)<;>intro h<;>try (exfalso;omega))|refine Z0 ?_|with_reducible exact trivial|(refine Br.mk ?_ ?_<;>intro h)|(refine BrN.mk (fun h => ?_) ?_)|(refine AltVC.mk ?_ ?_)
                          refine loopK.mk (j+1,false) Y1 ⟨by show j+1≤an.length;omega,fun h=>(by cases h),fun h=>absurd (fun i hi=>h i (by show i<j+1;omega)) hb'⟩ (by show an.length - (j+1)<an.length - j;omega) ?_
                          simp only [rfL,List.cons_append,List.nil_append]
                          (simp (disch:=first|omega|(simp only [vlen];first|done|omega)) only [Fits_u,Fits_m,Fits_nil,List.length_append,vtt,↓vAq,vBq,↓reduceIte,Nat.reduceBEq,Nat.reduceEqDiff,Nat.reduceLT,Nat.reduceLeDiff,Nat.reduceAdd,Nat.reduceMul,Nat.reduceSub,reduceCtorEq,Int.reduceToNat]<;>(repeat' first|rfl|apply And.intro))
                          all_goals first|rfl|trace_state
                      · have hje:j=an.length:=by omega
                        subst hje
                        cases b with
                        | true =>
                          have hnp:p ∉ an:=fun hm=>by
                            obtain ⟨i,hi,e⟩:=List.getElem_of_mem hm
                            exact hb.1 rfl i hi (by rw [gdE hi];exact e)
                          have hF4:=hF3.app hnp hpt (hes)
                          repeat' first|((first|refine Br.dec ?_ ?_|refine Br.eqi ?_ ?_)<;>intro h<;>try (exfalso;omega))|refine Z0 ?_|with_reducible exact trivial|(refine Br.mk ?_ ?_<;>intro h)|(refine BrN.mk (fun h => ?_) ?_)|(refine AltVC.mk ?_ ?_)
                          refine loopK.fold 11 6 0 0 true ?_
                          repeat' first|((first|refine Br.dec ?_ ?_|refine Br.eqi ?_ ?_)<;>intro h<;>try (exfalso;omega))|refine Z0 ?_|with_reducible exact trivial|(refine Br.mk ?_ ?_<;>intro h)|(refine BrN.mk (fun h => ?_) ?_)|(refine AltVC.mk ?_ ?_)
                          refine loopK.mk (e+1,an++[p]) Y1 ⟨by show e+1≤l.length;omega,hF4⟩ (by show l.length - (e+1)<l.length - e;omega) ?_
                          simp only [rfL,List.cons_append,List.nil_append]
                          rw [← st_app]
                          (simp (disch:=first|omega|(simp only [vlen];first|done|omega)) only [Fits_u,Fits_m,Fits_nil,List.length_append,vtt,↓vAq,vBq,↓reduceIte,Nat.reduceBEq,Nat.reduceEqDiff,Nat.reduceLT,Nat.reduceLeDiff,Nat.reduceAdd,Nat.reduceMul,Nat.reduceSub,reduceCtorEq,Int.reduceToNat]<;>(repeat' first|rfl|apply And.intro))
                          all_goals first|rfl|trace_state
                        | false =>
                          have hmp:p ∈ an:=by
                            rcases Classical.em (p ∈ an) with h|h
                            · exact h
                            · have:=hb.2 fun i hi e=>h (by rw [← e,gdE hi];exact List.getElem_mem hi)
                              cases this
                          have hF4:=hF3.more hmp (hes)
                          repeat' first|((first|refine Br.dec ?_ ?_|refine Br.eqi ?_ ?_)<;>intro h<;>try (exfalso;omega))|refine Z0 ?_|with_reducible exact trivial|(refine Br.mk ?_ ?_<;>intro h)|(refine BrN.mk (fun h => ?_) ?_)|(refine AltVC.mk ?_ ?_)
                          refine loopK.fold 11 6 0 0 true ?_
                          repeat' first|((first|refine Br.dec ?_ ?_|refine Br.eqi ?_ ?_)<;>intro h<;>try (exfalso;omega))|refine Z0 ?_|with_reducible exact trivial|(refine Br.mk ?_ ?_<;>intro h)|(refine BrN.mk (fun h => ?_) ?_)|(refine AltVC.mk ?_ ?_)
                          refine loopK.mk (e+1,an) Y1 ⟨by show e+1≤l.length;omega,hF4⟩ (by show l.length - (e+1)<l.length - e;omega) ?_
                          simp only [rfL,List.cons_append,List.nil_append]
                          (simp (disch:=first|omega|(simp only [vlen];first|done|omega)) only [Fits_u,Fits_m,Fits_nil,List.length_append,vtt,↓vAq,vBq,↓reduceIte,Nat.reduceBEq,Nat.reduceEqDiff,Nat.reduceLT,Nat.reduceLeDiff,Nat.reduceAdd,Nat.reduceMul,Nat.reduceSub,reduceCtorEq,Int.reduceToNat]<;>(repeat' first|rfl|apply And.intro))
                          all_goals first|rfl|trace_state
                  · have hee:e=l.length:=by omega
                    subst hee
                    repeat' first|((first|refine Br.dec ?_ ?_|refine Br.eqi ?_ ?_)<;>intro h<;>try (exfalso;omega))|refine Z0 ?_|with_reducible exact trivial|(refine Br.mk ?_ ?_<;>intro h)|(refine BrN.mk (fun h => ?_) ?_)|(refine AltVC.mk ?_ ?_)
                    refine loopK.mk (c+1,an) Y1 ⟨by show c+1≤Sp.length;omega,hF3.same hsc⟩ (by show Sp.length - (c+1)<Sp.length - c;omega) ?_
                    simp only [rfL,List.cons_append,List.nil_append]
                    (simp (disch:=first|omega|(simp only [vlen];first|done|omega)) only [Fits_u,Fits_m,Fits_nil,List.length_append,vtt,↓vAq,vBq,↓reduceIte,Nat.reduceBEq,Nat.reduceEqDiff,Nat.reduceLT,Nat.reduceLeDiff,Nat.reduceAdd,Nat.reduceMul,Nat.reduceSub,reduceCtorEq,Int.reduceToNat]<;>(repeat' first|rfl|apply And.intro))
                    all_goals first|rfl|trace_state
              · have hce:c=Sp.length:=by omega
                subst hce
                repeat' first|((first|refine Br.dec ?_ ?_|refine Br.eqi ?_ ?_)<;>intro h<;>try (exfalso;omega))|refine Z0 ?_|with_reducible exact trivial|(refine Br.mk ?_ ?_<;>intro h)|(refine BrN.mk (fun h => ?_) ?_)|(refine AltVC.mk ?_ ?_)
                refine loopK.mk (q+1,am,Ld) Y1 ⟨by show q+1≤g.rules.length;omega,hF2.same hhit,hLd⟩ (by show g.rules.length - (q+1)<g.rules.length - q;omega) ?_
                simp only [rfL,List.cons_append,List.nil_append]
                (simp (disch:=first|omega|(simp only [vlen];first|done|omega)) only [Fits_u,Fits_m,Fits_nil,List.length_append,vtt,↓vAq,vBq,↓reduceIte,Nat.reduceBEq,Nat.reduceEqDiff,Nat.reduceLT,Nat.reduceLeDiff,Nat.reduceAdd,Nat.reduceMul,Nat.reduceSub,reduceCtorEq,Int.reduceToNat]<;>(repeat' first|rfl|apply And.intro))
                all_goals first|rfl|trace_state
          · repeat' first|((first|refine Br.dec ?_ ?_|refine Br.eqi ?_ ?_)<;>intro h<;>try (exfalso;omega))|refine Z28 ?_|with_reducible exact trivial|(refine Br.mk ?_ ?_<;>intro h)|(refine BrN.mk (fun h => ?_) ?_)|(refine AltVC.mk ?_ ?_)
            refine loopK.fold 9 6 0 0 true ?_
            repeat' first|((first|refine Br.dec ?_ ?_|refine Br.eqi ?_ ?_)<;>intro h<;>try (exfalso;omega))|refine Z0 ?_|with_reducible exact trivial|(refine Br.mk ?_ ?_<;>intro h)|(refine BrN.mk (fun h => ?_) ?_)|(refine AltVC.mk ?_ ?_)
            refine loopK.mk (q+1,al,Lc) Y1 ⟨by show q+1≤g.rules.length;omega,hF.same (fun y hy=>DnR.miss hlx hy),hLc⟩ (by show g.rules.length - (q+1)<g.rules.length - q;omega) ?_
            simp only [rfL,List.cons_append,List.nil_append]
            (simp (disch:=first|omega|(simp only [vlen];first|done|omega)) only [Fits_u,Fits_m,Fits_nil,List.length_append,vtt,↓vAq,vBq,↓reduceIte,Nat.reduceBEq,Nat.reduceEqDiff,Nat.reduceLT,Nat.reduceLeDiff,Nat.reduceAdd,Nat.reduceMul,Nat.reduceSub,reduceCtorEq,Int.reduceToNat]<;>(repeat' first|rfl|apply And.intro))
            all_goals first|rfl|trace_state
        · have hqe:q=g.rules.length:=by omega
          subst hqe
          have hG':=hF.bg
          repeat' first|((first|refine Br.dec ?_ ?_|refine Br.eqi ?_ ?_)<;>intro h<;>try (exfalso;omega))|refine Z0 ?_|with_reducible exact trivial|(refine Br.mk ?_ ?_<;>intro h)|(refine BrN.mk (fun h => ?_) ?_)|(refine AltVC.mk ?_ ?_)
          refine loopK.mk (k+1,al,Lc) Y1 ⟨hG',hLc⟩ (by show 1353 - (k+1)<1353 - k;omega) ?_
          simp only [rfL,List.cons_append,List.nil_append]
          (simp (disch:=first|omega|(simp only [vlen];first|done|omega)) only [Fits_u,Fits_m,Fits_nil,List.length_append,vtt,↓vAq,vBq,↓reduceIte,Nat.reduceBEq,Nat.reduceEqDiff,Nat.reduceLT,Nat.reduceLeDiff,Nat.reduceAdd,Nat.reduceMul,Nat.reduceSub,reduceCtorEq,Int.reduceToNat]<;>(repeat' first|rfl|apply And.intro))
          all_goals first|rfl|trace_state
    · have hke : k = all.length := by omega
      subst hke
      have hcl:=hG.clos
      repeat' first|((first|refine Br.dec ?_ ?_|refine Br.eqi ?_ ?_)<;>intro h<;>try (exfalso;omega))|refine Z0 ?_|with_reducible exact trivial|(refine Br.mk ?_ ?_<;>intro h)|(refine BrN.mk (fun h => ?_) ?_)|(refine AltVC.mk ?_ ?_)
      · refine fin_mk ⟨all,hcl,?_⟩
        rw [if_pos (by omega)]
      · have hSs := srtS_srt hG.nd
        have hSp:(srtS all).Perm all:=srtS_perm
        have hrk:∀ p,rkS all p=rkS (srtS all) p:=fun p=>(rk_perm hSp).symm
        have hSl:(srtS all).length=all.length:=hSp.length_eq
        have hnum:=fun p=>number_spec all p (by omega)
        have hres:all.length≤200→RtR g w (.tu [.ag (thiD (thiT g w (srtS all) (rtR g w))),.v (.bool true)]):=fun h=>⟨all,hcl,by rw [if_neg (by omega)]⟩
        have h200:all.length≤200:=by omega
        have hd0:=hG.hd.2
        have hpos0:=hG.hd.1
        have hn0:=hnum (rtR g w)
        rw [hrk] at hn0
        refine DrawVC.cutT ?_
        refine CutVC.fold 7 6 0 0 true ?_
        repeat' first|((first|refine Br.dec ?_ ?_|refine Br.eqi ?_ ?_)<;>intro h<;>try (exfalso;omega))|refine Z0 ?_|with_reducible exact trivial|(refine Br.mk ?_ ?_<;>intro h)|(refine BrN.mk (fun h => ?_) ?_)|(refine AltVC.mk ?_ ?_)
        refine CutVC.frz 6 ?_
        repeat' first|((first|refine Br.dec ?_ ?_|refine Br.eqi ?_ ?_)<;>intro h<;>try (exfalso;omega))|refine Z0 ?_|with_reducible exact trivial|(refine Br.mk ?_ ?_<;>intro h)|(refine BrN.mk (fun h => ?_) ?_)|(refine AltVC.mk ?_ ?_)
        refine CutVC.mk (X:=Bool) (fun b=>[(2,.ptr 0 4 0 0),(4,.ptr 1 2 0 0),(6,.ptr 4 6 0 0),(19,.ptr (if b then 9 else 8) 2 0 0)]) (fun b=>rfL g w Lb++[(if b then 8 else 9,⟨4,tab4 all.length (sp4 g w (srtS all) []),true,false,.arr⟩),(if b then 9 else 8,⟨2,[[.ref (if b then 8 else 9) 4 0 all.length,iv .i64 (rkS (srtS all) (rtR g w):Nat)]],false,false,.fix⟩)]) (fun _=>True) 10 Y1 ?_ ?_
        · simp only [rfL, List.cons_append, List.nil_append]
          rw [sp4_none]
          repeat' first|((first|refine Br.dec ?_ ?_|refine Br.eqi ?_ ?_)<;>intro h<;>try (exfalso;omega))|(simp (disch:=first|omega|(simp only [vlen];first|done|omega)) only [vtt,hd0,↓vAq,vBq,↓reduceIte,Nat.reduceBEq,Nat.reduceEqDiff,Nat.reduceLT,Nat.reduceLeDiff,Nat.reduceAdd,Nat.reduceMul,Nat.reduceSub,reduceCtorEq,Int.reduceToNat])|(refine Br.mk ?_ ?_<;>intro h)|(refine BrN.mk (fun h => ?_) ?_)|(refine AltVC.mk ?_ ?_)
          all_goals
            refine CallVC.eq hn0 ?_
            repeat' first|((first|refine Br.dec ?_ ?_|refine Br.eqi ?_ ?_)<;>intro h<;>try (exfalso;omega))|refine Z0 ?_|with_reducible exact trivial|(refine Br.mk ?_ ?_<;>intro h)|(refine BrN.mk (fun h => ?_) ?_)|(refine AltVC.mk ?_ ?_)
          all_goals first
            | (refine cutK.mk true Y1 trivial ?_
               simp only [if_true]
               (simp (disch:=first|omega|(simp only [vlen];first|done|omega)) only [Fits_u,Fits_m,Fits_nil,List.length_append,vtt,↓vAq,vBq,↓reduceIte,Nat.reduceBEq,Nat.reduceEqDiff,Nat.reduceLT,Nat.reduceLeDiff,Nat.reduceAdd,Nat.reduceMul,Nat.reduceSub,reduceCtorEq,Int.reduceToNat]<;>(repeat' first|rfl|apply And.intro))
               done)
            | (refine cutK.mk false Y1 trivial ?_
               simp only [Bool.false_eq_true,if_false]
               (simp (disch:=first|omega|(simp only [vlen];first|done|omega)) only [Fits_u,Fits_m,Fits_nil,List.length_append,vtt,↓vAq,vBq,↓reduceIte,Nat.reduceBEq,Nat.reduceEqDiff,Nat.reduceLT,Nat.reduceLeDiff,Nat.reduceAdd,Nat.reduceMul,Nat.reduceSub,reduceCtorEq,Int.reduceToNat]<;>(repeat' first|rfl|apply And.intro))
               done)
            | trace_state
        · rintro b _
          cases b with
          | true =>
            simp only [rfL,List.cons_append,List.nil_append,if_true]
            repeat' first|((first|refine Br.dec ?_ ?_|refine Br.eqi ?_ ?_)<;>intro h<;>try (exfalso;omega))|refine Z0 ?_|with_reducible exact trivial|(refine Br.mk ?_ ?_<;>intro h)|(refine BrN.mk (fun h => ?_) ?_)|(refine AltVC.mk ?_ ?_)
            refine LoopVC.fold 8 9 0 0 true ?_
            repeat' first|((first|refine Br.dec ?_ ?_|refine Br.eqi ?_ ?_)<;>intro h<;>try (exfalso;omega))|refine Z0 ?_|with_reducible exact trivial|(refine Br.mk ?_ ?_<;>intro h)|(refine BrN.mk (fun h => ?_) ?_)|(refine AltVC.mk ?_ ?_)
            have hOm:∀ s,s ∈ all→OkS g w s:=fun s hs=>TRc.ok hc hroot (hG.sd s hs)
            have hKm:∀ s,s ∈ all→∀ x,x ∈ kwS g w s→∀ p,p ∈ x.2→p ∈ all:=fun s hs x hx p hp=>hcl.cl s hs x hx p hp
            have hmS:∀ s,s ∈ all→s ∈ srtS all:=fun s hs=>hSp.mem_iff.2 hs
            have hend:tab4 all.length (sp4 g w (srtS all) all)=tbl spoD ((srtS all).map (spotT g w (srtS all))):=by
              rw [← hSl];exact sp4_all fun s hs=>hSp.mem_iff.1 hs
            have hstep:∀ done s,s ∈ all→(tab4 all.length (sp4 g w (srtS all) done)).set (rkS (srtS all) s) (spoD (spotT g w (srtS all) s))=tab4 all.length (sp4 g w (srtS all) (done++[s])):=fun done s hs=>by
              rw [← hSl];exact sp4_step hSs (hmS s hs)
            have hrl:∀ s,s ∈ all→rkS (srtS all) s<all.length:=fun s hs=>by rw [← hSl];exact (rk_mem hSs (hmS s hs)).1
            have hres2:=hres h200
            have hthi:thiD (thiT g w (srtS all) (rtR g w))=[.sl 4 (tbl spoD ((srtS all).map (spotT g w (srtS all)))),iv .i64 (rkS (srtS all) (rtR g w):Nat)]:=rfl
            rw [hthi] at hres2
            clear hres hG
            generalize hS:srtS all=S at *
            generalize hRK:rkS S (rtR g w)=RK at *
            refine LoopVC.mk (X:=Nat × List BE) (fun x=>[(2,.ptr 0 4 0 0),(4,.ptr 1 2 0 0),(6,.ptr 4 6 0 0),(19,.ptr 9 2 0 0),(130,iv .i64 x.1)]) (fun x=>rfL g w x.2++[(9,⟨2,[[.own false 4 (tab4 all.length (sp4 g w S (all.take x.1))),iv .i64 RK]],true,true,.fix⟩)]) (fun x=>all.length - x.1) (fun x=>x.1≤all.length∧BI g w x.2) (0,Lb) ⟨Nat.zero_le _,hLb⟩ ?_ ?_
            · simp only [rfL,List.cons_append,List.nil_append,List.take_zero]
              (simp (disch:=first|omega|(simp only [vlen];first|done|omega)) only [Fits_u,Fits_m,Fits_nil,List.length_append,vtt,↓vAq,vBq,↓reduceIte,Nat.reduceBEq,Nat.reduceEqDiff,Nat.reduceLT,Nat.reduceLeDiff,Nat.reduceAdd,Nat.reduceMul,Nat.reduceSub,reduceCtorEq,Int.reduceToNat]<;>(repeat' first|rfl|apply And.intro))
              all_goals first|rfl|trace_state
            · rintro ⟨a, Lc⟩ ⟨ha, hLc⟩
              simp only at ha hLc
              simp only [rfL,List.cons_append,List.nil_append]
              by_cases hal:a<all.length
              · have hsm := getD_mem' (l := all) (i := a) hal
                obtain ⟨o1,o2,o3,o4⟩:=hOm _ hsm
                have hst2:=hstep (all.take a) _ hsm
                have htk:all.take (a+1)=all.take a++[all.getD a default]:=take_succ_getD hal default
                have hrs:=hrl _ hsm
                have hkid:=hKm _ hsm
                generalize hse:all.getD a default=s at *
                rw [← htk] at hst2
                repeat' first|((first|refine Br.dec ?_ ?_|refine Br.eqi ?_ ?_)<;>intro h<;>try (exfalso;omega))|refine Z38 ?_|with_reducible exact trivial|(refine Br.mk ?_ ?_<;>intro h)|(refine BrN.mk (fun h => ?_) ?_)|(refine AltVC.mk ?_ ?_)
                refine LoopVC.nlo 11 0 3 1 ?_
                repeat' first|((first|refine Br.dec ?_ ?_|refine Br.eqi ?_ ?_)<;>intro h<;>try (exfalso;omega))|refine Z0 ?_|with_reducible exact trivial|(refine Br.mk ?_ ?_<;>intro h)|(refine BrN.mk (fun h => ?_) ?_)|(refine AltVC.mk ?_ ?_)
                refine LoopVC.mk (X:=Nat × List BE) (fun x=>[(2,.ptr 0 4 0 0),(4,.ptr 1 2 0 0),(6,.ptr 4 6 0 0),(19,.ptr 9 2 0 0),(21,.ptr 10 3 0 0),(22,.ptr 11 4 0 0),(144,iv .i64 x.1)]) (fun x=>rfL g w x.2++[(9,⟨2,[[.own false 4 (tab4 all.length (sp4 g w S (all.take a))),iv .i64 RK]],true,true,.fix⟩),(10,⟨3,[[iv .i64 s.1,iv .i64 s.2.1,iv .i64 s.2.2]],true,false,.fix⟩),(11,⟨4,[[iv .i64 s.2.2,iv .i64 s.1,iv .i64 s.2.1,.own false 1 (rows i64s ((kwN g w s x.1).map (wayN S)))]],true,true,.fix⟩)]) (fun x=>g.rules.length - x.1) (fun x=>x.1≤g.rules.length∧BI g w x.2∧(kwN g w s x.1).length≤28561 * x.1) (0,Lc) ⟨Nat.zero_le _,hLc,by simp [kwN]⟩ ?_ ?_
                · simp only [rfL,List.cons_append,List.nil_append]
                  (simp (disch:=first|omega|(simp only [vlen];first|done|omega)) only [Fits_u,Fits_m,Fits_nil,List.length_append,vtt,↓vAq,vBq,↓reduceIte,Nat.reduceBEq,Nat.reduceEqDiff,Nat.reduceLT,Nat.reduceLeDiff,Nat.reduceAdd,Nat.reduceMul,Nat.reduceSub,reduceCtorEq,Int.reduceToNat]<;>(repeat' first|rfl|apply And.intro))
                  all_goals first|rfl|trace_state
                · rintro ⟨q, Ld⟩ ⟨hq, hLd, hql⟩
                  simp only at hq hLd hql
                  simp only [rfL,List.cons_append,List.nil_append]
                  by_cases hqn:q<g.rules.length
                  · have hlq:=hleft q hqn
                    have hmem:=getD_mem' (l:=g.rules) (i:=q) hqn
                    have hmr:=hc.v.long _ hmem
                    have hpr:=(hc.p _ hmem).1
                    have hrt:=hc.v.right _ hmem
                    have hsu:=@kwN_succ g w s q
                    by_cases hlx:g.k+(g.rules.getD q default).left=s.2.2
                    · have hsp:=splits_spec2 g w hc _ hmr hrt s.1 s.2.1 o1 o2 Ld hLd
                      have hsl:(splN g w (g.rules.getD q default).right s.1 s.2.1).length≤28561:=Nat.le_trans (splN_len (by omega)) (Nat.le_trans (Nat.pow_le_pow_right (by omega) hmr) (by decide))
                      unfold kwQ at hsu
                      rw [if_pos hlx] at hsu
                      repeat' first|((first|refine Br.dec ?_ ?_|refine Br.eqi ?_ ?_)<;>intro h<;>try (exfalso;omega))|refine Z0 ?_|with_reducible exact trivial|(refine Br.mk ?_ ?_<;>intro h)|(refine BrN.mk (fun h => ?_) ?_)|(refine AltVC.mk ?_ ?_)
                      refine CallVC.lendE [4,3] [.ptr 0 6 0 0,.sl 1 (i64s (g.rules.getD q default).right),iv .i64 s.1,iv .i64 s.2.1] (buO g w Ld) hsp (by simp) (by rfl) Y23 ?_
                      rintro _ _ ⟨Le,rfl,rfl,hLe⟩
                      unfold buO
                      repeat' first|((first|refine Br.dec ?_ ?_|refine Br.eqi ?_ ?_)<;>intro h<;>try (exfalso;omega))|refine Z0 ?_|with_reducible exact trivial|(refine Br.mk ?_ ?_<;>intro h)|(refine BrN.mk (fun h => ?_) ?_)|(refine AltVC.mk ?_ ?_)
                      have hwd:∀ es,wyD (g.rules.getD q default).right s.1 es=[.sl 3 (tbl stD (wyS (g.rules.getD q default).right s.1 es))]:=fun es=>by unfold wyD;rw [if_neg hpr]
                      have hwl:∀ es,(wyS (g.rules.getD q default).right s.1 es).length≤4:=fun es=>Nat.le_trans wyS_len hmr
                      have hkp:∀ es,es ∈ splN g w (g.rules.getD q default).right s.1 s.2.1→∀ p,p ∈ wyS (g.rules.getD q default).right s.1 es→p ∈ all:=fun es hes p hp=>hkid _ (kw_mem.2 ⟨q,es,hqn,hlx,hes,rfl⟩) p hp
                      generalize (g.rules.getD q default).right=rt at *
                      generalize splN g w rt s.1 s.2.1=Sp at *
                      generalize hKq:kwN g w s q=Kq at *
                      refine LoopVC.mk (X:=Nat) (fun c=>[(2,.ptr 0 4 0 0),(4,.ptr 1 2 0 0),(6,.ptr 4 6 0 0),(19,.ptr 9 2 0 0),(21,.ptr 10 3 0 0),(22,.ptr 11 4 0 0),(166,iv .i64 c)]) (fun c=>rfL g w Le++[(9,⟨2,[[.own false 4 (tab4 all.length (sp4 g w S (all.take a))),iv .i64 RK]],true,true,.fix⟩),(10,⟨3,[[iv .i64 s.1,iv .i64 s.2.1,iv .i64 s.2.2]],true,false,.fix⟩),(11,⟨4,[[iv .i64 s.2.2,iv .i64 s.1,iv .i64 s.2.1,.own false 1 (rows i64s (roW S Kq q rt s.1 Sp c))]],true,true,.fix⟩)]) (fun c=>Sp.length - c) (fun c=>c≤Sp.length) 0 (Nat.zero_le _) ?_ ?_
                      · simp only [rfL,List.cons_append,List.nil_append]
                        rw [roW_zero]
                        (simp (disch:=first|omega|(simp only [vlen];first|done|omega)) only [Fits_u,Fits_m,Fits_nil,List.length_append,vtt,↓vAq,vBq,↓reduceIte,Nat.reduceBEq,Nat.reduceEqDiff,Nat.reduceLT,Nat.reduceLeDiff,Nat.reduceAdd,Nat.reduceMul,Nat.reduceSub,reduceCtorEq,Int.reduceToNat]<;>(repeat' first|rfl|apply And.intro))
                        all_goals first|rfl|trace_state
                      · intro c hcs
                        simp only [rfL,List.cons_append,List.nil_append]
                        have hlen1:=roW_len (S:=S) (Kq:=Kq) (q:=q) (rt:=rt) (i:=s.1) hcs
                        by_cases hcl:c<Sp.length
                        · have hem:=getD_mem' (l:=Sp) (i:=c) hcl
                          have hsucc:=roW_succ (S:=S) (Kq:=Kq) (q:=q) (rt:=rt) (i:=s.1) hcl
                          have hkp2:=hkp _ hem
                          have hwl2:=hwl (Sp.getD c default)
                          have hwd2:=hwd (Sp.getD c default)
                          generalize hes:Sp.getD c default=es at *
                          generalize wyS rt s.1 es=l at *
                          generalize hRo:roW S Kq q rt s.1 Sp c=Ro at *
                          repeat' first|((first|refine Br.dec ?_ ?_|refine Br.eqi ?_ ?_)<;>intro h<;>try (exfalso;omega))|refine Z29 ?_|with_reducible exact trivial|(refine Br.mk ?_ ?_<;>intro h)|(refine BrN.mk (fun h => ?_) ?_)|(refine AltVC.mk ?_ ?_)
                          refine LoopVC.mk (X:=Nat) (fun e=>[(2,.ptr 0 4 0 0),(4,.ptr 1 2 0 0),(6,.ptr 4 6 0 0),(19,.ptr 9 2 0 0),(21,.ptr 10 3 0 0),(22,.ptr 11 4 0 0),(27,.ref 13 1 0 (e+1)),(174,iv .i64 e)]) (fun e=>rfL g w Le++[(9,⟨2,[[.own false 4 (tab4 all.length (sp4 g w S (all.take a))),iv .i64 RK]],true,true,.fix⟩),(10,⟨3,[[iv .i64 s.1,iv .i64 s.2.1,iv .i64 s.2.2]],true,false,.fix⟩),(11,⟨4,[[iv .i64 s.2.2,iv .i64 s.1,iv .i64 s.2.1,.own false 1 (rows i64s Ro)]],true,true,.fix⟩),(13,⟨1,i64s (wayP S q l e),true,false,.arr⟩)]) (fun e=>l.length - e) (fun e=>e≤l.length) 0 (Nat.zero_le _) ?_ ?_
                          · simp only [rfL,List.cons_append,List.nil_append]
                            rw [wayP_zero]
                            (simp (disch:=first|omega|(simp only [vlen];first|done|omega)) only [Fits_u,Fits_m,Fits_nil,List.length_append,vtt,↓vAq,vBq,↓reduceIte,Nat.reduceBEq,Nat.reduceEqDiff,Nat.reduceLT,Nat.reduceLeDiff,Nat.reduceAdd,Nat.reduceMul,Nat.reduceSub,reduceCtorEq,Int.reduceToNat]<;>(repeat' first|rfl|apply And.intro))
                            all_goals first|rfl|trace_state
                          · intro e hel
                            simp only [rfL,List.cons_append,List.nil_append]
                            have hwpl:=wayP_len (S:=S) (q:=q) hel
                            by_cases hecl:e<l.length
                            · have hws:=wayP_succ (S:=S) (q:=q) hecl
                              have hnp:=hnum (l.getD e default)
                              rw [hrk] at hnp
                              generalize hye:l.getD e default=y at *
                              repeat' first|((first|refine Br.dec ?_ ?_|refine Br.eqi ?_ ?_)<;>intro h<;>try (exfalso;omega))|refine Z39 ?_|with_reducible exact trivial|(refine Br.mk ?_ ?_<;>intro h)|(refine BrN.mk (fun h => ?_) ?_)|(refine AltVC.mk ?_ ?_)
                              refine CallVC.eq hnp ?_
                              repeat' first|((first|refine Br.dec ?_ ?_|refine Br.eqi ?_ ?_)<;>intro h<;>try (exfalso;omega))|refine Z13 ?_|with_reducible exact trivial|(refine Br.mk ?_ ?_<;>intro h)|(refine BrN.mk (fun h => ?_) ?_)|(refine AltVC.mk ?_ ?_)
                              refine loopK.mk (e+1) Y1 (by omega) (by omega) ?_
                              try simp only [rfL,List.cons_append,List.nil_append]
                              rw [hws]
                              (simp (disch:=first|omega|(simp only [vlen];first|done|omega)) only [Fits_u,Fits_m,Fits_nil,List.length_append,vtt,hwpl,↓vAq,vBq,↓reduceIte,Nat.reduceBEq,Nat.reduceEqDiff,Nat.reduceLT,Nat.reduceLeDiff,Nat.reduceAdd,Nat.reduceMul,Nat.reduceSub,reduceCtorEq,Int.reduceToNat]<;>(repeat' first|rfl|apply And.intro))
                              all_goals first|rfl|trace_state
                            · have hee:e=l.length:=by omega
                              subst hee
                              rw [wayP_all] at hwpl ⊢
                              have hrm:rows i64s (Ro++[wayN S (q,l)])=rows i64s Ro++[[.sl 1 (i64s (wayN S (q,l)))]]:=rows_app
                              repeat' first|((first|refine Br.dec ?_ ?_|refine Br.eqi ?_ ?_)<;>intro h<;>try (exfalso;omega))|refine Z40 ?_|with_reducible exact trivial|(refine Br.mk ?_ ?_<;>intro h)|(refine BrN.mk (fun h => ?_) ?_)|(refine AltVC.mk ?_ ?_)
                              refine loopK.frz 13 ?_
                              repeat' first|((first|refine Br.dec ?_ ?_|refine Br.eqi ?_ ?_)<;>intro h<;>try (exfalso;omega))|refine Z13 ?_|with_reducible exact trivial|(refine Br.mk ?_ ?_<;>intro h)|(refine BrN.mk (fun h => ?_) ?_)|(refine AltVC.mk ?_ ?_)
                              refine loopK.flt 14 ?_
                              repeat' first|((first|refine Br.dec ?_ ?_|refine Br.eqi ?_ ?_)<;>intro h<;>try (exfalso;omega))|refine Z13 ?_|with_reducible exact trivial|(refine Br.mk ?_ ?_<;>intro h)|(refine BrN.mk (fun h => ?_) ?_)|(refine AltVC.mk ?_ ?_)
                              refine loopK.fold 14 11 0 3 true ?_
                              repeat' first|((first|refine Br.dec ?_ ?_|refine Br.eqi ?_ ?_)<;>intro h<;>try (exfalso;omega))|refine Z13 ?_|with_reducible exact trivial|(refine Br.mk ?_ ?_<;>intro h)|(refine BrN.mk (fun h => ?_) ?_)|(refine AltVC.mk ?_ ?_)
                              refine loopK.mk (c+1) Y1 (by omega) (by omega) ?_
                              try simp only [rfL,List.cons_append,List.nil_append]
                              rw [hsucc,hrm]
                              (simp (disch:=first|omega|(simp only [vlen];first|done|omega)) only [Fits_u,Fits_m,Fits_nil,List.length_append,vtt,hwpl,hlen1,↓vAq,vBq,↓reduceIte,Nat.reduceBEq,Nat.reduceEqDiff,Nat.reduceLT,Nat.reduceLeDiff,Nat.reduceAdd,Nat.reduceMul,Nat.reduceSub,reduceCtorEq,Int.reduceToNat]<;>(repeat' first|rfl|apply And.intro))
                              all_goals first|rfl|trace_state
                        · have hce:c=Sp.length:=by omega
                          subst hce
                          rw [roW_all,← hsu] at hlen1 ⊢
                          repeat' first|((first|refine Br.dec ?_ ?_|refine Br.eqi ?_ ?_)<;>intro h<;>try (exfalso;omega))|refine Z0 ?_|with_reducible exact trivial|(refine Br.mk ?_ ?_<;>intro h)|(refine BrN.mk (fun h => ?_) ?_)|(refine AltVC.mk ?_ ?_)
                          refine loopK.mk (q+1,Le) Y1 ⟨by show q+1≤g.rules.length;omega,hLe,by show (kwN g w s (q+1)).length≤28561 * (q+1);rw [List.length_map] at hlen1;omega⟩ (by show g.rules.length - (q+1)<g.rules.length - q;omega) ?_
                          simp only [rfL,List.cons_append,List.nil_append]
                          (simp (disch:=first|omega|(simp only [vlen];first|done|omega)) only [Fits_u,Fits_m,Fits_nil,List.length_append,vtt,↓vAq,vBq,↓reduceIte,Nat.reduceBEq,Nat.reduceEqDiff,Nat.reduceLT,Nat.reduceLeDiff,Nat.reduceAdd,Nat.reduceMul,Nat.reduceSub,reduceCtorEq,Int.reduceToNat]<;>(repeat' first|rfl|apply And.intro))
                          all_goals first|rfl|trace_state
                    · unfold kwQ at hsu
                      rw [if_neg hlx,List.append_nil] at hsu
                      repeat' first|((first|refine Br.dec ?_ ?_|refine Br.eqi ?_ ?_)<;>intro h<;>try (exfalso;omega))|refine Z0 ?_|with_reducible exact trivial|(refine Br.mk ?_ ?_<;>intro h)|(refine BrN.mk (fun h => ?_) ?_)|(refine AltVC.mk ?_ ?_)
                      refine loopK.mk (q+1,Ld) Y1 ⟨by show q+1≤g.rules.length;omega,hLd,by show (kwN g w s (q+1)).length≤28561 * (q+1);rw [hsu];omega⟩ (by show g.rules.length - (q+1)<g.rules.length - q;omega) ?_
                      simp only [rfL,List.cons_append,List.nil_append]
                      rw [hsu]
                      (simp (disch:=first|omega|(simp only [vlen];first|done|omega)) only [Fits_u,Fits_m,Fits_nil,List.length_append,vtt,↓vAq,vBq,↓reduceIte,Nat.reduceBEq,Nat.reduceEqDiff,Nat.reduceLT,Nat.reduceLeDiff,Nat.reduceAdd,Nat.reduceMul,Nat.reduceSub,reduceCtorEq,Int.reduceToNat]<;>(repeat' first|rfl|apply And.intro))
                      all_goals first|rfl|trace_state
                  · have hqe : q = g.rules.length := by omega
                    subst hqe
                    have hKe:kwN g w s g.rules.length=kwS g w s:=rfl
                    have hspt:spoD (spotT g w S s)=[iv .i64 s.2.2,iv .i64 s.1,iv .i64 s.2.1,.sl 1 (rows i64s (srtW ((kwS g w s).map (wayN S))))]:=rfl
                    have hR0l:∀ r,r ∈ (kwS g w s).map (wayN S)→r.length≤1000:=fun r hr=>by
                      obtain ⟨x,hx,rfl⟩:=List.mem_map.1 hr
                      obtain ⟨q,es,_,_,_,rfl⟩:=kw_mem.1 hx
                      rw [wayN_len]
                      have h1:=@wyS_len (g.rules.getD q default).right s.1 es
                      have h2:=hc.v.long _ (getD_mem' (l:=g.rules) (i:=q) (by assumption))
                      simp only at h1 ⊢;omega
                    have hlenK:((kwS g w s).map (wayN S)).length≤285610:=by rw [List.length_map,← hKe];omega
                    rw [hKe]
                    clear hql hKe
                    generalize (kwS g w s).map (wayN S)=R0 at *
                    repeat' first|((first|refine Br.dec ?_ ?_|refine Br.eqi ?_ ?_)<;>intro h<;>try (exfalso;omega))|refine Z0 ?_|with_reducible exact trivial|(refine Br.mk ?_ ?_<;>intro h)|(refine BrN.mk (fun h => ?_) ?_)|(refine AltVC.mk ?_ ?_)
                    refine LoopVC.mk (X:=Nat × Ww) (fun x=>[(2,.ptr 0 4 0 0),(4,.ptr 1 2 0 0),(6,.ptr 4 6 0 0),(19,.ptr 9 2 0 0),(21,.ptr 10 3 0 0),(22,.ptr 11 4 0 0),(30,iv .i64 x.1)]) (fun x=>rfL g w Ld++[(9,⟨2,[[.own false 4 (tab4 all.length (sp4 g w S (all.take a))),iv .i64 RK]],true,true,.fix⟩),(10,⟨3,[[iv .i64 s.1,iv .i64 s.2.1,iv .i64 s.2.2]],true,false,.fix⟩),(11,⟨4,[[iv .i64 s.2.2,iv .i64 s.1,iv .i64 s.2.1,.own false 1 (rows i64s x.2)]],true,true,.fix⟩)]) (fun x=>R0.length - x.1) (fun x=>1≤x.1∧x.2.Perm R0∧OrdW x.2 x.1) (1,R0) ⟨Nat.le_refl _,.refl _,fun p q hp hq=>by omega⟩ ?_ ?_
                    · simp only [rfL,List.cons_append,List.nil_append]
                      (simp (disch:=first|omega|(simp only [vlen];first|done|omega)) only [Fits_u,Fits_m,Fits_nil,List.length_append,vtt,↓vAq,vBq,↓reduceIte,Nat.reduceBEq,Nat.reduceEqDiff,Nat.reduceLT,Nat.reduceLeDiff,Nat.reduceAdd,Nat.reduceMul,Nat.reduceSub,reduceCtorEq,Int.reduceToNat]<;>(repeat' first|rfl|apply And.intro))
                      all_goals first|rfl|trace_state
                    · rintro ⟨m, R⟩ ⟨hm1, hRp, hRo⟩
                      simp only at hm1 hRp hRo
                      have hRl:=hRp.length_eq
                      simp only [rfL,List.cons_append,List.nil_append]
                      by_cases hml:m<R.length
                      · repeat' first | ((first | refine Br.dec ?_ ?_ | refine Br.eqi ?_ ?_) <;> intro h <;> try (exfalso; omega)) | refine Z0 ?_ | with_reducible exact trivial | (refine Br.mk ?_ ?_ <;> intro h) | (refine BrN.mk (fun h => ?_) ?_) | (refine AltVC.mk ?_ ?_)
                        refine LoopVC.fold 12 11 0 3 true ?_
                        repeat' first|((first|refine Br.dec ?_ ?_|refine Br.eqi ?_ ?_)<;>intro h<;>try (exfalso;omega))|refine Z0 ?_|with_reducible exact trivial|(refine Br.mk ?_ ?_<;>intro h)|(refine BrN.mk (fun h => ?_) ?_)|(refine AltVC.mk ?_ ?_)
                        refine LoopVC.mk (X:=Nat × Ww) (fun x=>[(2,.ptr 0 4 0 0),(4,.ptr 1 2 0 0),(6,.ptr 4 6 0 0),(19,.ptr 9 2 0 0),(21,.ptr 10 3 0 0),(22,.ptr 11 4 0 0),(31,iv .i64 x.1)]) (fun x=>rfL g w Ld++[(9,⟨2,[[.own false 4 (tab4 all.length (sp4 g w S (all.take a))),iv .i64 RK]],true,true,.fix⟩),(10,⟨3,[[iv .i64 s.1,iv .i64 s.2.1,iv .i64 s.2.2]],true,false,.fix⟩),(11,⟨4,[[iv .i64 s.2.2,iv .i64 s.1,iv .i64 s.2.1,.own false 1 (rows i64s x.2)]],true,true,.fix⟩)]) (fun x=>x.1) (fun x=>x.1≤m∧x.2.Perm R0∧InsW x.2 m x.1) (m,R) ⟨Nat.le_refl _,hRp,InsW.start hRo⟩ ?_ ?_
                        · simp only [rfL,List.cons_append,List.nil_append]
                          (simp (disch:=first|omega|(simp only [vlen];first|done|omega)) only [Fits_u,Fits_m,Fits_nil,List.length_append,vtt,↓vAq,vBq,↓reduceIte,Nat.reduceBEq,Nat.reduceEqDiff,Nat.reduceLT,Nat.reduceLeDiff,Nat.reduceAdd,Nat.reduceMul,Nat.reduceSub,reduceCtorEq,Int.reduceToNat]<;>(repeat' first|rfl|apply And.intro))
                          all_goals first|rfl|trace_state
                        · rintro ⟨c,Q⟩ ⟨hcm,hQp,hQi⟩
                          simp only at hcm hQp hQi
                          have hQl:=hQp.length_eq
                          simp only [rfL,List.cons_append,List.nil_append]
                          cases c with
                          | zero =>
                            have hord:=InsW.end0 hQi
                            repeat' first|((first|refine Br.dec ?_ ?_|refine Br.eqi ?_ ?_)<;>intro h<;>try (exfalso;omega))|refine Z0 ?_|with_reducible exact trivial|(refine Br.mk ?_ ?_<;>intro h)|(refine BrN.mk (fun h => ?_) ?_)|(refine AltVC.mk ?_ ?_)
                            refine loopK.mk (m+1,Q) Y1 ⟨by show 1≤m+1;omega,hQp,hord⟩ (by show R0.length - (m+1)<R0.length - m;omega) ?_
                            try simp only [rfL,List.cons_append,List.nil_append]
                            (simp (disch:=first|omega|(simp only [vlen];first|done|omega)) only [Fits_u,Fits_m,Fits_nil,List.length_append,vtt,↓vAq,vBq,↓reduceIte,Nat.reduceBEq,Nat.reduceEqDiff,Nat.reduceLT,Nat.reduceLeDiff,Nat.reduceAdd,Nat.reduceMul,Nat.reduceSub,reduceCtorEq,Int.reduceToNat]<;>(repeat' first|rfl|apply And.intro))
                            all_goals first|rfl|trace_state
                          | succ b =>
                            have hls:=lesser_spec (Q.getD (b+1) default) (Q.getD b default) (hR0l _ (hQp.mem_iff.1 (getD_mem' (l:=Q) (i:=b+1) (by omega)))) (hR0l _ (hQp.mem_iff.1 (getD_mem' (l:=Q) (i:=b) (by omega))))
                            by_cases hlt:wlt (Q.getD (b+1) default) (Q.getD b default)
                            · have hsw:=InsW.swap hQi hcm (by omega) hlt
                              rw [show decide (lcmp (Q.getD (b+1) default) (Q.getD b default)<0)=true from decide_eq_true hlt] at hls
                              repeat' first|((first|refine Br.dec ?_ ?_|refine Br.eqi ?_ ?_)<;>intro h<;>try (exfalso;omega))|refine Z0 ?_|with_reducible exact trivial|(refine Br.mk ?_ ?_<;>intro h)|(refine BrN.mk (fun h => ?_) ?_)|(refine AltVC.mk ?_ ?_)
                              refine CallVC.eq hls ?_
                              repeat' first|((first|refine Br.dec ?_ ?_|refine Br.eqi ?_ ?_)<;>intro h<;>try (exfalso;omega))|refine Z0 ?_|with_reducible exact trivial|(refine Br.mk ?_ ?_<;>intro h)|(refine BrN.mk (fun h => ?_) ?_)|(refine AltVC.mk ?_ ?_)
                              refine DrawVC.t ?_
                              repeat' first|((first|refine Br.dec ?_ ?_|refine Br.eqi ?_ ?_)<;>intro h<;>try (exfalso;omega))|refine Z0 ?_|with_reducible exact trivial|(refine Br.mk ?_ ?_<;>intro h)|(refine BrN.mk (fun h => ?_) ?_)|(refine AltVC.mk ?_ ?_)
                              all_goals
                                refine loopK.fold 13 11 0 3 true ?_
                                repeat' first|((first|refine Br.dec ?_ ?_|refine Br.eqi ?_ ?_)<;>intro h<;>try (exfalso;omega))|refine Z0 ?_|with_reducible exact trivial|(refine Br.mk ?_ ?_<;>intro h)|(refine BrN.mk (fun h => ?_) ?_)|(refine AltVC.mk ?_ ?_)
                                refine loopK.mk (b,iwp Q b) Y1 ⟨by show b≤m;omega,(iwp_perm (by omega)).trans hQp,hsw⟩ (by show b<b+1;omega) ?_
                                try simp only [rfL,List.cons_append,List.nil_append]
                                rw [rows_iwp]
                                (simp (disch:=first|omega|(simp only [vlen];first|done|omega)) only [Fits_u,Fits_m,Fits_nil,List.length_append,vtt,↓vAq,vBq,↓reduceIte,Nat.reduceBEq,Nat.reduceEqDiff,Nat.reduceLT,Nat.reduceLeDiff,Nat.reduceAdd,Nat.reduceMul,Nat.reduceSub,reduceCtorEq,Int.reduceToNat]<;>(repeat' first|rfl|apply And.intro))
                                all_goals first|rfl|trace_state
                            · have hord:=InsW.ends hQi hcm hlt
                              rw [show decide (lcmp (Q.getD (b+1) default) (Q.getD b default)<0)=false from decide_eq_false hlt] at hls
                              repeat' first|((first|refine Br.dec ?_ ?_|refine Br.eqi ?_ ?_)<;>intro h<;>try (exfalso;omega))|refine Z0 ?_|with_reducible exact trivial|(refine Br.mk ?_ ?_<;>intro h)|(refine BrN.mk (fun h => ?_) ?_)|(refine AltVC.mk ?_ ?_)
                              refine CallVC.eq hls ?_
                              repeat' first|((first|refine Br.dec ?_ ?_|refine Br.eqi ?_ ?_)<;>intro h<;>try (exfalso;omega))|refine Z0 ?_|with_reducible exact trivial|(refine Br.mk ?_ ?_<;>intro h)|(refine BrN.mk (fun h => ?_) ?_)|(refine AltVC.mk ?_ ?_)
                              refine loopK.fold 13 11 0 3 true ?_
                              repeat' first|((first|refine Br.dec ?_ ?_|refine Br.eqi ?_ ?_)<;>intro h<;>try (exfalso;omega))|refine Z0 ?_|with_reducible exact trivial|(refine Br.mk ?_ ?_<;>intro h)|(refine BrN.mk (fun h => ?_) ?_)|(refine AltVC.mk ?_ ?_)
                              refine loopK.mk (m+1,Q) Y1 ⟨by show 1≤m+1;omega,hQp,hord⟩ (by show R0.length - (m+1)<R0.length - m;omega) ?_
                              try simp only [rfL,List.cons_append,List.nil_append]
                              (simp (disch:=first|omega|(simp only [vlen];first|done|omega)) only [Fits_u,Fits_m,Fits_nil,List.length_append,vtt,↓vAq,vBq,↓reduceIte,Nat.reduceBEq,Nat.reduceEqDiff,Nat.reduceLT,Nat.reduceLeDiff,Nat.reduceAdd,Nat.reduceMul,Nat.reduceSub,reduceCtorEq,Int.reduceToNat]<;>(repeat' first|rfl|apply And.intro))
                              all_goals first|rfl|trace_state
                      · have hsr : R = srtW R0 := srtW_of hRp (OrdW.srt fun p q hp hq => hRo p q hp (by omega))
                        rw [← hsr] at hspt
                        rw [hspt] at hst2
                        have hns:=hnum s
                        rw [hrk] at hns
                        repeat' first|((first|refine Br.dec ?_ ?_|refine Br.eqi ?_ ?_)<;>intro h<;>try (exfalso;omega))|refine Z0 ?_|with_reducible exact trivial|(refine Br.mk ?_ ?_<;>intro h)|(refine BrN.mk (fun h => ?_) ?_)|(refine AltVC.mk ?_ ?_)
                        refine DrawVC.t ?_
                        repeat' first|((first|refine Br.dec ?_ ?_|refine Br.eqi ?_ ?_)<;>intro h<;>try (exfalso;omega))|refine Z0 ?_|with_reducible exact trivial|(refine Br.mk ?_ ?_<;>intro h)|(refine BrN.mk (fun h => ?_) ?_)|(refine AltVC.mk ?_ ?_)
                        all_goals first
                          | (refine CallVC.eq hns ?_
                             repeat' first|((first|refine Br.dec ?_ ?_|refine Br.eqi ?_ ?_)<;>intro h<;>try (exfalso;omega))|refine Z0 ?_|with_reducible exact trivial|(refine Br.mk ?_ ?_<;>intro h)|(refine BrN.mk (fun h => ?_) ?_)|(refine AltVC.mk ?_ ?_))
                          | (refine GhoV.fold 12 11 0 3 true ?_
                             repeat' first|((first|refine Br.dec ?_ ?_|refine Br.eqi ?_ ?_)<;>intro h<;>try (exfalso;omega))|refine Z0 ?_|with_reducible exact trivial|(refine Br.mk ?_ ?_<;>intro h)|(refine BrN.mk (fun h => ?_) ?_)|(refine AltVC.mk ?_ ?_)
                             refine GhoV.frz 11 ?_
                             repeat' first|((first|refine Br.dec ?_ ?_|refine Br.eqi ?_ ?_)<;>intro h<;>try (exfalso;omega))|refine Z0 ?_|with_reducible exact trivial|(refine Br.mk ?_ ?_<;>intro h)|(refine BrN.mk (fun h => ?_) ?_)|(refine AltVC.mk ?_ ?_)
                             refine GhoV.go ?_
                             repeat' first|((first|refine Br.dec ?_ ?_|refine Br.eqi ?_ ?_)<;>intro h<;>try (exfalso;omega))|refine Z0 ?_|with_reducible exact trivial|(refine Br.mk ?_ ?_<;>intro h)|(refine BrN.mk (fun h => ?_) ?_)|(refine AltVC.mk ?_ ?_))
                        all_goals first
                          | (refine CallVC.eq hns ?_
                             repeat' first|((first|refine Br.dec ?_ ?_|refine Br.eqi ?_ ?_)<;>intro h<;>try (exfalso;omega))|refine Z0 ?_|with_reducible exact trivial|(refine Br.mk ?_ ?_<;>intro h)|(refine BrN.mk (fun h => ?_) ?_)|(refine AltVC.mk ?_ ?_))
                          | (refine GhoV.fold 12 11 0 3 true ?_
                             repeat' first|((first|refine Br.dec ?_ ?_|refine Br.eqi ?_ ?_)<;>intro h<;>try (exfalso;omega))|refine Z0 ?_|with_reducible exact trivial|(refine Br.mk ?_ ?_<;>intro h)|(refine BrN.mk (fun h => ?_) ?_)|(refine AltVC.mk ?_ ?_)
                             refine GhoV.frz 11 ?_
                             repeat' first|((first|refine Br.dec ?_ ?_|refine Br.eqi ?_ ?_)<;>intro h<;>try (exfalso;omega))|refine Z0 ?_|with_reducible exact trivial|(refine Br.mk ?_ ?_<;>intro h)|(refine BrN.mk (fun h => ?_) ?_)|(refine AltVC.mk ?_ ?_)
                             refine GhoV.go ?_
                             repeat' first|((first|refine Br.dec ?_ ?_|refine Br.eqi ?_ ?_)<;>intro h<;>try (exfalso;omega))|refine Z0 ?_|with_reducible exact trivial|(refine Br.mk ?_ ?_<;>intro h)|(refine BrN.mk (fun h => ?_) ?_)|(refine AltVC.mk ?_ ?_))
                        all_goals
                          refine loopK.fold 13 9 0 0 true ?_
                          repeat' first|((first|refine Br.dec ?_ ?_|refine Br.eqi ?_ ?_)<;>intro h<;>try (exfalso;omega))|refine Z0 ?_|with_reducible exact trivial|(refine Br.mk ?_ ?_<;>intro h)|(refine BrN.mk (fun h => ?_) ?_)|(refine AltVC.mk ?_ ?_)
                          refine loopK.mk (a+1,Ld) Y1 ⟨by show a+1≤all.length;omega,hLd⟩ (by show all.length - (a+1)<all.length - a;omega) ?_
                          try simp only [rfL,List.cons_append,List.nil_append]
                          rw [← hst2]
                          (simp (disch:=first|omega|(simp only [vlen];first|done|omega)) only [Fits_u,Fits_m,Fits_nil,List.length_append,vtt,↓vAq,vBq,↓reduceIte,Nat.reduceBEq,Nat.reduceEqDiff,Nat.reduceLT,Nat.reduceLeDiff,Nat.reduceAdd,Nat.reduceMul,Nat.reduceSub,reduceCtorEq,Int.reduceToNat]<;>(repeat' first|rfl|apply And.intro))
                          all_goals first|rfl|trace_state
              · have hae:a=all.length:=by omega
                subst hae
                rw [List.take_length,hend]
                repeat' first|((first|refine Br.dec ?_ ?_|refine Br.eqi ?_ ?_)<;>intro h<;>try (exfalso;omega))|refine Z0 ?_|with_reducible exact trivial|(refine Br.mk ?_ ?_<;>intro h)|(refine BrN.mk (fun h => ?_) ?_)|(refine AltVC.mk ?_ ?_)
                refine GhoV.frz 9 ?_
                repeat' first|((first|refine Br.dec ?_ ?_|refine Br.eqi ?_ ?_)<;>intro h<;>try (exfalso;omega))|refine Z0 ?_|with_reducible exact trivial|(refine Br.mk ?_ ?_<;>intro h)|(refine BrN.mk (fun h => ?_) ?_)|(refine AltVC.mk ?_ ?_)
                refine GhoV.go ?_
                repeat' first|((first|refine Br.dec ?_ ?_|refine Br.eqi ?_ ?_)<;>intro h<;>try (exfalso;omega))|refine Z0 ?_|with_reducible exact trivial|(refine Br.mk ?_ ?_<;>intro h)|(refine BrN.mk (fun h => ?_) ?_)|(refine AltVC.mk ?_ ?_)
                exact fin_mk hres2
          | false =>
            simp only [rfL,List.cons_append,List.nil_append,Bool.false_eq_true,if_false]
            repeat' first|((first|refine Br.dec ?_ ?_|refine Br.eqi ?_ ?_)<;>intro h<;>try (exfalso;omega))|refine Z0 ?_|with_reducible exact trivial|(refine Br.mk ?_ ?_<;>intro h)|(refine BrN.mk (fun h => ?_) ?_)|(refine AltVC.mk ?_ ?_)
            refine LoopVC.fold 9 8 0 0 true ?_
            repeat' first|((first|refine Br.dec ?_ ?_|refine Br.eqi ?_ ?_)<;>intro h<;>try (exfalso;omega))|refine Z0 ?_|with_reducible exact trivial|(refine Br.mk ?_ ?_<;>intro h)|(refine BrN.mk (fun h => ?_) ?_)|(refine AltVC.mk ?_ ?_)
            have hOm:∀ s,s ∈ all→OkS g w s:=fun s hs=>TRc.ok hc hroot (hG.sd s hs)
            have hKm:∀ s,s ∈ all→∀ x,x ∈ kwS g w s→∀ p,p ∈ x.2→p ∈ all:=fun s hs x hx p hp=>hcl.cl s hs x hx p hp
            have hmS:∀ s,s ∈ all→s ∈ srtS all:=fun s hs=>hSp.mem_iff.2 hs
            have hend:tab4 all.length (sp4 g w (srtS all) all)=tbl spoD ((srtS all).map (spotT g w (srtS all))):=by
              rw [← hSl];exact sp4_all fun s hs=>hSp.mem_iff.1 hs
            have hstep:∀ done s,s ∈ all→(tab4 all.length (sp4 g w (srtS all) done)).set (rkS (srtS all) s) (spoD (spotT g w (srtS all) s))=tab4 all.length (sp4 g w (srtS all) (done++[s])):=fun done s hs=>by
              rw [← hSl];exact sp4_step hSs (hmS s hs)
            have hrl:∀ s,s ∈ all→rkS (srtS all) s<all.length:=fun s hs=>by rw [← hSl];exact (rk_mem hSs (hmS s hs)).1
            have hres2:=hres h200
            have hthi:thiD (thiT g w (srtS all) (rtR g w))=[.sl 4 (tbl spoD ((srtS all).map (spotT g w (srtS all)))),iv .i64 (rkS (srtS all) (rtR g w):Nat)]:=rfl
            rw [hthi] at hres2
            clear hres hG
            generalize hS:srtS all=S at *
            generalize hRK:rkS S (rtR g w)=RK at *
            refine LoopVC.mk (X:=Nat × List BE) (fun x=>[(2,.ptr 0 4 0 0),(4,.ptr 1 2 0 0),(6,.ptr 4 6 0 0),(19,.ptr 8 2 0 0),(130,iv .i64 x.1)]) (fun x=>rfL g w x.2++[(8,⟨2,[[.own false 4 (tab4 all.length (sp4 g w S (all.take x.1))),iv .i64 RK]],true,true,.fix⟩)]) (fun x=>all.length - x.1) (fun x=>x.1≤all.length∧BI g w x.2) (0,Lb) ⟨Nat.zero_le _,hLb⟩ ?_ ?_
            · simp only [rfL,List.cons_append,List.nil_append,List.take_zero]
              (simp (disch:=first|omega|(simp only [vlen];first|done|omega)) only [Fits_u,Fits_m,Fits_nil,List.length_append,vtt,↓vAq,vBq,↓reduceIte,Nat.reduceBEq,Nat.reduceEqDiff,Nat.reduceLT,Nat.reduceLeDiff,Nat.reduceAdd,Nat.reduceMul,Nat.reduceSub,reduceCtorEq,Int.reduceToNat]<;>(repeat' first|rfl|apply And.intro))
              all_goals first|rfl|trace_state
            · rintro ⟨a, Lc⟩ ⟨ha, hLc⟩
              simp only at ha hLc
              simp only [rfL,List.cons_append,List.nil_append]
              by_cases hal:a<all.length
              · have hsm := getD_mem' (l := all) (i := a) hal
                obtain ⟨o1,o2,o3,o4⟩:=hOm _ hsm
                have hst2:=hstep (all.take a) _ hsm
                have htk:all.take (a+1)=all.take a++[all.getD a default]:=take_succ_getD hal default
                have hrs:=hrl _ hsm
                have hkid:=hKm _ hsm
                generalize hse:all.getD a default=s at *
                rw [← htk] at hst2
                repeat' first|((first|refine Br.dec ?_ ?_|refine Br.eqi ?_ ?_)<;>intro h<;>try (exfalso;omega))|refine Z38 ?_|with_reducible exact trivial|(refine Br.mk ?_ ?_<;>intro h)|(refine BrN.mk (fun h => ?_) ?_)|(refine AltVC.mk ?_ ?_)
                refine LoopVC.nlo 11 0 3 1 ?_
                repeat' first|((first|refine Br.dec ?_ ?_|refine Br.eqi ?_ ?_)<;>intro h<;>try (exfalso;omega))|refine Z0 ?_|with_reducible exact trivial|(refine Br.mk ?_ ?_<;>intro h)|(refine BrN.mk (fun h => ?_) ?_)|(refine AltVC.mk ?_ ?_)
                refine LoopVC.mk (X:=Nat × List BE) (fun x=>[(2,.ptr 0 4 0 0),(4,.ptr 1 2 0 0),(6,.ptr 4 6 0 0),(19,.ptr 8 2 0 0),(21,.ptr 10 3 0 0),(22,.ptr 11 4 0 0),(144,iv .i64 x.1)]) (fun x=>rfL g w x.2++[(8,⟨2,[[.own false 4 (tab4 all.length (sp4 g w S (all.take a))),iv .i64 RK]],true,true,.fix⟩),(10,⟨3,[[iv .i64 s.1,iv .i64 s.2.1,iv .i64 s.2.2]],true,false,.fix⟩),(11,⟨4,[[iv .i64 s.2.2,iv .i64 s.1,iv .i64 s.2.1,.own false 1 (rows i64s ((kwN g w s x.1).map (wayN S)))]],true,true,.fix⟩)]) (fun x=>g.rules.length - x.1) (fun x=>x.1≤g.rules.length∧BI g w x.2∧(kwN g w s x.1).length≤28561 * x.1) (0,Lc) ⟨Nat.zero_le _,hLc,by simp [kwN]⟩ ?_ ?_
                · simp only [rfL,List.cons_append,List.nil_append]
                  (simp (disch:=first|omega|(simp only [vlen];first|done|omega)) only [Fits_u,Fits_m,Fits_nil,List.length_append,vtt,↓vAq,vBq,↓reduceIte,Nat.reduceBEq,Nat.reduceEqDiff,Nat.reduceLT,Nat.reduceLeDiff,Nat.reduceAdd,Nat.reduceMul,Nat.reduceSub,reduceCtorEq,Int.reduceToNat]<;>(repeat' first|rfl|apply And.intro))
                  all_goals first|rfl|trace_state
                · rintro ⟨q, Ld⟩ ⟨hq, hLd, hql⟩
                  simp only at hq hLd hql
                  simp only [rfL,List.cons_append,List.nil_append]
                  by_cases hqn:q<g.rules.length
                  · have hlq:=hleft q hqn
                    have hmem:=getD_mem' (l:=g.rules) (i:=q) hqn
                    have hmr:=hc.v.long _ hmem
                    have hpr:=(hc.p _ hmem).1
                    have hrt:=hc.v.right _ hmem
                    have hsu:=@kwN_succ g w s q
                    by_cases hlx:g.k+(g.rules.getD q default).left=s.2.2
                    · have hsp:=splits_spec2 g w hc _ hmr hrt s.1 s.2.1 o1 o2 Ld hLd
                      have hsl:(splN g w (g.rules.getD q default).right s.1 s.2.1).length≤28561:=Nat.le_trans (splN_len (by omega)) (Nat.le_trans (Nat.pow_le_pow_right (by omega) hmr) (by decide))
                      unfold kwQ at hsu
                      rw [if_pos hlx] at hsu
                      repeat' first|((first|refine Br.dec ?_ ?_|refine Br.eqi ?_ ?_)<;>intro h<;>try (exfalso;omega))|refine Z0 ?_|with_reducible exact trivial|(refine Br.mk ?_ ?_<;>intro h)|(refine BrN.mk (fun h => ?_) ?_)|(refine AltVC.mk ?_ ?_)
                      refine CallVC.lendE [4,3] [.ptr 0 6 0 0,.sl 1 (i64s (g.rules.getD q default).right),iv .i64 s.1,iv .i64 s.2.1] (buO g w Ld) hsp (by simp) (by rfl) Y23 ?_
                      rintro _ _ ⟨Le,rfl,rfl,hLe⟩
                      unfold buO
                      repeat' first|((first|refine Br.dec ?_ ?_|refine Br.eqi ?_ ?_)<;>intro h<;>try (exfalso;omega))|refine Z0 ?_|with_reducible exact trivial|(refine Br.mk ?_ ?_<;>intro h)|(refine BrN.mk (fun h => ?_) ?_)|(refine AltVC.mk ?_ ?_)
                      have hwd:∀ es,wyD (g.rules.getD q default).right s.1 es=[.sl 3 (tbl stD (wyS (g.rules.getD q default).right s.1 es))]:=fun es=>by unfold wyD;rw [if_neg hpr]
                      have hwl:∀ es,(wyS (g.rules.getD q default).right s.1 es).length≤4:=fun es=>Nat.le_trans wyS_len hmr
                      have hkp:∀ es,es ∈ splN g w (g.rules.getD q default).right s.1 s.2.1→∀ p,p ∈ wyS (g.rules.getD q default).right s.1 es→p ∈ all:=fun es hes p hp=>hkid _ (kw_mem.2 ⟨q,es,hqn,hlx,hes,rfl⟩) p hp
                      generalize (g.rules.getD q default).right=rt at *
                      generalize splN g w rt s.1 s.2.1=Sp at *
                      generalize hKq:kwN g w s q=Kq at *
                      refine LoopVC.mk (X:=Nat) (fun c=>[(2,.ptr 0 4 0 0),(4,.ptr 1 2 0 0),(6,.ptr 4 6 0 0),(19,.ptr 8 2 0 0),(21,.ptr 10 3 0 0),(22,.ptr 11 4 0 0),(166,iv .i64 c)]) (fun c=>rfL g w Le++[(8,⟨2,[[.own false 4 (tab4 all.length (sp4 g w S (all.take a))),iv .i64 RK]],true,true,.fix⟩),(10,⟨3,[[iv .i64 s.1,iv .i64 s.2.1,iv .i64 s.2.2]],true,false,.fix⟩),(11,⟨4,[[iv .i64 s.2.2,iv .i64 s.1,iv .i64 s.2.1,.own false 1 (rows i64s (roW S Kq q rt s.1 Sp c))]],true,true,.fix⟩)]) (fun c=>Sp.length - c) (fun c=>c≤Sp.length) 0 (Nat.zero_le _) ?_ ?_
                      · simp only [rfL,List.cons_append,List.nil_append]
                        rw [roW_zero]
                        (simp (disch:=first|omega|(simp only [vlen];first|done|omega)) only [Fits_u,Fits_m,Fits_nil,List.length_append,vtt,↓vAq,vBq,↓reduceIte,Nat.reduceBEq,Nat.reduceEqDiff,Nat.reduceLT,Nat.reduceLeDiff,Nat.reduceAdd,Nat.reduceMul,Nat.reduceSub,reduceCtorEq,Int.reduceToNat]<;>(repeat' first|rfl|apply And.intro))
                        all_goals first|rfl|trace_state
                      · intro c hcs
                        simp only [rfL,List.cons_append,List.nil_append]
                        have hlen1:=roW_len (S:=S) (Kq:=Kq) (q:=q) (rt:=rt) (i:=s.1) hcs
                        by_cases hcl:c<Sp.length
                        · have hem:=getD_mem' (l:=Sp) (i:=c) hcl
                          have hsucc:=roW_succ (S:=S) (Kq:=Kq) (q:=q) (rt:=rt) (i:=s.1) hcl
                          have hkp2:=hkp _ hem
                          have hwl2:=hwl (Sp.getD c default)
                          have hwd2:=hwd (Sp.getD c default)
                          generalize hes:Sp.getD c default=es at *
                          generalize wyS rt s.1 es=l at *
                          generalize hRo:roW S Kq q rt s.1 Sp c=Ro at *
                          repeat' first|((first|refine Br.dec ?_ ?_|refine Br.eqi ?_ ?_)<;>intro h<;>try (exfalso;omega))|refine Z29 ?_|with_reducible exact trivial|(refine Br.mk ?_ ?_<;>intro h)|(refine BrN.mk (fun h => ?_) ?_)|(refine AltVC.mk ?_ ?_)
                          refine LoopVC.mk (X:=Nat) (fun e=>[(2,.ptr 0 4 0 0),(4,.ptr 1 2 0 0),(6,.ptr 4 6 0 0),(19,.ptr 8 2 0 0),(21,.ptr 10 3 0 0),(22,.ptr 11 4 0 0),(27,.ref 13 1 0 (e+1)),(174,iv .i64 e)]) (fun e=>rfL g w Le++[(8,⟨2,[[.own false 4 (tab4 all.length (sp4 g w S (all.take a))),iv .i64 RK]],true,true,.fix⟩),(10,⟨3,[[iv .i64 s.1,iv .i64 s.2.1,iv .i64 s.2.2]],true,false,.fix⟩),(11,⟨4,[[iv .i64 s.2.2,iv .i64 s.1,iv .i64 s.2.1,.own false 1 (rows i64s Ro)]],true,true,.fix⟩),(13,⟨1,i64s (wayP S q l e),true,false,.arr⟩)]) (fun e=>l.length - e) (fun e=>e≤l.length) 0 (Nat.zero_le _) ?_ ?_
                          · simp only [rfL,List.cons_append,List.nil_append]
                            rw [wayP_zero]
                            (simp (disch:=first|omega|(simp only [vlen];first|done|omega)) only [Fits_u,Fits_m,Fits_nil,List.length_append,vtt,↓vAq,vBq,↓reduceIte,Nat.reduceBEq,Nat.reduceEqDiff,Nat.reduceLT,Nat.reduceLeDiff,Nat.reduceAdd,Nat.reduceMul,Nat.reduceSub,reduceCtorEq,Int.reduceToNat]<;>(repeat' first|rfl|apply And.intro))
                            all_goals first|rfl|trace_state
                          · intro e hel
                            simp only [rfL,List.cons_append,List.nil_append]
                            have hwpl:=wayP_len (S:=S) (q:=q) hel
                            by_cases hecl:e<l.length
                            · have hws:=wayP_succ (S:=S) (q:=q) hecl
                              have hnp:=hnum (l.getD e default)
                              rw [hrk] at hnp
                              generalize hye:l.getD e default=y at *
                              repeat' first|((first|refine Br.dec ?_ ?_|refine Br.eqi ?_ ?_)<;>intro h<;>try (exfalso;omega))|refine Z39 ?_|with_reducible exact trivial|(refine Br.mk ?_ ?_<;>intro h)|(refine BrN.mk (fun h => ?_) ?_)|(refine AltVC.mk ?_ ?_)
                              refine CallVC.eq hnp ?_
                              repeat' first|((first|refine Br.dec ?_ ?_|refine Br.eqi ?_ ?_)<;>intro h<;>try (exfalso;omega))|refine Z13 ?_|with_reducible exact trivial|(refine Br.mk ?_ ?_<;>intro h)|(refine BrN.mk (fun h => ?_) ?_)|(refine AltVC.mk ?_ ?_)
                              refine loopK.mk (e+1) Y1 (by omega) (by omega) ?_
                              try simp only [rfL,List.cons_append,List.nil_append]
                              rw [hws]
                              (simp (disch:=first|omega|(simp only [vlen];first|done|omega)) only [Fits_u,Fits_m,Fits_nil,List.length_append,vtt,hwpl,↓vAq,vBq,↓reduceIte,Nat.reduceBEq,Nat.reduceEqDiff,Nat.reduceLT,Nat.reduceLeDiff,Nat.reduceAdd,Nat.reduceMul,Nat.reduceSub,reduceCtorEq,Int.reduceToNat]<;>(repeat' first|rfl|apply And.intro))
                              all_goals first|rfl|trace_state
                            · have hee:e=l.length:=by omega
                              subst hee
                              rw [wayP_all] at hwpl ⊢
                              have hrm:rows i64s (Ro++[wayN S (q,l)])=rows i64s Ro++[[.sl 1 (i64s (wayN S (q,l)))]]:=rows_app
                              repeat' first|((first|refine Br.dec ?_ ?_|refine Br.eqi ?_ ?_)<;>intro h<;>try (exfalso;omega))|refine Z40 ?_|with_reducible exact trivial|(refine Br.mk ?_ ?_<;>intro h)|(refine BrN.mk (fun h => ?_) ?_)|(refine AltVC.mk ?_ ?_)
                              refine loopK.frz 13 ?_
                              repeat' first|((first|refine Br.dec ?_ ?_|refine Br.eqi ?_ ?_)<;>intro h<;>try (exfalso;omega))|refine Z13 ?_|with_reducible exact trivial|(refine Br.mk ?_ ?_<;>intro h)|(refine BrN.mk (fun h => ?_) ?_)|(refine AltVC.mk ?_ ?_)
                              refine loopK.flt 14 ?_
                              repeat' first|((first|refine Br.dec ?_ ?_|refine Br.eqi ?_ ?_)<;>intro h<;>try (exfalso;omega))|refine Z13 ?_|with_reducible exact trivial|(refine Br.mk ?_ ?_<;>intro h)|(refine BrN.mk (fun h => ?_) ?_)|(refine AltVC.mk ?_ ?_)
                              refine loopK.fold 14 11 0 3 true ?_
                              repeat' first|((first|refine Br.dec ?_ ?_|refine Br.eqi ?_ ?_)<;>intro h<;>try (exfalso;omega))|refine Z13 ?_|with_reducible exact trivial|(refine Br.mk ?_ ?_<;>intro h)|(refine BrN.mk (fun h => ?_) ?_)|(refine AltVC.mk ?_ ?_)
                              refine loopK.mk (c+1) Y1 (by omega) (by omega) ?_
                              try simp only [rfL,List.cons_append,List.nil_append]
                              rw [hsucc,hrm]
                              (simp (disch:=first|omega|(simp only [vlen];first|done|omega)) only [Fits_u,Fits_m,Fits_nil,List.length_append,vtt,hwpl,hlen1,↓vAq,vBq,↓reduceIte,Nat.reduceBEq,Nat.reduceEqDiff,Nat.reduceLT,Nat.reduceLeDiff,Nat.reduceAdd,Nat.reduceMul,Nat.reduceSub,reduceCtorEq,Int.reduceToNat]<;>(repeat' first|rfl|apply And.intro))
                              all_goals first|rfl|trace_state
                        · have hce:c=Sp.length:=by omega
                          subst hce
                          rw [roW_all,← hsu] at hlen1 ⊢
                          repeat' first|((first|refine Br.dec ?_ ?_|refine Br.eqi ?_ ?_)<;>intro h<;>try (exfalso;omega))|refine Z0 ?_|with_reducible exact trivial|(refine Br.mk ?_ ?_<;>intro h)|(refine BrN.mk (fun h => ?_) ?_)|(refine AltVC.mk ?_ ?_)
                          refine loopK.mk (q+1,Le) Y1 ⟨by show q+1≤g.rules.length;omega,hLe,by show (kwN g w s (q+1)).length≤28561 * (q+1);rw [List.length_map] at hlen1;omega⟩ (by show g.rules.length - (q+1)<g.rules.length - q;omega) ?_
                          simp only [rfL,List.cons_append,List.nil_append]
                          (simp (disch:=first|omega|(simp only [vlen];first|done|omega)) only [Fits_u,Fits_m,Fits_nil,List.length_append,vtt,↓vAq,vBq,↓reduceIte,Nat.reduceBEq,Nat.reduceEqDiff,Nat.reduceLT,Nat.reduceLeDiff,Nat.reduceAdd,Nat.reduceMul,Nat.reduceSub,reduceCtorEq,Int.reduceToNat]<;>(repeat' first|rfl|apply And.intro))
                          all_goals first|rfl|trace_state
                    · unfold kwQ at hsu
                      rw [if_neg hlx,List.append_nil] at hsu
                      repeat' first|((first|refine Br.dec ?_ ?_|refine Br.eqi ?_ ?_)<;>intro h<;>try (exfalso;omega))|refine Z0 ?_|with_reducible exact trivial|(refine Br.mk ?_ ?_<;>intro h)|(refine BrN.mk (fun h => ?_) ?_)|(refine AltVC.mk ?_ ?_)
                      refine loopK.mk (q+1,Ld) Y1 ⟨by show q+1≤g.rules.length;omega,hLd,by show (kwN g w s (q+1)).length≤28561 * (q+1);rw [hsu];omega⟩ (by show g.rules.length - (q+1)<g.rules.length - q;omega) ?_
                      simp only [rfL,List.cons_append,List.nil_append]
                      rw [hsu]
                      (simp (disch:=first|omega|(simp only [vlen];first|done|omega)) only [Fits_u,Fits_m,Fits_nil,List.length_append,vtt,↓vAq,vBq,↓reduceIte,Nat.reduceBEq,Nat.reduceEqDiff,Nat.reduceLT,Nat.reduceLeDiff,Nat.reduceAdd,Nat.reduceMul,Nat.reduceSub,reduceCtorEq,Int.reduceToNat]<;>(repeat' first|rfl|apply And.intro))
                      all_goals first|rfl|trace_state
                  · have hqe : q = g.rules.length := by omega
                    subst hqe
                    have hKe:kwN g w s g.rules.length=kwS g w s:=rfl
                    have hspt:spoD (spotT g w S s)=[iv .i64 s.2.2,iv .i64 s.1,iv .i64 s.2.1,.sl 1 (rows i64s (srtW ((kwS g w s).map (wayN S))))]:=rfl
                    have hR0l:∀ r,r ∈ (kwS g w s).map (wayN S)→r.length≤1000:=fun r hr=>by
                      obtain ⟨x,hx,rfl⟩:=List.mem_map.1 hr
                      obtain ⟨q,es,_,_,_,rfl⟩:=kw_mem.1 hx
                      rw [wayN_len]
                      have h1:=@wyS_len (g.rules.getD q default).right s.1 es
                      have h2:=hc.v.long _ (getD_mem' (l:=g.rules) (i:=q) (by assumption))
                      simp only at h1 ⊢;omega
                    have hlenK:((kwS g w s).map (wayN S)).length≤285610:=by rw [List.length_map,← hKe];omega
                    rw [hKe]
                    clear hql hKe
                    generalize (kwS g w s).map (wayN S)=R0 at *
                    repeat' first|((first|refine Br.dec ?_ ?_|refine Br.eqi ?_ ?_)<;>intro h<;>try (exfalso;omega))|refine Z0 ?_|with_reducible exact trivial|(refine Br.mk ?_ ?_<;>intro h)|(refine BrN.mk (fun h => ?_) ?_)|(refine AltVC.mk ?_ ?_)
                    refine LoopVC.mk (X:=Nat × Ww) (fun x=>[(2,.ptr 0 4 0 0),(4,.ptr 1 2 0 0),(6,.ptr 4 6 0 0),(19,.ptr 8 2 0 0),(21,.ptr 10 3 0 0),(22,.ptr 11 4 0 0),(30,iv .i64 x.1)]) (fun x=>rfL g w Ld++[(8,⟨2,[[.own false 4 (tab4 all.length (sp4 g w S (all.take a))),iv .i64 RK]],true,true,.fix⟩),(10,⟨3,[[iv .i64 s.1,iv .i64 s.2.1,iv .i64 s.2.2]],true,false,.fix⟩),(11,⟨4,[[iv .i64 s.2.2,iv .i64 s.1,iv .i64 s.2.1,.own false 1 (rows i64s x.2)]],true,true,.fix⟩)]) (fun x=>R0.length - x.1) (fun x=>1≤x.1∧x.2.Perm R0∧OrdW x.2 x.1) (1,R0) ⟨Nat.le_refl _,.refl _,fun p q hp hq=>by omega⟩ ?_ ?_
                    · simp only [rfL,List.cons_append,List.nil_append]
                      (simp (disch:=first|omega|(simp only [vlen];first|done|omega)) only [Fits_u,Fits_m,Fits_nil,List.length_append,vtt,↓vAq,vBq,↓reduceIte,Nat.reduceBEq,Nat.reduceEqDiff,Nat.reduceLT,Nat.reduceLeDiff,Nat.reduceAdd,Nat.reduceMul,Nat.reduceSub,reduceCtorEq,Int.reduceToNat]<;>(repeat' first|rfl|apply And.intro))
                      all_goals first|rfl|trace_state
                    · rintro ⟨m, R⟩ ⟨hm1, hRp, hRo⟩
                      simp only at hm1 hRp hRo
                      have hRl:=hRp.length_eq
                      simp only [rfL,List.cons_append,List.nil_append]
                      by_cases hml:m<R.length
                      · repeat' first | ((first | refine Br.dec ?_ ?_ | refine Br.eqi ?_ ?_) <;> intro h <;> try (exfalso; omega)) | refine Z0 ?_ | with_reducible exact trivial | (refine Br.mk ?_ ?_ <;> intro h) | (refine BrN.mk (fun h => ?_) ?_) | (refine AltVC.mk ?_ ?_)
                        refine LoopVC.fold 12 11 0 3 true ?_
                        repeat' first|((first|refine Br.dec ?_ ?_|refine Br.eqi ?_ ?_)<;>intro h<;>try (exfalso;omega))|refine Z0 ?_|with_reducible exact trivial|(refine Br.mk ?_ ?_<;>intro h)|(refine BrN.mk (fun h => ?_) ?_)|(refine AltVC.mk ?_ ?_)
                        refine LoopVC.mk (X:=Nat × Ww) (fun x=>[(2,.ptr 0 4 0 0),(4,.ptr 1 2 0 0),(6,.ptr 4 6 0 0),(19,.ptr 8 2 0 0),(21,.ptr 10 3 0 0),(22,.ptr 11 4 0 0),(31,iv .i64 x.1)]) (fun x=>rfL g w Ld++[(8,⟨2,[[.own false 4 (tab4 all.length (sp4 g w S (all.take a))),iv .i64 RK]],true,true,.fix⟩),(10,⟨3,[[iv .i64 s.1,iv .i64 s.2.1,iv .i64 s.2.2]],true,false,.fix⟩),(11,⟨4,[[iv .i64 s.2.2,iv .i64 s.1,iv .i64 s.2.1,.own false 1 (rows i64s x.2)]],true,true,.fix⟩)]) (fun x=>x.1) (fun x=>x.1≤m∧x.2.Perm R0∧InsW x.2 m x.1) (m,R) ⟨Nat.le_refl _,hRp,InsW.start hRo⟩ ?_ ?_
                        · simp only [rfL,List.cons_append,List.nil_append]
                          (simp (disch:=first|omega|(simp only [vlen];first|done|omega)) only [Fits_u,Fits_m,Fits_nil,List.length_append,vtt,↓vAq,vBq,↓reduceIte,Nat.reduceBEq,Nat.reduceEqDiff,Nat.reduceLT,Nat.reduceLeDiff,Nat.reduceAdd,Nat.reduceMul,Nat.reduceSub,reduceCtorEq,Int.reduceToNat]<;>(repeat' first|rfl|apply And.intro))
                          all_goals first|rfl|trace_state
                        · rintro ⟨c,Q⟩ ⟨hcm,hQp,hQi⟩
                          simp only at hcm hQp hQi
                          have hQl:=hQp.length_eq
                          simp only [rfL,List.cons_append,List.nil_append]
                          cases c with
                          | zero =>
                            have hord:=InsW.end0 hQi
                            repeat' first|((first|refine Br.dec ?_ ?_|refine Br.eqi ?_ ?_)<;>intro h<;>try (exfalso;omega))|refine Z0 ?_|with_reducible exact trivial|(refine Br.mk ?_ ?_<;>intro h)|(refine BrN.mk (fun h => ?_) ?_)|(refine AltVC.mk ?_ ?_)
                            refine loopK.mk (m+1,Q) Y1 ⟨by show 1≤m+1;omega,hQp,hord⟩ (by show R0.length - (m+1)<R0.length - m;omega) ?_
                            try simp only [rfL,List.cons_append,List.nil_append]
                            (simp (disch:=first|omega|(simp only [vlen];first|done|omega)) only [Fits_u,Fits_m,Fits_nil,List.length_append,vtt,↓vAq,vBq,↓reduceIte,Nat.reduceBEq,Nat.reduceEqDiff,Nat.reduceLT,Nat.reduceLeDiff,Nat.reduceAdd,Nat.reduceMul,Nat.reduceSub,reduceCtorEq,Int.reduceToNat]<;>(repeat' first|rfl|apply And.intro))
                            all_goals first|rfl|trace_state
                          | succ b =>
                            have hls:=lesser_spec (Q.getD (b+1) default) (Q.getD b default) (hR0l _ (hQp.mem_iff.1 (getD_mem' (l:=Q) (i:=b+1) (by omega)))) (hR0l _ (hQp.mem_iff.1 (getD_mem' (l:=Q) (i:=b) (by omega))))
                            by_cases hlt:wlt (Q.getD (b+1) default) (Q.getD b default)
                            · have hsw:=InsW.swap hQi hcm (by omega) hlt
                              rw [show decide (lcmp (Q.getD (b+1) default) (Q.getD b default)<0)=true from decide_eq_true hlt] at hls
                              repeat' first|((first|refine Br.dec ?_ ?_|refine Br.eqi ?_ ?_)<;>intro h<;>try (exfalso;omega))|refine Z0 ?_|with_reducible exact trivial|(refine Br.mk ?_ ?_<;>intro h)|(refine BrN.mk (fun h => ?_) ?_)|(refine AltVC.mk ?_ ?_)
                              refine CallVC.eq hls ?_
                              repeat' first|((first|refine Br.dec ?_ ?_|refine Br.eqi ?_ ?_)<;>intro h<;>try (exfalso;omega))|refine Z0 ?_|with_reducible exact trivial|(refine Br.mk ?_ ?_<;>intro h)|(refine BrN.mk (fun h => ?_) ?_)|(refine AltVC.mk ?_ ?_)
                              refine DrawVC.t ?_
                              repeat' first|((first|refine Br.dec ?_ ?_|refine Br.eqi ?_ ?_)<;>intro h<;>try (exfalso;omega))|refine Z0 ?_|with_reducible exact trivial|(refine Br.mk ?_ ?_<;>intro h)|(refine BrN.mk (fun h => ?_) ?_)|(refine AltVC.mk ?_ ?_)
                              all_goals
                                refine loopK.fold 13 11 0 3 true ?_
                                repeat' first|((first|refine Br.dec ?_ ?_|refine Br.eqi ?_ ?_)<;>intro h<;>try (exfalso;omega))|refine Z0 ?_|with_reducible exact trivial|(refine Br.mk ?_ ?_<;>intro h)|(refine BrN.mk (fun h => ?_) ?_)|(refine AltVC.mk ?_ ?_)
                                refine loopK.mk (b,iwp Q b) Y1 ⟨by show b≤m;omega,(iwp_perm (by omega)).trans hQp,hsw⟩ (by show b<b+1;omega) ?_
                                try simp only [rfL,List.cons_append,List.nil_append]
                                rw [rows_iwp]
                                (simp (disch:=first|omega|(simp only [vlen];first|done|omega)) only [Fits_u,Fits_m,Fits_nil,List.length_append,vtt,↓vAq,vBq,↓reduceIte,Nat.reduceBEq,Nat.reduceEqDiff,Nat.reduceLT,Nat.reduceLeDiff,Nat.reduceAdd,Nat.reduceMul,Nat.reduceSub,reduceCtorEq,Int.reduceToNat]<;>(repeat' first|rfl|apply And.intro))
                                all_goals first|rfl|trace_state
                            · have hord:=InsW.ends hQi hcm hlt
                              rw [show decide (lcmp (Q.getD (b+1) default) (Q.getD b default)<0)=false from decide_eq_false hlt] at hls
                              repeat' first|((first|refine Br.dec ?_ ?_|refine Br.eqi ?_ ?_)<;>intro h<;>try (exfalso;omega))|refine Z0 ?_|with_reducible exact trivial|(refine Br.mk ?_ ?_<;>intro h)|(refine BrN.mk (fun h => ?_) ?_)|(refine AltVC.mk ?_ ?_)
                              refine CallVC.eq hls ?_
                              repeat' first|((first|refine Br.dec ?_ ?_|refine Br.eqi ?_ ?_)<;>intro h<;>try (exfalso;omega))|refine Z0 ?_|with_reducible exact trivial|(refine Br.mk ?_ ?_<;>intro h)|(refine BrN.mk (fun h => ?_) ?_)|(refine AltVC.mk ?_ ?_)
                              refine loopK.fold 13 11 0 3 true ?_
                              repeat' first|((first|refine Br.dec ?_ ?_|refine Br.eqi ?_ ?_)<;>intro h<;>try (exfalso;omega))|refine Z0 ?_|with_reducible exact trivial|(refine Br.mk ?_ ?_<;>intro h)|(refine BrN.mk (fun h => ?_) ?_)|(refine AltVC.mk ?_ ?_)
                              refine loopK.mk (m+1,Q) Y1 ⟨by show 1≤m+1;omega,hQp,hord⟩ (by show R0.length - (m+1)<R0.length - m;omega) ?_
                              try simp only [rfL,List.cons_append,List.nil_append]
                              (simp (disch:=first|omega|(simp only [vlen];first|done|omega)) only [Fits_u,Fits_m,Fits_nil,List.length_append,vtt,↓vAq,vBq,↓reduceIte,Nat.reduceBEq,Nat.reduceEqDiff,Nat.reduceLT,Nat.reduceLeDiff,Nat.reduceAdd,Nat.reduceMul,Nat.reduceSub,reduceCtorEq,Int.reduceToNat]<;>(repeat' first|rfl|apply And.intro))
                              all_goals first|rfl|trace_state
                      · have hsr : R = srtW R0 := srtW_of hRp (OrdW.srt fun p q hp hq => hRo p q hp (by omega))
                        rw [← hsr] at hspt
                        rw [hspt] at hst2
                        have hns:=hnum s
                        rw [hrk] at hns
                        repeat' first|((first|refine Br.dec ?_ ?_|refine Br.eqi ?_ ?_)<;>intro h<;>try (exfalso;omega))|refine Z0 ?_|with_reducible exact trivial|(refine Br.mk ?_ ?_<;>intro h)|(refine BrN.mk (fun h => ?_) ?_)|(refine AltVC.mk ?_ ?_)
                        refine DrawVC.t ?_
                        repeat' first|((first|refine Br.dec ?_ ?_|refine Br.eqi ?_ ?_)<;>intro h<;>try (exfalso;omega))|refine Z0 ?_|with_reducible exact trivial|(refine Br.mk ?_ ?_<;>intro h)|(refine BrN.mk (fun h => ?_) ?_)|(refine AltVC.mk ?_ ?_)
                        all_goals first
                          | (refine CallVC.eq hns ?_
                             repeat' first|((first|refine Br.dec ?_ ?_|refine Br.eqi ?_ ?_)<;>intro h<;>try (exfalso;omega))|refine Z0 ?_|with_reducible exact trivial|(refine Br.mk ?_ ?_<;>intro h)|(refine BrN.mk (fun h => ?_) ?_)|(refine AltVC.mk ?_ ?_))
                          | (refine GhoV.fold 12 11 0 3 true ?_
                             repeat' first|((first|refine Br.dec ?_ ?_|refine Br.eqi ?_ ?_)<;>intro h<;>try (exfalso;omega))|refine Z0 ?_|with_reducible exact trivial|(refine Br.mk ?_ ?_<;>intro h)|(refine BrN.mk (fun h => ?_) ?_)|(refine AltVC.mk ?_ ?_)
                             refine GhoV.frz 11 ?_
                             repeat' first|((first|refine Br.dec ?_ ?_|refine Br.eqi ?_ ?_)<;>intro h<;>try (exfalso;omega))|refine Z0 ?_|with_reducible exact trivial|(refine Br.mk ?_ ?_<;>intro h)|(refine BrN.mk (fun h => ?_) ?_)|(refine AltVC.mk ?_ ?_)
                             refine GhoV.go ?_
                             repeat' first|((first|refine Br.dec ?_ ?_|refine Br.eqi ?_ ?_)<;>intro h<;>try (exfalso;omega))|refine Z0 ?_|with_reducible exact trivial|(refine Br.mk ?_ ?_<;>intro h)|(refine BrN.mk (fun h => ?_) ?_)|(refine AltVC.mk ?_ ?_))
                        all_goals first
                          | (refine CallVC.eq hns ?_
                             repeat' first|((first|refine Br.dec ?_ ?_|refine Br.eqi ?_ ?_)<;>intro h<;>try (exfalso;omega))|refine Z0 ?_|with_reducible exact trivial|(refine Br.mk ?_ ?_<;>intro h)|(refine BrN.mk (fun h => ?_) ?_)|(refine AltVC.mk ?_ ?_))
                          | (refine GhoV.fold 12 11 0 3 true ?_
                             repeat' first|((first|refine Br.dec ?_ ?_|refine Br.eqi ?_ ?_)<;>intro h<;>try (exfalso;omega))|refine Z0 ?_|with_reducible exact trivial|(refine Br.mk ?_ ?_<;>intro h)|(refine BrN.mk (fun h => ?_) ?_)|(refine AltVC.mk ?_ ?_)
                             refine GhoV.frz 11 ?_
                             repeat' first|((first|refine Br.dec ?_ ?_|refine Br.eqi ?_ ?_)<;>intro h<;>try (exfalso;omega))|refine Z0 ?_|with_reducible exact trivial|(refine Br.mk ?_ ?_<;>intro h)|(refine BrN.mk (fun h => ?_) ?_)|(refine AltVC.mk ?_ ?_)
                             refine GhoV.go ?_
                             repeat' first|((first|refine Br.dec ?_ ?_|refine Br.eqi ?_ ?_)<;>intro h<;>try (exfalso;omega))|refine Z0 ?_|with_reducible exact trivial|(refine Br.mk ?_ ?_<;>intro h)|(refine BrN.mk (fun h => ?_) ?_)|(refine AltVC.mk ?_ ?_))
                        all_goals
                          refine loopK.fold 13 8 0 0 true ?_
                          repeat' first|((first|refine Br.dec ?_ ?_|refine Br.eqi ?_ ?_)<;>intro h<;>try (exfalso;omega))|refine Z0 ?_|with_reducible exact trivial|(refine Br.mk ?_ ?_<;>intro h)|(refine BrN.mk (fun h => ?_) ?_)|(refine AltVC.mk ?_ ?_)
                          refine loopK.mk (a+1,Ld) Y1 ⟨by show a+1≤all.length;omega,hLd⟩ (by show all.length - (a+1)<all.length - a;omega) ?_
                          try simp only [rfL,List.cons_append,List.nil_append]
                          rw [← hst2]
                          (simp (disch:=first|omega|(simp only [vlen];first|done|omega)) only [Fits_u,Fits_m,Fits_nil,List.length_append,vtt,↓vAq,vBq,↓reduceIte,Nat.reduceBEq,Nat.reduceEqDiff,Nat.reduceLT,Nat.reduceLeDiff,Nat.reduceAdd,Nat.reduceMul,Nat.reduceSub,reduceCtorEq,Int.reduceToNat]<;>(repeat' first|rfl|apply And.intro))
                          all_goals first|rfl|trace_state
              · have hae:a=all.length:=by omega
                subst hae
                rw [List.take_length,hend]
                repeat' first|((first|refine Br.dec ?_ ?_|refine Br.eqi ?_ ?_)<;>intro h<;>try (exfalso;omega))|refine Z0 ?_|with_reducible exact trivial|(refine Br.mk ?_ ?_<;>intro h)|(refine BrN.mk (fun h => ?_) ?_)|(refine AltVC.mk ?_ ?_)
                refine GhoV.frz 8 ?_
                repeat' first|((first|refine Br.dec ?_ ?_|refine Br.eqi ?_ ?_)<;>intro h<;>try (exfalso;omega))|refine Z0 ?_|with_reducible exact trivial|(refine Br.mk ?_ ?_<;>intro h)|(refine BrN.mk (fun h => ?_) ?_)|(refine AltVC.mk ?_ ?_)
                refine GhoV.go ?_
                repeat' first|((first|refine Br.dec ?_ ?_|refine Br.eqi ?_ ?_)<;>intro h<;>try (exfalso;omega))|refine Z0 ?_|with_reducible exact trivial|(refine Br.mk ?_ ?_<;>intro h)|(refine BrN.mk (fun h => ?_) ?_)|(refine AltVC.mk ?_ ?_)
                exact fin_mk hres2
end Go.Proofs.Ytcclchnbjpncdaa
