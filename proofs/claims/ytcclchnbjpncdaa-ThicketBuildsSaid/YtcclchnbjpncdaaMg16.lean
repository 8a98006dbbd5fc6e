/-
 Texts of this claim, one behind another.
-/
import Derived.Test.YtcclchnbjpncdaaMg14
import Derived.Test.YtcclchnbjpncdaaMg15
import Derived.Test.YtcclchnbjpncdaaMg13
set_option linter.unusedSimpArgs false
set_option linter.unnecessarySimpa false
set_option linter.unusedVariables false
set_option linter.defProp false
namespace Go.Proofs.Ytcclchnbjpncdaa
open Go.Dm
def outL (Wk:List St) (l:List Nat):List St:=l.map fun i=>Wk.getD i default
theorem outL_len {Wk:List St} {l:List Nat}:(outL Wk l).length=l.length:=by simp [outL]
theorem outL_app {Wk:List St} {l:List Nat} {i:Nat}:outL Wk (l++[i])=outL Wk l++[Wk.getD i default]:=by simp [outL]
theorem all_perm {m:Nat} {l:List Nat} (hn:l.Nodup) (hl:∀ i,i ∈ l→i<m) (h:∀ i,i<m→i ∈ l):l.Perm (List.range m) :=
  (List.perm_ext_iff_of_nodup hn List.nodup_range).2 fun i=>⟨fun hi=>List.mem_range.2 (hl i hi),fun hi=>h i (List.mem_range.1 hi)⟩
theorem outL_perm {Wk:List St} {l:List Nat} (hn:l.Nodup) (hl:∀ i,i ∈ l→i<Wk.length) (h:∀ i,i<Wk.length→i ∈ l):(outL Wk l).Perm Wk:=by
  have:=(all_perm hn hl h).map fun i=>Wk.getD i default
  rwa [map_range_getD] at this
def foD (g:Grammar) (w:List Int) (Wk:List St) (r:St):D:=if 200<Wk.length then .tu [.ag [.nl,iv .i64 0],iv .i64 1] else .tu [.ag (thiD (thiT g w (srtS Wk) r)),iv .i64 0]
theorem sk_app {l:List St} {s:St}:tbl skD l++[[D.v (.int .i64 s.2.2),D.v (.int .i64 s.1),D.v (.int .i64 s.2.1)]]=tbl skD (l++[s]):=by rw [tbl_app];rfl
theorem outL_take {Wk:List St} {l:List Nat}:(outL Wk l).take l.length=outL Wk l:=List.take_of_length_le (by rw [outL_len];exact Nat.le_refl _)
theorem it_kill {σ m τ:Nat} {l:List Nat} (h:σ ≠ τ):(itO σ m l).mapc (D.kill τ)=itO σ m l:=by simp [itO,mapc_f,kill_v,kill_mp,h]
theorem it_trim {σ m n:Nat} {l:List Nat} (h:σ<n):(itO σ m l).mapc (D.trim n)=itO σ m l:=by simp [itO,mapc_f,trim_v,trim_mp,h]
def enS (S:List St) (a:Nat):List (St × Nat):=(List.range a).map fun i=>(S.getD i default,i)
theorem enS_len {S:List St} {a:Nat}:(enS S a).length=a:=by simp [enS]
theorem enS_get {S:List St} {a r:Nat} (h:r<a):(enS S a).getD r default=(S.getD r default,r):=by simp [enS,List.getD,h]
theorem enS_succ {S:List St} {a:Nat}:enS S (a+1)=enS S a++[(S.getD a default,a)]:=by simp [enS,List.range_succ]
def nuD (x:St × Nat):List D:=[iv .i64 x.1.2.2,iv .i64 x.1.1,iv .i64 x.1.2.1,iv .i64 x.2]
theorem nu_app {S:List St} {a:Nat}:tbl nuD (enS S a)++[[D.v (.int .i64 (S.getD a default).2.2),D.v (.int .i64 (S.getD a default).1),D.v (.int .i64 (S.getD a default).2.1),D.v (.int .i64 a)]]=tbl nuD (enS S (a+1)):=by rw [enS_succ,tbl_app];rfl
theorem st_eq {y s:St} (h1:y.2.2=s.2.2) (h2:y.1=s.1) (h3:y.2.1=s.2.1):y=s:=by
  obtain ⟨_,_,_⟩:=y
  obtain ⟨_,_,_⟩:=s
  simp only at h1 h2 h3
  rw [h1,h2,h3]
theorem nu_in {S:List St} {a r:Nat} {s:St} (hr:r<(tbl nuD (enS S a)).length) (he:Agr (((tbl nuD (enS S a)).getD r []).take 3) [.v (.int .i64 s.2.2),.v (.int .i64 s.1),.v (.int .i64 s.2.1)]):r<a∧S.getD r default=s∧(tbl nuD (enS S a)).getD r []=[iv .i64 s.2.2,iv .i64 s.1,iv .i64 s.2.1,iv .i64 r]:=by
  rw [tbl_len,enS_len] at hr
  have hg:(tbl nuD (enS S a)).getD r []=nuD (S.getD r default,r):=by rw [tbl_get (by rw [enS_len];exact hr),enS_get hr]
  rw [hg] at he ⊢
  unfold nuD at he
  simp only [List.take_succ_cons,List.take_zero,Agr_v,D.v.injEq,Value.int.injEq,true_and,Int.natCast_inj] at he
  have e:=st_eq he.1 he.2.1 he.2.2.1
  exact ⟨hr,e,by rw [e];rfl⟩
theorem nu_out {S:List St} {a:Nat} {s:St} (hn:∀ r,r<(tbl nuD (enS S a)).length→((tbl nuD (enS S a)).getD r []).take 3 ≠ [.v (.int .i64 s.2.2),.v (.int .i64 s.1),.v (.int .i64 s.2.1)]):∀ r,r<a→S.getD r default ≠ s:=fun r hr e=>by
  refine hn r (by rw [tbl_len,enS_len];exact hr) ?_
  have hg:(tbl nuD (enS S a)).getD r []=nuD (S.getD r default,r):=by rw [tbl_get (by rw [enS_len];exact hr),enS_get hr]
  rw [hg,e];rfl
theorem kwN_len {g:Grammar} {w:List Int} (hc:CC g w) {s:St} (hs:OkS g w s):∀ {n:Nat},n≤g.rules.length→(kwN g w s n).length≤28561 * n
  | 0,_=>by simp [kwN]
  | n+1,h=>by
    have h1:=kwN_len hc hs (n:=n) (by omega)
    have h2:=kwQ_len hc hs (q:=n) (by omega)
    rw [kwN_succ,List.length_append]
    unfold kwQ
    split
    · rw [List.length_map];omega
    · simp;omega
theorem kwS_len {g:Grammar} {w:List Int} (hc:CC g w) {s:St} (hs:OkS g w s):(kwS g w s).length≤285610:=by
  have h1:=kwN_len hc hs (Nat.le_refl g.rules.length)
  have h2:=hc.v.len
  unfold kwS;omega
def foL (g:Grammar) (w:List Int) (L:List SE) (Wk S:List St) (R b:Nat):List (Nat × Ob):=grL g w L Wk++[(4,⟨2,[[.nl,iv .i64 0]],true,false,.fix⟩),(5,⟨3,tbl skD S,true,false,.fix⟩),(7,⟨4,tbl nuD (enS S S.length),true,false,.map [.i64,.i64,.i64] true false⟩),(8,⟨2,[[.own false 4 (tbl spoD ((S.take b).map (spotT g w S))),iv .i64 R]],true,true,.fix⟩)]
theorem wa_rows {R:List (List Int)}:tbl waD R=rows i64s R:=(rfl)
def vtf:=And.intro @wa_rows<|And.intro @outL_take<|And.intro @it_kill<|And.intro @it_trim<|And.intro vtg<|And.intro @outL_len<|And.intro @sk_app @isMp_map
set_option maxRecDepth 10000 in
set_option maxHeartbeats 4000000 in
theorem forest_spec (g : Grammar) (w : List Int) (hc : CC g w) (L : List SE) (Wk : List St) (r : St) (hr : OkS g w r) (hC : Clos g w r Wk) : Dm.SpecH Try.prog 14 [.ptr 0 7 0 0, .ag (skD r)] (grO g w L Wk) (fun d o => d = foD g w Wk r ∧ o = (grO g w L Wk).map some) := by
  refine specH_of_vc mixed Try.func14 c14 (by rw [show Try.f14.ntmps=_ from Try.ntmps14];simp) ?_
  unfold m14 r14
  have hw:=hc.w
  have hlen:=hc.v.len
  have hk:=hc.v.k
  have hnn0:=hc.v.n
  have r1:=hr.le
  have r2:=hr.hi
  have r3:=hr.ge
  have r4:=hr.lt
  have hfew:=spots_few hc hC.nd fun s hs=>TRc.ok hc hr (hC.sd s hs)
  unfold grO
  repeat' first|((first|refine Br.dec ?_ ?_|refine Br.eqi ?_ ?_)<;>intro h<;>try (exfalso;omega))|refine Z4 ?_|with_reducible exact trivial|(refine Br.mk ?_ ?_<;>intro h)|(refine BrN.mk (fun h => ?_) ?_)|(refine AltVC.mk ?_ ?_)
  refine LoopVC.mk (X:=List Nat) (fun l=>[(0,.ptr 0 7 0 0),(3,.ptr 3 3 0 0),(4,.ptr 4 2 0 0),(24,.ptr 6 1 0 0),(6,.ref 5 3 0 l.length)]) (fun l=>grL g w L Wk++[(3,⟨3,[[iv .i64 r.2.2,iv .i64 r.1,iv .i64 r.2.1]],true,false,.fix⟩),(4,⟨2,[[.nl,iv .i64 0]],true,false,.fix⟩),(5,⟨3,tbl skD (outL Wk l),true,false,.arr⟩),(6,itO 2 Wk.length l)]) (fun l=>Wk.length - l.length) (fun l=>l.Nodup∧(∀ i,i ∈ l→i<Wk.length)∧l.length≤Wk.length) [] ⟨List.nodup_nil,fun i hi=>absurd hi (by simp),Nat.zero_le _⟩ ?_ ?_
  · unfold grL
    (simp (disch:=first|omega|(simp only [vlen];first|done|omega)) only [Fits_u,Fits_m,Fits_nil,List.length_append,vtf,↓vAq,vBq,↓reduceIte,Nat.reduceBEq,Nat.reduceEqDiff,Nat.reduceLT,Nat.reduceLeDiff,Nat.reduceAdd,Nat.reduceMul,Nat.reduceSub,reduceCtorEq,Int.reduceToNat]<;>(repeat' first|rfl|apply And.intro))
    all_goals first|rfl|trace_state
  · rintro l ⟨hl1, hl2, hl3⟩
    unfold grL
    repeat' first|((first|refine Br.dec ?_ ?_|refine Br.eqi ?_ ?_)<;>intro h<;>try (exfalso;omega))|refine Z4 ?_|with_reducible exact trivial|(refine Br.mk ?_ ?_<;>intro h)|(refine BrN.mk (fun h => ?_) ?_)|(refine AltVC.mk ?_ ?_)
    refine NxtVC.mk 6 2 Wk.length l ⟨4,tbl (wmD g w) Wk,true,false,.map [.i64,.i64,.i64] true false⟩ Y5 Y5 rfl tbl_len (fun hall => ?_) (fun i hi hn => ?_)
    · have hp := outL_perm hl1 hl2 hall
      have hlen2:l.length=Wk.length:=by rw [← outL_len (Wk:=Wk) (l:=l),hp.length_eq]
      repeat' first|((first|refine Br.dec ?_ ?_|refine Br.eqi ?_ ?_)<;>intro h<;>try (exfalso;omega))|refine Z4 ?_|with_reducible exact trivial|(refine Br.mk ?_ ?_<;>intro h)|(refine BrN.mk (fun h => ?_) ?_)|(refine AltVC.mk ?_ ?_)
      · have hD:foD g w Wk r=.tu [.ag [.nl,iv .i64 0],iv .i64 1]:=if_pos (by omega)
        exact finH_mk ((grO g w L Wk).map some) (by simp [grO]) Y26 Y27 ⟨by rw [hD];simp (disch:=first|omega|(simp only [vlen];first|done|omega)) only [vtf,↓vAq,vBq,↓reduceIte,Nat.reduceBEq,Nat.reduceEqDiff,Nat.reduceLT,Nat.reduceLeDiff,Nat.reduceAdd,Nat.reduceMul,Nat.reduceSub,reduceCtorEq,Int.reduceToNat],rfl⟩
      · have hD : foD g w Wk r = .tu [.ag (thiD (thiT g w (srtS Wk) r)), iv .i64 0] := if_neg (by omega)
        have hnd:=hp.nodup_iff.2 hC.nd
        have hpos:0<l.length:=by rw [hlen2];exact List.length_pos_of_mem hC.root
        have hso:=sortSpots_spec ⟨3,tbl seD L,true,false,.map [.i64,.i64] true false⟩ (outL Wk l) hnd (by rw [outL_len];omega)
        rw [outL_len] at hso
        refine CallVC.stay 5 ?_
        repeat' first|((first|refine Br.dec ?_ ?_|refine Br.eqi ?_ ?_)<;>intro h<;>try (exfalso;omega))|refine Z4 ?_|with_reducible exact trivial|(refine Br.mk ?_ ?_<;>intro h)|(refine BrN.mk (fun h => ?_) ?_)|(refine AltVC.mk ?_ ?_)
        refine CallVC.lendE [1,5] [.ref 1 3 0 l.length,.clo 32 []] [⟨3,tbl seD L,true,false,.map [.i64,.i64] true false⟩,spO3 (outL Wk l)] hso (by simp) (by rfl) (by unfold spO3;(simp (disch:=first|omega|(simp only [vlen];first|done|omega)) only [vle0,↓vAq,vBq,↓reduceIte,Nat.reduceBEq,Nat.reduceEqDiff,Nat.reduceLT,Nat.reduceLeDiff,Nat.reduceAdd,Nat.reduceMul,Nat.reduceSub,reduceCtorEq,Int.reduceToNat]<;>(repeat' first|rfl|apply And.intro))) ?_
        rintro _ _ ⟨rfl,S,hS1,hS2,rfl⟩
        have hS:S=srtS Wk:=srtS_of hC.nd (hS1.trans hp) hS2
        unfold spO3
        have hSs:=srtS_srt hC.nd
        rw [← hS] at hSs hD
        have hSp:S.Perm Wk:=hS1.trans hp
        have hSl:S.length=Wk.length:=hSp.length_eq
        have hroot:r ∈ S:=hSp.mem_iff.2 hC.root
        rw [hlen2]
        have hOk:∀ a,a<S.length→OkS g w (S.getD a default):=fun a ha=>TRc.ok hc hr (hC.sd _ (hSp.mem_iff.1 (getD_mem' (l:=S) (i:=a) ha)))
        have hOm:∀ s,s ∈ S→OkS g w s:=fun s hs=>TRc.ok hc hr (hC.sd _ (hSp.mem_iff.1 hs))
        clear hS1 hso hnd hpos hall hl1 hl2 hl3 hp
        generalize hn:Wk.length=n at *
        repeat' first|((first|refine Br.dec ?_ ?_|refine Br.eqi ?_ ?_)<;>intro h<;>try (exfalso;omega))|refine Z4 ?_|with_reducible exact trivial|(refine Br.mk ?_ ?_<;>intro h)|(refine BrN.mk (fun h => ?_) ?_)|(refine AltVC.mk ?_ ?_)
        refine LoopVC.mk (X:=Nat) (fun a=>[(0,.ptr 0 7 0 0),(3,.ptr 3 3 0 0),(4,.ptr 4 2 0 0),(6,.ref 5 3 0 n),(40,.ref 5 3 0 n),(8,.mp 7),(42,iv .i64 a)]) (fun a=>grL g w L Wk++[(3,⟨3,[[iv .i64 r.2.2,iv .i64 r.1,iv .i64 r.2.1]],true,false,.fix⟩),(4,⟨2,[[.nl,iv .i64 0]],true,false,.fix⟩),(5,⟨3,tbl skD S,true,false,.fix⟩),(7,⟨4,tbl nuD (enS S a),true,false,.map [.i64,.i64,.i64] true false⟩)]) (fun a=>n - a) (fun a=>a≤n) 0 (Nat.zero_le _) ?_ ?_
        · unfold grL
          (simp (disch:=first|omega|(simp only [vlen];first|done|omega)) only [Fits_u,Fits_m,Fits_nil,List.length_append,vtf,↓vAq,vBq,↓reduceIte,Nat.reduceBEq,Nat.reduceEqDiff,Nat.reduceLT,Nat.reduceLeDiff,Nat.reduceAdd,Nat.reduceMul,Nat.reduceSub,reduceCtorEq,Int.reduceToNat]<;>(repeat' first|rfl|apply And.intro))
          all_goals first|rfl|trace_state
        · intro a ha
          unfold grL
          by_cases han:a<n
          · obtain ⟨o1,o2,o3,o4⟩:=hOk a (by omega)
            repeat' first|((first|refine Br.dec ?_ ?_|refine Br.eqi ?_ ?_)<;>intro h<;>try (exfalso;omega))|refine Z4 ?_|with_reducible exact trivial|(refine Br.mk ?_ ?_<;>intro h)|(refine BrN.mk (fun h => ?_) ?_)|(refine AltVC.mk ?_ ?_)
            refine BrK.mk (fun r hr he => ?_) (fun hnn => ?_)
            · obtain ⟨q1,q2,_⟩:=nu_in hr he
              have e1:=rk_at hSs (show r<S.length by omega)
              have e2:=rk_at hSs (show a<S.length by omega)
              rw [q2] at e1
              omega
            · repeat' first|((first|refine Br.dec ?_ ?_|refine Br.eqi ?_ ?_)<;>intro h<;>try (exfalso;omega))|refine Z4 ?_|with_reducible exact trivial|(refine Br.mk ?_ ?_<;>intro h)|(refine BrN.mk (fun h => ?_) ?_)|(refine AltVC.mk ?_ ?_)
              refine loopK.mk (a+1) Y5 (by omega) (by omega) ?_
              rw [← nu_app]
              (simp (disch:=first|omega|(simp only [vlen];first|done|omega)) only [Fits_u,Fits_m,Fits_nil,List.length_append,vtf,↓vAq,vBq,↓reduceIte,Nat.reduceBEq,Nat.reduceEqDiff,Nat.reduceLT,Nat.reduceLeDiff,Nat.reduceAdd,Nat.reduceMul,Nat.reduceSub,reduceCtorEq,Int.reduceToNat]<;>(repeat' first|rfl|apply And.intro))
              all_goals first|rfl|trace_state
          · have hae:a=n:=by omega
            subst hae
            repeat' first|((first|refine Br.dec ?_ ?_|refine Br.eqi ?_ ?_)<;>intro h<;>try (exfalso;omega))|refine Z4 ?_|with_reducible exact trivial|(refine Br.mk ?_ ?_<;>intro h)|(refine BrN.mk (fun h => ?_) ?_)|(refine AltVC.mk ?_ ?_)
            refine BrK.mk (fun q hq he => ?_) (fun hnn => ?_)
            · obtain ⟨q1, q2, hR⟩ := nu_in hq he
              have e1:=rk_at hSs (show q<S.length by omega)
              rw [q2] at e1
              subst e1
              clear hq
              generalize hRN:rkS S r=RN at *
              repeat' first|((first|refine Br.dec ?_ ?_|refine Br.eqi ?_ ?_)<;>intro h<;>try (exfalso;omega))|(simp (disch:=first|omega|(simp only [vlen];first|done|omega)) only [vtf,hR,↓vAq,vBq,↓reduceIte,Nat.reduceBEq,Nat.reduceEqDiff,Nat.reduceLT,Nat.reduceLeDiff,Nat.reduceAdd,Nat.reduceMul,Nat.reduceSub,reduceCtorEq,Int.reduceToNat])|(refine Br.mk ?_ ?_<;>intro h)|(refine BrN.mk (fun h => ?_) ?_)|(refine AltVC.mk ?_ ?_)
              refine LoopVC.nlo 8 0 0 4 ?_
              repeat' first|((first|refine Br.dec ?_ ?_|refine Br.eqi ?_ ?_)<;>intro h<;>try (exfalso;omega))|refine Z4 ?_|with_reducible exact trivial|(refine Br.mk ?_ ?_<;>intro h)|(refine BrN.mk (fun h => ?_) ?_)|(refine AltVC.mk ?_ ?_)
              have hSn:S.length=a:=hSl
              have hCS:∀ s,s ∈ S→s ∈ Wk∧∀ x,x ∈ kwS g w s→∀ p,p ∈ x.2→p ∈ S:=fun s hs=>⟨hSp.mem_iff.1 hs,fun x hx p hp=>hSp.mem_iff.2 (hC.cl s (hSp.mem_iff.1 hs) x hx p hp)⟩
              refine LoopVC.mk (X:=Nat) (fun b=>[(0,.ptr 0 7 0 0),(4,.ptr 4 2 0 0),(8,.mp 7),(11,.ptr 8 2 0 0),(55,.ref 5 3 0 a),(57,iv .i64 b)]) (fun b=>foL g w L Wk S RN b) (fun b=>a - b) (fun b=>b≤a) 0 (Nat.zero_le _) ?_ ?_
              · unfold foL grL
                rw [hSn]
                (simp (disch:=first|omega|(simp only [vlen];first|done|omega)) only [Fits_u,Fits_m,Fits_nil,List.length_append,vtf,↓vAq,vBq,↓reduceIte,Nat.reduceBEq,Nat.reduceEqDiff,Nat.reduceLT,Nat.reduceLeDiff,Nat.reduceAdd,Nat.reduceMul,Nat.reduceSub,reduceCtorEq,Int.reduceToNat]<;>(repeat' first|rfl|apply And.intro))
                all_goals first|rfl|trace_state
              · intro b hb
                unfold foL grL
                rw [hSn]
                by_cases hba:b<a
                · obtain ⟨o1, o2, o3, o4⟩ := hOk b (by omega)
                  have hsm:=getD_mem' (l:=S) (i:=b) (by omega)
                  obtain ⟨hsW,hkid⟩:=hCS _ hsm
                  generalize hse:S.getD b default=s at *
                  repeat' first|((first|refine Br.dec ?_ ?_|refine Br.eqi ?_ ?_)<;>intro h<;>try (exfalso;omega))|(simp (disch:=first|omega|(simp only [vlen];first|done|omega)) only [vtf,hse,↓vAq,vBq,↓reduceIte,Nat.reduceBEq,Nat.reduceEqDiff,Nat.reduceLT,Nat.reduceLeDiff,Nat.reduceAdd,Nat.reduceMul,Nat.reduceSub,reduceCtorEq,Int.reduceToNat])|(refine Br.mk ?_ ?_<;>intro h)|(refine BrN.mk (fun h => ?_) ?_)|(refine AltVC.mk ?_ ?_)
                  refine BrK.mk (fun q hq he => ?_) (fun hnn2=>absurd hsW (wm_out hnn2))
                  obtain ⟨_,hR2⟩:=wm_in hq he
                  have hKl:=kwS_len hc (show OkS g w s from ⟨o1,o2,o3,o4⟩)
                  have hk4:∀ x,x ∈ kwS g w s→x.2.length≤4∧x.1<10:=fun x hx=>⟨kw_len hc hx,by
                    obtain ⟨q,es,q1,_,_,rfl⟩:=kw_mem.1 hx
                    simp only;omega⟩
                  repeat' first|((first|refine Br.dec ?_ ?_|refine Br.eqi ?_ ?_)<;>intro h<;>try (exfalso;omega))|(simp (disch:=first|omega|(simp only [vlen];first|done|omega)) only [vtf,hR2,↓vAq,vBq,↓reduceIte,Nat.reduceBEq,Nat.reduceEqDiff,Nat.reduceLT,Nat.reduceLeDiff,Nat.reduceAdd,Nat.reduceMul,Nat.reduceSub,reduceCtorEq,Int.reduceToNat])|(refine Br.mk ?_ ?_<;>intro h)|(refine BrN.mk (fun h => ?_) ?_)|(refine AltVC.mk ?_ ?_)
                  refine LoopVC.nlo 10 0 3 1 ?_
                  repeat' first|((first|refine Br.dec ?_ ?_|refine Br.eqi ?_ ?_)<;>intro h<;>try (exfalso;omega))|refine Z4 ?_|with_reducible exact trivial|(refine Br.mk ?_ ?_<;>intro h)|(refine BrN.mk (fun h => ?_) ?_)|(refine AltVC.mk ?_ ?_)
                  have hKe:spotT g w S s=⟨s.2.2,s.1,s.2.1,srtW ((kwS g w s).map (wayN S))⟩:=rfl
                  generalize hK:kwS g w s=K at *
                  refine LoopVC.mk (X:=Nat) (fun c=>[(0,.ptr 0 7 0 0),(4,.ptr 4 2 0 0),(8,.mp 7),(11,.ptr 8 2 0 0),(14,.ptr 10 4 0 0),(55,.ref 5 3 0 a),(77,iv .i64 c)]) (fun c=>foL g w L Wk S RN b++[(10,⟨4,[[iv .i64 s.2.2,iv .i64 s.1,iv .i64 s.2.1,.own false 1 (rows i64s ((K.take c).map (wayN S)))]],true,true,.fix⟩)]) (fun c=>K.length - c) (fun c=>c≤K.length) 0 (Nat.zero_le _) ?_ ?_
                  · simp only [foL,grL,List.cons_append,List.nil_append]
                    rw [hSn]
                    (simp (disch:=first|omega|(simp only [vlen];first|done|omega)) only [Fits_u,Fits_m,Fits_nil,List.length_append,vtf,↓vAq,vBq,↓reduceIte,Nat.reduceBEq,Nat.reduceEqDiff,Nat.reduceLT,Nat.reduceLeDiff,Nat.reduceAdd,Nat.reduceMul,Nat.reduceSub,reduceCtorEq,Int.reduceToNat]<;>(repeat' first|rfl|apply And.intro))
                    all_goals first|rfl|trace_state
                  · intro c hcK
                    simp only [foL,grL,List.cons_append,List.nil_append]
                    rw [hSn]
                    by_cases hcl:c<K.length
                    · have hxm:=getD_mem' (l:=K) (i:=c) hcl
                      obtain ⟨l4,q10⟩:=hk4 _ hxm
                      have hkx:=hkid _ hxm
                      obtain ⟨⟨q,l⟩,hx⟩ : ∃ x,K.getD c default=x:=⟨_,rfl⟩
                      rw [hx] at l4 q10 hkx
                      simp only at l4 q10 hkx
                      repeat' first|((first|refine Br.dec ?_ ?_|refine Br.eqi ?_ ?_)<;>intro h<;>try (exfalso;omega))|(simp (disch:=first|omega|(simp only [vlen];first|done|omega)) only [vtf,hx,↓vAq,vBq,↓reduceIte,Nat.reduceBEq,Nat.reduceEqDiff,Nat.reduceLT,Nat.reduceLeDiff,Nat.reduceAdd,Nat.reduceMul,Nat.reduceSub,reduceCtorEq,Int.reduceToNat])|(refine Br.mk ?_ ?_<;>intro h)|(refine BrN.mk (fun h => ?_) ?_)|(refine AltVC.mk ?_ ?_)
                      refine LoopVC.mk (X:=Nat) (fun d=>[(0,.ptr 0 7 0 0),(4,.ptr 4 2 0 0),(8,.mp 7),(11,.ptr 8 2 0 0),(14,.ptr 10 4 0 0),(17,.ref 12 1 0 (d+1)),(55,.ref 5 3 0 a),(87,iv .i64 d)]) (fun d=>foL g w L Wk S RN b++[(10,⟨4,[[iv .i64 s.2.2,iv .i64 s.1,iv .i64 s.2.1,.own false 1 (rows i64s ((K.take c).map (wayN S)))]],true,true,.fix⟩),(12,⟨1,i64s (wayP S q l d),true,false,.arr⟩)]) (fun d=>l.length - d) (fun d=>d≤l.length) 0 (Nat.zero_le _) ?_ ?_
                      · simp only [foL,grL,List.cons_append,List.nil_append]
                        rw [hSn,wayP_zero]
                        (simp (disch:=first|omega|(simp only [vlen];first|done|omega)) only [Fits_u,Fits_m,Fits_nil,List.length_append,vtf,↓vAq,vBq,↓reduceIte,Nat.reduceBEq,Nat.reduceEqDiff,Nat.reduceLT,Nat.reduceLeDiff,Nat.reduceAdd,Nat.reduceMul,Nat.reduceSub,reduceCtorEq,Int.reduceToNat]<;>(repeat' first|rfl|apply And.intro))
                        all_goals first|rfl|trace_state
                      · intro d hd
                        simp only [foL,grL,List.cons_append,List.nil_append]
                        rw [hSn]
                        have hwl:=wayP_len (S:=S) (q:=q) hd
                        by_cases hdl:d<l.length
                        · have hys:=hkx _ (getD_mem' (l:=l) (i:=d) hdl)
                          obtain ⟨p1,p2,p3,p4⟩:=hOm _ hys
                          have hws:=wayP_succ (S:=S) (q:=q) hdl
                          generalize hye:l.getD d default=y at *
                          repeat' first|((first|refine Br.dec ?_ ?_|refine Br.eqi ?_ ?_)<;>intro h<;>try (exfalso;omega))|(simp (disch:=first|omega|(simp only [vlen];first|done|omega)) only [vtf,hye,hwl,↓vAq,vBq,↓reduceIte,Nat.reduceBEq,Nat.reduceEqDiff,Nat.reduceLT,Nat.reduceLeDiff,Nat.reduceAdd,Nat.reduceMul,Nat.reduceSub,reduceCtorEq,Int.reduceToNat])|(refine Br.mk ?_ ?_<;>intro h)|(refine BrN.mk (fun h => ?_) ?_)|(refine AltVC.mk ?_ ?_)
                          refine BrK.mk (fun q2 hq2 he2 => ?_) (fun hnn3 => ?_)
                          · obtain ⟨u1,u2,hR3⟩:=nu_in hq2 he2
                            have u3:=rk_at hSs (show q2<S.length by omega)
                            rw [u2] at u3
                            repeat' first|((first|refine Br.dec ?_ ?_|refine Br.eqi ?_ ?_)<;>intro h<;>try (exfalso;omega))|(simp (disch:=first|omega|(simp only [vlen];first|done|omega)) only [vtf,hR3,hwl,↓vAq,vBq,↓reduceIte,Nat.reduceBEq,Nat.reduceEqDiff,Nat.reduceLT,Nat.reduceLeDiff,Nat.reduceAdd,Nat.reduceMul,Nat.reduceSub,reduceCtorEq,Int.reduceToNat])|(refine Br.mk ?_ ?_<;>intro h)|(refine BrN.mk (fun h => ?_) ?_)|(refine AltVC.mk ?_ ?_)
                            refine loopK.mk (d+1) Y5 (by omega) (by omega) ?_
                            rw [hws,u3]
                            (simp (disch:=first|omega|(simp only [vlen];first|done|omega)) only [Fits_u,Fits_m,Fits_nil,List.length_append,vtf,hwl,↓vAq,vBq,↓reduceIte,Nat.reduceBEq,Nat.reduceEqDiff,Nat.reduceLT,Nat.reduceLeDiff,Nat.reduceAdd,Nat.reduceMul,Nat.reduceSub,reduceCtorEq,Int.reduceToNat]<;>(repeat' first|rfl|apply And.intro))
                            all_goals first|rfl|trace_state
                          · obtain ⟨u1,u2⟩:=rk_mem hSs hys
                            exact absurd u2 (nu_out hnn3 _ (by omega))
                        · have hde:d=l.length:=by omega
                          subst hde
                          rw [wayP_all] at hwl ⊢
                          have hrm:rows i64s ((K.take (c+1)).map (wayN S))=rows i64s ((K.take c).map (wayN S))++[[.sl 1 (i64s (wayN S (q,l)))]]:=by
                            rw [take_succ_getD hcl default,hx,List.map_append,List.map_cons,List.map_nil,rows_app]
                          repeat' first|((first|refine Br.dec ?_ ?_|refine Br.eqi ?_ ?_)<;>intro h<;>try (exfalso;omega))|refine Z24 ?_|with_reducible exact trivial|(refine Br.mk ?_ ?_<;>intro h)|(refine BrN.mk (fun h => ?_) ?_)|(refine AltVC.mk ?_ ?_)
                          refine loopK.frz 12 ?_
                          repeat' first|((first|refine Br.dec ?_ ?_|refine Br.eqi ?_ ?_)<;>intro h<;>try (exfalso;omega))|refine Z24 ?_|with_reducible exact trivial|(refine Br.mk ?_ ?_<;>intro h)|(refine BrN.mk (fun h => ?_) ?_)|(refine AltVC.mk ?_ ?_)
                          refine loopK.flt 13 ?_
                          repeat' first|((first|refine Br.dec ?_ ?_|refine Br.eqi ?_ ?_)<;>intro h<;>try (exfalso;omega))|refine Z24 ?_|with_reducible exact trivial|(refine Br.mk ?_ ?_<;>intro h)|(refine BrN.mk (fun h => ?_) ?_)|(refine AltVC.mk ?_ ?_)
                          refine loopK.fold 13 10 0 3 true ?_
                          repeat' first|((first|refine Br.dec ?_ ?_|refine Br.eqi ?_ ?_)<;>intro h<;>try (exfalso;omega))|refine Z24 ?_|with_reducible exact trivial|(refine Br.mk ?_ ?_<;>intro h)|(refine BrN.mk (fun h => ?_) ?_)|(refine AltVC.mk ?_ ?_)
                          refine loopK.mk (c+1) Y5 (by omega) (by omega) ?_
                          rw [hrm]
                          (simp (disch:=first|omega|(simp only [vlen];first|done|omega)) only [Fits_u,Fits_m,Fits_nil,List.length_append,vtf,hwl,↓vAq,vBq,↓reduceIte,Nat.reduceBEq,Nat.reduceEqDiff,Nat.reduceLT,Nat.reduceLeDiff,Nat.reduceAdd,Nat.reduceMul,Nat.reduceSub,reduceCtorEq,Int.reduceToNat]<;>(repeat' first|rfl|apply And.intro))
                          all_goals first|rfl|trace_state
                    · have hce:c=K.length:=by omega
                      subst hce
                      have hso:=sortWays_spec ⟨4,[[iv .i64 s.2.2,iv .i64 s.1,iv .i64 s.2.1,.ref 1 1 0 (K.map (wayN S)).length]],false,true,.fix⟩ (K.map (wayN S)) (fun r hr=>by
                        obtain ⟨x,hx,rfl⟩:=List.mem_map.1 hr
                        exact ⟨by simp [wayN],by rw [wayN_len];have:=(hk4 x hx).1;omega⟩) (by rw [List.length_map];omega)
                      repeat' first|((first|refine Br.dec ?_ ?_|refine Br.eqi ?_ ?_)<;>intro h<;>try (exfalso;omega))|refine Z4 ?_|with_reducible exact trivial|(refine Br.mk ?_ ?_<;>intro h)|(refine BrN.mk (fun h => ?_) ?_)|(refine AltVC.mk ?_ ?_)
                      refine CallVC.lendE [10,11] [.ref 1 1 0 (K.map (wayN S)).length,.clo 36 []] [⟨4,[[iv .i64 s.2.2,iv .i64 s.1,iv .i64 s.2.1,.ref 1 1 0 (K.map (wayN S)).length]],false,true,.fix⟩,waO (K.map (wayN S))] hso (by simp) (by rfl) (by unfold waO;(simp (disch:=first|omega|(simp only [vlen];first|done|omega)) only [vle0,vtf,↓vAq,vBq,↓reduceIte,Nat.reduceBEq,Nat.reduceEqDiff,Nat.reduceLT,Nat.reduceLeDiff,Nat.reduceAdd,Nat.reduceMul,Nat.reduceSub,reduceCtorEq,Int.reduceToNat]<;>(repeat' first|rfl|apply And.intro))) ?_
                      rintro _ _ ⟨rfl,R',hR1,hR2,rfl⟩
                      have hRs:=srtW_of hR1 hR2
                      subst hRs
                      have hsl:(srtW (K.map (wayN S))).length=(K.map (wayN S)).length:=srtW_perm.length_eq
                      unfold waO
                      have htk:(rows i64s (srtW (K.map (wayN S)))).take (K.map (wayN S)).length=rows i64s (srtW (K.map (wayN S))):=List.take_of_length_le (by rw [← hsl];simp [rows])
                      have hsu:(S.take (b+1)).map (spotT g w S)=(S.take b).map (spotT g w S)++[spotT g w S s]:=by
                        rw [take_succ_getD (by omega) default,hse,List.map_append];rfl
                      have hspo:tbl spoD ((S.take (b+1)).map (spotT g w S))=tbl spoD ((S.take b).map (spotT g w S))++[[iv .i64 s.2.2,iv .i64 s.1,iv .i64 s.2.1,.sl 1 (rows i64s (srtW (K.map (wayN S))))]]:=by rw [hsu,tbl_app,hKe];rfl
                      repeat' first|((first|refine Br.dec ?_ ?_|refine Br.eqi ?_ ?_)<;>intro h<;>try (exfalso;omega))|refine Z4 ?_|with_reducible exact trivial|(refine Br.mk ?_ ?_<;>intro h)|(refine BrN.mk (fun h => ?_) ?_)|(refine AltVC.mk ?_ ?_)
                      refine GhoV.fold 11 10 0 3 true ?_
                      repeat' first|((first|refine Br.dec ?_ ?_|refine Br.eqi ?_ ?_)<;>intro h<;>try (exfalso;omega))|(simp (disch:=first|omega|(simp only [vlen];first|done|omega)) only [vtf,htk,↓vAq,vBq,↓reduceIte,Nat.reduceBEq,Nat.reduceEqDiff,Nat.reduceLT,Nat.reduceLeDiff,Nat.reduceAdd,Nat.reduceMul,Nat.reduceSub,reduceCtorEq,Int.reduceToNat])|(refine Br.mk ?_ ?_<;>intro h)|(refine BrN.mk (fun h => ?_) ?_)|(refine AltVC.mk ?_ ?_)
                      refine GhoV.frz 10 ?_
                      repeat' first|((first|refine Br.dec ?_ ?_|refine Br.eqi ?_ ?_)<;>intro h<;>try (exfalso;omega))|refine Z4 ?_|with_reducible exact trivial|(refine Br.mk ?_ ?_<;>intro h)|(refine BrN.mk (fun h => ?_) ?_)|(refine AltVC.mk ?_ ?_)
                      refine GhoV.go ?_
                      repeat' first|((first|refine Br.dec ?_ ?_|refine Br.eqi ?_ ?_)<;>intro h<;>try (exfalso;omega))|refine Z4 ?_|with_reducible exact trivial|(refine Br.mk ?_ ?_<;>intro h)|(refine BrN.mk (fun h => ?_) ?_)|(refine AltVC.mk ?_ ?_)
                      refine loopK.fold 12 8 0 0 true ?_
                      repeat' first|((first|refine Br.dec ?_ ?_|refine Br.eqi ?_ ?_)<;>intro h<;>try (exfalso;omega))|refine Z4 ?_|with_reducible exact trivial|(refine Br.mk ?_ ?_<;>intro h)|(refine BrN.mk (fun h => ?_) ?_)|(refine AltVC.mk ?_ ?_)
                      refine loopK.mk (b+1) Y5 (by omega) (by omega) ?_
                      rw [hspo]
                      (simp (disch:=first|omega|(simp only [vlen];first|done|omega)) only [Fits_u,Fits_m,Fits_nil,List.length_append,vtf,↓vAq,vBq,↓reduceIte,Nat.reduceBEq,Nat.reduceEqDiff,Nat.reduceLT,Nat.reduceLeDiff,Nat.reduceAdd,Nat.reduceMul,Nat.reduceSub,reduceCtorEq,Int.reduceToNat]<;>(repeat' first|rfl|apply And.intro))
                      all_goals first|rfl|trace_state
                · have hbe:b=a:=by omega
                  subst hbe
                  repeat' first|((first|refine Br.dec ?_ ?_|refine Br.eqi ?_ ?_)<;>intro h<;>try (exfalso;omega))|refine Z4 ?_|with_reducible exact trivial|(refine Br.mk ?_ ?_<;>intro h)|(refine BrN.mk (fun h => ?_) ?_)|(refine AltVC.mk ?_ ?_)
                  refine GhoV.frz 8 ?_
                  repeat' first|((first|refine Br.dec ?_ ?_|refine Br.eqi ?_ ?_)<;>intro h<;>try (exfalso;omega))|refine Z4 ?_|with_reducible exact trivial|(refine Br.mk ?_ ?_<;>intro h)|(refine BrN.mk (fun h => ?_) ?_)|(refine AltVC.mk ?_ ?_)
                  refine GhoV.go ?_
                  repeat' first|((first|refine Br.dec ?_ ?_|refine Br.eqi ?_ ?_)<;>intro h<;>try (exfalso;omega))|refine Z4 ?_|with_reducible exact trivial|(refine Br.mk ?_ ?_<;>intro h)|(refine BrN.mk (fun h => ?_) ?_)|(refine AltVC.mk ?_ ?_)
                  exact finH_mk ((grO g w L Wk).map some) (by simp [grO]) Y26 Y27 ⟨by rw [hD];(simp (disch:=first|omega|(simp only [vlen];first|done|omega)) only [vtf,↓vAq,vBq,↓reduceIte,Nat.reduceBEq,Nat.reduceEqDiff,Nat.reduceLT,Nat.reduceLeDiff,Nat.reduceAdd,Nat.reduceMul,Nat.reduceSub,reduceCtorEq,Int.reduceToNat]);rw [← hRN];rfl,rfl⟩
            · obtain ⟨q1,q2⟩:=rk_mem hSs hroot
              exact absurd q2 (nu_out hnn _ (by omega))
    · have hg:(tbl (wmD g w) Wk).getD i []=wmD g w (Wk.getD i default):=wm_row hi
      repeat' first|((first|refine Br.dec ?_ ?_|refine Br.eqi ?_ ?_)<;>intro h<;>try (exfalso;omega))|refine Z4 ?_|with_reducible exact trivial|(refine Br.mk ?_ ?_<;>intro h)|(refine BrN.mk (fun h => ?_) ?_)|(refine AltVC.mk ?_ ?_)
      refine EntVC.mk 6 2 Wk.length i l ⟨4,tbl (wmD g w) Wk,true,false,.map [.i64,.i64,.i64] true false⟩ [.i64,.i64,.i64] true false Y5 Y5 rfl tbl_len hi rfl ?_
      repeat' first|((first|refine Br.dec ?_ ?_|refine Br.eqi ?_ ?_)<;>intro h<;>try (exfalso;omega))|(simp (disch:=first|omega|(simp only [vlen];first|done|omega)) only [vtf,hg,↓vAq,vBq,↓reduceIte,Nat.reduceBEq,Nat.reduceEqDiff,Nat.reduceLT,Nat.reduceLeDiff,Nat.reduceAdd,Nat.reduceMul,Nat.reduceSub,reduceCtorEq,Int.reduceToNat])|(refine Br.mk ?_ ?_<;>intro h)|(refine BrN.mk (fun h => ?_) ?_)|(refine AltVC.mk ?_ ?_)
      have hwl:(l++[i]).length≤Wk.length:=by
        refine few_nat _ _ ?_ fun j hj => ?_
        · rw [List.nodup_append]
          exact ⟨hl1,by simp,fun a ha b hb=>by
            have:b=i:=by simpa using hb
            subst this
            exact fun e=>hn (e ▸ ha)⟩
        · rcases List.mem_append.1 hj with hj|hj
          · exact hl2 j hj
          · have:j=i:=by simpa using hj
            omega
      refine loopK.mk (l++[i]) Y5 ⟨?_,fun j hj => ?_,hwl⟩ (by rw [List.length_append] at hwl ⊢;simp at hwl ⊢;omega) ?_
      · rw [List.nodup_append]
        exact ⟨hl1,by simp,fun a ha b hb=>by
          have:b=i:=by simpa using hb
          subst this
          exact fun e=>hn (e ▸ ha)⟩
      · rcases List.mem_append.1 hj with hj|hj
        · exact hl2 j hj
        · have:j=i:=by simpa using hj
          omega
      · rw [outL_app,← sk_app,List.length_append]
        (simp (disch:=first|omega|(simp only [vlen];first|done|omega)) only [Fits_u,Fits_m,Fits_nil,List.length_append,vtf,↓vAq,vBq,↓reduceIte,Nat.reduceBEq,Nat.reduceEqDiff,Nat.reduceLT,Nat.reduceLeDiff,Nat.reduceAdd,Nat.reduceMul,Nat.reduceSub,reduceCtorEq,Int.reduceToNat]<;>(repeat' first|rfl|apply And.intro))
        all_goals first|rfl|trace_state
end Go.Proofs.Ytcclchnbjpncdaa

namespace Go.Proofs.Ytcclchnbjpncdaa
open Go.Dm
structure BE where
  x:Int
  i:Nat
  j:Nat
  v:Nat
deriving Inhabited
def beD (e:BE):List D:=[iv .i64 e.x,iv .i64 e.i,iv .i64 e.j,iv .i64 e.v]
theorem beD_eq {e:BE}:beD e=[iv .i64 e.x,iv .i64 e.i,iv .i64 e.j,iv .i64 e.v]:=(rfl)
def BI (g:Grammar) (w:List Int) (L:List BE):Prop:=∀ e,e ∈ L→e.v=cp (trees g w e.x e.i e.j)
theorem BI.nil {g:Grammar} {w:List Int}:BI g w []:=fun e h=>by cases h
theorem BI.add {g:Grammar} {w:List Int} {L:List BE} (h:BI g w L) {e:BE} (he:e.v=cp (trees g w e.x e.i e.j)):BI g w (L++[e]):=fun x hx=>by
  rcases List.mem_append.mp hx with h1|h1
  · exact h x h1
  · rw [List.mem_singleton.mp h1];exact he
theorem BI.set {g:Grammar} {w:List Int} {L:List BE} (h:BI g w L) {e:BE} {r:Nat} (he:e.v=cp (trees g w e.x e.i e.j)):BI g w (L.set r e):=fun x hx=>by
  rcases List.mem_or_eq_of_mem_set hx with h1|h1
  · exact h x h1
  · rw [h1];exact he
theorem be_in {g:Grammar} {w:List Int} {L:List BE} (h:BI g w L) {r:Nat} {x:Int} {i j:Nat} (hr:r<(tbl beD L).length) (he:Agr (((tbl beD L).getD r []).take 3) [.v (.int .i64 x),.v (.int .i64 i),.v (.int .i64 j)]):(tbl beD L).getD r []=[iv .i64 x,iv .i64 i,iv .i64 j,iv .i64 (cp (trees g w x i j))]:=by
  rw [tbl_len] at hr
  rw [tbl_get hr] at he ⊢
  rw [beD_eq] at he ⊢
  simp only [List.take_succ_cons,List.take_zero,Agr_v,D.v.injEq,Value.int.injEq,true_and,Int.natCast_inj] at he
  have hm:=h _ (getD_mem' (l:=L) (i:=r) hr)
  rw [hm,he.1,he.2.1,he.2.2.1]
theorem be_app {L:List BE} {x:Int} {i j v:Nat}:tbl beD L++[[D.v (.int .i64 x),D.v (.int .i64 i),D.v (.int .i64 j),D.v (.int .i64 v)]]=tbl beD (L++[⟨x,i,j,v⟩]):=by rw [tbl_app];rfl
theorem be_set {L:List BE} {r:Nat} {x:Int} {i j v:Nat}:(tbl beD L).set r [D.v (.int .i64 x),D.v (.int .i64 i),D.v (.int .i64 j),D.v (.int .i64 v)]=tbl beD (L.set r ⟨x,i,j,v⟩):=by rw [← tbl_set];rfl
def vbe:=And.intro vmr<|And.intro @be_app<|And.intro @be_set<|And.intro @rulD_eq @Int.add_sub_cancel
def buO (g:Grammar) (w:List Int) (L:List BE):List Ob:=[⟨6,[[iv .i64 g.k,iv .i64 g.n,iv .i64 g.start,.sl 2 (tbl rulD g.rules),.sl 1 (i64s w),.mp 1]],false,false,.fix⟩,⟨4,tbl beD L,true,false,.map [.i64,.i64,.i64] true false⟩]
def buL (g:Grammar) (w:List Int) (L:List BE):List (Nat × Ob):=[(0,⟨6,[[iv .i64 g.k,iv .i64 g.n,iv .i64 g.start,.sl 2 (tbl rulD g.rules),.sl 1 (i64s w),.mp 1]],false,false,.fix⟩),(1,⟨4,tbl beD L,true,false,.map [.i64,.i64,.i64] true false⟩)]
def buR (g:Grammar) (w:List Int) (n:Nat) (d:D) (o:List (Option Ob)):Prop := ∃ L,d=iv .i64 (cp n)∧o=(buO g w L).map some∧BI g w L
theorem bush_fin {g:Grammar} {w:List Int} {s:S} {n:Nat} {v:Int} {L:List BE} (h1:2≤s.N) (h2:fitL s 2 0 ((buO g w L).map some)) (hv:v=(cp n:Nat)) (hL:BI g w L):FinH 2 (buR g w n) s (D.v (.int .i64 v)) :=
  finH_mk ((buO g w L).map some) (by simp [buO]) (by simpa [buO] using h1) (by simpa [buO] using h2) ⟨L,by subst hv;rw [trim_v],rfl,hL⟩
theorem nsum_cp_le {f:Nat→Nat}:∀ {n:Nat},nsum (fun q=>cp (f q)) n≤n * 1099511627777
  | 0=>Nat.zero_le _
  | n+1=>by
    have:=@nsum_cp_le f n
    have h2:=@cp_le (f n)
    rw [nsum_succ,Nat.succ_mul];omega
theorem nsum_cp {f:Nat→Nat}:∀ {n:Nat},cp (nsum f n)=cp (nsum (fun q=>cp (f q)) n)
  | 0=>rfl
  | n+1=>by
    have:=@nsum_cp f n
    rw [nsum_succ,nsum_succ]
    unfold cp at this ⊢;omega
def btP (g:Grammar) (w:List Int) (x:Int) (i j:Nat):Prop:=∀ L,BI g w L→Dm.SpecH Try.prog 39 [.ptr 0 6 0 0,iv .i64 x,iv .i64 i,iv .i64 j] (buO g w L) (buR g w (trees g w x i j))
def brP (g:Grammar) (w:List Int) (l:List Int) (i j:Nat):Prop:=∀ L,BI g w L→Dm.SpecH Try.prog 40 [.ptr 0 6 0 0,.sl 1 (i64s l),iv .i64 i,iv .i64 j] (buO g w L) (buR g w (rowN g w l i j))
set_option maxRecDepth 10000 in
set_option maxHeartbeats 4000000 in
theorem trS_spec (g:Grammar) (w:List Int) (hc:CC g w) (x:Int) (i j:Nat) (hx:x<g.k) (hx0:0≤x) (hij:i≤j) (hj:j≤w.length) (L:List BE) (hL:BI g w L):Dm.SpecH Try.prog 39 [.ptr 0 6 0 0,iv .i64 x,iv .i64 i,iv .i64 j] (buO g w L) (buR g w (trees g w x i j)):=by
  refine specH_of_vc mixed Try.func39 c39 (by rw [show Try.f39.ntmps=_ from Try.ntmps39];simp) ?_
  unfold m39 r39
  have hk:=hc.v.k
  have hw:=hc.w
  rw [trees_sym hx]
  unfold buO
  repeat' first|((first|refine Br.dec ?_ ?_|refine Br.eqi ?_ ?_)<;>intro h<;>try (exfalso;omega))|refine Z3 ?_|with_reducible exact trivial|(refine Br.mk ?_ ?_<;>intro h)|(refine BrN.mk (fun h => ?_) ?_)|(refine AltVC.mk ?_ ?_)
  · refine bush_fin (L:=L) Y2 Y4 ?_ hL
    unfold symV;rw [if_pos ⟨by omega,by assumption⟩];rfl
  · refine bush_fin (L:=L) Y2 Y4 ?_ hL
    unfold symV;rw [if_neg fun h=>by have:=h.2;contradiction];rfl
  · refine bush_fin (L:=L) Y2 Y4 ?_ hL
    unfold symV;rw [if_neg fun h=>by have:=h.1;omega];rfl
set_option maxRecDepth 10000 in
set_option maxHeartbeats 4000000 in
theorem trN_spec (g : Grammar) (w : List Int) (hc : CC g w) (x : Int) (i j : Nat) (hx : ¬ x < g.k) (hx2 : x < g.k + g.n) (hij : i ≤ j) (hj : j ≤ w.length) (ihR : ∀ q, q < g.rules.length → brP g w (g.rules.getD q default).right i j) (L : List BE) (hL : BI g w L) : Dm.SpecH Try.prog 39 [.ptr 0 6 0 0, iv .i64 x, iv .i64 i, iv .i64 j] (buO g w L) (buR g w (trees g w x i j)) := by
  refine specH_of_vc mixed Try.func39 c39 (by rw [show Try.f39.ntmps=_ from Try.ntmps39];simp) ?_
  unfold m39 r39
  have hk:=hc.v.k
  have hn:=hc.v.n
  have hw:=hc.w
  have hlen:=hc.v.len
  have hleft:∀ q,q<g.rules.length→0≤(g.rules.getD q default).left∧(g.rules.getD q default).left<g.n:=fun q hq=>hc.v.left _ (getD_mem' hq)
  by_cases hij0:i=j
  · subst hij0
    rw [trees_none hc.p (Nat.le_refl _)]
    unfold buO
    repeat' first|((first|refine Br.dec ?_ ?_|refine Br.eqi ?_ ?_)<;>intro h<;>try (exfalso;omega))|refine Z3 ?_|with_reducible exact trivial|(refine Br.mk ?_ ?_<;>intro h)|(refine BrN.mk (fun h => ?_) ?_)|(refine AltVC.mk ?_ ?_)
    exact bush_fin (L:=L) Y2 Y4 rfl hL
  unfold buO
  repeat' first|((first|refine Br.dec ?_ ?_|refine Br.eqi ?_ ?_)<;>intro h<;>try (exfalso;omega))|refine Z3 ?_|with_reducible exact trivial|(refine Br.mk ?_ ?_<;>intro h)|(refine BrN.mk (fun h => ?_) ?_)|(refine AltVC.mk ?_ ?_)
  refine BrK.mk (fun r hr he => ?_) (fun hnn => ?_)
  · have hR:=be_in hL hr he
    repeat' first|((first|refine Br.dec ?_ ?_|refine Br.eqi ?_ ?_)<;>intro h<;>try (exfalso;omega))|(simp (disch:=first|omega|(simp only [vlen];first|done|omega)) only [vbe,hR,↓vAq,vBq,↓reduceIte,Nat.reduceBEq,Nat.reduceEqDiff,Nat.reduceLT,Nat.reduceLeDiff,Nat.reduceAdd,Nat.reduceMul,Nat.reduceSub,reduceCtorEq,Int.reduceToNat])|(refine Br.mk ?_ ?_<;>intro h)|(refine BrN.mk (fun h => ?_) ?_)|(refine AltVC.mk ?_ ?_)
    exact bush_fin (L:=L) Y2 Y4 rfl hL
  · repeat' first | ((first | refine Br.dec ?_ ?_ | refine Br.eqi ?_ ?_) <;> intro h <;> try (exfalso; omega)) | refine Z3 ?_ | with_reducible exact trivial | (refine Br.mk ?_ ?_ <;> intro h) | (refine BrN.mk (fun h => ?_) ?_) | (refine AltVC.mk ?_ ?_)
    refine LoopVC.mk (X:=Nat × List BE) (fun y=>[(9,iv .i64 (nsum (fun q=>cp (ruleV g w x i j q)) y.1)),(58,iv .i64 y.1)]) (fun y=>buL g w y.2) (fun y=>g.rules.length - y.1) (fun y=>y.1≤g.rules.length∧BI g w y.2) (0,L) ⟨Nat.zero_le _,hL⟩ ?_ ?_
    · unfold buL
      (simp (disch:=first|omega|(simp only [vlen];first|done|omega)) only [Fits_u,Fits_m,Fits_nil,List.length_append,vbe,↓vAq,vBq,↓reduceIte,Nat.reduceBEq,Nat.reduceEqDiff,Nat.reduceLT,Nat.reduceLeDiff,Nat.reduceAdd,Nat.reduceMul,Nat.reduceSub,reduceCtorEq,Int.reduceToNat]<;>(repeat' first|rfl|apply And.intro))
      all_goals first|rfl|trace_state
    · rintro ⟨q,Lx⟩ ⟨hq1,hLx⟩
      simp only at hq1 hLx ⊢
      unfold buL
      have hsum:=nsum_cp_le (f:=ruleV g w x i j) (n:=q)
      have hsq:=Nat.mul_le_mul_right 1099511627777 (show q≤10 by omega)
      by_cases hq:q<g.rules.length
      · have hlq:=hleft q hq
        have hmr:=hc.v.long _ (getD_mem' (l:=g.rules) (i:=q) hq)
        have hcq:=@cp_le (rowN g w (g.rules.getD q default).right i j)
        by_cases hlx:(g.rules.getD q default).left=x - g.k
        · repeat' first|((first|refine Br.dec ?_ ?_|refine Br.eqi ?_ ?_)<;>intro h<;>try (exfalso;omega))|refine Z3 ?_|with_reducible exact trivial|(refine Br.mk ?_ ?_<;>intro h)|(refine BrN.mk (fun h => ?_) ?_)|(refine AltVC.mk ?_ ?_)
          refine CallVC.lendE [0,1] [.ptr 0 6 0 0,.sl 1 (i64s (g.rules.getD q default).right),iv .i64 i,iv .i64 j] (buO g w Lx) (ihR q hq Lx hLx) (by simp) (by rfl) Y7 ?_
          rintro _ _ ⟨L2,rfl,rfl,hL2⟩
          unfold buO
          repeat' first|((first|refine Br.dec ?_ ?_|refine Br.eqi ?_ ?_)<;>intro h<;>try (exfalso;omega))|refine Z3 ?_|with_reducible exact trivial|(refine Br.mk ?_ ?_<;>intro h)|(refine BrN.mk (fun h => ?_) ?_)|(refine AltVC.mk ?_ ?_)
          refine loopK.mk (q+1,L2) Y0 ⟨by show q+1≤g.rules.length;omega,hL2⟩ (by show g.rules.length - (q+1)<g.rules.length - q;omega) ?_
          simp only [nsum_succ]
          rw [show ruleV g w x i j q=rowN g w (g.rules.getD q default).right i j by unfold ruleV;rw [if_pos hlx]]
          (simp (disch:=first|omega|(simp only [vlen];first|done|omega)) only [Fits_u,Fits_m,Fits_nil,List.length_append,vbe,↓vAq,vBq,↓reduceIte,Nat.reduceBEq,Nat.reduceEqDiff,Nat.reduceLT,Nat.reduceLeDiff,Nat.reduceAdd,Nat.reduceMul,Nat.reduceSub,reduceCtorEq,Int.reduceToNat]<;>(repeat' first|rfl|apply And.intro))
          all_goals first|rfl|trace_state
        · repeat' first|((first|refine Br.dec ?_ ?_|refine Br.eqi ?_ ?_)<;>intro h<;>try (exfalso;omega))|refine Z3 ?_|with_reducible exact trivial|(refine Br.mk ?_ ?_<;>intro h)|(refine BrN.mk (fun h => ?_) ?_)|(refine AltVC.mk ?_ ?_)
          refine loopK.mk (q+1,Lx) Y0 ⟨by show q+1≤g.rules.length;omega,hLx⟩ (by show g.rules.length - (q+1)<g.rules.length - q;omega) ?_
          simp only [nsum_succ]
          rw [show ruleV g w x i j q=0 by unfold ruleV;rw [if_neg hlx],show cp 0=0 from rfl,Nat.add_zero]
          (simp (disch:=first|omega|(simp only [vlen];first|done|omega)) only [Fits_u,Fits_m,Fits_nil,List.length_append,vbe,↓vAq,vBq,↓reduceIte,Nat.reduceBEq,Nat.reduceEqDiff,Nat.reduceLT,Nat.reduceLeDiff,Nat.reduceAdd,Nat.reduceMul,Nat.reduceSub,reduceCtorEq,Int.reduceToNat]<;>(repeat' first|rfl|apply And.intro))
          all_goals first|rfl|trace_state
      · have e2:q=g.rules.length:=by omega
        subst e2
        have htr:=trees_name hc.p (w:=w) (i:=i) (j:=j) hx
        have hcp:cp (trees g w x i j)=cp (nsum (fun q=>cp (ruleV g w x i j q)) g.rules.length):=by rw [htr,nsum_cp]
        obtain ⟨S,hS⟩ : ∃ S,nsum (fun q=>cp (ruleV g w x i j q)) g.rules.length=S:=⟨_,rfl⟩
        rw [hS] at hcp hsum ⊢
        repeat' first|((first|refine Br.dec ?_ ?_|refine Br.eqi ?_ ?_)<;>intro h<;>try (exfalso;omega))|refine Z3 ?_|with_reducible exact trivial|(refine Br.mk ?_ ?_<;>intro h)|(refine BrN.mk (fun h => ?_) ?_)|(refine AltVC.mk ?_ ?_)
        · have hv:cp (trees g w x i j)=1099511627777:=by rw [hcp];unfold cp;omega
          obtain ⟨C,hC,hC2⟩ : ∃ C:Nat,(1099511627777:Int)=C∧1099511627777=C:=⟨1099511627777,rfl,rfl⟩
          rw [hC2] at hv
          refine BrK.mk (fun r hr he => ?_) (fun hnn => ?_)
          · repeat' first|((first|refine Br.dec ?_ ?_|refine Br.eqi ?_ ?_)<;>intro h<;>try (exfalso;omega))|refine Z36 ?_|with_reducible exact trivial|(refine Br.mk ?_ ?_<;>intro h)|(refine BrN.mk (fun h => ?_) ?_)|(refine AltVC.mk ?_ ?_)
            exact bush_fin (L:=Lx.set r ⟨x,i,j,C⟩) Y2 Y4 (by rw [hv]) (hLx.set hv.symm)
          · repeat' first|((first|refine Br.dec ?_ ?_|refine Br.eqi ?_ ?_)<;>intro h<;>try (exfalso;omega))|refine Z36 ?_|with_reducible exact trivial|(refine Br.mk ?_ ?_<;>intro h)|(refine BrN.mk (fun h => ?_) ?_)|(refine AltVC.mk ?_ ?_)
            exact bush_fin (L:=Lx++[⟨x,i,j,C⟩]) Y2 Y4 (by rw [hv]) (hLx.add hv.symm)
        · have hv:cp (trees g w x i j)=S:=by rw [hcp];unfold cp;omega
          refine BrK.mk (fun r hr he => ?_) (fun hnn => ?_)
          · repeat' first|((first|refine Br.dec ?_ ?_|refine Br.eqi ?_ ?_)<;>intro h<;>try (exfalso;omega))|refine Z3 ?_|with_reducible exact trivial|(refine Br.mk ?_ ?_<;>intro h)|(refine BrN.mk (fun h => ?_) ?_)|(refine AltVC.mk ?_ ?_)
            exact bush_fin (L:=Lx.set r ⟨x,i,j,S⟩) Y2 Y4 (by rw [hv]) (hLx.set hv.symm)
          · repeat' first|((first|refine Br.dec ?_ ?_|refine Br.eqi ?_ ?_)<;>intro h<;>try (exfalso;omega))|refine Z3 ?_|with_reducible exact trivial|(refine Br.mk ?_ ?_<;>intro h)|(refine BrN.mk (fun h => ?_) ?_)|(refine AltVC.mk ?_ ?_)
            exact bush_fin (L:=Lx++[⟨x,i,j,S⟩]) Y2 Y4 (by rw [hv]) (hLx.add hv.symm)
def lsF (g:Grammar) (w:List Int) (l:List Int) (i j m:Nat):Nat:=trees g w (l.getD 0 0) i m * rowN g w (l.drop 1) m j
theorem lsF_eq {g:Grammar} {w:List Int} {l:List Int} {i j:Nat} (h:1<l.length):rowN g w l i j=tsum (lsF g w l i j) (i+1) j:=by
  have:=@rowN_drop g w l 0 i j (by omega)
  rw [List.drop_zero] at this;exact this
theorem bush_sum {a b:Nat} (h:¬ (1099511627776:Int)<(cp a:Nat)+(cp b:Nat)):((cp a:Nat):Int)+(cp b:Nat)=(cp (a+b):Nat):=by unfold cp at *;omega
theorem bush_cap {a b:Nat} (h:(1099511627776:Int)<(cp a:Nat)+(cp b:Nat)):(1099511627777:Int)=(cp (a+b):Nat):=by unfold cp at *;omega
theorem bush_no {a:Nat} (h:(1099511627776:Int)<(cp a:Nat)):(1099511627777:Int)=(cp a:Nat):=by unfold cp at *;omega
set_option maxRecDepth 10000 in
set_option maxHeartbeats 4000000 in
theorem rwB_spec (g : Grammar) (w : List Int) (hc : CC g w) (l : List Int) (hll : l.length ≤ 4) (hx : ∀ k, k < l.length → 0 ≤ l.getD k 0 ∧ l.getD k 0 < g.k + g.n) (i j : Nat) (hij : i ≤ j) (hj : j ≤ w.length) (ihT : ∀ m, i ≤ m → m < j → btP g w (l.getD 0 0) i m) (ihR : ∀ m, i < m → m ≤ j → brP g w (l.drop 1) m j) (hs : l.length = 1 → btP g w (l.getD 0 0) i j) (L : List BE) (hL : BI g w L) : Dm.SpecH Try.prog 40 [.ptr 0 6 0 0, .sl 1 (i64s l), iv .i64 i, iv .i64 j] (buO g w L) (buR g w (rowN g w l i j)) := by
  refine specH_of_vc mixed Try.func40 c40 (by rw [show Try.f40.ntmps=_ from Try.ntmps40];simp) ?_
  unfold m40 r40
  have hk:=hc.v.k
  have hw:=hc.w
  by_cases hsh:j - i<l.length
  · unfold buO
    repeat' first|((first|refine Br.dec ?_ ?_|refine Br.eqi ?_ ?_)<;>intro h<;>try (exfalso;omega))|refine Z3 ?_|with_reducible exact trivial|(refine Br.mk ?_ ?_<;>intro h)|(refine BrN.mk (fun h => ?_) ?_)|(refine AltVC.mk ?_ ?_)
    refine bush_fin (L:=L) Y2 Y4 ?_ hL
    rw [rowN_short hc.p hsh];rfl
  by_cases h0:l.length=0
  · have h0':=List.eq_nil_of_length_eq_zero h0
    subst h0'
    unfold buO
    repeat' first|((first|refine Br.dec ?_ ?_|refine Br.eqi ?_ ?_)<;>intro h<;>try (exfalso;omega))|refine Z3 ?_|with_reducible exact trivial|(refine Br.mk ?_ ?_<;>intro h)|(refine BrN.mk (fun h => ?_) ?_)|(refine AltVC.mk ?_ ?_)
    · refine bush_fin (L:=L) Y2 Y4 ?_ hL
      rw [rowN_nil,if_pos (by omega)];rfl
    · refine bush_fin (L:=L) Y2 Y4 ?_ hL
      rw [rowN_nil,if_neg (by omega)];rfl
  by_cases hone:l.length=1
  · have hS:=hs hone L hL
    have e:=@rowN_last g w l 0 i j (by omega)
    rw [List.drop_zero] at e
    rw [e]
    unfold buO
    repeat' first|((first|refine Br.dec ?_ ?_|refine Br.eqi ?_ ?_)<;>intro h<;>try (exfalso;omega))|refine Z3 ?_|with_reducible exact trivial|(refine Br.mk ?_ ?_<;>intro h)|(refine BrN.mk (fun h => ?_) ?_)|(refine AltVC.mk ?_ ?_)
    refine CallVC.lendE [0,1] [.ptr 0 6 0 0,iv .i64 (l.getD 0 0),iv .i64 i,iv .i64 j] (buO g w L) hS (by simp) (by rfl) Y7 ?_
    rintro _ _ ⟨L2,rfl,rfl,hL2⟩
    unfold buO
    repeat' first|((first|refine Br.dec ?_ ?_|refine Br.eqi ?_ ?_)<;>intro h<;>try (exfalso;omega))|refine Z3 ?_|with_reducible exact trivial|(refine Br.mk ?_ ?_<;>intro h)|(refine BrN.mk (fun h => ?_) ?_)|(refine AltVC.mk ?_ ?_)
    exact bush_fin (L:=L2) Y2 Y4 rfl hL2
  · rw [lsF_eq (by omega)]
    unfold buO
    repeat' first|((first|refine Br.dec ?_ ?_|refine Br.eqi ?_ ?_)<;>intro h<;>try (exfalso;omega))|refine Z3 ?_|with_reducible exact trivial|(refine Br.mk ?_ ?_<;>intro h)|(refine BrN.mk (fun h => ?_) ?_)|(refine AltVC.mk ?_ ?_)
    refine LoopVC.mk (X:=Nat × List BE) (fun y=>[(9,iv .i64 (cp (tsum (lsF g w l i j) (i+1) y.1))),(10,iv .i64 y.1)]) (fun y=>buL g w y.2) (fun y=>j - y.1) (fun y=>i+1≤y.1∧y.1≤j∧BI g w y.2) (i+1,L) ⟨Nat.le_refl _,by omega,hL⟩ ?_ ?_
    · unfold buL
      rw [tsum_empty (Nat.le_refl _)]
      (simp (disch:=first|omega|(simp only [vlen];first|done|omega)) only [Fits_u,Fits_m,Fits_nil,List.length_append,vbe,↓vAq,vBq,↓reduceIte,Nat.reduceBEq,Nat.reduceEqDiff,Nat.reduceLT,Nat.reduceLeDiff,Nat.reduceAdd,Nat.reduceMul,Nat.reduceSub,reduceCtorEq,Int.reduceToNat]<;>(repeat' first|rfl|apply And.intro))
      all_goals first|rfl|trace_state
    · rintro ⟨m,Lx⟩ ⟨hm1,hm2,hLx⟩
      simp only at hm1 hm2 hLx ⊢
      unfold buL
      have hsl:=@cp_le (tsum (lsF g w l i j) (i+1) m)
      have hpl:=@cp_le (lsF g w l i j m)
      by_cases hmj:m<j
      · have hdr:(l.drop 1).length=l.length - 1:=List.length_drop
        repeat' first|((first|refine Br.dec ?_ ?_|refine Br.eqi ?_ ?_)<;>intro h<;>try (exfalso;omega))|refine Z3 ?_|with_reducible exact trivial|(refine Br.mk ?_ ?_<;>intro h)|(refine BrN.mk (fun h => ?_) ?_)|(refine AltVC.mk ?_ ?_)
        refine CallVC.lendE [0,1] [.ptr 0 6 0 0,.sl 1 (i64s (l.drop 1)),iv .i64 m,iv .i64 j] (buO g w Lx) (ihR m (by omega) (by omega) Lx hLx) (by simp) (by rfl) Y7 ?_
        rintro _ _ ⟨L2,rfl,rfl,hL2⟩
        unfold buO
        repeat' first|((first|refine Br.dec ?_ ?_|refine Br.eqi ?_ ?_)<;>intro h<;>try (exfalso;omega))|refine Z3 ?_|with_reducible exact trivial|(refine Br.mk ?_ ?_<;>intro h)|(refine BrN.mk (fun h => ?_) ?_)|(refine AltVC.mk ?_ ?_)
        · refine CallVC.lendE [0,1] [.ptr 0 6 0 0,iv .i64 (l.getD 0 0),iv .i64 i,iv .i64 m] (buO g w L2) (ihT m (by omega) hmj L2 hL2) (by simp) (by rfl) Y7 ?_
          rintro _ _ ⟨L3,rfl,rfl,hL3⟩
          unfold buO
          repeat' first|((first|refine Br.dec ?_ ?_|refine Br.eqi ?_ ?_)<;>intro h<;>try (exfalso;omega))|refine Z3 ?_|with_reducible exact trivial|(refine Br.mk ?_ ?_<;>intro h)|(refine BrN.mk (fun h => ?_) ?_)|(refine AltVC.mk ?_ ?_)
          refine CallVC.eq (capped_cp _ _) ?_
          rw [show trees g w (l.getD 0 0) i m * rowN g w (l.drop 1) m j=lsF g w l i j m from rfl]
          repeat' first|((first|refine Br.dec ?_ ?_|refine Br.eqi ?_ ?_)<;>intro h<;>try (exfalso;omega))|refine Z3 ?_|with_reducible exact trivial|(refine Br.mk ?_ ?_<;>intro h)|(refine BrN.mk (fun h => ?_) ?_)|(refine AltVC.mk ?_ ?_)
          · refine loopK.mk (m+1,L3) Y0 ⟨by show i+1≤m+1;omega,by show m+1≤j;omega,hL3⟩ (by show j - (m+1)<j - m;omega) ?_
            simp only [tsum_succ hm1,← bush_cap h]
            (simp (disch:=first|omega|(simp only [vlen];first|done|omega)) only [Fits_u,Fits_m,Fits_nil,List.length_append,vbe,↓vAq,vBq,↓reduceIte,Nat.reduceBEq,Nat.reduceEqDiff,Nat.reduceLT,Nat.reduceLeDiff,Nat.reduceAdd,Nat.reduceMul,Nat.reduceSub,reduceCtorEq,Int.reduceToNat]<;>(repeat' first|rfl|apply And.intro))
            all_goals first|rfl|trace_state
          · refine loopK.mk (m+1,L3) Y0 ⟨by show i+1≤m+1;omega,by show m+1≤j;omega,hL3⟩ (by show j - (m+1)<j - m;omega) ?_
            simp only [tsum_succ hm1,← bush_sum h]
            (simp (disch:=first|omega|(simp only [vlen];first|done|omega)) only [Fits_u,Fits_m,Fits_nil,List.length_append,vbe,↓vAq,vBq,↓reduceIte,Nat.reduceBEq,Nat.reduceEqDiff,Nat.reduceLT,Nat.reduceLeDiff,Nat.reduceAdd,Nat.reduceMul,Nat.reduceSub,reduceCtorEq,Int.reduceToNat]<;>(repeat' first|rfl|apply And.intro))
            all_goals first|rfl|trace_state
        all_goals
          have hz:lsF g w l i j m=0:=by unfold lsF;rw [(cp_zero (n:=rowN g w (l.drop 1) m j)).mp (by omega),Nat.mul_zero]
        · refine loopK.mk (m+1,L2) Y0 ⟨by show i+1≤m+1;omega,by show m+1≤j;omega,hL2⟩ (by show j - (m+1)<j - m;omega) ?_
          simp only [tsum_succ hm1,hz,Nat.add_zero]
          rw [← bush_no (by assumption)]
          (simp (disch:=first|omega|(simp only [vlen];first|done|omega)) only [Fits_u,Fits_m,Fits_nil,List.length_append,vbe,↓vAq,vBq,↓reduceIte,Nat.reduceBEq,Nat.reduceEqDiff,Nat.reduceLT,Nat.reduceLeDiff,Nat.reduceAdd,Nat.reduceMul,Nat.reduceSub,reduceCtorEq,Int.reduceToNat]<;>(repeat' first|rfl|apply And.intro))
          all_goals first|rfl|trace_state
        · refine loopK.mk (m+1,L2) Y0 ⟨by show i+1≤m+1;omega,by show m+1≤j;omega,hL2⟩ (by show j - (m+1)<j - m;omega) ?_
          simp only [tsum_succ hm1,hz,Nat.add_zero]
          (simp (disch:=first|omega|(simp only [vlen];first|done|omega)) only [Fits_u,Fits_m,Fits_nil,List.length_append,vbe,↓vAq,vBq,↓reduceIte,Nat.reduceBEq,Nat.reduceEqDiff,Nat.reduceLT,Nat.reduceLeDiff,Nat.reduceAdd,Nat.reduceMul,Nat.reduceSub,reduceCtorEq,Int.reduceToNat]<;>(repeat' first|rfl|apply And.intro))
          all_goals first|rfl|trace_state
      · have e2:m=j:=by omega
        subst e2
        repeat' first|((first|refine Br.dec ?_ ?_|refine Br.eqi ?_ ?_)<;>intro h<;>try (exfalso;omega))|refine Z3 ?_|with_reducible exact trivial|(refine Br.mk ?_ ?_<;>intro h)|(refine BrN.mk (fun h => ?_) ?_)|(refine AltVC.mk ?_ ?_)
        exact bush_fin (L:=Lx) Y2 Y4 rfl hLx
theorem bush_all (g : Grammar) (w : List Int) (hc : CC g w) : ∀ n, (∀ x i j, 0 ≤ x → x < g.k + g.n → i ≤ j → j ≤ w.length → j - i < n → btP g w x i j) ∧ (∀ l i j, l.length ≤ 4 → (∀ k, k < l.length → 0 ≤ l.getD k 0 ∧ l.getD k 0 < g.k + g.n) → i ≤ j → j ≤ w.length → j - i < n → brP g w l i j) := by
  intro n
  induction n with
  | zero=>exact ⟨fun _ _ _ _ _ _ _ h=>absurd h (Nat.not_lt_zero _),fun _ _ _ _ _ _ _ h=>absurd h (Nat.not_lt_zero _)⟩
  | succ n ih =>
    have hdx:∀ l:List Int,(∀ k,k<l.length→0≤l.getD k 0∧l.getD k 0<g.k+g.n)→∀ k,k<(l.drop 1).length→0≤(l.drop 1).getD k 0∧(l.drop 1).getD k 0<g.k+g.n:=fun l h k hk=>by
      rw [List.length_drop] at hk
      have:=h (k+1) (by omega)
      rwa [show (l.drop 1).getD k 0=l.getD (k+1) 0 by simp [List.getD,Nat.add_comm]]
    have hR:∀ l i j,l.length≤4→(∀ k,k<l.length→0≤l.getD k 0∧l.getD k 0<g.k+g.n)→i≤j→j≤w.length→j - i<n+1→(l.length=1→btP g w (l.getD 0 0) i j)→brP g w l i j:=fun l i j hl hx hij hj hn hs L hL=>by
      by_cases h2:l.length<2
      · by_cases h1:l.length=1
        · refine rwB_spec g w hc l hl hx i j hij hj (fun m h3 h4=>ih.1 _ _ _ (hx 0 (by omega)).1 (hx 0 (by omega)).2 h3 (by omega) (by omega)) (fun m h3 h4=>ih.2 _ m j (by rw [List.length_drop];omega) (hdx l hx) h4 hj (by omega)) hs L hL
        · have h0:=List.eq_nil_of_length_eq_zero (show l.length=0 by omega)
          subst h0
          refine rwB_spec g w hc [] (by simp) (by simp) i j hij hj (fun m h3 h4 L hL => ?_) (fun m h3 h4=>ih.2 _ m j (by simp) (by simp) h4 hj (by omega)) hs L hL
          have hk:=hc.v.k
          exact trS_spec g w hc 0 i m (by omega) (Int.le_refl 0) h3 (by omega) L hL
      · refine rwB_spec g w hc l hl hx i j hij hj (fun m h3 h4=>ih.1 _ _ _ (hx 0 (by omega)).1 (hx 0 (by omega)).2 h3 (by omega) (by omega)) (fun m h3 h4=>ih.2 _ m j (by rw [List.length_drop];omega) (hdx l hx) h4 hj (by omega)) hs L hL
    have hT:∀ x i j,0≤x→x<g.k+g.n→i≤j→j≤w.length→j - i<n+1→btP g w x i j:=fun x i j h0 h1 hij hj hn L hL=>by
      by_cases hx:x<g.k
      · exact trS_spec g w hc x i j hx h0 hij hj L hL
      · refine trN_spec g w hc x i j hx h1 hij hj (fun q hq => ?_) L hL
        have hr:=getD_mem' (l:=g.rules) (i:=q) hq
        refine hR _ i j (hc.v.long _ hr) (fun k hk=>hc.v.right _ hr _ (getD_mem' (l:=(g.rules.getD q default).right) (i:=k) hk)) hij hj hn (fun h1 L hL => ?_)
        have hs:(g.rules.getD q default).right=[(g.rules.getD q default).right.getD 0 0]:=by
          match hl:(g.rules.getD q default).right,h1 with
          | [s],_=>rfl
        have h0:=hc.v.right _ hr _ (by rw [hs];simp:(g.rules.getD q default).right.getD 0 0 ∈ (g.rules.getD q default).right)
        exact trS_spec g w hc _ i j ((hc.p _ hr).2 _ hs) h0.1 hij hj L hL
    exact ⟨hT,fun l i j hl hx hij hj hn=>hR l i j hl hx hij hj hn fun h1=>hT _ i j (hx 0 (by omega)).1 (hx 0 (by omega)).2 hij hj hn⟩
theorem bushT_spec (g:Grammar) (w:List Int) (hc:CC g w) (x:Int) (i j:Nat) (h0:0≤x) (h1:x<g.k+g.n) (hij:i≤j) (hj:j≤w.length):btP g w x i j:=(bush_all g w hc (j - i+1)).1 x i j h0 h1 hij hj (Nat.lt_succ_self _)
theorem bushR_spec (g:Grammar) (w:List Int) (hc:CC g w) (l:List Int) (i j:Nat) (hl:l.length≤4) (hx:∀ k,k<l.length→0≤l.getD k 0∧l.getD k 0<g.k+g.n) (hij:i≤j) (hj:j≤w.length):brP g w l i j:=(bush_all g w hc (j - i+1)).2 l i j hl hx hij hj (Nat.lt_succ_self _)
end Go.Proofs.Ytcclchnbjpncdaa

namespace Go.Proofs.Ytcclchnbjpncdaa
open Go.Dm
structure VM (m:Dm.Machine):Prop where
  n:1≤m.n∧m.n≤7
  k:1≤m.k∧m.k≤3
  len:(m.next.length:Int)=m.n
  row:∀ l,l ∈ m.next→(l.length:Int)=m.k
  to:∀ l,l ∈ m.next→∀ x,x ∈ l→0≤x∧x<m.n
  start:0≤m.start∧m.start<m.n
  final:0≤m.final∧m.final.toNat<2 ^ m.n.toNat
set_option maxRecDepth 10000 in
set_option maxHeartbeats 4000000 in
theorem within_spec (n lo hi:Int):Dm.Spec Try.prog 47 [iv .i64 n,iv .i64 lo,iv .i64 hi] (·=.v (.bool (decide (lo≤n∧n≤hi)))):=by
  refine spec_of_vc mixed Try.func47 c47 (by rw [show Try.f47.ntmps=_ from Try.ntmps47];simp) ?_
  unfold m47 r47
  repeat' first|((first|refine Br.dec ?_ ?_|refine Br.eqi ?_ ?_)<;>intro h<;>try (exfalso;omega))|refine Z1 ?_|with_reducible exact trivial|(refine Br.mk ?_ ?_<;>intro h)|(refine BrN.mk (fun h => ?_) ?_)|(refine AltVC.mk ?_ ?_)
  · exact fin_mk (vbEq (dec_iff (by omega)))
  · exact fin_mk (vbEq (decide_eq_false (by omega)).symm)
end Go.Proofs.Ytcclchnbjpncdaa

namespace Go.Proofs.Ytcclchnbjpncdaa
open Go.Dm
def badSym (k s:Int):Bool:=decide (s<0∨k≤s)
def wcode (k:Int) (w:List Int):Int:=if 12<(w.length:Int) then 1 else if w.any (badSym k)=true then 2 else 0
theorem wcode_ok {k:Int} {w:List Int} (h:wcode k w=0):w.length≤12∧∀ s,s ∈ w→0≤s∧s<k:=by
  unfold wcode at h
  split at h
  · omega
  · split at h
    · omega
    · next h1 h2 =>
      refine ⟨by omega,fun s hs => ?_⟩
      have:¬ badSym k s=true:=fun e=>h2 (List.any_eq_true.2 ⟨s,hs,e⟩)
      unfold badSym at this
      rw [decide_eq_true_eq] at this
      omega
theorem getD_ok {k:Int} {w:List Int} (hk:1≤k) (h:∀ s,s ∈ w→0≤s∧s<k) (i:Nat):0≤w.getD i 0∧w.getD i 0<k:=by
  by_cases hi:i<w.length
  · exact h _ (getD_mem' hi)
  · rw [show w.getD i 0=0 by simp [List.getD,show w[i]?=none from List.getElem?_eq_none (by omega)]];omega
def mstep (m:Dm.Machine) (p s:Int):Int:=(m.next.getD p.toNat default).getD s.toNat 0
def leads (m:Dm.Machine) (p:Int) (w:List Int):Int:=w.foldl (mstep m) p
theorem VM.st {m:Dm.Machine} (hv:VM m) {p s:Int} (hp:0≤p∧p<m.n):0≤mstep m p s∧mstep m p s<m.n:=by
  have:=hv.len
  exact getD_ok (by have:=hv.n;omega) (hv.to _ (getD_mem' (by omega))) _
set_option maxRecDepth 10000 in
set_option maxHeartbeats 4000000 in
theorem wsym_spec (k:Int) (hk:0≤k∧k≤3) (s:Int):Dm.Spec Try.prog 46 [iv .i64 s,.ip [iv .i64 k] 0] (·=.v (.bool (badSym k s))):=by
  refine spec_of_vc mixed Try.func46 c46 (by rw [show Try.f46.ntmps=_ from Try.ntmps46];simp) ?_
  unfold m46 r46
  repeat' first|((first|refine Br.dec ?_ ?_|refine Br.eqi ?_ ?_)<;>intro h<;>try (exfalso;omega))|refine Z1 ?_|with_reducible exact trivial|(refine Br.mk ?_ ?_<;>intro h)|(refine BrN.mk (fun h => ?_) ?_)|(refine AltVC.mk ?_ ?_)
  refine CallVC.eq (within_spec _ _ _) ?_
  repeat' first|((first|refine Br.dec ?_ ?_|refine Br.eqi ?_ ?_)<;>intro h<;>try (exfalso;omega))|refine Z1 ?_|with_reducible exact trivial|(refine Br.mk ?_ ?_<;>intro h)|(refine BrN.mk (fun h => ?_) ?_)|(refine AltVC.mk ?_ ?_)
  refine fin_mk (vbEq ?_)
  unfold badSym
  rw [← decide_not]
  exact dec_iff (by omega)
set_option maxRecDepth 10000 in
set_option maxHeartbeats 4000000 in
theorem word_spec (k:Int) (hk:0≤k∧k≤3) (w:List Int) (hw:w.length≤9223372036854775807):Dm.Spec Try.prog 26 [iv .i64 k,.sl 1 (i64s w)] (·=iv .i64 (wcode k w)):=by
  refine spec_of_vc mixed Try.func26 c26 (by rw [show Try.f26.ntmps=_ from Try.ntmps26];simp) ?_
  unfold m26 r26
  repeat' first|((first|refine Br.dec ?_ ?_|refine Br.eqi ?_ ?_)<;>intro h<;>try (exfalso;omega))|refine Z1 ?_|with_reducible exact trivial|(refine Br.mk ?_ ?_<;>intro h)|(refine BrN.mk (fun h => ?_) ?_)|(refine AltVC.mk ?_ ?_)
  · exact fin_mk (by rw [wcode,if_pos (by assumption)])
  · refine CallVC.eqo (conF_int w (badSym k) _ [.ip [iv .i64 k] 0] hw Y0 fun s _=>wsym_spec k hk s) Y0 ?_
    repeat' first|((first|refine Br.dec ?_ ?_|refine Br.eqi ?_ ?_)<;>intro h<;>try (exfalso;omega))|refine Z1 ?_|with_reducible exact trivial|(refine Br.mk ?_ ?_<;>intro h)|(refine BrN.mk (fun h => ?_) ?_)|(refine AltVC.mk ?_ ?_)
    · exact fin_mk (by rw [wcode,if_neg (by assumption),if_pos (by assumption)])
    · have h2:w.any (badSym k)=false:=by assumption
      exact fin_mk (by rw [wcode,if_neg (by assumption),if_neg (by rw [h2];simp)])
set_option maxRecDepth 10000 in
set_option maxHeartbeats 4000000 in
theorem refWord_spec (k : Int) (hk : 0 ≤ k ∧ k ≤ 3) (w : List Int) (hw : w.length ≤ 9223372036854775807) : Dm.Spec Try.prog 16 [iv .i64 k, .sl 1 (i64s w)] (· = iv .i64 (wcode k w)) := by
  refine spec_of_vc mixed Try.func16 c16 (by rw [show Try.f16.ntmps=_ from Try.ntmps16];simp) ?_
  unfold m16 r16
  repeat' first|((first|refine Br.dec ?_ ?_|refine Br.eqi ?_ ?_)<;>intro h<;>try (exfalso;omega))|refine Z1 ?_|with_reducible exact trivial|(refine Br.mk ?_ ?_<;>intro h)|(refine BrN.mk (fun h => ?_) ?_)|(refine AltVC.mk ?_ ?_)
  · exact fin_mk (by rw [wcode,if_pos (by assumption)])
  · refine LoopVC.mk (X:=Nat) (fun i=>[(12,iv .i64 i)]) (fun _=>[]) (fun i=>w.length - i) (fun i=>i≤w.length∧∀ j,j<i→badSym k (w.getD j 0)=false) 0 ⟨by omega,by omega⟩ ?_ ?_
    · (simp (disch:=first|omega|(simp only [vlen];first|done|omega)) only [Fits_u,Fits_m,Fits_nil,List.length_append,↓vAq,vBq,↓reduceIte,Nat.reduceBEq,Nat.reduceEqDiff,Nat.reduceLT,Nat.reduceLeDiff,Nat.reduceAdd,Nat.reduceMul,Nat.reduceSub,reduceCtorEq,Int.reduceToNat]<;>(repeat' first|rfl|apply And.intro))
    · rintro i ⟨h1,h2⟩
      repeat' first|((first|refine Br.dec ?_ ?_|refine Br.eqi ?_ ?_)<;>intro h<;>try (exfalso;omega))|refine Z1 ?_|with_reducible exact trivial|(refine Br.mk ?_ ?_<;>intro h)|(refine BrN.mk (fun h => ?_) ?_)|(refine AltVC.mk ?_ ?_)
      · exact fin_mk (by rw [wcode,if_neg (by assumption),if_pos (any_hit (p:=badSym k) (i:=i) (by omega) (decide_eq_true (.inl (by assumption))))])
      · exact fin_mk (by rw [wcode,if_neg (by assumption),if_pos (any_hit (p:=badSym k) (i:=i) (by omega) (decide_eq_true (.inr (by assumption))))])
      · exact loopK.mk (i+1) Y0 ⟨by omega,succ_all h2 (decide_eq_false (by show ¬ (w.getD i 0<0∨k≤w.getD i 0);omega))⟩ (by omega) Y10
      · have h3:w.any (badSym k)=false:=any_none (i:=i) (by omega) h2
        exact fin_mk (by rw [wcode,if_neg (by assumption),if_neg (by rw [h3];simp)])
end Go.Proofs.Ytcclchnbjpncdaa

namespace Go.Proofs.Ytcclchnbjpncdaa
open Go.Dm
def gwC (g:Grammar) (w:List Int):Int:=if gcode g=0 then wcode g.k w else gcode g
set_option maxRecDepth 10000 in
set_option maxHeartbeats 4000000 in
theorem tcheck_spec (g:Grammar) (hg:g.ok) (w:List Int) (hw:w.length≤9223372036854775807):Dm.Spec Try.prog 9 [.ag (graD g),.sl 1 (i64s w)] (·=iv .i64 (gwC g w)):=by
  refine spec_of_vc mixed Try.func9 c9 (by rw [show Try.f9.ntmps=_ from Try.ntmps9];simp) ?_
  unfold m9 r9
  unfold gwC
  repeat' first|((first|refine Br.dec ?_ ?_|refine Br.eqi ?_ ?_)<;>intro h<;>try (exfalso;omega))|refine Z1 ?_|with_reducible exact trivial|(refine Br.mk ?_ ?_<;>intro h)|(refine BrN.mk (fun h => ?_) ?_)|(refine AltVC.mk ?_ ?_)
  refine CallVC.eq (gCheck_spec g hg) ?_
  repeat' first|((first|refine Br.dec ?_ ?_|refine Br.eqi ?_ ?_)<;>intro h<;>try (exfalso;omega))|refine Z1 ?_|with_reducible exact trivial|(refine Br.mk ?_ ?_<;>intro h)|(refine BrN.mk (fun h => ?_) ?_)|(refine AltVC.mk ?_ ?_)
  · have e:gcode g=0:=by assumption
    have hk:=(valid_of e).k
    refine CallVC.eq (word_spec g.k (by omega) w hw) ?_
    repeat' first|((first|refine Br.dec ?_ ?_|refine Br.eqi ?_ ?_)<;>intro h<;>try (exfalso;omega))|refine Z1 ?_|with_reducible exact trivial|(refine Br.mk ?_ ?_<;>intro h)|(refine BrN.mk (fun h => ?_) ?_)|(refine AltVC.mk ?_ ?_)
    exact fin_mk (by rw [if_pos e])
  · exact fin_mk (by rw [if_neg (by assumption)])
theorem gw_of {g:Grammar} {w:List Int} (h:gwC g w=0):gcode g=0∧wcode g.k w=0:=by
  unfold gwC at h
  split at h
  · next e=>exact ⟨e,h⟩
  · next e=>exact absurd h e
end Go.Proofs.Ytcclchnbjpncdaa

namespace Go.Proofs.Ytcclchnbjpncdaa
open Go.Dm
def propB (g:Grammar) (r:Rule):Bool:=decide (¬ (r.right.length=0∨(r.right.length=1∧g.k≤r.right.getD 0 0)))
def isProper (g:Grammar):Bool:=g.rules.all (propB g)
theorem isProper_iff {g : Grammar} : isProper g = true ↔ Proper g := by
  unfold isProper Proper
  rw [List.all_eq_true]
  refine ⟨fun h r hr => ?_,fun h r hr => ?_⟩
  · have:=of_decide_eq_true (h r hr)
    refine ⟨fun e=>this (.inl (by rw [e];rfl)),fun x e => ?_⟩
    rw [e] at this
    have h2:¬ (g.k≤x):=fun h3=>this (.inr ⟨rfl,h3⟩)
    omega
  · refine decide_eq_true fun h2 => ?_
    have:=h r hr
    rcases h2 with h2|⟨h2,h3⟩
    · exact this.1 (List.eq_nil_of_length_eq_zero h2)
    · match hl:r.right,h2 with
      | [x],_ =>
        have:=this.2 x hl
        rw [hl] at h3
        simp at h3;omega
set_option maxRecDepth 10000 in
set_option maxHeartbeats 4000000 in
theorem prop1_spec (g:Grammar) (r:Rule) (hr:r.right.length≤1000):Dm.Spec Try.prog 28 [.ag (rulD r),.ip (graD g) 0] (·=.v (.bool (!propB g r))):=by
  refine spec_of_vc mixed Try.func28 c28 (by rw [show Try.f28.ntmps=_ from Try.ntmps28];simp) ?_
  unfold m28 r28
  repeat' first|((first|refine Br.dec ?_ ?_|refine Br.eqi ?_ ?_)<;>intro h<;>try (exfalso;omega))|refine Z1 ?_|with_reducible exact trivial|(refine Br.mk ?_ ?_<;>intro h)|(refine BrN.mk (fun h => ?_) ?_)|(refine AltVC.mk ?_ ?_)
  all_goals (refine fin_mk (vbEq ?_);unfold propB;rw [← decide_not];first|exact (decide_eq_true (by omega)).symm|exact (decide_eq_false (by omega)).symm|exact dec_iff (by omega))
set_option maxRecDepth 10000 in
set_option maxHeartbeats 4000000 in
theorem proper_spec (g:Grammar) (hr:g.rules.length≤9223372036854775807) (hl:∀ r,r ∈ g.rules→r.right.length≤1000):Dm.Spec Try.prog 10 [.ag (graD g)] (·=.v (.bool (isProper g))):=by
  refine spec_of_vc mixed Try.func10 c10 (by rw [show Try.f10.ntmps=_ from Try.ntmps10];simp) ?_
  unfold m10 r10
  repeat' first|((first|refine Br.dec ?_ ?_|refine Br.eqi ?_ ?_)<;>intro h<;>try (exfalso;omega))|refine Z1 ?_|with_reducible exact trivial|(refine Br.mk ?_ ?_<;>intro h)|(refine BrN.mk (fun h => ?_) ?_)|(refine AltVC.mk ?_ ?_)
  refine CallVC.eqo (conF_rule g.rules (fun r => !propB g r) _ [.ip (graD g) 0] hr Y0 fun r h=>prop1_spec g r (hl r h)) Y0 ?_
  repeat' first|((first|refine Br.dec ?_ ?_|refine Br.eqi ?_ ?_)<;>intro h<;>try (exfalso;omega))|refine Z1 ?_|with_reducible exact trivial|(refine Br.mk ?_ ?_<;>intro h)|(refine BrN.mk (fun h => ?_) ?_)|(refine AltVC.mk ?_ ?_)
  exact fin_mk (vbEq all_not')
set_option maxRecDepth 10000 in
set_option maxHeartbeats 4000000 in
theorem refProper_spec (g:Grammar) (hr:g.rules.length≤9223372036854775807) (hl:∀ r,r ∈ g.rules→r.right.length≤1000):Dm.Spec Try.prog 17 [.ag (graD g)] (·=.v (.bool (isProper g))):=by
  refine spec_of_vc mixed Try.func17 c17 (by rw [show Try.f17.ntmps=_ from Try.ntmps17];simp) ?_
  unfold m17 r17
  repeat' first|((first|refine Br.dec ?_ ?_|refine Br.eqi ?_ ?_)<;>intro h<;>try (exfalso;omega))|refine Z1 ?_|with_reducible exact trivial|(refine Br.mk ?_ ?_<;>intro h)|(refine BrN.mk (fun h => ?_) ?_)|(refine AltVC.mk ?_ ?_)
  refine LoopVC.mk (X:=Nat) (fun i=>[(8,iv .i64 i)]) (fun _=>[(0,⟨4,[[iv .i64 g.k,iv .i64 g.n,iv .i64 g.start,.sl 2 (tbl rulD g.rules)]],true,false,.fix⟩)]) (fun i=>g.rules.length - i) (fun i=>i≤g.rules.length∧∀ j,j<i→propB g (g.rules.getD j default)=true) 0 ⟨by omega,by omega⟩ ?_ ?_
  · (simp (disch:=first|omega|(simp only [vlen];first|done|omega)) only [Fits_u,Fits_m,Fits_nil,List.length_append,↓vAq,vBq,↓reduceIte,Nat.reduceBEq,Nat.reduceEqDiff,Nat.reduceLT,Nat.reduceLeDiff,Nat.reduceAdd,Nat.reduceMul,Nat.reduceSub,reduceCtorEq,Int.reduceToNat]<;>(repeat' first|rfl|apply And.intro))
  · rintro i ⟨h1,h2⟩
    have hb:i<g.rules.length→(g.rules.getD i default).right.length≤1000:=fun h=>hl _ (getD_mem' h)
    repeat' first|((first|refine Br.dec ?_ ?_|refine Br.eqi ?_ ?_)<;>intro h<;>try (exfalso;omega))|refine Z1 ?_|with_reducible exact trivial|(refine Br.mk ?_ ?_<;>intro h)|(refine BrN.mk (fun h => ?_) ?_)|(refine AltVC.mk ?_ ?_)
    all_goals first
      | exact fin_mk (vbEq (all_none (i:=i) (by omega) h2).symm)
      | exact fin_mk (vbEq (all_hit (p:=propB g) (i:=i) (by omega) (by unfold propB;exact decide_eq_false (by omega))).symm)
      | exact loopK.mk (i+1) Y0 ⟨by omega,succ_all h2 (by unfold propB;exact decide_eq_true (by omega))⟩ (by omega) Y10
def tcode (g:Grammar) (w:List Int):Int:=if gcode g=0 then (if wcode g.k w=0 then (if isProper g=true then 0 else 3) else wcode g.k w) else gcode g
def trN (g:Grammar) (w:List Int):Nat:=trees g w (g.k+g.start) 0 w.length
theorem cc_of {g:Grammar} {w:List Int} (h:tcode g w=0):CC g w∧gcode g=0∧wcode g.k w=0∧isProper g=true:=by
  unfold tcode at h
  split at h
  · next h1 =>
    split at h
    · next h2 =>
      split at h
      · next h3=>exact ⟨⟨valid_of h1,isProper_iff.mp h3,(wcode_ok h2).1⟩,h1,h2,h3⟩
      · omega
    · next h2=>exact absurd h h2
  · next h1=>exact absurd h h1
set_option maxRecDepth 10000 in
set_option maxHeartbeats 4000000 in
theorem treesCheck_spec (g : Grammar) (hg : g.ok) (w : List Int) (hw : w.length ≤ 9223372036854775807) : Dm.Spec Try.prog 5 [.ag (graD g), .sl 1 (i64s w)] (· = iv .i64 (tcode g w)) := by
  refine spec_of_vc mixed Try.func5 c5 (by rw [show Try.f5.ntmps=_ from Try.ntmps5];simp) ?_
  unfold m5 r5
  have hr:g.rules.length≤9223372036854775807:=maxLen_le hg.2.2.2.1
  unfold tcode
  by_cases e:gcode g=0
  · have hv:=valid_of e
    have hk:=hv.k
    have hq:=refGCheck_spec g hg
    rw [e] at hq
    rw [if_pos e]
    repeat' first|((first|refine Br.dec ?_ ?_|refine Br.eqi ?_ ?_)<;>intro h<;>try (exfalso;omega))|refine Z1 ?_|with_reducible exact trivial|(refine Br.mk ?_ ?_<;>intro h)|(refine BrN.mk (fun h => ?_) ?_)|(refine AltVC.mk ?_ ?_)
    refine CallVC.eq hq ?_
    repeat' first|((first|refine Br.dec ?_ ?_|refine Br.eqi ?_ ?_)<;>intro h<;>try (exfalso;omega))|refine Z1 ?_|with_reducible exact trivial|(refine Br.mk ?_ ?_<;>intro h)|(refine BrN.mk (fun h => ?_) ?_)|(refine AltVC.mk ?_ ?_)
    refine CallVC.eq (refWord_spec g.k (by omega) w hw) ?_
    repeat' first|((first|refine Br.dec ?_ ?_|refine Br.eqi ?_ ?_)<;>intro h<;>try (exfalso;omega))|refine Z1 ?_|with_reducible exact trivial|(refine Br.mk ?_ ?_<;>intro h)|(refine BrN.mk (fun h => ?_) ?_)|(refine AltVC.mk ?_ ?_)
    · have hp:=refProper_spec g hr fun r h=>by have:=hv.long r h;omega
      refine CallVC.eq hp ?_
      rw [if_pos (by assumption)]
      cases hb:isProper g with
      | true =>
        repeat' first|((first|refine Br.dec ?_ ?_|refine Br.eqi ?_ ?_)<;>intro h<;>try (exfalso;omega))|refine Z1 ?_|with_reducible exact trivial|(refine Br.mk ?_ ?_<;>intro h)|(refine BrN.mk (fun h => ?_) ?_)|(refine AltVC.mk ?_ ?_)
        exact fin_mk (by rw [h])
      | false =>
        repeat' first|((first|refine Br.dec ?_ ?_|refine Br.eqi ?_ ?_)<;>intro h<;>try (exfalso;omega))|refine Z1 ?_|with_reducible exact trivial|(refine Br.mk ?_ ?_<;>intro h)|(refine BrN.mk (fun h => ?_) ?_)|(refine AltVC.mk ?_ ?_)
        exact fin_mk (by rfl)
    · exact fin_mk (by rw [if_neg (by assumption)])
  · rw [if_neg e]
    repeat' first|((first|refine Br.dec ?_ ?_|refine Br.eqi ?_ ?_)<;>intro h<;>try (exfalso;omega))|refine Z1 ?_|with_reducible exact trivial|(refine Br.mk ?_ ?_<;>intro h)|(refine BrN.mk (fun h => ?_) ?_)|(refine AltVC.mk ?_ ?_)
    refine CallVC.eq (refGCheck_spec g hg) ?_
    repeat' first|((first|refine Br.dec ?_ ?_|refine Br.eqi ?_ ?_)<;>intro h<;>try (exfalso;omega))|refine Z1 ?_|with_reducible exact trivial|(refine Br.mk ?_ ?_<;>intro h)|(refine BrN.mk (fun h => ?_) ?_)|(refine AltVC.mk ?_ ?_)
    exact fin_mk rfl
set_option maxRecDepth 10000 in
set_option maxHeartbeats 4000000 in
theorem grow_bspec (g:Grammar) (w:List Int):Dm.SpecH Try.prog 19 [.ag (graD g),.sl 1 (i64s w)] [] (fun d o=>d=.ptr 2 6 0 0∧o=[none,some ⟨4,tbl beD [],true,false,.map [.i64,.i64,.i64] true false⟩,some ⟨6,[[iv .i64 g.k,iv .i64 g.n,iv .i64 g.start,.sl 2 (tbl rulD g.rules),.sl 1 (i64s w),.mp 1]],false,false,.fix⟩]):=by
  refine specH_of_vc mixed Try.func19 c19 (by rw [show Try.f19.ntmps=_ from Try.ntmps19];simp) ?_
  unfold m19 r19
  repeat' first|((first|refine Br.dec ?_ ?_|refine Br.eqi ?_ ?_)<;>intro h<;>try (exfalso;omega))|refine Z3 ?_|with_reducible exact trivial|(refine Br.mk ?_ ?_<;>intro h)|(refine BrN.mk (fun h => ?_) ?_)|(refine AltVC.mk ?_ ?_)
  exact finH_mk [none,some ⟨4,tbl beD [],true,false,.map [.i64,.i64,.i64] true false⟩,some ⟨6,[[iv .i64 g.k,iv .i64 g.n,iv .i64 g.start,.sl 2 (tbl rulD g.rules),.sl 1 (i64s w),.mp 1]],false,false,.fix⟩] (by simp) Y2 (by simp (disch:=first|omega|(simp only [vlen];first|done|omega)) only [tbl_nil,vbe,↓vAq,vBq,↓reduceIte,Nat.reduceBEq,Nat.reduceEqDiff,Nat.reduceLT,Nat.reduceLeDiff,Nat.reduceAdd,Nat.reduceMul,Nat.reduceSub,reduceCtorEq,Int.reduceToNat]) ⟨by simp (disch:=first|omega|(simp only [vlen];first|done|omega)) only [vbe,↓vAq,vBq,↓reduceIte,Nat.reduceBEq,Nat.reduceEqDiff,Nat.reduceLT,Nat.reduceLeDiff,Nat.reduceAdd,Nat.reduceMul,Nat.reduceSub,reduceCtorEq,Int.reduceToNat],rfl⟩
end Go.Proofs.Ytcclchnbjpncdaa
