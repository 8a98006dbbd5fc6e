/-
  The reference: LeastOfSentence.
-/
import Derived.Test.YtpgomgjpliallaaMg14
import Derived.Test.YtpgomgjpliallaaMg17
set_option linter.unusedSimpArgs false
set_option linter.unnecessarySimpa false
set_option linter.unusedVariables false
set_option linter.defProp false
namespace Go.Proofs.Ytpgomgjpliallaa
open Go.Dm
noncomputable def rsD (N:Nat) (A:List A3) (ws:List (List Int)):List (List D):=ws.map fun w=>[.sl 1 (bls (bt N (stW A 0 w)))]
section
variable {N i:Nat} {A:List A3} {ws:List (List Int)} {w:List Int}
theorem rsD_len:(rsD N A ws).length=ws.length:=by simp [rsD]
theorem rsD_take:(rsD N A ws).take ws.length=rsD N A ws:=List.take_of_length_le (by rw [rsD_len];exact Nat.le_refl _)
theorem rsD_get (h:i<ws.length):(rsD N A ws).getD i []=[.sl 1 (bls (bt N (stW A 0 (ws.getD i []))))]:=by simp [rsD,List.getD_eq_getElem?_getD,h]
theorem rsD_app:rsD N A ws++[[.sl 1 (bls (bt N (stW A 0 w)))]]=rsD N A (ws++[w]):=by simp [rsD]
end
def atI:Option Nat→Int
  | none => -1
  | some a=>a
theorem atI_none:atI none = -1:=(rfl)
theorem atI_some {a:Nat}:atI (some a)=a:=(rfl)
theorem nxR_put {k i:Nat} {nx:Nat→Nat→Nat} {R:Nat→Nat}:rows i64s (nxR k i nx)++[[.sl 1 (i64s (rwN k R))]]=rows i64s (nxR k (i+1) fun a=>if a=i then R else nx a):=by
  have e:nxR k i nx++[rwN k R]=nxR k (i+1) fun a=>if a=i then R else nx a:=by
    unfold nxR
    rw [List.range_succ,List.map_append,List.map_singleton]
    show _=_++[rwN k (if i=i then R else nx i)]
    rw [if_pos rfl]
    congr 1
    refine List.map_congr_left fun a ha => ?_
    have:=List.mem_range.1 ha
    show _=rwN k (if a=i then R else nx a)
    rw [if_neg (by omega)]
  rw [← e];simp [rows]
theorem viewO_rows {l:List (List Int)} {n:Nat} (h:l.length=n):viewO (some ⟨1,rows i64s l,true,false,.arr⟩) 1 0 n=.sl 1 (rows i64s l):=viewO_all (by simp [rows,h])
theorem viewO_nxR {k n:Nat} {nx:Nat→Nat→Nat}:viewO (some ⟨1,rows i64s (nxR k n nx),true,false,.arr⟩) 1 0 n=.sl 1 (rows i64s (nxR k n nx)):=viewO_rows nxR_len
theorem viewO_rsD {N:Nat} {A:List A3} {ws:List (List Int)}:viewO (some ⟨1,rsD N A ws,true,false,.arr⟩) 1 0 ws.length=.sl 1 (rsD N A ws):=viewO_all (by rw [rsD_len])
def vrl:=And.intro @viewO_nxR<|And.intro @viewO_rsD<|And.intro @atI_none<|And.intro @atI_some<|And.intro vre<|And.intro vsz<|And.intro @rsD_len<|And.intro @rsD_take<|And.intro @rsD_get<|And.intro @rsD_app @bt_rep
theorem rwN_set1 {n to:Nat} {R:Nat→Nat}:(rwN n R).set to 1=rwN n fun b=>if b=to then 1 else R b:=rwN_set (r:=1)
theorem rw_fill {F:Nat→Nat} {i v:Nat} (h:F i=v) (b:Nat):(if b=i then v else if b<i then F b else 0)=if b<i+1 then F b else 0:=by
  by_cases e:b=i
  · rw [if_pos e,if_pos (by omega),e,h]
  · rw [if_neg e]
    by_cases e2:b<i
    · rw [if_pos e2,if_pos (by omega)]
    · rw [if_neg e2,if_neg (by omega)]
theorem rw_keep {F:Nat→Nat} {i:Nat} (h:F i=0) (b:Nat):(if b<i then F b else 0)=if b<i+1 then F b else 0:=by
  by_cases e:b=i
  · rw [if_neg (by omega),if_pos (by omega),e,h]
  · by_cases e2:b<i
    · rw [if_pos e2,if_pos (by omega)]
    · rw [if_neg e2,if_neg (by omega)]
theorem rw_last {F:Nat→Nat} {n s r:Nat} (h:r=F s) (b:Nat) (_:b<n):(if b=s then r else F b)=F b:=by
  by_cases e:b=s
  · rw [if_pos e,h,e]
  · rw [if_neg e]
theorem addSt {g:Nat→Bool} {p:Nat} (hp:p<7):IntKind.u32.wrap (((setOf g p:Nat):Int)+IntKind.u32.wrap (1 * 2 ^ min p IntKind.u32.bits))=((setOf g p+2 ^ p:Nat):Int):=by
  have h1:=@setOf_lt g p
  have h2:2 ^ p≤2 ^ 6:=Nat.pow_le_pow_right (by omega) (by omega)
  rw [shlN (by omega),wrapu32_id (by omega)]
  omega
theorem ite_rfl {α:Type} {i:Nat} {a b:α}:(if i=i then a else b)=a:=if_pos rfl
open Classical in
noncomputable def alB (c:Nat→Nat) (nx:Nat→Nat→Nat) (i j s:Nat):Bool:=decide (c i=c j∧∀ s',s'<s→c (nx i s')=c (nx j s'))
open Classical in
theorem alB_iff {c:Nat→Nat} {nx:Nat→Nat→Nat} {i j s:Nat}:alB c nx i j s=true ↔ (c i=c j∧∀ s',s'<s→c (nx i s')=c (nx j s')):=by unfold alB;exact decide_eq_true_iff
theorem alB_zero {c:Nat→Nat} {nx:Nat→Nat→Nat} {i j:Nat}:(((c i:Nat):Int) == ((c j:Nat):Int))=alB c nx i j 0:=by
  rw [Bool.eq_iff_iff,alB_iff,beq_iff_eq,Int.ofNat_inj]
  exact ⟨fun h=>⟨h,fun s h=>absurd h (Nat.not_lt_zero _)⟩,fun h=>h.1⟩
theorem alB_step {c:Nat→Nat} {nx:Nat→Nat→Nat} {i j s:Nat} (h:alB c nx i j s=true):(((c (nx i s):Nat):Int) == ((c (nx j s):Nat):Int))=alB c nx i j (s+1):=by
  rw [alB_iff] at h
  rw [Bool.eq_iff_iff,alB_iff,beq_iff_eq,Int.ofNat_inj]
  constructor
  · refine fun e=>⟨h.1,fun s' hs => ?_⟩
    by_cases e2:s'=s
    · rw [e2];exact e
    · exact h.2 s' (by omega)
  · exact fun h=>h.2 s (Nat.lt_succ_self _)
theorem alB_no {c:Nat→Nat} {nx:Nat→Nat→Nat} {i j s:Nat} (h:alB c nx i j s=false):false=alB c nx i j (s+1):=by
  symm
  rw [← Bool.not_eq_true,alB_iff]
  intro h2
  rw [← Bool.not_eq_true,alB_iff] at h
  exact h ⟨h2.1,fun s' hs=>h2.2 s' (by omega)⟩
def rlR (L:Lg) (k:Nat) (d:D):Prop:=suZ L k (.v (.bool true)) (.v (.bool false)) d
set_option maxRecDepth 10000 in
set_option maxHeartbeats 4000000 in
theorem refLeast_spec (k : Nat) (l : List Dm.Node) (h : sentCode (k : Int) l = 0) : Dm.Spec Try.prog 7 [iv .i64 k, .sl 3 (tbl nodD l)] (rlR (lang l (l.length - 1)) k) := by
  refine spec_of_vc mixed Try.func7 c7 (by rw [show Try.f7.ntmps=_ from Try.ntmps7];simp) ?_
  unfold m7 r7
  obtain ⟨hk,hl,hv⟩:=sent_ok h
  have hk:1≤k∧k≤3:=by omega
  have hi:l.length - 1<l.length:=by omega
  have hns:=ns_le hv hi
  have hp2:2 ^ (l.length - 1+2)≤2 ^ 10:=Nat.pow_le_pow_right (by omega) (by omega)
  have hSp:=spread_spec (k:Int) l hv hl.2 (l.length - 1) hi 0 (by omega) [] (Nat.zero_le _)
  have hLi:(l.length:Int) - 1=((l.length - 1:Nat):Int):=by omega
  obtain ⟨A,hA⟩ : ∃ A,(rx l (l.length - 1)).ar 0=A:=⟨_,rfl⟩
  obtain ⟨N,hN⟩ : ∃ N,(rx l (l.length - 1)).ns=N:=⟨_,rfl⟩
  have hRf:Rf k l A N:=⟨⟨hA.symm,hN.symm⟩,hv,hl⟩
  have hN2:2≤N:=by rw [← hN];exact Rx.ns_two
  have hNb:N≤2000:=by omega
  have hAl:A.length≤4000:=by have:=@ar_len (rx l (l.length - 1)) 0;rw [hA,hN] at this;omega
  have hrng:∀ p c q,(p,c,q) ∈ A→p<N∧q<N:=fun p c q hm=>by
    rw [← hA] at hm
    have:=Rx.ar_rng hm
    rw [hN] at this;omega
  have hSp:Dm.SpecH Try.prog 16 [.sl 3 (tbl nodD l),iv .i64 (l.length - 1:Nat),.ptr 0 5 0 0] [rnO 0 k []] (fun d o=>d=.tu [iv .i64 0,iv .i64 1]∧o=[some (rnO N k A)]):=by
    unfold snR at hSp
    rw [hA,hN,List.nil_append,Nat.zero_add,Nat.zero_add] at hSp
    exact hSp
  repeat' first|((first|refine Br.dec ?_ ?_|refine Br.eqi ?_ ?_)<;>intro h<;>try (exfalso;omega))|(simp (disch:=first|omega|(simp only [vlen];first|done|omega)) only [hLi,vrl,↓vAq,vBq,↓reduceIte,Nat.reduceBEq,Nat.reduceEqDiff,Nat.reduceLT,Nat.reduceLeDiff,Nat.reduceAdd,Nat.reduceMul,Nat.reduceSub,reduceCtorEq,Int.reduceToNat])|(refine Br.mk ?_ ?_<;>intro h)|(refine BrN.mk (fun h => ?_) ?_)|(refine AltVC.mk ?_ ?_)
  refine CallVC.nlo 1 0 2 3 ?_
  repeat' first|((first|refine Br.dec ?_ ?_|refine Br.eqi ?_ ?_)<;>intro h<;>try (exfalso;omega))|(simp (disch:=first|omega|(simp only [vlen];first|done|omega)) only [hLi,vrl,↓vAq,vBq,↓reduceIte,Nat.reduceBEq,Nat.reduceEqDiff,Nat.reduceLT,Nat.reduceLeDiff,Nat.reduceAdd,Nat.reduceMul,Nat.reduceSub,reduceCtorEq,Int.reduceToNat])|(refine Br.mk ?_ ?_<;>intro h)|(refine BrN.mk (fun h => ?_) ?_)|(refine AltVC.mk ?_ ?_)
  refine CallVC.lendE [1] [.sl 3 (tbl nodD l),iv .i64 (l.length - 1:Nat),.ptr 0 5 0 0] _ hSp (by simp) (by rfl) (by unfold rnO;(simp (disch:=first|omega|(simp only [vlen];first|done|omega)) only [vle0,vrl,↓vAq,vBq,↓reduceIte,Nat.reduceBEq,Nat.reduceEqDiff,Nat.reduceLT,Nat.reduceLeDiff,Nat.reduceAdd,Nat.reduceMul,Nat.reduceSub,reduceCtorEq,Int.reduceToNat]<;>(repeat' first|rfl|apply And.intro))) ?_
  rintro _ _ ⟨rfl,rfl⟩
  unfold rnO
  repeat' first|((first|refine Br.dec ?_ ?_|refine Br.eqi ?_ ?_)<;>intro h<;>try (exfalso;omega))|(simp (disch:=first|omega|(simp only [vlen];first|done|omega)) only [vrl,↓vAq,vBq,↓reduceIte,Nat.reduceBEq,Nat.reduceEqDiff,Nat.reduceLT,Nat.reduceLeDiff,Nat.reduceAdd,Nat.reduceMul,Nat.reduceSub,reduceCtorEq,Int.reduceToNat])|(refine Br.mk ?_ ?_<;>intro h)|(refine BrN.mk (fun h => ?_) ?_)|(refine AltVC.mk ?_ ?_)
  refine GhoV.frz 1 ?_
  repeat' first|((first|refine Br.dec ?_ ?_|refine Br.eqi ?_ ?_)<;>intro h<;>try (exfalso;omega))|(simp (disch:=first|omega|(simp only [vlen];first|done|omega)) only [vrl,↓vAq,vBq,↓reduceIte,Nat.reduceBEq,Nat.reduceEqDiff,Nat.reduceLT,Nat.reduceLeDiff,Nat.reduceAdd,Nat.reduceMul,Nat.reduceSub,reduceCtorEq,Int.reduceToNat])|(refine Br.mk ?_ ?_<;>intro h)|(refine BrN.mk (fun h => ?_) ?_)|(refine AltVC.mk ?_ ?_)
  refine GhoV.go ?_
  repeat' first|((first|refine Br.dec ?_ ?_|refine Br.eqi ?_ ?_)<;>intro h<;>try (exfalso;omega))|(simp (disch:=first|omega|(simp only [vlen];first|done|omega)) only [vrl,↓vAq,vBq,↓reduceIte,Nat.reduceBEq,Nat.reduceEqDiff,Nat.reduceLT,Nat.reduceLeDiff,Nat.reduceAdd,Nat.reduceMul,Nat.reduceSub,reduceCtorEq,Int.reduceToNat])|(refine Br.mk ?_ ?_<;>intro h)|(refine BrN.mk (fun h => ?_) ?_)|(refine AltVC.mk ?_ ?_)
  have hRe:=reach_spec N k A (by omega) N (by omega) hrng (fun q=>decide (q=0))
  rw [stW_nil] at hRe
  have hst:bt N (fun j=>if j=0 then true else false)=bt N (fun q=>decide (q=0)):=bt_ext fun j _=>by by_cases e:j=0<;>simp [e]
  rw [hst]
  refine CallVC.frz 2 ?_
  repeat' first|((first|refine Br.dec ?_ ?_|refine Br.eqi ?_ ?_)<;>intro h<;>try (exfalso;omega))|(simp (disch:=first|omega|(simp only [vlen];first|done|omega)) only [vrl,↓vAq,vBq,↓reduceIte,Nat.reduceBEq,Nat.reduceEqDiff,Nat.reduceLT,Nat.reduceLeDiff,Nat.reduceAdd,Nat.reduceMul,Nat.reduceSub,reduceCtorEq,Int.reduceToNat])|(refine Br.mk ?_ ?_<;>intro h)|(refine BrN.mk (fun h => ?_) ?_)|(refine AltVC.mk ?_ ?_)
  refine CallVC.eq hRe ?_
  repeat' first|((first|refine Br.dec ?_ ?_|refine Br.eqi ?_ ?_)<;>intro h<;>try (exfalso;omega))|(simp (disch:=first|omega|(simp only [vlen];first|done|omega)) only [vrl,↓vAq,vBq,↓reduceIte,Nat.reduceBEq,Nat.reduceEqDiff,Nat.reduceLT,Nat.reduceLeDiff,Nat.reduceAdd,Nat.reduceMul,Nat.reduceSub,reduceCtorEq,Int.reduceToNat])|(refine Br.mk ?_ ?_<;>intro h)|(refine BrN.mk (fun h => ?_) ?_)|(refine AltVC.mk ?_ ?_)
  refine LoopVC.mk (X:=Nat × List (List Int) × (Nat→Nat→Nat)) (fun x=>[(4,.ptr 0 5 0 0),(10,.ref 3 1 0 x.2.1.length),(11,.ref 4 1 0 x.1),(12,iv .i64 x.1)]) (fun x=>[(0,⟨5,[mzD],true,false,.fix⟩),(3,⟨1,rsD N A x.2.1,true,false,.arr⟩),(4,⟨1,rows i64s (nxR k x.1 x.2.2),true,false,.arr⟩)]) (fun x=>3298534883331 - x.1) (fun x=>x.1≤x.2.1.length∧RI k A N x.2.1∧NxR A N x.2.1 k x.2.2 x.1) (0,[[]],fun _ _=>0) ⟨Nat.zero_le _,⟨⟨by simp,rfl⟩,fun a b ha hb _=>by simp at ha hb;omega,fun a ha c hc=>by
    have:a=0:=by simpa using ha
    subst this;cases hc⟩,fun a h=>absurd h (Nat.not_lt_zero _)⟩ ?_ ?_
  · (simp (disch:=first|omega|(simp only [vlen];first|done|omega)) only [Fits_u,Fits_m,Fits_nil,List.length_append,vrl,↓vAq,vBq,↓reduceIte,Nat.reduceBEq,Nat.reduceEqDiff,Nat.reduceLT,Nat.reduceLeDiff,Nat.reduceAdd,Nat.reduceMul,Nat.reduceSub,reduceCtorEq,Int.reduceToNat]<;>(repeat' first|rfl|apply And.intro))
    all_goals trace_state
  · rintro ⟨i, ws, nx⟩ ⟨hi, hS, hX⟩
    simp only at hi hS hX ⊢
    have hwl:=hRf.few (by omega) hS.inj
    by_cases hil:i<ws.length
    · repeat' first | ((first | refine Br.dec ?_ ?_ | refine Br.eqi ?_ ?_) <;> intro h <;> try (exfalso; omega)) | (simp (disch := first | omega | (simp only [vlen]; first | done | omega)) only [vrl, ↓vAq, vBq, ↓reduceIte, Nat.reduceBEq, Nat.reduceEqDiff, Nat.reduceLT, Nat.reduceLeDiff, Nat.reduceAdd, Nat.reduceMul, Nat.reduceSub, reduceCtorEq, Int.reduceToNat]) | (refine Br.mk ?_ ?_ <;> intro h) | (refine BrN.mk (fun h => ?_) ?_) | (refine AltVC.mk ?_ ?_)
      refine LoopVC.mk (X:=Nat × List (List Int) × (Nat→Nat)) (fun x=>[(4,.ptr 0 5 0 0),(10,.ref 3 1 0 x.2.1.length),(11,.ref 4 1 0 i),(12,iv .i64 i),(13,.ref 5 1 0 x.1),(14,iv .i64 x.1)]) (fun x=>[(0,⟨5,[mzD],true,false,.fix⟩),(3,⟨1,rsD N A x.2.1,true,false,.arr⟩),(4,⟨1,rows i64s (nxR k i nx),true,false,.arr⟩),(5,⟨1,i64s (rwN x.1 x.2.2),true,false,.arr⟩)]) (fun x=>k - x.1) (fun x=>x.1≤k∧i<x.2.1.length∧RI k A N x.2.1∧NxR A N x.2.1 k nx i∧RwR A N x.2.1 (x.2.1.getD i []) x.1 x.2.2) (0,ws,fun _=>0) ⟨Nat.zero_le _,hil,hS,hX,fun s h=>absurd h (Nat.not_lt_zero _)⟩ ?_ ?_
      · (simp (disch:=first|omega|(simp only [vlen];first|done|omega)) only [Fits_u,Fits_m,Fits_nil,List.length_append,vrl,↓vAq,vBq,↓reduceIte,Nat.reduceBEq,Nat.reduceEqDiff,Nat.reduceLT,Nat.reduceLeDiff,Nat.reduceAdd,Nat.reduceMul,Nat.reduceSub,reduceCtorEq,Int.reduceToNat]<;>(repeat' first|rfl|apply And.intro))
        all_goals trace_state
      · rintro ⟨s, ws, R⟩ ⟨hs, hil, hS, hX, hR⟩
        simp only at hs hil hS hX hR ⊢
        have hwl:=hRf.few (by omega) hS.inj
        by_cases hsk:s<k
        · obtain ⟨w, hw⟩ : ∃ w, ws.getD i [] ++ [(s : Int)] = w := ⟨_, rfl⟩
          have hwk:∀ c,c ∈ w→0≤c∧c<(k:Int):=fun c hc=>by
            rw [← hw] at hc
            rcases List.mem_append.1 hc with hc|hc
            · exact hS.ok i hil c hc
            · rw [List.mem_singleton.1 hc];omega
          have hRe:=reach_spec N k A (by omega) N (by omega) hrng (arT A (s:Int) (stW A 0 (ws.getD i [])) A.length)
          rw [stW_snoc (w:=ws.getD i []) (by omega) fun q=>arT_all,hw] at hRe
          repeat' first|((first|refine Br.dec ?_ ?_|refine Br.eqi ?_ ?_)<;>intro h<;>try (exfalso;omega))|(simp (disch:=first|omega|(simp only [vlen];first|done|omega)) only [vrl,↓vAq,vBq,↓reduceIte,Nat.reduceBEq,Nat.reduceEqDiff,Nat.reduceLT,Nat.reduceLeDiff,Nat.reduceAdd,Nat.reduceMul,Nat.reduceSub,reduceCtorEq,Int.reduceToNat])|(refine Br.mk ?_ ?_<;>intro h)|(refine BrN.mk (fun h => ?_) ?_)|(refine AltVC.mk ?_ ?_)
          refine LoopVC.mk (X:=Nat) (fun j=>[(4,.ptr 0 5 0 0),(10,.ref 3 1 0 ws.length),(11,.ref 4 1 0 i),(13,.ref 5 1 0 s),(15,.ref 6 1 0 N),(76,iv .i64 j)]) (fun j=>[(0,⟨5,[mzD],true,false,.fix⟩),(3,⟨1,rsD N A ws,true,false,.arr⟩),(4,⟨1,rows i64s (nxR k i nx),true,false,.arr⟩),(5,⟨1,i64s (rwN s R),true,false,.arr⟩),(6,⟨1,bls (bt N (arT A (s:Int) (stW A 0 (ws.getD i [])) j)),true,false,.arr⟩)]) (fun j=>A.length - j) (fun j=>j≤A.length) 0 (Nat.zero_le _) ?_ ?_
          · rw [arT_zero]
            (simp (disch:=first|omega|(simp only [vlen];first|done|omega)) only [Fits_u,Fits_m,Fits_nil,List.length_append,vrl,↓vAq,vBq,↓reduceIte,Nat.reduceBEq,Nat.reduceEqDiff,Nat.reduceLT,Nat.reduceLeDiff,Nat.reduceAdd,Nat.reduceMul,Nat.reduceSub,reduceCtorEq,Int.reduceToNat]<;>(repeat' first|rfl|apply And.intro))
            all_goals trace_state
          · intro j hj
            by_cases hjl:j<A.length
            · obtain ⟨a,ha⟩ : ∃ a,A.getD j default=a:=⟨_,rfl⟩
              have ham:a ∈ A:=by rw [← ha];exact getD_mem' hjl
              obtain ⟨p,c,t⟩:=a
              have hrg:=hrng p c t ham
              by_cases hc:c=(s:Int)
              · subst hc
                cases hp:stW A 0 (ws.getD i []) p with
                | true =>
                  have hh:=arT_hit hjl ha hp
                  repeat' first|((first|refine Br.dec ?_ ?_|refine Br.eqi ?_ ?_)<;>intro h<;>try (exfalso;omega))|(simp (disch:=first|omega|(simp only [vlen];first|done|omega)) only [ha,hp,vrl,↓vAq,vBq,↓reduceIte,Nat.reduceBEq,Nat.reduceEqDiff,Nat.reduceLT,Nat.reduceLeDiff,Nat.reduceAdd,Nat.reduceMul,Nat.reduceSub,reduceCtorEq,Int.reduceToNat])|(refine Br.mk ?_ ?_<;>intro h)|(refine BrN.mk (fun h => ?_) ?_)|(refine AltVC.mk ?_ ?_)
                  rw [hh]
                  refine loopK.mk (j+1) (by simp (disch:=first|omega|(simp only [vlen];first|done|omega)) only [vrl,↓vAq,vBq,↓reduceIte,Nat.reduceBEq,Nat.reduceEqDiff,Nat.reduceLT,Nat.reduceLeDiff,Nat.reduceAdd,Nat.reduceMul,Nat.reduceSub,reduceCtorEq,Int.reduceToNat]) (by omega) (by omega) ?_
                  (simp (disch:=first|omega|(simp only [vlen];first|done|omega)) only [Fits_u,Fits_m,Fits_nil,List.length_append,vrl,↓vAq,vBq,↓reduceIte,Nat.reduceBEq,Nat.reduceEqDiff,Nat.reduceLT,Nat.reduceLeDiff,Nat.reduceAdd,Nat.reduceMul,Nat.reduceSub,reduceCtorEq,Int.reduceToNat]<;>(repeat' first|rfl|apply And.intro))
                  all_goals trace_state
                | false =>
                  have hh:=arT_skip (s:=(s:Int)) (f:=stW A 0 (ws.getD i [])) hjl ha (fun h=>by rw [hp] at h;cases h.2)
                  repeat' first|((first|refine Br.dec ?_ ?_|refine Br.eqi ?_ ?_)<;>intro h<;>try (exfalso;omega))|(simp (disch:=first|omega|(simp only [vlen];first|done|omega)) only [ha,hp,vrl,↓vAq,vBq,↓reduceIte,Nat.reduceBEq,Nat.reduceEqDiff,Nat.reduceLT,Nat.reduceLeDiff,Nat.reduceAdd,Nat.reduceMul,Nat.reduceSub,reduceCtorEq,Int.reduceToNat])|(refine Br.mk ?_ ?_<;>intro h)|(refine BrN.mk (fun h => ?_) ?_)|(refine AltVC.mk ?_ ?_)
                  refine loopK.mk (j+1) (by simp (disch:=first|omega|(simp only [vlen];first|done|omega)) only [vrl,↓vAq,vBq,↓reduceIte,Nat.reduceBEq,Nat.reduceEqDiff,Nat.reduceLT,Nat.reduceLeDiff,Nat.reduceAdd,Nat.reduceMul,Nat.reduceSub,reduceCtorEq,Int.reduceToNat]) (by omega) (by omega) ?_
                  rw [hh]
                  (simp (disch:=first|omega|(simp only [vlen];first|done|omega)) only [Fits_u,Fits_m,Fits_nil,List.length_append,vrl,↓vAq,vBq,↓reduceIte,Nat.reduceBEq,Nat.reduceEqDiff,Nat.reduceLT,Nat.reduceLeDiff,Nat.reduceAdd,Nat.reduceMul,Nat.reduceSub,reduceCtorEq,Int.reduceToNat]<;>(repeat' first|rfl|apply And.intro))
                  all_goals trace_state
              · have hh:=arT_skip (s:=(s:Int)) (f:=stW A 0 (ws.getD i [])) hjl ha (fun h=>hc h.1)
                repeat' first|((first|refine Br.dec ?_ ?_|refine Br.eqi ?_ ?_)<;>intro h<;>try (exfalso;omega))|(simp (disch:=first|omega|(simp only [vlen];first|done|omega)) only [ha,hc,vrl,↓vAq,vBq,↓reduceIte,Nat.reduceBEq,Nat.reduceEqDiff,Nat.reduceLT,Nat.reduceLeDiff,Nat.reduceAdd,Nat.reduceMul,Nat.reduceSub,reduceCtorEq,Int.reduceToNat])|(refine Br.mk ?_ ?_<;>intro h)|(refine BrN.mk (fun h => ?_) ?_)|(refine AltVC.mk ?_ ?_)
                refine loopK.mk (j+1) (by simp (disch:=first|omega|(simp only [vlen];first|done|omega)) only [vrl,↓vAq,vBq,↓reduceIte,Nat.reduceBEq,Nat.reduceEqDiff,Nat.reduceLT,Nat.reduceLeDiff,Nat.reduceAdd,Nat.reduceMul,Nat.reduceSub,reduceCtorEq,Int.reduceToNat]) (by omega) (by omega) ?_
                rw [hh]
                (simp (disch:=first|omega|(simp only [vlen];first|done|omega)) only [Fits_u,Fits_m,Fits_nil,List.length_append,vrl,↓vAq,vBq,↓reduceIte,Nat.reduceBEq,Nat.reduceEqDiff,Nat.reduceLT,Nat.reduceLeDiff,Nat.reduceAdd,Nat.reduceMul,Nat.reduceSub,reduceCtorEq,Int.reduceToNat]<;>(repeat' first|rfl|apply And.intro))
                all_goals trace_state
            · have hje:j=A.length:=by omega
              rw [hje]
              clear hje hjl hj j
              repeat' first|((first|refine Br.dec ?_ ?_|refine Br.eqi ?_ ?_)<;>intro h<;>try (exfalso;omega))|(simp (disch:=first|omega|(simp only [vlen];first|done|omega)) only [vrl,↓vAq,vBq,↓reduceIte,Nat.reduceBEq,Nat.reduceEqDiff,Nat.reduceLT,Nat.reduceLeDiff,Nat.reduceAdd,Nat.reduceMul,Nat.reduceSub,reduceCtorEq,Int.reduceToNat])|(refine Br.mk ?_ ?_<;>intro h)|(refine BrN.mk (fun h => ?_) ?_)|(refine AltVC.mk ?_ ?_)
              refine CallVC.frz 6 ?_
              repeat' first|((first|refine Br.dec ?_ ?_|refine Br.eqi ?_ ?_)<;>intro h<;>try (exfalso;omega))|(simp (disch:=first|omega|(simp only [vlen];first|done|omega)) only [vrl,↓vAq,vBq,↓reduceIte,Nat.reduceBEq,Nat.reduceEqDiff,Nat.reduceLT,Nat.reduceLeDiff,Nat.reduceAdd,Nat.reduceMul,Nat.reduceSub,reduceCtorEq,Int.reduceToNat])|(refine Br.mk ?_ ?_<;>intro h)|(refine BrN.mk (fun h => ?_) ?_)|(refine AltVC.mk ?_ ?_)
              refine CallVC.eq hRe ?_
              repeat' first|((first|refine Br.dec ?_ ?_|refine Br.eqi ?_ ?_)<;>intro h<;>try (exfalso;omega))|(simp (disch:=first|omega|(simp only [vlen];first|done|omega)) only [vrl,↓vAq,vBq,↓reduceIte,Nat.reduceBEq,Nat.reduceEqDiff,Nat.reduceLT,Nat.reduceLeDiff,Nat.reduceAdd,Nat.reduceMul,Nat.reduceSub,reduceCtorEq,Int.reduceToNat])|(refine Br.mk ?_ ?_<;>intro h)|(refine BrN.mk (fun h => ?_) ?_)|(refine AltVC.mk ?_ ?_)
              refine LoopVC.mk (X:=Nat × Option Nat) (fun x=>[(4,.ptr 0 5 0 0),(10,.ref 3 1 0 ws.length),(11,.ref 4 1 0 i),(13,.ref 5 1 0 s),(18,iv .i64 (atI x.2)),(19,iv .i64 x.1)]) (fun x=>[(0,⟨5,[mzD],true,false,.fix⟩),(3,⟨1,rsD N A ws,true,false,.arr⟩),(4,⟨1,rows i64s (nxR k i nx),true,false,.arr⟩),(5,⟨1,i64s (rwN s R),true,false,.arr⟩)]) (fun x=>ws.length - x.1) (fun x=>x.1≤ws.length∧(x.2=none→∀ a,a<x.1→bt N (stW A 0 (ws.getD a [])) ≠ bt N (stW A 0 w))∧∀ a,x.2=some a→a<ws.length∧bt N (stW A 0 (ws.getD a []))=bt N (stW A 0 w)) (0,none) ⟨Nat.zero_le _,fun _ a h=>absurd h (Nat.not_lt_zero _),fun a h=>(by cases h)⟩ ?_ ?_
              · (simp (disch:=first|omega|(simp only [vlen];first|done|omega)) only [Fits_u,Fits_m,Fits_nil,List.length_append,vrl,↓vAq,vBq,↓reduceIte,Nat.reduceBEq,Nat.reduceEqDiff,Nat.reduceLT,Nat.reduceLeDiff,Nat.reduceAdd,Nat.reduceMul,Nat.reduceSub,reduceCtorEq,Int.reduceToNat]<;>(repeat' first|rfl|apply And.intro))
                all_goals trace_state
              · rintro ⟨j, o⟩ ⟨hj, ho1, ho2⟩
                simp only at hj ho1 ho2 ⊢
                cases o with
                | none =>
                  have hno:=ho1 rfl
                  by_cases hjl:j<ws.length
                  · have hSm:=same_spec N (by omega) (stW A 0 (ws.getD j [])) (stW A 0 w)
                    by_cases he:bt N (stW A 0 (ws.getD j []))=bt N (stW A 0 w)
                    · rw [decide_eq_true he] at hSm
                      repeat' first|((first|refine Br.dec ?_ ?_|refine Br.eqi ?_ ?_)<;>intro h<;>try (exfalso;omega))|(simp (disch:=first|omega|(simp only [vlen];first|done|omega)) only [vrl,↓vAq,vBq,↓reduceIte,Nat.reduceBEq,Nat.reduceEqDiff,Nat.reduceLT,Nat.reduceLeDiff,Nat.reduceAdd,Nat.reduceMul,Nat.reduceSub,reduceCtorEq,Int.reduceToNat])|(refine Br.mk ?_ ?_<;>intro h)|(refine BrN.mk (fun h => ?_) ?_)|(refine AltVC.mk ?_ ?_)
                      refine CallVC.eq hSm ?_
                      repeat' first|((first|refine Br.dec ?_ ?_|refine Br.eqi ?_ ?_)<;>intro h<;>try (exfalso;omega))|(simp (disch:=first|omega|(simp only [vlen];first|done|omega)) only [vrl,↓vAq,vBq,↓reduceIte,Nat.reduceBEq,Nat.reduceEqDiff,Nat.reduceLT,Nat.reduceLeDiff,Nat.reduceAdd,Nat.reduceMul,Nat.reduceSub,reduceCtorEq,Int.reduceToNat])|(refine Br.mk ?_ ?_<;>intro h)|(refine BrN.mk (fun h => ?_) ?_)|(refine AltVC.mk ?_ ?_)
                      refine loopK.mk (j+1,some j) (by simp (disch:=first|omega|(simp only [vlen];first|done|omega)) only [vrl,↓vAq,vBq,↓reduceIte,Nat.reduceBEq,Nat.reduceEqDiff,Nat.reduceLT,Nat.reduceLeDiff,Nat.reduceAdd,Nat.reduceMul,Nat.reduceSub,reduceCtorEq,Int.reduceToNat]) ⟨by show j+1≤ws.length;omega,fun h=>(by cases h),fun a h=>by cases h;exact ⟨hjl,he⟩⟩ (by show ws.length - (j+1)<ws.length - j;omega) ?_
                      (simp (disch:=first|omega|(simp only [vlen];first|done|omega)) only [Fits_u,Fits_m,Fits_nil,List.length_append,vrl,↓vAq,vBq,↓reduceIte,Nat.reduceBEq,Nat.reduceEqDiff,Nat.reduceLT,Nat.reduceLeDiff,Nat.reduceAdd,Nat.reduceMul,Nat.reduceSub,reduceCtorEq,Int.reduceToNat]<;>(repeat' first|rfl|apply And.intro))
                      all_goals trace_state
                    · rw [decide_eq_false he] at hSm
                      repeat' first|((first|refine Br.dec ?_ ?_|refine Br.eqi ?_ ?_)<;>intro h<;>try (exfalso;omega))|(simp (disch:=first|omega|(simp only [vlen];first|done|omega)) only [vrl,↓vAq,vBq,↓reduceIte,Nat.reduceBEq,Nat.reduceEqDiff,Nat.reduceLT,Nat.reduceLeDiff,Nat.reduceAdd,Nat.reduceMul,Nat.reduceSub,reduceCtorEq,Int.reduceToNat])|(refine Br.mk ?_ ?_<;>intro h)|(refine BrN.mk (fun h => ?_) ?_)|(refine AltVC.mk ?_ ?_)
                      refine CallVC.eq hSm ?_
                      repeat' first|((first|refine Br.dec ?_ ?_|refine Br.eqi ?_ ?_)<;>intro h<;>try (exfalso;omega))|(simp (disch:=first|omega|(simp only [vlen];first|done|omega)) only [vrl,↓vAq,vBq,↓reduceIte,Nat.reduceBEq,Nat.reduceEqDiff,Nat.reduceLT,Nat.reduceLeDiff,Nat.reduceAdd,Nat.reduceMul,Nat.reduceSub,reduceCtorEq,Int.reduceToNat])|(refine Br.mk ?_ ?_<;>intro h)|(refine BrN.mk (fun h => ?_) ?_)|(refine AltVC.mk ?_ ?_)
                      refine loopK.mk (j+1,none) (by simp (disch:=first|omega|(simp only [vlen];first|done|omega)) only [vrl,↓vAq,vBq,↓reduceIte,Nat.reduceBEq,Nat.reduceEqDiff,Nat.reduceLT,Nat.reduceLeDiff,Nat.reduceAdd,Nat.reduceMul,Nat.reduceSub,reduceCtorEq,Int.reduceToNat]) ⟨by show j+1≤ws.length;omega,fun _ a ha => ?_,fun a h=>(by cases h)⟩ (by show ws.length - (j+1)<ws.length - j;omega) ?_
                      · by_cases e:a=j
                        · rw [e];exact he
                        · exact hno a (by have ha:a<j+1:=ha;omega)
                      (simp (disch:=first|omega|(simp only [vlen];first|done|omega)) only [Fits_u,Fits_m,Fits_nil,List.length_append,vrl,↓vAq,vBq,↓reduceIte,Nat.reduceBEq,Nat.reduceEqDiff,Nat.reduceLT,Nat.reduceLeDiff,Nat.reduceAdd,Nat.reduceMul,Nat.reduceSub,reduceCtorEq,Int.reduceToNat]<;>(repeat' first|rfl|apply And.intro))
                      all_goals trace_state
                  · have hje:j=ws.length:=by omega
                    rw [hje] at hno
                    have hS2:=hS.push hwk hno
                    have hwl2:=hRf.few (by omega) hS2.inj
                    rw [List.length_append,List.length_singleton] at hwl2
                    have hlen:(ws++[w]).length=ws.length+1:=by simp
                    repeat' first|((first|refine Br.dec ?_ ?_|refine Br.eqi ?_ ?_)<;>intro h<;>try (exfalso;omega))|(simp (disch:=first|omega|(simp only [vlen];first|done|omega)) only [hlen,vrl,↓vAq,vBq,↓reduceIte,Nat.reduceBEq,Nat.reduceEqDiff,Nat.reduceLT,Nat.reduceLeDiff,Nat.reduceAdd,Nat.reduceMul,Nat.reduceSub,reduceCtorEq,Int.reduceToNat])|(refine Br.mk ?_ ?_<;>intro h)|(refine BrN.mk (fun h => ?_) ?_)|(refine AltVC.mk ?_ ?_)
                    refine loopK.mk (s+1,ws++[w],fun b=>if b=s then ws.length else R b) (by simp (disch:=first|omega|(simp only [vlen];first|done|omega)) only [vrl,↓vAq,vBq,↓reduceIte,Nat.reduceBEq,Nat.reduceEqDiff,Nat.reduceLT,Nat.reduceLeDiff,Nat.reduceAdd,Nat.reduceMul,Nat.reduceSub,reduceCtorEq,Int.reduceToNat]) ⟨by show s+1≤k;omega,by show i<(ws++[w]).length;omega,hS2,hX.app (by omega),?_⟩ (by show k - (s+1)<k - s;omega) ?_
                    · show RwR A N (ws++[w]) ((ws++[w]).getD i []) (s+1) _
                      rw [getD_appL hil]
                      exact hR.app.step (by omega) (by rw [getD_appR,hw])
                    (simp (disch:=first|omega|(simp only [vlen];first|done|omega)) only [Fits_u,Fits_m,Fits_nil,List.length_append,hlen,vrl,↓vAq,vBq,↓reduceIte,Nat.reduceBEq,Nat.reduceEqDiff,Nat.reduceLT,Nat.reduceLeDiff,Nat.reduceAdd,Nat.reduceMul,Nat.reduceSub,reduceCtorEq,Int.reduceToNat]<;>(repeat' first|rfl|apply And.intro))
                    all_goals trace_state
                | some r =>
                  obtain ⟨r1,r2⟩:=ho2 r rfl
                  repeat' first|((first|refine Br.dec ?_ ?_|refine Br.eqi ?_ ?_)<;>intro h<;>try (exfalso;omega))|(simp (disch:=first|omega|(simp only [vlen];first|done|omega)) only [vrl,↓vAq,vBq,↓reduceIte,Nat.reduceBEq,Nat.reduceEqDiff,Nat.reduceLT,Nat.reduceLeDiff,Nat.reduceAdd,Nat.reduceMul,Nat.reduceSub,reduceCtorEq,Int.reduceToNat])|(refine Br.mk ?_ ?_<;>intro h)|(refine BrN.mk (fun h => ?_) ?_)|(refine AltVC.mk ?_ ?_)
                  all_goals
                    refine loopK.mk (s+1,ws,fun b=>if b=s then r else R b) (by simp (disch:=first|omega|(simp only [vlen];first|done|omega)) only [vrl,↓vAq,vBq,↓reduceIte,Nat.reduceBEq,Nat.reduceEqDiff,Nat.reduceLT,Nat.reduceLeDiff,Nat.reduceAdd,Nat.reduceMul,Nat.reduceSub,reduceCtorEq,Int.reduceToNat]) ⟨by show s+1≤k;omega,hil,hS,hX,hR.step r1 (by rw [hw];exact r2)⟩ (by show k - (s+1)<k - s;omega) ?_
                    ((simp (disch:=first|omega|(simp only [vlen];first|done|omega)) only [Fits_u,Fits_m,Fits_nil,List.length_append,vrl,↓vAq,vBq,↓reduceIte,Nat.reduceBEq,Nat.reduceEqDiff,Nat.reduceLT,Nat.reduceLeDiff,Nat.reduceAdd,Nat.reduceMul,Nat.reduceSub,reduceCtorEq,Int.reduceToNat]<;>(repeat' first|rfl|apply And.intro)))
                  all_goals trace_state
        · have hse:s=k:=by omega
          subst hse
          repeat' first|((first|refine Br.dec ?_ ?_|refine Br.eqi ?_ ?_)<;>intro h<;>try (exfalso;omega))|(simp (disch:=first|omega|(simp only [vlen];first|done|omega)) only [vrl,↓vAq,vBq,↓reduceIte,Nat.reduceBEq,Nat.reduceEqDiff,Nat.reduceLT,Nat.reduceLeDiff,Nat.reduceAdd,Nat.reduceMul,Nat.reduceSub,reduceCtorEq,Int.reduceToNat])|(refine Br.mk ?_ ?_<;>intro h)|(refine BrN.mk (fun h => ?_) ?_)|(refine AltVC.mk ?_ ?_)
          refine loopK.frz 5 ?_
          repeat' first|((first|refine Br.dec ?_ ?_|refine Br.eqi ?_ ?_)<;>intro h<;>try (exfalso;omega))|(simp (disch:=first|omega|(simp only [vlen];first|done|omega)) only [vrl,↓vAq,vBq,↓reduceIte,Nat.reduceBEq,Nat.reduceEqDiff,Nat.reduceLT,Nat.reduceLeDiff,Nat.reduceAdd,Nat.reduceMul,Nat.reduceSub,reduceCtorEq,Int.reduceToNat])|(refine Br.mk ?_ ?_<;>intro h)|(refine BrN.mk (fun h => ?_) ?_)|(refine AltVC.mk ?_ ?_)
          refine loopK.flt 4 ?_
          repeat' first|((first|refine Br.dec ?_ ?_|refine Br.eqi ?_ ?_)<;>intro h<;>try (exfalso;omega))|(simp (disch:=first|omega|(simp only [vlen];first|done|omega)) only [nxR_put,vrl,↓vAq,vBq,↓reduceIte,Nat.reduceBEq,Nat.reduceEqDiff,Nat.reduceLT,Nat.reduceLeDiff,Nat.reduceAdd,Nat.reduceMul,Nat.reduceSub,reduceCtorEq,Int.reduceToNat])|(refine Br.mk ?_ ?_<;>intro h)|(refine BrN.mk (fun h => ?_) ?_)|(refine AltVC.mk ?_ ?_)
          refine loopK.mk (i+1,ws,fun a=>if a=i then R else nx a) (by simp (disch:=first|omega|(simp only [vlen];first|done|omega)) only [vrl,↓vAq,vBq,↓reduceIte,Nat.reduceBEq,Nat.reduceEqDiff,Nat.reduceLT,Nat.reduceLeDiff,Nat.reduceAdd,Nat.reduceMul,Nat.reduceSub,reduceCtorEq,Int.reduceToNat]) ⟨by show i+1≤ws.length;omega,hS,hX.step hR⟩ (by show 3298534883331 - (i+1)<3298534883331 - i;omega) ?_
          (simp (disch:=first|omega|(simp only [vlen];first|done|omega)) only [Fits_u,Fits_m,Fits_nil,List.length_append,vrl,↓vAq,vBq,↓reduceIte,Nat.reduceBEq,Nat.reduceEqDiff,Nat.reduceLT,Nat.reduceLeDiff,Nat.reduceAdd,Nat.reduceMul,Nat.reduceSub,reduceCtorEq,Int.reduceToNat]<;>(repeat' first|rfl|apply And.intro))
          all_goals trace_state
    · have hie:i=ws.length:=by omega
      subst hie
      have hD:=RI.df hRf hS hX
      have hn0:=hD.pos
      have hacc:∀ x,x<ws.length→(stW A 0 (ws.getD x []) 1=true ↔ lang l (l.length - 1) (ws.getD x [])):=fun x _=>hRf.acc
      obtain ⟨fi,hfi⟩ : ∃ fi:Nat→Bool,(fun i=>stW A 0 (ws.getD i []) 1)=fi:=⟨_,rfl⟩
      have hfx:∀ i,stW A 0 (ws.getD i []) 1=fi i:=fun i=>congrFun hfi i
      rw [hfi] at hD
      generalize (fun i v=>lang l (l.length - 1) (ws.getD i []++v))=D at hD
      generalize lang l (l.length - 1)=L at hD ⊢
      obtain ⟨n,hn⟩ : ∃ n,ws.length=n:=⟨_,rfl⟩
      rw [hn] at hD hn0 hwl
      have hvs:viewO (some ⟨1,rsD N A ws,true,false,.arr⟩) 1 0 n=.sl 1 (rsD N A ws):=by rw [← hn];exact viewO_rsD
      have hgs:∀ i,i<n→(rsD N A ws).getD i []=[.sl 1 (bls (bt N (stW A 0 (ws.getD i []))))]:=fun i hi=>rsD_get (by omega)
      have hlt:=hD.lt
      repeat' first|((first|refine Br.dec ?_ ?_|refine Br.eqi ?_ ?_)<;>intro h<;>try (exfalso;omega))|(simp (disch:=first|omega|(simp only [vlen];first|done|omega)) only [hn,rwN_rep,vrl,↓vAq,vBq,↓reduceIte,Nat.reduceBEq,Nat.reduceEqDiff,Nat.reduceLT,Nat.reduceLeDiff,Nat.reduceAdd,Nat.reduceMul,Nat.reduceSub,reduceCtorEq,Int.reduceToNat])|(refine Br.mk ?_ ?_<;>intro h)|(refine BrN.mk (fun h => ?_) ?_)|(refine AltVC.mk ?_ ?_)
      refine LoopVC.frz 3 ?_
      repeat' first|((first|refine Br.dec ?_ ?_|refine Br.eqi ?_ ?_)<;>intro h<;>try (exfalso;omega))|(simp (disch:=first|omega|(simp only [vlen];first|done|omega)) only [hn,hvs,vrl,↓vAq,vBq,↓reduceIte,Nat.reduceBEq,Nat.reduceEqDiff,Nat.reduceLT,Nat.reduceLeDiff,Nat.reduceAdd,Nat.reduceMul,Nat.reduceSub,reduceCtorEq,Int.reduceToNat])|(refine Br.mk ?_ ?_<;>intro h)|(refine BrN.mk (fun h => ?_) ?_)|(refine AltVC.mk ?_ ?_)
      refine LoopVC.frz 4 ?_
      repeat' first|((first|refine Br.dec ?_ ?_|refine Br.eqi ?_ ?_)<;>intro h<;>try (exfalso;omega))|(simp (disch:=first|omega|(simp only [vlen];first|done|omega)) only [hn,hvs,vrl,↓vAq,vBq,↓reduceIte,Nat.reduceBEq,Nat.reduceEqDiff,Nat.reduceLT,Nat.reduceLeDiff,Nat.reduceAdd,Nat.reduceMul,Nat.reduceSub,reduceCtorEq,Int.reduceToNat])|(refine Br.mk ?_ ?_<;>intro h)|(refine BrN.mk (fun h => ?_) ?_)|(refine AltVC.mk ?_ ?_)
      refine LoopVC.mk (X:=Nat) (fun i=>[(4,.ptr 0 5 0 0),(20,.ref 5 1 0 n),(21,iv .i64 i)]) (fun i=>[(0,⟨5,[mzD],true,false,.fix⟩),(5,⟨1,i64s (rwN n fun b=>if b<i then fiN fi b else 0),true,false,.arr⟩)]) (fun i=>n - i) (fun i=>i≤n) 0 (Nat.zero_le _) ?_ ?_
      · (simp (disch:=first|omega|(simp only [vlen];first|done|omega)) only [Fits_u,Fits_m,Fits_nil,List.length_append,hn,hvs,vrl,↓vAq,vBq,↓reduceIte,Nat.reduceBEq,Nat.reduceEqDiff,Nat.reduceLT,Nat.reduceLeDiff,Nat.reduceAdd,Nat.reduceMul,Nat.reduceSub,reduceCtorEq,Int.reduceToNat]<;>(repeat' first|rfl|apply And.intro))
        all_goals first|exact obRw (fun b _=>(if_neg (Nat.not_lt_zero _)).symm)|trace_state
      · intro i hi
        by_cases hin:i<n
        · have hg:=hgs i hin
          have hfi2:=hfx i
          cases hf:fi i with
          | true =>
            rw [hf] at hfi2
            have hv1:fiN fi i=1:=by unfold fiN;rw [hf];rfl
            repeat' first|((first|refine Br.dec ?_ ?_|refine Br.eqi ?_ ?_)<;>intro h<;>try (exfalso;omega))|(simp (disch:=first|omega|(simp only [vlen];first|done|omega)) only [hn,hvs,hg,hfi2,vrl,↓vAq,vBq,↓reduceIte,Nat.reduceBEq,Nat.reduceEqDiff,Nat.reduceLT,Nat.reduceLeDiff,Nat.reduceAdd,Nat.reduceMul,Nat.reduceSub,reduceCtorEq,Int.reduceToNat])|(refine Br.mk ?_ ?_<;>intro h)|(refine BrN.mk (fun h => ?_) ?_)|(refine AltVC.mk ?_ ?_)
            refine loopK.mk (i+1) (by simp (disch:=first|omega|(simp only [vlen];first|done|omega)) only [hvs,vrl,↓vAq,vBq,↓reduceIte,Nat.reduceBEq,Nat.reduceEqDiff,Nat.reduceLT,Nat.reduceLeDiff,Nat.reduceAdd,Nat.reduceMul,Nat.reduceSub,reduceCtorEq,Int.reduceToNat]) (by omega) (by omega) ?_
            (simp (disch:=first|omega|(simp only [vlen];first|done|omega)) only [Fits_u,Fits_m,Fits_nil,List.length_append,hn,hvs,vrl,↓vAq,vBq,↓reduceIte,Nat.reduceBEq,Nat.reduceEqDiff,Nat.reduceLT,Nat.reduceLeDiff,Nat.reduceAdd,Nat.reduceMul,Nat.reduceSub,reduceCtorEq,Int.reduceToNat]<;>(repeat' first|rfl|apply And.intro))
            all_goals first|(rw [rwN_set1];exact obRw (fun b hb=>rw_fill hv1 b))|exact obRw (fun b hb=>rw_keep hv1 b)|trace_state
          | false =>
            rw [hf] at hfi2
            have hv1:fiN fi i=0:=by unfold fiN;rw [hf];rfl
            repeat' first|((first|refine Br.dec ?_ ?_|refine Br.eqi ?_ ?_)<;>intro h<;>try (exfalso;omega))|(simp (disch:=first|omega|(simp only [vlen];first|done|omega)) only [hn,hvs,hg,hfi2,vrl,↓vAq,vBq,↓reduceIte,Nat.reduceBEq,Nat.reduceEqDiff,Nat.reduceLT,Nat.reduceLeDiff,Nat.reduceAdd,Nat.reduceMul,Nat.reduceSub,reduceCtorEq,Int.reduceToNat])|(refine Br.mk ?_ ?_<;>intro h)|(refine BrN.mk (fun h => ?_) ?_)|(refine AltVC.mk ?_ ?_)
            refine loopK.mk (i+1) (by simp (disch:=first|omega|(simp only [vlen];first|done|omega)) only [hvs,vrl,↓vAq,vBq,↓reduceIte,Nat.reduceBEq,Nat.reduceEqDiff,Nat.reduceLT,Nat.reduceLeDiff,Nat.reduceAdd,Nat.reduceMul,Nat.reduceSub,reduceCtorEq,Int.reduceToNat]) (by omega) (by omega) ?_
            (simp (disch:=first|omega|(simp only [vlen];first|done|omega)) only [Fits_u,Fits_m,Fits_nil,List.length_append,hn,hvs,vrl,↓vAq,vBq,↓reduceIte,Nat.reduceBEq,Nat.reduceEqDiff,Nat.reduceLT,Nat.reduceLeDiff,Nat.reduceAdd,Nat.reduceMul,Nat.reduceSub,reduceCtorEq,Int.reduceToNat]<;>(repeat' first|rfl|apply And.intro))
            all_goals first|(rw [rwN_set1];exact obRw (fun b hb=>rw_fill hv1 b))|exact obRw (fun b hb=>rw_keep hv1 b)|trace_state
        · have hie : i = n := by omega
          rw [hie]
          clear hie hin hi i
          rw [rwN_ext (F:=fun b=>if b<n then fiN fi b else 0) (G:=fiN fi) fun b hb=>if_pos hb]
          repeat' first|((first|refine Br.dec ?_ ?_|refine Br.eqi ?_ ?_)<;>intro h<;>try (exfalso;omega))|(simp (disch:=first|omega|(simp only [vlen];first|done|omega)) only [hn,hvs,vrl,↓vAq,vBq,↓reduceIte,Nat.reduceBEq,Nat.reduceEqDiff,Nat.reduceLT,Nat.reduceLeDiff,Nat.reduceAdd,Nat.reduceMul,Nat.reduceSub,reduceCtorEq,Int.reduceToNat])|(refine Br.mk ?_ ?_<;>intro h)|(refine BrN.mk (fun h => ?_) ?_)|(refine AltVC.mk ?_ ?_)
          refine LoopVC.frz 5 ?_
          repeat' first|((first|refine Br.dec ?_ ?_|refine Br.eqi ?_ ?_)<;>intro h<;>try (exfalso;omega))|(simp (disch:=first|omega|(simp only [vlen];first|done|omega)) only [hn,hvs,vrl,↓vAq,vBq,↓reduceIte,Nat.reduceBEq,Nat.reduceEqDiff,Nat.reduceLT,Nat.reduceLeDiff,Nat.reduceAdd,Nat.reduceMul,Nat.reduceSub,reduceCtorEq,Int.reduceToNat])|(refine Br.mk ?_ ?_<;>intro h)|(refine BrN.mk (fun h => ?_) ?_)|(refine AltVC.mk ?_ ?_)
          refine LoopVC.mk (X:=Nat × (Nat→Nat)) (fun x=>[(4,.ptr 0 5 0 0),(20,.sl 1 (i64s (rwN n x.2))),(22,iv .i64 x.1)]) (fun x=>[(0,⟨5,[mzD],true,false,.fix⟩)]) (fun x=>n - x.1) (fun x=>x.1≤n∧ClE k D n x.1 x.2∧(0<x.1→∀ i,i<n→x.2 i=lE k D x.1 i)) (0,fiN fi) ⟨Nat.zero_le _,fun i j hi hj => ?_,fun h=>absurd h (Nat.lt_irrefl _)⟩ ?_ ?_
          · rw [hD.eq0 hi hj]
            unfold fiN
            cases h1:fi i<;>cases h2:fi j<;>simp [h1,h2]
          · (simp (disch:=first|omega|(simp only [vlen];first|done|omega)) only [Fits_u,Fits_m,Fits_nil,List.length_append,hn,hvs,vrl,↓vAq,vBq,↓reduceIte,Nat.reduceBEq,Nat.reduceEqDiff,Nat.reduceLT,Nat.reduceLeDiff,Nat.reduceAdd,Nat.reduceMul,Nat.reduceSub,reduceCtorEq,Int.reduceToNat]<;>(repeat' first|rfl|apply And.intro))
            all_goals trace_state
          · rintro ⟨t, c⟩ ⟨ht, hC, hcl⟩
            simp only at ht hC hcl ⊢
            by_cases htn:t<n
            · repeat' first | ((first | refine Br.dec ?_ ?_ | refine Br.eqi ?_ ?_) <;> intro h <;> try (exfalso; omega)) | (simp (disch := first | omega | (simp only [vlen]; first | done | omega)) only [hn, hvs, rwN_rep, vrl, ↓vAq, vBq, ↓reduceIte, Nat.reduceBEq, Nat.reduceEqDiff, Nat.reduceLT, Nat.reduceLeDiff, Nat.reduceAdd, Nat.reduceMul, Nat.reduceSub, reduceCtorEq, Int.reduceToNat]) | (refine Br.mk ?_ ?_ <;> intro h) | (refine BrN.mk (fun h => ?_) ?_) | (refine AltVC.mk ?_ ?_)
              refine LoopVC.mk (X:=Nat) (fun i=>[(4,.ptr 0 5 0 0),(23,.ref 6 1 0 n),(24,iv .i64 i)]) (fun i=>[(0,⟨5,[mzD],true,false,.fix⟩),(6,⟨1,i64s (rwN n fun b=>if b<i then lE k D (t+1) b else 0),true,false,.arr⟩)]) (fun i=>n - i) (fun i=>i≤n) 0 (Nat.zero_le _) ?_ ?_
              · (simp (disch:=first|omega|(simp only [vlen];first|done|omega)) only [Fits_u,Fits_m,Fits_nil,List.length_append,hn,hvs,vrl,↓vAq,vBq,↓reduceIte,Nat.reduceBEq,Nat.reduceEqDiff,Nat.reduceLT,Nat.reduceLeDiff,Nat.reduceAdd,Nat.reduceMul,Nat.reduceSub,reduceCtorEq,Int.reduceToNat]<;>(repeat' first|rfl|apply And.intro))
                all_goals first|exact obRw (fun b _=>(if_neg (Nat.not_lt_zero _)).symm)|trace_state
              · intro i hi
                by_cases hin:i<n
                · repeat' first | ((first | refine Br.dec ?_ ?_ | refine Br.eqi ?_ ?_) <;> intro h <;> try (exfalso; omega)) | (simp (disch := first | omega | (simp only [vlen]; first | done | omega)) only [hn, hvs, vrl, ↓vAq, vBq, ↓reduceIte, Nat.reduceBEq, Nat.reduceEqDiff, Nat.reduceLT, Nat.reduceLeDiff, Nat.reduceAdd, Nat.reduceMul, Nat.reduceSub, reduceCtorEq, Int.reduceToNat]) | (refine Br.mk ?_ ?_ <;> intro h) | (refine BrN.mk (fun h => ?_) ?_) | (refine AltVC.mk ?_ ?_)
                  refine LoopVC.mk (X:=Nat × Nat) (fun x=>[(4,.ptr 0 5 0 0),(23,.ref 6 1 0 n),(25,iv .i64 x.1)]) (fun x=>[(0,⟨5,[mzD],true,false,.fix⟩),(6,⟨1,i64s (rwN n fun b=>if b=i then x.2 else if b<i then lE k D (t+1) b else 0),true,false,.arr⟩)]) (fun x=>i - x.1) (fun x=>x.1≤i∧((x.2=i∧∀ a,a<x.1→¬ EqN k D (t+1) a i)∨(x.2<i∧lE k D (t+1) i=x.2))) (0,i) ⟨Nat.zero_le _,.inl ⟨rfl,fun a h=>absurd h (Nat.not_lt_zero _)⟩⟩ ?_ ?_
                  · (simp (disch:=first|omega|(simp only [vlen];first|done|omega)) only [Fits_u,Fits_m,Fits_nil,List.length_append,hn,hvs,vrl,↓vAq,vBq,↓reduceIte,Nat.reduceBEq,Nat.reduceEqDiff,Nat.reduceLT,Nat.reduceLeDiff,Nat.reduceAdd,Nat.reduceMul,Nat.reduceSub,reduceCtorEq,Int.reduceToNat]<;>(repeat' first|rfl|apply And.intro))
                    all_goals trace_state
                  · rintro ⟨j, v⟩ ⟨hj, hjv⟩
                    simp only at hj hjv ⊢
                    have out:∀ v,lE k D (t+1) i=v→(some (⟨1,i64s (rwN n fun b=>if b=i then v else if b<i then lE k D (t+1) b else 0),true,false,.arr⟩:Ob))=some ⟨1,i64s (rwN n fun b=>if b<i+1 then lE k D (t+1) b else 0),true,false,.arr⟩:=fun v hv=>obRw fun b _=>rw_fill hv b
                    rcases hjv with ⟨rfl,hno⟩|⟨hvi,hvl⟩
                    · by_cases hji:j<v
                      · repeat' first | ((first | refine Br.dec ?_ ?_ | refine Br.eqi ?_ ?_) <;> intro h <;> try (exfalso; omega)) | (simp (disch := first | omega | (simp only [vlen]; first | done | omega)) only [hn, hvs, ite_rfl, vrl, ↓vAq, vBq, ↓reduceIte, Nat.reduceBEq, Nat.reduceEqDiff, Nat.reduceLT, Nat.reduceLeDiff, Nat.reduceAdd, Nat.reduceMul, Nat.reduceSub, reduceCtorEq, Int.reduceToNat]) | (refine Br.mk ?_ ?_ <;> intro h) | (refine BrN.mk (fun h => ?_) ?_) | (refine AltVC.mk ?_ ?_)
                        refine LoopVC.mk (X:=Nat) (fun s=>[(4,.ptr 0 5 0 0),(23,.ref 6 1 0 n),(26,.v (.bool (alB c nx v j s))),(27,iv .i64 s)]) (fun s=>[(0,⟨5,[mzD],true,false,.fix⟩),(6,⟨1,i64s (rwN n fun b=>if b=v then v else if b<v then lE k D (t+1) b else 0),true,false,.arr⟩)]) (fun s=>k - s) (fun s=>s≤k) 0 (Nat.zero_le _) ?_ ?_
                        · (simp (disch:=first|omega|(simp only [vlen];first|done|omega)) only [Fits_u,Fits_m,Fits_nil,List.length_append,hn,hvs,vrl,↓vAq,vBq,↓reduceIte,Nat.reduceBEq,Nat.reduceEqDiff,Nat.reduceLT,Nat.reduceLeDiff,Nat.reduceAdd,Nat.reduceMul,Nat.reduceSub,reduceCtorEq,Int.reduceToNat]<;>(repeat' first|rfl|apply And.intro))
                          all_goals first|exact vbEq alB_zero|trace_state
                        · intro s hs
                          by_cases hsk:s<k
                          · have q1:=hlt v s hin hsk
                            have q2:=hlt j s (by omega) hsk
                            cases hal:alB c nx v j s with
                            | true =>
                              have hst:=alB_step hal
                              repeat' first|((first|refine Br.dec ?_ ?_|refine Br.eqi ?_ ?_)<;>intro h<;>try (exfalso;omega))|(simp (disch:=first|omega|(simp only [vlen];first|done|omega)) only [hn,hvs,hal,vrl,↓vAq,vBq,↓reduceIte,Nat.reduceBEq,Nat.reduceEqDiff,Nat.reduceLT,Nat.reduceLeDiff,Nat.reduceAdd,Nat.reduceMul,Nat.reduceSub,reduceCtorEq,Int.reduceToNat])|(refine Br.mk ?_ ?_<;>intro h)|(refine BrN.mk (fun h => ?_) ?_)|(refine AltVC.mk ?_ ?_)
                              refine loopK.mk (s+1) (by simp (disch:=first|omega|(simp only [vlen];first|done|omega)) only [hvs,vrl,↓vAq,vBq,↓reduceIte,Nat.reduceBEq,Nat.reduceEqDiff,Nat.reduceLT,Nat.reduceLeDiff,Nat.reduceAdd,Nat.reduceMul,Nat.reduceSub,reduceCtorEq,Int.reduceToNat]) (by omega) (by omega) ?_
                              (simp (disch:=first|omega|(simp only [vlen];first|done|omega)) only [Fits_u,Fits_m,Fits_nil,List.length_append,hn,hvs,vrl,↓vAq,vBq,↓reduceIte,Nat.reduceBEq,Nat.reduceEqDiff,Nat.reduceLT,Nat.reduceLeDiff,Nat.reduceAdd,Nat.reduceMul,Nat.reduceSub,reduceCtorEq,Int.reduceToNat]<;>(repeat' first|rfl|apply And.intro))
                              all_goals first|exact vbEq hst|trace_state
                            | false =>
                              have hst:=alB_no hal
                              repeat' first|((first|refine Br.dec ?_ ?_|refine Br.eqi ?_ ?_)<;>intro h<;>try (exfalso;omega))|(simp (disch:=first|omega|(simp only [vlen];first|done|omega)) only [hn,hvs,hal,vrl,↓vAq,vBq,↓reduceIte,Nat.reduceBEq,Nat.reduceEqDiff,Nat.reduceLT,Nat.reduceLeDiff,Nat.reduceAdd,Nat.reduceMul,Nat.reduceSub,reduceCtorEq,Int.reduceToNat])|(refine Br.mk ?_ ?_<;>intro h)|(refine BrN.mk (fun h => ?_) ?_)|(refine AltVC.mk ?_ ?_)
                              refine loopK.mk (s+1) (by simp (disch:=first|omega|(simp only [vlen];first|done|omega)) only [hvs,vrl,↓vAq,vBq,↓reduceIte,Nat.reduceBEq,Nat.reduceEqDiff,Nat.reduceLT,Nat.reduceLeDiff,Nat.reduceAdd,Nat.reduceMul,Nat.reduceSub,reduceCtorEq,Int.reduceToNat]) (by omega) (by omega) ?_
                              (simp (disch:=first|omega|(simp only [vlen];first|done|omega)) only [Fits_u,Fits_m,Fits_nil,List.length_append,hn,hvs,vrl,↓vAq,vBq,↓reduceIte,Nat.reduceBEq,Nat.reduceEqDiff,Nat.reduceLT,Nat.reduceLeDiff,Nat.reduceAdd,Nat.reduceMul,Nat.reduceSub,reduceCtorEq,Int.reduceToNat]<;>(repeat' first|rfl|apply And.intro))
                              all_goals first|exact vbEq hst|trace_state
                          · have hse:s=k:=by omega
                            rw [hse]
                            clear hse hsk hs s
                            have heq:alB c nx v j k=true ↔ EqN k D (t+1) v j:=by
                              rw [alB_iff,hD.eqS hin (by omega),hC v j hin (by omega)]
                              exact ⟨fun h=>⟨h.1,fun s hs=>(hC _ _ (hlt v s hin hs) (hlt j s (by omega) hs)).1 (h.2 s hs)⟩,fun h=>⟨h.1,fun s hs=>(hC _ _ (hlt v s hin hs) (hlt j s (by omega) hs)).2 (h.2 s hs)⟩⟩
                            cases hal:alB c nx v j k with
                            | true =>
                              rw [hal] at heq
                              have hle:lE k D (t+1) v=j:=lE_of (heq.1 rfl).symm hno
                              repeat' first|((first|refine Br.dec ?_ ?_|refine Br.eqi ?_ ?_)<;>intro h<;>try (exfalso;omega))|(simp (disch:=first|omega|(simp only [vlen];first|done|omega)) only [hn,hvs,hal,vrl,↓vAq,vBq,↓reduceIte,Nat.reduceBEq,Nat.reduceEqDiff,Nat.reduceLT,Nat.reduceLeDiff,Nat.reduceAdd,Nat.reduceMul,Nat.reduceSub,reduceCtorEq,Int.reduceToNat])|(refine Br.mk ?_ ?_<;>intro h)|(refine BrN.mk (fun h => ?_) ?_)|(refine AltVC.mk ?_ ?_)
                              refine loopK.mk (j+1,j) (by simp (disch:=first|omega|(simp only [vlen];first|done|omega)) only [hvs,vrl,↓vAq,vBq,↓reduceIte,Nat.reduceBEq,Nat.reduceEqDiff,Nat.reduceLT,Nat.reduceLeDiff,Nat.reduceAdd,Nat.reduceMul,Nat.reduceSub,reduceCtorEq,Int.reduceToNat]) ⟨by show j+1≤v;omega,.inr ⟨hji,hle⟩⟩ (by show v - (j+1)<v - j;omega) ?_
                              (simp (disch:=first|omega|(simp only [vlen];first|done|omega)) only [Fits_u,Fits_m,Fits_nil,List.length_append,hn,hvs,vrl,↓vAq,vBq,↓reduceIte,Nat.reduceBEq,Nat.reduceEqDiff,Nat.reduceLT,Nat.reduceLeDiff,Nat.reduceAdd,Nat.reduceMul,Nat.reduceSub,reduceCtorEq,Int.reduceToNat]<;>(repeat' first|rfl|apply And.intro))
                              all_goals first|exact obRw (fun b _=>by by_cases e:b=v<;>simp [e])|trace_state
                            | false =>
                              rw [hal] at heq
                              repeat' first|((first|refine Br.dec ?_ ?_|refine Br.eqi ?_ ?_)<;>intro h<;>try (exfalso;omega))|(simp (disch:=first|omega|(simp only [vlen];first|done|omega)) only [hn,hvs,hal,vrl,↓vAq,vBq,↓reduceIte,Nat.reduceBEq,Nat.reduceEqDiff,Nat.reduceLT,Nat.reduceLeDiff,Nat.reduceAdd,Nat.reduceMul,Nat.reduceSub,reduceCtorEq,Int.reduceToNat])|(refine Br.mk ?_ ?_<;>intro h)|(refine BrN.mk (fun h => ?_) ?_)|(refine AltVC.mk ?_ ?_)
                              refine loopK.mk (j+1,v) (by simp (disch:=first|omega|(simp only [vlen];first|done|omega)) only [hvs,vrl,↓vAq,vBq,↓reduceIte,Nat.reduceBEq,Nat.reduceEqDiff,Nat.reduceLT,Nat.reduceLeDiff,Nat.reduceAdd,Nat.reduceMul,Nat.reduceSub,reduceCtorEq,Int.reduceToNat]) ⟨by show j+1≤v;omega,.inl ⟨rfl,fun a ha => ?_⟩⟩ (by show v - (j+1)<v - j;omega) ?_
                              · by_cases e:a=j
                                · rw [e];exact fun h=>by have:=heq.2 h.symm;cases this
                                · exact hno a (by have ha:a<j+1:=ha;omega)
                              (simp (disch:=first|omega|(simp only [vlen];first|done|omega)) only [Fits_u,Fits_m,Fits_nil,List.length_append,hn,hvs,vrl,↓vAq,vBq,↓reduceIte,Nat.reduceBEq,Nat.reduceEqDiff,Nat.reduceLT,Nat.reduceLeDiff,Nat.reduceAdd,Nat.reduceMul,Nat.reduceSub,reduceCtorEq,Int.reduceToNat]<;>(repeat' first|rfl|apply And.intro))
                              all_goals trace_state
                      · have hje:j=v:=by omega
                        have hvl:lE k D (t+1) v=v:=lE_of EqN.rfl' (hje ▸ hno)
                        repeat' first|((first|refine Br.dec ?_ ?_|refine Br.eqi ?_ ?_)<;>intro h<;>try (exfalso;omega))|(simp (disch:=first|omega|(simp only [vlen];first|done|omega)) only [hn,hvs,ite_rfl,vrl,↓vAq,vBq,↓reduceIte,Nat.reduceBEq,Nat.reduceEqDiff,Nat.reduceLT,Nat.reduceLeDiff,Nat.reduceAdd,Nat.reduceMul,Nat.reduceSub,reduceCtorEq,Int.reduceToNat])|(refine Br.mk ?_ ?_<;>intro h)|(refine BrN.mk (fun h => ?_) ?_)|(refine AltVC.mk ?_ ?_)
                        refine loopK.mk (v+1) (by simp (disch:=first|omega|(simp only [vlen];first|done|omega)) only [hvs,vrl,↓vAq,vBq,↓reduceIte,Nat.reduceBEq,Nat.reduceEqDiff,Nat.reduceLT,Nat.reduceLeDiff,Nat.reduceAdd,Nat.reduceMul,Nat.reduceSub,reduceCtorEq,Int.reduceToNat]) (by omega) (by omega) ?_
                        (simp (disch:=first|omega|(simp only [vlen];first|done|omega)) only [Fits_u,Fits_m,Fits_nil,List.length_append,hn,hvs,vrl,↓vAq,vBq,↓reduceIte,Nat.reduceBEq,Nat.reduceEqDiff,Nat.reduceLT,Nat.reduceLeDiff,Nat.reduceAdd,Nat.reduceMul,Nat.reduceSub,reduceCtorEq,Int.reduceToNat]<;>(repeat' first|rfl|apply And.intro))
                        all_goals first|exact out v hvl|trace_state
                    · have hne:¬ ((v:Int)=(i:Int)):=by omega
                      repeat' first|((first|refine Br.dec ?_ ?_|refine Br.eqi ?_ ?_)<;>intro h<;>try (exfalso;omega))|(simp (disch:=first|omega|(simp only [vlen];first|done|omega)) only [hn,hvs,ite_rfl,vrl,↓vAq,vBq,↓reduceIte,Nat.reduceBEq,Nat.reduceEqDiff,Nat.reduceLT,Nat.reduceLeDiff,Nat.reduceAdd,Nat.reduceMul,Nat.reduceSub,reduceCtorEq,Int.reduceToNat])|(refine Br.mk ?_ ?_<;>intro h)|(refine BrN.mk (fun h => ?_) ?_)|(refine AltVC.mk ?_ ?_)
                      all_goals
                        refine loopK.mk (i+1) (by simp (disch:=first|omega|(simp only [vlen];first|done|omega)) only [hvs,vrl,↓vAq,vBq,↓reduceIte,Nat.reduceBEq,Nat.reduceEqDiff,Nat.reduceLT,Nat.reduceLeDiff,Nat.reduceAdd,Nat.reduceMul,Nat.reduceSub,reduceCtorEq,Int.reduceToNat]) (by omega) (by omega) ?_
                        ((simp (disch:=first|omega|(simp only [vlen];first|done|omega)) only [Fits_u,Fits_m,Fits_nil,List.length_append,hn,hvs,vrl,↓vAq,vBq,↓reduceIte,Nat.reduceBEq,Nat.reduceEqDiff,Nat.reduceLT,Nat.reduceLeDiff,Nat.reduceAdd,Nat.reduceMul,Nat.reduceSub,reduceCtorEq,Int.reduceToNat]<;>(repeat' first|rfl|apply And.intro)))
                      all_goals first|exact out v hvl|trace_state
                · have hie:i=n:=by omega
                  rw [hie]
                  clear hie hin hi i
                  rw [rwN_ext (F:=fun b=>if b<n then lE k D (t+1) b else 0) (G:=lE k D (t+1)) fun b hb=>if_pos hb]
                  repeat' first|((first|refine Br.dec ?_ ?_|refine Br.eqi ?_ ?_)<;>intro h<;>try (exfalso;omega))|(simp (disch:=first|omega|(simp only [vlen];first|done|omega)) only [hn,hvs,vrl,↓vAq,vBq,↓reduceIte,Nat.reduceBEq,Nat.reduceEqDiff,Nat.reduceLT,Nat.reduceLeDiff,Nat.reduceAdd,Nat.reduceMul,Nat.reduceSub,reduceCtorEq,Int.reduceToNat])|(refine Br.mk ?_ ?_<;>intro h)|(refine BrN.mk (fun h => ?_) ?_)|(refine AltVC.mk ?_ ?_)
                  refine loopK.frz 6 ?_
                  repeat' first|((first|refine Br.dec ?_ ?_|refine Br.eqi ?_ ?_)<;>intro h<;>try (exfalso;omega))|(simp (disch:=first|omega|(simp only [vlen];first|done|omega)) only [hn,hvs,vrl,↓vAq,vBq,↓reduceIte,Nat.reduceBEq,Nat.reduceEqDiff,Nat.reduceLT,Nat.reduceLeDiff,Nat.reduceAdd,Nat.reduceMul,Nat.reduceSub,reduceCtorEq,Int.reduceToNat])|(refine Br.mk ?_ ?_<;>intro h)|(refine BrN.mk (fun h => ?_) ?_)|(refine AltVC.mk ?_ ?_)
                  refine loopK.mk (t+1,lE k D (t+1)) (by simp (disch:=first|omega|(simp only [vlen];first|done|omega)) only [hvs,vrl,↓vAq,vBq,↓reduceIte,Nat.reduceBEq,Nat.reduceEqDiff,Nat.reduceLT,Nat.reduceLeDiff,Nat.reduceAdd,Nat.reduceMul,Nat.reduceSub,reduceCtorEq,Int.reduceToNat]) ⟨by show t+1≤n;omega,lE_cl,fun _ i _=>rfl⟩ (by show n - (t+1)<n - t;omega) ?_
                  (simp (disch:=first|omega|(simp only [vlen];first|done|omega)) only [Fits_u,Fits_m,Fits_nil,List.length_append,hn,hvs,vrl,↓vAq,vBq,↓reduceIte,Nat.reduceBEq,Nat.reduceEqDiff,Nat.reduceLT,Nat.reduceLeDiff,Nat.reduceAdd,Nat.reduceMul,Nat.reduceSub,reduceCtorEq,Int.reduceToNat]<;>(repeat' first|rfl|apply And.intro))
                  all_goals trace_state
            · have hte:t=n:=by omega
              have hcl:=hcl (by omega)
              rw [hte] at hcl
              clear hC
              have hcn:∀ i,i<n→c i<n:=fun i hi=>by rw [hcl i hi];have:=(@lE_spec k D n i).1;omega
              have hcd:∀ i,i<n→D (c i)=D i:=fun i hi=>by
                have h1:=hcn i hi
                rw [hcl i hi] at h1 ⊢
                exact (hD.enough h1 hi).1 (@lE_spec k D n i).2.1
              have hce:∀ i j,i<n→j<n→(c i=c j ↔ D i=D j):=fun i j hi hj=>by
                rw [hcl i hi,hcl j hj,lE_cl (n:=n) i j hi hj,hD.enough hi hj]
              have hcc:∀ i,i<n→c (c i)=c i:=fun i hi=>(hce _ _ (hcn i hi) hi).2 (hcd i hi)
              repeat' first|((first|refine Br.dec ?_ ?_|refine Br.eqi ?_ ?_)<;>intro h<;>try (exfalso;omega))|(simp (disch:=first|omega|(simp only [vlen];first|done|omega)) only [hn,hvs,vrl,↓vAq,vBq,↓reduceIte,Nat.reduceBEq,Nat.reduceEqDiff,Nat.reduceLT,Nat.reduceLeDiff,Nat.reduceAdd,Nat.reduceMul,Nat.reduceSub,reduceCtorEq,Int.reduceToNat])|(refine Br.mk ?_ ?_<;>intro h)|(refine BrN.mk (fun h => ?_) ?_)|(refine AltVC.mk ?_ ?_)
              refine LoopVC.nlo 7 0 2 1 ?_
              repeat' first|((first|refine Br.dec ?_ ?_|refine Br.eqi ?_ ?_)<;>intro h<;>try (exfalso;omega))|(simp (disch:=first|omega|(simp only [vlen];first|done|omega)) only [hn,hvs,vrl,↓vAq,vBq,↓reduceIte,Nat.reduceBEq,Nat.reduceEqDiff,Nat.reduceLT,Nat.reduceLeDiff,Nat.reduceAdd,Nat.reduceMul,Nat.reduceSub,reduceCtorEq,Int.reduceToNat])|(refine Br.mk ?_ ?_<;>intro h)|(refine BrN.mk (fun h => ?_) ?_)|(refine AltVC.mk ?_ ?_)
              refine LoopVC.mk (X:=Nat × Nat × (Nat→Nat)) (fun x=>[(4,.ptr 0 5 0 0),(28,.ref 6 1 0 x.2.1),(29,.ptr 7 5 0 0),(30,iv .i64 x.1)]) (fun x=>[(0,⟨5,[mzD],true,false,.fix⟩),(6,⟨1,i64s (rwN x.2.1 x.2.2),true,false,.arr⟩),(7,⟨5,[[iv .i64 0,iv .i64 k,.own false 1 (rows i64s (nxR k x.1 (bfN L k))),iv .i64 0,iv .u32 0]],true,true,.fix⟩)]) (fun x=>12 - x.1) (fun x=>x.1≤x.2.1∧x.2.1≤10∧FoI D n L k x.2.1 x.2.2 (x.1 * k)∧(∀ j,j<x.2.1→c (x.2.2 j)=x.2.2 j)∧∀ a,a<x.1→a<(bfL L k (a * k)).length) (0,1,fun _=>c 0) ⟨by show (0:Nat)≤1;omega,by show 1≤10;omega,⟨fun j _=>hcn 0 hn0,by show ((List.range 1).map fun _=>D (c 0))=bfL L k (0 * k);rw [Nat.zero_mul,hcd 0 hn0,hD.st];rfl⟩,fun j _=>hcc 0 hn0,fun a h=>absurd h (Nat.not_lt_zero _)⟩ ?_ ?_
              · (simp (disch:=first|omega|(simp only [vlen];first|done|omega)) only [Fits_u,Fits_m,Fits_nil,List.length_append,hn,hvs,vrl,↓vAq,vBq,↓reduceIte,Nat.reduceBEq,Nat.reduceEqDiff,Nat.reduceLT,Nat.reduceLeDiff,Nat.reduceAdd,Nat.reduceMul,Nat.reduceSub,reduceCtorEq,Int.reduceToNat]<;>(repeat' first|rfl|apply And.intro))
                all_goals first|rfl|trace_state
              · rintro ⟨i, m, F⟩ ⟨hi, hm10, hFo, hFc, hFx⟩
                simp only at hi hm10 hFo hFc hFx ⊢
                have hml:=hFo.len
                by_cases him:i<m
                · have hFi := hFo.lt i him
                  by_cases hm7:7<m
                  · repeat' first|((first|refine Br.dec ?_ ?_|refine Br.eqi ?_ ?_)<;>intro h<;>try (exfalso;omega))|(simp (disch:=first|omega|(simp only [vlen];first|done|omega)) only [hn,hvs,vrl,↓vAq,vBq,↓reduceIte,Nat.reduceBEq,Nat.reduceEqDiff,Nat.reduceLT,Nat.reduceLeDiff,Nat.reduceAdd,Nat.reduceMul,Nat.reduceSub,reduceCtorEq,Int.reduceToNat])|(refine Br.mk ?_ ?_<;>intro h)|(refine BrN.mk (fun h => ?_) ?_)|(refine AltVC.mk ?_ ?_)
                    exact fin_mk (.inl ⟨⟨i * k,by omega⟩,rfl⟩)
                  · repeat' first | ((first | refine Br.dec ?_ ?_ | refine Br.eqi ?_ ?_) <;> intro h <;> try (exfalso; omega)) | (simp (disch := first | omega | (simp only [vlen]; first | done | omega)) only [hn, hvs, vrl, ↓vAq, vBq, ↓reduceIte, Nat.reduceBEq, Nat.reduceEqDiff, Nat.reduceLT, Nat.reduceLeDiff, Nat.reduceAdd, Nat.reduceMul, Nat.reduceSub, reduceCtorEq, Int.reduceToNat]) | (refine Br.mk ?_ ?_ <;> intro h) | (refine BrN.mk (fun h => ?_) ?_) | (refine AltVC.mk ?_ ?_)
                    refine LoopVC.mk (X:=Nat × Nat × (Nat→Nat)) (fun x=>[(4,.ptr 0 5 0 0),(28,.ref 6 1 0 x.2.1),(29,.ptr 7 5 0 0),(31,.ref 8 1 0 x.1),(32,iv .i64 x.1)]) (fun x=>[(0,⟨5,[mzD],true,false,.fix⟩),(6,⟨1,i64s (rwN x.2.1 x.2.2),true,false,.arr⟩),(7,⟨5,[[iv .i64 0,iv .i64 k,.own false 1 (rows i64s (nxR k i (bfN L k))),iv .i64 0,iv .u32 0]],true,true,.fix⟩),(8,⟨1,i64s (rwN x.1 (bfN L k i)),true,false,.arr⟩)]) (fun x=>k - x.1) (fun x=>x.1≤k∧i<x.2.1∧x.2.1≤7+x.1∧FoI D n L k x.2.1 x.2.2 (i * k+x.1)∧∀ j,j<x.2.1→c (x.2.2 j)=x.2.2 j) (0,m,F) ⟨Nat.zero_le _,him,by show m≤7+0;omega,hFo,hFc⟩ ?_ ?_
                    · (simp (disch:=first|omega|(simp only [vlen];first|done|omega)) only [Fits_u,Fits_m,Fits_nil,List.length_append,hn,hvs,vrl,↓vAq,vBq,↓reduceIte,Nat.reduceBEq,Nat.reduceEqDiff,Nat.reduceLT,Nat.reduceLeDiff,Nat.reduceAdd,Nat.reduceMul,Nat.reduceSub,reduceCtorEq,Int.reduceToNat]<;>(repeat' first|rfl|apply And.intro))
                      all_goals first|rfl|trace_state
                    · have him0 := him
                      have hFd0:=hFo
                      rintro ⟨s,m,F⟩ ⟨hs,him,hm7s,hFo,hFc⟩
                      simp only at hs him hm7s hFo hFc ⊢
                      have hml:=hFo.len
                      have hFi:=hFo.lt i him
                      by_cases hsk:s<k
                      · have hst:=hlt _ s hFi hsk
                        obtain ⟨to,hto⟩ : ∃ to,c (nx (F i) s)=to:=⟨_,rfl⟩
                        have hton:to<n:=by rw [← hto];exact hcn _ hst
                        have hFt:∀ j,j<m→(F j=to ↔ D (F j)=D (nx (F i) s)):=fun j hj=>by
                          rw [← hce _ _ (hFo.lt j hj) hst,hFc j hj,hto]
                        repeat' first|((first|refine Br.dec ?_ ?_|refine Br.eqi ?_ ?_)<;>intro h<;>try (exfalso;omega))|(simp (disch:=first|omega|(simp only [vlen];first|done|omega)) only [hn,hvs,hto,vrl,↓vAq,vBq,↓reduceIte,Nat.reduceBEq,Nat.reduceEqDiff,Nat.reduceLT,Nat.reduceLeDiff,Nat.reduceAdd,Nat.reduceMul,Nat.reduceSub,reduceCtorEq,Int.reduceToNat])|(refine Br.mk ?_ ?_<;>intro h)|(refine BrN.mk (fun h => ?_) ?_)|(refine AltVC.mk ?_ ?_)
                        refine LoopVC.mk (X:=Nat × Option Nat) (fun x=>[(4,.ptr 0 5 0 0),(28,.ref 6 1 0 m),(29,.ptr 7 5 0 0),(31,.ref 8 1 0 s),(34,iv .i64 (atI x.2)),(264,.ref 6 1 0 m),(266,iv .i64 x.1)]) (fun x=>[(0,⟨5,[mzD],true,false,.fix⟩),(6,⟨1,i64s (rwN m F),true,false,.arr⟩),(7,⟨5,[[iv .i64 0,iv .i64 k,.own false 1 (rows i64s (nxR k i (bfN L k))),iv .i64 0,iv .u32 0]],true,true,.fix⟩),(8,⟨1,i64s (rwN s (bfN L k i)),true,false,.arr⟩)]) (fun x=>m - x.1) (fun x=>x.1≤m∧(x.2=none→∀ a,a<x.1→F a ≠ to)∧∀ a,x.2=some a→a<m∧F a=to) (0,none) ⟨Nat.zero_le _,fun _ a h=>absurd h (Nat.not_lt_zero _),fun a h=>(by cases h)⟩ ?_ ?_
                        · (simp (disch:=first|omega|(simp only [vlen];first|done|omega)) only [Fits_u,Fits_m,Fits_nil,List.length_append,hn,hvs,hto,vrl,↓vAq,vBq,↓reduceIte,Nat.reduceBEq,Nat.reduceEqDiff,Nat.reduceLT,Nat.reduceLeDiff,Nat.reduceAdd,Nat.reduceMul,Nat.reduceSub,reduceCtorEq,Int.reduceToNat]<;>(repeat' first|rfl|apply And.intro))
                          all_goals trace_state
                        · rintro ⟨j,o⟩ ⟨hj,ho1,ho2⟩
                          simp only at hj ho1 ho2 ⊢
                          by_cases hjm:j<m
                          · by_cases hFj:F j=to
                            · repeat' first|((first|refine Br.dec ?_ ?_|refine Br.eqi ?_ ?_)<;>intro h<;>try (exfalso;omega))|(simp (disch:=first|omega|(simp only [vlen];first|done|omega)) only [hn,hvs,hFj,vrl,↓vAq,vBq,↓reduceIte,Nat.reduceBEq,Nat.reduceEqDiff,Nat.reduceLT,Nat.reduceLeDiff,Nat.reduceAdd,Nat.reduceMul,Nat.reduceSub,reduceCtorEq,Int.reduceToNat])|(refine Br.mk ?_ ?_<;>intro h)|(refine BrN.mk (fun h => ?_) ?_)|(refine AltVC.mk ?_ ?_)
                              refine loopK.mk (j+1,some j) (by simp (disch:=first|omega|(simp only [vlen];first|done|omega)) only [hvs,vrl,↓vAq,vBq,↓reduceIte,Nat.reduceBEq,Nat.reduceEqDiff,Nat.reduceLT,Nat.reduceLeDiff,Nat.reduceAdd,Nat.reduceMul,Nat.reduceSub,reduceCtorEq,Int.reduceToNat]) ⟨by show j+1≤m;omega,fun h=>(by cases h),fun a h=>by cases h;exact ⟨hjm,hFj⟩⟩ (by show m - (j+1)<m - j;omega) ?_
                              (simp (disch:=first|omega|(simp only [vlen];first|done|omega)) only [Fits_u,Fits_m,Fits_nil,List.length_append,hn,hvs,vrl,↓vAq,vBq,↓reduceIte,Nat.reduceBEq,Nat.reduceEqDiff,Nat.reduceLT,Nat.reduceLeDiff,Nat.reduceAdd,Nat.reduceMul,Nat.reduceSub,reduceCtorEq,Int.reduceToNat]<;>(repeat' first|rfl|apply And.intro))
                              all_goals trace_state
                            · have hne:¬ ((F j:Int)=(to:Int)):=by omega
                              repeat' first|((first|refine Br.dec ?_ ?_|refine Br.eqi ?_ ?_)<;>intro h<;>try (exfalso;omega))|(simp (disch:=first|omega|(simp only [vlen];first|done|omega)) only [hn,hvs,vrl,↓vAq,vBq,↓reduceIte,Nat.reduceBEq,Nat.reduceEqDiff,Nat.reduceLT,Nat.reduceLeDiff,Nat.reduceAdd,Nat.reduceMul,Nat.reduceSub,reduceCtorEq,Int.reduceToNat])|(refine Br.mk ?_ ?_<;>intro h)|(refine BrN.mk (fun h => ?_) ?_)|(refine AltVC.mk ?_ ?_)
                              refine loopK.mk (j+1,o) (by simp (disch:=first|omega|(simp only [vlen];first|done|omega)) only [hvs,vrl,↓vAq,vBq,↓reduceIte,Nat.reduceBEq,Nat.reduceEqDiff,Nat.reduceLT,Nat.reduceLeDiff,Nat.reduceAdd,Nat.reduceMul,Nat.reduceSub,reduceCtorEq,Int.reduceToNat]) ⟨by show j+1≤m;omega,fun h a ha => ?_,ho2⟩ (by show m - (j+1)<m - j;omega) ?_
                              · by_cases e:a=j
                                · rw [e];exact hFj
                                · exact ho1 h a (by have ha:a<j+1:=ha;omega)
                              (simp (disch:=first|omega|(simp only [vlen];first|done|omega)) only [Fits_u,Fits_m,Fits_nil,List.length_append,hn,hvs,vrl,↓vAq,vBq,↓reduceIte,Nat.reduceBEq,Nat.reduceEqDiff,Nat.reduceLT,Nat.reduceLeDiff,Nat.reduceAdd,Nat.reduceMul,Nat.reduceSub,reduceCtorEq,Int.reduceToNat]<;>(repeat' first|rfl|apply And.intro))
                              all_goals trace_state
                          · have hje:j=m:=by omega
                            cases o with
                            | none =>
                              have hno:=ho1 rfl
                              rw [hje] at hno
                              obtain ⟨f1,f2⟩:=hFo.new2 hD him hsk hton (by rw [← hto];exact hcd _ hst) fun q hq e=>hno q hq ((hFt q hq).2 e)
                              repeat' first|((first|refine Br.dec ?_ ?_|refine Br.eqi ?_ ?_)<;>intro h<;>try (exfalso;omega))|(simp (disch:=first|omega|(simp only [vlen];first|done|omega)) only [hn,hvs,vrl,↓vAq,vBq,↓reduceIte,Nat.reduceBEq,Nat.reduceEqDiff,Nat.reduceLT,Nat.reduceLeDiff,Nat.reduceAdd,Nat.reduceMul,Nat.reduceSub,reduceCtorEq,Int.reduceToNat])|(refine Br.mk ?_ ?_<;>intro h)|(refine BrN.mk (fun h => ?_) ?_)|(refine AltVC.mk ?_ ?_)
                              refine loopK.mk (s+1,m+1,fun j=>if j=m then to else F j) (by simp (disch:=first|omega|(simp only [vlen];first|done|omega)) only [hvs,vrl,↓vAq,vBq,↓reduceIte,Nat.reduceBEq,Nat.reduceEqDiff,Nat.reduceLT,Nat.reduceLeDiff,Nat.reduceAdd,Nat.reduceMul,Nat.reduceSub,reduceCtorEq,Int.reduceToNat]) ⟨by show s+1≤k;omega,by show i<m+1;omega,by show m+1≤7+(s+1);omega,f1,fun q hq => ?_⟩ (by show k - (s+1)<k - s;omega) ?_
                              · show c (if q=m then to else F q)=if q=m then to else F q
                                by_cases e:q=m
                                · rw [if_pos e,← hto];exact hcc _ hst
                                · rw [if_neg e];exact hFc q (by have hq:q<m+1:=hq;omega)
                              (simp (disch:=first|omega|(simp only [vlen];first|done|omega)) only [Fits_u,Fits_m,Fits_nil,List.length_append,hn,hvs,vrl,↓vAq,vBq,↓reduceIte,Nat.reduceBEq,Nat.reduceEqDiff,Nat.reduceLT,Nat.reduceLeDiff,Nat.reduceAdd,Nat.reduceMul,Nat.reduceSub,reduceCtorEq,Int.reduceToNat]<;>(repeat' first|rfl|apply And.intro))
                              all_goals first|exact obRw (rw_last f2)|trace_state
                            | some r =>
                              obtain ⟨r1,r2⟩:=ho2 r rfl
                              obtain ⟨f1,f2⟩:=hFo.old hD him hsk r1 ((hFt r r1).1 r2)
                              repeat' first|((first|refine Br.dec ?_ ?_|refine Br.eqi ?_ ?_)<;>intro h<;>try (exfalso;omega))|(simp (disch:=first|omega|(simp only [vlen];first|done|omega)) only [hn,hvs,vrl,↓vAq,vBq,↓reduceIte,Nat.reduceBEq,Nat.reduceEqDiff,Nat.reduceLT,Nat.reduceLeDiff,Nat.reduceAdd,Nat.reduceMul,Nat.reduceSub,reduceCtorEq,Int.reduceToNat])|(refine Br.mk ?_ ?_<;>intro h)|(refine BrN.mk (fun h => ?_) ?_)|(refine AltVC.mk ?_ ?_)
                              refine loopK.mk (s+1,m,F) (by simp (disch:=first|omega|(simp only [vlen];first|done|omega)) only [hvs,vrl,↓vAq,vBq,↓reduceIte,Nat.reduceBEq,Nat.reduceEqDiff,Nat.reduceLT,Nat.reduceLeDiff,Nat.reduceAdd,Nat.reduceMul,Nat.reduceSub,reduceCtorEq,Int.reduceToNat]) ⟨by show s+1≤k;omega,him,by show m≤7+(s+1);omega,f1,hFc⟩ (by show k - (s+1)<k - s;omega) ?_
                              (simp (disch:=first|omega|(simp only [vlen];first|done|omega)) only [Fits_u,Fits_m,Fits_nil,List.length_append,hn,hvs,vrl,↓vAq,vBq,↓reduceIte,Nat.reduceBEq,Nat.reduceEqDiff,Nat.reduceLT,Nat.reduceLeDiff,Nat.reduceAdd,Nat.reduceMul,Nat.reduceSub,reduceCtorEq,Int.reduceToNat]<;>(repeat' first|rfl|apply And.intro))
                              all_goals first|exact obRw (rw_last f2)|trace_state
                      · have hse:s=k:=by omega
                        subst hse
                        have hFx2:∀ a,a<i+1→a<(bfL L s (a * s)).length:=fun a ha=>by
                          by_cases e:a=i
                          · rw [e,hFd0.len];exact him0
                          · exact hFx a (by omega)
                        have hFo2:FoI D n L s m F ((i+1) * s):=by rw [Nat.succ_mul];exact hFo
                        repeat' first|((first|refine Br.dec ?_ ?_|refine Br.eqi ?_ ?_)<;>intro h<;>try (exfalso;omega))|(simp (disch:=first|omega|(simp only [vlen];first|done|omega)) only [hn,hvs,vrl,↓vAq,vBq,↓reduceIte,Nat.reduceBEq,Nat.reduceEqDiff,Nat.reduceLT,Nat.reduceLeDiff,Nat.reduceAdd,Nat.reduceMul,Nat.reduceSub,reduceCtorEq,Int.reduceToNat])|(refine Br.mk ?_ ?_<;>intro h)|(refine BrN.mk (fun h => ?_) ?_)|(refine AltVC.mk ?_ ?_)
                        refine loopK.frz 8 ?_
                        repeat' first|((first|refine Br.dec ?_ ?_|refine Br.eqi ?_ ?_)<;>intro h<;>try (exfalso;omega))|(simp (disch:=first|omega|(simp only [vlen];first|done|omega)) only [hn,hvs,vrl,↓vAq,vBq,↓reduceIte,Nat.reduceBEq,Nat.reduceEqDiff,Nat.reduceLT,Nat.reduceLeDiff,Nat.reduceAdd,Nat.reduceMul,Nat.reduceSub,reduceCtorEq,Int.reduceToNat])|(refine Br.mk ?_ ?_<;>intro h)|(refine BrN.mk (fun h => ?_) ?_)|(refine AltVC.mk ?_ ?_)
                        refine loopK.flt 9 ?_
                        repeat' first|((first|refine Br.dec ?_ ?_|refine Br.eqi ?_ ?_)<;>intro h<;>try (exfalso;omega))|(simp (disch:=first|omega|(simp only [vlen];first|done|omega)) only [hn,hvs,vrl,↓vAq,vBq,↓reduceIte,Nat.reduceBEq,Nat.reduceEqDiff,Nat.reduceLT,Nat.reduceLeDiff,Nat.reduceAdd,Nat.reduceMul,Nat.reduceSub,reduceCtorEq,Int.reduceToNat])|(refine Br.mk ?_ ?_<;>intro h)|(refine BrN.mk (fun h => ?_) ?_)|(refine AltVC.mk ?_ ?_)
                        refine loopK.fold 9 7 0 2 true ?_
                        repeat' first|((first|refine Br.dec ?_ ?_|refine Br.eqi ?_ ?_)<;>intro h<;>try (exfalso;omega))|(simp (disch:=first|omega|(simp only [vlen];first|done|omega)) only [hn,hvs,vrl,↓vAq,vBq,↓reduceIte,Nat.reduceBEq,Nat.reduceEqDiff,Nat.reduceLT,Nat.reduceLeDiff,Nat.reduceAdd,Nat.reduceMul,Nat.reduceSub,reduceCtorEq,Int.reduceToNat])|(refine Br.mk ?_ ?_<;>intro h)|(refine BrN.mk (fun h => ?_) ?_)|(refine AltVC.mk ?_ ?_)
                        refine loopK.mk (i+1,m,F) (by simp (disch:=first|omega|(simp only [vlen];first|done|omega)) only [hvs,vrl,↓vAq,vBq,↓reduceIte,Nat.reduceBEq,Nat.reduceEqDiff,Nat.reduceLT,Nat.reduceLeDiff,Nat.reduceAdd,Nat.reduceMul,Nat.reduceSub,reduceCtorEq,Int.reduceToNat]) ⟨by show i+1≤m;omega,by show m≤10;omega,hFo2,hFc,hFx2⟩ (by show 12 - (i+1)<12 - i;omega) ?_
                        (simp (disch:=first|omega|(simp only [vlen];first|done|omega)) only [Fits_u,Fits_m,Fits_nil,List.length_append,hn,hvs,vrl,↓vAq,vBq,↓reduceIte,Nat.reduceBEq,Nat.reduceEqDiff,Nat.reduceLT,Nat.reduceLeDiff,Nat.reduceAdd,Nat.reduceMul,Nat.reduceSub,reduceCtorEq,Int.reduceToNat]<;>(repeat' first|rfl|apply And.intro))
                        all_goals trace_state
                · have hie:i=m:=by omega
                  subst hie
                  by_cases hm7:7<i
                  · repeat' first|((first|refine Br.dec ?_ ?_|refine Br.eqi ?_ ?_)<;>intro h<;>try (exfalso;omega))|(simp (disch:=first|omega|(simp only [vlen];first|done|omega)) only [hn,hvs,vrl,↓vAq,vBq,↓reduceIte,Nat.reduceBEq,Nat.reduceEqDiff,Nat.reduceLT,Nat.reduceLeDiff,Nat.reduceAdd,Nat.reduceMul,Nat.reduceSub,reduceCtorEq,Int.reduceToNat])|(refine Br.mk ?_ ?_<;>intro h)|(refine BrN.mk (fun h => ?_) ?_)|(refine AltVC.mk ?_ ?_)
                    exact fin_mk (.inl ⟨⟨i * k,by omega⟩,rfl⟩)
                  · have hfxx:Fx L k i:=⟨hml,hFx⟩
                    have hnb:¬ Big L k:=fun hB=>by
                      have h1:=(DF.big hD hk.1 hce).1 hB
                      have h2:=DF.fx hD hk.1 hce hfxx
                      omega
                    repeat' first|((first|refine Br.dec ?_ ?_|refine Br.eqi ?_ ?_)<;>intro h<;>try (exfalso;omega))|(simp (disch:=first|omega|(simp only [vlen];first|done|omega)) only [hn,hvs,vrl,↓vAq,vBq,↓reduceIte,Nat.reduceBEq,Nat.reduceEqDiff,Nat.reduceLT,Nat.reduceLeDiff,Nat.reduceAdd,Nat.reduceMul,Nat.reduceSub,reduceCtorEq,Int.reduceToNat])|(refine Br.mk ?_ ?_<;>intro h)|(refine BrN.mk (fun h => ?_) ?_)|(refine AltVC.mk ?_ ?_)
                    refine LoopVC.mk (X:=Nat) (fun x=>[(4,.ptr 0 5 0 0),(29,.ptr 7 5 0 0),(301,.ref 6 1 0 i),(303,iv .i64 x)]) (fun x=>[(0,⟨5,[mzD],true,false,.fix⟩),(6,⟨1,i64s (rwN i F),true,false,.arr⟩),(7,⟨5,[[iv .i64 i,iv .i64 k,.own false 1 (rows i64s (nxR k i (bfN L k))),iv .i64 0,iv .u32 (setOf (bfF L k) x:Nat)]],true,true,.fix⟩)]) (fun x=>i - x) (fun x=>x≤i) 0 (Nat.zero_le _) ?_ ?_
                    · (simp (disch:=first|omega|(simp only [vlen];first|done|omega)) only [Fits_u,Fits_m,Fits_nil,List.length_append,hn,hvs,vrl,↓vAq,vBq,↓reduceIte,Nat.reduceBEq,Nat.reduceEqDiff,Nat.reduceLT,Nat.reduceLeDiff,Nat.reduceAdd,Nat.reduceMul,Nat.reduceSub,reduceCtorEq,Int.reduceToNat]<;>(repeat' first|rfl|apply And.intro))
                      all_goals first|rfl|trace_state
                    · intro x hx
                      by_cases hxi:x<i
                      · have hFxn:=hFo.lt x hxi
                        have hg:=hgs (F x) hFxn
                        have hfb:stW A 0 (ws.getD (F x) []) 1=bfF L k x:=by
                          rw [hfx,Bool.eq_iff_iff,bfF_iff,hD.fin _ hFxn,← hFo.get hxi,bfL_keep (Nat.mul_le_mul_right k (Nat.le_of_lt hxi)) (hFx x hxi)]
                        cases hb:bfF L k x with
                        | true =>
                          rw [hb] at hfb
                          have hsa:=setOf_add (f:=bfF L k) (n:=x) hb
                          have had:=addSt (g:=bfF L k) (p:=x) (by omega)
                          repeat' first|((first|refine Br.dec ?_ ?_|refine Br.eqi ?_ ?_)<;>intro h<;>try (exfalso;omega))|(simp (disch:=first|omega|(simp only [vlen];first|done|omega)) only [hn,hvs,hg,hfb,vrl,↓vAq,vBq,↓reduceIte,Nat.reduceBEq,Nat.reduceEqDiff,Nat.reduceLT,Nat.reduceLeDiff,Nat.reduceAdd,Nat.reduceMul,Nat.reduceSub,reduceCtorEq,Int.reduceToNat])|(refine Br.mk ?_ ?_<;>intro h)|(refine BrN.mk (fun h => ?_) ?_)|(refine AltVC.mk ?_ ?_)
                          rw [had,← hsa]
                          refine loopK.mk (x+1) (by simp (disch:=first|omega|(simp only [vlen];first|done|omega)) only [hvs,vrl,↓vAq,vBq,↓reduceIte,Nat.reduceBEq,Nat.reduceEqDiff,Nat.reduceLT,Nat.reduceLeDiff,Nat.reduceAdd,Nat.reduceMul,Nat.reduceSub,reduceCtorEq,Int.reduceToNat]) (by omega) (by omega) ?_
                          (simp (disch:=first|omega|(simp only [vlen];first|done|omega)) only [Fits_u,Fits_m,Fits_nil,List.length_append,hn,hvs,vrl,↓vAq,vBq,↓reduceIte,Nat.reduceBEq,Nat.reduceEqDiff,Nat.reduceLT,Nat.reduceLeDiff,Nat.reduceAdd,Nat.reduceMul,Nat.reduceSub,reduceCtorEq,Int.reduceToNat]<;>(repeat' first|rfl|apply And.intro))
                          all_goals trace_state
                        | false =>
                          rw [hb] at hfb
                          have hsk:=setOf_skip (f:=bfF L k) (n:=x) (by rw [hb];simp)
                          repeat' first|((first|refine Br.dec ?_ ?_|refine Br.eqi ?_ ?_)<;>intro h<;>try (exfalso;omega))|(simp (disch:=first|omega|(simp only [vlen];first|done|omega)) only [hn,hvs,hg,hfb,vrl,↓vAq,vBq,↓reduceIte,Nat.reduceBEq,Nat.reduceEqDiff,Nat.reduceLT,Nat.reduceLeDiff,Nat.reduceAdd,Nat.reduceMul,Nat.reduceSub,reduceCtorEq,Int.reduceToNat])|(refine Br.mk ?_ ?_<;>intro h)|(refine BrN.mk (fun h => ?_) ?_)|(refine AltVC.mk ?_ ?_)
                          refine loopK.mk (x+1) (by simp (disch:=first|omega|(simp only [vlen];first|done|omega)) only [hvs,vrl,↓vAq,vBq,↓reduceIte,Nat.reduceBEq,Nat.reduceEqDiff,Nat.reduceLT,Nat.reduceLeDiff,Nat.reduceAdd,Nat.reduceMul,Nat.reduceSub,reduceCtorEq,Int.reduceToNat]) (by omega) (by omega) ?_
                          rw [hsk]
                          (simp (disch:=first|omega|(simp only [vlen];first|done|omega)) only [Fits_u,Fits_m,Fits_nil,List.length_append,hn,hvs,vrl,↓vAq,vBq,↓reduceIte,Nat.reduceBEq,Nat.reduceEqDiff,Nat.reduceLT,Nat.reduceLeDiff,Nat.reduceAdd,Nat.reduceMul,Nat.reduceSub,reduceCtorEq,Int.reduceToNat]<;>(repeat' first|rfl|apply And.intro))
                          all_goals trace_state
                      · have hxe:x=i:=by omega
                        subst hxe
                        repeat' first|((first|refine Br.dec ?_ ?_|refine Br.eqi ?_ ?_)<;>intro h<;>try (exfalso;omega))|(simp (disch:=first|omega|(simp only [vlen];first|done|omega)) only [hn,hvs,vrl,↓vAq,vBq,↓reduceIte,Nat.reduceBEq,Nat.reduceEqDiff,Nat.reduceLT,Nat.reduceLeDiff,Nat.reduceAdd,Nat.reduceMul,Nat.reduceSub,reduceCtorEq,Int.reduceToNat])|(refine Br.mk ?_ ?_<;>intro h)|(refine BrN.mk (fun h => ?_) ?_)|(refine AltVC.mk ?_ ?_)
                        refine GhoV.frz 7 ?_
                        repeat' first|((first|refine Br.dec ?_ ?_|refine Br.eqi ?_ ?_)<;>intro h<;>try (exfalso;omega))|(simp (disch:=first|omega|(simp only [vlen];first|done|omega)) only [hn,hvs,vrl,↓vAq,vBq,↓reduceIte,Nat.reduceBEq,Nat.reduceEqDiff,Nat.reduceLT,Nat.reduceLeDiff,Nat.reduceAdd,Nat.reduceMul,Nat.reduceSub,reduceCtorEq,Int.reduceToNat])|(refine Br.mk ?_ ?_<;>intro h)|(refine BrN.mk (fun h => ?_) ?_)|(refine AltVC.mk ?_ ?_)
                        refine GhoV.go ?_
                        repeat' first|((first|refine Br.dec ?_ ?_|refine Br.eqi ?_ ?_)<;>intro h<;>try (exfalso;omega))|(simp (disch:=first|omega|(simp only [vlen];first|done|omega)) only [hn,hvs,vrl,↓vAq,vBq,↓reduceIte,Nat.reduceBEq,Nat.reduceEqDiff,Nat.reduceLT,Nat.reduceLeDiff,Nat.reduceAdd,Nat.reduceMul,Nat.reduceSub,reduceCtorEq,Int.reduceToNat])|(refine Br.mk ?_ ?_<;>intro h)|(refine BrN.mk (fun h => ?_) ?_)|(refine AltVC.mk ?_ ?_)
                        exact fin_mk (.inr ⟨hnb,x,hfxx,by omega,rfl⟩)
end Go.Proofs.Ytpgomgjpliallaa
