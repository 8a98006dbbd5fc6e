/-
 Texts of this claim, one behind another.
-/
import Derived.Test.YtjekkbpdgnohcaaMg19
import Derived.Test.YtjekkbpdgnohcaaMg13
import Derived.Test.YtjekkbpdgnohcaaMg11
set_option linter.unusedSimpArgs false
set_option linter.unnecessarySimpa false
set_option linter.unusedVariables false
set_option linter.defProp false
namespace Go.Proofs.Ytjekkbpdgnohcaa
open Go.Dm
theorem g0_graD {k n:Int}:graD (g0 k n)=[iv .i64 k,iv .i64 n,iv .i64 0,.sl 2 []]:=(rfl)
theorem kBldS_iiin {cells:List D} {off:Nat} {k k' k'':IntKind} {a b c:Int} {go:List D→Prop}:kBldS off 4 cells go [.v (.int k a),.v (.int k' b),.v (.int k'' c),.nl]=ChkD (off+4≤cells.length) (splice cells off [.v (.int k a),.v (.int k' b),.v (.int k'' c),.nl]) go:=by
  rw [kBldS_n];unfold ChkD;simp [D.one,Value.one]
theorem okD_ok {l:List Deed} (h:okL okD l):∀ d,d ∈ l→d.ok:=fun d hd=>(h.2 d hd).1
theorem Le_slN {sz:Nat} {es es':List (List D)} (hl:es.length=es'.length) (h1:∀ i,i<es.length→(es'.getD i []).length=(es.getD i []).length) (h:∀ i j,i<es.length→j<(es.getD i []).length→((es.getD i []).getD j .junk).Le ((es'.getD i []).getD j .junk)):(D.sl sz es).Le (.sl sz es'):=fun w A x hx=>by
  cases hx with
  | sl0 sz b c =>
    have:es'=[]:=List.eq_nil_of_length_eq_zero (by simpa using hl.symm)
    subst this
    exact .sl0 sz _ _
  | sl sz es b off n c us hA hn hcap hsz hc hr =>
    exact .sl sz es' b off n c us hA (by omega) hcap (fun i hi=>by rw [h1 i (by omega)];exact hsz i (by omega)) (fun i j hi hj=>hc i j (by omega) hj) (fun i j hi hj=>h i j (by omega) (by rw [hsz i (by omega)];exact hj) _ _ _ (hr i j (by omega) hj))
theorem tl_le {l:List Tl} (h:∀ t,t ∈ l→t.z=true→t.st=[]):(D.sl 3 (tbl tlD l)).Le (.sl 3 (tbl tlS l)):=by
  have row:∀ (f:Tl→List D) {i:Nat},i<l.length→(tbl f l).getD i []=f (l.getD i default):=fun f {i} hi=>by simp [tbl,List.getD_eq_getElem?_getD,hi]
  refine Le_slN (by simp [tbl]) (fun i hi => ?_) (fun i j hi hj => ?_)
  · have hi':i<l.length:=by simpa [tbl] using hi
    rw [row _ hi',row _ hi'];rfl
  · have hi':i<l.length:=by simpa [tbl] using hi
    have hm:=h _ (getD_mem' hi')
    rw [row _ hi'] at hj
    rw [row _ hi',row _ hi']
    generalize l.getD i default=t at *
    match j,hj with
    | 0,_=>exact Le_refl _
    | 1,_=>exact Le_refl _
    | 2,_ =>
      show (stnD t).Le (.sl 1 (i64s t.st))
      unfold stnD
      split
      · next hz=>rw [hm hz];exact Le_nl 1
      · exact Le_refl _
theorem TRs.z {g:Grammar} {ds:List Deed} {l:List Tl} (h:TRs g ds l):∀ t,t ∈ l→t.z=true→t.st=[]:=fun t ht=>by
  obtain ⟨i,hi,rfl⟩:=List.mem_iff_getElem.1 ht
  have:=(h.2 i hi).2
  simpa [List.getD_eq_getElem?_getD,hi] using this
set_option maxRecDepth 10000 in
set_option maxHeartbeats 4000000 in
theorem play_spec (k n : Int) (hk : ok64 k) (hn : ok64 n) (ds : List Deed) (hs : okL okD ds) : Dm.Spec Try.prog 9 [iv .i64 k, iv .i64 n, .sl 6 (tbl deeD ds)] (fun d => plyR k n ds d) := by
  refine spec_of_vc mixed Try.func9 c9 (by rw [show Try.f9.ntmps=_ from Try.ntmps9];simp) ?_
  unfold m9 r9
  have hok0:(g0 k n).ok:=⟨hk,hn,show ok64 0 from ⟨by decide,by decide⟩,Nat.zero_le _,fun x hx=>by cases hx⟩
  have hck:=gCheck_spec (g0 k n) hok0
  have hdl:=maxLen_le hs.1
  rw [g0_graD] at hck
  have hle:Les [D.ag [iv .i64 k,iv .i64 n,iv .i64 0,.nl]] [D.ag [iv .i64 k,iv .i64 n,iv .i64 0,.sl 2 []]]:=.cons (Le_ag rfl fun i hi=>by
    match i,hi with
    | 0,_=>exact Le_refl _
    | 1,_=>exact Le_refl _
    | 2,_=>exact Le_refl _
    | 3,_=>exact Le_nl 2) .nil
  repeat' first|((first|refine Br.dec ?_ ?_|refine Br.eqi ?_ ?_)<;>intro h<;>try (exfalso;omega))|(simp (disch:=first|omega|(simp only [vlen];first|done|omega)) only [kBldS_iiin,vpl,↓vAq,vBq,↓reduceIte,Nat.reduceBEq,Nat.reduceEqDiff,Nat.reduceLT,Nat.reduceLeDiff,Nat.reduceAdd,Nat.reduceMul,Nat.reduceSub,reduceCtorEq,Int.reduceToNat])|(refine Br.mk ?_ ?_<;>intro h)|(refine BrN.mk (fun h => ?_) ?_)|(refine AltVC.mk ?_ ?_)
  refine CallVC.lendE [1] [.ptr 0 5 0 0,.nl] [⟨5,[[iv .i64 k,iv .i64 n,iv .i64 0,.nl,.v (.map none)]],true,false,.fix⟩] (set0_spec k n) (by simp) (by rfl) Y13 ?_
  rintro _ _ ⟨rfl,rfl⟩
  repeat' first|((first|refine Br.dec ?_ ?_|refine Br.eqi ?_ ?_)<;>intro h<;>try (exfalso;omega))|refine Z3 ?_|with_reducible exact trivial|(refine Br.mk ?_ ?_<;>intro h)|(refine BrN.mk (fun h => ?_) ?_)|(refine AltVC.mk ?_ ?_)
  refine GhoV.go ?_
  repeat' first|((first|refine Br.dec ?_ ?_|refine Br.eqi ?_ ?_)<;>intro h<;>try (exfalso;omega))|refine Z3 ?_|with_reducible exact trivial|(refine Br.mk ?_ ?_<;>intro h)|(refine BrN.mk (fun h => ?_) ?_)|(refine AltVC.mk ?_ ?_)
  refine CallVC.les hle hck ?_
  by_cases h0:gcode (g0 k n)=0
  · rw [h0]
    have hv:=VG0 h0
    by_cases h40:40<ds.length
    · repeat' first|((first|refine Br.dec ?_ ?_|refine Br.eqi ?_ ?_)<;>intro h<;>try (exfalso;omega))|refine Z3 ?_|with_reducible exact trivial|(refine Br.mk ?_ ?_<;>intro h)|(refine BrN.mk (fun h => ?_) ?_)|(refine AltVC.mk ?_ ?_)
      exact fin_mk (.inr (.inl ⟨h0,h40,rfl⟩))
    · repeat' first|((first|refine Br.dec ?_ ?_|refine Br.eqi ?_ ?_)<;>intro h<;>try (exfalso;omega))|refine Z3 ?_|with_reducible exact trivial|(refine Br.mk ?_ ?_<;>intro h)|(refine BrN.mk (fun h => ?_) ?_)|(refine AltVC.mk ?_ ?_)
      refine LoopVC.wk 1 0 3 (.sl 2 []) ?_
      repeat' first|((first|refine Br.dec ?_ ?_|refine Br.eqi ?_ ?_)<;>intro h<;>try (exfalso;omega))|refine Z3 ?_|with_reducible exact trivial|(refine Br.mk ?_ ?_<;>intro h)|(refine BrN.mk (fun h => ?_) ?_)|(refine AltVC.mk ?_ ?_)
      refine ⟨Le_nl 2,?_⟩
      repeat' first|((first|refine Br.dec ?_ ?_|refine Br.eqi ?_ ?_)<;>intro h<;>try (exfalso;omega))|refine Z3 ?_|with_reducible exact trivial|(refine Br.mk ?_ ?_<;>intro h)|(refine BrN.mk (fun h => ?_) ?_)|(refine AltVC.mk ?_ ?_)
      refine LoopVC.mk (X:=Nat × List Tl × List AK) (fun x=>[(10,.ref 2 3 0 x.1),(33,iv .i64 x.1)]) (fun x=>[(1,stB (nxs (g0 k n) (ds.take x.1)) x.2.2),(2,⟨3,tbl tlD x.2.1,true,false,.arr⟩)]) (fun x=>ds.length - x.1)
        (fun x=>x.1≤ds.length∧TRs (g0 k n) (ds.take x.1) x.2.1∧MA (nxs (g0 k n) (ds.take x.1)) x.2.2) (0,[],[]) ⟨Nat.zero_le _,⟨rfl,fun i hi=>by simp at hi⟩,MA.nil⟩ ?_ ?_
      · unfold stB
        rw [List.take_zero,nxs_nil]
        (simp (disch:=first|omega|(simp only [vlen];first|done|omega)) only [Fits_u,Fits_m,Fits_nil,List.length_append,vpl,↓vAq,vBq,↓reduceIte,Nat.reduceBEq,Nat.reduceEqDiff,Nat.reduceLT,Nat.reduceLeDiff,Nat.reduceAdd,Nat.reduceMul,Nat.reduceSub,reduceCtorEq,Int.reduceToNat]<;>(repeat' first|rfl|apply And.intro))
      · rintro ⟨i,l,L⟩ ⟨hi,hT,hL⟩
        simp only at hi hT hL ⊢
        have hll:l.length=i:=by rw [hT.1,List.length_take];omega
        unfold stB
        by_cases hlt:i<ds.length
        · have hvi:=hv.nxs (ds.take i)
          have hoi:=ok_nxs hv hok0 (l:=ds.take i) fun d hd=>okD_ok hs d (List.mem_of_mem_take hd)
          have hdo:=do_spec _ hvi hoi (ds.getD i default) (hs.2 _ (getD_mem' hlt)) L hL
          have hnx:=nxs_take (g:=g0 k n) hlt
          repeat' first|((first|refine Br.dec ?_ ?_|refine Br.eqi ?_ ?_)<;>intro h<;>try (exfalso;omega))|refine Z3 ?_|with_reducible exact trivial|(refine Br.mk ?_ ?_<;>intro h)|(refine BrN.mk (fun h => ?_) ?_)|(refine AltVC.mk ?_ ?_)
          refine CallVC.lendE [1] [.ptr 0 5 0 0,.ag (deeD (ds.getD i default))] [stB (nxs (g0 k n) (ds.take i)) L] hdo (by simp) (by rfl) Y17 ?_
          rintro _ _ ⟨⟨c,m,st,z⟩,rfl,hR,L',rfl,hL'⟩
          unfold stB
          cases z with
          | true =>
            have hst:st=[]:=hR.2 rfl
            subst hst
            repeat' first|((first|refine Br.dec ?_ ?_|refine Br.eqi ?_ ?_)<;>intro h<;>try (exfalso;omega))|refine Z3 ?_|with_reducible exact trivial|(refine Br.mk ?_ ?_<;>intro h)|(refine BrN.mk (fun h => ?_) ?_)|(refine AltVC.mk ?_ ?_)
            refine loopK.mk (i+1,l++[⟨c,m,[],true⟩],L') Y1 ⟨by show i+1≤ds.length;omega,hT.snoc hlt hR,by rw [hnx];exact hL'⟩ (by show ds.length - (i+1)<ds.length - i;omega) ?_
            rw [hnx]
            (simp (disch:=first|omega|(simp only [vlen];first|done|omega)) only [Fits_u,Fits_m,Fits_nil,List.length_append,vpl,↓vAq,vBq,↓reduceIte,Nat.reduceBEq,Nat.reduceEqDiff,Nat.reduceLT,Nat.reduceLeDiff,Nat.reduceAdd,Nat.reduceMul,Nat.reduceSub,reduceCtorEq,Int.reduceToNat]<;>(repeat' first|rfl|apply And.intro))
          | false =>
            repeat' first|((first|refine Br.dec ?_ ?_|refine Br.eqi ?_ ?_)<;>intro h<;>try (exfalso;omega))|refine Z3 ?_|with_reducible exact trivial|(refine Br.mk ?_ ?_<;>intro h)|(refine BrN.mk (fun h => ?_) ?_)|(refine AltVC.mk ?_ ?_)
            refine loopK.mk (i+1,l++[⟨c,m,st,false⟩],L') Y1 ⟨by show i+1≤ds.length;omega,hT.snoc hlt hR,by rw [hnx];exact hL'⟩ (by show ds.length - (i+1)<ds.length - i;omega) ?_
            rw [hnx]
            (simp (disch:=first|omega|(simp only [vlen];first|done|omega)) only [Fits_u,Fits_m,Fits_nil,List.length_append,vpl,↓vAq,vBq,↓reduceIte,Nat.reduceBEq,Nat.reduceEqDiff,Nat.reduceLT,Nat.reduceLeDiff,Nat.reduceAdd,Nat.reduceMul,Nat.reduceSub,reduceCtorEq,Int.reduceToNat]<;>(repeat' first|rfl|apply And.intro))
        · have hie:i=ds.length:=by omega
          subst hie
          rw [List.take_length] at hT
          repeat' first|((first|refine Br.dec ?_ ?_|refine Br.eqi ?_ ?_)<;>intro h<;>try (exfalso;omega))|refine Z3 ?_|with_reducible exact trivial|(refine Br.mk ?_ ?_<;>intro h)|(refine BrN.mk (fun h => ?_) ?_)|(refine AltVC.mk ?_ ?_)
          exact fin_le (Le_tu2 (tl_le hT.z) (Le_refl _)) (.inr (.inr ⟨h0,by omega,l,rfl,hT⟩))
  · repeat' first|((first|refine Br.dec ?_ ?_|refine Br.eqi ?_ ?_)<;>intro h<;>try (exfalso;omega))|refine Z3 ?_|with_reducible exact trivial|(refine Br.mk ?_ ?_<;>intro h)|(refine BrN.mk (fun h => ?_) ?_)|(refine AltVC.mk ?_ ?_)
    exact fin_mk (.inl ⟨h0,rfl⟩)
end Go.Proofs.Ytjekkbpdgnohcaa

namespace Go.Proofs.Ytjekkbpdgnohcaa
open Go.Dm
end Go.Proofs.Ytjekkbpdgnohcaa

namespace Go.Proofs.Ytjekkbpdgnohcaa
open Go.Dm
theorem TR.len {g:Grammar} {d:Deed} {t:Tl} (h:TR g d t):t.st.length≤1000000:=by
  obtain ⟨h,_⟩:=h
  generalize t.c=c,t.n=n,t.st=st at h
  cases h with
  | pick h e r _ hr hl hT =>
    have hc:=(cc_ok e).1
    have hw:=hc.w
    have:=tk_steps hc.p hT
    simp only [List.length_singleton,stA,Nat.one_ne_zero,if_false,Nat.sub_self,List.getD_cons_zero] at this
    omega
  | _=>simp
theorem dee_snoc {l:List Deed} {d:Deed}:tbl deeD l++[[D.v (.int .i64 d.kind),D.v (.int .i64 d.rule.left),D.sl 1 (i64s d.rule.right),D.sl 1 (i64s d.word),D.v (.int .i64 d.n),D.sl 1 (i64s d.steps)]]=tbl deeD (l++[d]):=by rw [tbl_app];rfl
theorem tls_snoc {l:List Tl} {t:Tl}:tbl tlS l++[[D.v (.int .i64 t.c),D.v (.int .i64 t.n),D.sl 1 (i64s t.st)]]=tbl tlS (l++[t]):=by rw [tbl_app];rfl
def vto:=And.intro vpl<|And.intro @dee_snoc<|And.intro @tls_snoc @tlS_eq
theorem TRs.add {g:Grammar} {ds:List Deed} {l:List Tl} {d:Deed} {t:Tl} (h:TRs g ds l) (ht:TR (nxs g ds) d t):TRs g (ds++[d]) (l++[t]):=by
  have hl:=h.1
  refine ⟨by simp [hl],fun j hj => ?_⟩
  have hj':j<ds.length+1:=by simpa [hl] using hj
  by_cases e:j=ds.length
  · have e1:(ds++[d]).getD j default=d:=by simp [List.getD_eq_getElem?_getD,e]
    have e2:(l++[t]).getD j default=t:=by simp [List.getD_eq_getElem?_getD,e,← hl]
    rw [e1,e2,List.take_append_of_le_length (by omega),List.take_of_length_le (by omega)];exact ht
  · have hji:j<ds.length:=by omega
    have h3:=h.2 j (by omega)
    have e1:(ds++[d]).getD j default=ds.getD j default:=by simp [List.getD_eq_getElem?_getD,List.getElem?_append_left hji]
    have e2:(l++[t]).getD j default=l.getD j default:=by simp [List.getD_eq_getElem?_getD,List.getElem?_append_left (show j<l.length by omega)]
    rw [e1,e2,List.take_append_of_le_length (by omega)];exact h3
end Go.Proofs.Ytjekkbpdgnohcaa

namespace Go.Proofs.Ytjekkbpdgnohcaa
open Go.Dm
def twoR (ds:List Deed) (r:Rule) (d:Deed):List (List D):=tbl deeD ds++[[iv .i64 1,iv .i64 r.left,.sl 1 (i64s r.right),.nl,iv .i64 0,.nl],[iv .i64 2,iv .i64 0,.nl,.nl,iv .i64 0,.nl],deeD d]
theorem two_fold {ds:List Deed} {r:Rule} {d:Deed}:tbl deeD ds++[[D.v (.int .i64 1),D.v (.int .i64 r.left),D.sl 1 (i64s r.right),D.nl,D.v (.int .i64 0),D.nl],[D.v (.int .i64 2),D.v (.int .i64 0),D.nl,D.nl,D.v (.int .i64 0),D.nl],[D.v (.int .i64 d.kind),D.v (.int .i64 d.rule.left),D.sl 1 (i64s d.rule.right),D.sl 1 (i64s d.word),D.v (.int .i64 d.n),D.sl 1 (i64s d.steps)]]=twoR ds r d:=(rfl)
theorem twoR_len {ds:List Deed} {r:Rule} {d:Deed}:(twoR ds r d).length=ds.length+3:=by simp [twoR,tbl]
theorem two_view {ds:List Deed} {r:Rule} {d:Deed}:viewO (some ⟨6,twoR ds r d,true,false,.arr⟩) 6 0 (ds.length+3)=D.sl 6 (twoR ds r d):=viewO_all twoR_len.symm
def vtu:=And.intro vto<|And.intro @two_fold @two_view
theorem TRs.at {g:Grammar} {ds es:List Deed} {l:List Tl} {i:Nat} (h:TRs g (ds++es) l) (hi:i<es.length):TR (nxs (nxs g ds) (es.take i)) (es.getD i default) (l.getD (ds.length+i) default):=by
  have hl:=h.1
  rw [List.length_append] at hl
  have h2:=h.2 (ds.length+i) (by omega)
  have e1:(ds++es).take (ds.length+i)=ds++es.take i:=by rw [List.take_append];simp [List.take_of_length_le]
  have e2:(ds++es).getD (ds.length+i) default=es.getD i default:=by
    simp only [List.getD_eq_getElem?_getD];rw [List.getElem?_append_right (by omega)];simp
  rw [e1,e2,nxs_app] at h2
  exact h2
end Go.Proofs.Ytjekkbpdgnohcaa

namespace Go.Proofs.Ytjekkbpdgnohcaa
open Go.Dm
set_option maxRecDepth 10000 in
set_option maxHeartbeats 4000000 in
theorem ruleCode_spec (g:Grammar) (hv:VG g) (hg:g.ok) (r:Rule) (hr:r.ok):Dm.Spec Try.prog 34 [.ag (graD g),.ag (rulD r)] (·=iv .i64 (rcode g r)):=by
  refine spec_of_vc mixed Try.func34 c34 (by rw [show Try.f34.ntmps=_ from Try.ntmps34];simp) ?_
  unfold m34 r34
  have hlen:=(valid_of hv.1).len
  have hok:=ok_add hv hg hr
  have hck:=refGCheck_spec (addR g r) hok
  have hga:graD (addR g r)=[iv .i64 g.k,iv .i64 g.n,iv .i64 g.start,.sl 2 (tbl rulD (g.rules++[r]))]:=rfl
  rw [hga] at hck
  repeat' first|((first|refine Br.dec ?_ ?_|refine Br.eqi ?_ ?_)<;>intro h<;>try (exfalso;omega))|refine Z2 ?_|with_reducible exact trivial|(refine Br.mk ?_ ?_<;>intro h)|(refine BrN.mk (fun h => ?_) ?_)|(refine AltVC.mk ?_ ?_)
  refine DrawVC.ct (X:=Unit) (fun _=>[]) (fun _=>[(0,⟨4,[[iv .i64 g.k,iv .i64 g.n,iv .i64 g.start,.sl 2 (tbl rulD (g.rules++[r]))]],true,false,.fix⟩),(1,⟨2,[rulD r],true,false,.fix⟩)]) (fun _=>True) 4 Y11 ?_ ?_
  · repeat' first|((first|refine Br.dec ?_ ?_|refine Br.eqi ?_ ?_)<;>intro h<;>try (exfalso;omega))|refine Z2 ?_|with_reducible exact trivial|(refine Br.mk ?_ ?_<;>intro h)|(refine BrN.mk (fun h => ?_) ?_)|(refine AltVC.mk ?_ ?_)
    all_goals first
      | (refine cutK.frz 2 ?_
         (repeat' first|((first|refine Br.dec ?_ ?_|refine Br.eqi ?_ ?_)<;>intro h<;>try (exfalso;omega))|refine Z2 ?_|with_reducible exact trivial|(refine Br.mk ?_ ?_<;>intro h)|(refine BrN.mk (fun h => ?_) ?_)|(refine AltVC.mk ?_ ?_))
         refine cutK.flt 0 ?_
         (repeat' first|((first|refine Br.dec ?_ ?_|refine Br.eqi ?_ ?_)<;>intro h<;>try (exfalso;omega))|refine Z2 ?_|with_reducible exact trivial|(refine Br.mk ?_ ?_<;>intro h)|(refine BrN.mk (fun h => ?_) ?_)|(refine AltVC.mk ?_ ?_))
         refine cutK.mk () ?_ trivial ?_
         · (simp (disch:=first|omega|(simp only [vlen];first|done|omega)) only [vtu,↓vAq,vBq,↓reduceIte,Nat.reduceBEq,Nat.reduceEqDiff,Nat.reduceLT,Nat.reduceLeDiff,Nat.reduceAdd,Nat.reduceMul,Nat.reduceSub,reduceCtorEq,Int.reduceToNat])
         · ((simp (disch:=first|omega|(simp only [vlen];first|done|omega)) only [Fits_u,Fits_m,Fits_nil,List.length_append,vtu,↓vAq,vBq,↓reduceIte,Nat.reduceBEq,Nat.reduceEqDiff,Nat.reduceLT,Nat.reduceLeDiff,Nat.reduceAdd,Nat.reduceMul,Nat.reduceSub,reduceCtorEq,Int.reduceToNat]<;>(repeat' first|rfl|apply And.intro))))
      | (refine cutK.frz 3 ?_
         (repeat' first|((first|refine Br.dec ?_ ?_|refine Br.eqi ?_ ?_)<;>intro h<;>try (exfalso;omega))|refine Z2 ?_|with_reducible exact trivial|(refine Br.mk ?_ ?_<;>intro h)|(refine BrN.mk (fun h => ?_) ?_)|(refine AltVC.mk ?_ ?_))
         refine cutK.flt 0 ?_
         (repeat' first|((first|refine Br.dec ?_ ?_|refine Br.eqi ?_ ?_)<;>intro h<;>try (exfalso;omega))|refine Z2 ?_|with_reducible exact trivial|(refine Br.mk ?_ ?_<;>intro h)|(refine BrN.mk (fun h => ?_) ?_)|(refine AltVC.mk ?_ ?_))
         refine cutK.mk () ?_ trivial ?_
         · (simp (disch:=first|omega|(simp only [vlen];first|done|omega)) only [vtu,↓vAq,vBq,↓reduceIte,Nat.reduceBEq,Nat.reduceEqDiff,Nat.reduceLT,Nat.reduceLeDiff,Nat.reduceAdd,Nat.reduceMul,Nat.reduceSub,reduceCtorEq,Int.reduceToNat])
         · ((simp (disch:=first|omega|(simp only [vlen];first|done|omega)) only [Fits_u,Fits_m,Fits_nil,List.length_append,vtu,↓vAq,vBq,↓reduceIte,Nat.reduceBEq,Nat.reduceEqDiff,Nat.reduceLT,Nat.reduceLeDiff,Nat.reduceAdd,Nat.reduceMul,Nat.reduceSub,reduceCtorEq,Int.reduceToNat]<;>(repeat' first|rfl|apply And.intro))))
      | trace_state
  rintro ⟨⟩ _
  repeat' first|((first|refine Br.dec ?_ ?_|refine Br.eqi ?_ ?_)<;>intro h<;>try (exfalso;omega))|refine Z2 ?_|with_reducible exact trivial|(refine Br.mk ?_ ?_<;>intro h)|(refine BrN.mk (fun h => ?_) ?_)|(refine AltVC.mk ?_ ?_)
  refine CallVC.eq hck ?_
  by_cases h0:gcode (addR g r)=0
  · have hva:=valid_of h0
    have hp:=refProper_spec (addR g r) (maxLen_le hok.2.2.2.1) (fun x hx=>by have:=hva.long x hx;omega)
    rw [hga] at hp
    cases hb:isProper (addR g r) with
    | true =>
      rw [hb] at hp
      have e:rcode g r=0:=by unfold rcode;rw [if_pos h0,if_pos hb]
      repeat' first|((first|refine Br.dec ?_ ?_|refine Br.eqi ?_ ?_)<;>intro h<;>try (exfalso;omega))|refine Z2 ?_|with_reducible exact trivial|(refine Br.mk ?_ ?_<;>intro h)|(refine BrN.mk (fun h => ?_) ?_)|(refine AltVC.mk ?_ ?_)
      refine CallVC.eq hp ?_
      repeat' first|((first|refine Br.dec ?_ ?_|refine Br.eqi ?_ ?_)<;>intro h<;>try (exfalso;omega))|refine Z2 ?_|with_reducible exact trivial|(refine Br.mk ?_ ?_<;>intro h)|(refine BrN.mk (fun h => ?_) ?_)|(refine AltVC.mk ?_ ?_)
      all_goals exact fin_mk (by rw [e,h0])
    | false =>
      rw [hb] at hp
      have e:rcode g r=3:=by unfold rcode;rw [if_pos h0,if_neg (by rw [hb];simp)]
      repeat' first|((first|refine Br.dec ?_ ?_|refine Br.eqi ?_ ?_)<;>intro h<;>try (exfalso;omega))|refine Z2 ?_|with_reducible exact trivial|(refine Br.mk ?_ ?_<;>intro h)|(refine BrN.mk (fun h => ?_) ?_)|(refine AltVC.mk ?_ ?_)
      refine CallVC.eq hp ?_
      repeat' first|((first|refine Br.dec ?_ ?_|refine Br.eqi ?_ ?_)<;>intro h<;>try (exfalso;omega))|refine Z2 ?_|with_reducible exact trivial|(refine Br.mk ?_ ?_<;>intro h)|(refine BrN.mk (fun h => ?_) ?_)|(refine AltVC.mk ?_ ?_)
      all_goals exact fin_mk (by rw [e])
  · have e:rcode g r=gcode (addR g r):=by unfold rcode;rw [if_neg h0]
    repeat' first|((first|refine Br.dec ?_ ?_|refine Br.eqi ?_ ?_)<;>intro h<;>try (exfalso;omega))|refine Z2 ?_|with_reducible exact trivial|(refine Br.mk ?_ ?_<;>intro h)|(refine BrN.mk (fun h => ?_) ?_)|(refine AltVC.mk ?_ ?_)
    all_goals exact fin_mk (by rw [e])
def gsO (g:Grammar):Ob:=⟨4,[[iv .i64 g.k,iv .i64 g.n,iv .i64 g.start,.sl 2 (tbl rulD g.rules)]],true,false,.fix⟩
set_option maxRecDepth 10000 in
set_option maxHeartbeats 4000000 in
theorem refStand_spec (k n : Int) (hk : ok64 k) (hn : ok64 n) (h0 : gcode (g0 k n) = 0) (ds : List Deed) (hs : okL okD ds) : Dm.Spec Try.prog 20 [iv .i64 k, iv .i64 n, .sl 6 (tbl deeD ds)] (· = .ag (graD (nxs (g0 k n) ds))) := by
  refine spec_of_vc mixed Try.func20 c20 (by rw [show Try.f20.ntmps=_ from Try.ntmps20];simp) ?_
  unfold m20 r20
  have hdl:=maxLen_le hs.1
  have hv:=VG0 h0
  have hok0:(g0 k n).ok:=⟨hk,hn,show ok64 0 from ⟨by decide,by decide⟩,Nat.zero_le _,fun x hx=>(by cases hx)⟩
  repeat' first|((first|refine Br.dec ?_ ?_|refine Br.eqi ?_ ?_)<;>intro h<;>try (exfalso;omega))|(simp (disch:=first|omega|(simp only [vlen];first|done|omega)) only [kBldS_iiin,vtu,↓vAq,vBq,↓reduceIte,Nat.reduceBEq,Nat.reduceEqDiff,Nat.reduceLT,Nat.reduceLeDiff,Nat.reduceAdd,Nat.reduceMul,Nat.reduceSub,reduceCtorEq,Int.reduceToNat])|(refine Br.mk ?_ ?_<;>intro h)|(refine BrN.mk (fun h => ?_) ?_)|(refine AltVC.mk ?_ ?_)
  refine LoopVC.wk 1 0 3 (.sl 2 []) ?_
  repeat' first|((first|refine Br.dec ?_ ?_|refine Br.eqi ?_ ?_)<;>intro h<;>try (exfalso;omega))|refine Z2 ?_|with_reducible exact trivial|(refine Br.mk ?_ ?_<;>intro h)|(refine BrN.mk (fun h => ?_) ?_)|(refine AltVC.mk ?_ ?_)
  refine ⟨Le_nl 2,?_⟩
  repeat' first|((first|refine Br.dec ?_ ?_|refine Br.eqi ?_ ?_)<;>intro h<;>try (exfalso;omega))|refine Z2 ?_|with_reducible exact trivial|(refine Br.mk ?_ ?_<;>intro h)|(refine BrN.mk (fun h => ?_) ?_)|(refine AltVC.mk ?_ ?_)
  refine LoopVC.mk (X:=Nat) (fun i=>[(15,iv .i64 i)]) (fun i=>[(0,⟨4,[[iv .i64 0,iv .i64 0,iv .i64 0,.nl]],true,false,.fix⟩),(1,gsO (nxs (g0 k n) (ds.take i)))]) (fun i=>ds.length - i) (fun i=>i≤ds.length) 0 (Nat.zero_le _) ?_ ?_
  · unfold gsO
    rw [List.take_zero,nxs_nil]
    (simp (disch:=first|omega|(simp only [vlen];first|done|omega)) only [Fits_u,Fits_m,Fits_nil,List.length_append,vtu,↓vAq,vBq,↓reduceIte,Nat.reduceBEq,Nat.reduceEqDiff,Nat.reduceLT,Nat.reduceLeDiff,Nat.reduceAdd,Nat.reduceMul,Nat.reduceSub,reduceCtorEq,Int.reduceToNat]<;>(repeat' first|rfl|apply And.intro))
  · rintro i hi
    unfold gsO
    by_cases hlt:i<ds.length
    · have hvi:=hv.nxs (ds.take i)
      have hoi:=ok_nxs hv hok0 (l:=ds.take i) fun d hd=>okD_ok hs d (List.mem_of_mem_take hd)
      have hdd:=hs.2 _ (getD_mem' hlt)
      have hnt:=nxs_take (g:=g0 k n) hlt
      have hrc:=ruleCode_spec _ hvi hoi (ds.getD i default).rule hdd.1.2.1
      have hlen:=(valid_of hvi.1).len
      have hga:=@graD_eq (nxs (g0 k n) (ds.take i))
      generalize hGG:nxs (g0 k n) (ds.take i)=G at *
      by_cases h1:(ds.getD i default).kind=1
      · by_cases h2 : rcode G (ds.getD i default).rule = 0
        · have en:nxs (g0 k n) (ds.take (i+1))=addR G (ds.getD i default).rule:=by rw [hnt];unfold nxG;rw [if_pos h1,if_pos h2]
          repeat' first|((first|refine Br.dec ?_ ?_|refine Br.eqi ?_ ?_)<;>intro h<;>try (exfalso;omega))|refine Z21 ?_|with_reducible exact trivial|(refine Br.mk ?_ ?_<;>intro h)|(refine BrN.mk (fun h => ?_) ?_)|(refine AltVC.mk ?_ ?_)
          refine CallVC.eq hrc ?_
          repeat' first|((first|refine Br.dec ?_ ?_|refine Br.eqi ?_ ?_)<;>intro h<;>try (exfalso;omega))|refine Z2 ?_|with_reducible exact trivial|(refine Br.mk ?_ ?_<;>intro h)|(refine BrN.mk (fun h => ?_) ?_)|(refine AltVC.mk ?_ ?_)
          refine DrawVC.ct (X:=Unit) (fun _=>[]) (fun _=>[(0,⟨4,[[iv .i64 0,iv .i64 0,iv .i64 0,.nl]],true,false,.fix⟩),(1,gsO (addR G (ds.getD i default).rule)),(2,⟨6,[deeD (ds.getD i default)],true,false,.fix⟩)]) (fun _=>True) 5 Y11 ?_ ?_
          · unfold gsO addR
            repeat' first|((first|refine Br.dec ?_ ?_|refine Br.eqi ?_ ?_)<;>intro h<;>try (exfalso;omega))|refine Z2 ?_|with_reducible exact trivial|(refine Br.mk ?_ ?_<;>intro h)|(refine BrN.mk (fun h => ?_) ?_)|(refine AltVC.mk ?_ ?_)
            all_goals first
              | (refine cutK.frz 3 ?_
                 (repeat' first|((first|refine Br.dec ?_ ?_|refine Br.eqi ?_ ?_)<;>intro h<;>try (exfalso;omega))|refine Z2 ?_|with_reducible exact trivial|(refine Br.mk ?_ ?_<;>intro h)|(refine BrN.mk (fun h => ?_) ?_)|(refine AltVC.mk ?_ ?_))
                 refine cutK.flt 1 ?_
                 (repeat' first|((first|refine Br.dec ?_ ?_|refine Br.eqi ?_ ?_)<;>intro h<;>try (exfalso;omega))|refine Z2 ?_|with_reducible exact trivial|(refine Br.mk ?_ ?_<;>intro h)|(refine BrN.mk (fun h => ?_) ?_)|(refine AltVC.mk ?_ ?_))
                 refine cutK.mk () ?_ trivial ?_
                 · (simp (disch:=first|omega|(simp only [vlen];first|done|omega)) only [vtu,↓vAq,vBq,↓reduceIte,Nat.reduceBEq,Nat.reduceEqDiff,Nat.reduceLT,Nat.reduceLeDiff,Nat.reduceAdd,Nat.reduceMul,Nat.reduceSub,reduceCtorEq,Int.reduceToNat])
                 · ((simp (disch:=first|omega|(simp only [vlen];first|done|omega)) only [Fits_u,Fits_m,Fits_nil,List.length_append,vtu,↓vAq,vBq,↓reduceIte,Nat.reduceBEq,Nat.reduceEqDiff,Nat.reduceLT,Nat.reduceLeDiff,Nat.reduceAdd,Nat.reduceMul,Nat.reduceSub,reduceCtorEq,Int.reduceToNat]<;>(repeat' first|rfl|apply And.intro))))
              | (refine cutK.frz 4 ?_
                 (repeat' first|((first|refine Br.dec ?_ ?_|refine Br.eqi ?_ ?_)<;>intro h<;>try (exfalso;omega))|refine Z2 ?_|with_reducible exact trivial|(refine Br.mk ?_ ?_<;>intro h)|(refine BrN.mk (fun h => ?_) ?_)|(refine AltVC.mk ?_ ?_))
                 refine cutK.flt 1 ?_
                 (repeat' first|((first|refine Br.dec ?_ ?_|refine Br.eqi ?_ ?_)<;>intro h<;>try (exfalso;omega))|refine Z2 ?_|with_reducible exact trivial|(refine Br.mk ?_ ?_<;>intro h)|(refine BrN.mk (fun h => ?_) ?_)|(refine AltVC.mk ?_ ?_))
                 refine cutK.mk () ?_ trivial ?_
                 · (simp (disch:=first|omega|(simp only [vlen];first|done|omega)) only [vtu,↓vAq,vBq,↓reduceIte,Nat.reduceBEq,Nat.reduceEqDiff,Nat.reduceLT,Nat.reduceLeDiff,Nat.reduceAdd,Nat.reduceMul,Nat.reduceSub,reduceCtorEq,Int.reduceToNat])
                 · ((simp (disch:=first|omega|(simp only [vlen];first|done|omega)) only [Fits_u,Fits_m,Fits_nil,List.length_append,vtu,↓vAq,vBq,↓reduceIte,Nat.reduceBEq,Nat.reduceEqDiff,Nat.reduceLT,Nat.reduceLeDiff,Nat.reduceAdd,Nat.reduceMul,Nat.reduceSub,reduceCtorEq,Int.reduceToNat]<;>(repeat' first|rfl|apply And.intro))))
              | trace_state
          rintro ⟨⟩ _
          unfold gsO
          repeat' first|((first|refine Br.dec ?_ ?_|refine Br.eqi ?_ ?_)<;>intro h<;>try (exfalso;omega))|refine Z2 ?_|with_reducible exact trivial|(refine Br.mk ?_ ?_<;>intro h)|(refine BrN.mk (fun h => ?_) ?_)|(refine AltVC.mk ?_ ?_)
          refine loopK.mk (i+1) Y11 (by omega) (by omega) ?_
          rw [en]
          (simp (disch:=first|omega|(simp only [vlen];first|done|omega)) only [Fits_u,Fits_m,Fits_nil,List.length_append,vtu,↓vAq,vBq,↓reduceIte,Nat.reduceBEq,Nat.reduceEqDiff,Nat.reduceLT,Nat.reduceLeDiff,Nat.reduceAdd,Nat.reduceMul,Nat.reduceSub,reduceCtorEq,Int.reduceToNat]<;>(repeat' first|rfl|apply And.intro))
        · have en:nxs (g0 k n) (ds.take (i+1))=G:=by rw [hnt];unfold nxG;rw [if_pos h1,if_neg h2]
          repeat' first|((first|refine Br.dec ?_ ?_|refine Br.eqi ?_ ?_)<;>intro h<;>try (exfalso;omega))|refine Z21 ?_|with_reducible exact trivial|(refine Br.mk ?_ ?_<;>intro h)|(refine BrN.mk (fun h => ?_) ?_)|(refine AltVC.mk ?_ ?_)
          refine CallVC.eq hrc ?_
          repeat' first|((first|refine Br.dec ?_ ?_|refine Br.eqi ?_ ?_)<;>intro h<;>try (exfalso;omega))|refine Z2 ?_|with_reducible exact trivial|(refine Br.mk ?_ ?_<;>intro h)|(refine BrN.mk (fun h => ?_) ?_)|(refine AltVC.mk ?_ ?_)
          refine loopK.mk (i+1) Y11 (by omega) (by omega) ?_
          rw [en]
          (simp (disch:=first|omega|(simp only [vlen];first|done|omega)) only [Fits_u,Fits_m,Fits_nil,List.length_append,vtu,↓vAq,vBq,↓reduceIte,Nat.reduceBEq,Nat.reduceEqDiff,Nat.reduceLT,Nat.reduceLeDiff,Nat.reduceAdd,Nat.reduceMul,Nat.reduceSub,reduceCtorEq,Int.reduceToNat]<;>(repeat' first|rfl|apply And.intro))
      · by_cases h2:(ds.getD i default).kind=2
        · by_cases h3:G.rules.length=0
          · have en:nxs (g0 k n) (ds.take (i+1))=G:=by rw [hnt];unfold nxG;rw [if_neg h1,if_pos h2,if_pos h3]
            repeat' first|((first|refine Br.dec ?_ ?_|refine Br.eqi ?_ ?_)<;>intro h<;>try (exfalso;omega))|refine Z21 ?_|with_reducible exact trivial|(refine Br.mk ?_ ?_<;>intro h)|(refine BrN.mk (fun h => ?_) ?_)|(refine AltVC.mk ?_ ?_)
            refine loopK.mk (i+1) Y11 (by omega) (by omega) ?_
            rw [en]
            (simp (disch:=first|omega|(simp only [vlen];first|done|omega)) only [Fits_u,Fits_m,Fits_nil,List.length_append,vtu,↓vAq,vBq,↓reduceIte,Nat.reduceBEq,Nat.reduceEqDiff,Nat.reduceLT,Nat.reduceLeDiff,Nat.reduceAdd,Nat.reduceMul,Nat.reduceSub,reduceCtorEq,Int.reduceToNat]<;>(repeat' first|rfl|apply And.intro))
          · have en:nxs (g0 k n) (ds.take (i+1))=dropR G:=by rw [hnt];unfold nxG;rw [if_neg h1,if_pos h2,if_neg h3]
            have e1:((G.rules.length:Int) - 1).toNat=G.rules.length - 1:=by omega
            repeat' first|((first|refine Br.dec ?_ ?_|refine Br.eqi ?_ ?_)<;>intro h<;>try (exfalso;omega))|(simp (disch:=first|omega|(simp only [vlen];first|done|omega)) only [hGG,e1,vtu,↓vAq,vBq,↓reduceIte,Nat.reduceBEq,Nat.reduceEqDiff,Nat.reduceLT,Nat.reduceLeDiff,Nat.reduceAdd,Nat.reduceMul,Nat.reduceSub,reduceCtorEq,Int.reduceToNat])|(refine Br.mk ?_ ?_<;>intro h)|(refine BrN.mk (fun h => ?_) ?_)|(refine AltVC.mk ?_ ?_)
            refine loopK.mk (i+1) Y11 (by omega) (by omega) ?_
            rw [en]
            unfold dropR
            (simp (disch:=first|omega|(simp only [vlen];first|done|omega)) only [Fits_u,Fits_m,Fits_nil,List.length_append,vtu,↓vAq,vBq,↓reduceIte,Nat.reduceBEq,Nat.reduceEqDiff,Nat.reduceLT,Nat.reduceLeDiff,Nat.reduceAdd,Nat.reduceMul,Nat.reduceSub,reduceCtorEq,Int.reduceToNat]<;>(repeat' first|rfl|apply And.intro))
        · have en:nxs (g0 k n) (ds.take (i+1))=G:=by rw [hnt];unfold nxG;rw [if_neg h1,if_neg h2]
          repeat' first|((first|refine Br.dec ?_ ?_|refine Br.eqi ?_ ?_)<;>intro h<;>try (exfalso;omega))|refine Z21 ?_|with_reducible exact trivial|(refine Br.mk ?_ ?_<;>intro h)|(refine BrN.mk (fun h => ?_) ?_)|(refine AltVC.mk ?_ ?_)
          refine loopK.mk (i+1) Y11 (by omega) (by omega) ?_
          rw [en]
          (simp (disch:=first|omega|(simp only [vlen];first|done|omega)) only [Fits_u,Fits_m,Fits_nil,List.length_append,vtu,↓vAq,vBq,↓reduceIte,Nat.reduceBEq,Nat.reduceEqDiff,Nat.reduceLT,Nat.reduceLeDiff,Nat.reduceAdd,Nat.reduceMul,Nat.reduceSub,reduceCtorEq,Int.reduceToNat]<;>(repeat' first|rfl|apply And.intro))
    · have hie:i=ds.length:=by omega
      subst hie
      rw [List.take_length]
      repeat' first|((first|refine Br.dec ?_ ?_|refine Br.eqi ?_ ?_)<;>intro h<;>try (exfalso;omega))|refine Z2 ?_|with_reducible exact trivial|(refine Br.mk ?_ ?_<;>intro h)|(refine BrN.mk (fun h => ?_) ?_)|(refine AltVC.mk ?_ ?_)
      exact fin_mk rfl
end Go.Proofs.Ytjekkbpdgnohcaa

namespace Go.Proofs.Ytjekkbpdgnohcaa
open Go.Dm
set_option maxRecDepth 10000 in
set_option maxHeartbeats 4000000 in
theorem told_spec (g : Grammar) (hv : VG g) (hg : g.ok) (d : Deed) (hd : okD d) (t : Tl) (ht : TR g d t) : Dm.Spec Try.prog 19 [.ag (graD g), .ag (deeD d), .ag (tlS t)] (· = .v (.bool true)) := by
  refine spec_of_vc mixed Try.func19 c19 (by rw [show Try.f19.ntmps=_ from Try.ntmps19];simp) ?_
  unfold m19 r19
  have hwl:=maxLen_le hd.1.2.2.1.1
  have hpc:=pickCode_spec g hg d.word hwl
  obtain ⟨c,m,st,z⟩:=t
  obtain ⟨hT,hz⟩:=ht
  simp only at hT
  clear hz
  cases hT with
  | rule h =>
    have hrc:=ruleCode_spec g hv hg d.rule hd.1.2.1
    by_cases h0:rcode g d.rule=0
    · rw [if_pos h0,h0]
      rw [h0] at hrc
      repeat' first|((first|refine Br.dec ?_ ?_|refine Br.eqi ?_ ?_)<;>intro h<;>try (exfalso;omega))|refine Z2 ?_|with_reducible exact trivial|(refine Br.mk ?_ ?_<;>intro h)|(refine BrN.mk (fun h => ?_) ?_)|(refine AltVC.mk ?_ ?_)
      refine CallVC.eq hrc ?_
      repeat' first|((first|refine Br.dec ?_ ?_|refine Br.eqi ?_ ?_)<;>intro h<;>try (exfalso;omega))|refine Z2 ?_|with_reducible exact trivial|(refine Br.mk ?_ ?_<;>intro h)|(refine BrN.mk (fun h => ?_) ?_)|(refine AltVC.mk ?_ ?_)
      all_goals exact fin_mk (vbEq (by simp))
    · rw [if_neg h0]
      repeat' first|((first|refine Br.dec ?_ ?_|refine Br.eqi ?_ ?_)<;>intro h<;>try (exfalso;omega))|refine Z2 ?_|with_reducible exact trivial|(refine Br.mk ?_ ?_<;>intro h)|(refine BrN.mk (fun h => ?_) ?_)|(refine AltVC.mk ?_ ?_)
      refine CallVC.eq hrc ?_
      repeat' first|((first|refine Br.dec ?_ ?_|refine Br.eqi ?_ ?_)<;>intro h<;>try (exfalso;omega))|refine Z2 ?_|with_reducible exact trivial|(refine Br.mk ?_ ?_<;>intro h)|(refine BrN.mk (fun h => ?_) ?_)|(refine AltVC.mk ?_ ?_)
      all_goals exact fin_mk (vbEq (by simp))
  | undo h =>
    by_cases h0:g.rules.length=0
    · rw [if_pos h0]
      repeat' first|((first|refine Br.dec ?_ ?_|refine Br.eqi ?_ ?_)<;>intro h<;>try (exfalso;omega))|refine Z2 ?_|with_reducible exact trivial|(refine Br.mk ?_ ?_<;>intro h)|(refine BrN.mk (fun h => ?_) ?_)|(refine AltVC.mk ?_ ?_)
      all_goals exact fin_mk (vbEq (by simp))
    · rw [if_neg h0]
      repeat' first|((first|refine Br.dec ?_ ?_|refine Br.eqi ?_ ?_)<;>intro h<;>try (exfalso;omega))|refine Z2 ?_|with_reducible exact trivial|(refine Br.mk ?_ ?_<;>intro h)|(refine BrN.mk (fun h => ?_) ?_)|(refine AltVC.mk ?_ ?_)
      all_goals exact fin_mk (vbEq (by simp))
  | many h =>
    by_cases e:trC g d.word=0
    · obtain ⟨hc,_,hsm⟩:=cc_ok e
      have hk:=hc.v.k
      have hn:=hc.v.n
      have hst:=hc.v.start
      have hw12:=hc.w
      have hB:=bushT_spec g d.word hc (g.k+g.start) 0 d.word.length (by omega) (by omega) (Nat.zero_le _) (Nat.le_refl _) [] BI.nil
      have hcpi:((cp (trees g d.word (g.k+g.start) 0 d.word.length):Nat):Int)=(trN g d.word:Nat):=by unfold trN at hsm ⊢;unfold cp;omega
      rw [if_pos e,e]
      rw [e] at hpc
      repeat' first|((first|refine Br.dec ?_ ?_|refine Br.eqi ?_ ?_)<;>intro h<;>try (exfalso;omega))|refine Z6 ?_|with_reducible exact trivial|(refine Br.mk ?_ ?_<;>intro h)|(refine BrN.mk (fun h => ?_) ?_)|(refine AltVC.mk ?_ ?_)
      refine CallVC.eq hpc ?_
      repeat' first|((first|refine Br.dec ?_ ?_|refine Br.eqi ?_ ?_)<;>intro h<;>try (exfalso;omega))|refine Z6 ?_|with_reducible exact trivial|(refine Br.mk ?_ ?_<;>intro h)|(refine BrN.mk (fun h => ?_) ?_)|(refine AltVC.mk ?_ ?_)
      refine DrawVC.t ?_
      repeat' first|((first|refine Br.dec ?_ ?_|refine Br.eqi ?_ ?_)<;>intro h<;>try (exfalso;omega))|refine Z6 ?_|with_reducible exact trivial|(refine Br.mk ?_ ?_<;>intro h)|(refine BrN.mk (fun h => ?_) ?_)|(refine AltVC.mk ?_ ?_)
      all_goals
        refine CallP.lend [.ag (graD g),.sl 1 (i64s d.word)] (grow_bspec g d.word) Y24 ?_
        rintro _ _ ⟨rfl,rfl⟩
        repeat' first|((first|refine Br.dec ?_ ?_|refine Br.eqi ?_ ?_)<;>intro h<;>try (exfalso;omega))|refine Z6 ?_|with_reducible exact trivial|(refine Br.mk ?_ ?_<;>intro h)|(refine BrN.mk (fun h => ?_) ?_)|(refine AltVC.mk ?_ ?_)
        all_goals
          refine CallVC.lendE [5,4] [.ptr 0 6 0 0,iv .i64 (g.k+g.start),iv .i64 (0:Nat),iv .i64 d.word.length] (buO g d.word []) hB (by simp) (by rfl) Y5 ?_
          rintro _ _ ⟨L2,rfl,rfl,hL2⟩
          unfold buO
          rw [hcpi]
          repeat' first|((first|refine Br.dec ?_ ?_|refine Br.eqi ?_ ?_)<;>intro h<;>try (exfalso;omega))|refine Z6 ?_|with_reducible exact trivial|(refine Br.mk ?_ ?_<;>intro h)|(refine BrN.mk (fun h => ?_) ?_)|(refine AltVC.mk ?_ ?_)
          all_goals exact fin_mk (vbEq (by simp))
    · rw [if_neg e]
      repeat' first|((first|refine Br.dec ?_ ?_|refine Br.eqi ?_ ?_)<;>intro h<;>try (exfalso;omega))|refine Z6 ?_|with_reducible exact trivial|(refine Br.mk ?_ ?_<;>intro h)|(refine BrN.mk (fun h => ?_) ?_)|(refine AltVC.mk ?_ ?_)
      refine CallVC.eq hpc ?_
      repeat' first|((first|refine Br.dec ?_ ?_|refine Br.eqi ?_ ?_)<;>intro h<;>try (exfalso;omega))|refine Z6 ?_|with_reducible exact trivial|(refine Br.mk ?_ ?_<;>intro h)|(refine BrN.mk (fun h => ?_) ?_)|(refine AltVC.mk ?_ ?_)
      refine DrawVC.t ?_
      repeat' first|((first|refine Br.dec ?_ ?_|refine Br.eqi ?_ ?_)<;>intro h<;>try (exfalso;omega))|refine Z6 ?_|with_reducible exact trivial|(refine Br.mk ?_ ?_<;>intro h)|(refine BrN.mk (fun h => ?_) ?_)|(refine AltVC.mk ?_ ?_)
      all_goals exact fin_mk (vbEq (by simp))
  | pickC h e =>
    repeat' first|((first|refine Br.dec ?_ ?_|refine Br.eqi ?_ ?_)<;>intro h<;>try (exfalso;omega))|refine Z6 ?_|with_reducible exact trivial|(refine Br.mk ?_ ?_<;>intro h)|(refine BrN.mk (fun h => ?_) ?_)|(refine AltVC.mk ?_ ?_)
    refine CallVC.eq hpc ?_
    repeat' first|((first|refine Br.dec ?_ ?_|refine Br.eqi ?_ ?_)<;>intro h<;>try (exfalso;omega))|refine Z6 ?_|with_reducible exact trivial|(refine Br.mk ?_ ?_<;>intro h)|(refine BrN.mk (fun h => ?_) ?_)|(refine AltVC.mk ?_ ?_)
    refine DrawVC.t ?_
    repeat' first|((first|refine Br.dec ?_ ?_|refine Br.eqi ?_ ?_)<;>intro h<;>try (exfalso;omega))|refine Z6 ?_|with_reducible exact trivial|(refine Br.mk ?_ ?_<;>intro h)|(refine BrN.mk (fun h => ?_) ?_)|(refine AltVC.mk ?_ ?_)
    all_goals exact fin_mk (vbEq (by simp))
  | pickN h e hn =>
    obtain ⟨hc,_,hsm⟩:=cc_ok e
    have hk:=hc.v.k
    have hn':=hc.v.n
    have hst:=hc.v.start
    have hw12:=hc.w
    have hB:=bushT_spec g d.word hc (g.k+g.start) 0 d.word.length (by omega) (by omega) (Nat.zero_le _) (Nat.le_refl _) [] BI.nil
    have hcpi:((cp (trees g d.word (g.k+g.start) 0 d.word.length):Nat):Int)=(trN g d.word:Nat):=by unfold trN at hsm ⊢;unfold cp;omega
    rw [e] at hpc
    by_cases hi0:d.n<0
    · repeat' first|((first|refine Br.dec ?_ ?_|refine Br.eqi ?_ ?_)<;>intro h<;>try (exfalso;omega))|refine Z6 ?_|with_reducible exact trivial|(refine Br.mk ?_ ?_<;>intro h)|(refine BrN.mk (fun h => ?_) ?_)|(refine AltVC.mk ?_ ?_)
      refine CallVC.eq hpc ?_
      repeat' first|((first|refine Br.dec ?_ ?_|refine Br.eqi ?_ ?_)<;>intro h<;>try (exfalso;omega))|refine Z6 ?_|with_reducible exact trivial|(refine Br.mk ?_ ?_<;>intro h)|(refine BrN.mk (fun h => ?_) ?_)|(refine AltVC.mk ?_ ?_)
      refine DrawVC.t ?_
      repeat' first|((first|refine Br.dec ?_ ?_|refine Br.eqi ?_ ?_)<;>intro h<;>try (exfalso;omega))|refine Z6 ?_|with_reducible exact trivial|(refine Br.mk ?_ ?_<;>intro h)|(refine BrN.mk (fun h => ?_) ?_)|(refine AltVC.mk ?_ ?_)
      all_goals exact fin_mk (vbEq (by simp))
    · repeat' first|((first|refine Br.dec ?_ ?_|refine Br.eqi ?_ ?_)<;>intro h<;>try (exfalso;omega))|refine Z6 ?_|with_reducible exact trivial|(refine Br.mk ?_ ?_<;>intro h)|(refine BrN.mk (fun h => ?_) ?_)|(refine AltVC.mk ?_ ?_)
      refine CallVC.eq hpc ?_
      repeat' first|((first|refine Br.dec ?_ ?_|refine Br.eqi ?_ ?_)<;>intro h<;>try (exfalso;omega))|refine Z6 ?_|with_reducible exact trivial|(refine Br.mk ?_ ?_<;>intro h)|(refine BrN.mk (fun h => ?_) ?_)|(refine AltVC.mk ?_ ?_)
      refine DrawVC.t ?_
      repeat' first|((first|refine Br.dec ?_ ?_|refine Br.eqi ?_ ?_)<;>intro h<;>try (exfalso;omega))|refine Z6 ?_|with_reducible exact trivial|(refine Br.mk ?_ ?_<;>intro h)|(refine BrN.mk (fun h => ?_) ?_)|(refine AltVC.mk ?_ ?_)
      all_goals
        refine CallP.lend [.ag (graD g),.sl 1 (i64s d.word)] (grow_bspec g d.word) Y24 ?_
        rintro _ _ ⟨rfl,rfl⟩
        repeat' first|((first|refine Br.dec ?_ ?_|refine Br.eqi ?_ ?_)<;>intro h<;>try (exfalso;omega))|refine Z6 ?_|with_reducible exact trivial|(refine Br.mk ?_ ?_<;>intro h)|(refine BrN.mk (fun h => ?_) ?_)|(refine AltVC.mk ?_ ?_)
        all_goals
          refine CallVC.lendE [5,4] [.ptr 0 6 0 0,iv .i64 (g.k+g.start),iv .i64 (0:Nat),iv .i64 d.word.length] (buO g d.word []) hB (by simp) (by rfl) Y5 ?_
          rintro _ _ ⟨L2,rfl,rfl,hL2⟩
          unfold buO
          rw [hcpi]
          repeat' first|((first|refine Br.dec ?_ ?_|refine Br.eqi ?_ ?_)<;>intro h<;>try (exfalso;omega))|refine Z6 ?_|with_reducible exact trivial|(refine Br.mk ?_ ?_<;>intro h)|(refine BrN.mk (fun h => ?_) ?_)|(refine AltVC.mk ?_ ?_)
          all_goals exact fin_mk (vbEq (by simp))
  | pick h e r _ hr hl hT =>
    obtain ⟨hc,_,hsm⟩:=cc_ok e
    have hk:=hc.v.k
    have hn':=hc.v.n
    have hst:=hc.v.start
    have hw12:=hc.w
    have hB:=bushT_spec g d.word hc (g.k+g.start) 0 d.word.length (by omega) (by omega) (Nat.zero_le _) (Nat.le_refl _) [] BI.nil
    have hcpi:((cp (trees g d.word (g.k+g.start) 0 d.word.length):Nat):Int)=(trN g d.word:Nat):=by unfold trN at hsm ⊢;unfold cp;omega
    rw [e] at hpc
    have hstl:st.length≤1000000:=by
      have:=tk_steps hc.p hT
      simp only [List.length_singleton,stA,Nat.one_ne_zero,if_false,Nat.sub_self,List.getD_cons_zero] at this
      omega
    have hpl:Dm.Spec Try.prog 16 [.ag (graD g),.sl 1 (i64s d.word),.sl 1 (i64s st)] (·=iv .i64 r):=Dm.Spec.mono (placeOf_spec g d.word e st hstl) fun x hx=>by
      rcases hx with ⟨K,hK,rfl⟩|⟨hno,_⟩
      · rw [(hT.det hK (r:=[]) (r':=[]) rfl).2.2.1]
      · exact absurd hT (hno r)
    repeat' first|((first|refine Br.dec ?_ ?_|refine Br.eqi ?_ ?_)<;>intro h<;>try (exfalso;omega))|refine Z6 ?_|with_reducible exact trivial|(refine Br.mk ?_ ?_<;>intro h)|(refine BrN.mk (fun h => ?_) ?_)|(refine AltVC.mk ?_ ?_)
    refine CallVC.eq hpc ?_
    repeat' first|((first|refine Br.dec ?_ ?_|refine Br.eqi ?_ ?_)<;>intro h<;>try (exfalso;omega))|refine Z6 ?_|with_reducible exact trivial|(refine Br.mk ?_ ?_<;>intro h)|(refine BrN.mk (fun h => ?_) ?_)|(refine AltVC.mk ?_ ?_)
    refine DrawVC.t ?_
    repeat' first|((first|refine Br.dec ?_ ?_|refine Br.eqi ?_ ?_)<;>intro h<;>try (exfalso;omega))|refine Z6 ?_|with_reducible exact trivial|(refine Br.mk ?_ ?_<;>intro h)|(refine BrN.mk (fun h => ?_) ?_)|(refine AltVC.mk ?_ ?_)
    all_goals
      refine CallP.lend [.ag (graD g),.sl 1 (i64s d.word)] (grow_bspec g d.word) Y24 ?_
      rintro _ _ ⟨rfl,rfl⟩
      repeat' first|((first|refine Br.dec ?_ ?_|refine Br.eqi ?_ ?_)<;>intro h<;>try (exfalso;omega))|refine Z6 ?_|with_reducible exact trivial|(refine Br.mk ?_ ?_<;>intro h)|(refine BrN.mk (fun h => ?_) ?_)|(refine AltVC.mk ?_ ?_)
      all_goals
        refine CallVC.lendE [5,4] [.ptr 0 6 0 0,iv .i64 (g.k+g.start),iv .i64 (0:Nat),iv .i64 d.word.length] (buO g d.word []) hB (by simp) (by rfl) Y5 ?_
        rintro _ _ ⟨L2,rfl,rfl,hL2⟩
        unfold buO
        rw [hcpi]
        repeat' first|((first|refine Br.dec ?_ ?_|refine Br.eqi ?_ ?_)<;>intro h<;>try (exfalso;omega))|refine Z6 ?_|with_reducible exact trivial|(refine Br.mk ?_ ?_<;>intro h)|(refine BrN.mk (fun h => ?_) ?_)|(refine AltVC.mk ?_ ?_)
        all_goals
          refine CallP.eq hpl (by simp) ?_
          repeat' first|((first|refine Br.dec ?_ ?_|refine Br.eqi ?_ ?_)<;>intro h<;>try (exfalso;omega))|refine Z6 ?_|with_reducible exact trivial|(refine Br.mk ?_ ?_<;>intro h)|(refine BrN.mk (fun h => ?_) ?_)|(refine AltVC.mk ?_ ?_)
          all_goals exact fin_mk (vbEq (by simp [hr]))
  | plC h e =>
    repeat' first|((first|refine Br.dec ?_ ?_|refine Br.eqi ?_ ?_)<;>intro h<;>try (exfalso;omega))|refine Z2 ?_|with_reducible exact trivial|(refine Br.mk ?_ ?_<;>intro h)|(refine BrN.mk (fun h => ?_) ?_)|(refine AltVC.mk ?_ ?_)
    refine CallVC.eq hpc ?_
    repeat' first|((first|refine Br.dec ?_ ?_|refine Br.eqi ?_ ?_)<;>intro h<;>try (exfalso;omega))|refine Z2 ?_|with_reducible exact trivial|(refine Br.mk ?_ ?_<;>intro h)|(refine BrN.mk (fun h => ?_) ?_)|(refine AltVC.mk ?_ ?_)
    all_goals exact fin_mk (vbEq (by simp))
  | plL h e hl =>
    rw [e] at hpc
    repeat' first|((first|refine Br.dec ?_ ?_|refine Br.eqi ?_ ?_)<;>intro h<;>try (exfalso;omega))|refine Z2 ?_|with_reducible exact trivial|(refine Br.mk ?_ ?_<;>intro h)|(refine BrN.mk (fun h => ?_) ?_)|(refine AltVC.mk ?_ ?_)
    refine CallVC.eq hpc ?_
    repeat' first|((first|refine Br.dec ?_ ?_|refine Br.eqi ?_ ?_)<;>intro h<;>try (exfalso;omega))|refine Z2 ?_|with_reducible exact trivial|(refine Br.mk ?_ ?_<;>intro h)|(refine BrN.mk (fun h => ?_) ?_)|(refine AltVC.mk ?_ ?_)
    all_goals exact fin_mk (vbEq (by simp))
  | plN h e hl hn =>
    rw [e] at hpc
    have hpl:Dm.Spec Try.prog 16 [.ag (graD g),.sl 1 (i64s d.word),.sl 1 (i64s d.steps)] (·=iv .i64 (-1)):=Dm.Spec.mono (placeOf_spec g d.word e d.steps (by omega)) fun x hx=>by
      rcases hx with ⟨K,hK,_⟩|⟨_,rfl⟩
      · exact absurd hK (hn K)
      · rfl
    repeat' first|((first|refine Br.dec ?_ ?_|refine Br.eqi ?_ ?_)<;>intro h<;>try (exfalso;omega))|refine Z2 ?_|with_reducible exact trivial|(refine Br.mk ?_ ?_<;>intro h)|(refine BrN.mk (fun h => ?_) ?_)|(refine AltVC.mk ?_ ?_)
    refine CallVC.eq hpc ?_
    repeat' first|((first|refine Br.dec ?_ ?_|refine Br.eqi ?_ ?_)<;>intro h<;>try (exfalso;omega))|refine Z2 ?_|with_reducible exact trivial|(refine Br.mk ?_ ?_<;>intro h)|(refine BrN.mk (fun h => ?_) ?_)|(refine AltVC.mk ?_ ?_)
    refine CallVC.eq hpl ?_
    repeat' first|((first|refine Br.dec ?_ ?_|refine Br.eqi ?_ ?_)<;>intro h<;>try (exfalso;omega))|refine Z2 ?_|with_reducible exact trivial|(refine Br.mk ?_ ?_<;>intro h)|(refine BrN.mk (fun h => ?_) ?_)|(refine AltVC.mk ?_ ?_)
    all_goals exact fin_mk (vbEq (by simp))
  | pl h e hl K hT =>
    rw [e] at hpc
    have hpl:Dm.Spec Try.prog 16 [.ag (graD g),.sl 1 (i64s d.word),.sl 1 (i64s d.steps)] (·=iv .i64 K):=Dm.Spec.mono (placeOf_spec g d.word e d.steps (by omega)) fun x hx=>by
      rcases hx with ⟨K',hK,rfl⟩|⟨hno,_⟩
      · rw [(hT.det hK (r:=[]) (r':=[]) rfl).2.2.1]
      · exact absurd hT (hno K)
    repeat' first|((first|refine Br.dec ?_ ?_|refine Br.eqi ?_ ?_)<;>intro h<;>try (exfalso;omega))|refine Z2 ?_|with_reducible exact trivial|(refine Br.mk ?_ ?_<;>intro h)|(refine BrN.mk (fun h => ?_) ?_)|(refine AltVC.mk ?_ ?_)
    refine CallVC.eq hpc ?_
    repeat' first|((first|refine Br.dec ?_ ?_|refine Br.eqi ?_ ?_)<;>intro h<;>try (exfalso;omega))|refine Z2 ?_|with_reducible exact trivial|(refine Br.mk ?_ ?_<;>intro h)|(refine BrN.mk (fun h => ?_) ?_)|(refine AltVC.mk ?_ ?_)
    refine CallVC.eq hpl ?_
    repeat' first|((first|refine Br.dec ?_ ?_|refine Br.eqi ?_ ?_)<;>intro h<;>try (exfalso;omega))|refine Z2 ?_|with_reducible exact trivial|(refine Br.mk ?_ ?_<;>intro h)|(refine BrN.mk (fun h => ?_) ?_)|(refine AltVC.mk ?_ ?_)
    refine CallP.eq hpl (by simp) ?_
    repeat' first|((first|refine Br.dec ?_ ?_|refine Br.eqi ?_ ?_)<;>intro h<;>try (exfalso;omega))|refine Z2 ?_|with_reducible exact trivial|(refine Br.mk ?_ ?_<;>intro h)|(refine BrN.mk (fun h => ?_) ?_)|(refine AltVC.mk ?_ ?_)
    all_goals exact fin_mk (vbEq (by simp))
  | none h =>
    repeat' first|((first|refine Br.dec ?_ ?_|refine Br.eqi ?_ ?_)<;>intro h<;>try (exfalso;omega))|refine Z2 ?_|with_reducible exact trivial|(refine Br.mk ?_ ?_<;>intro h)|(refine BrN.mk (fun h => ?_) ?_)|(refine AltVC.mk ?_ ?_)
    all_goals exact fin_mk (vbEq (by simp))
set_option maxRecDepth 10000 in
set_option maxHeartbeats 4000000 in
theorem standPlays_spec (k : Int) (hk : ok64 k) (n : Int) (hn : ok64 n) (ds : List Deed) (hs : okDs ds) : Dm.Spec Try.prog 8 [iv .i64 k, iv .i64 n, .sl 6 (tbl deeD ds)] (· = .v (.bool true)) := by
  refine spec_of_vc mixed Try.func8 c8 (by rw [show Try.f8.ntmps=_ from Try.ntmps8];simp) ?_
  unfold m8 r8
  have hdl:=maxLen_le hs.1.1
  have hok0:(g0 k n).ok:=⟨hk,hn,show ok64 0 from ⟨by decide,by decide⟩,Nat.zero_le _,fun x hx=>(by cases hx)⟩
  have hp:=play_spec k n hk hn ds hs.1
  have hck:=refGCheck_spec (g0 k n) hok0
  rw [g0_graD] at hck
  have hle:Les [D.ag [iv .i64 k,iv .i64 n,iv .i64 0,.nl]] [D.ag [iv .i64 k,iv .i64 n,iv .i64 0,.sl 2 []]]:=.cons (Le_ag rfl fun i hi=>by
    match i,hi with
    | 0,_=>exact Le_refl _
    | 1,_=>exact Le_refl _
    | 2,_=>exact Le_refl _
    | 3,_=>exact Le_nl 2) .nil
  repeat' first|((first|refine Br.dec ?_ ?_|refine Br.eqi ?_ ?_)<;>intro h<;>try (exfalso;omega))|refine Z2 ?_|with_reducible exact trivial|(refine Br.mk ?_ ?_<;>intro h)|(refine BrN.mk (fun h => ?_) ?_)|(refine AltVC.mk ?_ ?_)
  refine CallVC.mk hp ?_
  rintro _ (⟨h0,rfl⟩|⟨h0,h40,rfl⟩|⟨h0,h40,l,rfl,hT⟩)
  · repeat' first|((first|refine Br.dec ?_ ?_|refine Br.eqi ?_ ?_)<;>intro h<;>try (exfalso;omega))|refine Z2 ?_|with_reducible exact trivial|(refine Br.mk ?_ ?_<;>intro h)|(refine BrN.mk (fun h => ?_) ?_)|(refine AltVC.mk ?_ ?_)
    refine CallVC.les hle hck ?_
    repeat' first|((first|refine Br.dec ?_ ?_|refine Br.eqi ?_ ?_)<;>intro h<;>try (exfalso;omega))|refine Z2 ?_|with_reducible exact trivial|(refine Br.mk ?_ ?_<;>intro h)|(refine BrN.mk (fun h => ?_) ?_)|(refine AltVC.mk ?_ ?_)
    all_goals exact fin_mk (vbEq (by simp))
  · rw [h0] at hck
    repeat' first|((first|refine Br.dec ?_ ?_|refine Br.eqi ?_ ?_)<;>intro h<;>try (exfalso;omega))|refine Z2 ?_|with_reducible exact trivial|(refine Br.mk ?_ ?_<;>intro h)|(refine BrN.mk (fun h => ?_) ?_)|(refine AltVC.mk ?_ ?_)
    refine CallVC.les hle hck ?_
    repeat' first|((first|refine Br.dec ?_ ?_|refine Br.eqi ?_ ?_)<;>intro h<;>try (exfalso;omega))|refine Z2 ?_|with_reducible exact trivial|(refine Br.mk ?_ ?_<;>intro h)|(refine BrN.mk (fun h => ?_) ?_)|(refine AltVC.mk ?_ ?_)
    all_goals exact fin_mk (vbEq (by simp))
  · have hll:=hT.1
    have hv:=VG0 h0
    rw [h0] at hck
    repeat' first|((first|refine Br.dec ?_ ?_|refine Br.eqi ?_ ?_)<;>intro h<;>try (exfalso;omega))|refine Z2 ?_|with_reducible exact trivial|(refine Br.mk ?_ ?_<;>intro h)|(refine BrN.mk (fun h => ?_) ?_)|(refine AltVC.mk ?_ ?_)
    refine CallVC.les hle hck ?_
    repeat' first|((first|refine Br.dec ?_ ?_|refine Br.eqi ?_ ?_)<;>intro h<;>try (exfalso;omega))|refine Z2 ?_|with_reducible exact trivial|(refine Br.mk ?_ ?_<;>intro h)|(refine BrN.mk (fun h => ?_) ?_)|(refine AltVC.mk ?_ ?_)
    refine LoopVC.mk (X:=Nat) (fun i=>[(51,iv .i64 i)]) (fun _=>[]) (fun i=>ds.length - i) (fun i=>i≤ds.length) 0 (Nat.zero_le _) ?_ ?_
    · (simp (disch:=first|omega|(simp only [vlen];first|done|omega)) only [Fits_u,Fits_m,Fits_nil,List.length_append,vtu,↓vAq,vBq,↓reduceIte,Nat.reduceBEq,Nat.reduceEqDiff,Nat.reduceLT,Nat.reduceLeDiff,Nat.reduceAdd,Nat.reduceMul,Nat.reduceSub,reduceCtorEq,Int.reduceToNat]<;>(repeat' first|rfl|apply And.intro))
    · rintro i hi
      by_cases hlt:i<ds.length
      · have hdd:=hs.1.2 _ (getD_mem' hlt)
        have hvi:=hv.nxs (ds.take i)
        have hoi:=ok_nxs hv hok0 (l:=ds.take i) fun d hd=>okD_ok hs.1 d (List.mem_of_mem_take hd)
        have hst:=refStand_spec k n hk hn h0 (ds.take i) ⟨by have:=hs.1.1;simp;omega,fun x hx=>hs.1.2 x (List.mem_of_mem_take hx)⟩
        have htd:=told_spec _ hvi hoi _ hdd _ (hT.2 i (by omega))
        repeat' first|((first|refine Br.dec ?_ ?_|refine Br.eqi ?_ ?_)<;>intro h<;>try (exfalso;omega))|refine Z2 ?_|with_reducible exact trivial|(refine Br.mk ?_ ?_<;>intro h)|(refine BrN.mk (fun h => ?_) ?_)|(refine AltVC.mk ?_ ?_)
        refine CallP.eq hst (by simp) ?_
        repeat' first|((first|refine Br.dec ?_ ?_|refine Br.eqi ?_ ?_)<;>intro h<;>try (exfalso;omega))|refine Z2 ?_|with_reducible exact trivial|(refine Br.mk ?_ ?_<;>intro h)|(refine BrN.mk (fun h => ?_) ?_)|(refine AltVC.mk ?_ ?_)
        refine CallP.eq htd (by simp) ?_
        repeat' first|((first|refine Br.dec ?_ ?_|refine Br.eqi ?_ ?_)<;>intro h<;>try (exfalso;omega))|refine Z2 ?_|with_reducible exact trivial|(refine Br.mk ?_ ?_<;>intro h)|(refine BrN.mk (fun h => ?_) ?_)|(refine AltVC.mk ?_ ?_)
        exact loopK.mk (i+1) Y11 (by omega) (by omega) (by (simp (disch:=first|omega|(simp only [vlen];first|done|omega)) only [Fits_u,Fits_m,Fits_nil,List.length_append,vtu,↓vAq,vBq,↓reduceIte,Nat.reduceBEq,Nat.reduceEqDiff,Nat.reduceLT,Nat.reduceLeDiff,Nat.reduceAdd,Nat.reduceMul,Nat.reduceSub,reduceCtorEq,Int.reduceToNat]<;>(repeat' first|rfl|apply And.intro)))
      · repeat' first|((first|refine Br.dec ?_ ?_|refine Br.eqi ?_ ?_)<;>intro h<;>try (exfalso;omega))|refine Z2 ?_|with_reducible exact trivial|(refine Br.mk ?_ ?_<;>intro h)|(refine BrN.mk (fun h => ?_) ?_)|(refine AltVC.mk ?_ ?_)
        exact fin_mk (vbEq rfl)
end Go.Proofs.Ytjekkbpdgnohcaa
