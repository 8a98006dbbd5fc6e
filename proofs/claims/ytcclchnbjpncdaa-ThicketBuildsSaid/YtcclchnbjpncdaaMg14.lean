/-
 Texts of this claim, one behind another.
-/
import Derived.Test.YtcclchnbjpncdaaMg11
import Derived.WalkKit
import Derived.Shelf.SlSortCmp.NoneTotal
import Derived.Test.YtcclchnbjpncdaaMg13
set_option linter.unusedSimpArgs false
set_option linter.unnecessarySimpa false
set_option linter.unusedVariables false
set_option linter.defProp false
namespace Go.Dm
open Go.RowKit Go.Lib Go.Shelf Go.Proofs
theorem HR.resetK {G:Gw} {w:World} {A:Nat→Prop} {β:Nat→Option Nat} {γ:Nat→Option (Nat × List Nat)} {N:Nat} {M:Nat→Option Ob} (g:HR G w A β γ N M) {τ b:Nat} {ob ob':Ob} (hτ:τ<N) (hM:M τ=some ob) (hkd:ob'.kd=ob.kd) (hk:ob.kd.isMap=false) (hβ:β τ=some b) {arr arr':Array Value} {T:TypeId} (hh:w.heap[b]?=some (.cells arr T (0,0))) (hs:arr'.size=arr.size)
    (hl:ob'.es.length * ob'.sz≤arr.size) (he:∀ i,i<ob'.es.length→(ob'.es.getD i []).length=ob'.sz) (how:ob'.ow=false→∀ i j,i<ob'.es.length→j<ob'.sz→((ob'.es.getD i []).getD j .junk).isOwn=false)
    (hr:∀ i j,i<ob'.es.length→j<ob'.sz→CDR ob'.flat w A β γ N τ [i * ob'.sz+j] ((ob'.es.getD i []).getD j .junk) (arr'.getD (i * ob'.sz+j) undef)):HR G (w.setRow b arr') A β γ N (fun σ=>if σ=τ then some ob' else M σ):=by
  have hMn:M τ ≠ none:=by rw [hM];simp
  have hroot:=g.root τ b hτ hMn hβ
  obtain ⟨_,hbA,hbO,_⟩:=g.own b τ [] hroot hτ hMn
  have hvis:Vis w (w.setRow b arr'):=Vis.cells hh (setRow_heap w b arr arr' T (0,0) hh) (fun c e=>setRow_other w b c arr' e)
  have hA:∀ c,A c→(w.setRow b arr').heap[c]?=w.heap[c]?:=fun c hc=>setRow_other w b c arr' (fun e=>hbA (e ▸ hc))
  have hsh:=Shp.setRow hh hs
  have hMs:∀ σ,(fun σ=>if σ=τ then some ob' else M σ) σ=if σ=τ then some ob' else M σ:=fun _=>rfl
  have live:∀ σ,(fun σ=>if σ=τ then some ob' else M σ) σ ≠ none→M σ ≠ none:=fun σ h=>by
    rw [hMs] at h
    by_cases e:σ=τ
    · rw [e];exact hMn
    · rwa [if_neg e] at h
  have hown:∀ σ c π,π ≠ []→γ c=some (σ,π)→(w.setRow b arr').heap[c]?=w.heap[c]?∧γ c=some (σ,π):=fun σ c π hp hc=>⟨setRow_other w b c arr' (fun e=>by
    rw [e,hroot] at hc;simp only [Option.some.injEq,Prod.mk.injEq] at hc;exact hp hc.2.symm),hc⟩
  refine ⟨Bel.setRow g.below hbO arr' hsh,g.sub,g.up,fun c hc=>by rw [setRow_size];exact g.low c hc,fun σ ob hσ hm => ?_,fun c σ π h1 h2 h3=>let q:=g.own c σ π h1 h2 (live σ h3);⟨by rw [setRow_size];exact q.1,q.2.1,q.2.2.1,hvis.noth q.1 q.2.2.2⟩,fun σ c h1 h2 h3=>g.root σ c h1 (live σ h2) h3,g.ge,g.flt,fun σ hF=>⟨(g.fixd σ hF).1,fun ob hm => ?_⟩⟩
  · (try rw [hMs] at hm)
    by_cases e:σ=τ
    · subst e
      rw [if_pos rfl] at hm;cases hm
      refine ⟨he,how,.inr ⟨b,_,fun i j=>arr'.getD (i * ob'.sz+j) undef,hβ,setRow_heap w b arr arr' T (0,0) hh,?_,fun i j hi hj=>(hr i j hi hj).mono (by simp) hA (fun _ h=>h) hsh (Nat.le_refl _) (fun _ _=>rfl) (hown σ)⟩⟩
      rw [hkd]
      cases hkd2:ob.kd with
      | map k ka va=>rw [hkd2] at hk;cases hk
      | itr=>rw [hkd2] at hk;cases hk
      | arr=>exact ⟨arr',T,rfl,by omega,fun _ _ _ _=>rfl⟩
      | fix=>exact ⟨arr',T,rfl,by omega,fun _ _ _ _=>rfl⟩
    · rw [if_neg e] at hm
      refine (g.objs σ ob hσ hm).mono hσ hA (fun _ h=>h) hsh (Nat.le_refl _) (fun _ _=>rfl) (hown σ) (fun c hc=>setRow_other w b c arr' ?_)
      rintro rfl
      have:=g.root σ c hσ (by rw [hm];simp) hc
      rw [hroot] at this;simp only [Option.some.injEq,Prod.mk.injEq] at this
      exact e this.1.symm
  · (try rw [hMs] at hm)
    by_cases e:σ=τ
    · subst e;rw [if_pos rfl] at hm;cases hm
      rw [hkd];exact (g.fixd σ hF).2 _ hM
    · rw [if_neg e] at hm;exact (g.fixd σ hF).2 ob hm
section
variable {α:Type}
def vrw (enc:α→List Value) (l:List α):List (List D):=l.map fun x=>(enc x).map D.v
theorem vrw_len {enc:α→List Value} {l:List α}:(vrw enc l).length=l.length:=by simp [vrw]
variable [Inhabited α]
theorem vrw_get {enc:α→List Value} {l:List α} {i:Nat} (h:i<l.length):(vrw enc l).getD i []=(enc l[i]!).map D.v:=by simp [vrw,List.getD,h]
theorem vcl1 {l:List Value} {j:Nat} (h:j<l.length):(l.map D.v).getD j .junk=.v l[j]! := by simp [List.getD,h]
theorem mapv_own {l:List Value} {j:Nat}:((l.map D.v).getD j .junk).isOwn=false:=by
  simp only [List.getD,List.getElem?_map]
  cases l[j]?<;>rfl
theorem clo_nil {w:World} {A:Nat→Prop} {β:Nat→Option Nat} {N f:Nat} {v:Value} (h:DR w A β N (.clo f []) v):v=.func (.func f) #[] #[]:=by
  cases h with
  | cl d x h =>
    cases h with
    | clo f ds cs hn hr =>
      obtain ⟨cs⟩:=cs
      have:cs=[]:=List.eq_nil_of_length_eq_zero (by simpa using hn)
      rw [this]
  | clo f ds cs hn hr =>
    obtain ⟨cs⟩:=cs
    have:cs=[]:=List.eq_nil_of_length_eq_zero (by simpa using hn)
    rw [this]
theorem belowK {w:World} {b n:Nat} {arr:Array Value} {T:TypeId} {F:Array Value} {os:Array Obj} (hh:w.heap[b]?=some (.cells arr T (0,0))):Below (w.setRow b (Go.Sort.putCells id 0 F arr)).heap.size (w.setRow b (Go.Sort.putCells id 0 F arr)) (Go.Sort.grow (Go.Sort.putRow id (Go.Sort.ahead w n) b 0 F) os):=by
  refine ⟨rfl,rfl,rfl,?_,fun k hk => ?_⟩
  · show _≤(Go.Sort.grow _ _).heap.size
    rw [Go.Sort.size_grow,Go.Sort.size_putRow,setRow_size]
    exact Nat.le_add_right _ _
  · rw [setRow_size] at hk
    show (Go.Sort.grow _ _).heap[k]?=_
    rw [Go.Sort.heap_grow_old _ _ (by rw [Go.Sort.size_putRow];exact hk)]
    by_cases e:k=b
    · subst e
      rw [setRow_heap w k arr _ T (0,0) hh]
      simp [Go.Sort.putRow,Go.Sort.mapBlock,Go.Sort.ahead,Array.getElem?_modify,hh,Go.Sort.onCells]
    · rw [setRow_other w b k _ e]
      simp [Go.Sort.putRow,Go.Sort.mapBlock,Go.Sort.ahead,Array.getElem?_modify,Ne.symm e]
theorem sorted_of {lt:α→α→Bool} {d':Array α} (h:Go.Sort.SortedIn lt 0 d'.size d'):d'.toList.Pairwise fun x y=>lt y x=false:=by
  rw [List.pairwise_iff_getElem]
  intro i j hi hj hij
  have hj':j<d'.size:=by simpa using hj
  have hi':i<d'.size:=by omega
  have:=h i j (Nat.zero_le _) hij hj'
  rw [getElem!_pos d' j hj',getElem!_pos d' i hi'] at this
  simpa using this
def vrOd (kd:Kd) (enc:α→List Value) (k:Nat) (l:List α):Ob:=⟨k,vrw enc l,true,false,kd⟩
set_option maxHeartbeats 1000000 in
theorem sortKd_spec {P : Program} {ρ : Ren} (L : SlLaysF0.n6 P ρ) (hF : FnOk P (ρ.f 6)) {k : Nat} (k0 : 0 < k) (aE : ∀ w, (isAgg (ρ.t 24)).run P w = .ok true w) (zE : ∀ w, (Go.sizeOf (ρ.t 24)).run P w = .ok k w) {enc : α → List Value} (hk : ∀ x, (enc x).length = k) (h1 : ∀ x, ∀ v ∈ enc x, v.oneCell' = true)
    {cf:α→α→Int} (hO:Go.Sort.SWO (ltOf cf)) {g:FuncId} (eg:∀ args w,(callFunc g args).run P w=.ok (.enter g args) w)
    (hcmp:∀ x y W,Calls P g #[.agg (enc x).toArray,.agg (enc y).toArray] W fun e w'=>e=.returned (.int .i64 (cf x y)) ∧ ∃ q os',w'=Go.Sort.grow (W.drewN q) os')
    (M0:Ob) (kd:Kd) (hkd:kd.isMap=false) (l:List α) (hl:l.length≤100000000):Dm.SpecH P (ρ.f 6) [.ref 1 k 0 l.length,.clo g []] [M0,vrOd kd enc k l] (fun d o=>d=.tu [] ∧ ∃ l',l'.Perm l∧(l'.Pairwise fun x y=>ltOf cf y x=false)∧o=[some M0,some (vrOd kd enc k l')]):=by
  refine ⟨hF,fun w A β γ vs hH hvs hdr => ?_⟩
  obtain ⟨v0,v1,rfl⟩ : ∃ v0 v1,vs = #[v0,v1]:=by
    obtain ⟨vs⟩:=vs
    match vs,hvs with
    | [x,y],_=>exact ⟨x,y,rfl⟩
  have h0:DR w A β 2 (.ref 1 k 0 l.length) v0:=hdr 0 (by simp)
  have hv1:DR w A β 2 (.clo g []) v1:=hdr 1 (by simp)
  clear hdr hvs
  have ev1:=clo_nil hv1
  subst ev1
  clear hv1
  have hend:∀ l',l'.Perm l→(l'.Pairwise fun x y=>ltOf cf y x=false)→∀ w',HR (Gw.at w A β γ 2 (mAll [M0,vrOd kd enc k l])) w' A β γ 2 (mOf [some M0,some (vrOd kd enc k l')]) → ∃ x d o A' β' γ',Ending.returned (.tuple #[])=Ending.returned x∧(d=.tu [] ∧ ∃ l',l'.Perm l∧(l'.Pairwise fun x y=>ltOf cf y x=false)∧o=[some M0,some (vrOd kd enc k l')])∧HR (Gw.at w A β γ 2 (mAll [M0,vrOd kd enc k l])) w' A' β' γ' o.length (mOf o)∧DR w' A' β' o.length d x :=
    fun l' hp hs w' h=>⟨_,.tu [],[some M0,some (vrOd kd enc k l')],A,β,γ,rfl,⟨rfl,l',hp,hs,rfl⟩,h,.cl _ _ (.tu [] #[] rfl fun i hi=>by simp at hi)⟩
  by_cases hne:l=[]
  · subst hne
    obtain ⟨p,c,rfl⟩ : ∃ p c,v0=.slice p 0 c:=by
      cases h0 with
      | cl d x h=>cases h
      | ref τ sz off n c b arr T hN hb hc hh hr=>exact ⟨_,_,rfl⟩
      | refz τ sz off b hN=>exact ⟨_,_,rfl⟩
    have hcon:=AnyF.slices_SortFunc_none L p c (.func (.func g) #[] #[]) w
    refine hcon.mono ?_
    rintro e w' ⟨rfl,rfl⟩
    exact hend [] (.refl _) .nil _ hH
  · have hn0:0<l.length:=List.length_pos_iff.2 hne
    obtain ⟨b1,c1,rfl,hβ1,hc1⟩ : ∃ b1 c1,v0=.slice (some ⟨b1,0,none⟩) l.length c1∧β 1=some b1∧l.length≤c1:=by
      generalize hm:l.length=m at h0 hn0
      cases h0 with
      | cl d x h=>cases h
      | ref τ sz off n c b arr T hN hb hc hh hr=>exact ⟨b,c,by simp,hb,hc⟩
      | refz τ sz off b hN=>omega
    obtain ⟨arr,T,hh,hs,hcd⟩:=hH.cells (τ:=1) (ob:=vrOd kd enc k l) (by simp) rfl hkd hβ1
    have hs:l.length * k≤arr.size:=by
      have:(vrw enc l).length * k≤arr.size:=hs
      rwa [vrw_len] at this
    obtain ⟨hb1s,hb1A,_⟩:=hH.blk (τ:=1) (by simp) (by intro h;cases h) hβ1
    have hsza:l.toArray.size=l.length:=by simp
    have hval:∀ i j,i<l.length→j<k→arr.getD (i * k+j) undef=(enc l[i]!)[j]! := fun i j hi hj=>by
      have hD:(((vrOd kd enc k l).es.getD i []).getD j .junk)=.v (enc l[i]!)[j]! := by
        show ((vrw enc l).getD i []).getD j .junk=_
        rw [vrw_get hi,vcl1 (by rw [hk];exact hj)]
      have h:=(hcd i j (by show i<(vrw enc l).length;rw [vrw_len];exact hi) hj).1 (by rw [hD];rfl)
      rw [hD] at h
      have h2:CR w A (.v (enc l[i]!)[j]!) (arr.getD (i * k+j) undef):=h.toC (by unfold D.cl;rw [alls_leaf rfl];rfl)
      generalize arr.getD (i * k+j) undef=z at h2
      cases h2;rfl
    have hHold:Go.Sort.HoldsK enc k w b1 0 l.toArray:=fun t ht=>by
      rw [Go.Sort.size_flatK,hsza] at ht
      have hta:t<arr.size:=Nat.lt_of_lt_of_le ht hs
      have hi:t / k<l.length:=(Nat.div_lt_iff_lt_mul k0).2 ht
      have hj:t % k<k:=Nat.mod_lt _ k0
      have he:t / k * k+t % k=t:=by rw [Nat.mul_comm];exact Nat.div_add_mod t k
      constructor
      · have h:=hval (t / k) (t % k) hi hj
        rw [he] at h
        rw [Go.Sort.get_flatK _ _ _ _ (by rw [hsza];exact ht)]
        have e2:l.toArray[t / k]! = l[t / k]! := by simp
        rw [e2]
        have e3:arr[t]?=some ((enc l[t / k]!)[t % k]!):=by
          rw [Array.getElem?_eq_getElem hta,← h];simp [Array.getD,hta]
        simp only [World.cell?,hh,Option.isSome_none,Bool.false_eq_true,if_false,Nat.zero_add]
        rw [e3];rfl
      · simp [World.frozen?,hh]
    have hcon:=AnyQ.slices_SortFunc L k aE zE enc hk h1 cf hO g #[] b1 0 c1 l.toArray w eg (fun m os dk hdk x y=>hcmp x y _) hHold hb1s (by rw [hsza];omega)
    rw [hsza] at hcon
    refine hcon.mono ?_
    rintro e w' ⟨rfl,d',m,os,hp,hsr,rfl⟩
    obtain ⟨p1,_,p3⟩:=hp
    rw [hsza] at p1
    have hperm:d'.toList.Perm l:=by
      have e1:d'.extract 0 l.length=d':=by rw [← p1];simp
      rw [e1] at p3
      simpa using p3
    have hsrt:d'.toList.Pairwise fun x y=>ltOf cf y x=false:=sorted_of (by rw [p1];exact hsr)
    refine hend d'.toList hperm hsrt _ ?_
    have hdl:d'.toList.length=l.length:=by simpa using p1
    have hW:=HR.resetK hH (τ:=1) (ob:=vrOd kd enc k l) (ob':=vrOd kd enc k d'.toList) (by simp) rfl rfl hkd hβ1 hh (arr':=Go.Sort.putCells id 0 (Go.Sort.flatK enc k d') arr) (by simp [Go.Sort.putCells]) (by show (vrw enc d'.toList).length * k≤_;rw [vrw_len,hdl];exact hs)
      (fun i hi=>by
        have hi:i<(vrw enc d'.toList).length:=hi
        rw [vrw_len] at hi
        show ((vrw enc d'.toList).getD i []).length=k
        rw [vrw_get hi,List.length_map,hk])
      (fun _ i j hi hj=>by
        have hi:i<(vrw enc d'.toList).length:=hi
        rw [vrw_len] at hi
        show (((vrw enc d'.toList).getD i []).getD j .junk).isOwn=false
        rw [vrw_get hi];exact mapv_own)
      (fun i j hi hj=>by
        have hi:i<(vrw enc d'.toList).length:=hi
        have hj:j<k:=hj
        rw [vrw_len] at hi
        have hi2:i<d'.size:=by simpa using hi
        have hlt:i * k+j<d'.size * k:=by
          have:=Nat.mul_le_mul_right k (show i+1≤d'.size from hi2)
          rw [Nat.succ_mul] at this;omega
        have hD:(((vrOd kd enc k d'.toList).es.getD i []).getD j .junk)=.v (enc d'.toList[i]!)[j]! := by
          show ((vrw enc d'.toList).getD i []).getD j .junk=_
          rw [vrw_get hi,vcl1 (by rw [hk];exact hj)]
        have hia:i * k+j<arr.size:=by rw [p1] at hlt;omega
        have e1:(Go.Sort.putCells id 0 (Go.Sort.flatK enc k d') arr).getD (i * k+j) undef=(enc d'.toList[i]!)[j]! := by
          have e4:(i * k+j) / k=i:=by rw [Nat.mul_comm,Nat.mul_add_div k0,Nat.div_eq_of_lt hj];rfl
          have e5:(i * k+j) % k=j:=by rw [Nat.mul_comm,Nat.mul_add_mod];exact Nat.mod_eq_of_lt hj
          have e6:=Go.Sort.get_flatK enc k d' (i * k+j) hlt
          rw [e4,e5] at e6
          have e7:d'[i]! = d'.toList[i]! := by rw [getElem!_pos d' i hi2,getElem!_pos d'.toList i hi];simp
          rw [e7] at e6
          rw [← e6]
          simp [Go.Sort.putCells,Array.getD,hia,hlt]
        rw [hD]
        show CDR _ _ _ _ _ _ _ _ _ ((Go.Sort.putCells id 0 (Go.Sort.flatK enc k d') arr).getD (i * k+j) undef)
        rw [e1]
        exact ⟨fun _=>.cl _ _ (.v _),fun _=>.cr _ _ _ (.v _),h1 _ _ (by rw [getElem!_pos _ j (by rw [hk];exact hj)];exact List.getElem_mem _)⟩)
    have hW2:=HR.world hW (belowK (n:=m) (F:=Go.Sort.flatK enc k d') (os:=os) hh)
    refine HR.sub_ hW2 fun τ ob h => ?_
    match τ with
    | 0=>exact h
    | 1=>exact h
    | τ+2=>simp [mOf] at h
end
end Go.Dm

namespace Go.Proofs.Ytcclchnbjpncdaa
open Go.RowKit Go.Dm Go.Lib Go.Shelf
theorem lcmp_self:∀ (u:List Int),lcmp u u=0
  | []=>rfl
  | x::u=>by show (if cmpI x x=0 then lcmp u u else _)=0;rw [if_pos cmpI_self];exact lcmp_self u
theorem lcmp_zero:∀ {u v:List Int},lcmp u v=0→u=v
  | [],[],_=>rfl
  | [],_::_,h=>absurd (show (-1:Int)=0 from h) (by decide)
  | _::_,[],h=>absurd (show (1:Int)=0 from h) (by decide)
  | x :: u, y :: v, h => by
    have h:(if cmpI x y=0 then lcmp u v else cmpI x y)=0:=h
    by_cases e:cmpI x y=0
    · rw [if_pos e] at h
      rw [cmpI_zero e,lcmp_zero h]
    · rw [if_neg e] at h;exact absurd h e
theorem cmpI_neg {a b:Int}:cmpI b a = - cmpI a b:=by
  unfold cmpI
  split<;>split<;>first|rfl|omega|(split<;>first|rfl|omega)|skip
  all_goals split<;>first|rfl|omega
theorem lcmp_neg:∀ (u v:List Int),lcmp v u = - lcmp u v
  | [],[]=>rfl
  | [],_::_=>rfl
  | _::_,[]=>rfl
  | x::u,y::v=>by
    show (if cmpI y x=0 then lcmp v u else cmpI y x) = - (if cmpI x y=0 then lcmp u v else cmpI x y)
    have h:=@cmpI_neg x y
    by_cases e:cmpI x y=0
    · rw [if_pos e,if_pos (by omega)];exact lcmp_neg u v
    · rw [if_neg e,if_neg (by omega)];exact h
theorem cmpI_lt_iff {a b:Int}:cmpI a b<0 ↔ a<b:=by
  unfold cmpI
  split
  · exact ⟨fun _=>by assumption,fun _=>by decide⟩
  · split
    · exact ⟨fun h=>absurd h (by decide),fun h=>by omega⟩
    · exact ⟨fun h=>absurd h (by decide),fun h=>by omega⟩
theorem lcmp_trans : ∀ {u v w : List Int}, lcmp u v < 0 → lcmp v w < 0 → lcmp u w < 0
  | [],[],_,h,_=>absurd (show (0:Int)<0 from h) (by decide)
  | [],_::_,[],_,h=>absurd (show (1:Int)<0 from h) (by decide)
  | [],_::_,_::_,_,_=>show (-1:Int)<0 by decide
  | _::_,[],_,h,_=>absurd (show (1:Int)<0 from h) (by decide)
  | _::_,_::_,[],_,h=>absurd (show (1:Int)<0 from h) (by decide)
  | x :: u, y :: v, z :: w, h, k => by
    have h:(if cmpI x y=0 then lcmp u v else cmpI x y)<0:=h
    have k:(if cmpI y z=0 then lcmp v w else cmpI y z)<0:=k
    show (if cmpI x z=0 then lcmp u w else cmpI x z)<0
    by_cases e1:cmpI x y=0
    · have:=cmpI_zero e1
      subst this
      by_cases e2:cmpI x z=0
      · rw [if_pos e1] at h;rw [if_pos e2] at k ⊢;exact lcmp_trans h k
      · rw [if_neg e2] at k ⊢;exact k
    · rw [if_neg e1] at h
      have h1:=cmpI_lt_iff.1 h
      by_cases e2:cmpI y z=0
      · have:=cmpI_zero e2
        subst this
        rw [if_neg e1];exact h
      · rw [if_neg e2] at k
        have h2:=cmpI_lt_iff.1 k
        have h3:cmpI x z<0:=cmpI_lt_iff.2 (by omega)
        rw [if_neg (by omega)];exact h3
theorem lcmp_swo (f:Nat→List Int):Go.Sort.SWO (ltOf fun x y:Nat=>lcmp (f x) (f y)) where
  irrefl x:=by unfold ltOf;simp [lcmp_self]
  trans x y z h1 h2:=by
    simp only [ltOf,decide_eq_true_eq] at *
    exact lcmp_trans h1 h2
  ntrans x y z h1 h2:=by
    simp only [ltOf,decide_eq_false_iff_not] at *
    intro h3
    by_cases e:f x=f y
    · rw [e] at h3;exact h2 h3
    · have hn:=lcmp_neg (f x) (f y)
      have hz:lcmp (f x) (f y) ≠ 0:=fun h=>e (lcmp_zero h)
      exact h2 (lcmp_trans (v:=f x) (by omega) h3)
theorem i64_cells {w:World} {A:Nat→Prop} {l:List Int} {v:Value} (h:CR w A (.sl 1 (i64s l)) v) (hl:l ≠ []) : ∃ b off c,v=.slice (some ⟨b,off,none⟩) l.length c∧l.length≤c∧A b∧∀ j,j<l.length→w.cell? ⟨b,off+j,none⟩=some (.int .i64 (l.getD j 0)):=by
  generalize hes:i64s l=es at h
  have hlen:es.length=l.length:=by rw [← hes];simp [i64s]
  cases h with
  | sl0 sz b c=>exact absurd (List.eq_nil_of_length_eq_zero hlen.symm) hl
  | sl sz es b off n c us hA hn hcap hs hc hr =>
    refine ⟨b,off,c,by rw [← hlen,hn],by omega,hA,fun j hj => ?_⟩
    have h1:=(hc j 0 (by omega) (by omega)).1
    have h2:=hr j 0 (by omega) (by omega)
    have h3:(i64s l).getD j []=[.v (.int .i64 (l.getD j 0))]:=by simp [i64s,List.getD,hj]
    rw [← hes,h3] at h2
    simp only [List.getD_cons_zero] at h2
    generalize us j 0=v at h1 h2
    cases h2
    rw [Nat.mul_one,Nat.add_zero] at h1
    exact h1
def waD (r:List Int):List D:=[.sl 1 (i64s r)]
def waO (R:List (List Int)):Ob:=⟨1,tbl waD R,true,false,.arr⟩
theorem wa_len {R:List (List Int)}:(waO R).es.length=R.length:=tbl_len
theorem wa_get {R:List (List Int)} {i:Nat} (h:i<R.length):(waO R).es.getD i []=[.sl 1 (i64s (R.getD i []))]:=tbl_get h
theorem cl_slw (es:List (List D)):(D.sl 1 es).cl=true:=by unfold D.cl;rw [alls_leaf rfl];rfl
theorem below_sortW {w:World} {b n:Nat} {arr:Array Value} {T:TypeId} {enc:Nat→Value} {d:Array Nat} {os:Array Obj} (hh:w.heap[b]?=some (.cells arr T (0,0))):Below (w.setRow b (Go.Sort.putCells enc 0 d arr)).heap.size (w.setRow b (Go.Sort.putCells enc 0 d arr)) (Go.Proofs.sortWorld enc w b 0 n d os):=by
  refine ⟨rfl,rfl,rfl,?_,fun k hk => ?_⟩
  · show _≤(Go.Sort.grow _ _).heap.size
    rw [Go.Sort.size_grow,Go.Sort.size_putRow,setRow_size]
    exact Nat.le_add_right _ _
  · rw [setRow_size] at hk
    show (Go.Sort.grow _ _).heap[k]?=_
    rw [Go.Sort.heap_grow_old _ _ (by rw [Go.Sort.size_putRow];exact hk)]
    by_cases e:k=b
    · subst e
      rw [setRow_heap w k arr _ T (0,0) hh]
      simp [Go.Sort.putRow,Go.Sort.mapBlock,Go.Sort.ahead,Array.getElem?_modify,hh,Go.Sort.onCells]
    · rw [setRow_other w b k _ e]
      simp [Go.Sort.putRow,Go.Sort.mapBlock,Go.Sort.ahead,Array.getElem?_modify,Ne.symm e]
theorem cell_sortW {w:World} {b n k o:Nat} {enc:Nat→Value} {d:Array Nat} {os:Array Obj} (hk:k ≠ b) (hs:k<w.heap.size):(Go.Proofs.sortWorld enc w b 0 n d os).cell? ⟨k,o,none⟩=w.cell? ⟨k,o,none⟩:=by
  show (Go.Sort.grow _ _).cell? _=_
  rw [Go.Sort.cell?_grow _ _ _ (by rw [Go.Sort.size_putRow];exact hs),Go.Sort.cell?_putRow_other _ _ _ _ _ _ (.inl hk)]
  rfl
theorem map_range_getD {α:Type} {l:List α} {d:α}:(List.range l.length).map (fun i=>l.getD i d)=l:=by
  apply List.ext_getElem
  · simp
  · intro i h1 h2;simp [List.getD,h2]
set_option maxHeartbeats 1000000 in
theorem sortWays_spec (M0 : Ob) (R : List (List Int)) (hR : ∀ r, r ∈ R → r ≠ [] ∧ r.length ≤ 1000) (hl : R.length ≤ 100000000) : Dm.SpecH Try.prog 35 [.ref 1 1 0 R.length, .clo 36 []] [M0, waO R] (fun d o => d = .tu [] ∧ ∃ R', R'.Perm R ∧ (R'.Pairwise fun x y => ¬ lcmp y x < 0) ∧ o = [some M0, some (waO R')]) := by
  refine ⟨⟨_,Try.func35,by kernel_rfl,by kernel_rfl⟩,fun w A β γ vs hH hvs hdr => ?_⟩
  obtain ⟨v0,v1,rfl⟩ : ∃ v0 v1,vs = #[v0,v1]:=by
    obtain ⟨vs⟩:=vs
    match vs,hvs with
    | [x,y],_=>exact ⟨x,y,rfl⟩
  have h0:DR w A β 2 (.ref 1 1 0 R.length) v0:=hdr 0 (by simp)
  have h1:DR w A β 2 (.clo 36 []) v1:=hdr 1 (by simp)
  clear hdr hvs
  have ev1:=clo_nil h1
  subst ev1
  clear h1
  have hend:∀ R',R'.Perm R→(R'.Pairwise fun x y=>¬ lcmp y x<0)→∀ w',HR (Gw.at w A β γ 2 (mAll [M0,waO R])) w' A β γ 2 (mOf [some M0,some (waO R')]) → ∃ x d o A' β' γ',Ending.returned (.tuple #[])=Ending.returned x∧(d=.tu [] ∧ ∃ R',R'.Perm R∧(R'.Pairwise fun x y=>¬ lcmp y x<0)∧o=[some M0,some (waO R')])∧HR (Gw.at w A β γ 2 (mAll [M0,waO R])) w' A' β' γ' o.length (mOf o)∧DR w' A' β' o.length d x :=
    fun R' hp hs w' h=>⟨_,.tu [],[some M0,some (waO R')],A,β,γ,rfl,⟨rfl,R',hp,hs,rfl⟩,h,.cl _ _ (.tu [] #[] rfl fun i hi=>by simp at hi)⟩
  by_cases hne:R=[]
  · subst hne
    obtain ⟨p,c,rfl⟩ : ∃ p c,v0=.slice p 0 c:=by
      cases h0 with
      | cl d x h=>cases h
      | ref τ sz off n c b arr T hN hb hc hh hr=>exact ⟨_,_,rfl⟩
      | refz τ sz off b hN=>exact ⟨_,_,rfl⟩
    have hcon:=AnyF.slices_SortFunc_none { sortB with } p c (.func (.func 36) #[] #[]) w
    change Calls Try.prog 35 _ _ _ at hcon
    refine hcon.mono ?_
    rintro e w' ⟨rfl,rfl⟩
    exact hend [] (.refl _) .nil _ hH
  · have hn0:0<R.length:=List.length_pos_iff.2 hne
    obtain ⟨b1,c1,rfl,hβ1,hc1⟩ : ∃ b1 c1,v0=.slice (some ⟨b1,0,none⟩) R.length c1∧β 1=some b1∧R.length≤c1:=by
      generalize hm:R.length=m at h0 hn0
      cases h0 with
      | cl d x h=>cases h
      | ref τ sz off n c b arr T hN hb hc hh hr=>exact ⟨b,c,by simp,hb,hc⟩
      | refz τ sz off b hN=>omega
    obtain ⟨arr,T,hh,hs,hcd⟩:=hH.cells (τ:=1) (ob:=waO R) (by simp) rfl rfl hβ1
    have hs:R.length≤arr.size:=by
      have:(waO R).es.length * 1≤arr.size:=hs
      rwa [Nat.mul_one,wa_len] at this
    obtain ⟨hb1s,hb1A,_⟩:=hH.blk (τ:=1) (by simp) (by intro h;cases h) hβ1
    have hcell:∀ i,i<R.length→CR w A (.sl 1 (i64s (R.getD i []))) (arr.getD i undef)∧(arr.getD i undef).oneCell'=true:=fun i hi=>by
      obtain ⟨q1,_,q3⟩:=hcd i 0 (by rw [wa_len];exact hi) (by show 0<1;omega)
      have e:i * (waO R).sz+0=i:=by show i * 1+0=i;omega
      rw [e] at q1 q3
      rw [wa_get hi] at q1
      exact ⟨(q1 rfl).toC (cl_slw _),q3⟩
    obtain ⟨ix,hix⟩ : ∃ ix:Nat→Nat,ix=fun x=>min x (R.length - 1):=⟨_,rfl⟩
    have ixl:∀ x,ix x<R.length:=fun x=>by rw [hix];show min x _<_;omega
    have ixe:∀ x,x<R.length→ix x=x:=fun x hx=>by rw [hix];show min x _=_;omega
    obtain ⟨enc,henc⟩ : ∃ enc:Nat→Value,enc=fun x=>arr.getD (ix x) undef:=⟨_,rfl⟩
    have hone:Go.Proofs.OneCell enc:=fun x=>by rw [henc];exact (hcell _ (ixl x)).2
    have hcmp:CmpReads Try.prog 36 #[] enc (fun x y:Nat=>lcmp (R.getD (ix x) []) (R.getD (ix y) [])) b1 0 (List.range R.length).toArray.size w:=by
      intro m os dk hdk x y
      have hx:=(hcell _ (ixl x)).1
      have hy:=(hcell _ (ixl y)).1
      obtain ⟨rx1,rx2⟩:=hR _ (getD_mem' (l:=R) (i:=ix x) (ixl x))
      obtain ⟨ry1,ry2⟩:=hR _ (getD_mem' (l:=R) (i:=ix y) (ixl y))
      obtain ⟨bx,ox,cx,vx,_,ax,mx⟩:=i64_cells hx rx1
      obtain ⟨by_,oy,cy,vy,_,ay,my⟩:=i64_cells hy ry1
      have ex:enc x=.slice (some ⟨bx,ox,none⟩) (R.getD (ix x) []).length cx:=by rw [henc];exact vx
      have ey:enc y=.slice (some ⟨by_,oy,none⟩) (R.getD (ix y) []).length cy:=by rw [henc];exact vy
      have:=wcmp_run (R.getD (ix x) []) (R.getD (ix y) []) rx2 ry2 (Go.Proofs.sortWorld enc w b1 0 m dk os) bx ox cx by_ oy cy
        (fun j hj=>by rw [cell_sortW (fun e=>hb1A (by rw [← e];exact ax)) (hH.low bx ax)];exact mx j hj) (fun j hj=>by rw [cell_sortW (fun e=>hb1A (by rw [← e];exact ay)) (hH.low by_ ay)];exact my j hj)
      rw [ex,ey]
      refine this.mono ?_
      rintro e w' ⟨rfl,rfl⟩
      exact ⟨rfl,0,rfl⟩
    have esz:(List.range R.length).toArray.size=R.length:=by simp
    have hHold:Go.Sort.Holds enc w b1 0 (List.range R.length).toArray:=fun j hj=>by
      have hj':j<R.length:=by simpa using hj
      have ja:j<arr.size:=by omega
      constructor
      · simp only [World.cell?,hh,Option.isSome_none,Bool.false_eq_true,if_false,Nat.zero_add]
        rw [getElem!_pos _ j hj,henc]
        simp [ixe j hj',Array.getD,ja]
      · simp [World.frozen?,hh]
    have eg:∀ args w,(callFunc 36 args).run Try.prog w=.ok (.enter 36 args) w:=enters_of Try.func36 (by kernel_rfl) rfl
    have hcon:=Any.slices_SortFunc sortB enc hone (fun x y:Nat=>lcmp (R.getD (ix x) []) (R.getD (ix y) [])) (lcmp_swo fun x=>R.getD (ix x) []) 36 #[] b1 0 c1 (List.range R.length).toArray w eg hcmp.lays hHold hb1s (by rw [esz];omega)
    change Calls Try.prog 35 _ _ _ at hcon
    rw [esz] at hcon
    refine hcon.mono ?_
    rintro e w' ⟨rfl,d',m,os,hp,hsr,rfl⟩
    obtain ⟨p1,_,p3⟩:=hp
    rw [esz] at p1
    have hperm:d'.toList.Perm (List.range R.length):=by
      have e1:d'.extract 0 R.length=d':=by rw [← p1];simp
      rw [e1] at p3
      simpa using p3
    have hlt:∀ x,x ∈ d'.toList→x<R.length:=fun x hx=>List.mem_range.1 (hperm.mem_iff.1 hx)
    have hsrt:=sorted_of (by rw [p1];exact hsr)
    have hR':(d'.toList.map fun i=>R.getD i []).Perm R:=by
      have:=hperm.map fun i=>R.getD i []
      rwa [map_range_getD] at this
    have hS':(d'.toList.map fun i=>R.getD i []).Pairwise fun x y=>¬ lcmp y x<0:=by
      refine List.pairwise_map.2 ((List.Pairwise.and_mem.1 hsrt).imp fun {x y} h => ?_)
      have h3:=h.2.2
      simp only [ltOf,decide_eq_false_iff_not] at h3
      rw [ixe x (hlt x h.1),ixe y (hlt y h.2.1)] at h3
      exact h3
    refine hend _ hR' hS' _ ?_
    have hdl:(d'.toList.map fun i=>R.getD i []).length=R.length:=by simpa using p1
    have hW:=HR.resetK hH (τ:=1) (ob:=waO R) (ob':=waO (d'.toList.map fun i=>R.getD i [])) (by simp) rfl rfl rfl hβ1 hh (arr':=Go.Sort.putCells enc 0 d' arr) (by simp [Go.Sort.putCells]) (by show (waO _).es.length * 1≤_;rw [wa_len,hdl];omega)
      (fun i hi=>by rw [wa_len] at hi;rw [wa_get hi];rfl)
      (fun _ i j hi hj=>by
        rw [wa_len] at hi
        have:j=0:=by have:j<1:=hj;omega
        subst this
        rw [wa_get hi];rfl)
      (fun i j hi hj=>by
        rw [wa_len] at hi
        have:j=0:=by have:j<1:=hj;omega
        subst this
        have hi2:i<d'.size:=by simpa using hi
        have hdi:d'[i]<R.length:=hlt _ (by simp)
        have hia:i<arr.size:=by omega
        have e1:(Go.Sort.putCells enc 0 d' arr).getD (i * (waO (d'.toList.map fun i=>R.getD i [])).sz+0) undef=arr.getD d'[i] undef:=by
          rw [show i * (waO (d'.toList.map fun i=>R.getD i [])).sz+0=i by show i * 1+0=i;omega]
          simp [Go.Sort.putCells,Array.getD,hia,hi2,henc,ixe _ hdi]
        have e2:(d'.toList.map fun i=>R.getD i []).getD i []=R.getD d'[i] []:=by simp [List.getD,hi2]
        rw [wa_get hi,e1,e2]
        obtain ⟨q1,q2⟩:=hcell _ hdi
        exact ⟨fun _=>.cl _ _ q1,fun _=>.cr _ _ _ q1,q2⟩)
    have hW2:=HR.world hW (below_sortW (enc:=enc) (d:=d') (n:=m) (os:=os) hh)
    refine HR.sub_ hW2 fun τ ob h => ?_
    match τ with
    | 0=>exact h
    | 1=>exact h
    | τ+2=>simp [mOf] at h
end Go.Proofs.Ytcclchnbjpncdaa

namespace Go.Proofs.Ytcclchnbjpncdaa
open Go.Dm
theorem flat_succ {α:Type} {ws:List (List α)} {i:Nat} (h:i<ws.length):(ws.take (i+1)).flatten=(ws.take i).flatten++ws.getD i default:=by
  rw [take_succ_getD h default];simp
theorem flat_le {α:Type} (ws:List (List α)) (i:Nat):(ws.take i).flatten.length≤ws.flatten.length:=by
  conv=>rhs;rw [← List.take_append_drop i ws,List.flatten_append,List.length_append]
  omega
end Go.Proofs.Ytcclchnbjpncdaa

namespace Go.Proofs.Ytcclchnbjpncdaa
open Go.Dm
def skD (s:St):List D:=[iv .i64 s.2.2,iv .i64 s.1,iv .i64 s.2.1]
theorem skD_mk {a b:Nat} {x:Int}:skD (a,b,x)=[D.v (.int .i64 x),D.v (.int .i64 a),D.v (.int .i64 b)]:=(rfl)
def sr3 (ws:List (List St)):List (List D):=tbl (fun l=>[D.sl 3 (tbl skD l)]) ws
theorem sr3_len {ws:List (List St)}:(sr3 ws).length=ws.length:=tbl_len
theorem sr3_get {ws:List (List St)} {i:Nat} (h:i<ws.length):(sr3 ws).getD i []=[D.sl 3 (tbl skD (ws.getD i default))]:=tbl_get h
def vsr3:=And.intro @sr3_len<|And.intro @sr3_get @tbl_len
set_option maxRecDepth 10000 in
set_option maxHeartbeats 4000000 in
theorem grow_sk (n:Nat) (h:0<n∧n≤1000000):Dm.SpecH Try.prog 58 [.nl,iv .i64 n] [] (fun d o=>d=.ref 1 3 0 0 ∧ ∃ es,o=[none,some ⟨3,es,true,false,.arr⟩]):=by
  refine specH_of_vc mixed Try.func58 c58 (by rw [show Try.f58.ntmps=_ from Try.ntmps58];simp) ?_
  unfold m58 r58
  repeat' first|((first|refine Br.dec ?_ ?_|refine Br.eqi ?_ ?_)<;>intro h<;>try (exfalso;omega))|refine Z1 ?_|with_reducible exact trivial|(refine Br.mk ?_ ?_<;>intro h)|(refine BrN.mk (fun h => ?_) ?_)|(refine AltVC.mk ?_ ?_)
  exact finH_mk [none,some ⟨3,List.replicate ((n:Int) - (0 - 0)).toNat [D.v (.int .i64 0),D.v (.int .i64 0),D.v (.int .i64 0)],true,false,.arr⟩] (by simp) Y0 Y0 ⟨by simp (disch:=first|omega|(simp only [vlen];first|done|omega)) only [↓vAq,vBq,↓reduceIte,Nat.reduceBEq,Nat.reduceEqDiff,Nat.reduceLT,Nat.reduceLeDiff,Nat.reduceAdd,Nat.reduceMul,Nat.reduceSub,reduceCtorEq,Int.reduceToNat],_,rfl⟩
set_option maxRecDepth 10000 in
set_option maxHeartbeats 4000000 in
theorem concat_sk (ws : List (List St)) (hl : ws.length ≤ 1000000) (h : ws.flatten.length ≤ 1000000) (hz : 0 < ws.flatten.length) : Dm.Spec Try.prog 50 [.sl 1 (sr3 ws)] (· = .sl 3 (tbl skD ws.flatten)) := by
  refine spec_of_vc mixed Try.func50 c50 (by rw [show Try.f50.ntmps=_ from Try.ntmps50];simp) ?_
  unfold m50 r50
  have eA:∀ a b:List St,tbl skD a++tbl skD b=tbl skD (a++b):=fun a b=>by simp [tbl]
  have eL:∀ a:List St,(tbl skD a).length=a.length:=fun a=>by simp [tbl]
  repeat' first|((first|refine Br.dec ?_ ?_|refine Br.eqi ?_ ?_)<;>intro h<;>try (exfalso;omega))|refine Z22 ?_|with_reducible exact trivial|(refine Br.mk ?_ ?_<;>intro h)|(refine BrN.mk (fun h => ?_) ?_)|(refine AltVC.mk ?_ ?_)
  refine LoopVC.mk (X:=Nat) (fun i=>[(3,iv .i64 (ws.take i).flatten.length),(11,iv .i64 i)]) (fun _=>[]) (fun i=>ws.length - i) (fun i=>i≤ws.length) 0 (by omega) ?_ ?_
  · (simp (disch:=first|omega|(simp only [vlen];first|done|omega)) only [Fits_u,Fits_m,Fits_nil,List.length_append,vsr3,↓vAq,vBq,↓reduceIte,Nat.reduceBEq,Nat.reduceEqDiff,Nat.reduceLT,Nat.reduceLeDiff,Nat.reduceAdd,Nat.reduceMul,Nat.reduceSub,reduceCtorEq,Int.reduceToNat]<;>(repeat' first|rfl|apply And.intro))
  · rintro i hi
    have b1:=flat_le ws i
    have b2:i<ws.length→(ws.take i).flatten.length+(ws.getD i default).length≤1000000:=fun hlt=>by
      have:=flat_le ws (i+1)
      rw [flat_succ hlt,List.length_append] at this;omega
    repeat' first|((first|refine Br.dec ?_ ?_|refine Br.eqi ?_ ?_)<;>intro h<;>try (exfalso;omega))|refine Z22 ?_|with_reducible exact trivial|(refine Br.mk ?_ ?_<;>intro h)|(refine BrN.mk (fun h => ?_) ?_)|(refine AltVC.mk ?_ ?_)
    · refine loopK.mk (i+1) Y16 (by omega) (by omega) ?_
      (simp (disch:=first|omega|(simp only [vlen];first|done|omega)) only [Fits_u,Fits_m,Fits_nil,List.length_append,vsr3,↓vAq,vBq,↓reduceIte,Nat.reduceBEq,Nat.reduceEqDiff,Nat.reduceLT,Nat.reduceLeDiff,Nat.reduceAdd,Nat.reduceMul,Nat.reduceSub,reduceCtorEq,Int.reduceToNat]<;>(repeat' first|rfl|apply And.intro))
      rw [flat_succ (by omega),List.length_append]
      exact viEq (by omega)
    · refine CallVC.lend [] [.nl,iv .i64 ws.flatten.length] [] (grow_sk _ ⟨by omega,by omega⟩) (by simp) (by simp) rfl Y16 (by simp) ?_
      rintro r l ⟨rfl,es,rfl⟩
      repeat' first|((first|refine Br.dec ?_ ?_|refine Br.eqi ?_ ?_)<;>intro h<;>try (exfalso;omega))|refine Z22 ?_|with_reducible exact trivial|(refine Br.mk ?_ ?_<;>intro h)|(refine BrN.mk (fun h => ?_) ?_)|(refine AltVC.mk ?_ ?_)
      refine LoopVC.mk (X:=Nat × List (List D)) (fun x=>[(6,.ref 2 3 0 (ws.take x.1).flatten.length),(27,iv .i64 x.1)]) (fun x=>[(2,⟨3,x.2,true,false,.arr⟩)]) (fun x=>ws.length - x.1) (fun x=>x.1≤ws.length∧(ws.take x.1).flatten.length≤x.2.length∧x.2.take (ws.take x.1).flatten.length=tbl skD (ws.take x.1).flatten) (0,es) ⟨by simp,by simp,by simp [tbl]⟩ ?_ ?_
      · (simp (disch:=first|omega|(simp only [vlen];first|done|omega)) only [Fits_u,Fits_m,Fits_nil,List.length_append,vsr3,↓vAq,vBq,↓reduceIte,Nat.reduceBEq,Nat.reduceEqDiff,Nat.reduceLT,Nat.reduceLeDiff,Nat.reduceAdd,Nat.reduceMul,Nat.reduceSub,reduceCtorEq,Int.reduceToNat]<;>(repeat' first|rfl|apply And.intro))
      · rintro ⟨k,es1⟩ ⟨k1,k2,k3⟩
        simp only at k1 k2 k3
        have k4:¬ k<ws.length→ws.flatten.length≤es1.length:=fun hn=>by
          rw [show k=ws.length by omega,List.take_length] at k2;exact k2
        have b1:=flat_le ws k
        have b2:k<ws.length→(ws.take k).flatten.length+(ws.getD k default).length≤1000000:=fun hlt=>by
          have:=flat_le ws (k+1)
          rw [flat_succ hlt,List.length_append] at this;omega
        repeat' first|((first|refine Br.dec ?_ ?_|refine Br.eqi ?_ ?_)<;>intro h<;>try (exfalso;omega))|refine Z22 ?_|with_reducible exact trivial|(refine Br.mk ?_ ?_<;>intro h)|(refine BrN.mk (fun h => ?_) ?_)|(refine AltVC.mk ?_ ?_)
        · have hk:k<ws.length:=by omega
          refine loopK.mk (k+1,es1.take (ws.take k).flatten.length++tbl skD (ws.getD k default)) Y16 ⟨by simp only;omega,?_,?_⟩ (by simp only;omega) ?_
          · simp only
            rw [flat_succ hk,k3,eA,eL]
            exact Nat.le_refl _
          · simp only
            rw [flat_succ hk,k3,eA]
            exact List.take_of_length_le (by rw [eL];exact Nat.le_refl _)
          · (simp (disch:=first|omega|(simp only [vlen];first|done|omega)) only [Fits_u,Fits_m,Fits_nil,List.length_append,vsr3,↓vAq,vBq,↓reduceIte,Nat.reduceBEq,Nat.reduceEqDiff,Nat.reduceLT,Nat.reduceLeDiff,Nat.reduceAdd,Nat.reduceMul,Nat.reduceSub,reduceCtorEq,Int.reduceToNat]<;>(repeat' first|rfl|apply And.intro))
            rw [flat_succ hk,List.length_append]
        · refine fin_mk (congrArg (D.sl 3) ?_)
          have e:k=ws.length:=by omega
          subst e
          rw [List.take_length] at k3
          simpa using k3
end Go.Proofs.Ytcclchnbjpncdaa

namespace Go.Proofs.Ytcclchnbjpncdaa
open Go.RowKit Go.Dm Go.Lib Go.Shelf
def SrtS (l:List St):Prop:=l.Pairwise fun a b=>slt a b=true
theorem SrtS.uniq : ∀ {a b : List St}, SrtS a → SrtS b → (∀ x, x ∈ a ↔ x ∈ b) → a = b
  | [],[],_,_,_=>rfl
  | [],y::b,_,_,h=>by have:=(h y).2 (by simp);cases this
  | x::a,[],_,_,h=>by have:=(h x).1 (by simp);cases this
  | x :: a, y :: b, ha, hb, h => by
    obtain ⟨ha1,ha2⟩:=List.pairwise_cons.1 ha
    obtain ⟨hb1,hb2⟩:=List.pairwise_cons.1 hb
    have exy:x=y:=by
      have h1:=(h x).1 (by simp)
      have h2:=(h y).2 (by simp)
      rcases List.mem_cons.1 h1 with e|h1
      · exact e
      · rcases List.mem_cons.1 h2 with e|h2
        · exact e.symm
        · have:=slt_trans (ha1 y h2) (hb1 x h1)
          rw [slt_irr] at this;cases this
    subst exy
    rw [SrtS.uniq ha2 hb2 fun z => ⟨fun hz => by
      rcases List.mem_cons.1 ((h z).1 (by simp [hz])) with e|e
      · subst e
        have:=ha1 z hz
        rw [slt_irr] at this;cases this
      · exact e,fun hz=>by
      rcases List.mem_cons.1 ((h z).2 (by simp [hz])) with e|e
      · subst e
        have:=hb1 z hz
        rw [slt_irr] at this;cases this
      · exact e⟩]
def encSt (x:St):List Value:=[.int .i64 x.2.2,.int .i64 x.1,.int .i64 x.2.1]
theorem scmp_lt2 (x y:St):ltOf (fun x y:St=>scmp x y) x y=slt x y:=by
  unfold ltOf
  rw [Bool.eq_iff_iff,decide_eq_true_eq]
  exact scmp_lt
theorem scmp_swo:Go.Sort.SWO (ltOf fun x y:St=>scmp x y) where
  irrefl x:=by rw [scmp_lt2];exact slt_irr
  trans x y z h1 h2:=by rw [scmp_lt2] at *;exact slt_trans h1 h2
  ntrans x y z h1 h2:=by
    rw [scmp_lt2] at *
    rw [Bool.eq_false_iff] at *
    intro h3
    by_cases e:x=y
    · subst e;exact h2 h3
    · rcases slt_tri e with h|h
      · exact h1 h
      · exact h2 (slt_trans h h3)
def spO3 (l:List St):Ob:=⟨3,tbl skD l,true,false,.fix⟩
theorem vrO_st {L:List St}:vrOd .fix encSt 3 L=spO3 L:=by
  unfold vrOd spO3
  congr 1
theorem sortSpots_spec (M0:Ob) (l:List St) (hnd:l.Nodup) (hl:l.length≤100000000):Dm.SpecH Try.prog 31 [.ref 1 3 0 l.length,.clo 32 []] [M0,spO3 l] (fun d o=>d=.tu [] ∧ ∃ l',l'.Perm l∧SrtS l'∧o=[some M0,some (spO3 l')]):=by
  have h:=sortKd_spec (P:=Try.prog) (ρ:=sortA_ren) sortA ⟨_,Try.func31,by kernel_rfl,by kernel_rfl⟩ (k:=3) (by omega) Try.isAgg48 Try.sizeOf48 (enc:=encSt) (fun _=>rfl)
    (fun x v hv=>by simp [encSt] at hv;rcases hv with rfl|rfl|rfl<;>rfl) (cf:=fun x y=>scmp x y) scmp_swo (g:=32) (enters_of Try.func32 (by kernel_rfl) rfl) (fun x y W=>scmp_run x y W) M0 .fix rfl l hl
  rw [vrO_st] at h
  refine ⟨h.1,fun w A β γ vs a1 a2 a3=>(h.2 w A β γ vs a1 a2 a3).mono ?_⟩
  rintro e w' ⟨x,d,o,A',β',γ',b1,⟨h1,L',h2,h3,h4⟩,b3⟩
  refine ⟨x,d,o,A',β',γ',b1,?_,b3⟩
  refine ⟨h1,L',h2,?_,by rw [h4,vrO_st]⟩
  have hn:L'.Nodup:=h2.nodup_iff.2 hnd
  refine (h3.and hn).imp fun {x y} hxy => ?_
  have h5:=hxy.1
  rw [scmp_lt2] at h5
  rcases slt_tri hxy.2 with h|h
  · exact h
  · rw [h5] at h;cases h
end Go.Proofs.Ytcclchnbjpncdaa

namespace Go.Proofs.Ytcclchnbjpncdaa
open Go.Dm
def rkS (S:List St) (p:St):Nat:=(S.filter fun q=>slt q p).length
theorem rk_perm {S S':List St} (h:S.Perm S') {p:St}:rkS S p=rkS S' p:=(h.filter _).length_eq
def wayN (S:List St) (x:Nat × List St):List Int:=(x.1:Int)::x.2.map fun p=>((rkS S p:Nat):Int)
theorem wayN_len {S:List St} {x:Nat × List St}:(wayN S x).length=x.2.length+1:=by simp [wayN]
def wayP (S:List St) (q:Nat) (l:List St) (d:Nat):List Int:=wayN S (q,l.take d)
theorem wayP_len {S:List St} {q d:Nat} {l:List St} (h:d≤l.length):(wayP S q l d).length=d+1:=by unfold wayP;rw [wayN_len,List.length_take];omega
theorem wayP_succ {S:List St} {q d:Nat} {l:List St} (h:d<l.length):wayP S q l (d+1)=wayP S q l d++[((rkS S (l.getD d default):Nat):Int)]:=by
  unfold wayP wayN
  simp only [List.cons_append,List.cons.injEq,true_and]
  rw [List.take_add_one,List.getElem?_eq_getElem h,List.map_append]
  simp [List.getD,h]
theorem wayP_all {S:List St} {q:Nat} {l:List St}:wayP S q l l.length=wayN S (q,l):=by unfold wayP;rw [List.take_length]
theorem wayP_zero {S:List St} {q:Nat} {l:List St}:i64s (wayP S q l 0)=[[D.v (.int .i64 q)]]:=(rfl)
def SrtW (R:List (List Int)):Prop:=R.Pairwise fun x y=>¬ lcmp y x<0
theorem SrtW.uniq : ∀ {a b : List (List Int)}, SrtW a → SrtW b → a.Perm b → a = b
  | [],b,_,_,h=>(List.Perm.nil_eq h)
  | x::a,[],_,_,h=>absurd h.length_eq (by simp)
  | x :: a, y :: b, ha, hb, h => by
    obtain ⟨ha1,ha2⟩:=List.pairwise_cons.1 ha
    obtain ⟨hb1,hb2⟩:=List.pairwise_cons.1 hb
    have e:x=y:=by
      have h1:x ∈ y::b:=h.mem_iff.1 (by simp)
      have h2:y ∈ x::a:=h.mem_iff.2 (by simp)
      rcases List.mem_cons.1 h1 with e|h1
      · exact e
      · rcases List.mem_cons.1 h2 with e|h2
        · exact e.symm
        · have q1:=ha1 y h2
          have q2:=hb1 x h1
          have q3:=lcmp_neg x y
          exact lcmp_zero (by omega)
    subst e
    rw [SrtW.uniq ha2 hb2 ((List.perm_cons x).1 h)]
def srtW (R:List (List Int)):List (List Int):=R.mergeSort fun x y=>decide (¬ lcmp y x<0)
theorem srtW_perm {R:List (List Int)}:(srtW R).Perm R:=List.mergeSort_perm R _
theorem srtW_srt {R:List (List Int)}:SrtW (srtW R):=by
  have h:=List.pairwise_mergeSort (le:=fun x y:List Int=>decide (¬ lcmp y x<0)) (fun a b c h1 h2=>by
    simp only [decide_eq_true_eq] at *
    intro h3
    by_cases e:lcmp b a=0
    · have:=lcmp_zero e;subst this;exact h2 h3
    · have q:=lcmp_neg b a
      exact h2 (lcmp_trans h3 (by omega))) (fun a b=>by
    simp only [Bool.or_eq_true,decide_eq_true_eq]
    have:=lcmp_neg a b
    omega) R
  exact h.imp fun {a b} h=>by simpa using h
theorem srtW_of {R R':List (List Int)} (h:R'.Perm R) (hs:SrtW R'):R'=srtW R:=SrtW.uniq hs srtW_srt (h.trans srtW_perm.symm)
def srtS (l:List St):List St:=l.mergeSort fun a b => !slt b a
theorem srtS_perm {l:List St}:(srtS l).Perm l:=List.mergeSort_perm l _
theorem srtS_srt {l : List St} (hn : l.Nodup) : SrtS (srtS l) := by
  have h:=List.pairwise_mergeSort (le:=fun a b:St => !slt b a) (fun a b c h1 h2=>by
    simp only [Bool.not_eq_true'] at *
    rw [Bool.eq_false_iff] at *
    intro h3
    by_cases e:a=b
    · subst e;exact h2 h3
    · rcases slt_tri e with h|h
      · exact h2 (slt_trans h3 h)
      · exact h1 h) (fun a b=>by
    by_cases e:a=b
    · subst e;simp [slt_irr]
    · rcases slt_tri e with h|h
      · have:slt b a=false:=by
          rw [Bool.eq_false_iff];intro k
          have:=slt_trans h k
          rw [slt_irr] at this;cases this
        simp [this]
      · have:slt a b=false:=by
          rw [Bool.eq_false_iff];intro k
          have:=slt_trans h k
          rw [slt_irr] at this;cases this
        simp [this]) l
  have hd:(srtS l).Nodup:=srtS_perm.nodup_iff.2 hn
  refine (h.and hd).imp fun {a b} h => ?_
  rcases slt_tri h.2 with k|k
  · exact k
  · have:=h.1;rw [k] at this;cases this
theorem srtS_of {l l':List St} (hn:l.Nodup) (h:l'.Perm l) (hs:SrtS l'):l'=srtS l:=SrtS.uniq hs (srtS_srt hn) fun x=>(h.trans srtS_perm.symm).mem_iff
theorem srtS_eq {l l':List St} (hn:l.Nodup) (h:l'.Perm l):srtS l'=srtS l:=srtS_of hn (srtS_perm.trans h) (srtS_srt (h.nodup_iff.2 hn))
theorem rk_at {S : List St} (h : SrtS S) {i : Nat} (hi : i < S.length) : rkS S (S.getD i default) = i := by
  have e:S.getD i default=S[i]:=by simp [List.getD,hi]
  rw [e]
  unfold rkS
  have h1:S=S.take i++S.drop i:=(List.take_append_drop i S).symm
  have hp:=List.pairwise_iff_getElem.1 h
  have h2:(S.filter fun q=>slt q S[i])=S.take i:=by
    have h3:(S.filter fun q=>slt q S[i])=(S.take i++S.drop i).filter fun q=>slt q S[i]:=by rw [List.take_append_drop]
    rw [h3,List.filter_append]
    have a1:(S.take i).filter (fun q=>slt q S[i])=S.take i:=List.filter_eq_self.2 fun q hq=>by
      obtain ⟨j,hj,rfl⟩:=List.getElem_of_mem hq
      have hj':j<i:=by rw [List.length_take] at hj;omega
      rw [List.getElem_take]
      exact hp j i (by omega) hi hj'
    have a2:(S.drop i).filter (fun q=>slt q S[i])=[]:=List.filter_eq_nil_iff.2 fun q hq=>by
      obtain ⟨j,hj,rfl⟩:=List.getElem_of_mem hq
      rw [List.getElem_drop]
      rw [List.length_drop] at hj
      by_cases e:j=0
      · subst e
        simp [slt_irr]
      · have q:=hp i (i+j) hi (by omega) (by omega)
        intro k
        have:=slt_trans q k
        rw [slt_irr] at this;cases this
    rw [a1,a2,List.append_nil]
  rw [h2,List.length_take];omega
theorem rk_mem {S:List St} (h:SrtS S) {p:St} (hp:p ∈ S):rkS S p<S.length∧S.getD (rkS S p) default=p:=by
  obtain ⟨i,hi,rfl⟩:=List.getElem_of_mem hp
  have:=rk_at h hi
  have e:S.getD i default=S[i]:=by simp [List.getD,hi]
  rw [e] at this
  rw [this]
  exact ⟨hi,e⟩
def spotT (g:Grammar) (w:List Int) (S:List St) (s:St):Dm.Spot:=⟨s.2.2,s.1,s.2.1,srtW ((kwS g w s).map (wayN S))⟩
def thiT (g:Grammar) (w:List Int) (S:List St) (r:St):Dm.Thicket:=⟨S.map (spotT g w S),((rkS S r:Nat):Int)⟩
end Go.Proofs.Ytcclchnbjpncdaa

namespace Go.Proofs.Ytcclchnbjpncdaa
open Go.Dm
structure SE where
  i:Nat
  j:Nat
  v:Nat
deriving Inhabited
def seD (e:SE):List D:=[iv .i64 e.i,iv .i64 e.j,iv .u32 e.v]
theorem seD_eq {e:SE}:seD e=[iv .i64 e.i,iv .i64 e.j,iv .u32 e.v]:=(rfl)
structure SI (L:List SE) (t:Nat→Nat→Nat):Prop where
  at_:∀ r,r<L.length→(L.getD r default).v=t (L.getD r default).i (L.getD r default).j
  no:∀ i j,(∀ r,r<L.length→¬ ((L.getD r default).i=i∧(L.getD r default).j=j))→t i j=0
  nd:∀ r r',r<L.length→r'<L.length→(L.getD r default).i=(L.getD r' default).i→(L.getD r default).j=(L.getD r' default).j→r=r'
  lt:∀ i j,t i j<32
def upd2 (t:Nat→Nat→Nat) (i j v:Nat):Nat→Nat→Nat:=fun a b=>if a=i∧b=j then v else t a b
theorem upd2_at {t:Nat→Nat→Nat} {i j v:Nat}:upd2 t i j v i j=v:=if_pos ⟨rfl,rfl⟩
theorem upd2_ne {t:Nat→Nat→Nat} {i j v a b:Nat} (h:¬ (a=i∧b=j)):upd2 t i j v a b=t a b:=if_neg h
theorem SI.nil:SI [] (fun _ _=>0):=⟨fun r h=>absurd h (Nat.not_lt_zero _),fun _ _ _=>rfl,fun r r' h=>absurd h (Nat.not_lt_zero _),fun _ _=>by omega⟩
theorem SI.set {L:List SE} {t:Nat→Nat→Nat} (h:SI L t) {r i j v:Nat} (hr:r<L.length) (hi:(L.getD r default).i=i) (hj:(L.getD r default).j=j) (hv:v<32):SI (L.set r ⟨i,j,v⟩) (upd2 t i j v):=by
  have hg:∀ r',r'<L.length→(L.set r ⟨i,j,v⟩).getD r' default=if r'=r then ⟨i,j,v⟩ else L.getD r' default:=fun r' hr'=>by
    simp only [List.getD_eq_getElem?_getD,List.getElem?_set]
    by_cases e:r'=r
    · subst e;simp [hr]
    · rw [if_neg (fun h=>e h.symm),if_neg e]
  have hk:∀ r',r'<L.length→((L.set r ⟨i,j,v⟩).getD r' default).i=(L.getD r' default).i∧((L.set r ⟨i,j,v⟩).getD r' default).j=(L.getD r' default).j:=fun r' hr'=>by
    rw [hg r' hr']
    by_cases e:r'=r
    · subst e;rw [if_pos rfl];exact ⟨hi.symm,hj.symm⟩
    · rw [if_neg e];exact ⟨rfl,rfl⟩
  refine ⟨fun r' hr' => ?_,fun a b hn => ?_,fun r1 r2 h1 h2 e1 e2 => ?_,fun a b => ?_⟩
  · rw [List.length_set] at hr'
    rw [(hk r' hr').1,(hk r' hr').2,hg r' hr']
    by_cases e:r'=r
    · subst e;rw [if_pos rfl,hi,hj,upd2_at]
    · rw [if_neg e,upd2_ne fun h2=>e (h.nd r' r hr' hr (h2.1.trans hi.symm) (h2.2.trans hj.symm))]
      exact h.at_ r' hr'
  · have hne:¬ (a=i∧b=j):=fun h2=>hn r (by rw [List.length_set];exact hr) (by rw [(hk r hr).1,(hk r hr).2,hi,hj];exact ⟨h2.1.symm,h2.2.symm⟩)
    rw [upd2_ne hne]
    refine h.no a b fun r' hr' h2=>hn r' (by rw [List.length_set];exact hr') ?_
    rw [(hk r' hr').1,(hk r' hr').2];exact h2
  · rw [List.length_set] at h1 h2
    rw [(hk r1 h1).1,(hk r2 h2).1] at e1
    rw [(hk r1 h1).2,(hk r2 h2).2] at e2
    exact h.nd r1 r2 h1 h2 e1 e2
  · unfold upd2;split
    · exact hv
    · exact h.lt a b
theorem SI.add {L : List SE} {t : Nat → Nat → Nat} (h : SI L t) {i j v : Nat} (hn : ∀ r, r < L.length → ¬ ((L.getD r default).i = i ∧ (L.getD r default).j = j)) (hv : v < 32) : SI (L ++ [⟨i, j, v⟩]) (upd2 t i j v) := by
  have g1:∀ r,r<L.length→(L++[(⟨i,j,v⟩:SE)]).getD r default=L.getD r default:=fun r hr=>by simp [List.getD,List.getElem?_append_left hr]
  have g2:(L++[(⟨i,j,v⟩:SE)]).getD L.length default=⟨i,j,v⟩:=by simp [List.getD]
  refine ⟨fun r hr => ?_,fun a b hn2 => ?_,fun r1 r2 h1 h2 e1 e2 => ?_,fun a b => ?_⟩
  · rw [List.length_append,List.length_singleton] at hr
    by_cases e:r<L.length
    · rw [g1 r e,upd2_ne (hn r e)];exact h.at_ r e
    · have:r=L.length:=by omega
      subst this;rw [g2,upd2_at]
  · have hne:¬ (a=i∧b=j):=fun h2=>hn2 L.length (by simp) (by rw [g2];exact ⟨h2.1.symm,h2.2.symm⟩)
    rw [upd2_ne hne]
    exact h.no a b fun r hr h2=>hn2 r (by simp;omega) (by rw [g1 r hr];exact h2)
  · rw [List.length_append, List.length_singleton] at h1 h2
    by_cases c1:r1<L.length
    · by_cases c2:r2<L.length
      · rw [g1 r1 c1,g1 r2 c2] at e1 e2;exact h.nd r1 r2 c1 c2 e1 e2
      · have:r2=L.length:=by omega
        subst this;rw [g1 r1 c1,g2] at e1 e2;exact absurd ⟨e1,e2⟩ (hn r1 c1)
    · have:r1=L.length:=by omega
      subst this
      by_cases c2:r2<L.length
      · rw [g1 r2 c2,g2] at e1 e2;exact absurd ⟨e1.symm,e2.symm⟩ (hn r2 c2)
      · omega
  · unfold upd2;split
    · exact hv
    · exact h.lt a b
theorem se_in {L:List SE} {t:Nat→Nat→Nat} (h:SI L t) {r i j:Nat} (hr:r<(tbl seD L).length) (he:Agr (((tbl seD L).getD r []).take 2) [.v (.int .i64 i),.v (.int .i64 j)]):r<L.length∧(L.getD r default).i=i∧(L.getD r default).j=j∧(tbl seD L).getD r []=[iv .i64 i,iv .i64 j,iv .u32 (t i j)]:=by
  rw [tbl_len] at hr
  rw [tbl_get hr] at he ⊢
  rw [seD_eq] at he ⊢
  simp only [List.take_succ_cons,List.take_zero,Agr_v,D.v.injEq,Value.int.injEq,true_and,Int.natCast_inj] at he
  have hm:=h.at_ r hr
  rw [he.1,he.2.1] at hm
  exact ⟨hr,he.1,he.2.1,by rw [hm,he.1,he.2.1]⟩
theorem se_out {L:List SE} {i j:Nat} (hn:∀ r,r<(tbl seD L).length→((tbl seD L).getD r []).take 2 ≠ [.v (.int .i64 i),.v (.int .i64 j)]):∀ r,r<L.length→¬ ((L.getD r default).i=i∧(L.getD r default).j=j):=fun r hr h=>by
  have h1:=hn r (by rw [tbl_len];exact hr)
  rw [tbl_get hr,seD_eq,h.1,h.2] at h1
  exact h1 rfl
theorem se_app {L:List SE} {i j v:Nat}:tbl seD L++[[D.v (.int .i64 i),D.v (.int .i64 j),D.v (.int .u32 v)]]=tbl seD (L++[⟨i,j,v⟩]):=by rw [tbl_app];rfl
theorem se_set {L:List SE} {r i j v:Nat}:(tbl seD L).set r [D.v (.int .i64 i),D.v (.int .i64 j),D.v (.int .u32 v)]=tbl seD (L.set r ⟨i,j,v⟩):=by rw [← tbl_set];rfl
def vse:=And.intro vmr<|And.intro @se_app<|And.intro @se_set<|And.intro @rulD_eq @Int.add_sub_cancel
def tbB (t:Nat→Nat→Nat) (a i j:Nat):Bool:=(t i j).testBit a
def spO (L:List SE):List Ob:=[⟨3,tbl seD L,true,false,.map [.i64,.i64] true false⟩]
theorem sp_fin {s:S} {L:List SE} {b b':Bool} (h1:1≤s.N) (h2:fitL s 1 0 ((spO L).map some)) (hb:b'=b):FinH 1 (fun d o=>d=.v (.bool b)∧o=(spO L).map some) s (D.v (.bool b')) :=
  finH_mk ((spO L).map some) (by simp [spO]) (by simpa [spO] using h1) (by simpa [spO] using h2) ⟨by subst hb;rw [trim_v],rfl⟩
structure CW (g:Grammar) (w:List Int):Prop where
  v:Valid g
  w:w.length≤12
set_option maxRecDepth 10000 in
set_option maxHeartbeats 4000000 in
theorem derives_spec (g:Grammar) (w:List Int) (hc:CW g w) (L:List SE) (t:Nat→Nat→Nat) (hL:SI L t) (x:Int) (i j:Nat) (hx:0≤x∧x<g.k+g.n) (hij:i≤j) (hj:j≤w.length):Dm.SpecH Try.prog 49 [.mp 0,.ag (graD g),.sl 1 (i64s w),iv .i64 x,.ag [iv .i64 i,iv .i64 j]] (spO L) (fun d o=>d=.v (.bool (oneB g w (tbB t) x i j))∧o=(spO L).map some):=by
  refine specH_of_vc mixed Try.func49 c49 (by rw [show Try.f49.ntmps=_ from Try.ntmps49];simp) ?_
  unfold m49 r49
  have hk:=hc.v.k
  have hn:=hc.v.n
  have hw:=hc.w
  have ht:=hL.lt i j
  unfold spO
  by_cases hxk:x<g.k
  · have e:oneB g w (tbB t) x i j=decide (j=i+1∧i<w.length∧w.getD i 0=x):=by unfold oneB;rw [if_pos hxk]
    rw [e]
    repeat' first|((first|refine Br.dec ?_ ?_|refine Br.eqi ?_ ?_)<;>intro h<;>try (exfalso;omega))|refine Z5 ?_|with_reducible exact trivial|(refine Br.mk ?_ ?_<;>intro h)|(refine BrN.mk (fun h => ?_) ?_)|(refine AltVC.mk ?_ ?_)
    · refine sp_fin (L:=L) Y8 Y11 ?_
      rw [Bool.eq_iff_iff,beq_iff_eq,decide_eq_true_eq]
      exact ⟨fun h2=>⟨by omega,by omega,h2⟩,fun h2=>h2.2.2⟩
    · refine sp_fin (L:=L) Y8 Y11 ?_
      exact (decide_eq_false fun h2=>by have:=h2.1;omega).symm
  · have e:oneB g w (tbB t) x i j=(t i j).testBit (x - g.k).toNat:=by unfold oneB;rw [if_neg hxk];rfl
    rw [e]
    obtain ⟨a,ha⟩ : ∃ a:Nat,x - g.k=a:=⟨(x - g.k).toNat,by omega⟩
    repeat' first|((first|refine Br.dec ?_ ?_|refine Br.eqi ?_ ?_)<;>intro h<;>try (exfalso;omega))|refine Z32 ?_|with_reducible exact trivial|(refine Br.mk ?_ ?_<;>intro h)|(refine BrN.mk (fun h => ?_) ?_)|(refine AltVC.mk ?_ ?_)
    refine BrK.mk (fun r hr he => ?_) (fun hnn => ?_)
    · obtain ⟨_,_,_,hR⟩:=se_in hL hr he
      repeat' first|((first|refine Br.dec ?_ ?_|refine Br.eqi ?_ ?_)<;>intro h<;>try (exfalso;omega))|(simp (disch:=first|omega|(simp only [vlen];first|done|omega)) only [vse,ha,hR,↓vAq,vBq,↓reduceIte,Nat.reduceBEq,Nat.reduceEqDiff,Nat.reduceLT,Nat.reduceLeDiff,Nat.reduceAdd,Nat.reduceMul,Nat.reduceSub,reduceCtorEq,Int.reduceToNat])|(refine Br.mk ?_ ?_<;>intro h)|(refine BrN.mk (fun h => ?_) ?_)|(refine AltVC.mk ?_ ?_)
      refine CallVC.eq (has_spec (t i j) a (by omega) (by omega)) ?_
      repeat' first|((first|refine Br.dec ?_ ?_|refine Br.eqi ?_ ?_)<;>intro h<;>try (exfalso;omega))|refine Z5 ?_|with_reducible exact trivial|(refine Br.mk ?_ ?_<;>intro h)|(refine BrN.mk (fun h => ?_) ?_)|(refine AltVC.mk ?_ ?_)
      exact sp_fin (L:=L) Y8 Y11 rfl
    · have h0:=hL.no i j (se_out hnn)
      repeat' first|((first|refine Br.dec ?_ ?_|refine Br.eqi ?_ ?_)<;>intro h<;>try (exfalso;omega))|refine Z32 ?_|with_reducible exact trivial|(refine Br.mk ?_ ?_<;>intro h)|(refine BrN.mk (fun h => ?_) ?_)|(refine AltVC.mk ?_ ?_)
      refine CallVC.eq (has_spec 0 a (by omega) (by omega)) ?_
      repeat' first|((first|refine Br.dec ?_ ?_|refine Br.eqi ?_ ?_)<;>intro h<;>try (exfalso;omega))|refine Z5 ?_|with_reducible exact trivial|(refine Br.mk ?_ ?_<;>intro h)|(refine BrN.mk (fun h => ?_) ?_)|(refine AltVC.mk ?_ ?_)
      exact sp_fin (L:=L) Y8 Y11 (by rw [h0])
def ndP (g:Grammar) (w:List Int) (t:Nat→Nat→Nat) (l:List Int) (i:Nat) (j:Nat):Bool:=ovB g w (tbB t) l i j
def ndS (g:Grammar) (w:List Int) (t:Nat→Nat→Nat) (l:List Int) (i:Nat):Nat:=setOf (ndP g w t l i) (w.length+1)
def nxP (g:Grammar) (w:List Int) (t:Nat→Nat→Nat) (l:List Int) (x:Int) (i m j b:Nat):Bool:=(List.range (w.length+1)).any fun k=>decide (i≤k∧k≤b∧(k<m∨(k=m∧b<j))) && (ovB g w (tbB t) l i k && oneB g w (tbB t) x k b)
def nxS (g:Grammar) (w:List Int) (t:Nat→Nat→Nat) (l:List Int) (x:Int) (i m j:Nat):Nat:=setOf (nxP g w t l x i m j) (w.length+1)
theorem nxP_iff {g:Grammar} {w:List Int} {t:Nat→Nat→Nat} {l:List Int} {x:Int} {i m j b:Nat}:nxP g w t l x i m j b=true ↔ ∃ k,k≤w.length∧(i≤k∧k≤b∧(k<m∨(k=m∧b<j)))∧ovB g w (tbB t) l i k=true∧oneB g w (tbB t) x k b=true:=by
  unfold nxP
  simp only [List.any_eq_true,List.mem_range,Bool.and_eq_true,decide_eq_true_eq]
  exact ⟨fun ⟨k,h1,h2,h3,h4⟩=>⟨k,by omega,h2,h3,h4⟩,fun ⟨k,h1,h2,h3,h4⟩=>⟨k,by omega,h2,h3,h4⟩⟩
theorem setOf_ext {p q:Nat→Bool} {n:Nat} (h:∀ b,b<n→p b=q b):setOf p n=setOf q n:=set_ext setOf_lt fun b hb=>by rw [setOf_bit,h b hb];simp [hb]
theorem nx_start {g:Grammar} {w:List Int} {t:Nat→Nat→Nat} {l:List Int} {x:Int} {i:Nat}:nxS g w t l x i i i=0:=by
  have:nxS g w t l x i i i=setOf (fun _=>false) (w.length+1):=setOf_ext fun b hb=>by
    rw [Bool.eq_false_iff];intro h
    obtain ⟨k,h1,h2,h3⟩:=nxP_iff.mp h;omega
  rw [this]
  exact (set_ext (S:=0) (Nat.pow_pos (by omega)) fun b hb=>by simp).symm
theorem nx_row {g:Grammar} {w:List Int} {t:Nat→Nat→Nat} {l:List Int} {x:Int} {i m j:Nat} (h:w.length<j):nxS g w t l x i m j=nxS g w t l x i (m+1) (m+1):=setOf_ext fun b hb=>by
  rw [Bool.eq_iff_iff,nxP_iff,nxP_iff]
  constructor
  · rintro ⟨k,h1,h2,h3⟩;exact ⟨k,h1,by omega,h3⟩
  · rintro ⟨k,h1,h2,h3⟩;exact ⟨k,h1,by omega,h3⟩
theorem nx_hit {g:Grammar} {w:List Int} {t:Nat→Nat→Nat} {l:List Int} {x:Int} {i m j:Nat} (him:i≤m) (hmj:m≤j) (hj:j≤w.length) (h1:ovB g w (tbB t) l i m=true) (h2:oneB g w (tbB t) x m j=true):nxS g w t l x i m (j+1)=nxS g w t l x i m j ||| 2 ^ j:=by
  refine (set_ext (or_two_lt setOf_lt (by omega)) fun b hb => ?_).symm
  rw [or_bit,Bool.eq_iff_iff,Bool.or_eq_true]
  rw [setOf_bit,Bool.and_eq_true,decide_eq_true_eq,decide_eq_true_eq,nxP_iff,nxP_iff]
  constructor
  · rintro (⟨_,k,k1,k2,k3⟩|rfl)
    · exact ⟨k,k1,by omega,k3⟩
    · exact ⟨m,by omega,by omega,h1,h2⟩
  · rintro ⟨k,k1,k2,k3⟩
    by_cases e:b=j
    · exact .inr e
    · exact .inl ⟨hb,k,k1,by omega,k3⟩
theorem nx_miss {g:Grammar} {w:List Int} {t:Nat→Nat→Nat} {l:List Int} {x:Int} {i m j:Nat} (h:¬ (ovB g w (tbB t) l i m=true∧oneB g w (tbB t) x m j=true)):nxS g w t l x i m (j+1)=nxS g w t l x i m j:=setOf_ext fun b hb=>by
  rw [Bool.eq_iff_iff,nxP_iff,nxP_iff]
  constructor
  · rintro ⟨k,k1,k2,k3⟩
    refine ⟨k,k1,?_,k3⟩
    by_cases e:k=m∧b=j
    · obtain ⟨rfl,rfl⟩:=e;exact absurd k3 h
    · omega
  · rintro ⟨k,k1,k2,k3⟩;exact ⟨k,k1,by omega,k3⟩
theorem nx_all {g:Grammar} {w:List Int} {t:Nat→Nat→Nat} {l:List Int} {x:Int} {i m j:Nat} (h:w.length<m):nxS g w t l x i m j=ndS g w t (l++[x]) i:=setOf_ext fun b hb=>by
  rw [Bool.eq_iff_iff,nxP_iff]
  unfold ndP
  rw [ovB_snoc]
  constructor
  · rintro ⟨k,k1,k2,k3,k4⟩;exact ⟨k,by omega,by omega,k3,k4⟩
  · rintro ⟨k,k1,k2,k3,k4⟩;exact ⟨k,by omega,by omega,k3,k4⟩
theorem nd_nil {g:Grammar} {w:List Int} {t:Nat→Nat→Nat} {i:Nat} (h:i≤w.length):ndS g w t [] i=2 ^ i:=(set_ext (Nat.pow_lt_pow_right (by omega) (by omega)) fun b hb=>by
  unfold ndP ovB
  rw [Nat.testBit_two_pow]).symm
theorem nd_bit {g:Grammar} {w:List Int} {t:Nat→Nat→Nat} {l:List Int} {i j:Nat} (h:j≤w.length):(ndS g w t l i).testBit j=ovB g w (tbB t) l i j:=by
  unfold ndS;rw [setOf_bit];simp [ndP,show j<w.length+1 by omega]
def enO (g:Grammar) (L:List SE):List (Nat × Ob):=[(0,⟨3,tbl seD L,true,false,.map [.i64,.i64] true false⟩),(1,⟨4,[[iv .i64 g.k,iv .i64 g.n,iv .i64 g.start,.sl 2 (tbl rulD g.rules)]],true,false,.fix⟩)]
set_option maxRecDepth 10000 in
set_option maxHeartbeats 4000000 in
theorem ends_spec (g : Grammar) (w : List Int) (hc : CW g w) (L : List SE) (t : Nat → Nat → Nat) (hL : SI L t) (l : List Int) (hl : l.length ≤ 4) (hx : ∀ k, k < l.length → 0 ≤ l.getD k 0 ∧ l.getD k 0 < g.k + g.n) (i : Nat) (hi : i ≤ w.length) : Dm.SpecH Try.prog 29 [.mp 0, .ag (graD g), .sl 1 (i64s w), .sl 1 (i64s l), iv .i64 i] (spO L) (fun d o => d = .v (.int .u32 (ndS g w t l i)) ∧ o = (spO L).map some) := by
  refine specH_of_vc mixed Try.func29 c29 (by rw [show Try.f29.ntmps=_ from Try.ntmps29];simp) ?_
  unfold m29 r29
  have hk:=hc.v.k
  have hn:=hc.v.n
  have hw:=hc.w
  have hp:2 ^ (w.length+1)≤8192:=Nat.le_trans (Nat.pow_le_pow_right (show 0<2 by omega) (show w.length+1≤13 by omega)) (by decide)
  have hnd:∀ l,ndS g w t l i<2 ^ (w.length+1):=fun l=>setOf_lt
  have hnx:∀ l x m j,nxS g w t l x i m j<2 ^ (w.length+1):=fun l x m j=>setOf_lt
  have hs1:=@shlN i (by omega)
  unfold spO
  repeat' first|((first|refine Br.dec ?_ ?_|refine Br.eqi ?_ ?_)<;>intro h<;>try (exfalso;omega))|(simp (disch:=first|omega|(simp only [vlen];first|done|omega)) only [vse,hs1,↓vAq,vBq,↓reduceIte,Nat.reduceBEq,Nat.reduceEqDiff,Nat.reduceLT,Nat.reduceLeDiff,Nat.reduceAdd,Nat.reduceMul,Nat.reduceSub,reduceCtorEq,Int.reduceToNat])|(refine Br.mk ?_ ?_<;>intro h)|(refine BrN.mk (fun h => ?_) ?_)|(refine AltVC.mk ?_ ?_)
  refine LoopVC.mk (X:=Nat) (fun q=>[(11,iv .u32 (ndS g w t (l.take q) i)),(21,iv .i64 q)]) (fun _=>enO g L) (fun q=>l.length - q) (fun q=>q≤l.length) 0 (Nat.zero_le _) ?_ ?_
  · unfold enO
    rw [List.take_zero,nd_nil hi]
    (simp (disch:=first|omega|(simp only [vlen];first|done|omega)) only [Fits_u,Fits_m,Fits_nil,List.length_append,vse,↓vAq,vBq,↓reduceIte,Nat.reduceBEq,Nat.reduceEqDiff,Nat.reduceLT,Nat.reduceLeDiff,Nat.reduceAdd,Nat.reduceMul,Nat.reduceSub,reduceCtorEq,Int.reduceToNat]<;>(repeat' first|rfl|apply And.intro))
  · intro q hq
    unfold enO
    have hS:=hnd (l.take q)
    by_cases hql:q<l.length
    · have hxq := hx q hql
      obtain ⟨x,hxe⟩ : ∃ x,l.getD q 0=x:=⟨_,rfl⟩
      rw [hxe] at hxq
      repeat' first|((first|refine Br.dec ?_ ?_|refine Br.eqi ?_ ?_)<;>intro h<;>try (exfalso;omega))|refine Z26 ?_|with_reducible exact trivial|(refine Br.mk ?_ ?_<;>intro h)|(refine BrN.mk (fun h => ?_) ?_)|(refine AltVC.mk ?_ ?_)
      refine LoopVC.mk (X:=Nat) (fun m=>[(14,iv .u32 (nxS g w t (l.take q) x i m m)),(15,iv .i64 m)]) (fun _=>enO g L) (fun m=>w.length+1 - m) (fun m=>i≤m∧m≤w.length+1) i ⟨Nat.le_refl _,by omega⟩ ?_ ?_
      · unfold enO
        rw [nx_start]
        (simp (disch:=first|omega|(simp only [vlen];first|done|omega)) only [Fits_u,Fits_m,Fits_nil,List.length_append,vse,↓vAq,vBq,↓reduceIte,Nat.reduceBEq,Nat.reduceEqDiff,Nat.reduceLT,Nat.reduceLeDiff,Nat.reduceAdd,Nat.reduceMul,Nat.reduceSub,reduceCtorEq,Int.reduceToNat]<;>(repeat' first|rfl|apply And.intro))
      · rintro m ⟨hm1, hm2⟩
        unfold enO
        by_cases hm:m≤w.length
        · have hH := has_spec (ndS g w t (l.take q) i) m (by omega) (by omega)
          rw [nd_bit hm] at hH
          repeat' first|((first|refine Br.dec ?_ ?_|refine Br.eqi ?_ ?_)<;>intro h<;>try (exfalso;omega))|refine Z26 ?_|with_reducible exact trivial|(refine Br.mk ?_ ?_<;>intro h)|(refine BrN.mk (fun h => ?_) ?_)|(refine AltVC.mk ?_ ?_)
          refine LoopVC.mk (X:=Nat) (fun j=>[(14,iv .u32 (nxS g w t (l.take q) x i m j)),(16,iv .i64 j)]) (fun _=>enO g L) (fun j=>w.length+1 - j) (fun j=>m≤j∧j≤w.length+1) m ⟨Nat.le_refl _,by omega⟩ ?_ ?_
          · unfold enO
            (simp (disch:=first|omega|(simp only [vlen];first|done|omega)) only [Fits_u,Fits_m,Fits_nil,List.length_append,vse,↓vAq,vBq,↓reduceIte,Nat.reduceBEq,Nat.reduceEqDiff,Nat.reduceLT,Nat.reduceLeDiff,Nat.reduceAdd,Nat.reduceMul,Nat.reduceSub,reduceCtorEq,Int.reduceToNat]<;>(repeat' first|rfl|apply And.intro))
          · rintro j ⟨hj1,hj2⟩
            unfold enO
            by_cases hj:j≤w.length
            · have hN:=hnx (l.take q) x m j
              have hor:=@orN (nxS g w t (l.take q) x i m j) (2 ^ j) (by omega) (by have:=@pow_le31 j (by omega);omega)
              have hsh:=@shlN j (by omega)
              cases hb:ovB g w (tbB t) (l.take q) i m with
              | false =>
                have hms:=nx_miss (t:=t) (l:=l.take q) (x:=x) (i:=i) (m:=m) (j:=j) fun h=>by rw [hb] at h;cases h.1
                rw [hb] at hH
                repeat' first|((first|refine Br.dec ?_ ?_|refine Br.eqi ?_ ?_)<;>intro h<;>try (exfalso;omega))|refine Z5 ?_|with_reducible exact trivial|(refine Br.mk ?_ ?_<;>intro h)|(refine BrN.mk (fun h => ?_) ?_)|(refine AltVC.mk ?_ ?_)
                refine CallVC.eq hH ?_
                repeat' first|((first|refine Br.dec ?_ ?_|refine Br.eqi ?_ ?_)<;>intro h<;>try (exfalso;omega))|refine Z5 ?_|with_reducible exact trivial|(refine Br.mk ?_ ?_<;>intro h)|(refine BrN.mk (fun h => ?_) ?_)|(refine AltVC.mk ?_ ?_)
                refine loopK.mk (j+1) Y0 (by omega) (by omega) ?_
                rw [hms]
                (simp (disch:=first|omega|(simp only [vlen];first|done|omega)) only [Fits_u,Fits_m,Fits_nil,List.length_append,vse,↓vAq,vBq,↓reduceIte,Nat.reduceBEq,Nat.reduceEqDiff,Nat.reduceLT,Nat.reduceLeDiff,Nat.reduceAdd,Nat.reduceMul,Nat.reduceSub,reduceCtorEq,Int.reduceToNat]<;>(repeat' first|rfl|apply And.intro))
              | true =>
                have hD:=derives_spec g w hc L t hL x m j hxq hj1 hj
                rw [hb] at hH
                cases hd:oneB g w (tbB t) x m j with
                | false =>
                  have hms:=nx_miss (t:=t) (l:=l.take q) (x:=x) (i:=i) (m:=m) (j:=j) fun h=>by rw [hd] at h;cases h.2
                  rw [hd] at hD
                  repeat' first|((first|refine Br.dec ?_ ?_|refine Br.eqi ?_ ?_)<;>intro h<;>try (exfalso;omega))|refine Z5 ?_|with_reducible exact trivial|(refine Br.mk ?_ ?_<;>intro h)|(refine BrN.mk (fun h => ?_) ?_)|(refine AltVC.mk ?_ ?_)
                  refine CallVC.eq hH ?_
                  repeat' first|((first|refine Br.dec ?_ ?_|refine Br.eqi ?_ ?_)<;>intro h<;>try (exfalso;omega))|refine Z5 ?_|with_reducible exact trivial|(refine Br.mk ?_ ?_<;>intro h)|(refine BrN.mk (fun h => ?_) ?_)|(refine AltVC.mk ?_ ?_)
                  refine CallVC.lendE [0] [.mp 0,.ag (graD g),.sl 1 (i64s w),iv .i64 x,.ag [iv .i64 m,iv .i64 j]] (spO L) hD (by simp) (by rfl) Y6 ?_
                  rintro _ _ ⟨rfl,rfl⟩
                  unfold spO
                  repeat' first|((first|refine Br.dec ?_ ?_|refine Br.eqi ?_ ?_)<;>intro h<;>try (exfalso;omega))|refine Z5 ?_|with_reducible exact trivial|(refine Br.mk ?_ ?_<;>intro h)|(refine BrN.mk (fun h => ?_) ?_)|(refine AltVC.mk ?_ ?_)
                  refine loopK.mk (j+1) Y0 (by omega) (by omega) ?_
                  rw [hms]
                  (simp (disch:=first|omega|(simp only [vlen];first|done|omega)) only [Fits_u,Fits_m,Fits_nil,List.length_append,vse,↓vAq,vBq,↓reduceIte,Nat.reduceBEq,Nat.reduceEqDiff,Nat.reduceLT,Nat.reduceLeDiff,Nat.reduceAdd,Nat.reduceMul,Nat.reduceSub,reduceCtorEq,Int.reduceToNat]<;>(repeat' first|rfl|apply And.intro))
                | true =>
                  have hms:=nx_hit (t:=t) (l:=l.take q) (x:=x) (i:=i) hm1 hj1 hj hb hd
                  rw [hd] at hD
                  repeat' first|((first|refine Br.dec ?_ ?_|refine Br.eqi ?_ ?_)<;>intro h<;>try (exfalso;omega))|refine Z5 ?_|with_reducible exact trivial|(refine Br.mk ?_ ?_<;>intro h)|(refine BrN.mk (fun h => ?_) ?_)|(refine AltVC.mk ?_ ?_)
                  refine CallVC.eq hH ?_
                  repeat' first|((first|refine Br.dec ?_ ?_|refine Br.eqi ?_ ?_)<;>intro h<;>try (exfalso;omega))|refine Z5 ?_|with_reducible exact trivial|(refine Br.mk ?_ ?_<;>intro h)|(refine BrN.mk (fun h => ?_) ?_)|(refine AltVC.mk ?_ ?_)
                  refine CallVC.lendE [0] [.mp 0,.ag (graD g),.sl 1 (i64s w),iv .i64 x,.ag [iv .i64 m,iv .i64 j]] (spO L) hD (by simp) (by rfl) Y6 ?_
                  rintro _ _ ⟨rfl,rfl⟩
                  unfold spO
                  repeat' first|((first|refine Br.dec ?_ ?_|refine Br.eqi ?_ ?_)<;>intro h<;>try (exfalso;omega))|(simp (disch:=first|omega|(simp only [vlen];first|done|omega)) only [vse,hsh,hor,↓vAq,vBq,↓reduceIte,Nat.reduceBEq,Nat.reduceEqDiff,Nat.reduceLT,Nat.reduceLeDiff,Nat.reduceAdd,Nat.reduceMul,Nat.reduceSub,reduceCtorEq,Int.reduceToNat])|(refine Br.mk ?_ ?_<;>intro h)|(refine BrN.mk (fun h => ?_) ?_)|(refine AltVC.mk ?_ ?_)
                  refine loopK.mk (j+1) Y0 (by omega) (by omega) ?_
                  rw [hms]
                  (simp (disch:=first|omega|(simp only [vlen];first|done|omega)) only [Fits_u,Fits_m,Fits_nil,List.length_append,vse,hsh,hor,↓vAq,vBq,↓reduceIte,Nat.reduceBEq,Nat.reduceEqDiff,Nat.reduceLT,Nat.reduceLeDiff,Nat.reduceAdd,Nat.reduceMul,Nat.reduceSub,reduceCtorEq,Int.reduceToNat]<;>(repeat' first|rfl|apply And.intro))
            · repeat' first|((first|refine Br.dec ?_ ?_|refine Br.eqi ?_ ?_)<;>intro h<;>try (exfalso;omega))|refine Z5 ?_|with_reducible exact trivial|(refine Br.mk ?_ ?_<;>intro h)|(refine BrN.mk (fun h => ?_) ?_)|(refine AltVC.mk ?_ ?_)
              refine loopK.mk (m+1) Y0 ⟨by omega,by omega⟩ (by omega) ?_
              rw [← nx_row (j:=j) (by omega)]
              (simp (disch:=first|omega|(simp only [vlen];first|done|omega)) only [Fits_u,Fits_m,Fits_nil,List.length_append,vse,↓vAq,vBq,↓reduceIte,Nat.reduceBEq,Nat.reduceEqDiff,Nat.reduceLT,Nat.reduceLeDiff,Nat.reduceAdd,Nat.reduceMul,Nat.reduceSub,reduceCtorEq,Int.reduceToNat]<;>(repeat' first|rfl|apply And.intro))
        · repeat' first|((first|refine Br.dec ?_ ?_|refine Br.eqi ?_ ?_)<;>intro h<;>try (exfalso;omega))|refine Z26 ?_|with_reducible exact trivial|(refine Br.mk ?_ ?_<;>intro h)|(refine BrN.mk (fun h => ?_) ?_)|(refine AltVC.mk ?_ ?_)
          refine loopK.mk (q+1) Y0 (by omega) (by omega) ?_
          rw [take_succ_getD hql 0,hxe,← nx_all (m:=m) (j:=m) (by omega)]
          (simp (disch:=first|omega|(simp only [vlen];first|done|omega)) only [Fits_u,Fits_m,Fits_nil,List.length_append,vse,↓vAq,vBq,↓reduceIte,Nat.reduceBEq,Nat.reduceEqDiff,Nat.reduceLT,Nat.reduceLeDiff,Nat.reduceAdd,Nat.reduceMul,Nat.reduceSub,reduceCtorEq,Int.reduceToNat]<;>(repeat' first|rfl|apply And.intro))
    · have e:q=l.length:=by omega
      subst e
      rw [List.take_length]
      repeat' first|((first|refine Br.dec ?_ ?_|refine Br.eqi ?_ ?_)<;>intro h<;>try (exfalso;omega))|refine Z5 ?_|with_reducible exact trivial|(refine Br.mk ?_ ?_<;>intro h)|(refine BrN.mk (fun h => ?_) ?_)|(refine AltVC.mk ?_ ?_)
      exact finH_mk ((spO L).map some) (by simp [spO]) (by simp only [spO,List.map_cons,List.map_nil,List.length_cons,List.length_nil];simp (disch:=first|omega|(simp only [vlen];first|done|omega)) only [vse,↓vAq,vBq,↓reduceIte,Nat.reduceBEq,Nat.reduceEqDiff,Nat.reduceLT,Nat.reduceLeDiff,Nat.reduceAdd,Nat.reduceMul,Nat.reduceSub,reduceCtorEq,Int.reduceToNat]) Y11 ⟨trim_v,rfl⟩
end Go.Proofs.Ytcclchnbjpncdaa
