/-
 Texts of this claim, one behind another.
-/
import Derived.Test.YtcclchnbjpncdaaDmC
set_option linter.unusedSimpArgs false
set_option linter.unusedVariables false
namespace Go.Dm
open Go.RowKit
section
variable {P:Program} {G:Gh} {s:S} {a:Act} {w:World} {A:Nat→Prop} {β:Nat→Option Nat} {γ:Nat→Option (Nat × List Nat)} {o:Oper} {k:D→Prop}
theorem run_mapM {α γ:Type} (f:α→Sem γ) (g:α→γ) (w:World):∀ (l:List α),(∀ x,x ∈ l→(f x).run P w=.ok (g x) w)→(l.mapM f).run P w=.ok (l.map g) w
  | [],_=>by simp
  | x::l,h=>by
    simp only [List.mapM_cons,Sem.run_bind,h x (by simp),Result.andThen_ok,run_mapM f g w l (fun y hy=>h y (by simp [hy])),Sem.run_pure,List.map_cons]
theorem run_amapM {α γ:Type} (f:α→Sem γ) (g:α→γ) (w:World) (l:Array α) (h:∀ x,x ∈ l.toList→(f x).run P w=.ok (g x) w):(l.mapM f).run P w=.ok (l.map g) w:=by
  have e:l.mapM f=List.toArray <$> l.toList.mapM f:=Array.mapM_eq_mapM_toList
  rw [e,Sem.run_map,run_mapM f g w l.toList h,Result.andThen_ok,← Array.toList_map,Array.toArray_toList]
theorem one_cell:∀ v:Value,Value.one v=v.oneCell'
  | .agg _|.tuple _=>rfl
  | .bool _|.int _ _|.float _ _|.complex _ _ _|.string _|.pointer _|.slice _ _ _|.map _|.chan _|.func _ _ _|.nilFunc|.iface _ _|.nilIface=>rfl
theorem dr_one {N:Nat} {d:D} {v:Value} (h:DR w A β N d v) (h1:d.one=true):v.oneCell'=true:=by
  cases h with
  | cl d x h =>
    cases h with
    | v x=>rw [← one_cell];exact h1
    | nl|sl0|sl|ip|clo=>rfl
    | ag|tu|junk=>simp [D.one] at h1
  | ref|refz|ptr|mp|clo=>rfl
  | ag|tu=>simp [D.one] at h1
theorem cells_one {v:Value} (h:v.oneCell'=true):v.cells = #[v]:=by
  cases v<;>first|rfl|(simp [Value.oneCell'] at h)
theorem dr_cells {N:Nat} {d:D} {v:Value} (h:DR w A β N d v) (h1:d.cells.all D.one=true):v.cells.size=d.cells.length∧∀ i,i<d.cells.length→DR w A β N (d.cells.getD i .junk) (v.cells.getD i undef)∧(v.cells.getD i undef).oneCell'=true:=by
  by_cases ha : ∃ ds,d=.ag ds
  · obtain ⟨ds,rfl⟩:=ha
    obtain ⟨cs,rfl,hn,hr⟩:=dr_ag h
    refine ⟨hn,fun i hi=>⟨hr i hi,dr_one (hr i hi) ?_⟩⟩
    simp only [D.cells] at h1 hi ⊢
    have:=List.all_eq_true.1 h1 (ds.getD i .junk) (by simp [List.getD,hi])
    exact this
  · have e:d.cells=[d]:=by cases d<;>first|rfl|exact absurd ⟨_,rfl⟩ ha
    rw [e] at h1 ⊢
    have h2:d.one=true:=by simpa using h1
    have h3:=dr_one h h2
    rw [cells_one h3]
    refine ⟨rfl,fun i hi => ?_⟩
    have:i=0:=by simpa using hi
    subst this
    exact ⟨by simpa using h,by simpa using h3⟩
theorem foldl_size (l:List Value):∀ (off i0:Nat) (cs:Array Value),((l.zipIdx i0).foldl (fun cs (x:Value × Nat)=>cs.setIfInBounds (off+x.2) x.1) cs).size=cs.size:=by
  induction l with
  | nil=>intros;rfl
  | cons x l ih=>intro off i0 cs;simp only [List.zipIdx_cons,List.foldl_cons];rw [ih];simp
theorem foldl_get (l : List Value) : ∀ (off i0 : Nat) (cs : Array Value) (i : Nat), off + i0 + l.length ≤ cs.size →
    ((l.zipIdx i0).foldl (fun cs (x:Value × Nat)=>cs.setIfInBounds (off+x.2) x.1) cs).getD i undef=if off+i0≤i∧i<off+i0+l.length then l.getD (i - (off+i0)) undef else cs.getD i undef:=by
  induction l with
  | nil=>intro off i0 cs i _;simp;intro h1 h2;omega
  | cons x l ih =>
    intro off i0 cs i hl
    simp only [List.length_cons] at hl
    simp only [List.zipIdx_cons,List.foldl_cons]
    rw [ih off (i0+1) _ i (by simp;omega)]
    by_cases h:i=off+i0
    · subst h
      have hlt:off+i0<cs.size:=by omega
      rw [if_neg (by omega),if_pos (by simp)]
      simp [hlt]
    · have e1:(cs.setIfInBounds (off+i0) x).getD i undef=cs.getD i undef:=by
        simp only [Array.getD_eq_getD_getElem?,Array.getElem?_setIfInBounds]
        rw [if_neg (fun e=>h e.symm)]
      rw [e1]
      by_cases h2:off+i0≤i∧i<off+i0+(l.length+1)
      · rw [if_pos (by omega),if_pos (by simpa using h2)]
        obtain ⟨m,hm⟩ : ∃ m,i - (off+i0)=m+1:=⟨i - (off+i0) - 1,by omega⟩
        rw [hm,show i - (off+(i0+1))=m by omega];simp
      · rw [if_neg (by omega),if_neg (by simpa using h2)]
theorem splice_len {cells ds:List D} {off:Nat} (h:off+ds.length≤cells.length):(splice cells off ds).length=cells.length:=by
  simp only [splice,List.length_append,List.length_take,List.length_drop];omega
theorem splice_get {cells ds:List D} {off i:Nat} (h:off+ds.length≤cells.length):(splice cells off ds).getD i .junk=if off≤i∧i<off+ds.length then ds.getD (i - off) .junk else cells.getD i .junk:=by
  have htl:(cells.take off).length=off:=by rw [List.length_take];omega
  simp only [splice,List.getD_eq_getElem?_getD]
  by_cases h1:i<off
  · rw [if_neg (by omega),List.getElem?_append_left (by simp only [List.length_append,htl];omega),List.getElem?_append_left (by omega),List.getElem?_take,if_pos h1]
  · by_cases h2:i<off+ds.length
    · rw [if_pos ⟨by omega,h2⟩,List.getElem?_append_left (by simp only [List.length_append,htl];omega),List.getElem?_append_right (by omega),htl]
    · rw [if_neg (by omega),List.getElem?_append_right (by simp only [List.length_append,htl];omega),List.getElem?_drop]
      congr 2;simp only [List.length_append,htl];omega
theorem fill_sound (place : Nat → Option (Nat × Nat)) (g : GR G s a w A β γ) : ∀ (parts : List (Nat × Operand)) (ps : List (Nat × Nat × O)) (zero : List D) (cells : Array Value),
    (parts.length=ps.length∧∀ i,i<parts.length → ∃ off n y,ps[i]?=some (off,n,y)∧place (parts.getD i (0,default)).1=some (off,n)∧cO (parts.getD i (0,default)).2=some y) →
    cells.size=zero.length→(∀ i,i<zero.length→DR w A β s.N (zero.getD i .junk) (cells.getD i undef))→kBld s k ps zero →
    ∃ ds cs,k (.ag ds)∧Instr.fill place cells (parts.map fun p=>(p.1,a.eval p.2))=some cs∧cs.size=ds.length∧∀ i,i<ds.length→DR w A β s.N (ds.getD i .junk) (cs.getD i undef)
  | [],ps,zero,cells,hp,hs,hr,h=>by
    obtain ⟨hl,_⟩:=hp
    have:ps=[]:=List.eq_nil_of_length_eq_zero (by simpa using hl.symm)
    subst this
    exact ⟨zero,cells,h,rfl,hs,hr⟩
  | (i,x)::parts,[],zero,cells,hp,hs,hr,h=>by simp at hp
  | (i, x) :: parts, (off, n, y) :: ps, zero, cells, hp, hs, hr, h => by
    obtain ⟨hl,hi⟩:=hp
    obtain ⟨off',n',y',e1,e2,e3⟩:=hi 0 (by simp)
    simp only [List.getElem?_cons_zero,Option.some.injEq,Prod.mk.injEq] at e1
    obtain ⟨rfl,rfl,rfl⟩:=e1
    simp only [List.getD_cons_zero] at e2 e3
    obtain ⟨⟨h1,h2,h3⟩,h4⟩:=h
    have ev:=g.evalO e3
    obtain ⟨c1,c2⟩:=dr_cells ev h3
    have hsz:(a.eval x).cells.size=n:=by rw [c1,h1]
    have hfit:off+(s.g y).cells.length≤zero.length:=by omega
    have hstep:((a.eval x).cells.zipIdx.foldl (fun cs (c,j)=>cs.setIfInBounds (off+j) c) cells)=(((a.eval x).cells.toList.zipIdx 0).foldl (fun cs (x:Value × Nat)=>cs.setIfInBounds (off+x.2) x.1) cells):=by
      rw [← Array.foldl_toList,Array.toList_zipIdx]
    obtain ⟨ds,cs,r1,r2,r3,r4⟩:=fill_sound place g parts ps (splice zero off (s.g y).cells) ((a.eval x).cells.zipIdx.foldl (fun cs (c,j)=>cs.setIfInBounds (off+j) c) cells)
      ⟨by simpa using hl,fun j hj=>by
        obtain ⟨o2,n2,y2,q1,q2,q3⟩:=hi (j+1) (by simpa using hj)
        exact ⟨o2,n2,y2,by simpa using q1,by simpa using q2,by simpa using q3⟩⟩
      (by rw [hstep,foldl_size,splice_len hfit,hs])
      (fun j hj=>by
        rw [splice_len hfit] at hj
        rw [hstep,foldl_get _ _ _ _ _ (by simp [c1];omega),splice_get hfit]
        simp only [Nat.add_zero,Array.length_toList,c1]
        by_cases hc:off≤j∧j<off+(s.g y).cells.length
        · rw [if_pos hc,if_pos hc]
          have:=(c2 (j - off) (by omega)).1
          have e:(a.eval x).cells.toList.getD (j - off) undef=(a.eval x).cells.getD (j - off) undef:=by simp [List.getD,Array.getD_eq_getD_getElem?]
          rw [e];exact this
        · rw [if_neg hc,if_neg hc];exact hr j hj)
      h4
    refine ⟨ds,cs,r1,?_,r3,r4⟩
    simp only [List.map_cons,Instr.fill,e2,hsz]
    rw [if_neg (by simp;omega)]
    exact r2
theorem mapM_zCell : ∀ (l : List Value) (z : List D), l.mapM zCell = some z → l.length = z.length ∧ ∀ i, i < z.length → CR w A (z.getD i .junk) (l.getD i undef) ∧ (z.getD i .junk).one = true ∧ (z.getD i .junk).cl = true
  | [],z,h=>by simp at h;subst h;exact ⟨rfl,fun i hi=>by simp at hi⟩
  | x :: l, z, h => by
    simp only [List.mapM_cons,Option.bind_eq_bind,Option.pure_def,Option.bind_eq_some_iff] at h
    obtain ⟨y,hy,z',hz,h⟩:=h
    cases h
    obtain ⟨i1,i2⟩:=mapM_zCell l z' hz
    refine ⟨by simp [i1],fun i hi => ?_⟩
    cases i with
    | zero =>
      simp only [List.getD_cons_zero]
      unfold zCell at hy
      split at hy
      · cases hy;exact ⟨.nl,rfl,by simp [D.cl,D.alls,clL]⟩
      · cases hy
      · cases hy
      · cases hy
      · next h1 h2 h3 h4 =>
        cases hy
        refine ⟨.v x,?_,by simp [D.cl,D.alls,clL]⟩
        cases x<;>first|rfl|exact absurd rfl (h3 _)|exact absurd rfl (h4 _)
    | succ i=>simpa using i2 i (by simpa using hi)
theorem zOf_spec {t:TypeId} {z:List D} (h:zOf P t=some z) : ∃ v:Value,(∀ w,(zeroValue t).run P w=.ok v w)∧v.cells.size=z.length ∧
    (∀ w A i,i<z.length→CR w A (z.getD i .junk) (v.cells.getD i undef)∧(z.getD i .junk).one=true∧(z.getD i .junk).cl=true):=by
  unfold zOf at h
  split at h
  · next v hv =>
    rw [Option.bind_eq_some_iff] at hv
    obtain ⟨ti,hti,hz⟩:=hv
    refine ⟨v,fun w=>by simp [zeroValue,typeInfo,hti,hz],?_,fun w A i hi => ?_⟩
    · have:=(mapM_zCell (w:=default) (A:=fun _=>False) _ _ h).1;simpa using this
    · have:=(mapM_zCell (w:=w) (A:=A) _ _ h).2 i hi
      simpa [List.getD,Array.getD_eq_getD_getElem?] using this
  · cases h
theorem pu_bld {t:TypeId} {parts:Array (Nat × Operand)} {fs:Array Field} {zero:List D} {ps:List (Nat × Nat × O)} (ho:o.op=.build t parts) (ht:P.underlying t=some (.struct fs)) (hz:zOf P t=some zero)
    (hps:(parts.toList.mapM fun p=>do let f ← fs[p.1]?;let z ← szOf P f.type;pure (f.offset,z,← cO p.2))=some ps) (hall:fs.toList.all (fun f=>(szOf P f.type).isSome)=true)
    (h:kBld s k ps zero) (g:GR G s a w A β γ) : ∃ d v,k d∧DR w A β s.N d v∧Yields P a w o v:=by
  obtain ⟨v,hv,hn,hc⟩:=zOf_spec hz
  have key:∀ (l:List (Nat × Operand)) (ps:List (Nat × Nat × O)),(l.mapM fun p=>do let f ← fs[p.1]?;let z ← szOf P f.type;pure (f.offset,z,← cO p.2))=some ps →
      l.length=ps.length∧∀ i,i<l.length → ∃ off n y,ps[i]?=some (off,n,y)∧((fs.map fun f=>(f.offset,(szOf P f.type).getD 0))[(l.getD i (0,default)).1]?)=some (off,n)∧cO (l.getD i (0,default)).2=some y:=by
    intro l
    induction l with
    | nil=>intro ps h;simp at h;subst h;exact ⟨rfl,fun i hi=>by simp at hi⟩
    | cons p l ih =>
      intro ps h
      simp only [List.mapM_cons,Option.bind_eq_bind,Option.pure_def,Option.bind_eq_some_iff] at h
      obtain ⟨y,⟨f,hf,z,hz,y',hy,e⟩,ps',hps',h⟩:=h
      cases h;cases e
      obtain ⟨i1,i2⟩:=ih ps' hps'
      refine ⟨by simp [i1],fun i hi => ?_⟩
      cases i with
      | zero=>exact ⟨f.offset,z,y',rfl,by simp [hf,hz],by simpa using hy⟩
      | succ i=>simpa using i2 i (by simpa using hi)
  obtain ⟨ds,cs,r1,r2,r3,r4⟩:=fill_sound (fun i=>(fs.map fun f=>(f.offset,(szOf P f.type).getD 0))[i]?) g parts.toList ps zero v.cells (key _ _ hps) hn (fun i hi=>.cl _ _ (hc w A i hi).1) h
  refine ⟨_,_,r1,.ag ds cs r3 r4,fun w' _ => ?_⟩
  have hm:=run_amapM (P:=P) (fun f:Field=>do pure (f.offset,← sizeOf f.type)) (fun f=>(f.offset,(szOf P f.type).getD 0)) w' fs (fun f hf=>by
    have:=List.all_eq_true.1 hall f hf
    obtain ⟨n,hn⟩:=Option.isSome_iff_exists.1 this
    simp [szOf_spec hn,hn])
  have e:(parts.map fun x=>(x.1,a.eval x.2)).toList=parts.toList.map fun p=>(p.1,a.eval p.2):=by simp
  simp only [execOp,ho,Instr.build,Sem.run_bind,hv,Result.andThen_ok,und_run ht,hm,e,r2,Sem.run_pure]
end
end Go.Dm

namespace Go.Dm
open Go.RowKit
section
variable {P:Program} {G:Gh} {s:S} {a:Act} {w:World} {A:Nat→Prop} {β:Nat→Option Nat} {γ:Nat→Option (Nat × List Nat)} {o:Oper}
theorem heap_new (w:World) (ob:Obj):(w.alloc ob).heap[w.heap.size]?=some ob:=Array.getElem?_push_size
theorem GR.newO (g : GR G s a w A β γ) {w' : World} (hw : Below w.heap.size w w') {x : Option Nat} {ob : Ob} (hO : ∀ β' γ', β' s.N = x → (∀ τ, τ < s.N → β' τ = β τ) → OR w' A β' γ' (s.N + 1) ob s.N)
    (hx:∀ b,x=some b→w.heap.size≤b∧b<w'.heap.size) :
    ∃ β' γ',GR G ((s.setM s.N ob).setN (s.N+1)) a w' A β' γ'∧β' s.N=x∧∀ τ,τ<s.N→β' τ=β τ:=by
  have g':=g.world hw
  let β':Nat→Option Nat:=fun τ=>if τ=s.N then x else β τ
  let γ':Nat→Option (Nat × List Nat):=fun b=>if x=some b then some (s.N,[]) else match γ b with
    | some (σ,π)=>if σ<s.N then some (σ,π) else none
    | none=>none
  have h1:β' s.N=x:=by simp [β']
  have h2:∀ τ,τ<s.N→β' τ=β τ:=fun τ h=>by simp [β',Nat.ne_of_lt h]
  have hM:∀ τ,((s.setM s.N ob).setN (s.N+1)).M τ=if τ=s.N then some ob else s.M τ:=fun _=>rfl
  have live:∀ τ,τ<s.N→((s.setM s.N ob).setN (s.N+1)).M τ=s.M τ:=fun τ h=>by rw [hM,if_neg (Nat.ne_of_lt h)]
  have hγ:∀ b τ π,γ b=some (τ,π)→τ<s.N→s.M τ ≠ none→γ' b=some (τ,π):=by
    intro b τ π e h3 h4
    have:=(g.hr.own b τ π e h3 h4).1
    have hne:x ≠ some b:=fun he=>by have:=(hx b he).1;omega
    simp only [γ',if_neg hne,e,if_pos h3]
  have invγ:∀ b τ π,γ' b=some (τ,π)→(τ=s.N∧x=some b)∨(τ<s.N∧γ b=some (τ,π)):=by
    intro b τ π h
    simp only [γ'] at h
    split at h
    · next e=>simp only [Option.some.injEq,Prod.mk.injEq] at h;exact .inl ⟨h.1.symm,e⟩
    · split at h
      · next σ π' he =>
        split at h
        · next hlt=>simp only [Option.some.injEq,Prod.mk.injEq] at h;obtain ⟨rfl,rfl⟩:=h;exact .inr ⟨hlt,he⟩
        · cases h
      · cases h
  refine ⟨β',γ',⟨g'.size,g'.defers,⟨g'.hr.below,g'.hr.sub,g'.hr.up,g'.hr.low,fun τ ob' hτ hm => ?_,fun b τ π e hτ hm => ?_,fun τ b hτ hm e => ?_,Nat.le_trans g.hr.ge (Nat.le_succ _),g.hr.flt,fun τ hF => ?_⟩,fun t => ?_,g'.keep⟩,h1,h2⟩
  · by_cases hN:τ=s.N
    · subst hN
      have:ob'=ob:=by
        rw [hM,if_pos rfl] at hm;exact (Option.some.inj hm).symm
      subst this
      exact hO β' γ' h1 h2
    · have hlt:τ<s.N:=by
        have:τ<s.N+1:=hτ
        omega
      rw [live τ hlt] at hm
      exact (g'.hr.objs τ ob' hlt hm).mono hlt (fun _ _=>rfl) (fun _ h=>h) (Shp.refl _) (Nat.le_succ _) h2 (fun b π _ e=>⟨rfl,hγ b τ π e hlt (by rw [hm];simp)⟩) (fun _ _=>rfl)
  · rcases invγ b τ π e with ⟨rfl,he⟩|⟨hlt,he⟩
    · obtain ⟨q1,q2⟩:=hx b he
      exact ⟨q2,fun hA=>absurd (g.hr.low b hA) (by omega),.inl (Nat.le_trans g.hr.below.size q1),(hO β' γ' h1 h2).noth (h1.trans he)⟩
    · rw [live τ hlt] at hm
      exact g'.hr.own b τ π he hlt hm
  · by_cases hN:τ=s.N
    · subst hN;rw [h1] at e
      simp only [γ',if_pos e]
    · have hlt:τ<s.N:=by
        have:τ<s.N+1:=hτ
        omega
      rw [live τ hlt] at hm;rw [h2 τ hlt] at e
      exact hγ b τ [] (g.hr.root τ b hlt hm e) hlt hm
  · have hlt:=Nat.lt_of_lt_of_le (g.hr.flt τ hF) g.hr.ge
    exact ⟨by rw [h2 τ hlt];exact (g.hr.fixd τ hF).1,fun ob' hm=>(g.hr.fixd τ hF).2 ob' (by rw [← live τ hlt];exact hm)⟩
  · exact (g'.slots t).mono (fun _ _=>rfl) (fun _ h=>h) (Shp.refl _) (Nat.le_succ _) h2
theorem cl_no {d:D} (h:d.cl=true):d.isOwn=false:=by
  cases d<;>first|rfl|(simp [D.cl,D.alls,clL] at h)
theorem dr_no {N:Nat} {d:D} {v:Value} (h:DR w A β N d v):d.isOwn=false:=by
  cases h with
  | cl d x h=>cases h<;>rfl
  | _=>rfl
theorem newt_rows (g : GR G s a w A β γ) {d : Option Nat} (hd : ∀ t, d = some t → t < G.nt ∧ ∀ y, ¬ G.T t y) {w1 : World} (h1 : Below w.heap.size w w1) {arr : Array Value} {T : TypeId} {ob : Ob} {x : Nat → D} {v : Value} (hk : ob.kd.isMap = false)
    (hsz:ob.es.length * ob.sz≤arr.size) (hln:∀ i,i<ob.es.length→(ob.es.getD i []).length=ob.sz) (hr:∀ i j,i<ob.es.length→j<ob.sz→DR w1 A β s.N ((ob.es.getD i []).getD j .junk) (arr.getD (i * ob.sz+j) undef) ∧
      (ob.flat=true→CR w1 A ((ob.es.getD i []).getD j .junk) (arr.getD (i * ob.sz+j) undef))∧(arr.getD (i * ob.sz+j) undef).oneCell'=true)
    (hx:∀ β',β' s.N=some w1.heap.size→DR (w1.alloc (.cells arr T)) A β' (s.N+1) (x s.N) v):SR G (s.newt d ob x) (a.put d v) (w1.alloc (.cells arr T)):=by
  have hal:Below w1.heap.size w1 (w1.alloc (.cells arr T)):=(Below.refl _ _).alloc (Nat.le_refl _) _
  have hb:Below w.heap.size w (w1.alloc (.cells arr T)):=h1.trans (hal.mono h1.size)
  have hA1:∀ b,A b→(w1.alloc (.cells arr T)).heap[b]?=w1.heap[b]?:=fun b hb=>hal.block b (Nat.lt_of_lt_of_le (g.hr.low b hb) h1.size)
  have hsame:Same w1 (w1.alloc (.cells arr T)):=fun b hb=>hal.block b hb
  obtain ⟨β',γ',g2,e1,e2⟩:=g.newO hb (x:=some w1.heap.size) (ob:=ob) (fun β' γ' e1 e2=>⟨hln,fun _ i j hi hj=>dr_no (hr i j hi hj).1,.inr ⟨w1.heap.size,_,fun i j=>arr.getD (i * ob.sz+j) undef,e1,heap_new _ _,by
        cases hkd:ob.kd with
        | map k ka va=>rw [hkd] at hk;cases hk
        | itr=>rw [hkd] at hk;cases hk
        | arr=>exact ⟨arr,T,rfl,hsz,fun _ _ _ _=>rfl⟩
        | fix=>exact ⟨arr,T,rfl,hsz,fun _ _ _ _=>rfl⟩,fun i j hi hj =>
      ⟨fun _=>(hr i j hi hj).1.mono hA1 (fun _ h=>h) hsame.shp (Nat.le_succ _) e2,(fun hf=>by
        rcases hf with hf|hf
        · exact .cr _ _ _ (((hr i j hi hj).2.1 hf).mono hA1 (fun _ h=>h))
        · rw [dr_no (hr i j hi hj).1] at hf;cases hf),(hr i j hi hj).2.2⟩⟩⟩)
    (fun b e=>by cases e;exact ⟨h1.size,by show w1.heap.size<(w1.heap.push _).size;rw [Array.size_push];omega⟩)
  exact ⟨A,β',γ',g2.put (hx β' e1) hd⟩
theorem newt_nil (g:GR G s a w A β γ) {d:Option Nat} (hd:∀ t,d=some t→t<G.nt∧∀ y,¬ G.T t y) {sz:Nat} {fl ow:Bool}:SR G (s.newt d ⟨sz,[],fl,ow,.arr⟩ fun τ=>.ref τ sz 0 0) (a.put d (.slice none 0 0)) w:=by
  obtain ⟨β',γ',g2,e1,e2⟩:=g.newO (Below.refl _ _) (x:=none) (ob:=⟨sz,[],fl,ow,.arr⟩) (fun β' γ' e1 _=>⟨fun i hi=>by simp at hi,fun _ i j hi=>by simp at hi,.inl ⟨e1,rfl,rfl⟩⟩) (fun b e=>by cases e)
  exact ⟨A,β',γ',g2.put (.refz _ _ _ _ (Nat.lt_succ_self _)) hd⟩
def Does (gr:Bool) (P:Program) (G:Gh) (a:Act) (w:World) (o:Oper) (K:S→Prop):Prop :=
  ∀ N:Value→World→Prop,(∀ s' u w',K s'→SR G s' (a.put o.dst u) w'→(gr=true→Same w w')→N u w')→Eff P o a w N
theorem Does.valueG {gr:Bool} {K:S→Prop} {v:Value} {w':World} {s':S} (hs:gr=true→Same w w') (hr:(execOp a.eval o).run P w=.ok (.value v) w') (hk:K s') (h:SR G s' (a.put o.dst v) w'):Does gr P G a w o K:=by
  intro N hn
  unfold Eff
  rw [hr]
  exact hn _ _ _ hk h hs
theorem Does.value {K:S→Prop} {v:Value} {w':World} {s':S} (hr:(execOp a.eval o).run P w=.ok (.value v) w') (hk:K s') (h:SR G s' (a.put o.dst v) w'):Does false P G a w o K:=Does.valueG (fun h=>by cases h) hr hk h
theorem Does.skip {K:S→Prop} {w':World} {s':S} (hr:(execOp a.eval o).run P w=.ok .skip w') (hk:K s') (h:SR G s' (a.put o.dst undef) w'):Does false P G a w o K:=by
  intro N hn
  unfold Eff
  rw [hr]
  exact hn _ _ _ hk h (fun h=>by cases h)
theorem same_alloc (w:World) (ob:Obj):Same w (w.alloc ob):=fun b hb=>Below.heap_alloc w ob b hb
theorem ef_nil {gr:Bool} {sz:Nat} {K:S→Prop} (ho:o.op=.assign (.const (.slice none 0 0))) (hd:∀ t,o.dst=some t→t<G.nt∧∀ y,¬ G.T t y) (h:K (s.newt o.dst ⟨sz,[],true,false,.arr⟩ fun τ=>.ref τ sz 0 0)) (g:GR G s a w A β γ):Does gr P G a w o K :=
  Does.valueG (fun _=>Same.refl w) (by simp [execOp,ho,Act.eval]) h (newt_nil g hd)
theorem ef_new {gr:Bool} {e:TypeId} {z:List D} {K:S→Prop} (ho:o.op=.alloc e) (hz:zOf P e=some z) (hd:∀ t,o.dst=some t→t<G.nt∧∀ y,¬ G.T t y)
    (h:K (s.newt o.dst ⟨z.length,[z],true,false,.fix⟩ fun τ=>.ptr τ z.length 0 0)) (g:GR G s a w A β γ):Does gr P G a w o K:=by
  obtain ⟨v,hv,hn,hc⟩:=zOf_spec hz
  refine Does.valueG (fun _=>same_alloc w _) (v:=.pointer (some ⟨w.heap.size,0,none⟩)) (w':=w.alloc (.cells v.cells e)) (by simp [execOp,ho,Instr.alloc,hv,newVar,newRow]) h ?_
  refine newt_rows g hd (Below.refl _ _) rfl (by simp [hn]) (fun i hi => ?_) (fun i j hi hj => ?_) (fun β' eb => ?_)
  · have:i=0:=by simpa using hi
    subst this;rfl
  · have:i=0:=by simpa using hi
    subst this
    have:=(hc w A j hj).1
    simp only [Nat.zero_mul,Nat.zero_add,List.getD_cons_zero]
    exact ⟨.cl _ _ this,fun _=>this,dr_one (β:=β) (N:=0) (.cl _ _ this) (hc w A j hj).2.1⟩
  · have:=DR.ptr (w:=w.alloc (.cells v.cells e)) (A:=A) s.N z.length 0 0 w.heap.size (Nat.lt_succ_self _) eb
    simpa using this
theorem dr_cl {N:Nat} {d:D} {v:Value} (h:DR w A β N d v) (hc:d.cl=true):CR w A d v:=h.toC hc
theorem ef_box {gr:Bool} {e:TypeId} {n:Nat} {x:Operand} {y:O} {K:S→Prop} (ho:o.op=.box e x) (hx:cO x=some y) (hd:∀ t,o.dst=some t→t<G.nt∧∀ y,¬ G.T t y)
    (h:kRows s o.dst n false K [(s.g y).cells]) (g:GR G s a w A β γ):Does gr P G a w o K:=by
  obtain ⟨h1,hk⟩:=h
  simp only [List.all_cons,List.all_nil,Bool.and_true,Bool.and_eq_true,beq_iff_eq] at h1
  obtain ⟨hl,ha⟩:=h1
  have ev:=g.evalO hx
  obtain ⟨c1,c2⟩:=dr_cells ev ha
  simp only [Bool.false_eq_true,if_false] at hk
  refine Does.valueG (fun _=>same_alloc w _) (v:=.pointer (some ⟨w.heap.size,0,none⟩)) (w':=w.alloc (.cells (a.eval x).cells e)) (by simp [execOp,ho,Instr.box,newVar,newRow]) hk ?_
  refine newt_rows g hd (Below.refl _ _) rfl (by simp [c1,hl]) (fun i hi => ?_) (fun i j hi hj => ?_) (fun β' eb => ?_)
  · have:i=0:=by simpa using hi
    subst this;simpa using hl
  · have:i=0:=by simpa using hi
    subst this
    simp only [Nat.zero_mul,Nat.zero_add,List.getD_cons_zero]
    have hj':j<(s.g y).cells.length:=by rw [hl];exact hj
    refine ⟨(c2 j hj').1,fun hf=>dr_cl (c2 j hj').1 ?_,(c2 j hj').2⟩
    simp only [List.all_cons,List.all_nil,Bool.and_true] at hf
    exact List.all_eq_true.1 hf _ (by simp [List.getD,hj'])
  · have:=DR.ptr (w:=w.alloc (.cells (a.eval x).cells e)) (A:=A) s.N n 0 0 w.heap.size (Nat.lt_succ_self _) eb
    simpa using this
theorem byOf_spec {t:TypeId} {n:Nat} (h:byOf P t=some n) : ∃ i,P.info? t=some i∧i.bytes=n:=by
  unfold byOf at h
  cases hi:P.info? t with
  | none=>rw [hi] at h;simp at h
  | some i=>rw [hi] at h;simp only [Option.map_some,Option.some.injEq] at h;exact ⟨i,rfl,h⟩
theorem wrap_small {z:Int} (h0:0≤z) (h1:z≤140737488355328):IntKind.i64.wrap z=z:=IntWalk.i64_in z ⟨by omega,by omega⟩
theorem ef_mk {gr : Bool} {t e : TypeId} {l : Operand} {y : O} {sz by_ : Nat} {zero : List D} {K : S → Prop} (ho : o.op = .makeSlice t l l) (ht : isSlice P t = some e) (hs : szOf P e = some sz) (hz : zOf P e = some zero) (hb : byOf P e = some by_)
    (hzl:zero.length=sz) (hs0:0<sz) (hb0:0<by_) (hl:cO l=some y) (hd:∀ t,o.dst=some t→t<G.nt∧∀ y,¬ G.T t y) (h:kMk s o.dst sz zero by_ K (s.g y)) (g:GR G s a w A β γ):Does gr P G a w o K:=by
  have ev:=g.evalO hl
  unfold kMk at h
  split at h
  · next z hzz =>
    obtain ⟨⟨h0,h1⟩,hk⟩:=h
    rw [hzz] at ev
    have e1:=dr_v ev
    obtain ⟨v,hv,hn,hc⟩:=zOf_spec hz
    obtain ⟨ti,hti,hbt⟩:=byOf_spec hb
    have hz47:z≤140737488355328:=by
      have:z * 1≤z * by_:=Int.mul_le_mul_of_nonneg_left (by omega) h0
      omega
    have hw:=wrap_small h0 hz47
    have hbz:(by_:Int) * z≤281474976710656:=by rw [Int.mul_comm];omega
    have hu:=isSlice_spec ht
    have hvl:v.cells.size=sz:=by rw [hn,hzl]
    let arr:Array Value:=(Array.range (z.toNat * sz)).map fun i=>v.cells[i % v.cells.size]!
    have hrun:(execOp a.eval o).run P w=.ok (.value (.slice (some ⟨w.heap.size,0,none⟩) z.toNat z.toNat)) (w.alloc (.cells arr e)):=by
      by_cases hz0:z.toNat * sz=0
      · have:arr = #[]:=by simp [arr,hz0]
        rw [this]
        have hz1:z.toNat=0:=by
          rcases Nat.mul_eq_zero.1 hz0 with h|h
          · exact h
          · omega
        have hz2:z=0:=by omega
        subst hz2
        simp [execOp,ho,e1,Instr.makeSlice,und_run hu,asInt,asIntOf,typeInfo,hti,szOf_spec hs,newRow,IntKind.wrap,IntKind.bits,IntKind.signed]
        congr 2
        exact Array.eq_empty_of_size_eq_zero (by simp)
      · simp [execOp,ho,e1,Instr.makeSlice,und_run hu,asInt,asIntOf,typeInfo,hti,hbt,hw,szOf_spec hs,newRow,hv,hz0,Int.not_lt.2 h0,Int.not_lt.2 hbz,arr]
    refine Does.valueG (fun _=>same_alloc w _) hrun hk (newt_rows g hd (Below.refl _ _) rfl (by simp [arr]) (fun i hi => ?_) (fun i j hi hj => ?_) (fun β' eb => ?_))
    · simp only [List.length_replicate] at hi
      simp [List.getD,hi,hzl]
    · simp only [List.length_replicate] at hi
      have hlt:=in_row hi hj
      have e2:(List.replicate z.toNat zero).getD i []=zero:=by simp [List.getD,hi]
      have e3:arr.getD (i * sz+j) undef=v.cells.getD j undef:=by
        have hm:(i * sz+j) % sz=j:=by rw [Nat.mul_comm,Nat.mul_add_mod];exact Nat.mod_eq_of_lt hj
        have hj':j<v.cells.size:=by rw [hvl];exact hj
        simp only [arr,Array.getD_eq_getD_getElem?,Array.getElem?_map,Array.getElem?_range,hlt,if_true,Option.map_some,Option.getD_some,hvl,hm]
        simp [hj']
      simp only [e2,e3]
      have:=(hc w A j (by rw [hzl];exact hj)).1
      exact ⟨.cl _ _ this,fun _=>this,dr_one (β:=β) (N:=0) (.cl _ _ this) (hc w A j (by rw [hzl];exact hj)).2.1⟩
    · have:=DR.ref (w:=w.alloc (.cells arr e)) (A:=A) s.N sz 0 z.toNat z.toNat w.heap.size arr _ (Nat.lt_succ_self _) eb (Nat.le_refl _) (heap_new _ _) (by simp [arr])
      simpa using this
  · exact h.elim
end
end Go.Dm

namespace Go.Dm
open Go.RowKit
section
variable {P:Program} {G:Gh} {s:S} {a:Act} {w:World} {A:Nat→Prop} {β:Nat→Option Nat} {γ:Nat→Option (Nat × List Nat)} {o:Oper}
theorem fill_rows (g : GR G s a w A β γ) {sz : Nat} : ∀ (l : List (Nat × Operand)) (ys : List O) (i0 : Nat) (cells : Array Value),
    (l.mapM fun p=>cO p.2)=some ys→l.map (·.1)=List.range' i0 l.length→(∀ y,y ∈ ys→(s.g y).cells.length=sz∧(s.g y).cells.all D.one=true)→(i0+l.length) * sz≤cells.size →
    ∃ cs,Instr.fill (fun i=>some (i * sz,sz)) cells (l.map fun p=>(p.1,a.eval p.2))=some cs∧cs.size=cells.size∧(∀ m,m<i0 * sz→cs.getD m undef=cells.getD m undef) ∧
      ys.length=l.length∧∀ i j,i<l.length→j<sz→DR w A β s.N ((s.g (ys.getD i default)).cells.getD j .junk) (cs.getD ((i0+i) * sz+j) undef)
  | [],ys,i0,cells,h,_,_,_=>by
    simp at h;subst h
    exact ⟨cells,rfl,rfl,fun _ _=>rfl,rfl,fun i j hi=>by simp at hi⟩
  | (k, x) :: l, ys, i0, cells, h, hf, hy, hsz => by
    simp only [List.mapM_cons,Option.bind_eq_bind,Option.pure_def,Option.bind_eq_some_iff] at h
    obtain ⟨y,hx,ys',hys,h⟩:=h
    cases h
    simp only [List.map_cons,List.length_cons,List.range'_succ,List.cons.injEq] at hf
    obtain ⟨rfl,hf⟩:=hf
    obtain ⟨c1,c2⟩:=hy y (by simp)
    have ev:=g.evalO hx
    obtain ⟨d1,d2⟩:=dr_cells ev c2
    simp only [List.length_cons] at hsz
    have hmul:(k+(l.length+1)) * sz=k * sz+sz+l.length * sz:=by rw [Nat.add_mul,Nat.add_mul];omega
    have hmul2:(k+1+l.length) * sz=k * sz+sz+l.length * sz:=by rw [Nat.add_mul,Nat.add_mul];omega
    have hv:(a.eval x).cells.size=sz:=by rw [d1,c1]
    have hstep:((a.eval x).cells.zipIdx.foldl (fun cs (c,j)=>cs.setIfInBounds (k * sz+j) c) cells)=(((a.eval x).cells.toList.zipIdx 0).foldl (fun cs (x:Value × Nat)=>cs.setIfInBounds (k * sz+x.2) x.1) cells):=by
      rw [← Array.foldl_toList,Array.toList_zipIdx]
    obtain ⟨cs,r1,r2,r3,r4,r5⟩:=fill_rows g l ys' (k+1) ((a.eval x).cells.zipIdx.foldl (fun cs (c,j)=>cs.setIfInBounds (k * sz+j) c) cells) hys hf (fun y h=>hy y (by simp [h])) (by rw [hstep,foldl_size];omega)
    have hget:∀ m,((a.eval x).cells.zipIdx.foldl (fun cs (c,j)=>cs.setIfInBounds (k * sz+j) c) cells).getD m undef=if k * sz≤m∧m<k * sz+sz then (a.eval x).cells.toList.getD (m - k * sz) undef else cells.getD m undef:=by
      intro m
      rw [hstep,foldl_get _ _ _ _ _ (by simp [hv];omega)]
      simp only [Nat.add_zero,Array.length_toList,hv]
    refine ⟨cs,?_,by rw [r2,hstep,foldl_size],fun m hm => ?_,by simp [r4],fun i j hi hj => ?_⟩
    · simp only [List.map_cons,Instr.fill,hv]
      rw [if_neg (by simp;omega)]
      exact r1
    · rw [r3 m (by rw [Nat.add_mul];omega),hget,if_neg (by omega)]
    · cases i with
      | zero =>
        have e1:(k+0) * sz+j<(k+1) * sz:=by rw [Nat.add_zero,Nat.add_mul];omega
        rw [r3 _ e1,hget,if_pos (by simp;omega)]
        have:=(d2 j (by rw [c1];exact hj)).1
        have e2:(a.eval x).cells.toList.getD ((k+0) * sz+j - k * sz) undef=(a.eval x).cells.getD j undef:=by
          rw [Nat.add_zero,Nat.add_sub_cancel_left];simp [List.getD,Array.getD_eq_getD_getElem?]
        rw [e2];simpa using this
      | succ i =>
        have:=r5 i j (by simpa using hi) hj
        rw [show k+(i+1)=k+1+i by omega]
        simpa using this
theorem ef_bsl {gr:Bool} {t e:TypeId} {len sz:Nat} {parts:Array (Nat × Operand)} {ys:List O} {K:S→Prop} (ho:o.op=.buildSlice t len parts) (ht:isSlice P t=some e) (hs:szOf P e=some sz) (hz : ∃ z,(P.info? e).bind (·.zero)=some z)
    (hp:parts.toList.map (·.1)=List.range len) (hl:len * sz≤2 ^ 24) (hys:(parts.toList.mapM fun p=>cO p.2)=some ys) (hd:∀ t,o.dst=some t→t<G.nt∧∀ y,¬ G.T t y)
    (h:kRows s o.dst sz true K (ys.map fun y=>(s.g y).cells)) (g:GR G s a w A β γ):Does gr P G a w o K:=by
  obtain ⟨h1,hk⟩:=h
  simp only [if_true] at hk
  have hrow:∀ y,y ∈ ys→(s.g y).cells.length=sz∧(s.g y).cells.all D.one=true:=by
    intro y hy
    have:=List.all_eq_true.1 h1 _ (List.mem_map.2 ⟨y,hy,rfl⟩)
    simpa using this
  have hlen:parts.toList.length=len:=by have:=congrArg List.length hp;simpa using this
  obtain ⟨z,hz⟩:=hz
  have hzr:∀ w',(zeroValue e).run P w'=.ok z w':=by
    intro w'
    rw [Option.bind_eq_some_iff] at hz
    obtain ⟨ti,h1,h2⟩:=hz
    simp [zeroValue,typeInfo,h1,h2]
  let base:Array Value:=(Array.range (len * sz)).map fun i=>(if len * sz=0 then (#[]:Array Value) else z.cells)[i % (if len * sz=0 then (#[]:Array Value) else z.cells).size]!
  obtain ⟨cs,r1,r2,_,r4,r5⟩:=fill_rows g parts.toList ys 0 base hys (by rw [hp,hlen,List.range_eq_range']) hrow (by simp [base,hlen])
  have e2:(parts.map fun x=>(x.1,a.eval x.2)).toList=parts.toList.map fun p=>(p.1,a.eval p.2):=by simp
  have hu:=isSlice_spec ht
  have hrun:(execOp a.eval o).run P w=.ok (.value (.slice (some ⟨w.heap.size,0,none⟩) len len)) (w.alloc (.cells cs e)):=by
    by_cases h0:len * sz=0
    · simp only [base,h0,if_true] at r1
      simp only [execOp,ho,Instr.buildSlice,Sem.run_bind,und_run hu,Result.andThen_ok,szOf_spec hs,h0,if_true,Sem.run_pure,e2,Sem.run_ite]
      simp only [show ¬ (0:Nat)>2 ^ 24 by omega,if_false,r1]
      simp [newRow]
    · simp only [base,h0,if_false] at r1
      simp only [execOp,ho,Instr.buildSlice,Sem.run_bind,und_run hu,Result.andThen_ok,szOf_spec hs,h0,if_false,Sem.run_pure,e2,Sem.run_ite,hzr]
      simp only [show ¬ (len * sz>2 ^ 24) by omega,if_false,r1]
      simp [newRow]
  have hcs:cs.size=len * sz:=by rw [r2];simp [base]
  have hyl:ys.length=len:=by rw [r4,hlen]
  refine Does.valueG (fun _=>same_alloc w _) hrun hk (newt_rows g hd (Below.refl _ _) rfl (by simp [hcs,hyl]) (fun i hi => ?_) (fun i j hi hj => ?_) (fun β' eb => ?_))
  · simp only [List.length_map] at hi
    have:=(hrow (ys.getD i default) (by simp [List.getD,hi])).1
    simpa [List.getD,hi] using this
  · simp only [List.length_map] at hi
    have h3:=r5 i j (by rw [hlen,← hyl];exact hi) hj
    have e3:(ys.map fun y=>(s.g y).cells).getD i []=(s.g (ys.getD i default)).cells:=by simp [List.getD,hi]
    simp only [e3]
    rw [Nat.zero_add] at h3
    have hj':j<(s.g (ys.getD i default)).cells.length:=by rw [(hrow (ys.getD i default) (by simp [List.getD,hi])).1];exact hj
    refine ⟨h3,fun hf=>dr_cl h3 ?_,dr_one h3 (List.all_eq_true.1 (hrow (ys.getD i default) (by simp [List.getD,hi])).2 _ (getD_mem hj'))⟩
    have h4:=List.all_eq_true.1 hf _ (List.mem_map.2 ⟨ys.getD i default,by simp [List.getD,hi],rfl⟩)
    exact List.all_eq_true.1 h4 _ (getD_mem hj')
  · have:=DR.ref (w:=w.alloc (.cells cs e)) (A:=A) s.N sz 0 len len w.heap.size cs _ (Nat.lt_succ_self _) eb (Nat.le_refl _) (heap_new _ _) (by simp [hcs])
    simpa [hyl] using this
theorem Shp.setRow {w:World} {b:Nat} {arr arr':Array Value} {T:TypeId} (hh:w.heap[b]?=some (.cells arr T (0,0))) (hs:arr'.size=arr.size):Shp w (w.setRow b arr'):=by
  intro c x U hc
  by_cases e:c=b
  · subst e
    rw [hh] at hc;cases hc
    exact ⟨arr',setRow_heap w c arr arr' T (0,0) hh,hs⟩
  · exact ⟨x,by rw [setRow_other w b c arr' e];exact hc,rfl⟩
theorem Bel.setRow {O:Nat→Prop} {w w0:World} (h:Bel O w0 w) {b:Nat} (hb:w0.heap.size≤b∨O b) (arr:Array Value) (hs:Shp w (w.setRow b arr)):Bel O w0 (w.setRow b arr):=by
  refine ⟨h.os,h.tape,h.output,by rw [setRow_size];exact h.size,fun k hk hn => ?_,h.shp.trans hs⟩
  have:k ≠ b:=by
    rintro rfl
    rcases hb with h'|h'
    · omega
    · exact hn h'
  rw [setRow_other w b k arr this];exact h.block k hk hn
theorem GR.reset (g:GR G s a w A β γ) {τ b:Nat} {ob ob':Ob} (hτ:τ<s.N) (hM:s.M τ=some ob) (hkd:ob'.kd=ob.kd) (hk:ob.kd.isMap=false) (hβ:β τ=some b) {arr arr':Array Value} {T:TypeId} (hh:w.heap[b]?=some (.cells arr T (0,0))) (hs:arr'.size=arr.size)
    (hl:ob'.es.length * ob'.sz≤arr.size) (he:∀ i,i<ob'.es.length→(ob'.es.getD i []).length=ob'.sz) (how:ob'.ow=false→∀ i j,i<ob'.es.length→j<ob'.sz→((ob'.es.getD i []).getD j .junk).isOwn=false)
    (hr:∀ i j,i<ob'.es.length→j<ob'.sz→CDR ob'.flat w A β γ s.N τ [i * ob'.sz+j] ((ob'.es.getD i []).getD j .junk) (arr'.getD (i * ob'.sz+j) undef)):GR G (s.setM τ ob') a (w.setRow b arr') A β γ:=by
  have hMn:s.M τ ≠ none:=by rw [hM];simp
  have hroot:=g.hr.root τ b hτ hMn hβ
  obtain ⟨_,hbA,hbO,_⟩:=g.hr.own b τ [] hroot hτ hMn
  have hvis:Vis w (w.setRow b arr'):=Vis.cells hh (setRow_heap w b arr arr' T (0,0) hh) (fun c e=>setRow_other w b c arr' e)
  have hA:∀ c,A c→(w.setRow b arr').heap[c]?=w.heap[c]?:=fun c hc=>setRow_other w b c arr' (fun e=>hbA (e ▸ hc))
  have hsh:=Shp.setRow hh hs
  have hMs:∀ σ,(s.setM τ ob').M σ=if σ=τ then some ob' else s.M σ:=fun _=>rfl
  have live:∀ σ,(s.setM τ ob').M σ ≠ none→s.M σ ≠ none:=fun σ h=>by
    rw [hMs] at h
    by_cases e:σ=τ
    · rw [e];exact hMn
    · rwa [if_neg e] at h
  have hown:∀ σ c π,π ≠ []→γ c=some (σ,π)→(w.setRow b arr').heap[c]?=w.heap[c]?∧γ c=some (σ,π):=fun σ c π hp hc=>⟨setRow_other w b c arr' (fun e=>by
    rw [e,hroot] at hc;simp only [Option.some.injEq,Prod.mk.injEq] at hc;exact hp hc.2.symm),hc⟩
  refine ⟨g.size,Mz.vis g.defers hvis,⟨Bel.setRow g.hr.below hbO arr' hsh,g.hr.sub,g.hr.up,fun c hc=>by rw [setRow_size];exact g.hr.low c hc,fun σ ob hσ hm => ?_,fun c σ π h1 h2 h3=>let q:=g.hr.own c σ π h1 h2 (live σ h3);⟨by rw [setRow_size];exact q.1,q.2.1,q.2.2.1,hvis.noth q.1 q.2.2.2⟩,fun σ c h1 h2 h3=>g.hr.root σ c h1 (live σ h2) h3,g.hr.ge,g.hr.flt,fun σ hF=>⟨(g.hr.fixd σ hF).1,fun ob hm => ?_⟩⟩,
    fun t=>(g.slots t).mono hA (fun _ h=>h) hsh (Nat.le_refl _) (fun _ _=>rfl),fun t d ht=>(g.keep t d ht).mono hA (fun _ h=>h) (fun τ h=>⟨h,rfl⟩)⟩
  · rw [hMs] at hm
    by_cases e:σ=τ
    · subst e
      rw [if_pos rfl] at hm;cases hm
      refine ⟨he,how,.inr ⟨b,_,fun i j=>arr'.getD (i * ob'.sz+j) undef,hβ,setRow_heap w b arr arr' T (0,0) hh,?_,fun i j hi hj=>(hr i j hi hj).mono (by simp) hA (fun _ h=>h) hsh (Nat.le_refl _) (fun _ _=>rfl) (hown σ)⟩⟩
      rw [hkd]
      cases hkd2:ob.kd with
      | map k ka va=>rw [hkd2] at hk;cases hk
      | itr=>rw [hkd2] at hk;cases hk
      | arr=>exact ⟨arr',T,rfl,by omega,fun _ _ _ _=>rfl⟩
      | fix=>exact ⟨arr',T,rfl,by omega,fun _ _ _ _=>rfl⟩
    · rw [if_neg e] at hm
      refine (g.hr.objs σ ob hσ hm).mono hσ hA (fun _ h=>h) hsh (Nat.le_refl _) (fun _ _=>rfl) (hown σ) (fun c hc=>setRow_other w b c arr' ?_)
      rintro rfl
      have:=g.hr.root σ c hσ (by rw [hm];simp) hc
      rw [hroot] at this;simp only [Option.some.injEq,Prod.mk.injEq] at this
      exact e this.1.symm
  · rw [hMs] at hm
    by_cases e:σ=τ
    · subst e;rw [if_pos rfl] at hm;cases hm
      rw [hkd];exact (g.hr.fixd σ hF).2 _ hM
    · rw [if_neg e] at hm;exact (g.hr.fixd σ hF).2 ob hm
theorem set_getD {α:Type} (l:List α) (i j:Nat) (x d:α):(l.set i x).getD j d=if i=j∧i<l.length then x else l.getD j d:=by
  simp only [List.getD_eq_getElem?_getD,List.getElem?_set]
  by_cases h:i=j
  · subst h
    by_cases h2:i<l.length
    · simp [h2]
    · simp [h2]
  · simp [h]
theorem wr_get (arr:Array Value) (off:Nat) (vs:List Value) (m:Nat) (h:off+vs.length≤arr.size) :
    (arr.toList.take off++vs++arr.toList.drop (off+vs.length)).toArray.getD m undef=if off≤m∧m<off+vs.length then vs.getD (m - off) undef else arr.getD m undef:=by
  have htl:(arr.toList.take off).length=off:=by rw [List.length_take,Array.length_toList];omega
  have e:∀ (l:List Value),l.toArray.getD m undef=l.getD m undef:=fun l=>by simp [List.getD,Array.getD_eq_getD_getElem?]
  have e':arr.getD m undef=arr.toList.getD m undef:=by simp [List.getD,Array.getD_eq_getD_getElem?]
  rw [e,e']
  simp only [List.getD_eq_getElem?_getD]
  by_cases h1:m<off
  · rw [if_neg (by omega),List.getElem?_append_left (by simp only [List.length_append,htl];omega),List.getElem?_append_left (by omega),List.getElem?_take,if_pos h1]
  · by_cases h2:m<off+vs.length
    · rw [if_pos ⟨by omega,h2⟩,List.getElem?_append_left (by simp only [List.length_append,htl];omega),List.getElem?_append_right (by omega),htl]
    · rw [if_neg (by omega),List.getElem?_append_right (by simp only [List.length_append,htl];omega),List.getElem?_drop]
      congr 2;simp only [List.length_append,htl];omega
theorem wr_size (arr:Array Value) (off:Nat) (vs:List Value) (h:off+vs.length≤arr.size):(arr.toList.take off++vs++arr.toList.drop (off+vs.length)).toArray.size=arr.size:=by
  simp only [List.size_toArray,List.length_append,List.length_take,List.length_drop,Array.length_toList];omega
theorem ef_store {t : TypeId} {x y : Operand} {y' : O} {n : Nat} {τ z i o' : Nat} {ob : Ob} {K : S → Prop} {fl : Bool} (ho : o.op = .store t x y) (hn : szOf P t = some n) (hy : cO y = some y') (ex : DR w A β s.N (.ptr τ z i o') (a.eval x))
    (hM:s.M τ=some ob) (hkm:ob.kd.isMap=false) (h1:ob.sz=z) (h2:i<ob.es.length) (h3:o'+n≤z) (h4:(s.g y').cells.length=n) (h5:(s.g y').cells.all D.one=true) (hfl:fl=true→ob.flat=true∧(s.g y').cells.all D.cl=true)
    (hd:∀ t,o.dst=some t→t<G.nt∧∀ y,¬ G.T t y) (hk:K ((s.setM τ ⟨z,ob.es.set i (splice (ob.es.getD i []) o' (s.g y').cells),fl,ob.ow,ob.kd⟩).put o.dst .junk)) (g:GR G s a w A β γ):Does false P G a w o K:=by
  have ev:=g.evalO hy
  obtain ⟨c1,c2⟩:=dr_cells ev h5
  generalize hvx:a.eval x=v at ex
  cases ex with
  | cl d x h'=>cases h'
  | ptr τ sz' i0 o0 b hN hb =>
    obtain ⟨arr,T,hh,hl,hr⟩:=g.hr.cells hN hM hkm hb
    have he:=(g.hr.objs τ ob hN hM).1
    have how:=(g.hr.objs τ ob hN hM).2.1
    subst h1
    have hvl:(a.eval y).cells.toList.length=n:=by rw [Array.length_toList,c1,h4]
    have hfit:i * ob.sz+o'+(a.eval y).cells.toList.length≤arr.size:=by
      have:(i+1) * ob.sz≤ob.es.length * ob.sz:=Nat.mul_le_mul_right _ h2
      rw [Nat.add_mul] at this;omega
    have hone:∀ u,u ∈ (a.eval y).cells.toList→u.oneCell'=true:=by
      intro u hu
      obtain ⟨j,hj,rfl⟩:=List.mem_iff_getElem.1 hu
      have hj':j<(a.eval y).cells.size:=by simpa using hj
      have:=(c2 j (by rw [← c1];exact hj')).2
      simpa [hj'] using this
    have hst:=run_storeCells_at (P:=P) b (i * ob.sz+o') T (a.eval y).cells.toList 0 arr w hh (by simpa using hfit) hone
    simp only [Nat.add_zero] at hst
    have hsz2:(a.eval y).cells.size=n:=by rw [c1,h4]
    have hrun:(execOp a.eval o).run P w=.ok .skip (w.setRow b (arr.toList.take (i * ob.sz+o')++(a.eval y).cells.toList++arr.toList.drop (i * ob.sz+o'+(a.eval y).cells.toList.length)).toArray):=by
      simp only [execOp,ho,Instr.storeAt,Instr.sureAddr,hvx,storeVar,Sem.run_bind,Sem.run_pure,Result.andThen_ok,szOf_spec hn,hsz2,ne_eq,not_true,if_false]
      rw [hst];rfl
    have hnew:∀ j,o'≤j→j<o'+n→DR w A β s.N ((s.g y').cells.getD (j - o') .junk) ((a.eval y).cells.getD (j - o') undef)∧((a.eval y).cells.getD (j - o') undef).oneCell'=true:=fun j h6 h7=>c2 (j - o') (by rw [h4];omega)
    refine Does.skip hrun hk ⟨A,β,γ,GR.put (GR.reset g (ob':=⟨ob.sz,ob.es.set i (splice (ob.es.getD i []) o' (s.g y').cells),fl,ob.ow,ob.kd⟩) hN hM rfl hkm hb hh (wr_size arr _ _ hfit) (by simpa using hl) (fun i' hi' => ?_) (fun hw i' j hi' hj => ?_) (fun i' j hi' hj => ?_)) DR.junk hd⟩
    · simp only [List.length_set] at hi'
      rw [set_getD]
      by_cases e:i=i'∧i<ob.es.length
      · rw [if_pos e,splice_len (by rw [he i h2,h4];exact h3)];exact he i h2
      · rw [if_neg e];exact he i' hi'
    · simp only [List.length_set] at hi'
      simp only at hj hw
      dsimp only
      rw [set_getD]
      by_cases e:i=i'∧i<ob.es.length
      · obtain ⟨rfl,_⟩:=e
        rw [if_pos ⟨rfl,h2⟩,splice_get (by rw [he i h2,h4];exact h3)]
        rw [h4]
        by_cases e2:o'≤j∧j<o'+n
        · rw [if_pos e2];exact dr_no (hnew j e2.1 e2.2).1
        · rw [if_neg e2];exact how hw i j h2 hj
      · rw [if_neg e];exact how hw i' j hi' hj
    · simp only [List.length_set] at hi'
      simp only at hj
      dsimp only
      rw [set_getD,wr_get arr _ _ _ hfit]
      by_cases e:i=i'∧i<ob.es.length
      · obtain ⟨rfl,_⟩:=e
        rw [if_pos ⟨rfl,h2⟩,splice_get (by rw [he i h2,h4];exact h3)]
        rw [hvl,h4]
        by_cases e2:o'≤j∧j<o'+n
        · rw [if_pos e2,if_pos (by omega)]
          obtain ⟨h6,h7⟩:=hnew j e2.1 e2.2
          have e3:(a.eval y).cells.toList.getD (i * ob.sz+j - (i * ob.sz+o')) undef=(a.eval y).cells.getD (j - o') undef:=by
            rw [show i * ob.sz+j - (i * ob.sz+o')=j - o' by omega];simp [List.getD,Array.getD_eq_getD_getElem?]
          rw [e3]
          refine ⟨fun _=>h6,fun hf => ?_,h7⟩
          rcases hf with hf|hf
          · exact .cr _ _ _ (dr_cl h6 (all_getD (hfl hf).2 (by rw [h4];omega)))
          · rw [dr_no h6] at hf;cases hf
        · rw [if_neg e2,if_neg (by omega)]
          obtain ⟨q1,q2,q3⟩:=hr i j h2 hj
          exact ⟨q1,fun hf=>q2 (hf.imp (fun h=>(hfl h).1) id),q3⟩
      · rw [if_neg e, if_neg (by
          intro h7
          have hne:i ≠ i':=fun e'=>e ⟨e',h2⟩
          rw [hvl] at h7
          rcases Nat.lt_or_gt_of_ne hne with h8|h8
          · have:(i+1) * ob.sz≤i' * ob.sz:=Nat.mul_le_mul_right _ h8
            rw [Nat.add_mul] at this;omega
          · have:(i'+1) * ob.sz≤i * ob.sz:=Nat.mul_le_mul_right _ h8
            rw [Nat.add_mul] at this;omega)]
        obtain ⟨q1,q2,q3⟩:=hr i' j hi' hj
        exact ⟨q1,fun hf=>q2 (hf.imp (fun h=>(hfl h).1) id),q3⟩
theorem splice_one {l:List D} {o':Nat} {d:D} (h:o'<l.length):splice l o' [d]=l.set o' d:=by
  simp [splice,List.set_eq_take_append_cons_drop,h]
theorem ef_st1 {t : TypeId} {x y : Operand} {x' y' : O} {K : S → Prop} (ho : o.op = .store t x y) (hn : szOf P t = some 1) (hx : cO x = some x') (hy : cO y = some y') (hd : ∀ t, o.dst = some t → t < G.nt ∧ ∀ y, ¬ G.T t y)
    (h:kSt s o.dst K (s.g x') (s.g y')) (g:GR G s a w A β γ):Does false P G a w o K:=by
  have ex:=g.evalO hx
  unfold kSt at h
  split at h
  · next τ z i o' hp =>
    rw [hp] at ex
    unfold kM at h
    split at h
    · next ob hM =>
      obtain ⟨⟨h1,h2,h3,h4,hkm⟩,hk⟩:=h
      have e:(s.g y').cells=[s.g y']:=by
        cases hy':s.g y'<;>first|rfl|(rw [hy'] at h4;simp [D.one] at h4)
      have hN:τ<s.N:=by
        generalize a.eval x=v at ex
        cases ex with
        | cl d x h'=>cases h'
        | ptr=>assumption
      have hlen:(ob.es.getD i []).length=z:=by rw [(g.hr.objs τ ob hN hM).1 i h2,h1]
      refine ef_store (fl:=ob.flat && (s.g y').cl) ho hn hy ex hM hkm h1 h2 (by omega) (by rw [e];rfl) (by rw [e];simpa using h4) (fun hf => ?_) hd ?_ g
      · rw [Bool.and_eq_true] at hf;rw [e];simpa using hf
      · rw [e,splice_one (by rw [hlen];exact h3)];exact hk
    · exact h.elim
  · exact h.elim
theorem ef_stn {t:TypeId} {x y:Operand} {x' y':O} {n:Nat} {K:S→Prop} (ho:o.op=.store t x y) (hn:szOf P t=some n) (hx:cO x=some x') (hy:cO y=some y') (hd:∀ t,o.dst=some t→t<G.nt∧∀ y,¬ G.T t y)
    (h:kStn s o.dst n K (s.g x') (s.g y')) (g:GR G s a w A β γ):Does false P G a w o K:=by
  have ex:=g.evalO hx
  unfold kStn at h
  split at h
  · next τ z i o' ds hp hq =>
    rw [hp] at ex
    unfold kM at h
    split at h
    · next ob hM =>
      obtain ⟨⟨h1,h2,h3,h4,h5,hkm⟩,hk⟩:=h
      refine ef_store (fl:=ob.flat && ds.all D.cl) ho hn hy ex hM hkm h1 h2 h3 (by rw [hq];exact h4) (by rw [hq];exact h5) (fun hf => ?_) hd (by rw [hq];exact hk) g
      rw [Bool.and_eq_true] at hf;rw [hq];exact hf
    · exact h.elim
  · exact h.elim
theorem cpyR_len {off n:Nat} {es es':List (List D)} (h:off+n≤es.length):(cpyR off n es es').length=es.length:=by
  simp only [cpyR,List.length_append,List.length_take,List.length_drop];omega
theorem cpyR_get {off n i:Nat} {es es':List (List D)} (h:off+n≤es.length):(cpyR off n es es').getD i []=if off≤i∧i<off+min es'.length n then es'.getD (i - off) [] else es.getD i []:=by
  have htl:(es.take off).length=off:=by rw [List.length_take];omega
  have hml:(es'.take n).length=min es'.length n:=by rw [List.length_take];omega
  unfold cpyR
  simp only [List.getD_eq_getElem?_getD]
  by_cases h1:i<off
  · rw [if_neg (by omega),List.append_assoc,List.getElem?_append_left (by omega),List.getElem?_take_of_lt h1]
  · by_cases h2:i<off+min es'.length n
    · rw [if_pos ⟨by omega,h2⟩,List.append_assoc,List.getElem?_append_right (by omega),List.getElem?_append_left (by omega),htl,List.getElem?_take_of_lt (by omega)]
    · rw [if_neg (by omega),List.getElem?_append_right (by rw [List.length_append];omega),List.length_append,htl,hml,List.getElem?_drop]
      congr 2;omega
theorem ef_cpyR {x y : Operand} {t u e : TypeId} {K : S → Prop} {τ off n : Nat} {ob : Ob} {es' : List (List D)} {sb : Option Addr} {sc : Nat} (ho : o.op = .call ⟨.builtin .copy, #[x, y], #[t, u]⟩) (hu : P.underlying t = some (.slice e)) (hsz' : (P.info? e).map (·.size) = some 1) (hd : ∀ t, o.dst = some t → t < G.nt ∧ ∀ y, ¬ G.T t y)
    (ex:DR w A β s.N (.ref τ 1 off n) (a.eval x)) (hM:s.M τ=some ob) (hz1:ob.sz=1) (h2:off+n≤ob.es.length) (hkm:ob.kd.isMap=false)
    (hvy:a.eval y=.slice sb es'.length sc) (hrw:∀ i,i<es'.length→(es'.getD i []).length=1)
    (hsrc:0<es'.length → ∃ b0 o0,sb=some ⟨b0,o0,none⟩∧∀ i,i<es'.length → ∃ v,w.cell? ⟨b0,o0+i,none⟩=some v∧v.oneCell'=true∧CR w A ((es'.getD i []).getD 0 .junk) v)
    (hk:K ((s.setM τ ⟨ob.sz,cpyR off n ob.es es',ob.flat,ob.ow,ob.kd⟩).put o.dst (.v (.int .i64 (min es'.length n:Nat))))) (g:GR G s a w A β γ):Does false P G a w o K:=by
  generalize hvx:a.eval x=vx at ex
  have hN:τ<s.N:=by
    cases ex with
    | cl d x h'=>cases h'
    | ref=>assumption
    | refz=>assumption
  by_cases hz:min es'.length n=0
  · have hdst : ∃ db dc,vx=.slice db n dc:=by
      cases ex with
      | cl d x h'=>cases h'
      | ref τ sz off n c b arr T=>exact ⟨_,c,rfl⟩
      | refz τ sz off b=>exact ⟨b,0,rfl⟩
    obtain ⟨db,dc,rfl⟩:=hdst
    have hrun0:=run_copy_none (P:=P) w t u o.type e db sb n dc es'.length sc hu hsz' (by simpa [Nat.min_def] using hz)
    have hrun:(execOp a.eval o).run P w=.ok (.value (.int .i64 (min es'.length n:Nat))) w:=by
      simp [execOp,ho,resolve,invoke,builtin,hvx,hvy,hrun0,Result.andThen,goInt,hz]
    have hob:(⟨ob.sz,cpyR off n ob.es es',ob.flat,ob.ow,ob.kd⟩:Ob)=ob:=by
      have:cpyR off n ob.es es'=ob.es:=by
        unfold cpyR
        have e1:es'.take n=[]:=by
          rw [List.take_eq_nil_iff]
          rcases Nat.eq_zero_or_pos n with h|h
          · exact .inl h
          · exact .inr (List.eq_nil_of_length_eq_zero (by omega))
        rw [e1,hz,List.append_nil,Nat.add_zero,List.take_append_drop]
      rw [this]
    rw [hob] at hk
    have hs:s.setM τ ob=s:=by
      unfold S.setM
      have:(fun t=>if t=τ then some ob else s.M t)=s.M:=by
        funext t
        by_cases e:t=τ
        · rw [if_pos e,e,hM]
        · rw [if_neg e]
      rw [this]
    rw [hs] at hk
    exact Does.value hrun hk ⟨A,β,γ,GR.put g (.cl _ _ (.v _)) hd⟩
  · cases ex with
    | cl d x h'=>cases h'
    | refz τ sz off b=>simp at hz
    | ref τ sz off n c b arr T hN hb hc hh hr =>
      obtain ⟨arr',T',hh',hl,hcell⟩:=g.hr.cells hN hM hkm hb
      have he:arr'=arr∧T'=T:=by rw [hh] at hh';cases hh';exact ⟨rfl,rfl⟩
      obtain ⟨rfl,rfl⟩:=he
      have hobj:=(g.hr.objs τ ob hN hM).1
      have how:=(g.hr.objs τ ob hN hM).2.1
      obtain ⟨b0,o0,rfl,hsr2⟩:=hsrc (by omega)
      let cs:List Value:=(List.range (min es'.length n)).map fun i=>(w.cell? ⟨b0,o0+i,none⟩).getD undef
      have hcl:cs.length=min es'.length n:=by simp [cs]
      have hcg:∀ i,i<min es'.length n→w.cell? ⟨b0,o0+i,none⟩=some (cs.getD i undef)∧(cs.getD i undef).oneCell'=true∧CR w A ((es'.getD i []).getD 0 .junk) (cs.getD i undef):=fun i hi=>by
        obtain ⟨v,q1,q2,q3⟩:=hsr2 i (by omega)
        have:cs.getD i undef=v:=by simp [cs,List.getD_eq_getElem?_getD,hi,q1]
        rw [this];exact ⟨q1,q2,q3⟩
      have hfit:off+cs.length≤arr'.size:=by rw [hcl];simp only [Nat.mul_one] at hr;omega
      have hone:∀ v ∈ cs,v.oneCell'=true:=fun v hv=>by
        obtain ⟨i,hi,rfl⟩:=List.mem_iff_getElem.1 hv
        have:=(hcg i (by omega)).2.1
        simpa [List.getD_eq_getElem?_getD,hi] using this
      have hrun0:=run_copy_row (P:=P) w t u o.type e b off n c ⟨b0,o0,none⟩ es'.length sc arr' T' cs hu hsz' hh (by rw [hcl]) (fun j v hj=>by
        have hj':j<cs.length:=(List.getElem?_eq_some_iff.1 hj).1
        have:=(hcg j (by omega)).1
        rw [addr_add,this]
        simp [List.getD_eq_getElem?_getD,hj]) hfit hone
      simp only [Nat.mul_one] at hvx
      have hrun:(execOp a.eval o).run P w=.ok (.value (.int .i64 (min es'.length n:Nat))) (w.setRow b (arr'.toList.take off++cs++arr'.toList.drop (off+cs.length)).toArray):=by
        simp only [execOp,ho]
        simp [resolve,invoke,builtin,hvx,hvy,hrun0,Result.andThen,goInt,hcl]
      have hgl:=cpyR_len (es:=ob.es) (es':=es') h2
      refine Does.value hrun hk ⟨A,β,γ,GR.put (GR.reset g (ob':=⟨ob.sz,cpyR off n ob.es es',ob.flat,ob.ow,ob.kd⟩) hN hM rfl hkm hb hh (wr_size arr' _ _ hfit) (by show (cpyR off n ob.es es').length * ob.sz≤_;rw [hgl];exact hl) (fun i' hi' => ?_) (fun hw i' j hi' hj => ?_) (fun i' j hi' hj => ?_)) (.cl _ _ (.v _)) hd⟩
      · have hi':i'<(cpyR off n ob.es es').length:=hi'
        show ((cpyR off n ob.es es').getD i' []).length=ob.sz
        rw [cpyR_get h2]
        by_cases e2:off≤i'∧i'<off+min es'.length n
        · rw [if_pos e2,hrw _ (by omega),hz1]
        · rw [if_neg e2];exact hobj i' (by omega)
      · have hi':i'<(cpyR off n ob.es es').length:=hi'
        have hj0:j=0:=by have hj:j<ob.sz:=hj;omega
        subst hj0
        show (((cpyR off n ob.es es').getD i' []).getD 0 .junk).isOwn=false
        rw [cpyR_get h2]
        by_cases e2:off≤i'∧i'<off+min es'.length n
        · rw [if_pos e2]
          exact dr_no (.cl _ _ (hcg (i' - off) (by omega)).2.2:DR w A β s.N _ _)
        · rw [if_neg e2];exact how hw i' 0 (by omega) (by omega)
      · have hi':i'<(cpyR off n ob.es es').length:=hi'
        have hj0:j=0:=by have hj:j<ob.sz:=hj;omega
        subst hj0
        show CDR ob.flat w A β γ s.N τ [i' * ob.sz+0] (((cpyR off n ob.es es').getD i' []).getD 0 .junk) _
        have hold:=hcell i' 0 (by omega) (by omega)
        rw [hz1,Nat.mul_one,Nat.add_zero] at hold ⊢
        show CDR ob.flat w A β γ s.N τ [i'] (((cpyR off n ob.es es').getD i' []).getD 0 .junk) ((arr'.toList.take off++cs++arr'.toList.drop (off+cs.length)).toArray.getD i' undef)
        rw [cpyR_get h2,wr_get arr' _ _ _ hfit]
        by_cases e2:off≤i'∧i'<off+min es'.length n
        · rw [if_pos e2,if_pos (by omega)]
          obtain ⟨_,q2,q3⟩:=hcg (i' - off) (by omega)
          exact ⟨fun _=>.cl _ _ q3,fun _=>.cr _ _ _ q3,q2⟩
        · rw [if_neg e2,if_neg (by omega)];exact hold
theorem ef_cpyS {x y : Operand} {t u e : TypeId} {K : S → Prop} {τ off n τ' off' n' : Nat} {ob ob2 : Ob} (ho : o.op = .call ⟨.builtin .copy, #[x, y], #[t, u]⟩) (hu : P.underlying t = some (.slice e)) (hsz' : (P.info? e).map (·.size) = some 1) (hd : ∀ t, o.dst = some t → t < G.nt ∧ ∀ y, ¬ G.T t y)
    (ex:DR w A β s.N (.ref τ 1 off n) (a.eval x)) (hM:s.M τ=some ob) (hz1:ob.sz=1) (h2:off+n≤ob.es.length) (hkm:ob.kd.isMap=false)
    (ey:DR w A β s.N (.ref τ' 1 off' n') (a.eval y)) (hM2:s.M τ'=some ob2) (hz2:ob2.sz=1) (hkm2:ob2.kd.isMap=false) (h3:off'+n'≤ob2.es.length) (hcl:(ob2.es.all fun e=>e.all D.cl)=true)
    (hk:K ((s.setM τ ⟨ob.sz,cpyR off n ob.es ((ob2.es.drop off').take n'),ob.flat,ob.ow,ob.kd⟩).put o.dst (.v (.int .i64 (min ((ob2.es.drop off').take n').length n:Nat))))) (g:GR G s a w A β γ):Does false P G a w o K:=by
  have hl':((ob2.es.drop off').take n').length=n':=by rw [List.length_take,List.length_drop];omega
  have hg':∀ i,i<n'→((ob2.es.drop off').take n').getD i []=ob2.es.getD (off'+i) []:=fun i hi=>by
    simp only [List.getD_eq_getElem?_getD]
    rw [List.getElem?_take_of_lt hi,List.getElem?_drop]
  generalize hvy:a.eval y=vy at ey
  obtain ⟨hN2,sb,sc,rfl,hs⟩:τ'<s.N ∧ ∃ sb sc,vy=.slice sb n' sc∧(0<n' → ∃ b,sb=some ⟨b,off',none⟩∧β τ'=some b):=by
    cases ey with
    | cl d x h'=>cases h'
    | ref τ sz off n c b arr T hN hb hc hh hr=>exact ⟨hN,_,c,rfl,fun _=>⟨b,by simp,hb⟩⟩
    | refz τ sz off b hN=>exact ⟨hN,b,0,rfl,fun h=>absurd h (Nat.lt_irrefl _)⟩
  have hobj:=(g.hr.objs τ' ob2 hN2 hM2).1
  refine ef_cpyR (es':=(ob2.es.drop off').take n') (sb:=sb) (sc:=sc) ho hu hsz' hd ex hM hz1 h2 hkm (by rw [hl'];exact hvy) (fun i hi => ?_) (fun hp => ?_) hk g
  · rw [hl'] at hi
    rw [hg' i hi,hobj _ (by omega),hz2]
  · rw [hl'] at hp
    obtain ⟨b,rfl,hb⟩:=hs hp
    obtain ⟨arr,T,hh,hl,hcell⟩:=g.hr.cells hN2 hM2 hkm2 hb
    rw [hz2,Nat.mul_one] at hl
    refine ⟨b,off',rfl,fun i hi => ?_⟩
    rw [hl'] at hi
    have hc:=hcell (off'+i) 0 (by omega) (by omega)
    rw [hz2,Nat.mul_one,Nat.add_zero] at hc
    have hsz:off'+i<arr.size:=by omega
    have hrow:ob2.es.getD (off'+i) [] ∈ ob2.es:=by
      have h4:off'+i<ob2.es.length:=by omega
      rw [List.getD_eq_getElem?_getD,List.getElem?_eq_getElem h4];exact List.getElem_mem h4
    have hrl:=hobj (off'+i) (by omega)
    have hdm:(ob2.es.getD (off'+i) []).getD 0 .junk ∈ ob2.es.getD (off'+i) []:=by
      have h4:0<(ob2.es.getD (off'+i) []).length:=by omega
      generalize ob2.es.getD (off'+i) []=r at h4
      rw [List.getD_eq_getElem?_getD,List.getElem?_eq_getElem h4];exact List.getElem_mem h4
    have hdc:((ob2.es.getD (off'+i) []).getD 0 .junk).cl=true:=List.all_eq_true.1 (List.all_eq_true.1 hcl _ hrow) _ hdm
    have hno:((ob2.es.getD (off'+i) []).getD 0 .junk).isOwn=false:=by
      generalize (ob2.es.getD (off'+i) []).getD 0 .junk=d at hdc
      cases d<;>first|rfl|(unfold D.cl at hdc;rw [alls_leaf rfl] at hdc;cases hdc)
    refine ⟨arr.getD (off'+i) undef,?_,hc.2.2,?_⟩
    · have e3:arr[off'+i]?=some (arr.getD (off'+i) undef):=by
        rw [Array.getElem?_eq_getElem hsz];simp [Array.getD,hsz]
      simp only [World.cell?,hh,Option.isSome_none,Bool.false_eq_true,if_false]
      rw [e3]
    · rw [hg' i hi]
      exact (hc.1 hno).toC hdc
theorem ef_cpy {x y : Operand} {x' y' : O} {t u e : TypeId} {K : S → Prop} (ho : o.op = .call ⟨.builtin .copy, #[x, y], #[t, u]⟩) (ht : isSlice P t = some e) (hsz : szOf P e = some 1) (hx : cO x = some x') (hy : cO y = some y') (hd : ∀ t, o.dst = some t → t < G.nt ∧ ∀ y, ¬ G.T t y)
    (h:kCpy s o.dst K (s.g x') (s.g y')) (g:GR G s a w A β γ):Does false P G a w o K:=by
  have ex:=g.evalO hx
  have ey:=g.evalO hy
  have hu:=isSlice_spec ht
  have hsz':(P.info? e).map (·.size)=some 1:=hsz
  unfold kCpy at h
  split at h
  · next τ z off n z' es' hp hq =>
    rw [hp] at ex;rw [hq] at ey
    obtain ⟨⟨rfl,rfl⟩,h⟩:=h
    unfold kM at h
    split at h
    · next ob hM =>
      unfold kCpyO at h
      split at h
      · next hz1 =>
        obtain ⟨⟨_,h2,hkm⟩,hk⟩:=h
        generalize hvy:a.eval y=vy at ey
        obtain ⟨sb,sc,rfl,hrw,hsrc⟩ : ∃ sb sc,vy=.slice sb es'.length sc∧(∀ i,i<es'.length→(es'.getD i []).length=1)∧(0<es'.length → ∃ b0 o0,sb=some ⟨b0,o0,none⟩∧∀ i,i<es'.length → ∃ v,w.cell? ⟨b0,o0+i,none⟩=some v∧v.oneCell'=true∧CR w A ((es'.getD i []).getD 0 .junk) v):=by
          cases ey with
          | cl d x h' =>
            cases h' with
            | sl0 sz b c=>exact ⟨b,c,rfl,fun i h=>by simp at h,fun h=>by simp at h⟩
            | sl sz es b o1 n1 c us hA hn hcap hs hc hr =>
              subst hn
              refine ⟨_,_,rfl,hs,fun _=>⟨b,o1,rfl,fun i hi=>⟨us i 0,?_,?_,hr i 0 hi (by omega)⟩⟩⟩
              · have:=(hc i 0 hi (by omega)).1;simpa using this
              · exact (hc i 0 hi (by omega)).2
        exact ef_cpyR ho hu hsz' hd ex hM hz1 h2 hkm hvy hrw hsrc hk g
      obtain ⟨⟨h1,h2,hkm⟩,hk⟩:=h
      generalize hvx:a.eval x=vx at ex
      generalize hvy:a.eval y=vy at ey
      have hN:τ<s.N:=by
        cases ex with
        | cl d x h'=>cases h'
        | ref=>assumption
        | refz=>assumption
      have hrow:(ob.es.getD 0 []).length=ob.sz:=(g.hr.objs τ ob hN hM).1 0 (by omega)
      obtain ⟨sb,sn,sc,rfl,hsn,hsrc⟩ : ∃ sb sn sc,vy=.slice sb sn sc∧sn=es'.length∧(0<es'.length → ∃ b0 o0,sb=some ⟨b0,o0,none⟩∧∀ i,i<es'.length → ∃ v,w.cell? ⟨b0,o0+i,none⟩=some v∧v.oneCell'=true∧CR w A ((es'.getD i []).getD 0 .junk) v):=by
        cases ey with
        | cl d x h' =>
          cases h' with
          | sl0 sz b c=>exact ⟨b,0,c,rfl,rfl,fun h=>by simp at h⟩
          | sl sz es b o1 n1 c us hA hn hcap hs hc hr =>
            refine ⟨_,_,_,rfl,hn.symm,fun _=>⟨b,o1,rfl,fun i hi=>⟨us i 0,?_,?_,hr i 0 hi (by omega)⟩⟩⟩
            · have:=(hc i 0 hi (by omega)).1;simpa using this
            · exact (hc i 0 hi (by omega)).2
      subst hsn
      by_cases hz:min es'.length n=0
      · have hdst : ∃ db dc,vx=.slice db n dc:=by
          cases ex with
          | cl d x h'=>cases h'
          | ref τ sz off n c b arr T=>exact ⟨_,c,rfl⟩
          | refz τ sz off b=>exact ⟨b,0,rfl⟩
        obtain ⟨db,dc,rfl⟩:=hdst
        have hrun0:=run_copy_none (P:=P) w t u o.type e db sb n dc es'.length sc hu hsz' (by simpa [Nat.min_def] using hz)
        have hrun:(execOp a.eval o).run P w=.ok (.value (.int .i64 (min es'.length n:Nat))) w:=by
          simp [execOp,ho,resolve,invoke,builtin,hvx,hvy,hrun0,Result.andThen,goInt,hz]
        have hcp:cpyD n es'=[]:=by
          unfold cpyD
          rw [List.map_eq_nil_iff,List.take_eq_nil_iff]
          rcases Nat.eq_zero_or_pos n with h|h
          · exact .inl h
          · exact .inr (List.eq_nil_of_length_eq_zero (by omega))
        have hob:(⟨ob.sz,[splice (ob.es.getD 0 []) off (cpyD n es')],ob.flat,ob.ow,ob.kd⟩:Ob)=ob:=by
          rw [hcp]
          obtain ⟨z,es,fl,ow,kd⟩:=ob
          match es,h1 with
          | [r],_=>simp [splice]
        rw [hob] at hk
        have hs:s.setM τ ob=s:=by
          unfold S.setM
          have:(fun t=>if t=τ then some ob else s.M t)=s.M:=by
            funext t
            by_cases e:t=τ
            · rw [if_pos e,e,hM]
            · rw [if_neg e]
          rw [this]
        rw [hs] at hk
        exact Does.value hrun hk ⟨A,β,γ,GR.put g (.cl _ _ (.v _)) hd⟩
      · cases ex with
        | cl d x h'=>cases h'
        | refz τ sz off b=>simp at hz
        | ref τ sz off n c b arr T hN hb hc hh hr =>
          obtain ⟨arr',T',hh',hl,hcell⟩:=g.hr.cells hN hM hkm hb
          have he:arr'=arr∧T'=T:=by rw [hh] at hh';cases hh';exact ⟨rfl,rfl⟩
          obtain ⟨rfl,rfl⟩:=he
          have hobj:=(g.hr.objs τ ob hN hM).1
          have how:=(g.hr.objs τ ob hN hM).2.1
          obtain ⟨b0,o0,rfl,hsr2⟩:=hsrc (by omega)
          let cs:List Value:=(List.range (min es'.length n)).map fun i=>(w.cell? ⟨b0,o0+i,none⟩).getD undef
          have hcl:cs.length=min es'.length n:=by simp [cs]
          have hcg:∀ i,i<min es'.length n→w.cell? ⟨b0,o0+i,none⟩=some (cs.getD i undef)∧(cs.getD i undef).oneCell'=true∧CR w A ((es'.getD i []).getD 0 .junk) (cs.getD i undef):=fun i hi=>by
            obtain ⟨v,q1,q2,q3⟩:=hsr2 i (by omega)
            have:cs.getD i undef=v:=by simp [cs,List.getD_eq_getElem?_getD,hi,q1]
            rw [this];exact ⟨q1,q2,q3⟩
          have hfit:off+cs.length≤arr'.size:=by rw [hcl];simp only [Nat.mul_one] at hr;omega
          have hone:∀ v ∈ cs,v.oneCell'=true:=fun v hv=>by
            obtain ⟨i,hi,rfl⟩:=List.mem_iff_getElem.1 hv
            have:=(hcg i (by omega)).2.1
            simpa [List.getD_eq_getElem?_getD,hi] using this
          have hrun0:=run_copy_row (P:=P) w t u o.type e b off n c ⟨b0,o0,none⟩ es'.length sc arr' T' cs hu hsz' hh (by rw [hcl]) (fun j v hj=>by
            have hj':j<cs.length:=(List.getElem?_eq_some_iff.1 hj).1
            have:=(hcg j (by omega)).1
            rw [addr_add,this]
            simp [List.getD_eq_getElem?_getD,hj]) hfit hone
          simp only [Nat.mul_one] at hvx
          have hrun:(execOp a.eval o).run P w=.ok (.value (.int .i64 (min es'.length n:Nat))) (w.setRow b (arr'.toList.take off++cs++arr'.toList.drop (off+cs.length)).toArray):=by
            simp only [execOp,ho]
            simp [resolve,invoke,builtin,hvx,hvy,hrun0,Result.andThen,goInt,hcl]
          have hcd:(cpyD n es').length=min es'.length n:=by simp [cpyD,Nat.min_comm]
          have hcdg:∀ i,i<min es'.length n→(cpyD n es').getD i .junk=(es'.getD i []).getD 0 .junk:=fun i hi=>by
            have h3:i<n:=by omega
            have h4:i<es'.length:=by omega
            simp [cpyD,List.getD_eq_getElem?_getD,h3,h4]
          have hsp:off+(cpyD n es').length≤(ob.es.getD 0 []).length:=by rw [hcd,hrow];omega
          refine Does.value hrun hk ⟨A,β,γ,GR.put (GR.reset g (ob':=⟨ob.sz,[splice (ob.es.getD 0 []) off (cpyD n es')],ob.flat,ob.ow,ob.kd⟩) hN hM rfl hkm hb hh (wr_size arr' _ _ hfit) (by rw [h1] at hl;simpa using hl) (fun i' hi' => ?_) (fun hw i' j hi' hj => ?_) (fun i' j hi' hj => ?_)) (.cl _ _ (.v _)) hd⟩
          · obtain rfl:i'=0:=by simpa using hi'
            simp only [List.getD_cons_zero]
            rw [splice_len hsp];exact hrow
          · obtain rfl:i'=0:=by simpa using hi'
            simp only [List.getD_cons_zero] at hj ⊢
            rw [splice_get hsp]
            by_cases e2:off≤j∧j<off+(cpyD n es').length
            · rw [if_pos e2,hcdg _ (by omega)]
              exact dr_no (.cl _ _ (hcg (j - off) (by omega)).2.2:DR w A β s.N _ _)
            · rw [if_neg e2];exact how hw 0 j (by omega) hj
          · obtain rfl:i'=0:=by simpa using hi'
            simp only [List.getD_cons_zero,Nat.zero_mul,Nat.zero_add] at hj ⊢
            rw [splice_get hsp,wr_get arr' _ _ _ hfit]
            have hold:=hcell 0 j (by omega) hj
            simp only [Nat.zero_mul,Nat.zero_add] at hold
            by_cases e2:off≤j∧j<off+(cpyD n es').length
            · rw [if_pos e2,if_pos (by omega),hcdg _ (by omega)]
              obtain ⟨_,q2,q3⟩:=hcg (j - off) (by omega)
              exact ⟨fun _=>.cl _ _ q3,fun _=>.cr _ _ _ q3,q2⟩
            · rw [if_neg e2,if_neg (by omega)];exact hold
    · exact h.elim
  · next τ z off n τ' z' off' n' hp hq =>
    rw [hp] at ex;rw [hq] at ey
    obtain ⟨⟨rfl,rfl⟩,h⟩:=h
    unfold kM at h
    split at h
    · next ob2 hM2 =>
      obtain ⟨⟨hz2,hkm2,h3,hcl⟩,h⟩:=h
      unfold kCpyT kM at h
      split at h
      · next ob hM =>
        obtain ⟨⟨hz1,h2,hkm⟩,hk⟩:=h
        exact ef_cpyS ho hu hsz' hd ex hM hz1 h2 hkm ey hM2 hz2 hkm2 h3 hcl hk g
      · exact h.elim
    · exact h.elim
  · exact h.elim
theorem pu_sla {x : Operand} {x' : O} {t e : TypeId} {n : Nat} {k : D → Prop} (ho : o.op = .slice t x none none none) (ht : P.underlying t = some (.array n e)) (hsz : szOf P e = some 1) (hx : cO x = some x')
    (h:kSla s (s.g x') n k) (g:GR G s a w A β γ) : ∃ d v,k d∧DR w A β s.N d v∧Yields P a w o v:=by
  have ev:=g.evalO hx
  generalize hv:a.eval x=v at ev
  unfold kSla at h
  split at h
  · next τ z i o' hp =>
    rw [hp] at ev
    unfold kM at h
    split at h
    · next ob hM =>
      obtain ⟨⟨h1,h2,h3,hkm⟩,hk⟩:=h
      cases ev with
      | cl d x h'=>cases h'
      | ptr τ sz' i0 o0 b hN hb =>
        obtain ⟨arr,T,hh,hl,hr⟩:=g.hr.cells hN hM hkm hb
        have hfit:(i * z+o'+n) * 1≤arr.size:=by
          have:(i+1) * ob.sz≤ob.es.length * ob.sz:=Nat.mul_le_mul_right _ h2
          rw [Nat.add_mul] at this;subst h1;omega
        refine ⟨_,.slice (some ⟨b,(i * z+o') * 1,none⟩) n n,hk,.ref τ 1 _ n n b arr T hN hb (Nat.le_refl _) hh hfit,fun w' _ => ?_⟩
        simp [execOp,ho,Instr.sliceAt,Instr.sureAddr,Instr.sliceBounds,hv,und_run ht,szOf_spec hsz]
        intro _
        rw [addr_add];rfl
    · exact h.elim
  · exact h.elim
end
end Go.Dm

namespace Go.Dm
open Go.RowKit
section
variable {P:Program} {G:Gh} {s:S} {a:Act} {w:World} {A:Nat→Prop} {β:Nat→Option Nat} {γ:Nat→Option (Nat × List Nat)} {o:Oper}
structure NF (f:D→D) (N N':Nat) (β β':Nat→Option Nat):Prop where
  cl:∀ d,clJ d=true→f d=d
  own:∀ ow sz es,f (.own ow sz es)=.own ow sz es
  omp:∀ kd sz es,f (.omp kd sz es)=.omp kd sz es
  ref:∀ τ sz off n,f (.ref τ sz off n)=.junk ∨ ∃ τ',f (.ref τ sz off n)=.ref τ' sz off n∧(τ<N→τ'<N'∧β' τ'=β τ)
  ptr:∀ τ sz i o,f (.ptr τ sz i o)=.junk ∨ ∃ τ',f (.ptr τ sz i o)=.ptr τ' sz i o∧(τ<N→τ'<N'∧β' τ'=β τ)
  mp:∀ τ,f (.mp τ)=.junk ∨ ∃ τ',f (.mp τ)=.mp τ'∧(τ<N→τ'<N'∧β' τ'=β τ)
def ShF (f:D→D) (N:Nat) (β:Nat→Option Nat) (w w':World):Prop:=∀ τ sz off n,τ<N→f (.ref τ sz off n) ≠ .junk→∀ b,β τ=some b→∀ arr T,w.heap[b]?=some (.cells arr T (0,0)) → ∃ arr',w'.heap[b]?=some (.cells arr' T (0,0))∧arr'.size=arr.size
theorem Shp.f {f:D→D} {N:Nat} {w w':World} (h:Shp w w'):ShF f N β w w':=fun _ _ _ _ _ _ b _ arr T e=>h b arr T e
theorem NF.dr {f:D→D} {N N':Nat} {β β':Nat→Option Nat} (hf:NF f N N' β β') {w':World} {A':Nat→Prop} (hw:∀ b,A b→w'.heap[b]?=w.heap[b]?) (hA:∀ b,A b→A' b) (hs:ShF f N β w w') {d:D} {x:Value} (h:DR w A β N d x):DR w' A' β' N' (d.lf f) x:=by
  refine h.lfD (fun d x hd h => ?_)
  cases h with
  | cl d x h =>
    have e:f d=d:=hf.cl d (by cases h<;>first|rfl|(simp [D.leaf] at hd))
    rw [e];exact .cl _ _ (h.mono hw hA)
  | ref τ sz off n c b arr T h1 hb hc hh hr =>
    rcases hf.ref τ sz off n with e|⟨τ',e,h2⟩
    · rw [e];exact DR.junk
    · obtain ⟨arr',h1',h2'⟩:=hs τ sz off n h1 (by rw [e];simp) b hb arr T hh
      rw [e];exact .ref τ' sz off n c b arr' T (h2 h1).1 (by rw [(h2 h1).2];exact hb) hc h1' (by rw [h2'];exact hr)
  | refz τ sz off b h1 =>
    rcases hf.ref τ sz off 0 with e|⟨τ',e,h2⟩
    · rw [e];exact DR.junk
    · rw [e];exact .refz τ' sz off b (h2 h1).1
  | ptr τ sz i o b h1 hb =>
    rcases hf.ptr τ sz i o with e|⟨τ',e,h2⟩
    · rw [e];exact DR.junk
    · rw [e];exact .ptr τ' sz i o b (h2 h1).1 (by rw [(h2 h1).2];exact hb)
  | mp τ b h1 hb =>
    rcases hf.mp τ with e|⟨τ',e,h2⟩
    · rw [e];exact DR.junk
    · rw [e];exact .mp τ' b (h2 h1).1 (by rw [(h2 h1).2];exact hb)
  | ag|tu|clo=>simp [D.leaf] at hd
theorem NF.isOwn {f:D→D} {N N':Nat} {β β':Nat→Option Nat} (hf:NF f N N' β β') (d:D):(d.lf f).isOwn=d.isOwn:=by
  cases d with
  | ag ds=>rw [lf_ag];rfl
  | tu ds=>rw [lf_tu];rfl
  | clo g ds=>rw [lf_clo];rfl
  | own ow sz es=>rw [lf_leaf rfl,hf.own]
  | omp kd sz es=>rw [lf_leaf rfl,hf.omp]
  | v x=>rw [lf_leaf rfl,hf.cl _ rfl]
  | nl=>rw [lf_leaf rfl,hf.cl _ rfl]
  | sl sz es=>rw [lf_leaf rfl,hf.cl _ rfl]
  | ip e o=>rw [lf_leaf rfl,hf.cl _ rfl]
  | junk=>rw [lf_leaf rfl,hf.cl _ rfl]
  | ref τ sz off n =>
    rw [lf_leaf rfl]
    rcases hf.ref τ sz off n with e|⟨τ',e,_⟩<;>rw [e]<;>rfl
  | ptr τ sz i o =>
    rw [lf_leaf rfl]
    rcases hf.ptr τ sz i o with e|⟨τ',e,_⟩<;>rw [e]<;>rfl
  | mp τ =>
    rw [lf_leaf rfl]
    rcases hf.mp τ with e|⟨τ',e,_⟩<;>rw [e]<;>rfl
theorem NF.own_lf {f:D→D} {N N':Nat} {β β':Nat→Option Nat} (hf:NF f N N' β β') {d:D} (h:d.isOwn=true):d.lf f=d:=by
  cases d<;>first|(rw [lf_leaf rfl,hf.own])|(rw [lf_leaf rfl,hf.omp])|(simp [D.isOwn] at h)
theorem mapc_row {f:D→D} {ob:Ob} (hf:ob.flat=false) {i:Nat} (hi:i<ob.es.length):(ob.mapc f).es.getD i []=(ob.es.getD i []).map f:=by
  simp only [Ob.mapc,hf,Bool.false_eq_true,if_false]
  exact map_getD' _ ob.es i [] [] hi
theorem mapc_flat {f:D→D} {ob:Ob} (hf:ob.flat=true):ob.mapc f=ob:=by simp [Ob.mapc,hf]
theorem mapc_len {f:D→D} {ob:Ob}:(ob.mapc f).es.length=ob.es.length:=by unfold Ob.mapc;split<;>simp
theorem mapc_sz {f:D→D} {ob:Ob}:(ob.mapc f).sz=ob.sz:=by unfold Ob.mapc;split<;>rfl
theorem mapc_fl {f:D→D} {ob:Ob}:(ob.mapc f).flat=ob.flat:=by unfold Ob.mapc;split<;>rfl
theorem mapc_ow {f:D→D} {ob:Ob}:(ob.mapc f).ow=ob.ow:=by unfold Ob.mapc;split<;>rfl
theorem mapc_kd {f:D→D} {ob:Ob}:(ob.mapc f).kd=ob.kd:=by unfold Ob.mapc;split<;>rfl
theorem lf_orOf {f : D → D} {N N' : Nat} {β β' : Nat → Option Nat} {w' : World} {A' : Nat → Prop} {γ' : Nat → Option (Nat × List Nat)} {τ τ' : Nat} {ob : Ob} (hlen : ∀ i, i < ob.es.length → (ob.es.getD i []).length = ob.sz)
    (how:ob.ow=false→∀ i j,i<ob.es.length→j<ob.sz→((ob.es.getD i []).getD j .junk).isOwn=false) {b:Nat} {o:Obj} {us:Nat→Nat→Value} (hτ:β' τ'=some b) (hh:w'.heap[b]?=some o) (hH:Holds ob.kd ob.sz ob.es.length o us)
    (hc:∀ i j,i<ob.es.length→j<ob.sz→CDR ob.flat w A β γ N τ [i * ob.sz+j] ((ob.es.getD i []).getD j .junk) (us i j))
    (hw:∀ b,A b→w'.heap[b]?=w.heap[b]?) (hA:∀ b,A b→A' b) (hb:∀ b π,π ≠ []→γ b=some (τ,π)→w'.heap[b]?=w.heap[b]?∧γ' b=some (τ',π))
    (hdr:∀ d x,DR w A β N d x→DR w' A' β' N' (d.lf f) x) (hio:∀ d:D,(d.lf f).isOwn=d.isOwn) (hol:∀ d:D,d.isOwn=true→d.lf f=d):OR w' A' β' γ' N' (ob.mapc (D.lf f)) τ':=by
  have oc:∀ {π:List Nat} {d:D} {x:Value},π ≠ []→OC w A γ τ π d x→OC w' A' γ' τ' π d x:=fun hp h=>OC.move (g:=fun π=>π) (fun π=>π ≠ []) (fun _ _ _=>by simp) (fun _ _ _=>rfl) hb hw hA h hp
  refine ⟨fun i hi => ?_,fun how' i j hi hj => ?_,.inr ⟨b,o,us,hτ,hh,by rw [mapc_kd,mapc_sz,mapc_len];exact hH,fun i j hi hj => ?_⟩⟩
  · rw [mapc_len] at hi
    rw [mapc_sz]
    cases hfl:ob.flat with
    | true=>rw [mapc_flat hfl];exact hlen i hi
    | false=>rw [mapc_row hfl hi,List.length_map];exact hlen i hi
  · rw [mapc_len] at hi
    rw [mapc_sz] at hj
    rw [mapc_ow] at how'
    cases hfl:ob.flat with
    | true=>rw [mapc_flat hfl];exact how how' i j hi hj
    | false =>
      rw [mapc_row hfl hi,map_getD' _ _ j D.junk D.junk (by rw [hlen i hi];exact hj),hio];exact how how' i j hi hj
  · rw [mapc_len] at hi
    rw [mapc_sz] at hj
    obtain ⟨q1,q2,q3⟩:=hc i j hi hj
    rw [mapc_sz]
    cases hfl:ob.flat with
    | true =>
      rw [mapc_flat hfl,hfl]
      have q2':=q2 (.inl hfl)
      exact ⟨fun hno=>.cl _ _ ((q2'.toCR hno).mono hw hA),fun _=>oc (by simp) q2',q3⟩
    | false =>
      have e:((ob.mapc (D.lf f)).es.getD i []).getD j .junk=((ob.es.getD i []).getD j .junk).lf f:=by
        rw [mapc_row hfl hi];exact map_getD' _ _ j D.junk D.junk (by rw [hlen i hi];exact hj)
      rw [mapc_fl,hfl,e]
      refine ⟨fun hno=>hdr _ _ (q1 (by rw [← hio];exact hno)),fun hor => ?_,q3⟩
      rcases hor with h'|h'
      · cases h'
      · rw [hio] at h'
        rw [hol _ h'];exact oc (by simp) (q2 (.inr h'))
theorem NF.orOf {f:D→D} {N N':Nat} {β β':Nat→Option Nat} (hf:NF f N N' β β') {w':World} {A':Nat→Prop} {γ':Nat→Option (Nat × List Nat)} {τ τ':Nat} {ob:Ob} (hlen:∀ i,i<ob.es.length→(ob.es.getD i []).length=ob.sz)
    (how:ob.ow=false→∀ i j,i<ob.es.length→j<ob.sz→((ob.es.getD i []).getD j .junk).isOwn=false) {b:Nat} {o:Obj} {us:Nat→Nat→Value} (hτ:β' τ'=some b) (hh:w'.heap[b]?=some o) (hH:Holds ob.kd ob.sz ob.es.length o us)
    (hc:∀ i j,i<ob.es.length→j<ob.sz→CDR ob.flat w A β γ N τ [i * ob.sz+j] ((ob.es.getD i []).getD j .junk) (us i j))
    (hw:∀ b,A b→w'.heap[b]?=w.heap[b]?) (hA:∀ b,A b→A' b) (hs:ShF f N β w w') (hb:∀ b π,π ≠ []→γ b=some (τ,π)→w'.heap[b]?=w.heap[b]?∧γ' b=some (τ',π)):OR w' A' β' γ' N' (ob.mapc (D.lf f)) τ' :=
  lf_orOf hlen how hτ hh hH hc hw hA hb (fun _ _ h=>hf.dr hw hA hs h) hf.isOwn (fun _ h=>hf.own_lf h)
theorem NF.or {f:D→D} {N N':Nat} {β β':Nat→Option Nat} (hf:NF f N N' β β') {w':World} {A':Nat→Prop} {γ':Nat→Option (Nat × List Nat)} {τ τ':Nat} {ob:Ob} (h:OR w A β γ N ob τ) (hτ:β' τ'=β τ)
    (hw:∀ b,A b→w'.heap[b]?=w.heap[b]?) (hA:∀ b,A b→A' b) (hs:ShF f N β w w') (hb:∀ b π,π ≠ []→γ b=some (τ,π)→w'.heap[b]?=w.heap[b]?∧γ' b=some (τ',π))
    (hr:∀ b,β τ=some b→w'.heap[b]?=w.heap[b]?):OR w' A' β' γ' N' (ob.mapc (D.lf f)) τ':=by
  rcases h.2.2 with ⟨k1,k2,k3⟩|⟨b,o,us,k1,k2,k3,k4⟩
  · have h0:(ob.mapc (D.lf f)).es=[]:=List.eq_nil_of_length_eq_zero (by rw [mapc_len,k2];rfl)
    exact ⟨fun i hi=>by rw [h0] at hi;simp at hi,fun _ i j hi=>by rw [h0] at hi;simp at hi,.inl ⟨by rw [hτ];exact k1,h0,by rw [mapc_kd];exact k3⟩⟩
  · exact hf.orOf h.1 h.2.1 (by rw [hτ];exact k1) (by rw [hr b k1];exact k2) k3 k4 hw hA hs hb
theorem nf_kill {N τ:Nat} {β':Nat→Option Nat} (hβ:∀ σ,σ<N→σ ≠ τ→β' σ=β σ):NF (killL τ) N N β β':=by
  refine ⟨fun d h=>by cases d<;>first|rfl|(simp [clJ] at h),fun _ _ _=>rfl,fun _ _ _=>rfl,fun σ sz off n => ?_,fun σ sz i o => ?_,fun σ => ?_⟩
  all_goals
    by_cases e:σ=τ
    · left;simp only [killL,if_pos e]
    · right;exact ⟨σ,by simp only [killL,if_neg e],fun h=>⟨h,hβ σ h e⟩⟩
theorem nf_trim {N m:Nat}:NF (trimL m) N m β β:=by
  refine ⟨fun d h=>by cases d<;>first|rfl|(simp [clJ] at h),fun _ _ _=>rfl,fun _ _ _=>rfl,fun σ sz off n => ?_,fun σ sz i o => ?_,fun σ => ?_⟩
  all_goals
    by_cases e:σ<m
    · right;exact ⟨σ,by simp only [trimL,if_pos e],fun _=>⟨e,rfl⟩⟩
    · left;simp only [trimL,if_neg e]
theorem DR.kill {w':World} {A':Nat→Prop} {β':Nat→Option Nat} {N τ:Nat} {d:D} {x:Value} (h:DR w A β N d x) (hw:∀ b,A b→w'.heap[b]?=w.heap[b]?) (hA:∀ b,A b→A' b) (hs:Shp w w')
    (hβ:∀ σ,σ<N→σ ≠ τ→β' σ=β σ):DR w' A' β' N (d.kill τ) x:=(nf_kill hβ).dr hw hA hs.f h
theorem GR.regrow (g : GR G s a w A β γ) {τ : Nat} {ob0 ob' : Ob} (hτ : τ < s.N) (hM : s.M τ = some ob0) (hk0 : ob0.kd.isArr = true) {w' : World} {β' : Nat → Option Nat} {γ' : Nat → Option (Nat × List Nat)}
    (h1:Bel G.g.O0 G.g.w0 w') (h2:∀ b,A b→w'.heap[b]?=w.heap[b]?) (h3:Shp w w') (h4:∀ b σ π,γ b=some (σ,π)→(σ ≠ τ∨π ≠ [])→σ<s.N→s.M σ ≠ none→w'.heap[b]?=w.heap[b]?) (h5:∀ σ,σ ≠ τ→β' σ=β σ)
    (hγ:∀ b σ π,γ b=some (σ,π)→σ<s.N→s.M σ ≠ none→γ' b=some (σ,π))
    (hγ':∀ b σ π,γ' b=some (σ,π)→γ b=some (σ,π)∨(σ=τ∧b<w'.heap.size∧¬ A b∧(G.g.w0.heap.size≤b∨G.g.O0 b)∧nOth w' b)) (hroot:∀ b,β' τ=some b→γ' b=some (τ,[]))
    (h6:OR w' A β' γ' s.N ob' τ) (h8:w.heap.size≤w'.heap.size) (hv:Vis w w'):GR G ((s.kill τ).setM τ ob') a w' A β' γ':=by
  have hMn:s.M τ ≠ none:=by rw [hM];simp
  have hβ:∀ σ,σ<s.N→σ ≠ τ→β' σ=β σ:=fun σ _ h=>h5 σ h
  have hM':∀ σ,((s.kill τ).setM τ ob').M σ=if σ=τ then some ob' else (s.M σ).map (Ob.mapc (D.kill τ)):=fun σ=>rfl
  have live:∀ σ,((s.kill τ).setM τ ob').M σ ≠ none→s.M σ ≠ none:=fun σ h=>by
    rw [hM'] at h
    by_cases e:σ=τ
    · rw [e];exact hMn
    · rw [if_neg e] at h
      intro e2;rw [e2] at h;exact h rfl
  have hF:∀ σ,G.g.F σ→σ ≠ τ:=by
    rintro σ hF rfl
    have:=(g.hr.fixd σ hF).2 ob0 hM
    rw [hk0] at this;cases this
  refine ⟨g.size,Mz.vis g.defers hv,⟨h1,g.hr.sub,g.hr.up,fun b hb=>Nat.lt_of_lt_of_le (g.hr.low b hb) h8,fun σ ob hσ hm => ?_,fun b σ π e1 e2 e3 => ?_,fun σ b e1 e2 e3 => ?_,g.hr.ge,g.hr.flt,fun σ hF' => ?_⟩,fun t=>(g.slots t).kill h2 (fun _ h=>h) h3 hβ,fun t d ht=>(g.keep t d ht).mono h2 (fun _ h=>h) (fun τ h=>⟨h,rfl⟩)⟩
  · rw [hM'] at hm
    by_cases e:σ=τ
    · subst e;rw [if_pos rfl] at hm;cases hm;exact h6
    · rw [if_neg e] at hm
      cases hs:s.M σ with
      | none=>rw [hs] at hm;cases hm
      | some ob1 =>
        rw [hs] at hm
        simp only [Option.map_some,Option.some.injEq] at hm
        subst hm
        have hl:s.M σ ≠ none:=by rw [hs];simp
        exact (nf_kill hβ).or (g.hr.objs σ ob1 hσ hs) (h5 σ e) h2 (fun _ h=>h) h3.f (fun b π hp hb=>⟨h4 b σ π hb (.inl e) hσ hl,hγ b σ π hb hσ hl⟩) (fun b hb=>h4 b σ [] (g.hr.root σ b hσ hl hb) (.inl e) hσ hl)
  · rcases hγ' b σ π e1 with h|⟨rfl,q1,q2,q3⟩
    · obtain ⟨q1,q2,q3,q4⟩:=g.hr.own b σ π h e2 (live σ e3)
      exact ⟨Nat.lt_of_lt_of_le q1 h8,q2,q3,hv.noth q1 q4⟩
    · exact ⟨q1,q2,q3⟩
  · by_cases e:σ=τ
    · subst e;exact hroot b e3
    · rw [h5 σ e] at e3
      exact hγ b σ [] (g.hr.root σ b e1 (live σ e2) e3) e1 (live σ e2)
  · have hne:=hF σ hF'
    refine ⟨by rw [h5 σ hne];exact (g.hr.fixd σ hF').1,fun ob hm => ?_⟩
    rw [hM',if_neg hne] at hm
    cases hs:s.M σ with
    | none=>rw [hs] at hm;cases hm
    | some ob1 =>
      rw [hs] at hm
      simp only [Option.map_some,Option.some.injEq] at hm
      subst hm
      rw [mapc_kd];exact (g.hr.fixd σ hF').2 ob1 hs
theorem un_dr {fl:Bool} {N τ:Nat} {π:List Nat} {d:D} {x:Value} (h:CDR fl w A β γ N τ π d x):DR w A β N d.un x:=by
  cases ho:d.isOwn with
  | true =>
    have:d.un=.junk:=by cases d<;>first|rfl|(simp [D.isOwn] at ho)
    rw [this];exact DR.junk
  | false =>
    have:d.un=d:=by cases d<;>first|rfl|(simp [D.isOwn] at ho)
    rw [this];exact h.1 ho
theorem un_cr {N τ:Nat} {π:List Nat} {d:D} {x:Value} (h:CDR true w A β γ N τ π d x):CR w A d.un x:=by
  cases ho:d.isOwn with
  | true =>
    have:d.un=.junk:=by cases d<;>first|rfl|(simp [D.isOwn] at ho)
    rw [this];exact .junk _
  | false =>
    have:d.un=d:=by cases d<;>first|rfl|(simp [D.isOwn] at ho)
    rw [this]
    exact (h.2.1 (.inl rfl)).toCR ho
theorem src_rows (g : GR G s a w A β γ) {y : D} {v : Value} (ev : DR w A β s.N y v) {z : Nat} {ys : List (List D)} {fy : Bool} (hv : s.src y = (.sl z ys, fy)) :
    ∃ (b:Option Addr) (c:Nat) (news:Array Value),v=.slice b ys.length c∧news.size=ys.length * z∧(∀ w',Same w w'→(Builtin.firstCells z ys.length v).run P w'=.ok news w') ∧
      (∀ i,i<ys.length→(ys.getD i []).length=z)∧∀ i j,i<ys.length→j<z→DR w A β s.N ((ys.getD i []).getD j .junk) (news.getD (i * z+j) undef)∧(fy=true→CR w A ((ys.getD i []).getD j .junk) (news.getD (i * z+j) undef))∧(news.getD (i * z+j) undef).oneCell'=true:=by
  have mk:∀ (b off c:Nat) (us:Nat→Value),v=.slice (some ⟨b,off,none⟩) ys.length c→(0<ys.length * z→b<w.heap.size)→(∀ m,m<ys.length * z→w.cell? ⟨b,off+m,none⟩=some (us m)) →
      ∀ w',Same w w'→(Builtin.firstCells z ys.length v).run P w'=.ok ((List.range (ys.length * z)).map us).toArray w':=by
    intro b off c us e hb hc w' hs
    subst e
    exact run_loadCells (P:=P) w' ⟨b,off,none⟩ (ys.length * z) us (fun j hj=>by rw [addr_add,hs.cell (hb (by omega))];exact hc j hj)
  have get:∀ (us:Nat→Value) (m:Nat),m<ys.length * z→((List.range (ys.length * z)).map us).toArray.getD m undef=us m:=fun us m hm=>by simp [hm]
  have nilcase:∀ (b:Option Addr) (c:Nat),ys=[]→v=.slice b 0 c → ∃ (b:Option Addr) (c:Nat) (news:Array Value),v=.slice b ys.length c∧news.size=ys.length * z∧(∀ w',Same w w'→(Builtin.firstCells z ys.length v).run P w'=.ok news w') ∧
      (∀ i,i<ys.length→(ys.getD i []).length=z)∧∀ i j,i<ys.length→j<z→DR w A β s.N ((ys.getD i []).getD j .junk) (news.getD (i * z+j) undef)∧(fy=true→CR w A ((ys.getD i []).getD j .junk) (news.getD (i * z+j) undef))∧(news.getD (i * z+j) undef).oneCell'=true:=by
    intro b c h1 h2
    subst h1;subst h2
    refine ⟨b,c,#[],rfl,by simp,fun w' _ => ?_,fun i hi=>by simp at hi,fun i j hi=>by simp at hi⟩
    cases b<;>simp [Builtin.firstCells,loadCells,loadCellsFrom]
  have flat:∀ m,m<ys.length * z→z ≠ 0∧m / z<ys.length∧m % z<z∧m / z * z+m % z=m:=by
    intro m hm
    have hz:0<z:=by
      rcases Nat.eq_zero_or_pos z with h|h
      · subst h;simp at hm
      · exact h
    exact ⟨by omega,(Nat.div_lt_iff_lt_mul hz).2 hm,Nat.mod_lt _ hz,by rw [Nat.mul_comm];exact Nat.div_add_mod m z⟩
  cases y with
  | sl z0 es =>
    simp only [S.src,Prod.mk.injEq,D.sl.injEq] at hv
    obtain ⟨⟨rfl,rfl⟩,rfl⟩:=hv
    cases ev with
    | cl d x h' =>
      cases h' with
      | sl0 sz b c=>exact nilcase b c rfl rfl
      | sl sz es b off n c us hA hn hcap hs hc hr =>
        subst hn
        refine ⟨_,c,_,rfl,by simp,mk b off c (fun m=>us (m / z0) (m % z0)) rfl (fun _=>g.hr.low b hA) (fun m hm => ?_),hs,fun i j hi hj => ?_⟩
        · obtain ⟨f1,f2,f3,f4⟩:=flat m hm
          have:=(hc (m / z0) (m % z0) f2 f3).1
          rw [f4] at this;exact this
        · rw [get _ _ (in_row hi hj)]
          have e1:(i * z0+j) / z0=i:=by rw [Nat.mul_comm,Nat.mul_add_div (by omega),Nat.div_eq_of_lt hj,Nat.add_zero]
          have e2:(i * z0+j) % z0=j:=by rw [Nat.mul_comm,Nat.mul_add_mod];exact Nat.mod_eq_of_lt hj
          rw [e1,e2];exact ⟨.cl _ _ (hr i j hi hj),fun _=>hr i j hi hj,(hc i j hi hj).2⟩
  | ref τ sz off n =>
    simp only [S.src,srcO] at hv
    split at hv
    · next ob hM =>
      split at hv
      · next hc =>
        obtain ⟨hkm,rfl,hle⟩:=hc
        simp only [Prod.mk.injEq,D.sl.injEq] at hv
        obtain ⟨⟨rfl,rfl⟩,rfl⟩:=hv
        have hel:(if ob.ow=true then ob.es.map fun e=>e.map D.un else ob.es).length=ob.es.length:=by split<;>simp
        have hyl:(((if ob.ow=true then ob.es.map fun e=>e.map D.un else ob.es).drop off).take n).length=n:=by rw [List.length_take,List.length_drop,hel];omega
        cases ev with
        | cl d x h'=>cases h'
        | ref τ sz off n c b arr T hN hb hc hh hr =>
          obtain ⟨arr',T',hh',hl,hro⟩:=g.hr.cells hN hM hkm hb
          have he:=(g.hr.objs τ ob hN hM).1
          have how:=(g.hr.objs τ ob hN hM).2.1
          rw [hh] at hh';cases hh'
          have hmul:(off+n) * ob.sz≤ob.es.length * ob.sz:=Nat.mul_le_mul_right _ hle
          rw [Nat.add_mul] at hmul
          have hgetys:∀ i,i<n→((((if ob.ow=true then ob.es.map fun e=>e.map D.un else ob.es).drop off).take n).getD i [])=if ob.ow=true then (ob.es.getD (off+i) []).map D.un else ob.es.getD (off+i) []:=by
            intro i hi
            simp only [List.getD_eq_getElem?_getD,List.getElem?_take,hi,if_true,List.getElem?_drop]
            split
            · have:off+i<ob.es.length:=by omega
              simp [this]
            · rfl
          obtain ⟨hbl,_⟩:=Array.getElem?_eq_some_iff.1 hh
          refine ⟨some ⟨b,off * ob.sz,none⟩,c,_,by rw [hyl],by simp,mk b (off * ob.sz) c (fun m=>arr.getD (off * ob.sz+m) undef) (by rw [hyl]) (fun _=>hbl) (fun m hm => ?_),fun i hi => ?_,fun i j hi hj => ?_⟩
          · rw [hyl] at hm
            have hlt:off * ob.sz+m<arr.size:=by omega
            simp only [World.cell?,hh]
            simp [hlt]
          · rw [hyl] at hi;rw [hgetys i hi]
            split
            · rw [List.length_map];exact he _ (by omega)
            · exact he _ (by omega)
          · rw [hyl] at hi
            have hir:i * ob.sz+j<(((if ob.ow=true then ob.es.map fun e=>e.map D.un else ob.es).drop off).take n).length * ob.sz:=by rw [hyl];exact in_row hi hj
            rw [get _ _ hir,hgetys i hi]
            have hq:=hro (off+i) j (by omega) hj
            rw [Nat.add_mul,Nat.add_assoc] at hq
            split
            · next hw =>
              rw [map_getD' D.un _ j .junk .junk (by rw [he _ (by omega)];exact hj)]
              exact ⟨un_dr hq,fun hf=>by rw [hf] at hq;exact un_cr hq,hq.2.2⟩
            · next hw =>
              have hno:=how (by simpa using hw) (off+i) j (by omega) hj
              refine ⟨hq.1 hno,fun hf => ?_,hq.2.2⟩
              rw [hf] at hq
              have:=un_cr hq
              have e:((ob.es.getD (off+i) []).getD j .junk).un=(ob.es.getD (off+i) []).getD j .junk:=by
                generalize (ob.es.getD (off+i) []).getD j .junk=d at hno
                cases d<;>first|rfl|(simp [D.isOwn] at hno)
              rw [e] at this;exact this
        | refz τ sz off b hN=>exact nilcase b 0 (by simp) rfl
      · cases hv
    · cases hv
  | v|nl|ip|junk|ag|ptr|tu|clo|mp|own|omp=>simp [S.src] at hv
end
end Go.Dm
