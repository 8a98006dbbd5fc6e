/-
  A logic for Go functions over plain data,part Q: maps,comparisons of structs,arrays.
-/
import Derived.Test.YtcclchnbjpncdaaDmJ
import Derived.Maps.RangeRun
set_option linter.unusedSimpArgs false
set_option linter.unnecessarySimpa false
set_option linter.unusedVariables false
namespace Go.Dm
open Go.RowKit
def setB (w:World) (b:Nat) (o:Obj):World:={ w with heap:=w.heap.setIfInBounds b o }
theorem setB_size (w:World) (b:Nat) (o:Obj):(setB w b o).heap.size=w.heap.size:=by simp [setB]
theorem setB_at (w:World) (b:Nat) (o:Obj) (h:b<w.heap.size):(setB w b o).heap[b]?=some o:=by simp [setB,h]
theorem setB_other (w:World) (b c:Nat) (o:Obj) (h:c ≠ b):(setB w b o).heap[c]?=w.heap[c]?:=by
  simp only [setB,Array.getElem?_setIfInBounds]
  rw [if_neg (Ne.symm h)]
theorem run_setO {P:Program} {w:World} {r:Nat} {es:Array MapEntry} {clock:Nat} (o:Obj) (hb:w.heap[r]?=some (.map es clock)):(setObj r o).run P w=.ok () (setB w r o):=by
  simp [setObj,Sem.run,hb,setB]
theorem run_getO {P:Program} {w:World} {r:Nat} {es:Array MapEntry} {clock:Nat} (hb:w.heap[r]?=some (.map es clock)):(getObj r).run P w=.ok (.map es clock) w:=by
  simp [getObj,Sem.run,hb]
section
variable {P:Program} {G:Gh} {s:S} {a:Act} {w:World} {A:Nat→Prop} {β:Nat→Option Nat} {γ:Nat→Option (Nat × List Nat)} {o:Oper} {k:D→Prop}
theorem mkV_t (n:Nat) (us:Nat→Value):mkV true n us=.agg ((List.range n).map us).toArray:=(rfl)
theorem mkV_f (n:Nat) (us:Nat→Value):mkV false n us=us 0:=(rfl)
theorem mkV_cells {ag:Bool} {n:Nat} {us:Nat→Value} (h:ag=false→n=1) (h1:ag=false→(us 0).oneCell'=true):(mkV ag n us).cells.toList=(List.range n).map us:=by
  cases ag with
  | true=>simp [mkV_t,Value.cells]
  | false=>rw [mkV_f,cells_one (h1 rfl),h rfl];simp
theorem mkV_ext {ag:Bool} {n:Nat} {us vs:Nat→Value} (h0:ag=false→0<n) (h:∀ j,j<n→us j=vs j):mkV ag n us=mkV ag n vs:=by
  cases ag with
  | true =>
    rw [mkV_t,mkV_t]
    congr 1
    congr 1
    exact List.map_congr_left fun j hj=>h j (List.mem_range.1 hj)
  | false=>rw [mkV_f,mkV_f];exact h 0 (h0 rfl)
theorem Agr_of:∀ {ds kc:List D},(∀ l y,l<ds.length→l<kc.length→ds.getD l .junk=.v y→.v y=kc.getD l .junk)→Agr ds kc
  | [],kc,_=>by rw [Agr_nil];trivial
  | d::ds,[],_=>by cases d<;>trivial
  | d::ds,c::kc,h=>by
    have ih:=Agr_of (ds:=ds) (kc:=kc) fun l y h1 h2 h3=>by simpa using h (l+1) y (by simpa using h1) (by simpa using h2) (by simpa using h3)
    cases d with
    | v y=>exact ⟨by simpa using h 0 y (by simp) (by simp) rfl,ih⟩
    | _=>exact ih
theorem keyP_get : ∀ {ks : List IntKind} {kc : List D}, keyP ks kc → kc.length = ks.length ∧ ∀ j, j < ks.length → ∃ n, kc.getD j .junk = .v (.int (ks.getD j .i64) n) ∧ (Lit.int (ks.getD j .i64) n).wf = true
  | [],[],_=>⟨rfl,fun j hj=>by simp at hj⟩
  | [],_::_,h=>by simp [keyP] at h
  | _::_,[],h=>by simp [keyP] at h
  | q :: ks, d :: kc, h => by
    cases d with
    | v x =>
      cases x with
      | int q' n =>
        obtain ⟨⟨h1,h2⟩,h3⟩:=h
        obtain ⟨i1,i2⟩:=keyP_get h3
        refine ⟨by simp [i1],fun j hj => ?_⟩
        cases j with
        | zero=>exact ⟨n,by simp [h1],by simpa using h2⟩
        | succ j=>simpa using i2 j (by simpa using hj)
      | _=>exact h.elim
    | _=>exact h.elim
theorem kinds_cells {t : TypeId} {ks : List IntKind} {d : Nat} (h : kindsOf P d t = some ks) (ha : aggOf P t = some true) : P.cellsOf t = ks.length := by
  cases d with
  | zero=>simp [kindsOf] at h
  | succ d =>
    unfold kindsOf at h
    unfold aggOf at ha
    cases hu:P.underlying t with
    | none=>simp [hu] at h
    | some kd =>
      rw [hu] at h ha
      cases kd
      case array n e =>
        simp only [Option.bind_eq_bind,Option.bind_eq_some_iff] at h
        obtain ⟨a,h1,h⟩:=h
        split at h
        · next hc=>simp only [Option.pure_def,Option.some.injEq] at h;subst h;rw [hc.2];simp
        · cases h
      case struct fs =>
        simp only [Option.bind_eq_bind,Option.bind_eq_some_iff] at h
        obtain ⟨a,h1,h⟩:=h
        split at h
        · next hc=>simp only [Option.pure_def,Option.some.injEq] at h;subst h;rw [hc]
        · cases h
      all_goals first|(simp at ha;done)|(simp at h;done)
theorem kinds_one {t:TypeId} {ks:List IntKind} {d:Nat} (h:kindsOf P d t=some ks) (ha:aggOf P t=some false):ks.length=1 ∧ ∃ q,P.underlying t=some (.int q):=by
  cases d with
  | zero=>simp [kindsOf] at h
  | succ d =>
    unfold kindsOf at h
    unfold aggOf at ha
    cases hu:P.underlying t with
    | none=>simp [hu] at h
    | some kd =>
      rw [hu] at h ha
      cases kd
      case int q=>simp at h;subst h;exact ⟨rfl,q,rfl⟩
      all_goals first|(simp at ha;done)|(simp at h;done)
structure KT (P:Program) (t:TypeId) (ks:List IntKind) (ka:Bool):Prop where
  hk:kindsOf P 20 t=some ks
  ha:aggOf P t=some ka
  ht:P.keyTypeAt 20 t=true
theorem keyT_spec {t:TypeId} {ks:List IntKind} {ka:Bool} (h:keyT P t=some (ks,ka)):KT P t ks ka:=by
  unfold keyT at h
  simp only [Option.bind_eq_bind,Option.bind_eq_some_iff] at h
  obtain ⟨a,h1,b,h2,h⟩:=h
  split at h
  · next hc=>simp only [Option.pure_def,Option.some.injEq,Prod.mk.injEq] at h;obtain ⟨rfl,rfl⟩:=h;exact ⟨h1,h2,hc⟩
  · cases h
theorem KT.one {t:TypeId} {ks:List IntKind} {ka:Bool} (h:KT P t ks ka):ka=false→ks.length=1:=fun e=>by
  subst e;exact (kinds_one h.hk h.ha).1
theorem agg_or {t:TypeId} (h:aggOf P t=some true) : ∃ d,P.underlying t=some d∧((∃ fs,d=.struct fs) ∨ ∃ n e,d=.array n e):=by
  unfold aggOf at h
  cases hu:P.underlying t with
  | none=>simp [hu] at h
  | some kd =>
    rw [hu] at h
    cases kd<;>simp at h
    · exact ⟨_,rfl,.inr ⟨_,_,rfl⟩⟩
    · exact ⟨_,rfl,.inl ⟨_,rfl⟩⟩
theorem KT.val {t:TypeId} {ks:List IntKind} {ka:Bool} (h:KT P t ks ka) {us:Nat→Value} (hu:∀ j,j<ks.length → ∃ m,us j=.int (ks.getD j .i64) m∧(Lit.int (ks.getD j .i64) m).wf=true):KV P t ks (mkV ka ks.length us):=by
  have hl:((List.range ks.length).map us).length=ks.length:=by simp
  have hi:IL ks ((List.range ks.length).map us):=IL.of hl fun j hj=>by
    have:((List.range ks.length).map us).getD j undef=us j:=by simp [List.getD,hj]
    rw [this];exact hu j hj
  cases ka with
  | true =>
    rw [mkV_t]
    refine ⟨?_,by simpa [Value.cells] using hi⟩
    obtain ⟨d,hd,h2⟩:=agg_or h.ha
    rcases h2 with ⟨fs,rfl⟩|⟨n,e,rfl⟩<;>simp [Value.formed,hd,kinds_cells h.hk h.ha]
  | false =>
    obtain ⟨h1,q,hq⟩:=kinds_one h.hk h.ha
    obtain ⟨m,hm,_⟩:=hu 0 (by omega)
    rw [mkV_f]
    refine ⟨by rw [hm];simp [Value.formed,hq],?_⟩
    have:(List.range ks.length).map us=[us 0]:=by rw [h1];rfl
    rw [this] at hi
    rw [hm] at hi ⊢
    simpa [Value.cells] using hi
theorem key_val {N : Nat} {t : TypeId} {ks : List IntKind} {ka : Bool} (h : KT P t ks ka) {y : D} {x : Value} (hx : DR w A β N y x) {K : List D → Prop} (hy : kVc ka y K) (hK : ∀ kc, K kc → keyP ks kc) :
    ∃ kc,K kc∧kc.length=ks.length∧x=mkV ka ks.length (fun j=>x.cells.getD j undef)∧(∀ j,j<ks.length→kc.getD j .junk=.v (x.cells.getD j undef) ∧ ∃ m,x.cells.getD j undef=.int (ks.getD j .i64) m∧(Lit.int (ks.getD j .i64) m).wf=true):=by
  cases ka with
  | true =>
    unfold kVc at hy
    simp only at hy
    split at hy
    · next ds =>
      obtain ⟨h1,h2⟩:=keyP_get (hK ds hy)
      obtain ⟨cs,rfl,c1,c2⟩:=dr_ag hx
      have key:∀ j,j<ks.length→ds.getD j .junk=.v (cs.getD j undef) ∧ ∃ m,cs.getD j undef=.int (ks.getD j .i64) m∧(Lit.int (ks.getD j .i64) m).wf=true:=fun j hj=>by
        obtain ⟨m,e,hw⟩:=h2 j hj
        have:=c2 j (by omega)
        rw [e] at this
        have:=dr_v this
        exact ⟨by rw [e,this],m,this,hw⟩
      refine ⟨ds,hy,h1,?_,key⟩
      rw [mkV_t]
      congr 1
      refine Array.ext (by simp [c1,h1]) fun i h3 h4 => ?_
      simp [Value.cells,h3]
    · exact hy.elim
  | false =>
    obtain ⟨h0,hy⟩:=hy
    obtain ⟨h1,h2⟩:=keyP_get (hK _ hy)
    have hl:=h.one rfl
    obtain ⟨m,e,hw⟩:=h2 0 (by omega)
    simp only [List.getD_cons_zero] at e
    rw [e] at hx
    have hx':=dr_v hx
    refine ⟨[y],hy,h1,?_,fun j hj => ?_⟩
    · rw [mkV_f,hx'];simp [Value.cells]
    · have:j=0:=by omega
      subst this
      rw [hx']
      exact ⟨by simp [e,Value.cells],m,by simp [Value.cells],hw⟩
theorem map_obj (g:GR G s a w A β γ) {τ:Nat} {ob:Ob} {ks:List IntKind} {ka va:Bool} {v:Value} (ex:DR w A β s.N (.mp τ) v) (hM:s.M τ=some ob) (hk:ob.kd=.map ks ka va) :
    τ<s.N ∧ ∃ (b:Nat) (ents:Array MapEntry) (us:Nat→Nat→Value),v=.map (some b)∧β τ=some b∧b<w.heap.size∧w.heap[b]?=some (.map ents ents.size)∧ents.size=ob.es.length∧ks.length≤ob.sz∧(ka=false→ks.length=1)∧(va=false→ob.sz=ks.length+1) ∧
      (∀ (i:Nat) (e:MapEntry),ents[i]?=some e→e.born=i∧e.key=mkV ka ks.length (us i)∧e.val=mkV va (ob.sz - ks.length) (fun j=>us i (ks.length+j))∧∀ j,j<ks.length → ∃ m,us i j=.int (ks.getD j .i64) m∧(Lit.int (ks.getD j .i64) m).wf=true) ∧
      (∀ i,i<ob.es.length→(ob.es.getD i []).length=ob.sz)∧∀ i j,i<ob.es.length→j<ob.sz→CDR ob.flat w A β γ s.N τ [i * ob.sz+j] ((ob.es.getD i []).getD j .junk) (us i j):=by
  cases ex with
  | cl d x h=>cases h
  | mp τ b hN hb =>
    refine ⟨hN,?_⟩
    have h0:=g.hr.objs τ ob hN hM
    rcases h0.2.2 with ⟨h1,_⟩|⟨b',o,us,h1,h2,h3,h4⟩
    · rw [h1] at hb;cases hb
    · rw [hb] at h1;cases h1
      rw [hk] at h3
      obtain ⟨ents,rfl,h5,h6,h7,h8,h9⟩:=h3
      exact ⟨b,ents,us,rfl,hb,lt_of_get h2,h2,h5,h6,h7,h8,h9,h0.1,h4⟩
theorem isMapT_spec {t kt et:TypeId} (h:isMapT P t=some (kt,et)):P.underlying t=some (.map kt et):=by
  unfold isMapT at h
  split at h
  · next h'=>simp only [Option.some.injEq,Prod.mk.injEq] at h;obtain ⟨rfl,rfl⟩:=h;exact h'
  · cases h
theorem valT_spec {t : TypeId} {va : Bool} {vz : Nat} (h : valT P t = some (va, vz)) : aggOf P t = some va ∧ szOf P t = some vz ∧ (va = false → vz = 1) := by
  unfold valT at h
  simp only [Option.bind_eq_bind,Option.bind_eq_some_iff] at h
  obtain ⟨a,h1,b,h2,h⟩:=h
  split at h
  · next hc =>
    simp only [Option.pure_def,Option.some.injEq,Prod.mk.injEq] at h
    obtain ⟨rfl,rfl⟩:=h
    exact ⟨h1, h2, fun e => by rcases hc with h | h; · rw [e] at h; cases h
                               · exact h⟩
  · cases h
theorem row_val {fl:Bool} {N τ sz n vz:Nat} {va:Bool} {row:List D} {us:Nat→Value} {i:Nat} (hl:row.length=sz) (hs:sz=n+vz) (h1:va=false→vz=1) (how:∀ j,j<sz→(row.getD j .junk).isOwn=false)
    (h:∀ j,j<sz→CDR fl w A β γ N τ [i * sz+j] (row.getD j .junk) (us j)):DR w A β N (mkvD va (row.drop n)) (mkV va (sz - n) (fun j=>us (n+j))):=by
  have hz:sz - n=vz:=by omega
  rw [hz]
  have cell:∀ j,j<vz→DR w A β N ((row.drop n).getD j .junk) (us (n+j)):=fun j hj=>by
    have:=(h (n+j) (by omega)).1 (how _ (by omega))
    simpa [List.getD] using this
  cases va with
  | true =>
    rw [mkvD_t,mkV_t]
    refine .ag _ _ (by simp [hl,hs]) fun j hj => ?_
    have hj':j<vz:=by rw [List.length_drop,hl] at hj;omega
    have:=cell j hj'
    simpa [hj'] using this
  | false =>
    rw [mkvD_f,mkV_f]
    exact cell 0 (by rw [h1 rfl];omega)
theorem keys_find {N:Nat} {kt:TypeId} {ks:List IntKind} {ka va:Bool} (hT:KT P kt ks ka) {ob:Ob} {τ:Nat} {ents:Array MapEntry} {us:Nat→Nat→Value} (hsz:ents.size=ob.es.length) (hks:ks.length≤ob.sz) (how:∀ i j,i<ob.es.length→j<ob.sz→((ob.es.getD i []).getD j .junk).isOwn=false)
    (hent:∀ (i:Nat) (e:MapEntry),ents[i]?=some e→e.born=i∧e.key=mkV ka ks.length (us i)∧e.val=mkV va (ob.sz - ks.length) (fun j=>us i (ks.length+j))∧∀ j,j<ks.length → ∃ m,us i j=.int (ks.getD j .i64) m∧(Lit.int (ks.getD j .i64) m).wf=true)
    (hl:∀ i,i<ob.es.length→(ob.es.getD i []).length=ob.sz) (hr:∀ i j,i<ob.es.length→j<ob.sz→CDR ob.flat w A β γ N τ [i * ob.sz+j] ((ob.es.getD i []).getD j .junk) (us i j))
    {x:Value} {kc:List D} (hx:x=mkV ka ks.length (fun j=>x.cells.getD j undef)) (hc:kc.length=ks.length) (hkc:∀ j,j<ks.length→kc.getD j .junk=.v (x.cells.getD j undef) ∧ ∃ m,x.cells.getD j undef=.int (ks.getD j .i64) m∧(Lit.int (ks.getD j .i64) m).wf=true) :
    KV P kt ks x∧((∀ w',(Instr.findKey kt x ents.toList).run P w'=.ok none w')∧(∀ i,i<ob.es.length→(ob.es.getD i []).take ks.length ≠ kc) ∨
      ∃ (i:Nat) (e:MapEntry),(∀ w',(Instr.findKey kt x ents.toList).run P w'=.ok (some (i,e.val)) w')∧ents[i]?=some e∧e.key=x∧i<ob.es.length∧Agr ((ob.es.getD i []).take ks.length) kc∧∀ j,j<ks.length→us i j=x.cells.getD j undef):=by
  have hxv:KV P kt ks x:=by rw [hx];exact hT.val fun j hj=>(hkc j hj).2
  refine ⟨hxv,?_⟩
  have hall:∀ e,e ∈ ents.toList→KV P kt ks e.key:=fun e he=>by
    obtain ⟨i,hi⟩:=List.mem_iff_getElem?.1 he
    obtain ⟨_,h1,_,h2⟩:=hent i e (by simpa using hi)
    rw [h1];exact hT.val h2
  have one:∀ {us:Nat→Value},(∀ j,j<ks.length → ∃ m,us j=.int (ks.getD j .i64) m∧(Lit.int (ks.getD j .i64) m).wf=true)→ka=false→(us 0).oneCell'=true:=fun h e=>by
    obtain ⟨m,h1,_⟩:=h 0 (by rw [hT.one e];omega)
    rw [h1];rfl
  have same:∀ i e,ents[i]?=some e→e.key=x→∀ j,j<ks.length→us i j=x.cells.getD j undef:=fun i e he hek j hj=>by
    obtain ⟨_,h1,_,h2⟩:=hent i e he
    have e1:=mkV_cells hT.one (one h2)
    rw [← h1,hek] at e1
    have:x.cells.getD j undef=x.cells.toList.getD j undef:=by simp [List.getD,Array.getD_eq_getD_getElem?]
    rw [this,e1]
    simp [List.getD,hj]
  rcases find_run hT.hk hT.ht hxv ents.toList hall with ⟨f1,f2⟩|⟨i,e,f1,f2,f3⟩
  · left
    refine ⟨f1,fun i hi he => ?_⟩
    have hi':i<ents.size:=by omega
    obtain ⟨_,h1,_,h2⟩:=hent i ents[i] (by simp [hi'])
    refine f2 ents[i] (by simp) ?_
    rw [h1,hx]
    refine mkV_ext (fun e=>by rw [hT.one e];omega) fun j hj => ?_
    have h3:=(hr i j hi (by omega)).1 (how i j hi (by omega))
    have h4:(ob.es.getD i []).getD j .junk=kc.getD j .junk:=by
      rw [← he];simp [List.getD,hj]
    rw [h4,(hkc j hj).1] at h3
    exact dr_v h3
  · right
    have he:ents[i]?=some e:=by simpa using f2
    have hi:i<ents.size:=by
      rcases Nat.lt_or_ge i ents.size with h|h
      · exact h
      · rw [Array.getElem?_eq_none h] at he;cases he
    refine ⟨i,e,f1,he,f3,by omega,?_,same i e he f3⟩
    refine Agr_of fun l y h1 h2 h3 => ?_
    have hl':l<ks.length:=by omega
    have h4:=(hr i l (by omega) (by omega)).1 (how i l (by omega) (by omega))
    have h5:((ob.es.getD i []).take ks.length).getD l .junk=(ob.es.getD i []).getD l .junk:=by simp [List.getD,hl']
    rw [h5] at h3
    rw [h3] at h4
    have h6:=dr_v h4
    rw [same i e he f3 l hl'] at h6
    rw [(hkc l hl').1,h6]
theorem dr_tu2 {N:Nat} {d e:D} {x y:Value} (h:DR w A β N d x) (k:DR w A β N e y):DR w A β N (.tu [d,e]) (.tuple #[x,y]):=.tu _ _ (by simp) fun i hi=>by
  match i,hi with
  | 0,_=>exact h
  | 1,_=>exact k
theorem zShape_spec {e:TypeId} {va:Bool} {z:Value} (h:zShape P e va=true) (hz:∀ w,(zeroValue e).run P w=.ok z w):(va=true → ∃ cs,z=.agg cs)∧(va=false→z.oneCell'=true):=by
  have h0:=hz default
  unfold zShape at h
  have key:∀ v,(P.info? e).bind (·.zero)=some v→z=v:=fun v hv=>by
    rw [Option.bind_eq_some_iff] at hv
    obtain ⟨ti,hti,hz0⟩:=hv
    simp [zeroValue,typeInfo,hti,hz0] at h0
    exact h0.symm
  split at h
  · next cs hv=>rw [key _ hv];subst h;exact ⟨fun _=>⟨cs,rfl⟩,fun h=>by cases h⟩
  · cases h
  · next v h1 h2 hv =>
    rw [key _ hv]
    have:va=false:=by simpa using h
    subst this
    refine ⟨(fun h=>by cases h),fun _ => ?_⟩
    cases v<;>first|rfl|exact absurd rfl (h1 _)|exact absurd rfl (h2 _)
  · cases h
theorem zero_dr {N:Nat} {e:TypeId} {va:Bool} {vz:Nat} {zero:List D} {z:Value} (h3:va=false→vz=1) (hl:zero.length=vz) (hs:zShape P e va=true) (z1:∀ w,(zeroValue e).run P w=.ok z w) (z2:z.cells.size=zero.length)
    (z3:∀ w A i,i<zero.length→CR w A (zero.getD i .junk) (z.cells.getD i undef)∧(zero.getD i .junk).one=true∧(zero.getD i .junk).cl=true):DR w A β N (mkvD va zero) z:=by
  obtain ⟨s1,s2⟩:=zShape_spec hs z1
  cases va with
  | true =>
    obtain ⟨cs,rfl⟩:=s1 rfl
    rw [mkvD_t]
    exact .cl _ _ (.ag _ _ (by simpa [Value.cells] using z2) fun i hi=>by simpa [Value.cells] using (z3 w A i hi).1)
  | false =>
    rw [mkvD_f]
    have h0:=(z3 w A 0 (by rw [hl,h3 rfl];omega)).1
    rw [cells_one (s2 rfl)] at h0
    exact .cl _ _ (by simpa using h0)
theorem run_lookup {t kt et:TypeId} (ht:P.underlying t=some (.map kt et)) {b:Nat} {ents:Array MapEntry} {clk:Nat} {w':World} (hb:w'.heap[b]?=some (.map ents clk)) {x:Value} {ks:List IntKind} {ka:Bool} (hT:KT P kt ks ka) (hx:KV P kt ks x) {ok:Bool} (r:Option (Nat × Value)) {z:Value} (hz:(zeroValue et).run P w'=.ok z w'):(Instr.findKey kt x ents.toList).run P w'=.ok r w'→(Instr.lookup t (.map (some b)) x ok).run P w'=.ok (match r with|some (_,v)=>if ok then .tuple #[v,.bool true] else v|none=>if ok then .tuple #[z,.bool false] else z) w':=by
  intro hf
  unfold Instr.lookup
  simp only [Sem.run_bind,und_run ht,Result.andThen_ok,run_getO hb,Sem.run_pure,KV.check hT.hk hT.ht hx,hf]
  cases r with
  | none=>cases ok<;>simp [hz]
  | some p=>obtain ⟨i,v⟩:=p;cases ok<;>simp
theorem pu_mlk {t kt et : TypeId} {x y : Operand} {x' y' : O} {ks : List IntKind} {ka va ok : Bool} {vz : Nat} {zero : List D} (ho : o.op = .lookup t x y ok) (ht : isMapT P t = some (kt, et)) (hk : keyT P kt = some (ks, ka)) (hv : valT P et = some (va, vz)) (hz : zOf P et = some zero) (hzl : zero.length = vz) (hzs : zShape P et va = true)
    (hx:cO x=some x') (hy:cO y=some y') (h:kMlk s (s.g x') (s.g y') ks ka va vz ok zero k) (g:GR G s a w A β γ) : ∃ d v,k d∧DR w A β s.N d v∧Yields P a w o v:=by
  have ex:=g.evalO hx
  have ey:=g.evalO hy
  have hT:=keyT_spec hk
  obtain ⟨v1,v2,v3⟩:=valT_spec hv
  unfold kMlk at h
  split at h
  · next τ hp =>
    rw [hp] at ex
    unfold kM at h
    split at h
    · next ob hM =>
      obtain ⟨⟨h1,h2,h3⟩,h4⟩:=h
      have h1':ob.kd=.map ks ka va:=h1
      obtain ⟨hN,b,ents,us,e1,e2,e3,e4,e5,e6,e7,e8,e9,e10,e11⟩:=map_obj g ex hM h1'
      have how:=(g.hr.objs τ ob hN hM).2.1 h3
      obtain ⟨kc,q1,q2,q3,q4⟩:=key_val hT ey h4 (fun kc hc=>hc.1)
      obtain ⟨q5,q6⟩:=q1
      obtain ⟨hxv,hfind⟩:=keys_find hT e5 e6 how e9 e10 e11 q3 q2 q4
      obtain ⟨zv,z1,z2,z3⟩:=zOf_spec hz
      have get:∀ w',Same w w'→w'.heap[b]?=some (.map ents ents.size):=fun w' hs=>by rw [hs b e3];exact e4
      rcases hfind with ⟨f1,f2⟩|⟨i,e,f1,f2,f3,f4,f5,f6⟩
      · have hk2:=q6.2 f2
        have hzd:DR w A β s.N (mkvD va zero) zv:=zero_dr v3 hzl hzs z1 z2 z3
        refine ⟨_,if ok then .tuple #[zv,.bool false] else zv,hk2,?_,fun w' hs => ?_⟩
        · cases ok with
          | true=>exact dr_tu2 hzd (.cl _ _ (.v _))
          | false=>exact hzd
        · have:=run_lookup (isMapT_spec ht) (get w' (hs (by simp [isLoad,ho]))) hT hxv (ok:=ok) _ (z1 w') (f1 w')
          simp only [execOp,ho,Sem.run_bind,e1,this,Result.andThen_ok,Sem.run_pure]
      · have hk2:=q6.1 i f4 f5
        have hrow:=row_val (w:=w) (A:=A) (β:=β) (γ:=γ) (fl:=ob.flat) (N:=s.N) (τ:=τ) (i:=i) (us:=us i) (e10 i f4) h2 v3 (fun j hj=>how i j f4 hj) (fun j hj=>e11 i j f4 hj)
        obtain ⟨_,_,hval,_⟩:=e9 i e f2
        rw [← hval] at hrow
        refine ⟨_,if ok then .tuple #[e.val,.bool true] else e.val,hk2,?_,fun w' hs => ?_⟩
        · cases ok with
          | true=>exact dr_tu2 hrow (.cl _ _ (.v _))
          | false=>exact hrow
        · have:=run_lookup (isMapT_spec ht) (get w' (hs (by simp [isLoad,ho]))) hT hxv (ok:=ok) _ (z1 w') (f1 w')
          simp only [execOp,ho,Sem.run_bind,e1,this,Result.andThen_ok,Sem.run_pure]
    · exact h.elim
  · exact h.elim
theorem bla_bld {sz:Nat}:∀ {ps:List (Nat × O)} {cells:List D},kBla s k sz ps cells=kBld s k (ps.map fun p=>(p.1 * sz,sz,p.2)) cells
  | [],cells=>rfl
  | (i,y)::ps,cells=>by
    show kBlaS (i * sz) sz cells (kBla s k sz ps) (s.g y).cells=kBldS (i * sz) sz cells (kBld s k (ps.map fun p=>(p.1 * sz,sz,p.2))) (s.g y).cells
    have:kBla s k sz ps=kBld s k (ps.map fun p=>(p.1 * sz,sz,p.2)):=funext fun c=>bla_bld
    rw [this];rfl
theorem pu_bla {t e:TypeId} {n sz:Nat} {parts:Array (Nat × Operand)} {zero:List D} {ps:List (Nat × O)} (ho:o.op=.build t parts) (ht:P.underlying t=some (.array n e)) (hz:zOf P t=some zero) (hsz:szOf P e=some sz)
    (hps:(parts.toList.mapM fun p=>do pure (p.1,← cO p.2))=some ps) (h:kBla s k sz ps zero) (g:GR G s a w A β γ) : ∃ d v,k d∧DR w A β s.N d v∧Yields P a w o v:=by
  obtain ⟨v,hv,hn,hc⟩:=zOf_spec hz
  rw [bla_bld] at h
  have key:∀ (l:List (Nat × Operand)) (ps:List (Nat × O)),(l.mapM fun p=>do pure (p.1,← cO p.2))=some ps →
      l.length=(ps.map fun p=>(p.1 * sz,sz,p.2)).length∧∀ i,i<l.length → ∃ off n y,(ps.map fun p=>(p.1 * sz,sz,p.2))[i]?=some (off,n,y)∧(fun i=>some (i * sz,sz)) (l.getD i (0,default)).1=some (off,n)∧cO (l.getD i (0,default)).2=some y:=by
    intro l
    induction l with
    | nil=>intro ps h;simp at h;subst h;exact ⟨rfl,fun i hi=>by simp at hi⟩
    | cons p l ih =>
      intro ps h
      simp only [List.mapM_cons,Option.bind_eq_bind,Option.pure_def,Option.bind_eq_some_iff] at h
      obtain ⟨y,⟨y',hy,e⟩,ps',hps',h⟩:=h
      cases h;cases e
      obtain ⟨i1,i2⟩:=ih ps' hps'
      refine ⟨by simpa using i1,fun i hi => ?_⟩
      cases i with
      | zero=>exact ⟨p.1 * sz,sz,y',rfl,rfl,by simpa using hy⟩
      | succ i=>simpa using i2 i (by simpa using hi)
  obtain ⟨ds,cs,r1,r2,r3,r4⟩:=fill_sound (fun i=>some (i * sz,sz)) g parts.toList _ zero v.cells (key _ _ hps) hn (fun i hi=>.cl _ _ (hc w A i hi).1) h
  refine ⟨_,_,r1,.ag ds cs r3 r4,fun w' _ => ?_⟩
  have e:(parts.map fun x=>(x.1,a.eval x.2)).toList=parts.toList.map fun p=>(p.1,a.eval p.2):=by simp
  simp only [execOp,ho,Instr.build,Sem.run_bind,hv,Result.andThen_ok,und_run ht,szOf_spec hsz,e,r2,Sem.run_pure]
theorem guard_agg {op:BinOp} {t:TypeId} {x y:Operand} {cs ds:Array Value} (h:P.eqGuardType P.depth t=false) (w':World):(eqGuard op t x y (.agg cs) (.agg ds)).run P w'=.ok () w':=by
  unfold eqGuard
  cases op<;>simp [run_program,h]
theorem pu_eqs {neg : Bool} {x y : Operand} {x' y' : O} {t u : TypeId} {ks : List IntKind} (ho : o.op = .binOp (if neg then .neq else .eql) t x y u) (hk : kindsOf P 20 t = some ks) (ha : aggOf P t = some true) (ht : P.keyTypeAt 20 t = true) (hg : P.eqGuardType P.depth t = false) (hx : cO x = some x') (hy : cO y = some y')
    (h:kEqs neg (s.g x') (s.g y') ks k) (g:GR G s a w A β γ) : ∃ d v,k d∧DR w A β s.N d v∧Yields P a w o v:=by
  have ex:=g.evalO hx
  have ey:=g.evalO hy
  have hT:KT P t ks true:=⟨hk,ha,ht⟩
  unfold kEqs at h
  split at h
  · next ds es hp hq =>
    rw [hp] at ex;rw [hq] at ey
    obtain ⟨⟨h1,h2⟩,h3⟩:=h
    obtain ⟨kx,x1,x2,x3,x4⟩:=key_val hT ex (K:=fun l=>l=ds∧keyP ks l) ⟨rfl,h1⟩ (fun kc hc=>hc.2)
    obtain ⟨ky,y1,y2,y3,y4⟩:=key_val hT ey (K:=fun l=>l=es∧keyP ks l) ⟨rfl,h2⟩ (fun kc hc=>hc.2)
    obtain ⟨rfl,_⟩:=x1
    obtain ⟨rfl,_⟩:=y1
    obtain ⟨cx,hcx,_,_⟩:=dr_ag ex
    obtain ⟨cy,hcy,_,_⟩:=dr_ag ey
    have vx:KV P t ks (a.eval x):=by rw [x3];exact hT.val fun j hj=>(x4 j hj).2
    have vy:KV P t ks (a.eval y):=by rw [y3];exact hT.val fun j hj=>(y4 j hj).2
    by_cases he:a.eval x=a.eval y
    · have hd:kx=ky:=List.ext_getElem (by omega) fun i hi hj=>by
        have q1:=(x4 i (by omega)).1
        have q2:=(y4 i (by omega)).1
        rw [he] at q1
        have:kx.getD i .junk=ky.getD i .junk:=q1.trans q2.symm
        simpa [List.getD,hi,hj] using this
      refine ⟨_,.bool (!neg),h3.1 hd,.cl _ _ (.v _),fun w' _ => ?_⟩
      have r:=KV.eqT hk ht vx vy he w'
      have gu:=fun op:BinOp=>guard_agg (P:=P) (op:=op) (t:=t) (x:=x) (y:=y) (cs:=cx) (ds:=cy) hg w'
      rw [hcx,hcy] at r
      cases neg<;>simp [execOp,ho,hcx,hcy,gu,binOp,r]
    · have hd:kx ≠ ky:=fun e=>he (by
        rw [x3,y3]
        refine mkV_ext (fun h=>by cases h) fun j hj => ?_
        have q1:=(x4 j hj).1
        have q2:=(y4 j hj).1
        rw [e,q2] at q1
        injection q1 with q1
        exact q1.symm)
      refine ⟨_,.bool neg,h3.2 hd,.cl _ _ (.v _),fun w' _ => ?_⟩
      have r:=KV.eqF hk ht vx vy he w'
      have gu:=fun op:BinOp=>guard_agg (P:=P) (op:=op) (t:=t) (x:=x) (y:=y) (cs:=cx) (ds:=cy) hg w'
      rw [hcx,hcy] at r
      cases neg<;>simp [execOp,ho,hcx,hcy,gu,binOp,r]
  · exact h.elim
theorem ef_mmk {gr:Bool} {t kt et:TypeId} {ks:List IntKind} {ka va:Bool} {vz:Nat} {K:S→Prop} (ho:o.op=.makeMap t none) (hk:keyT P kt=some (ks,ka)) (hv:valT P et=some (va,vz)) (hd:∀ t,o.dst=some t→t<G.nt∧∀ y,¬ G.T t y)
    (h:K (s.newt o.dst ⟨ks.length+vz,[],true,false,.map ks ka va⟩ fun τ=>.mp τ)) (g:GR G s a w A β γ):Does gr P G a w o K:=by
  have hT:=keyT_spec hk
  obtain ⟨v1,v2,v3⟩:=valT_spec hv
  refine Does.valueG (fun _=>same_alloc w _) (v:=.map (some w.heap.size)) (w':=w.alloc (.map #[] 0)) (by simp [execOp,ho,Instr.makeMap]) h ?_
  have hal:Below w.heap.size w (w.alloc (.map #[] 0)):=(Below.refl _ _).alloc (Nat.le_refl _) _
  obtain ⟨β',γ',g2,e1,e2⟩:=g.newO hal (x:=some w.heap.size) (ob:=⟨ks.length+vz,[],true,false,.map ks ka va⟩) (fun β' γ' e1 _=>⟨fun i hi=>by simp at hi,fun _ i j hi=>by simp at hi,.inr ⟨w.heap.size,.map #[] 0,fun _ _=>undef,e1,heap_new _ _,⟨#[],rfl,rfl,by simp,hT.one,fun e=>by simp [v3 e],fun i e he=>by simp at he⟩,fun i j hi=>by simp at hi⟩⟩)
    (fun b e=>by cases e;exact ⟨Nat.le_refl _,by show w.heap.size<(w.heap.push _).size;rw [Array.size_push];omega⟩)
  exact ⟨A,β',γ',g2.put (.mp s.N w.heap.size (Nat.lt_succ_self _) e1) hd⟩
theorem ef_mlen {gr : Bool} {t kt et : TypeId} {x : Operand} {x' : O} {K : S → Prop} (ho : o.op = .call ⟨.builtin .len, #[x], #[t]⟩) (ht : isMapT P t = some (kt, et)) (hx : cO x = some x') (hd : ∀ t, o.dst = some t → t < G.nt ∧ ∀ y, ¬ G.T t y)
    (h:kMlen s (s.g x') (putK o.dst s K)) (g:GR G s a w A β γ):Does gr P G a w o K:=by
  have ex:=g.evalO hx
  unfold kMlen at h
  split at h
  · next τ hp =>
    rw [hp] at ex
    unfold kM at h
    split at h
    · next ob hM =>
      obtain ⟨h1,h2⟩:=h
      cases hkd:ob.kd with
      | arr=>rw [hkd] at h1;cases h1
      | fix=>rw [hkd] at h1;cases h1
      | itr=>rw [hkd] at h1;cases h1
      | map ks ka va =>
        obtain ⟨hN,b,ents,us,e1,e2,e3,e4,e5,_⟩:=map_obj g ex hM hkd
        refine Does.valueG (v:=.int .i64 ob.es.length) (fun _=>Same.refl w) ?_ h2 ⟨A,β,γ,g.put (.cl _ _ (.v _)) hd⟩
        simp [execOp,ho,resolve,invoke,builtin,Builtin.len_,e1,und_run (isMapT_spec ht),run_getO e4,goInt,e5]
    · exact h.elim
  · exact h.elim
theorem Bel.setB {O:Nat→Prop} {w w0:World} (h:Bel O w0 w) {b:Nat} (hb:w0.heap.size≤b∨O b) (ob:Obj) (hs:Shp w (setB w b ob)):Bel O w0 (setB w b ob):=by
  refine ⟨h.os,h.tape,h.output,by rw [setB_size];exact h.size,fun k hk hn => ?_,h.shp.trans hs⟩
  have:k ≠ b:=by
    rintro rfl
    rcases hb with h'|h'
    · omega
    · exact hn h'
  rw [setB_other w b k ob this];exact h.block k hk hn
theorem GR.resetM (g:GR G s a w A β γ) {τ b:Nat} {ob ob':Ob} (hτ:τ<s.N) (hM:s.M τ=some ob) (hkd:ob'.kd=ob.kd) (hβ:β τ=some b) {o0:Obj} (hh:w.heap[b]?=some o0) (hno:oth o0=false) (hnc:∀ arr T f,o0 ≠ .cells arr T f) {o':Obj} {us':Nat→Nat→Value} (hH:Holds ob'.kd ob'.sz ob'.es.length o' us')
    (he:∀ i,i<ob'.es.length→(ob'.es.getD i []).length=ob'.sz) (how:ob'.ow=false→∀ i j,i<ob'.es.length→j<ob'.sz→((ob'.es.getD i []).getD j .junk).isOwn=false)
    (hr:∀ i j,i<ob'.es.length→j<ob'.sz→CDR ob'.flat w A β γ s.N τ [i * ob'.sz+j] ((ob'.es.getD i []).getD j .junk) (us' i j)):GR G (s.setM τ ob') a (setB w b o') A β γ:=by
  have hMn:s.M τ ≠ none:=by rw [hM];simp
  have hroot:=g.hr.root τ b hτ hMn hβ
  obtain ⟨hbs,hbA,hbO,_⟩:=g.hr.own b τ [] hroot hτ hMn
  have hat:(setB w b o').heap[b]?=some o':=setB_at w b o' hbs
  have hvis:Vis w (setB w b o'):=fun c x hc=>by
    by_cases e:c=b
    · subst e
      rw [hh] at hc;cases hc
      exact ⟨fun h=>(by rw [hno] at h;cases h),fun _ x' h'=>(by rw [hat] at h';cases h';exact holds_noth hH)⟩
    · have e2:=(setB_other w b c o' e).trans hc
      exact ⟨fun _=>e2,fun ho x' h'=>(by rw [e2] at h';cases h';exact ho)⟩
  have hA:∀ c,A c→(setB w b o').heap[c]?=w.heap[c]?:=fun c hc=>setB_other w b c o' (fun e=>hbA (e ▸ hc))
  have hsh:Shp w (setB w b o'):=fun c x U hc=>by
    by_cases e:c=b
    · subst e;rw [hh] at hc;exact absurd (Option.some.inj hc) (hnc _ _ _)
    · exact ⟨x,by rw [setB_other w b c o' e];exact hc,rfl⟩
  have hMs:∀ σ,(s.setM τ ob').M σ=if σ=τ then some ob' else s.M σ:=fun _=>rfl
  have live:∀ σ,(s.setM τ ob').M σ ≠ none→s.M σ ≠ none:=fun σ h=>by
    rw [hMs] at h
    by_cases e:σ=τ
    · rw [e];exact hMn
    · rwa [if_neg e] at h
  have hown:∀ σ c π,π ≠ []→γ c=some (σ,π)→(setB w b o').heap[c]?=w.heap[c]?∧γ c=some (σ,π):=fun σ c π hp hc=>⟨setB_other w b c o' (fun e=>by
    rw [e,hroot] at hc;simp only [Option.some.injEq,Prod.mk.injEq] at hc;exact hp hc.2.symm),hc⟩
  refine ⟨g.size,Mz.vis g.defers hvis,⟨Bel.setB g.hr.below hbO o' hsh,g.hr.sub,g.hr.up,fun c hc=>by rw [setB_size];exact g.hr.low c hc,fun σ ob hσ hm => ?_,fun c σ π h1 h2 h3=>let q:=g.hr.own c σ π h1 h2 (live σ h3);⟨by rw [setB_size];exact q.1,q.2.1,q.2.2.1,hvis.noth q.1 q.2.2.2⟩,fun σ c h1 h2 h3=>g.hr.root σ c h1 (live σ h2) h3,g.hr.ge,g.hr.flt,fun σ hF=>⟨(g.hr.fixd σ hF).1,fun ob hm => ?_⟩⟩,
    fun t=>(g.slots t).mono hA (fun _ h=>h) hsh (Nat.le_refl _) (fun _ _=>rfl),fun t d ht=>(g.keep t d ht).mono hA (fun _ h=>h) (fun τ h=>⟨h,rfl⟩)⟩
  · rw [hMs] at hm
    by_cases e:σ=τ
    · subst e
      rw [if_pos rfl] at hm;cases hm
      exact ⟨he,how,.inr ⟨b,o',us',hβ,setB_at w b o' hbs,hH,fun i j hi hj=>(hr i j hi hj).mono (by simp) hA (fun _ h=>h) hsh (Nat.le_refl _) (fun _ _=>rfl) (hown σ)⟩⟩
    · rw [if_neg e] at hm
      refine (g.hr.objs σ ob hσ hm).mono hσ hA (fun _ h=>h) hsh (Nat.le_refl _) (fun _ _=>rfl) (hown σ) (fun c hc=>setB_other w b c o' ?_)
      rintro rfl
      have:=g.hr.root σ c hσ (by rw [hm];simp) hc
      rw [hroot] at this;simp only [Option.some.injEq,Prod.mk.injEq] at this
      exact e this.1.symm
  · rw [hMs] at hm
    by_cases e:σ=τ
    · subst e;rw [if_pos rfl] at hm;cases hm
      rw [hkd];exact (g.hr.fixd σ hF).2 _ hM
    · rw [if_neg e] at hm;exact (g.hr.fixd σ hF).2 ob hm
theorem val_cells {N:Nat} {et:TypeId} {va:Bool} {vz:Nat} (h3:va=false→vz=1) {z:D} {v:Value} (hz:DR w A β N z v) {K:List D→Prop} (hk:kVc va z K) (hK:∀ vs,K vs→vs.length=vz∧vs.all D.one=true) :
    ∃ vs,K vs∧vs.length=vz∧v=mkV va vz (fun j=>v.cells.getD j undef)∧∀ j,j<vz→DR w A β N (vs.getD j .junk) (v.cells.getD j undef)∧(v.cells.getD j undef).oneCell'=true:=by
  cases va with
  | true =>
    unfold kVc at hk
    simp only at hk
    split at hk
    · next ds =>
      obtain ⟨l1,l2⟩:=hK ds hk
      obtain ⟨cs,rfl,c1,c2⟩:=dr_ag hz
      obtain ⟨c3,c4⟩:=dr_cells hz (by simpa [D.cells] using l2)
      refine ⟨ds,hk,l1,?_,fun j hj=>c4 j (by simpa [D.cells,l1] using hj)⟩
      rw [mkV_t]
      congr 1
      refine Array.ext (by simp [c1,l1]) fun i h3 h4 => ?_
      simp [Value.cells,h3]
    · exact hk.elim
  | false =>
    obtain ⟨h0,hk⟩:=hk
    obtain ⟨l1,l2⟩:=hK _ hk
    have hone:=dr_one hz h0
    refine ⟨[z],hk,l1,?_,fun j hj => ?_⟩
    · rw [mkV_f,cells_one hone];simp
    · have:j=0:=by have:=h3 rfl;omega
      subst this
      rw [cells_one hone]
      exact ⟨by simpa using hz,by simpa using hone⟩
theorem app_getD {l r:List D} {j:Nat}:(l++r).getD j .junk=if j<l.length then l.getD j .junk else r.getD (j - l.length) .junk:=by
  by_cases h:j<l.length
  · rw [if_pos h];simp [List.getD,List.getElem?_append_left h]
  · rw [if_neg h];simp [List.getD,List.getElem?_append_right (by omega:l.length≤j)]
theorem new_row {fl:Bool} {N τ n vz:Nat} {ix:List Nat} {kc vs:List D} {xk xv:Nat→Value} (hl:kc.length=n) (hk:∀ j,j<n→kc.getD j .junk=.v (xk j)∧(xk j).oneCell'=true) (hv:∀ j,j<vz→DR w A β N (vs.getD j .junk) (xv j)∧(xv j).oneCell'=true) (hvl:vs.length=vz) (hf:fl=true→vs.all D.cl=true) :
    ∀ j,j<n+vz→(((kc++vs).getD j .junk).isOwn=false)∧CDR fl w A β γ N τ ix ((kc++vs).getD j .junk) (if j<n then xk j else xv (j - n)):=by
  intro j hj
  rw [app_getD,hl]
  by_cases h:j<n
  · rw [if_pos h,if_pos h]
    obtain ⟨h1,h2⟩:=hk j h
    rw [h1]
    exact ⟨rfl,fun _=>.cl _ _ (.v _),fun _=>.cr _ _ _ (.v _),h2⟩
  · rw [if_neg h,if_neg h]
    obtain ⟨h1,h2⟩:=hv (j - n) (by omega)
    refine ⟨dr_no h1,fun _=>h1,fun hf' => ?_,h2⟩
    rcases hf' with hf'|hf'
    · exact .cr _ _ _ (dr_cl h1 (all_getD (hf hf') (by omega)))
    · rw [dr_no h1] at hf';cases hf'
theorem run_mapUpdate {t kt et:TypeId} (ht:P.underlying t=some (.map kt et)) {b:Nat} {ents:Array MapEntry} {clk:Nat} (hb:w.heap[b]?=some (.map ents clk)) {x v:Value} {ks:List IntKind} {ka:Bool} (hT:KT P kt ks ka) (hx:KV P kt ks x) :
    ((Instr.findKey kt x ents.toList).run P w=.ok none w→(Instr.mapUpdate t (.map (some b)) x v).run P w=.ok () (setB w b (.map (ents.push ⟨x,v,clk⟩) (clk+1)))) ∧
    ∀ i e u,ents[i]?=some e→e.key=x→(Instr.findKey kt x ents.toList).run P w=.ok (some (i,u)) w→(Instr.mapUpdate t (.map (some b)) x v).run P w=.ok () (setB w b (.map (ents.modify i fun e=>{ e with key:=x,val:=v }) clk)):=by
  refine ⟨fun hf => ?_,fun i e u he hk hf => ?_⟩
  · unfold Instr.mapUpdate
    simp only [Sem.run_bind,und_run ht,Result.andThen_ok,run_getO hb,KV.check hT.hk hT.ht hx,hf,run_setO _ hb]
  · unfold Instr.mapUpdate
    simp only [Sem.run_bind,und_run ht,Result.andThen_ok,run_getO hb,KV.check hT.hk hT.ht hx,hf,he,Option.map_some,Option.getD_some,hk,stays_run hx,run_setO _ hb]
theorem getD_push {α:Type} (l:Array α) (x:α) (i:Nat):(l.push x)[i]?=if i=l.size then some x else l[i]?:=by
  rw [Array.getElem?_push]
theorem get_modify {α:Type} (l:Array α) (i j:Nat) (f:α→α):(l.modify i f)[j]?=if i=j then l[j]?.map f else l[j]?:=by
  rw [Array.getElem?_modify]
theorem mkV_shift {va:Bool} {n vz:Nat} {xk xv:Nat→Value}:(mkV va vz fun j=>if n+j<n then xk (n+j) else xv (n+j - n))=mkV va vz xv:=by
  congr 1
  funext j
  rw [if_neg (by omega),show n+j - n=j by omega]
theorem set_row (g : GR G s a w A β γ) {τ b i : Nat} {ob : Ob} {kt : TypeId} {ks : List IntKind} {ka va : Bool} {vz : Nat} {ents : Array MapEntry} {us : Nat → Nat → Value} (hT : KT P kt ks ka) (hkd : ob.kd = .map ks ka va) (hz : ob.sz = ks.length + vz) (hv3 : va = false → vz = 1) (h3 : ob.ow = false)
    (hN:τ<s.N) (hM:s.M τ=some ob) (hβ:β τ=some b) (hb:w.heap[b]?=some (.map ents ents.size)) (hsz:ents.size=ob.es.length)
    (hent:∀ (i:Nat) (e:MapEntry),ents[i]?=some e→e.born=i∧e.key=mkV ka ks.length (us i)∧e.val=mkV va (ob.sz - ks.length) (fun j=>us i (ks.length+j))∧∀ j,j<ks.length → ∃ m,us i j=.int (ks.getD j .i64) m∧(Lit.int (ks.getD j .i64) m).wf=true)
    (hr:∀ i j,i<ob.es.length→j<ob.sz→CDR ob.flat w A β γ s.N τ [i * ob.sz+j] ((ob.es.getD i []).getD j .junk) (us i j))
    {kc vs:List D} {x v:Value} (hi:i<ob.es.length) (hx:x=mkV ka ks.length (fun j=>us i j)) (hkc:kc.length=ks.length) (hkv:∀ j,j<ks.length→DR w A β s.N (kc.getD j .junk) (us i j)∧(ob.flat=true→CR w A (kc.getD j .junk) (us i j)))
    (hvl:vs.length=vz) (hv:v=mkV va vz (fun j=>v.cells.getD j undef)) (hvs:∀ j,j<vz→DR w A β s.N (vs.getD j .junk) (v.cells.getD j undef)∧(v.cells.getD j undef).oneCell'=true) :
    GR G (s.setM τ ⟨ob.sz,ob.es.set i (kc++vs),ob.flat && vs.all D.cl,false,ob.kd⟩) a (setB w b (.map (ents.modify i fun e=>{ e with key:=x,val:=v }) ents.size)) A β γ:=by
  have he:=(g.hr.objs τ ob hN hM).1
  have how:=(g.hr.objs τ ob hN hM).2.1 h3
  have hie:i<ents.size:=by omega
  obtain ⟨_,_,_,hkint⟩:=hent i ents[i] (by simp [hie])
  have hrow:∀ r,r<ob.es.length→(ob.es.set i (kc++vs)).getD r []=if i=r then kc++vs else ob.es.getD r []:=fun r hr'=>by
    rw [set_getD]
    by_cases e:i=r
    · rw [if_pos ⟨e,hi⟩,if_pos e]
    · rw [if_neg (fun h=>e h.1),if_neg e]
  refine g.resetM (ob':=⟨ob.sz,ob.es.set i (kc++vs),ob.flat && vs.all D.cl,false,ob.kd⟩) (us':=fun r j=>if i=r then (if j<ks.length then us i j else v.cells.getD (j - ks.length) undef) else us r j) hN hM rfl hβ hb rfl (fun _ _ _ h=>by cases h) ?_ (fun r hr' => ?_) (fun _ r j hr' hj => ?_) (fun r j hr' hj => ?_)
  · simp only [List.length_set]
    rw [hkd]
    refine ⟨ents.modify i fun e=>{ e with key:=x,val:=v },by simp,by simpa using hsz,by omega,hT.one,fun e=>by rw [hz,hv3 e],fun r e her => ?_⟩
    rw [get_modify] at her
    by_cases hir:i=r
    · subst hir
      simp only [if_true] at her ⊢
      simp only [Option.map_eq_some_iff] at her
      obtain ⟨e0,h0,rfl⟩:=her
      obtain ⟨b1,b2,b3,b4⟩:=hent i e0 h0
      refine ⟨b1,?_,?_,fun j hj => ?_⟩
      · show x=_
        rw [hx]
        exact mkV_ext (fun e=>by rw [hT.one e];omega) fun j hj=>by rw [if_pos hj]
      · show v=_
        rw [hz,show ks.length+vz - ks.length=vz by omega]
        exact hv.trans (mkV_shift (xk:=fun j=>us i j) (xv:=fun j=>v.cells.getD j undef)).symm
      · rw [if_pos hj];exact b4 j hj
    · rw [if_neg hir] at her
      simp only [if_neg hir]
      exact hent r e her
  · simp only [List.length_set] at hr'
    show ((ob.es.set i (kc++vs)).getD r []).length=ob.sz
    rw [hrow r hr']
    by_cases e:i=r
    · rw [if_pos e,List.length_append,hkc,hvl,hz]
    · rw [if_neg e];exact he r hr'
  · simp only [List.length_set] at hr'
    show (((ob.es.set i (kc++vs)).getD r []).getD j .junk).isOwn=false
    simp only at hj
    rw [hrow r hr']
    by_cases e:i=r
    · rw [if_pos e,app_getD]
      by_cases h:j<kc.length
      · rw [if_pos h];exact dr_no (hkv j (by omega)).1
      · rw [if_neg h];exact dr_no (hvs (j - kc.length) (by omega)).1
    · rw [if_neg e];exact how r j hr' hj
  · simp only [List.length_set] at hr'
    simp only at hj ⊢
    rw [hrow r hr']
    by_cases e:i=r
    · rw [if_pos e,if_pos e,app_getD,hkc]
      by_cases h:j<ks.length
      · rw [if_pos h,if_pos h]
        obtain ⟨k1,k2⟩:=hkv j h
        obtain ⟨m,hm,_⟩:=hkint j h
        refine ⟨fun _=>k1,fun hf => ?_,by rw [hm];rfl⟩
        rcases hf with hf|hf
        · rw [Bool.and_eq_true] at hf;exact .cr _ _ _ (k2 hf.1)
        · rw [dr_no k1] at hf;cases hf
      · rw [if_neg h,if_neg h]
        obtain ⟨k1,k2⟩:=hvs (j - ks.length) (by omega)
        refine ⟨fun _=>k1,fun hf => ?_,k2⟩
        rcases hf with hf|hf
        · rw [Bool.and_eq_true] at hf;exact .cr _ _ _ (dr_cl k1 (all_getD hf.2 (by omega)))
        · rw [dr_no k1] at hf;cases hf
    · rw [if_neg e,if_neg e]
      obtain ⟨q1,q2,q3⟩:=hr r j hr' hj
      refine ⟨q1,fun hf => ?_,q3⟩
      rcases hf with hf|hf
      · rw [Bool.and_eq_true] at hf;exact q2 (.inl hf.1)
      · exact q2 (.inr hf)
theorem push_row (g : GR G s a w A β γ) {τ b : Nat} {ob : Ob} {kt : TypeId} {ks : List IntKind} {ka va : Bool} {vz : Nat} {ents : Array MapEntry} {us : Nat → Nat → Value} (hT : KT P kt ks ka) (hkd : ob.kd = .map ks ka va) (hz : ob.sz = ks.length + vz) (hv3 : va = false → vz = 1) (h3 : ob.ow = false)
    (hN:τ<s.N) (hM:s.M τ=some ob) (hβ:β τ=some b) (hb:w.heap[b]?=some (.map ents ents.size)) (hsz:ents.size=ob.es.length)
    (hent:∀ (i:Nat) (e:MapEntry),ents[i]?=some e→e.born=i∧e.key=mkV ka ks.length (us i)∧e.val=mkV va (ob.sz - ks.length) (fun j=>us i (ks.length+j))∧∀ j,j<ks.length → ∃ m,us i j=.int (ks.getD j .i64) m∧(Lit.int (ks.getD j .i64) m).wf=true)
    (hr:∀ i j,i<ob.es.length→j<ob.sz→CDR ob.flat w A β γ s.N τ [i * ob.sz+j] ((ob.es.getD i []).getD j .junk) (us i j))
    {kc vs:List D} {x v:Value} {xv:Nat→Value} {fl:Bool} (hx:x=mkV ka ks.length (fun j=>x.cells.getD j undef)) (hkc:kc.length=ks.length) (hkv:∀ j,j<ks.length→kc.getD j .junk=.v (x.cells.getD j undef) ∧ ∃ m,x.cells.getD j undef=.int (ks.getD j .i64) m∧(Lit.int (ks.getD j .i64) m).wf=true)
    (hvl:vs.length=vz) (hv:v=mkV va vz xv) (hvs:∀ j,j<vz→DR w A β s.N (vs.getD j .junk) (xv j)∧(xv j).oneCell'=true) (hfl:fl=true→ob.flat=true∧vs.all D.cl=true) :
    GR G (s.setM τ ⟨ob.sz,ob.es++[kc++vs],fl,false,ob.kd⟩) a (setB w b (.map (ents.push ⟨x,v,ents.size⟩) (ents.size+1))) A β γ:=by
  have he:=(g.hr.objs τ ob hN hM).1
  have how:=(g.hr.objs τ ob hN hM).2.1 h3
  have hrow:∀ r,r<ob.es.length+1→(ob.es++[kc++vs]).getD r []=if r=ob.es.length then kc++vs else ob.es.getD r []:=fun r hr'=>by
    by_cases e:r=ob.es.length
    · rw [if_pos e,e];simp [List.getD]
    · rw [if_neg e];simp [List.getD,List.getElem?_append_left (show r<ob.es.length by omega)]
  have newr:=new_row (w:=w) (A:=A) (β:=β) (γ:=γ) (fl:=fl) (N:=s.N) (τ:=τ) (ix:=[0]) (kc:=kc) (vs:=vs) (xk:=fun j=>x.cells.getD j undef) (xv:=xv) hkc (fun j hj=>⟨(hkv j hj).1,by
    obtain ⟨m,hm,_⟩:=(hkv j hj).2;simp only [hm];rfl⟩) hvs hvl (fun h=>(hfl h).2)
  refine g.resetM (ob':=⟨ob.sz,ob.es++[kc++vs],fl,false,ob.kd⟩) (us':=fun r j=>if r=ob.es.length then (if j<ks.length then x.cells.getD j undef else xv (j - ks.length)) else us r j) hN hM rfl hβ hb rfl (fun _ _ _ h=>by cases h) ?_ (fun r hr' => ?_) (fun _ r j hr' hj => ?_) (fun r j hr' hj => ?_)
  · simp only [List.length_append,List.length_cons,List.length_nil]
    rw [hkd]
    refine ⟨ents.push ⟨x,v,ents.size⟩,by simp,by simp [hsz],by omega,hT.one,fun e=>by rw [hz,hv3 e],fun r e her => ?_⟩
    rw [getD_push] at her
    by_cases hir:r=ents.size
    · rw [if_pos hir] at her
      cases her
      simp only [hir,hsz,if_true]
      refine ⟨trivial,?_,?_,fun j hj => ?_⟩
      · rw [hx]
        refine mkV_ext (fun e=>by rw [hT.one e];omega) fun j hj => ?_
        rw [if_pos hj,← hx]
      · rw [hz,show ks.length+vz - ks.length=vz by omega]
        exact hv.trans (mkV_shift (xk:=fun j=>x.cells.getD j undef) (xv:=xv)).symm
      · rw [if_pos hj];exact (hkv j hj).2
    · rw [if_neg hir] at her
      simp only [if_neg (by omega:¬ r=ob.es.length)]
      exact hent r e her
  · simp only [List.length_append,List.length_cons,List.length_nil] at hr'
    show ((ob.es++[kc++vs]).getD r []).length=ob.sz
    rw [hrow r (by omega)]
    by_cases e:r=ob.es.length
    · rw [if_pos e,List.length_append,hkc,hvl,hz]
    · rw [if_neg e];exact he r (by omega)
  · simp only [List.length_append,List.length_cons,List.length_nil] at hr'
    show (((ob.es++[kc++vs]).getD r []).getD j .junk).isOwn=false
    simp only at hj
    rw [hrow r (by omega)]
    by_cases e:r=ob.es.length
    · rw [if_pos e];exact (newr j (by omega)).1
    · rw [if_neg e];exact how r j (by omega) hj
  · simp only [List.length_append,List.length_cons,List.length_nil] at hr'
    simp only at hj ⊢
    rw [hrow r (by omega)]
    by_cases e:r=ob.es.length
    · rw [if_pos e,if_pos e]
      obtain ⟨_,q1,q2,q3⟩:=newr j (by omega)
      refine ⟨q1,fun hf => ?_,q3⟩
      have:=q2 hf
      have hno:=(newr j (by omega)).1
      exact .cr _ _ _ (this.toCR hno)
    · rw [if_neg e,if_neg e]
      obtain ⟨q1,q2,q3⟩:=hr r j (by omega) hj
      refine ⟨q1,fun hf => ?_,q3⟩
      rcases hf with hf|hf
      · exact q2 (.inl (hfl hf).1)
      · exact q2 (.inr hf)
theorem ef_mup {t kt et : TypeId} {x y z : Operand} {x' y' z' : O} {ks : List IntKind} {ka va : Bool} {vz : Nat} {K : S → Prop} (ho : o.op = .mapUpdate t x y z ∨ o.op = .insert t x y z) (ht : isMapT P t = some (kt, et)) (hk : keyT P kt = some (ks, ka)) (hv : valT P et = some (va, vz))
    (hx:cO x=some x') (hy:cO y=some y') (hz:cO z=some z') (hd:∀ t,o.dst=some t→t<G.nt∧∀ y,¬ G.T t y) (h:kMup s o.dst (s.g x') (s.g y') (s.g z') ks ka va vz K) (g:GR G s a w A β γ):Does false P G a w o K:=by
  have ex:=g.evalO hx
  have ey:=g.evalO hy
  have ez:=g.evalO hz
  have hT:=keyT_spec hk
  obtain ⟨v1,v2,v3⟩:=valT_spec hv
  unfold kMup at h
  split at h
  · next τ hp =>
    rw [hp] at ex
    unfold kM at h
    split at h
    · next ob hM =>
      obtain ⟨⟨h1,h2,h3⟩,h4⟩:=h
      have h1':ob.kd=.map ks ka va:=h1
      obtain ⟨hN,b,ents,us,e1,e2,e3,e4,e5,e6,e7,e8,e9,e10,e11⟩:=map_obj g ex hM h1'
      have how:=(g.hr.objs τ ob hN hM).2.1 h3
      have keyOk:∀ kc,kMupK s o.dst τ ob ks va vz (s.g z') K kc→keyP ks kc:=fun kc hc=>by
        unfold kMupK at hc
        cases va with
        | true =>
          unfold kVc at hc
          simp only at hc
          split at hc
          · exact hc.1.1
          · exact hc.elim
        | false=>exact hc.2.1.1
      obtain ⟨kc,q1,q2,q3,q4⟩:=key_val hT ey h4 keyOk
      obtain ⟨vs,p1,p2,p3,p4⟩:=val_cells (et:=et) v3 ez q1 (fun vs hvs=>⟨hvs.1.2.1,hvs.1.2.2⟩)
      obtain ⟨_,hbr⟩:=p1
      obtain ⟨hxv,hfind⟩:=keys_find hT e5 e6 how e9 e10 e11 q3 q2 q4
      have hrun:=run_mapUpdate (v:=a.eval z) (isMapT_spec ht) e4 hT hxv
      rcases hfind with ⟨f1,f2⟩|⟨i,e,f1,f2,f3,f4,f5,f6⟩
      · refine Does.skip (w':=setB w b (.map (ents.push ⟨a.eval y,a.eval z,ents.size⟩) (ents.size+1))) ?_ (hbr.2 f2) ⟨A,β,γ,GR.put (push_row g hT h1' h2 v3 h3 hN hM e2 e4 e5 e9 e11 q3 q2 q4 p2 p3 p4 (fun h=>by rwa [Bool.and_eq_true] at h)) DR.junk hd⟩
        rcases ho with ho|ho<;>simp [execOp,ho,e1,hrun.1 (f1 w)]
      · have hb0:=e9 i e f2
        have hus:∀ j,j<ks.length→us i j=(a.eval y).cells.getD j undef:=f6
        refine Does.skip (w':=setB w b (.map (ents.modify i fun e=>{ e with key:=a.eval y,val:=a.eval z }) ents.size)) ?_ (hbr.1 i f4 f5) ⟨A,β,γ,GR.put (set_row g hT h1' h2 v3 h3 hN hM e2 e4 e5 e9 e11 f4 (by rw [← f3];exact hb0.2.1) q2 (fun j hj => ?_) p2 p3 p4) DR.junk hd⟩
        · rcases ho with ho|ho<;>simp [execOp,ho,e1,hrun.2 i e _ f2 f3 (f1 w)]
        · rw [(q4 j hj).1,hus j hj];exact ⟨.cl _ _ (.v _),fun _=>.v _⟩
    · exact h.elim
  · exact h.elim
theorem run_mapEntry {t kt et:TypeId} (ht:P.underlying t=some (.map kt et)) {b:Nat} {ents:Array MapEntry} {clk:Nat} (hb:w.heap[b]?=some (.map ents clk)) {x z:Value} {ks:List IntKind} {ka:Bool} (hT:KT P kt ks ka) (hx:KV P kt ks x) (hz:∀ w,(zeroValue et).run P w=.ok z w) :
    ((Instr.findKey kt x ents.toList).run P w=.ok none w→(Instr.mapEntry t (.map (some b)) x).run P w=.ok (.tuple #[z,goInt clk]) (setB w b (.map (ents.push ⟨x,z,clk⟩) (clk+1)))) ∧
    ∀ i e u,ents[i]?=some e→e.key=x→(Instr.findKey kt x ents.toList).run P w=.ok (some (i,u)) w→(Instr.mapEntry t (.map (some b)) x).run P w=.ok (.tuple #[u,goInt e.born]) (setB w b (.map (ents.modify i fun e=>{ e with key:=x }) clk)):=by
  refine ⟨fun hf => ?_,fun i e u he hk hf => ?_⟩
  · unfold Instr.mapEntry
    simp only [Sem.run_bind,und_run ht,Result.andThen_ok,run_getO hb,KV.check hT.hk hT.ht hx,hf,hz,run_setO _ hb,Sem.run_pure]
  · unfold Instr.mapEntry
    simp only [Sem.run_bind,und_run ht,Result.andThen_ok,run_getO hb,KV.check hT.hk hT.ht hx,hf,he,Option.map_some,Option.getD_some,hk,stays_run hx,run_setO _ hb,Sem.run_pure]
theorem setB_self {b:Nat} {ob:Obj} (h:w.heap[b]?=some ob):setB w b ob=w:=by
  have hs:b<w.heap.size:=lt_of_get h
  have:w.heap.setIfInBounds b ob=w.heap:=by
    apply Array.ext
    · simp
    · intro i h1 h2
      rw [Array.getElem_setIfInBounds (by simpa using h1)]
      split
      · next e=>subst e;rw [Array.getElem?_eq_getElem hs] at h;exact (Option.some.inj h).symm
      · rfl
  simp [setB,this]
theorem ef_men {t kt et : TypeId} {x y : Operand} {x' y' : O} {ks : List IntKind} {ka va : Bool} {vz : Nat} {zero : List D} {K : S → Prop} (ho : o.op = .mapEntry t x y) (ht : isMapT P t = some (kt, et)) (hk : keyT P kt = some (ks, ka)) (hv : valT P et = some (va, vz)) (hz : zOf P et = some zero) (hzl : zero.length = vz) (hzs : zShape P et va = true)
    (hx:cO x=some x') (hy:cO y=some y') (hd:∀ t,o.dst=some t→t<G.nt∧∀ y,¬ G.T t y) (h:kMen s o.dst (s.g x') (s.g y') ks ka va vz zero K) (g:GR G s a w A β γ):Does false P G a w o K:=by
  have ex:=g.evalO hx
  have ey:=g.evalO hy
  have hT:=keyT_spec hk
  obtain ⟨v1,v2,v3⟩:=valT_spec hv
  unfold kMen at h
  split at h
  · next τ hp =>
    rw [hp] at ex
    unfold kM at h
    split at h
    · next ob hM =>
      obtain ⟨⟨h1,h2,h3⟩,h4⟩:=h
      have h1':ob.kd=.map ks ka va:=h1
      obtain ⟨hN,b,ents,us,e1,e2,e3,e4,e5,e6,e7,e8,e9,e10,e11⟩:=map_obj g ex hM h1'
      have how:=(g.hr.objs τ ob hN hM).2.1 h3
      obtain ⟨kc,q1,q2,q3,q4⟩:=key_val hT ey h4 (fun kc hc=>hc.1)
      obtain ⟨q5,hbr⟩:=q1
      obtain ⟨hxv,hfind⟩:=keys_find hT e5 e6 how e9 e10 e11 q3 q2 q4
      obtain ⟨zv,z1,z2,z3⟩:=zOf_spec hz
      have hrun:=run_mapEntry (isMapT_spec ht) e4 hT hxv z1
      have hzd:=zero_dr (w:=w) (A:=A) (β:=β) (N:=s.N) v3 hzl hzs z1 z2 z3
      rcases hfind with ⟨f1,f2⟩|⟨i,e,f1,f2,f3,f4,f5,f6⟩
      · obtain ⟨s1,s2⟩:=zShape_spec hzs z1
        have hzm:zv=mkV va vz (fun j=>zv.cells.getD j undef):=by
          cases va with
          | true =>
            obtain ⟨cs,rfl⟩:=s1 rfl
            rw [mkV_t]
            congr 1
            have:cs.size=vz:=by rw [← hzl];simpa [Value.cells] using z2
            refine Array.ext (by simp [this]) fun i h3 h4 => ?_
            simp [Value.cells,h3]
          | false=>rw [mkV_f,cells_one (s2 rfl)];simp
        refine Does.value (v:=.tuple #[zv,goInt ents.size]) (w':=setB w b (.map (ents.push ⟨a.eval y,zv,ents.size⟩) (ents.size+1))) ?_ (hbr.2 f2) ⟨A,β,γ,GR.put (push_row (fl:=ob.flat) (xv:=fun j=>zv.cells.getD j undef) g hT h1' h2 v3 h3 hN hM e2 e4 e5 e9 e11 q3 q2 q4 hzl hzm (fun j hj => ?_) (fun h=>⟨h,?_⟩)) ?_ hd⟩
        · simp [execOp,ho,e1,hrun.1 (f1 w)]
        · have:=z3 w A j (by omega)
          exact ⟨.cl _ _ this.1,dr_one (β:=β) (N:=0) (.cl _ _ this.1) this.2.1⟩
        · rw [List.all_eq_true]
          intro d hd'
          obtain ⟨j,hj,rfl⟩:=List.mem_iff_getElem.1 hd'
          have:=(z3 w A j hj).2.2
          simpa [List.getD,hj] using this
        · have hA:∀ c,A c→(setB w b (.map (ents.push ⟨a.eval y,zv,ents.size⟩) (ents.size+1))).heap[c]?=w.heap[c]?:=fun c hc=>setB_other w b c _ (fun e=>by
            have:=(g.hr.blk hN (by rw [hM];simp) e2).2.1
            exact this (e ▸ hc))
          have hzd':DR (setB w b (.map (ents.push ⟨a.eval y,zv,ents.size⟩) (ents.size+1))) A β s.N (mkvD va zero) zv:=zero_dr v3 hzl hzs z1 z2 z3
          exact dr_tu2 hzd' (.cl _ _ (by rw [← e5];exact .v _))
      · have hb0:=e9 i e f2
        have hsame:setB w b (.map (ents.modify i fun e=>{ e with key:=a.eval y }) ents.size)=w:=by
          refine setB_self ?_
          rw [e4]
          congr 2
          refine Array.ext (by simp) fun j h5 h6 => ?_
          rw [Array.getElem_modify]
          split
          · next hij =>
            subst hij
            have:ents[i]=e:=by rw [Array.getElem?_eq_getElem h5] at f2;exact Option.some.inj f2
            rw [this,← f3]
          · rfl
        have hrow:=row_val (w:=w) (A:=A) (β:=β) (γ:=γ) (fl:=ob.flat) (N:=s.N) (τ:=τ) (i:=i) (us:=us i) (e10 i f4) h2 v3 (fun j hj=>how i j f4 hj) (fun j hj=>e11 i j f4 hj)
        rw [← hb0.2.2.1] at hrow
        refine Does.value (v:=.tuple #[e.val,goInt e.born]) (w':=w) ?_ (hbr.1 i f4 f5) ⟨A,β,γ,GR.put g ?_ hd⟩
        · have:=hrun.2 i e _ f2 f3 (f1 w)
          rw [hsame] at this
          simp [execOp,ho,e1,this]
        · rw [hb0.1]
          exact dr_tu2 hrow (.cl _ _ (.v _))
    · exact h.elim
  · exact h.elim
theorem find_born {ents:Array MapEntry} (h:∀ (i:Nat) (e:MapEntry),ents[i]?=some e→e.born=i) {j:Nat} (hj:j<ents.size):ents.findIdx? (fun e=>(e.born:Int) == (j:Int))=some j:=by
  rw [Array.findIdx?_eq_some_iff_getElem]
  refine ⟨hj,?_,fun i hi => ?_⟩
  · have:=h j ents[j] (by simp [hj])
    simp [this]
  · have:=h i ents[i] (by simp [show i<ents.size by omega])
    simp only [this]
    have:¬ ((i:Int)=(j:Int)):=by omega
    simpa using this
theorem ef_mes {t kt et : TypeId} {x y z : Operand} {x' y' z' : O} {ks : List IntKind} {ka va : Bool} {vz : Nat} {K : S → Prop} (ho : o.op = .entryStore t x y z) (hk : keyT P kt = some (ks, ka)) (hv : valT P et = some (va, vz))
    (hx:cO x=some x') (hy:cO y=some y') (hz:cO z=some z') (hd:∀ t,o.dst=some t→t<G.nt∧∀ y,¬ G.T t y) (h:kMes s o.dst (s.g x') (s.g y') (s.g z') ks ka va vz K) (g:GR G s a w A β γ):Does false P G a w o K:=by
  have ex:=g.evalO hx
  have ey:=g.evalO hy
  have ez:=g.evalO hz
  have hT:=keyT_spec hk
  obtain ⟨v1,v2,v3⟩:=valT_spec hv
  unfold kMes at h
  split at h
  · next τ jj hp hq =>
    rw [hp] at ex
    rw [hq] at ey
    have hy':=dr_v ey
    unfold kM at h
    split at h
    · next ob hM =>
      obtain ⟨⟨h1,h2,h3⟩,h4⟩:=h
      have h1':ob.kd=.map ks ka va:=h1
      obtain ⟨hN,b,ents,us,e1,e2,e3,e4,e5,e6,e7,e8,e9,e10,e11⟩:=map_obj g ex hM h1'
      have how:=(g.hr.objs τ ob hN hM).2.1 h3
      obtain ⟨vs,p1,p2,p3,p4⟩:=val_cells (et:=et) v3 ez h4 (fun vs hvs=>⟨hvs.1.1.2.2,hvs.1.2⟩)
      obtain ⟨⟨⟨j0,j1,_⟩,_⟩,hK⟩:=p1
      have hj:jj.toNat<ents.size:=by omega
      have hj':jj.toNat<ob.es.length:=by omega
      have hb0:=e9 jj.toNat ents[jj.toNat] (by simp [hj])
      have hkeep:(ents.modify jj.toNat fun e=>{ e with key:=ents[jj.toNat].key,val:=a.eval z })=ents.modify jj.toNat fun e=>{ e with val:=a.eval z }:=by
        refine Array.ext (by simp) fun i h5 h6 => ?_
        rw [Array.getElem_modify,Array.getElem_modify]
        split
        · next hij=>subst hij;rfl
        · rfl
      have hsr:=set_row g hT h1' h2 v3 h3 hN hM e2 e4 e5 e9 e11 (i:=jj.toNat) (kc:=(ob.es.getD jj.toNat []).take ks.length) hj' hb0.2.1 (by rw [List.length_take,e10 _ hj'];omega) (fun j hj2 => ?_) p2 p3 p4
      · rw [hkeep] at hsr
        refine Does.skip (w':=setB w b (.map (ents.modify jj.toNat fun e=>{ e with val:=a.eval z }) ents.size)) ?_ hK ⟨A,β,γ,GR.put hsr DR.junk hd⟩
        have hfb:=find_born (fun i e he=>(e9 i e he).1) hj
        rw [show ((jj.toNat:Nat):Int)=jj by omega] at hfb
        simp [execOp,ho,e1,hy',Instr.entryStore,run_getO e4,asInt,asIntOf,hfb,run_setO _ e4]
      · have h6:=e11 jj.toNat j hj' (by omega)
        have h7:((ob.es.getD jj.toNat []).take ks.length).getD j .junk=(ob.es.getD jj.toNat []).getD j .junk:=by simp [List.getD,hj2]
        rw [h7]
        have hno:=how jj.toNat j hj' (by omega)
        exact ⟨h6.1 hno,fun hf=>(h6.2.1 (.inl hf)).toCR hno⟩
    · exact h.elim
  · exact h.elim
theorem isMp_spec {kd:Kd} (h:kd.isMp=true) : ∃ ks ka va,kd=.map ks ka va:=by
  cases kd with
  | map ks ka va=>exact ⟨ks,ka,va,rfl⟩
  | _=>cases h
theorem itr_row0 {σ m:Nat} {l:List Nat}:(itO σ m l).es.getD 0 []=[.mp σ]:=rfl
theorem itr_row1 {σ m:Nat} {l:List Nat}:(itO σ m l).es.getD 1 []=[.v (.int .i64 (m:Int))]:=rfl
theorem itr_row2 {σ m:Nat} {l:List Nat} {k:Nat} (h:k<l.length):(itO σ m l).es.getD (k+2) []=[.v (.int .i64 (l[k]:Int))]:=by
  simp [itO,List.getD,h]
theorem itr_len {σ m:Nat} {l:List Nat}:(itO σ m l).es.length=l.length+2:=by simp [itO]
theorem itr_obj (g:GR G s a w A β γ) {τ σ m:Nat} {l:List Nat} {ob:Ob} {v:Value} (hM:s.M τ=some (itO σ m l)) (hS:s.M σ=some ob) (hk:ob.kd.isMp=true) (hl:ob.es.length=m) (ex:DR w A β s.N (.ptr τ 1 0 0) v) :
    ∃ (r b:Nat) (ents:Array MapEntry),v=.pointer (some ⟨r,0,none⟩)∧τ<s.N∧β τ=some r∧σ<s.N∧β σ=some b∧DR w A β s.N (.mp σ) (.map (some b))∧w.heap[r]?=some (.mapIter (some b) m l.toArray m)∧w.heap[b]?=some (.map ents ents.size)∧ents.size=m∧∀ (i:Nat) (e:MapEntry),ents[i]?=some e→e.born=i:=by
  cases ex with
  | cl d x h=>cases h
  | ptr τ sz i o r hN hb =>
  have h0:=g.hr.objs τ _ hN hM
  rcases h0.2.2 with ⟨h1,_⟩|⟨r',o,us,h1,h2,h3,h4⟩
  · rw [h1] at hb;cases hb
  · rw [hb] at h1;cases h1
    obtain ⟨_,bm,m',seen,rfl,h5,h6,h7,h8⟩:=h3
    rw [itr_len] at h5 h4
    have c0:=(h4 0 0 (by omega) (by show 0<1;omega)).1 (by rw [itr_row0];rfl)
    have c1:=(h4 1 0 (by omega) (by show 0<1;omega)).1 (by rw [itr_row1];rfl)
    rw [itr_row0,h6] at c0
    rw [itr_row1,h7] at c1
    have e1:m'=m:=by
      have:=dr_v c1
      injection this with _ this
      omega
    subst e1
    have e2:seen=l.toArray:=by
      refine Array.ext (by simp;omega) fun k q1 q2 => ?_
      have q3:k<l.length:=by simpa using q2
      have c2:=(h4 (k+2) 0 (by omega) (by show 0<1;omega)).1 (by rw [itr_row2 q3];rfl)
      rw [itr_row2 q3,h8 k q1] at c2
      have:=dr_v c2
      injection this with _ this
      simp;omega
    subst e2
    obtain ⟨ks,ka,va,hkd⟩:=isMp_spec hk
    have c0':DR w A β s.N (.mp σ) (.map (some bm)):=c0
    obtain ⟨hS1,b,ents,us',f1,f2,f3,f4,f5,_,_,_,f9,_⟩:=map_obj g c0' hS hkd
    cases f1
    exact ⟨r,bm,ents,rfl,hN,hb,hS1,f2,c0',h2,f4,f5.trans hl,fun i e he=>(f9 i e he).1⟩
theorem ef_rng {gr : Bool} {t kt et : TypeId} {x : Operand} {x' : O} {K : S → Prop} (ho : o.op = .range t x) (ht : isMapT P t = some (kt, et)) (hx : cO x = some x') (hd : ∀ t, o.dst = some t → t < G.nt ∧ ∀ y, ¬ G.T t y)
    (h:kRng s o.dst K (s.g x')) (g:GR G s a w A β γ):Does gr P G a w o K:=by
  have ex:=g.evalO hx
  unfold kRng at h
  split at h
  · next τ hp =>
    rw [hp] at ex
    unfold kM at h
    split at h
    · next ob hM =>
      obtain ⟨h1,h2⟩:=h
      obtain ⟨ks,ka,va,hkd⟩:=isMp_spec h1
      obtain ⟨hN,b,ents,us,e1,e2,e3,e4,e5,_⟩:=map_obj g ex hM hkd
      refine Does.valueG (fun _=>same_alloc w _) (v:=.pointer (some ⟨w.heap.size,0,none⟩)) (w':=w.alloc (.mapIter (some b) ents.size #[] ents.size)) ?_ h2 ?_
      · simp [execOp,ho,Instr.range,e1,und_run (isMapT_spec ht),run_getO e4]
      · have hal:Below w.heap.size w (w.alloc (.mapIter (some b) ents.size #[] ents.size)):=(Below.refl _ _).alloc (Nat.le_refl _) _
        have hOR:∀ (β':Nat→Option Nat) (γ':Nat→Option (Nat × List Nat)),β' s.N=some w.heap.size→(∀ τ,τ<s.N→β' τ=β τ)→OR (w.alloc (.mapIter (some b) ents.size #[] ents.size)) A β' γ' (s.N+1) (itO τ ob.es.length []) s.N:=by
          intro β' γ' q1 q2
          refine ⟨fun i hi => ?_,fun _ i j hi hj => ?_,.inr ⟨w.heap.size,_,fun i _=>if i=0 then .map (some b) else .int .i64 (ents.size:Int),q1,heap_new _ _,⟨rfl,b,ents.size,#[],rfl,rfl,rfl,rfl,fun k hk=>by simp at hk⟩,fun i j hi hj => ?_⟩⟩
          · rw [itr_len] at hi
            rcases (show i=0∨i=1 by simp at hi;omega) with rfl|rfl<;>rfl
          · rw [itr_len] at hi
            have hj0:j=0:=by have:j<1:=hj;omega
            subst hj0
            rcases (show i=0∨i=1 by simp at hi;omega) with rfl|rfl<;>rfl
          · rw [itr_len] at hi
            have hj0:j=0:=by have:j<1:=hj;omega
            subst hj0
            rcases (show i=0∨i=1 by simp at hi;omega) with rfl|rfl
            · rw [itr_row0]
              refine ⟨fun _ => ?_,fun hf=>(by rcases hf with hf|hf<;>cases hf),rfl⟩
              exact .mp τ b (by omega) (by rw [q2 τ hN];exact e2)
            · rw [itr_row1,← e5]
              exact ⟨fun _=>.cl _ _ (.v _),fun hf=>(by rcases hf with hf|hf<;>cases hf),rfl⟩
        obtain ⟨β',γ',g2,q1,q2⟩:=g.newO hal (x:=some w.heap.size) (ob:=itO τ ob.es.length []) hOR
          (fun c e=>by cases e;exact ⟨Nat.le_refl _,by show w.heap.size<(w.heap.push _).size;rw [Array.size_push];omega⟩)
        exact ⟨A,β',γ',g2.put (.ptr s.N 1 0 0 w.heap.size (Nat.lt_succ_self _) q1) hd⟩
    · exact h.elim
  · exact h.elim
theorem Below.drew (w:World):Below w.heap.size w w.drew:=⟨rfl,rfl,rfl,Nat.le_refl _,fun _ _=>rfl⟩
theorem ef_nxt {x : Operand} {x' : O} {K : S → Prop} (ho : o.op = .next x false) (hx : cO x = some x') (hd : ∀ t, o.dst = some t → t < G.nt ∧ ∀ y, ¬ G.T t y)
    (h:NxtVC o.dst K s (s.g x')) (g:GR G s a w A β γ):Does false P G a w o K:=by
  have ex:=g.evalO hx
  generalize hp:s.g x'=d0 at h ex
  cases h with
  | mk τ σ m l ob h1 h2 h3 h4 h5 h6 =>
  obtain ⟨r,b,ents,e1,hN,hβ,hS,hβ2,edr,hr,hb,hsz,hborn⟩:=itr_obj g h1 h2 h3 h4 ex
  have hold:∀ y ∈ ents.toList,y.born<m:=fun y hy=>by
    obtain ⟨i,hi⟩:=List.mem_iff_getElem?.1 hy
    have hi':ents[i]?=some y:=by simpa using hi
    have:=hborn i y hi'
    have:=(Array.getElem?_eq_some_iff.1 hi').1
    omega
  have hmem:∀ {i:Nat} {y:MapEntry},ents[i]?=some y→((l.toArray.contains y.born)=true ↔ i ∈ l):=fun {i y} hy=>by
    rw [hborn i y hy];simp
  rcases run_next_at (P:=P) w o.type r b m m l.toArray ents ents.size hr hb hold (Nat.le_refl _) with ⟨q1,q2⟩|⟨e,q1,w1,q2,q3⟩
  · have hk:=h5 fun i hi=>by
      rcases Classical.em (i ∈ l) with c|c
      · exact c
      · exfalso
        have hi':i<ents.size:=by omega
        have hy:ents[i]?=some ents[i]:=Array.getElem?_eq_getElem hi'
        have:ents[i] ∈ leftOf ents l.toArray:=by
          unfold leftOf
          rw [Array.mem_filter]
          refine ⟨Array.getElem_mem hi',?_⟩
          cases hc:l.toArray.contains ents[i].born with
          | false=>rfl
          | true=>exact absurd ((hmem hy).1 hc) c
        have hs:=Array.size_pos_of_mem this
        omega
    have hdr:DR w A β s.N (.tu [.v (.bool false)]) (.tuple #[.bool false]):=.tu _ _ rfl fun i hi=>by
      match i,hi with
      | 0,_=>exact .cl _ _ (.v _)
    refine Does.value (v:=.tuple #[.bool false]) (w':=w) ?_ hk ⟨A,β,γ,g.put hdr hd⟩
    simp [execOp,ho,e1,q2]
  · have hei : ∃ i, ents[i]? = some e ∧ i ∉ l := by
      unfold leftOf at q1
      rw [Array.mem_toList_iff,Array.mem_filter] at q1
      obtain ⟨i,hi⟩:=List.mem_iff_getElem?.1 (Array.mem_toList_iff.2 q1.1)
      have hy:ents[i]?=some e:=by simpa using hi
      refine ⟨i,hy,fun c => ?_⟩
      have:=(hmem hy).2 c
      rw [this] at q1
      exact absurd q1.2 (by simp)
    obtain ⟨i,hy,hil⟩:=hei
    have him:i<m:=by have:=(Array.getElem?_eq_some_iff.1 hy).1;omega
    have hk:=h6 i him hil
    have g1:GR G s a w1 A β γ:=by
      rcases q2 with rfl|rfl
      · exact g
      · exact g.world (Below.drew w)
    have hr1:w1.heap[r]?=some (.mapIter (some b) m l.toArray m):=by rcases q2 with rfl|rfl<;>exact hr
    have h0:=g1.hr.objs τ _ hN h1
    have g2:=g1.resetM (ob':=itO σ m (l++[i])) (us':=fun k _=>if k=0 then .map (some b) else if k=1 then .int .i64 (m:Int) else .int .i64 ((l++[i]).getD (k - 2) 0:Int)) (o':=.mapIter (some b) m (l.toArray.push i) m) hN h1 rfl hβ hr1 rfl (fun _ _ _ h=>by cases h)
      ⟨rfl,b,m,l.toArray.push i,rfl,by rw [itr_len];simp,rfl,rfl,fun k hk=>by
        simp [Array.getElem_push,List.getD,List.getElem?_append]
        split
        · next h=>simp [h]
        · next h => simp at hk; have : k = l.length := by omega
                    subst this;simp⟩
      (fun k hk => ?_) (fun _ k j hk hj => ?_) (fun k j hk hj => ?_)
    · have hdr:DR (setB w1 r (.mapIter (some b) m (l.toArray.push i) m)) A β s.N (.tu [.v (.bool true),.junk,.junk]) (.tuple #[.bool true,e.key,e.val]):=.tu _ _ rfl fun i hi=>by
        match i,hi with
        | 0,_=>exact .cl _ _ (.v _)
        | 1,_=>exact .cl _ _ (.junk _)
        | 2,_=>exact .cl _ _ (.junk _)
      refine Does.value (v:=.tuple #[.bool true,e.key,e.val]) (w':=setB w1 r (.mapIter (some b) m (l.toArray.push i) m)) ?_ hk ⟨A,β,γ,g2.put hdr hd⟩
      rw [hsz,hborn i e hy] at q3
      simp [execOp,ho,e1,q3];rfl
    · rw [itr_len] at hk
      match k,hk with
      | 0,_=>rfl
      | 1,_=>rfl
      | k+2,hk=>rw [itr_row2 (by simpa using hk)];rfl
    · have hj0:j=0:=by have:j<1:=hj;omega
      subst hj0
      rw [itr_len] at hk
      match k,hk with
      | 0,_=>rfl
      | 1,_=>rfl
      | k+2,hk=>rw [itr_row2 (by simpa using hk)];rfl
    · have hj0:j=0:=by have:j<1:=hj;omega
      subst hj0
      rw [itr_len] at hk
      match k,hk with
      | 0,_=>rw [itr_row0];exact ⟨fun _=>.mp σ b hS hβ2,fun hf=>(by rcases hf with hf|hf<;>cases hf),rfl⟩
      | 1,_=>rw [itr_row1];exact ⟨fun _=>.cl _ _ (.v _),fun hf=>(by rcases hf with hf|hf<;>cases hf),rfl⟩
      | k+2,hk =>
        have hk':k<(l++[i]).length:=by simpa using hk
        rw [itr_row2 hk']
        have:(l++[i]).getD (k+2 - 2) 0=(l++[i])[k]:=by simp [List.getD,List.getElem?_eq_getElem hk']
        refine ⟨fun _ => ?_,fun hf=>(by rcases hf with hf|hf<;>cases hf),rfl⟩
        simp only [this]
        exact .cl _ _ (.v _)
theorem ef_ent {gr:Bool} {x:Operand} {x':O} {K:S→Prop} (ho:o.op=.entry x) (hx:cO x=some x') (hd:∀ t,o.dst=some t→t<G.nt∧∀ y,¬ G.T t y)
    (h:EntVC o.dst K s (s.g x')) (g:GR G s a w A β γ):Does gr P G a w o K:=by
  have ex:=g.evalO hx
  generalize hp:s.g x'=d0 at h ex
  cases h with
  | mk τ σ m i l ob ks ka va h1 h2 h3 h4 h5 h6 hk =>
  obtain ⟨r,b,ents,e1,hN,hβ,hS,hβ2,edr,hr,hb,hsz,hborn⟩:=itr_obj g h1 h2 (by rw [h3];rfl) h4 ex
  obtain ⟨_,b',ents',us,f1,f2,f3,f4,f5,f6,f7,f8,f9,f10,f11⟩:=map_obj g edr h2 h3
  cases f1
  rw [hb] at f4;cases f4
  have how:=(g.hr.objs σ ob hS h2).2.1 h6
  have hi:i<ents.size:=by omega
  have hi2:i<ob.es.length:=by omega
  have hy:ents[i]?=some ents[i]:=Array.getElem?_eq_getElem hi
  obtain ⟨g1,g2,g3,g4⟩:=f9 i _ hy
  have hval:=row_val (w:=w) (A:=A) (β:=β) (γ:=γ) (fl:=ob.flat) (N:=s.N) (τ:=σ) (i:=i) (us:=us i) (vz:=ob.sz - ks.length) (va:=va) (n:=ks.length) (sz:=ob.sz) (row:=ob.es.getD i []) (f10 i hi2) (by omega) (fun e=>by have:=f8 e;omega) (fun j hj=>how i j hi2 hj) (fun j hj=>f11 i j hi2 hj)
  have hkey:DR w A β s.N (mkvD ka ((ob.es.getD i []).take ks.length)) (mkV ka ks.length (us i)):=by
    have cell:∀ j,j<ks.length→DR w A β s.N (((ob.es.getD i []).take ks.length).getD j .junk) (us i j):=fun j hj=>by
      have:=(f11 i j hi2 (by omega)).1 (how i j hi2 (by omega))
      simpa [List.getD,hj] using this
    cases ka with
    | true =>
      rw [mkvD_t,mkV_t]
      refine .ag _ _ (by rw [List.length_take,f10 i hi2];simp;omega) fun j hj => ?_
      have hj':j<ks.length:=by rw [List.length_take] at hj;omega
      have:=cell j hj'
      simpa [hj'] using this
    | false=>rw [mkvD_f,mkV_f];exact cell 0 (by rw [f7 rfl];omega)
  rw [← g2] at hkey
  rw [← g3] at hval
  have hnd:(ents.toList.map (·.born)).Nodup:=by
    refine List.pairwise_iff_getElem.2 fun p q hp hq hpq => ?_
    rw [List.length_map,Array.length_toList] at hp hq
    simp only [List.getElem_map,Array.getElem_toList]
    rw [hborn p _ (Array.getElem?_eq_getElem hp),hborn q _ (Array.getElem?_eq_getElem hq)]
    omega
  have hrun:=run_entry_at (P:=P) w r b m l.toArray ents ents.size ents[i] (by rw [hr,g1];simp [hsz]) hb (by simp) hnd
  refine Does.valueG (fun _=>Same.refl w) (v:=.tuple #[ents[i].key,ents[i].val]) (w':=w) ?_ hk ⟨A,β,γ,g.put (dr_tu2 hkey hval) hd⟩
  simp [execOp,ho,e1,hrun]
end
end Go.Dm
