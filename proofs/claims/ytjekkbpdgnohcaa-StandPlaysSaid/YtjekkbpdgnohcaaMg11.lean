/-
 Texts of this claim, one behind another.
-/
import Derived.ProofKit
import Derived.Test.YtjekkbpdgnohcaaDmD
import Derived.Test.YtjekkbpdgnohcaaProg
import Derived.KernelRfl
import Derived.Test.YtjekkbpdgnohcaaRows
import Derived.SizedLaws
set_option linter.unusedSimpArgs false
set_option linter.unnecessarySimpa false
set_option linter.unusedVariables false
set_option linter.defProp false
namespace Go.Dm
open Go.ChangeShapes Go.WideShapes Go.ChangeAt Go.RowKit
def old (w:World):Nat→Prop:=fun b=>b<w.heap.size
structure Opens (P:Program) (t:TypeId) {α:Type} (sz:Nat) (f:α→List D) (ok:α→Prop):Prop where
  size:P.cellsOf t=sz
  len:∀ a,(f a).length=sz
  opn:∀ {H:Type} (enc:TypeId × Value→H) (w:World) (spare:Nat→Bool) (held:Bool) (fuel:Nat) (cs:List Value) (x:DataW H × List MemPlace),DataW.trod enc P w 0 spare held fuel t cs=some x →
    ∃ a,ok a∧cs.length=sz∧∀ j,j<sz→CR w (old w) ((f a).getD j .junk) (cs.getD j undef)∧(cs.getD j undef).oneCell'=true
section
variable {P:Program}
theorem Opens.int {t:TypeId} {k:IntKind} (ht:P.underlying t=some (.int k)) (hc:P.cellsOf t=1):Opens P t 1 (fun n:Int=>[.v (.int k n)]) (fun n=>(Lit.int k n).wf=true) where
  size:=hc
  len _:=rfl
  opn enc w spare held fuel cs x h:=by
    obtain ⟨n,rfl,_,hw⟩:=DataW.trod_int ht h
    refine ⟨n,hw,rfl,fun j hj => ?_⟩
    have:j=0:=by omega
    subst this
    exact ⟨.v _,rfl⟩
theorem Opens.bool {t:TypeId} (ht:P.underlying t=some .bool) (hc:P.cellsOf t=1):Opens P t 1 (fun n:Bool=>[.v (.bool n)]) (fun _=>True) where
  size:=hc
  len _:=rfl
  opn enc w spare held fuel cs x h:=by
    obtain ⟨n,rfl,_⟩:=DataW.trod_bool ht h
    refine ⟨n,trivial,rfl,fun j hj => ?_⟩
    have:j=0:=by omega
    subst this
    exact ⟨.v _,rfl⟩
theorem Opens.map {t:TypeId} {α β:Type} {sz:Nat} {f:α→List D} {ok:α→Prop} {g:β→List D} {ok':β→Prop} (h:Opens P t sz f ok) (hl:∀ b,(g b).length=sz) (hm:∀ a,ok a → ∃ b,ok' b∧g b=f a):Opens P t sz g ok' where
  size:=h.size
  len:=hl
  opn enc w spare held fuel cs x hx:=by
    obtain ⟨a,ha,h1,h2⟩:=h.opn enc w spare held fuel cs x hx
    obtain ⟨b,hb,e⟩:=hm a ha
    exact ⟨b,hb,h1,by rw [e];exact h2⟩
theorem Opens.u8 {t:TypeId} (ht:P.underlying t=some (.int .u8)) (hc:P.cellsOf t=1):Opens P t 1 (fun n:UInt8=>[.v (.int .u8 (n.toNat:Int))]) (fun _=>True) :=
  (Opens.int ht hc).map (fun _=>rfl) fun n hn=>by
    have h:0≤n∧n≤255:=by
      simp only [Lit.wf,Bool.and_eq_true,decide_eq_true_eq] at hn
      exact hn
    refine ⟨UInt8.ofNat n.toNat,trivial,?_⟩
    have e:((UInt8.ofNat n.toNat).toNat:Int)=n:=by
      rw [UInt8.toNat_ofNat']
      omega
    rw [e]
theorem Opens.i64 {t:TypeId} (ht:P.underlying t=some (.int .i64)) (hc:P.cellsOf t=1):Opens P t 1 (fun n:Int=>[.v (.int .i64 n)]) (fun n => -9223372036854775808≤n∧n≤9223372036854775807) :=
  (Opens.int ht hc).map (fun _=>rfl) fun n hn=>by
    simp only [Lit.wf,Bool.and_eq_true,decide_eq_true_eq] at hn
    exact ⟨n,hn,rfl⟩
inductive OpensFs (P:Program):List Field→Nat→(α:Type)→(α→List D)→(α→Prop)→Prop
  | nil (off:Nat):OpensFs P [] off Unit (fun _=>[]) (fun _=>True)
  | cons {f:Field} {fs:List Field} {off sz:Nat} {α β:Type} {g:α→List D} {ok:α→Prop} {g':β→List D} {ok':β→Prop} (hoff:f.offset=off) (h:Opens P f.type sz g ok) (t:OpensFs P fs (off+sz) β g' ok') :
      OpensFs P (f::fs) off (α × β) (fun x=>g x.1++g' x.2) (fun x=>ok x.1∧ok' x.2)
theorem OpensFs.opn {H : Type} {enc : TypeId × Value → H} {w : World} {spare : Nat → Bool} {held : Bool} {fuel : Nat} {cs : List Value} {fs : List Field} {off : Nat} {α : Type} {f : α → List D} {ok : α → Prop} (h : OpensFs P fs off α f ok) :
    (∀ f,f ∈ fs → ∃ y,DataW.trod enc P w 0 spare held fuel f.type ((cs.drop f.offset).take (P.cellsOf f.type))=some y) →
      ∃ a,ok a∧(0<(f a).length→off+(f a).length≤cs.length)∧∀ j,j<(f a).length→CR w (old w) ((f a).getD j .junk) (cs.getD (off+j) undef)∧(cs.getD (off+j) undef).oneCell'=true:=by
  induction h with
  | nil off=>intro _;exact ⟨(),trivial,fun h=>by simp at h,fun j hj=>by simp at hj⟩
  | cons hoff h t ih =>
    rename_i f fs off sz α β g ok g' ok'
    intro hx
    obtain ⟨y,hy⟩:=hx f (by simp)
    obtain ⟨b,hb,hl,hr⟩:=ih (fun f hf=>hx f (by simp [hf]))
    rw [h.size,hoff] at hy
    obtain ⟨a,ha,hcl,hca⟩:=h.opn enc w spare held fuel _ _ hy
    have hga:(g a).length=sz:=h.len a
    have hle:off+sz≤cs.length∨sz=0:=by
      rw [List.length_take,List.length_drop] at hcl
      omega
    have get:∀ j,j<sz→((cs.drop off).take sz).getD j undef=cs.getD (off+j) undef:=by
      intro j hj
      simp only [List.getD_eq_getElem?_getD,List.getElem?_take,hj,if_true,List.getElem?_drop]
    refine ⟨(a,b),⟨ha,hb⟩,fun hpos => ?_,fun j hj => ?_⟩
    · simp only [List.length_append,hga] at hpos ⊢
      by_cases h0:0<(g' b).length
      · have:=hl h0;omega
      · rcases hle with h|h<;>omega
    · simp only [List.length_append,hga] at hj
      simp only
      by_cases hlt:j<sz
      · have e1:(g a++g' b).getD j .junk=(g a).getD j .junk:=by simp only [List.getD_eq_getElem?_getD];rw [List.getElem?_append_left (by omega)]
        have:=hca j hlt
        rw [get j hlt] at this
        rw [e1];exact this
      · have e1:(g a++g' b).getD j .junk=(g' b).getD (j - sz) .junk:=by simp only [List.getD_eq_getElem?_getD];rw [List.getElem?_append_right (by omega),hga]
        have:=hr (j - sz) (by omega)
        rw [show off+sz+(j - sz)=off+j by omega] at this
        rw [e1];exact this
theorem OpensFs.len {fs:List Field} {off:Nat} {α:Type} {f:α→List D} {ok:α→Prop} (h:OpensFs P fs off α f ok) : ∃ n,∀ a,(f a).length=n:=by
  induction h with
  | nil off=>exact ⟨0,fun _=>rfl⟩
  | cons hoff h t ih =>
    obtain ⟨n,hn⟩:=ih
    exact ⟨_,fun a=>by rw [List.length_append,h.len,hn]⟩
theorem Opens.struct {t : TypeId} {fs : Array Field} {α : Type} {sz : Nat} {f : α → List D} {ok : α → Prop} (ht : P.underlying t = some (.struct fs)) (hc : P.cellsOf t = sz) (h : OpensFs P fs.toList 0 α f ok) (hl : ∀ a, (f a).length = sz) : Opens P t sz f ok where
  size:=hc
  len:=hl
  opn enc w spare held fuel cs x hx := by
    obtain ⟨xs,n,rfl,_,hcl,hxl,hf⟩:=DataW.trod_struct ht hx
    rw [hc] at hcl
    obtain ⟨a,ha,_,hr⟩:=h.opn (enc:=enc) (w:=w) (spare:=spare) (held:=held) (fuel:=n) (cs:=cs) (fun f hf'=>by
      obtain ⟨i,hi⟩:=List.getElem?_of_mem hf'
      have h1:=hf i f (by simpa using hi)
      have h2:i<xs.length:=by
        have:=(List.getElem?_eq_some_iff.1 hi).1
        simp at this;omega
      rw [List.getElem?_eq_getElem h2] at h1
      exact ⟨_,h1⟩)
    refine ⟨a,ha,hcl,fun j hj => ?_⟩
    have:=hr j (by rw [hl];exact hj)
    rwa [Nat.zero_add] at this
theorem Opens.u32 {t:TypeId} (ht:P.underlying t=some (.int .u32)) (hc:P.cellsOf t=1):Opens P t 1 (fun n:Int=>[.v (.int .u32 n)]) (fun n=>0≤n∧n≤4294967295) :=
  (Opens.int ht hc).map (fun _=>rfl) fun n hn=>by
    simp only [Lit.wf,Bool.and_eq_true,decide_eq_true_eq] at hn
    exact ⟨n,hn,rfl⟩
theorem choose_list {α : Type} (p : Nat → α → Prop) : ∀ n : Nat, (∀ i, i < n → ∃ a, p i a) → ∃ l : List α, l.length = n ∧ ∀ i a, l[i]? = some a → p i a
  | 0,_=>⟨[],rfl,fun i a h=>by simp at h⟩
  | n + 1, h => by
    obtain ⟨l,hl,hp⟩:=choose_list p n (fun i hi=>h i (by omega))
    obtain ⟨a,ha⟩:=h n (by omega)
    refine ⟨l++[a],by simp [hl],fun i b hb => ?_⟩
    by_cases hi:i<n
    · rw [List.getElem?_append_left (by omega)] at hb
      exact hp i b hb
    · rw [List.getElem?_append_right (by omega)] at hb
      have:i=n:=by
        have:=(List.getElem?_eq_some_iff.1 hb).1
        simp at this
        omega
      subst this
      simp [hl] at hb
      exact hb ▸ ha
theorem cell_lt {w:World} {b off:Nat} {v:Value} (h:w.cell? ⟨b,off,none⟩=some v):b<w.heap.size:=by
  by_cases hb:b<w.heap.size
  · exact hb
  · have:w.heap[b]?=none:=by simp;omega
    simp [World.cell?,this] at h
theorem Opens.slice {t e : TypeId} {α : Type} {sz : Nat} {f : α → List D} {ok : α → Prop} (ht : P.underlying t = some (.slice e)) (hc : P.cellsOf t = 1) (h : Opens P e sz f ok) (hz : 0 < sz) :
    Opens P t 1 (fun l:List α=>[.sl sz (l.map f)]) (fun l=>l.length≤maxLen∧∀ a,a ∈ l→ok a) where
  size:=hc
  len _:=rfl
  opn enc w spare held fuel cs x hx := by
    rcases DataW.trod_slice ht hx with ⟨rfl,_⟩|⟨a,len,cap,elems,rest,n,_,rfl,_,_,hl,hm,hlen,hel,_,_⟩
    · refine ⟨[],⟨Nat.zero_le _,by simp⟩,rfl,fun j hj => ?_⟩
      have:j=0:=by omega
      subst this
      exact ⟨.sl0 sz none 0,rfl⟩
    · have each:∀ i,i<len → ∃ y:α,ok y ∧ ∃ cs:List Value,cs.length=sz∧(∀ j,j<sz→w.cell? ((a.add (i * sz)).add j)=cs[j]?)∧∀ j,j<sz→CR w (old w) ((f y).getD j .junk) (cs.getD j undef)∧(cs.getD j undef).oneCell'=true:=by
        intro i hi
        have h1:=hel i hi
        rw [h.size,List.getElem?_eq_getElem (by omega),Option.bind_eq_some_iff] at h1
        obtain ⟨cs,hcs,htr⟩:=h1
        obtain ⟨_,hcl,hcc⟩:=World.cells?_some hcs
        obtain ⟨y,hy,hl1,hr⟩:=h.opn enc w spare held n cs _ htr
        exact ⟨y,hy,cs,hl1,hcc,hr⟩
      obtain ⟨l,hll,hp⟩:=choose_list (fun i y=>ok y ∧ ∃ cs:List Value,cs.length=sz∧(∀ j,j<sz→w.cell? ((a.add (i * sz)).add j)=cs[j]?)∧∀ j,j<sz→CR w (old w) ((f y).getD j .junk) (cs.getD j undef)∧(cs.getD j undef).oneCell'=true) len each
      refine ⟨l,⟨by omega,fun y hy => ?_⟩,rfl,fun j hj => ?_⟩
      · obtain ⟨i,hi⟩:=List.getElem?_of_mem hy
        exact (hp i y hi).1
      · have:j=0:=by omega
        subst this
        refine ⟨?_,rfl⟩
        show CR w (old w) (.sl sz (l.map f)) (.slice (some a) len cap)
        by_cases h0:len=0
        · have:l=[]:=List.eq_nil_of_length_eq_zero (by omega)
          subst this
          subst h0
          exact .sl0 sz _ _
        · have sp:a.spot=none:=by
            obtain ⟨_,cs,hcl,hcc,_⟩:=hp 0 (l[0]'(by omega)) (List.getElem?_eq_getElem (by omega))
            have h1:=hcc 0 hz
            rw [List.getElem?_eq_getElem (by omega)] at h1
            have:=World.cell?_spot h1
            simpa [Addr.add] using this
          obtain ⟨b,off,spot⟩:=a
          simp only at sp
          subst sp
          simp only [add_plain] at hp
          have key:∀ i,i<l.length → ∃ cs:List Value,ok (l.getD i (l[0]'(by omega)))∧cs.length=sz∧(∀ j,j<sz→w.cell? ⟨b,off+i * sz+j,none⟩=cs[j]?)∧∀ j,j<sz→CR w (old w) ((f (l.getD i (l[0]'(by omega)))).getD j .junk) (cs.getD j undef)∧(cs.getD j undef).oneCell'=true:=by
            intro i hi
            have e1:l.getD i (l[0]'(by omega))=l[i]:=by simp [List.getD,hi]
            rw [e1]
            obtain ⟨h1,cs,h2,h3,h4⟩:=hp i l[i] (List.getElem?_eq_getElem hi)
            exact ⟨cs,h1,h2,h3,h4⟩
          have row:∀ i,i<l.length→(l.map f).getD i []=f (l.getD i (l[0]'(by omega))):=by
            intro i hi
            simp [List.getD,hi]
          have cell:∀ i j,i<l.length→j<sz → ∃ u,w.cell? ⟨b,off+(i * sz+j),none⟩=some u∧u.oneCell'=true∧CR w (old w) (((l.map f).getD i []).getD j .junk) u:=by
            intro i j hi hj
            obtain ⟨cs,_,h2,h3,h4⟩:=key i hi
            refine ⟨cs.getD j undef,?_,(h4 j hj).2,by rw [row i hi];exact (h4 j hj).1⟩
            rw [← Nat.add_assoc,h3 j hj]
            simp [List.getD,h2,hj]
          refine .sl sz (l.map f) b off len cap (fun i j=>(w.cell? ⟨b,off+(i * sz+j),none⟩).getD undef) ?_ (by simp [hll]) hl ?_ ?_ ?_
          · obtain ⟨u,hu,_⟩:=cell 0 0 (by omega) hz
            exact cell_lt hu
          · intro i hi
            rw [row i (by simpa using hi)]
            exact h.len _
          · intro i j hi hj
            obtain ⟨u,hu,h1,_⟩:=cell i j (by simpa using hi) hj
            rw [hu]
            exact ⟨rfl,h1⟩
          · intro i j hi hj
            obtain ⟨u,hu,_,h2⟩:=cell i j (by simpa using hi) hj
            simp only [hu]
            exact h2
variable {H:Type} {enc:TypeId × Value→H} {w:World} {spare:Nat→Bool} {held:Bool}
theorem cells_self {v:Value} (h:v.oneCell'=true):v.cells.toList=[v]:=by
  cases v<;>first|rfl|cases h
theorem Opens.val {t:TypeId} {α:Type} {f:α→List D} {ok:α→Prop} (h:Opens P t 1 f ok) {v:Value} (hv:v.oneCell'=true) {d:DataW H} {ps:List MemPlace} (hd:DataW.Trod enc P w 0 spare held t v d ps) :
    ∃ a,ok a∧CR w (old w) ((f a).getD 0 .junk) v:=by
  obtain ⟨fuel,hf⟩:=hd
  rw [cells_self hv] at hf
  obtain ⟨a,ha,_,hr⟩:=h.opn enc w spare held fuel _ _ hf
  exact ⟨a,ha,(hr 0 (by omega)).1⟩
theorem Opens.arg_slice {t e:TypeId} {α:Type} {f:α→List D} {ok:α→Prop} (h:Opens P t 1 f ok) (ht:P.underlying t=some (.slice e)) {r:Reach} {b0:Nat} {v:Value} (hval:Value.okWide P w r b0 t v) {d:DataW H} {ps:List MemPlace} (hd:DataW.Trod enc P w 0 spare held t v d ps) :
    ∃ a,ok a∧CR w (old w) ((f a).getD 0 .junk) v:=by
  obtain ⟨a,len,cap,rfl⟩:=okWide_slice ht hval
  exact h.val rfl hd
theorem Opens.arg_int {t:TypeId} {k:IntKind} {α:Type} {f:α→List D} {ok:α→Prop} (h:Opens P t 1 f ok) (ht:P.underlying t=some (.int k)) {r:Reach} {b0:Nat} {v:Value} (hval:Value.okWide P w r b0 t v) {d:DataW H} {ps:List MemPlace} (hd:DataW.Trod enc P w 0 spare held t v d ps) :
    ∃ a,ok a∧CR w (old w) ((f a).getD 0 .junk) v:=by
  obtain ⟨_,rfl,_⟩:=open_int ht hval hd
  exact h.val rfl hd
theorem trodAll_stays (hl:laidOutB P=true) {W W':World} (hb:Below W.heap.size W W'):∀ {ts:List TypeId} {vs:List Value} {ds:List (DataW H)} {ps:List MemPlace},(∀ t,t ∈ ts→P.readableRec t=true∧t<P.types.size) →
    DataW.TrodAll enc P W 0 (fun _=>true) true ts vs ds ps→(∀ p,p ∈ ps→p.block<W.heap.size)→DataW.TrodAll enc P W' 0 (fun b=>decide (b<W.heap.size)) true ts vs ds ps
  | [],_,_,_,_,h,_=>by
    obtain ⟨rfl,rfl,rfl⟩:=trodAll_nil h
    exact trodAll_mk0
  | t::ts,_,_,_,hr,h,hlt=>by
    obtain ⟨v,vs1,d,ds1,a,b,rfl,rfl,rfl,h1,h2⟩:=trodAll_cons h
    exact ⟨a,b,Below.trod hl (hr t (by simp)).1 (hr t (by simp)).2 h1 hb (fun x hx=>hlt x (by simp [hx])),trodAll_stays hl hb (fun t ht=>hr t (by simp [ht])) h2 (fun x hx=>hlt x (by simp [hx])),rfl⟩
theorem row_of_spec (hl:laidOutB P=true) {f:Func} {fid:FuncId} {s:ChangeSpec} {args:Array Value} {ds gs:List (DataW H)} {before:List MemPlace} {W:World} {tb:TypeId} {dd:List D}
    (hvars:s.vars=[]) (hrt:f.resultTypes = #[tb]) (htb:P.underlying tb=some .bool)
    (hr:f.params.toList.all (fun t=>P.readableRec t && decide (t<P.types.size))=true)
    (hfn:s.fn H (ds++gs)={ results:=[.lit (.bool true)],args:=ds })
    (hW:DataW.Whole enc P f.params.toList s.vars false W args.toList ds gs before)
    (hn:args.size=dd.length) (hcr:∀ i,i<dd.length→CR W (old W) (dd.getD i .junk) (args.getD i undef))
    (hs:Spec P fid dd (·=.v (.bool true))) :
    Calls P fid args W fun e W' => ∃ v,e=.returned v∧s.post enc P f false true false false W args v W':=by
  refine (hs.2 W (old W) args (fun _ h=>h) hn hcr).mono ?_
  rintro e W' ⟨x,d,rfl,rfl,hb,hx⟩
  cases hx
  refine ⟨_,rfl,?_⟩
  have hW':=hW
  obtain ⟨p,q,hA,hV,rfl,_,_⟩:=hW
  rw [hvars] at hV
  obtain ⟨rfl,rfl⟩:=trodVars_none hV
  have hlt:∀ x,x ∈ p→x.block<W.heap.size:=fun x hx=>hW'.lt x (by simp [hx])
  have hr':∀ t,t ∈ f.params.toList→P.readableRec t=true∧t<P.types.size:=fun t ht=>by
    have:=List.all_eq_true.1 hr t ht
    simpa using this
  refine ⟨_,_,_,[],p,[],hW',?_,?_,?_,?_,fun h=>by cases h⟩
  · rw [hfn,hrt]
    exact trodAll_mk1 (shut_bool htb true)
  · rw [hfn]
    exact trodAll_stays hl hb hr' hA hlt
  · rw [hfn,hvars]
    rfl
  · exact hb.frame _
end
end Go.Dm

namespace Go.Dm
def tbl {α:Type} (f:α→List D) (l:List α):List (List D):=l.map f
theorem tbl_len {α:Type} {f:α→List D} {l:List α}:(tbl f l).length=l.length:=by simp [tbl]
theorem tbl_get {α:Type} [Inhabited α] {f:α→List D} {l:List α} {i:Nat} (h:i<l.length):(tbl f l).getD i []=f (l.getD i default):=map_getD _ l i [] default h
theorem tbl_app {α:Type} {f:α→List D} {l:List α} {x:α}:tbl f (l++[x])=tbl f l++[f x]:=by simp [tbl]
theorem tbl_take {α:Type} {f:α→List D} {l:List α} {n:Nat}:(tbl f l).take n=tbl f (l.take n):=by simp [tbl,List.map_take]
theorem tbl_drop {α:Type} {f:α→List D} {l:List α} {n:Nat}:(tbl f l).drop n=tbl f (l.drop n):=by simp [tbl,List.map_drop]
theorem tbl_set {α:Type} {f:α→List D} {l:List α} {i:Nat} {x:α}:(tbl f l).set i (f x)=tbl f (l.set i x):=by simp [tbl,List.map_set]
theorem tbl_nil {α:Type} {f:α→List D}:tbl f []=[]:=(rfl)
theorem rows_take {α:Type} {f:α→List (List D)} {l:List α} {n:Nat}:(rows f l).take n=rows f (l.take n):=by simp [rows,List.map_take]
theorem rows_drop {α:Type} {f:α→List (List D)} {l:List α} {n:Nat}:(rows f l).drop n=rows f (l.drop n):=by simp [rows,List.map_drop]
structure Arc where
  fr:Int
  sym:Int
  to:Int
structure Net where
  n:Int
  k:Int
  arcs:List Arc
  start:Int
  final:Int
structure Machine where
  n:Int
  k:Int
  next:List (List Int)
  start:Int
  final:Int
structure Node where
  kind:Int
  a:Int
  b:Int
structure Turner where
  n:Int
  k:Int
  l:Int
  next:List (List Int)
  out:List (List (List Int))
  start:Int
structure Rule where
  left:Int
  right:List Int
structure Grammar where
  k:Int
  n:Int
  start:Int
  rules:List Rule
structure Opr where
  level:Int
  right:Bool
structure Spot where
  sign:Int
  fr:Int
  to:Int
  ways:List (List Int)
structure Thicket where
  spots:List Spot
  root:Int
structure Deed where
  kind:Int
  rule:Rule
  word:List Int
  n:Int
  steps:List Int
instance : Inhabited Arc:=⟨⟨0,0,0⟩⟩
instance : Inhabited Node:=⟨⟨0,0,0⟩⟩
instance : Inhabited Rule:=⟨⟨0,[]⟩⟩
instance : Inhabited Opr:=⟨⟨0,false⟩⟩
instance : Inhabited Spot:=⟨⟨0,0,0,[]⟩⟩
instance : Inhabited Deed:=⟨⟨0,⟨0,[]⟩,[],0,[]⟩⟩
instance : Inhabited Machine:=⟨⟨0,0,[],0,0⟩⟩
def arcD (a:Arc):List D:=[iv .i64 a.fr,iv .i64 a.sym,iv .i64 a.to]
def netD (n:Net):List D:=[iv .i64 n.n,iv .i64 n.k,.sl 3 (tbl arcD n.arcs),iv .u32 n.start,iv .u32 n.final]
def macD (m:Machine):List D:=[iv .i64 m.n,iv .i64 m.k,.sl 1 (rows i64s m.next),iv .i64 m.start,iv .u32 m.final]
def nodD (n:Node):List D:=[iv .i64 n.kind,iv .i64 n.a,iv .i64 n.b]
def turD (t:Turner):List D:=[iv .i64 t.n,iv .i64 t.k,iv .i64 t.l,.sl 1 (rows i64s t.next),.sl 1 (rows (rows i64s) t.out),iv .i64 t.start]
def rulD (r:Rule):List D:=[iv .i64 r.left,.sl 1 (i64s r.right)]
def graD (g:Grammar):List D:=[iv .i64 g.k,iv .i64 g.n,iv .i64 g.start,.sl 2 (tbl rulD g.rules)]
def oprD (o:Opr):List D:=[iv .i64 o.level,.v (.bool o.right)]
def spoD (s:Spot):List D:=[iv .i64 s.sign,iv .i64 s.fr,iv .i64 s.to,.sl 1 (rows i64s s.ways)]
def thiD (t:Thicket):List D:=[.sl 4 (tbl spoD t.spots),iv .i64 t.root]
def deeD (d:Deed):List D:=[iv .i64 d.kind,iv .i64 d.rule.left,.sl 1 (i64s d.rule.right),.sl 1 (i64s d.word),iv .i64 d.n,.sl 1 (i64s d.steps)]
def ok64 (n:Int):Prop := -9223372036854775808≤n∧n≤9223372036854775807
def ok32 (n:Int):Prop:=0≤n∧n≤4294967295
def okL {α:Type} (p:α→Prop) (l:List α):Prop:=l.length≤maxLen∧∀ a,a ∈ l→p a
def Arc.ok (a:Arc):Prop:=ok64 a.fr∧ok64 a.sym∧ok64 a.to
def Net.ok (n:Net):Prop:=ok64 n.n∧ok64 n.k∧okL Arc.ok n.arcs∧ok32 n.start∧ok32 n.final
def Machine.ok (m:Machine):Prop:=ok64 m.n∧ok64 m.k∧okL (okL ok64) m.next∧ok64 m.start∧ok32 m.final
def Node.ok (n:Node):Prop:=ok64 n.kind∧ok64 n.a∧ok64 n.b
def Turner.ok (t:Turner):Prop:=ok64 t.n∧ok64 t.k∧ok64 t.l∧okL (okL ok64) t.next∧okL (okL (okL ok64)) t.out∧ok64 t.start
def Rule.ok (r:Rule):Prop:=ok64 r.left∧okL ok64 r.right
def Grammar.ok (g:Grammar):Prop:=ok64 g.k∧ok64 g.n∧ok64 g.start∧okL Rule.ok g.rules
def Opr.ok (o:Opr):Prop:=ok64 o.level
def Spot.ok (s:Spot):Prop:=ok64 s.sign∧ok64 s.fr∧ok64 s.to∧okL (okL ok64) s.ways
def Thicket.ok (t:Thicket):Prop:=okL Spot.ok t.spots∧ok64 t.root
def Deed.ok (d:Deed):Prop:=ok64 d.kind∧d.rule.ok∧okL ok64 d.word∧ok64 d.n∧okL ok64 d.steps
theorem maxLen_le {n:Nat} (h:n≤maxLen):n≤9223372036854775807:=Nat.le_trans h (by decide)
theorem arcD_eq {a:Arc}:arcD a=[iv .i64 a.fr,iv .i64 a.sym,iv .i64 a.to]:=(rfl)
theorem netD_eq {n:Net}:netD n=[iv .i64 n.n,iv .i64 n.k,.sl 3 (tbl arcD n.arcs),iv .u32 n.start,iv .u32 n.final]:=(rfl)
theorem macD_eq {m:Machine}:macD m=[iv .i64 m.n,iv .i64 m.k,.sl 1 (rows i64s m.next),iv .i64 m.start,iv .u32 m.final]:=(rfl)
theorem nodD_eq {n:Node}:nodD n=[iv .i64 n.kind,iv .i64 n.a,iv .i64 n.b]:=(rfl)
theorem turD_eq {t:Turner}:turD t=[iv .i64 t.n,iv .i64 t.k,iv .i64 t.l,.sl 1 (rows i64s t.next),.sl 1 (rows (rows i64s) t.out),iv .i64 t.start]:=(rfl)
theorem rulD_eq {r:Rule}:rulD r=[iv .i64 r.left,.sl 1 (i64s r.right)]:=(rfl)
theorem graD_eq {g:Grammar}:graD g=[iv .i64 g.k,iv .i64 g.n,iv .i64 g.start,.sl 2 (tbl rulD g.rules)]:=(rfl)
theorem oprD_eq {o:Opr}:oprD o=[iv .i64 o.level,.v (.bool o.right)]:=(rfl)
theorem spoD_eq {s:Spot}:spoD s=[iv .i64 s.sign,iv .i64 s.fr,iv .i64 s.to,.sl 1 (rows i64s s.ways)]:=(rfl)
theorem thiD_eq {t:Thicket}:thiD t=[.sl 4 (tbl spoD t.spots),iv .i64 t.root]:=(rfl)
theorem deeD_eq {d:Deed}:deeD d=[iv .i64 d.kind,iv .i64 d.rule.left,.sl 1 (i64s d.rule.right),.sl 1 (i64s d.word),iv .i64 d.n,.sl 1 (i64s d.steps)]:=(rfl)
def vy0:=And.intro @tbl_len (And.intro @tbl_get (And.intro @tbl_take (And.intro @tbl_drop (And.intro @rows_take (And.intro @rows_drop (And.intro @arcD_eq (And.intro @netD_eq (And.intro @macD_eq (And.intro @nodD_eq (And.intro @turD_eq (And.intro @rulD_eq (And.intro @graD_eq (And.intro @oprD_eq (And.intro @spoD_eq (And.intro @thiD_eq (@deeD_eq))))))))))))))))
end Go.Dm

namespace Go.Proofs.Ytjekkbpdgnohcaa
open Go.ChangeShapes Go.WideShapes Go.ChangeAt Go.RowKit Go.Dm
theorem Try.own:ownKnob Try.prog.godebug=none:=by kernel_rfl
theorem Try.laidOut:laidOutB Try.prog=true:=by kernel_rfl
theorem Try.o_int:Opens Try.prog 3 1 (fun n:Int=>[.v (.int .i64 n)]) ok64 :=
  Opens.i64 Try.underlying3 (by kernel_rfl)
theorem Try.o_int64:Opens Try.prog 2 1 (fun n:Int=>[.v (.int .i64 n)]) ok64 :=
  Opens.i64 Try.underlying2 (by kernel_rfl)
end Go.Proofs.Ytjekkbpdgnohcaa

namespace Go.Dm
theorem viEq {k:IntKind} {a b:Int} (h:a=b):(D.v (.int k a))=D.v (.int k b):=by rw [h]
theorem vbEq {a b:Bool} (h:a=b):(D.v (.bool a))=D.v (.bool b):=by rw [h]
theorem mem_getD {α:Type} [Inhabited α] {l:List α} {a:α} (h:a ∈ l) : ∃ i,i<l.length∧l.getD i default=a:=by
  obtain ⟨i,hi,rfl⟩:=List.getElem_of_mem h
  exact ⟨i,hi,by simp [List.getD,hi]⟩
theorem getD_mem' {α:Type} [Inhabited α] {l:List α} {i:Nat} (h:i<l.length):l.getD i default ∈ l:=by
  simp [List.getD,h]
theorem take_succ_getD {α:Type} {l:List α} {i:Nat} (h:i<l.length) (d:α):l.take (i+1)=l.take i++[l.getD i d]:=by
  rw [List.take_add_one];simp [List.getD,h]
def tab (n:Nat) (f:Nat→Int):List Int:=(List.range n).map f
theorem tab_length {n:Nat} {f:Nat→Int}:(tab n f).length=n:=by simp [tab]
theorem tab_getD {n i:Nat} {f:Nat→Int} {d:Int} (h:i<n):(tab n f).getD i d=f i:=by simp [tab,List.getD,h]
theorem tab_set {n i:Nat} {f:Nat→Int} {v:Int}:(tab n f).set i v=tab n fun j=>if j=i then v else f j:=by
  apply List.ext_getElem
  · simp [tab]
  · intro k h1 h2
    simp only [tab,List.getElem_set,List.getElem_map,List.getElem_range]
    by_cases e:i=k
    · simp [e]
    · have:¬ k=i:=fun h=>e h.symm
      simp [e,this]
theorem tab_rep {n:Nat} {x:Int}:List.replicate n x=tab n fun _=>x:=by
  apply List.ext_getElem<;>simp [tab]
theorem viewO_1 {sz:Nat} {a:List D}:viewO (some ⟨sz,[a],true,false,.arr⟩) sz 0 1=.sl sz [a]:=viewO_all rfl
theorem viewO_2 {sz:Nat} {a b:List D}:viewO (some ⟨sz,[a,b],true,false,.arr⟩) sz 0 2=.sl sz [a,b]:=viewO_all rfl
theorem viewO_3 {sz:Nat} {a b c:List D}:viewO (some ⟨sz,[a,b,c],true,false,.arr⟩) sz 0 3=.sl sz [a,b,c]:=viewO_all rfl
theorem viewO_4 {sz:Nat} {a b c d:List D}:viewO (some ⟨sz,[a,b,c,d],true,false,.arr⟩) sz 0 4=.sl sz [a,b,c,d]:=viewO_all rfl
theorem i64s_tab_getD {n k:Nat} {f:Nat→Int} {d:List D} (h:k<n):(i64s (tab n f)).getD k d=[.v (.int .i64 (f k))]:=by simp [i64s,tab,List.getD,h]
theorem viewO_tab {n:Nat} {f:Nat→Int}:viewO (some ⟨1,i64s (tab n f),true,false,.arr⟩) 1 0 n=.sl 1 (i64s (tab n f)):=viewO_all (by simp [i64s,tab])
theorem viewO_i64s {l:List Int} {n:Nat} (h:n=l.length):viewO (some ⟨1,i64s l,true,false,.arr⟩) 1 0 n=.sl 1 (i64s l):=viewO_all (by simp [i64s,h])
theorem viewO_u8s {l:List UInt8} {n:Nat} (h:n=l.length):viewO (some ⟨1,u8s l,true,false,.arr⟩) 1 0 n=.sl 1 (u8s l):=viewO_all (by simp [u8s,h])
theorem viewO_bls {l:List Bool} {n:Nat} (h:n=l.length):viewO (some ⟨1,bls l,true,false,.arr⟩) 1 0 n=.sl 1 (bls l):=viewO_all (by simp [bls,h])
theorem nat_add {a b:Nat}:((a:Int)+(b:Int)).toNat=a+b:=by omega
theorem nat_add1 {a:Nat}:((a:Int)+1).toNat=a+1:=by omega
theorem nat_add2 {a:Nat}:((a:Int)+2).toNat=a+2:=by omega
theorem nat_sub {a b:Nat}:((a:Int) - (b:Int)).toNat=a - b:=by omega
theorem nat_sub1 {a:Nat}:((a:Int) - 1).toNat=a - 1:=by omega
theorem rows_kill {α:Type} {f:α→List (List D)} {l:List α} {τ:Nat}:((rows f l).map fun e=>e.map (D.kill τ))=rows f l:=by simp [rows,kill_sl]
theorem rows_frz {α:Type} {f:α→List (List D)} {l:List α} {τ:Nat} {ob:Ob}:((rows f l).map fun e=>e.map (D.frz τ ob))=rows f l:=by simp [rows,frz_sl]
theorem rows_all {α:Type} {f:α→List (List D)} {l:List α}:(rows f l).all (fun e=>e.all D.clo')=true:=by simp [rows,clo'_sl]
def ownC (sz:Nat):List (List D)→D
  | []=>.nl
  | e::es=>.own false sz (e::es)
theorem ownC_nil {sz:Nat} {α:Type} {f:α→List D}:ownC sz (tbl f [])=.nl:=(rfl)
theorem ownC_cons {sz:Nat} {α:Type} {f:α→List D} {a:α} {l:List α}:ownC sz (tbl f (a::l))=.own false sz (tbl f (a::l)):=(rfl)
theorem vwR_nil:vwR []=[]:=(rfl)
theorem vwR_cons {e:List D} {es:List (List D)}:vwR (e::es)=e.map D.vw::vwR es:=(rfl)
theorem vw_v' {x:Value}:(D.v x).vw=.v x:=by rw [D.vw]<;>(intros;contradiction)
theorem vw_nl':D.nl.vw=.nl:=by rw [D.vw]<;>(intros;contradiction)
theorem vw_sl' {sz:Nat} {es:List (List D)}:(D.sl sz es).vw=.sl sz es:=by rw [D.vw]<;>(intros;contradiction)
def tabD (n:Nat) (f:Nat→D):List (List D):=(List.range n).map fun i=>[f i]
theorem tabD_len {n:Nat} {f:Nat→D}:(tabD n f).length=n:=by simp [tabD]
theorem tabD_get {n k:Nat} {f:Nat→D} {d:List D} (h:k<n):(tabD n f).getD k d=[f k]:=by simp [tabD,List.getD,h]
theorem tabD_set {n i:Nat} {f:Nat→D} {x:D}:(tabD n f).set i [x]=tabD n fun j=>if j=i then x else f j:=by
  apply List.ext_getElem
  · simp [tabD]
  · intro k h1 h2
    simp only [tabD,List.getElem_set,List.getElem_map,List.getElem_range]
    by_cases e:i=k
    · simp [e]
    · have:¬ k=i:=fun h=>e h.symm
      simp [e,this]
theorem tabD_kill {n τ:Nat} {f:Nat→D}:((tabD n f).map fun e=>e.map (D.kill τ))=tabD n fun j=>(f j).kill τ:=by simp [tabD]
theorem tabD_frz {n τ:Nat} {f:Nat→D} {ob:Ob}:((tabD n f).map fun e=>e.map (D.frz τ ob))=tabD n fun j=>(f j).frz τ ob:=by simp [tabD]
theorem tabD_trim {n m:Nat} {f:Nat→D}:((tabD n f).map fun e=>e.map (D.trim m))=tabD n fun j=>(f j).trim m:=by simp [tabD]
theorem iteD_pos {c:Prop} [Decidable c] {a b:D} (h:c):(if c then a else b)=a:=if_pos h
theorem iteD_neg {c:Prop} [Decidable c] {a b:D} (h:¬ c):(if c then a else b)=b:=if_neg h
theorem dec_iff {a b:Prop} [Decidable a] [Decidable b] (h:a ↔ b):decide a=decide b:=by congr 1;exact propext h
theorem trim_ite {c:Prop} [Decidable c] {a b:D} {m:Nat}:(if c then a else b).trim m=if c then a.trim m else b.trim m:=by split<;>rfl
theorem kill_ite {c:Prop} [Decidable c] {a b:D} {m:Nat}:(if c then a else b).kill m=if c then a.kill m else b.kill m:=by split<;>rfl
theorem frz_ite {c:Prop} [Decidable c] {a b:D} {m:Nat} {ob:Ob}:(if c then a else b).frz m ob=if c then a.frz m ob else b.frz m ob:=by split<;>rfl
def vlen:=And.intro @List.length_cons.{0}<|And.intro @List.length_nil.{0}<|And.intro @List.length_append.{0}<|And.intro @List.length_map.{0,0}<|And.intro @List.length_replicate.{0}<|And.intro @List.length_take.{0}<|And.intro @List.length_drop.{0}<|And.intro @List.length_set.{0}<|And.intro @tab_length<|And.intro @tabD_len<|And.intro @i64s_len<|And.intro @bls_len<|And.intro @u8s_len<|And.intro @tbl_len @rows_len
def vx0:=And.intro @trim_ite<|And.intro @kill_ite<|And.intro @frz_ite<|And.intro @tabD_len<|And.intro @tabD_get<|And.intro @tabD_set<|And.intro @tabD_kill<|And.intro @tabD_frz<|And.intro @tabD_trim<|And.intro @iteD_pos<|And.intro @iteD_neg<|And.intro @vwR_nil<|And.intro @vwR_cons<|And.intro @vw_v'<|And.intro @vw_nl'<|And.intro @vw_sl'<|And.intro @vw_own<|And.intro @rows_kill<|And.intro @rows_frz<|And.intro @rows_all<|And.intro @List.map_append.{0,0}<|And.intro @List.all_append.{0}<|And.intro @ownC_nil<|And.intro @ownC_cons<|And.intro @nat_add<|And.intro @nat_add1<|And.intro @nat_add2<|And.intro @nat_sub<|And.intro @nat_sub1<|And.intro @i64s_tab_getD<|And.intro @viewO_tab<|And.intro @viewO_i64s<|And.intro @viewO_u8s<|And.intro @viewO_bls<|And.intro @viewO_1<|And.intro @viewO_2<|And.intro @viewO_3<|And.intro @viewO_4<|And.intro @tab_length (And.intro @tab_getD (And.intro @tab_set (And.intro @i64s_rep @tab_rep)))
def vAq:=And.intro va0<|And.intro va1<|And.intro va2 va3
def vBq:=And.intro vb0<|And.intro vb1<|And.intro vb2<|And.intro vb3<|And.intro vb4<|And.intro vb5<|And.intro vb6<|And.intro vb7<|And.intro vb8<|And.intro vb9<|And.intro vb10<|And.intro vz0<|And.intro vz1<|And.intro vy0 vx0
theorem Y0 {p:Prop} (h:p:=by simp (disch:=first|omega|(simp only [vlen];first|done|omega)) only [↓vAq,vBq,↓reduceIte,Nat.reduceBEq,Nat.reduceEqDiff,Nat.reduceLT,Nat.reduceLeDiff,Nat.reduceAdd,Nat.reduceMul,Nat.reduceSub,reduceCtorEq,Int.reduceToNat]):p:=h
theorem Y1 {p:Prop} (h:p:=by simp (disch:=first|omega|(simp only [vlen];first|done|omega)) only [vpl,↓vAq,vBq,↓reduceIte,Nat.reduceBEq,Nat.reduceEqDiff,Nat.reduceLT,Nat.reduceLeDiff,Nat.reduceAdd,Nat.reduceMul,Nat.reduceSub,reduceCtorEq,Int.reduceToNat]):p:=h
theorem Y2 {p:Prop} (h:p:=by unfold coO;(simp (disch:=first|omega|(simp only [vlen];first|done|omega)) only [vle0,↓vAq,vBq,↓reduceIte,Nat.reduceBEq,Nat.reduceEqDiff,Nat.reduceLT,Nat.reduceLeDiff,Nat.reduceAdd,Nat.reduceMul,Nat.reduceSub,reduceCtorEq,Int.reduceToNat]<;>(repeat' first|rfl|apply And.intro))):p:=h
theorem Y3 {p:Prop} (h:p:=by simp (disch:=first|omega|(simp only [vlen];first|done|omega)) only [vke,↓vAq,vBq,↓reduceIte,Nat.reduceBEq,Nat.reduceEqDiff,Nat.reduceLT,Nat.reduceLeDiff,Nat.reduceAdd,Nat.reduceMul,Nat.reduceSub,reduceCtorEq,Int.reduceToNat]):p:=h
theorem Y4 {p:Prop} (h:p:=by simp (disch:=first|omega|(simp only [vlen];first|done|omega)) only [vbe,↓vAq,vBq,↓reduceIte,Nat.reduceBEq,Nat.reduceEqDiff,Nat.reduceLT,Nat.reduceLeDiff,Nat.reduceAdd,Nat.reduceMul,Nat.reduceSub,reduceCtorEq,Int.reduceToNat]):p:=h
theorem Y5 {p:Prop} (h:p:=by unfold buO;(simp (disch:=first|omega|(simp only [vlen];first|done|omega)) only [vle0,↓vAq,vBq,↓reduceIte,Nat.reduceBEq,Nat.reduceEqDiff,Nat.reduceLT,Nat.reduceLeDiff,Nat.reduceAdd,Nat.reduceMul,Nat.reduceSub,reduceCtorEq,Int.reduceToNat]<;>(repeat' first|rfl|apply And.intro))):p:=h
theorem Y6 {p:Prop} (h:p:=by unfold buO;simp (disch:=first|omega|(simp only [vlen];first|done|omega)) only [vbe,↓vAq,vBq,↓reduceIte,Nat.reduceBEq,Nat.reduceEqDiff,Nat.reduceLT,Nat.reduceLeDiff,Nat.reduceAdd,Nat.reduceMul,Nat.reduceSub,reduceCtorEq,Int.reduceToNat]):p:=h
theorem Y7 {p:Prop} (h:p:=by simp (disch:=first|omega|(simp only [vlen];first|done|omega)) only [vst,↓vAq,vBq,↓reduceIte,Nat.reduceBEq,Nat.reduceEqDiff,Nat.reduceLT,Nat.reduceLeDiff,Nat.reduceAdd,Nat.reduceMul,Nat.reduceSub,reduceCtorEq,Int.reduceToNat]):p:=h
theorem Y8 {p:Prop} (h:p:=by rw [en];unfold stB;simp (disch:=first|omega|(simp only [vlen];first|done|omega)) only [vpl,↓vAq,vBq,↓reduceIte,Nat.reduceBEq,Nat.reduceEqDiff,Nat.reduceLT,Nat.reduceLeDiff,Nat.reduceAdd,Nat.reduceMul,Nat.reduceSub,reduceCtorEq,Int.reduceToNat]):p:=h
theorem Y9 {p:Prop} (h:p:=by unfold coO;simp (disch:=first|omega|(simp only [vlen];first|done|omega)) only [vke,↓vAq,vBq,↓reduceIte,Nat.reduceBEq,Nat.reduceEqDiff,Nat.reduceLT,Nat.reduceLeDiff,Nat.reduceAdd,Nat.reduceMul,Nat.reduceSub,reduceCtorEq,Int.reduceToNat]):p:=h
theorem Y10 {p:Prop} (h:p:=by simp (disch:=first|omega|(simp only [vlen];first|done|omega)) only [vah,↓vAq,vBq,↓reduceIte,Nat.reduceBEq,Nat.reduceEqDiff,Nat.reduceLT,Nat.reduceLeDiff,Nat.reduceAdd,Nat.reduceMul,Nat.reduceSub,reduceCtorEq,Int.reduceToNat]):p:=h
theorem Y11 {p:Prop} (h:p:=by simp (disch:=first|omega|(simp only [vlen];first|done|omega)) only [vtu,↓vAq,vBq,↓reduceIte,Nat.reduceBEq,Nat.reduceEqDiff,Nat.reduceLT,Nat.reduceLeDiff,Nat.reduceAdd,Nat.reduceMul,Nat.reduceSub,reduceCtorEq,Int.reduceToNat]):p:=h
theorem Y12 {p:Prop} (h:p:=by simp (disch:=first|omega|(simp only [vlen];first|done|omega)) only [vmy,↓vAq,vBq,↓reduceIte,Nat.reduceBEq,Nat.reduceEqDiff,Nat.reduceLT,Nat.reduceLeDiff,Nat.reduceAdd,Nat.reduceMul,Nat.reduceSub,reduceCtorEq,Int.reduceToNat]):p:=h
theorem Y13 {p:Prop} (h:p:=by (simp (disch:=first|omega|(simp only [vlen];first|done|omega)) only [vle0,↓vAq,vBq,↓reduceIte,Nat.reduceBEq,Nat.reduceEqDiff,Nat.reduceLT,Nat.reduceLeDiff,Nat.reduceAdd,Nat.reduceMul,Nat.reduceSub,reduceCtorEq,Int.reduceToNat]<;>(repeat' first|rfl|apply And.intro))):p:=h
theorem Y14 {p:Prop} (h:p:=by simp (disch:=first|omega|(simp only [vlen];first|done|omega)) only [vsp,↓vAq,vBq,↓reduceIte,Nat.reduceBEq,Nat.reduceEqDiff,Nat.reduceLT,Nat.reduceLeDiff,Nat.reduceAdd,Nat.reduceMul,Nat.reduceSub,reduceCtorEq,Int.reduceToNat]):p:=h
theorem Y15 {p:Prop} (h:p:=by (simp (disch:=first|omega|(simp only [vlen];first|done|omega)) only [Fits_u,Fits_m,Fits_nil,List.length_append,↓vAq,vBq,↓reduceIte,Nat.reduceBEq,Nat.reduceEqDiff,Nat.reduceLT,Nat.reduceLeDiff,Nat.reduceAdd,Nat.reduceMul,Nat.reduceSub,reduceCtorEq,Int.reduceToNat]<;>(repeat' first|rfl|apply And.intro))):p:=h
theorem Y16 {p:Prop} (h:p:=by unfold coO;simp (disch:=first|omega|(simp only [vlen];first|done|omega)) only [vmy,↓vAq,vBq,↓reduceIte,Nat.reduceBEq,Nat.reduceEqDiff,Nat.reduceLT,Nat.reduceLeDiff,Nat.reduceAdd,Nat.reduceMul,Nat.reduceSub,reduceCtorEq,Int.reduceToNat]):p:=h
theorem Y17 {p:Prop} (h:p:=by unfold stB;(simp (disch:=first|omega|(simp only [vlen];first|done|omega)) only [vle0,↓vAq,vBq,↓reduceIte,Nat.reduceBEq,Nat.reduceEqDiff,Nat.reduceLT,Nat.reduceLeDiff,Nat.reduceAdd,Nat.reduceMul,Nat.reduceSub,reduceCtorEq,Int.reduceToNat]<;>(repeat' first|rfl|apply And.intro))):p:=h
theorem Y18 {p:Prop} (h:p:=by unfold stB;simp (disch:=first|omega|(simp only [vlen];first|done|omega)) only [vst,↓vAq,vBq,↓reduceIte,Nat.reduceBEq,Nat.reduceEqDiff,Nat.reduceLT,Nat.reduceLeDiff,Nat.reduceAdd,Nat.reduceMul,Nat.reduceSub,reduceCtorEq,Int.reduceToNat]):p:=h
theorem Y19 {p:Prop} (h:p:=by simp (disch:=first|omega|(simp only [vlen];first|done|omega)) only [vsu,↓vAq,vBq,↓reduceIte,Nat.reduceBEq,Nat.reduceEqDiff,Nat.reduceLT,Nat.reduceLeDiff,Nat.reduceAdd,Nat.reduceMul,Nat.reduceSub,reduceCtorEq,Int.reduceToNat]):p:=h
theorem Y20 {p:Prop} (h:p:=by simp [buO];simp (disch:=first|omega|(simp only [vlen];first|done|omega)) only [vsp,↓vAq,vBq,↓reduceIte,Nat.reduceBEq,Nat.reduceEqDiff,Nat.reduceLT,Nat.reduceLeDiff,Nat.reduceAdd,Nat.reduceMul,Nat.reduceSub,reduceCtorEq,Int.reduceToNat]):p:=h
theorem Y21 {p:Prop} (h:p:=by unfold buO;simp (disch:=first|omega|(simp only [vlen];first|done|omega)) only [vsp,↓vAq,vBq,↓reduceIte,Nat.reduceBEq,Nat.reduceEqDiff,Nat.reduceLT,Nat.reduceLeDiff,Nat.reduceAdd,Nat.reduceMul,Nat.reduceSub,reduceCtorEq,Int.reduceToNat]):p:=h
theorem Y22 {p:Prop} (h:p:=by unfold buO;simp (disch:=first|omega|(simp only [vlen];first|done|omega)) only [vah,↓vAq,vBq,↓reduceIte,Nat.reduceBEq,Nat.reduceEqDiff,Nat.reduceLT,Nat.reduceLeDiff,Nat.reduceAdd,Nat.reduceMul,Nat.reduceSub,reduceCtorEq,Int.reduceToNat]):p:=h
theorem Y23 {p:Prop} (h:p:=by simp (disch:=first|omega|(simp only [vlen];first|done|omega)) only [graD_eq,vsu,↓vAq,vBq,↓reduceIte,Nat.reduceBEq,Nat.reduceEqDiff,Nat.reduceLT,Nat.reduceLeDiff,Nat.reduceAdd,Nat.reduceMul,Nat.reduceSub,reduceCtorEq,Int.reduceToNat]):p:=h
theorem Y24 {p:Prop} (h:p:=by simp (disch:=first|omega|(simp only [vlen];first|done|omega)) only [vbe,vtu,↓vAq,vBq,↓reduceIte,Nat.reduceBEq,Nat.reduceEqDiff,Nat.reduceLT,Nat.reduceLeDiff,Nat.reduceAdd,Nat.reduceMul,Nat.reduceSub,reduceCtorEq,Int.reduceToNat]):p:=h
theorem Y25 {p:Prop} (h:p:=by simp (disch:=first|omega|(simp only [vlen];first|done|omega)) only [yvcs,↓vAq,vBq,↓reduceIte,Nat.reduceBEq,Nat.reduceEqDiff,Nat.reduceLT,Nat.reduceLeDiff,Nat.reduceAdd,Nat.reduceMul,Nat.reduceSub,reduceCtorEq,Int.reduceToNat]):p:=h
theorem Y26 {p:Prop} (h:p:=by simp [coO];simp (disch:=first|omega|(simp only [vlen];first|done|omega)) only [vmy,↓vAq,vBq,↓reduceIte,Nat.reduceBEq,Nat.reduceEqDiff,Nat.reduceLT,Nat.reduceLeDiff,Nat.reduceAdd,Nat.reduceMul,Nat.reduceSub,reduceCtorEq,Int.reduceToNat]):p:=h
theorem Y27 {p:Prop} (h:p:=by rw [hs];(simp (disch:=first|omega|(simp only [vlen];first|done|omega)) only [vsp,↓vAq,vBq,↓reduceIte,Nat.reduceBEq,Nat.reduceEqDiff,Nat.reduceLT,Nat.reduceLeDiff,Nat.reduceAdd,Nat.reduceMul,Nat.reduceSub,reduceCtorEq,Int.reduceToNat]);rfl):p:=h
theorem Y28 {p:Prop} (h:p:=by unfold stB;simp (disch:=first|omega|(simp only [vlen];first|done|omega)) only [vsu,↓vAq,vBq,↓reduceIte,Nat.reduceBEq,Nat.reduceEqDiff,Nat.reduceLT,Nat.reduceLeDiff,Nat.reduceAdd,Nat.reduceMul,Nat.reduceSub,reduceCtorEq,Int.reduceToNat]):p:=h
theorem Y29 {p:Prop} (h:p:=by simp (disch:=first|omega|(simp only [vlen];first|done|omega)) only [i64s_nil,vpl,↓vAq,vBq,↓reduceIte,Nat.reduceBEq,Nat.reduceEqDiff,Nat.reduceLT,Nat.reduceLeDiff,Nat.reduceAdd,Nat.reduceMul,Nat.reduceSub,reduceCtorEq,Int.reduceToNat]):p:=h
theorem Z0 {p q:Prop} (h:q) (e:p=q:=by simp (disch:=first|omega|(simp only [vlen];first|done|omega)) only [vmy,↓vAq,vBq,↓reduceIte,Nat.reduceBEq,Nat.reduceEqDiff,Nat.reduceLT,Nat.reduceLeDiff,Nat.reduceAdd,Nat.reduceMul,Nat.reduceSub,reduceCtorEq,Int.reduceToNat];rfl):p:=e.mpr h
theorem Z1 {p q:Prop} (h:q) (e:p=q:=by simp (disch:=first|omega|(simp only [vlen];first|done|omega)) only [↓vAq,vBq,↓reduceIte,Nat.reduceBEq,Nat.reduceEqDiff,Nat.reduceLT,Nat.reduceLeDiff,Nat.reduceAdd,Nat.reduceMul,Nat.reduceSub,reduceCtorEq,Int.reduceToNat];rfl):p:=e.mpr h
theorem Z2 {p q:Prop} (h:q) (e:p=q:=by simp (disch:=first|omega|(simp only [vlen];first|done|omega)) only [vtu,↓vAq,vBq,↓reduceIte,Nat.reduceBEq,Nat.reduceEqDiff,Nat.reduceLT,Nat.reduceLeDiff,Nat.reduceAdd,Nat.reduceMul,Nat.reduceSub,reduceCtorEq,Int.reduceToNat];rfl):p:=e.mpr h
theorem Z3 {p q:Prop} (h:q) (e:p=q:=by simp (disch:=first|omega|(simp only [vlen];first|done|omega)) only [vpl,↓vAq,vBq,↓reduceIte,Nat.reduceBEq,Nat.reduceEqDiff,Nat.reduceLT,Nat.reduceLeDiff,Nat.reduceAdd,Nat.reduceMul,Nat.reduceSub,reduceCtorEq,Int.reduceToNat];rfl):p:=e.mpr h
theorem Z4 {p q:Prop} (h:q) (e:p=q:=by simp (disch:=first|omega|(simp only [vlen];first|done|omega)) only [vke,↓vAq,vBq,↓reduceIte,Nat.reduceBEq,Nat.reduceEqDiff,Nat.reduceLT,Nat.reduceLeDiff,Nat.reduceAdd,Nat.reduceMul,Nat.reduceSub,reduceCtorEq,Int.reduceToNat];rfl):p:=e.mpr h
theorem Z5 {p q:Prop} (h:q) (e:p=q:=by simp (disch:=first|omega|(simp only [vlen];first|done|omega)) only [vbe,↓vAq,vBq,↓reduceIte,Nat.reduceBEq,Nat.reduceEqDiff,Nat.reduceLT,Nat.reduceLeDiff,Nat.reduceAdd,Nat.reduceMul,Nat.reduceSub,reduceCtorEq,Int.reduceToNat];rfl):p:=e.mpr h
theorem Z6 {p q:Prop} (h:q) (e:p=q:=by simp (disch:=first|omega|(simp only [vlen];first|done|omega)) only [vbe,vtu,↓vAq,vBq,↓reduceIte,Nat.reduceBEq,Nat.reduceEqDiff,Nat.reduceLT,Nat.reduceLeDiff,Nat.reduceAdd,Nat.reduceMul,Nat.reduceSub,reduceCtorEq,Int.reduceToNat];rfl):p:=e.mpr h
theorem Z7 {p q:Prop} (h:q) (e:p=q:=by simp (disch:=first|omega|(simp only [vlen];first|done|omega)) only [hl,↓vAq,vBq,↓reduceIte,Nat.reduceBEq,Nat.reduceEqDiff,Nat.reduceLT,Nat.reduceLeDiff,Nat.reduceAdd,Nat.reduceMul,Nat.reduceSub,reduceCtorEq,Int.reduceToNat];rfl):p:=e.mpr h
theorem Z8 {p q:Prop} (h:q) (e:p=q:=by simp (disch:=first|omega|(simp only [vlen];first|done|omega)) only [vst,↓vAq,vBq,↓reduceIte,Nat.reduceBEq,Nat.reduceEqDiff,Nat.reduceLT,Nat.reduceLeDiff,Nat.reduceAdd,Nat.reduceMul,Nat.reduceSub,reduceCtorEq,Int.reduceToNat];rfl):p:=e.mpr h
theorem Z9 {p q:Prop} (h:q) (e:p=q:=by simp (disch:=first|omega|(simp only [vlen];first|done|omega)) only [vsu,↓vAq,vBq,↓reduceIte,Nat.reduceBEq,Nat.reduceEqDiff,Nat.reduceLT,Nat.reduceLeDiff,Nat.reduceAdd,Nat.reduceMul,Nat.reduceSub,reduceCtorEq,Int.reduceToNat];rfl):p:=e.mpr h
theorem Z10 {p q:Prop} (h:q) (e:p=q:=by simp (disch:=first|omega|(simp only [vlen];first|done|omega)) only [vsp,↓vAq,vBq,↓reduceIte,Nat.reduceBEq,Nat.reduceEqDiff,Nat.reduceLT,Nat.reduceLeDiff,Nat.reduceAdd,Nat.reduceMul,Nat.reduceSub,reduceCtorEq,Int.reduceToNat];rfl):p:=e.mpr h
theorem Z11 {p q:Prop} (h:q) (e:p=q:=by simp (disch:=first|omega|(simp only [vlen];first|done|omega)) only [vah,hq0,↓vAq,vBq,↓reduceIte,Nat.reduceBEq,Nat.reduceEqDiff,Nat.reduceLT,Nat.reduceLeDiff,Nat.reduceAdd,Nat.reduceMul,Nat.reduceSub,reduceCtorEq,Int.reduceToNat];rfl):p:=e.mpr h
theorem Z12 {p q:Prop} (h:q) (e:p=q:=by simp (disch:=first|omega|(simp only [vlen];first|done|omega)) only [vmy,hrr,hrg,htk,hrd,hnQ,↓vAq,vBq,↓reduceIte,Nat.reduceBEq,Nat.reduceEqDiff,Nat.reduceLT,Nat.reduceLeDiff,Nat.reduceAdd,Nat.reduceMul,Nat.reduceSub,reduceCtorEq,Int.reduceToNat];rfl):p:=e.mpr h
theorem Z13 {p q:Prop} (h:q) (e:p=q:=by simp (disch:=first|omega|(simp only [vlen];first|done|omega)) only [vah,↓vAq,vBq,↓reduceIte,Nat.reduceBEq,Nat.reduceEqDiff,Nat.reduceLT,Nat.reduceLeDiff,Nat.reduceAdd,Nat.reduceMul,Nat.reduceSub,reduceCtorEq,Int.reduceToNat];rfl):p:=e.mpr h
theorem Z14 {p q:Prop} (h:q) (e:p=q:=by simp (disch:=first|omega|(simp only [vlen];first|done|omega)) only [vsp,hg0,hes,hwy,↓vAq,vBq,↓reduceIte,Nat.reduceBEq,Nat.reduceEqDiff,Nat.reduceLT,Nat.reduceLeDiff,Nat.reduceAdd,Nat.reduceMul,Nat.reduceSub,reduceCtorEq,Int.reduceToNat];rfl):p:=e.mpr h
theorem Z15 {p q:Prop} (h:q) (e:p=q:=by simp (disch:=first|omega|(simp only [vlen];first|done|omega)) only [vke,hdl,hd0,↓vAq,vBq,↓reduceIte,Nat.reduceBEq,Nat.reduceEqDiff,Nat.reduceLT,Nat.reduceLeDiff,Nat.reduceAdd,Nat.reduceMul,Nat.reduceSub,reduceCtorEq,Int.reduceToNat];rfl):p:=e.mpr h
theorem Z16 {p q:Prop} (h:q) (e:p=q:=by simp (disch:=first|omega|(simp only [vlen];first|done|omega)) only [hq0,hmi,↓vAq,vBq,↓reduceIte,Nat.reduceBEq,Nat.reduceEqDiff,Nat.reduceLT,Nat.reduceLeDiff,Nat.reduceAdd,Nat.reduceMul,Nat.reduceSub,reduceCtorEq,Int.reduceToNat];rfl):p:=e.mpr h
theorem Z17 {p q:Prop} (h:q) (e:p=q:=by simp (disch:=first|omega|(simp only [vlen];first|done|omega)) only [yvcs,↓vAq,vBq,↓reduceIte,Nat.reduceBEq,Nat.reduceEqDiff,Nat.reduceLT,Nat.reduceLeDiff,Nat.reduceAdd,Nat.reduceMul,Nat.reduceSub,reduceCtorEq,Int.reduceToNat];rfl):p:=e.mpr h
theorem Z18 {p q:Prop} (h:q) (e:p=q:=by simp (disch:=first|omega|(simp only [vlen];first|done|omega)) only [hl,hks,↓vAq,vBq,↓reduceIte,Nat.reduceBEq,Nat.reduceEqDiff,Nat.reduceLT,Nat.reduceLeDiff,Nat.reduceAdd,Nat.reduceMul,Nat.reduceSub,reduceCtorEq,Int.reduceToNat];rfl):p:=e.mpr h
theorem Z19 {p q:Prop} (h:q) (e:p=q:=by simp (disch:=first|omega|(simp only [vlen];first|done|omega)) only [vmy,hr,hnx,hnl,↓vAq,vBq,↓reduceIte,Nat.reduceBEq,Nat.reduceEqDiff,Nat.reduceLT,Nat.reduceLeDiff,Nat.reduceAdd,Nat.reduceMul,Nat.reduceSub,reduceCtorEq,Int.reduceToNat];rfl):p:=e.mpr h
theorem Z20 {p q:Prop} (h:q) (e:p=q:=by simp (disch:=first|omega|(simp only [vlen];first|done|omega)) only [vmy,hrr,hrg,htk,hrd,↓vAq,vBq,↓reduceIte,Nat.reduceBEq,Nat.reduceEqDiff,Nat.reduceLT,Nat.reduceLeDiff,Nat.reduceAdd,Nat.reduceMul,Nat.reduceSub,reduceCtorEq,Int.reduceToNat];rfl):p:=e.mpr h
theorem Z21 {p q:Prop} (h:q) (e:p=q:=by simp (disch:=first|omega|(simp only [vlen];first|done|omega)) only [hGG,vtu,↓vAq,vBq,↓reduceIte,Nat.reduceBEq,Nat.reduceEqDiff,Nat.reduceLT,Nat.reduceLeDiff,Nat.reduceAdd,Nat.reduceMul,Nat.reduceSub,reduceCtorEq,Int.reduceToNat];rfl):p:=e.mpr h
theorem Z22 {p q:Prop} (h:q) (e:p=q:=by simp (disch:=first|omega|(simp only [vlen];first|done|omega)) only [vah,hq0,hway,hgw,↓vAq,vBq,↓reduceIte,Nat.reduceBEq,Nat.reduceEqDiff,Nat.reduceLT,Nat.reduceLeDiff,Nat.reduceAdd,Nat.reduceMul,Nat.reduceSub,reduceCtorEq,Int.reduceToNat];rfl):p:=e.mpr h
theorem Z23 {p q:Prop} (h:q) (e:p=q:=by simp (disch:=first|omega|(simp only [vlen];first|done|omega)) only [vah,hq0,hway,hgw,hsg,hdv,↓vAq,vBq,↓reduceIte,Nat.reduceBEq,Nat.reduceEqDiff,Nat.reduceLT,Nat.reduceLeDiff,Nat.reduceAdd,Nat.reduceMul,Nat.reduceSub,reduceCtorEq,Int.reduceToNat];rfl):p:=e.mpr h
theorem Z24 {p q:Prop} (h:q) (e:p=q:=by simp (disch:=first|omega|(simp only [vlen];first|done|omega)) only [hC,vbe,↓vAq,vBq,↓reduceIte,Nat.reduceBEq,Nat.reduceEqDiff,Nat.reduceLT,Nat.reduceLeDiff,Nat.reduceAdd,Nat.reduceMul,Nat.reduceSub,reduceCtorEq,Int.reduceToNat];rfl):p:=e.mpr h
theorem Z25 {p q:Prop} (h:q) (e:p=q:=by simp (disch:=first|omega|(simp only [vlen];first|done|omega)) only [vmy,hI2,↓vAq,vBq,↓reduceIte,Nat.reduceBEq,Nat.reduceEqDiff,Nat.reduceLT,Nat.reduceLeDiff,Nat.reduceAdd,Nat.reduceMul,Nat.reduceSub,reduceCtorEq,Int.reduceToNat];rfl):p:=e.mpr h
theorem Z26 {p q:Prop} (h:q) (e:p=q:=by simp (disch:=first|omega|(simp only [vlen];first|done|omega)) only [vsp,hd1,↓vAq,vBq,↓reduceIte,Nat.reduceBEq,Nat.reduceEqDiff,Nat.reduceLT,Nat.reduceLeDiff,Nat.reduceAdd,Nat.reduceMul,Nat.reduceSub,reduceCtorEq,Int.reduceToNat];rfl):p:=e.mpr h
theorem Z27 {p q:Prop} (h:q) (e:p=q:=by simp (disch:=first|omega|(simp only [vlen];first|done|omega)) only [vah,hq0,hway,hgw,hsg,↓vAq,vBq,↓reduceIte,Nat.reduceBEq,Nat.reduceEqDiff,Nat.reduceLT,Nat.reduceLeDiff,Nat.reduceAdd,Nat.reduceMul,Nat.reduceSub,reduceCtorEq,Int.reduceToNat];rfl):p:=e.mpr h
end Go.Dm

namespace Go.Proofs.Ytjekkbpdgnohcaa
open Go.ChangeShapes Go.WideShapes Go.ChangeAt Go.RowKit Go.Dm
theorem weights_all {H:Type} {P:Program} {e:TypeId}:∀ {l:List (DataW H)} {i:Nat} (h:i<l.length) (n:Nat),n ∈ (l[i]'h).weights P e→n ∈ DataW.weightsAll P e l
  | x::r,0,_,n,hn=>by simp only [DataW.weightsAll,List.mem_append];exact .inl hn
  | x::r,i+1,h,n,hn=>by
    simp only [DataW.weightsAll,List.mem_append]
    exact .inr (weights_all (l:=r) (i:=i) (by simpa using h) n hn)
structure OpensW (P:Program) (t:TypeId) {α:Type} (sz:Nat) (f:α→List D) (ok:α→Prop):Prop where
  size:P.cellsOf t=sz
  len:∀ a,(f a).length=sz
  opn:∀ {H:Type} (enc:TypeId × Value→H) (w:World) (spare:Nat→Bool) (held:Bool) (fuel:Nat) (cs:List Value) (x:DataW H × List MemPlace),DataW.trod enc P w 0 spare held fuel t cs=some x→(∀ n,n ∈ x.1.weights P t→n≤reachBytes) →
    ∃ a,ok a∧cs.length=sz∧∀ j,j<sz→CR w (old w) ((f a).getD j .junk) (cs.getD j undef)∧(cs.getD j undef).oneCell'=true
theorem Opens.w {P:Program} {t:TypeId} {α:Type} {sz:Nat} {f:α→List D} {ok:α→Prop} (h:Opens P t sz f ok):OpensW P t sz f ok where
  size:=h.size
  len:=h.len
  opn enc w spare held fuel cs x hx _:=h.opn enc w spare held fuel cs x hx
theorem OpensW.map {P:Program} {t:TypeId} {α β:Type} {sz:Nat} {f:α→List D} {ok:α→Prop} {g:β→List D} {ok':β→Prop} (h:OpensW P t sz f ok) (hl:∀ b,(g b).length=sz) (hm:∀ a,ok a → ∃ b,ok' b∧g b=f a):OpensW P t sz g ok' where
  size:=h.size
  len:=hl
  opn enc w spare held fuel cs x hx hw:=by
    obtain ⟨a,ha,h1,h2⟩:=h.opn enc w spare held fuel cs x hx hw
    obtain ⟨b,hb,e⟩:=hm a ha
    exact ⟨b,hb,h1,by rw [e];exact h2⟩
inductive OpensFW (P:Program):List Field→Nat→(α:Type)→(α→List D)→(α→Prop)→Prop
  | nil (off:Nat):OpensFW P [] off Unit (fun _=>[]) (fun _=>True)
  | cons {f:Field} {fs:List Field} {off sz:Nat} {α β:Type} {g:α→List D} {ok:α→Prop} {g':β→List D} {ok':β→Prop} (hoff:f.offset=off) (h:OpensW P f.type sz g ok) (t:OpensFW P fs (off+sz) β g' ok') :
      OpensFW P (f::fs) off (α × β) (fun x=>g x.1++g' x.2) (fun x=>ok x.1∧ok' x.2)
theorem OpensFW.opn {P : Program} {H : Type} {enc : TypeId × Value → H} {w : World} {spare : Nat → Bool} {held : Bool} {fuel : Nat} {cs : List Value} {fs : List Field} {off : Nat} {α : Type} {f : α → List D} {ok : α → Prop} (h : OpensFW P fs off α f ok) :
    ∀ xs:List (DataW H × List MemPlace),xs.length=fs.length→(∀ (i:Nat) (f:Field),fs[i]?=some f→DataW.trod enc P w 0 spare held fuel f.type ((cs.drop f.offset).take (P.cellsOf f.type))=xs[i]?)→(∀ n,n ∈ DataW.weightsEach P (fs.map (·.type)) (xs.map (·.1))→n≤reachBytes) →
      ∃ a,ok a∧(0<(f a).length→off+(f a).length≤cs.length)∧∀ j,j<(f a).length→CR w (old w) ((f a).getD j .junk) (cs.getD (off+j) undef)∧(cs.getD (off+j) undef).oneCell'=true:=by
  induction h with
  | nil off=>intro _ _ _ _;exact ⟨(),trivial,fun h=>by simp at h,fun j hj=>by simp at hj⟩
  | cons hoff h t ih =>
    rename_i f fs off sz α β g ok g' ok'
    intro xs hxl hx hwt
    cases xs with
    | nil=>simp at hxl
    | cons y xs =>
    have hy:DataW.trod enc P w 0 spare held fuel f.type ((cs.drop f.offset).take (P.cellsOf f.type))=some y:=by simpa using hx 0 f rfl
    simp only [List.map_cons,DataW.weightsEach,List.mem_append] at hwt
    obtain ⟨b,hb,hl,hr⟩:=ih xs (by simpa using hxl) (fun i f hf=>by have:=hx (i+1) f (by simpa using hf);simpa using this) (fun n hn=>hwt n (.inr hn))
    rw [h.size,hoff] at hy
    obtain ⟨a,ha,hcl,hca⟩:=h.opn enc w spare held fuel _ _ hy (fun n hn=>hwt n (.inl hn))
    have hga:(g a).length=sz:=h.len a
    have hle:off+sz≤cs.length∨sz=0:=by
      rw [List.length_take,List.length_drop] at hcl
      omega
    have get:∀ j,j<sz→((cs.drop off).take sz).getD j undef=cs.getD (off+j) undef:=by
      intro j hj
      simp only [List.getD_eq_getElem?_getD,List.getElem?_take,hj,if_true,List.getElem?_drop]
    refine ⟨(a,b),⟨ha,hb⟩,fun hpos => ?_,fun j hj => ?_⟩
    · simp only [List.length_append,hga] at hpos ⊢
      by_cases h0:0<(g' b).length
      · have:=hl h0;omega
      · rcases hle with h|h<;>omega
    · simp only [List.length_append,hga] at hj
      simp only
      by_cases hlt:j<sz
      · have e1:(g a++g' b).getD j .junk=(g a).getD j .junk:=by simp only [List.getD_eq_getElem?_getD];rw [List.getElem?_append_left (by omega)]
        have:=hca j hlt
        rw [get j hlt] at this
        rw [e1];exact this
      · have e1:(g a++g' b).getD j .junk=(g' b).getD (j - sz) .junk:=by simp only [List.getD_eq_getElem?_getD];rw [List.getElem?_append_right (by omega),hga]
        have:=hr (j - sz) (by omega)
        rw [show off+sz+(j - sz)=off+j by omega] at this
        rw [e1];exact this
theorem OpensW.struct {P:Program} {t:TypeId} {fs:Array Field} {α:Type} {sz:Nat} {f:α→List D} {ok:α→Prop} (ht:P.underlying t=some (.struct fs)) (hc:P.cellsOf t=sz) (h:OpensFW P fs.toList 0 α f ok) (hl:∀ a,(f a).length=sz):OpensW P t sz f ok where
  size:=hc
  len:=hl
  opn enc w spare held fuel cs x hx hw:=by
    obtain ⟨xs,n,rfl,rfl,hcl,hxl,hf⟩:=DataW.trod_struct ht hx
    rw [hc] at hcl
    obtain ⟨a,ha,_,hr⟩:=h.opn (enc:=enc) (w:=w) (spare:=spare) (held:=held) (fuel:=n) (cs:=cs) xs (by simpa using hxl) (fun i f hf'=>hf i f (by simpa using hf')) (fun m hm=>hw m (by simpa only [DataW.weights,ht] using hm))
    refine ⟨a,ha,hcl,fun j hj => ?_⟩
    have:=hr j (by rw [hl];exact hj)
    rwa [Nat.zero_add] at this
theorem OpensW.slice {P : Program} {t e : TypeId} {α : Type} {sz by_ : Nat} {f : α → List D} {ok : α → Prop} (ht : P.underlying t = some (.slice e)) (hc : P.cellsOf t = 1) (hby : P.bytesOf e = by_) (h : OpensW P e sz f ok) (hz : 0 < sz) :
    OpensW P t 1 (fun l:List α=>[.sl sz (l.map f)]) (fun l=>(l.length≤maxLen∧l.length * by_≤reachBytes)∧∀ a,a ∈ l→ok a) where
  size:=hc
  len _:=rfl
  opn enc w spare held fuel cs x hx hw := by
    rcases DataW.trod_slice ht hx with ⟨rfl,rfl⟩|⟨a,len,cap,elems,rest,n,_,rfl,rfl,_,hl,hm,hlen,hel,_,_⟩
    · refine ⟨[],⟨⟨Nat.zero_le _,by simp⟩,by simp⟩,rfl,fun j hj => ?_⟩
      have:j=0:=by omega
      subst this
      exact ⟨.sl0 sz none 0,rfl⟩
    · simp only [DataW.weights,ht,List.mem_cons,List.mem_append] at hw
      have hw0:=hw _ (.inl rfl)
      have hw1:∀ n,n ∈ DataW.weightsAll P e (elems.map (·.1))→n≤reachBytes:=fun n hn=>hw n (.inr (.inl hn))
      have each:∀ i,i<len → ∃ y:α,ok y ∧ ∃ cs:List Value,cs.length=sz∧(∀ j,j<sz→w.cell? ((a.add (i * sz)).add j)=cs[j]?)∧∀ j,j<sz→CR w (old w) ((f y).getD j .junk) (cs.getD j undef)∧(cs.getD j undef).oneCell'=true:=by
        intro i hi
        have h1:=hel i hi
        rw [h.size,List.getElem?_eq_getElem (by omega),Option.bind_eq_some_iff] at h1
        obtain ⟨cs,hcs,htr⟩:=h1
        obtain ⟨_,hcl,hcc⟩:=World.cells?_some hcs
        obtain ⟨y,hy,hl1,hr⟩:=h.opn enc w spare held n cs _ htr (fun m hm=>hw1 m (weights_all (i:=i) (by rw [List.length_map];omega) m (by rw [List.getElem_map];exact hm)))
        exact ⟨y,hy,cs,hl1,hcc,hr⟩
      obtain ⟨l,hll,hp⟩:=choose_list (fun i y=>ok y ∧ ∃ cs:List Value,cs.length=sz∧(∀ j,j<sz→w.cell? ((a.add (i * sz)).add j)=cs[j]?)∧∀ j,j<sz→CR w (old w) ((f y).getD j .junk) (cs.getD j undef)∧(cs.getD j undef).oneCell'=true) len each
      refine ⟨l,⟨⟨by omega,?_⟩,fun y hy => ?_⟩,rfl,fun j hj => ?_⟩
      · rw [List.length_map,List.length_map,hby,Nat.add_mul] at hw0
        rw [hll,← hlen];omega
      · obtain ⟨i,hi⟩:=List.getElem?_of_mem hy
        exact (hp i y hi).1
      · have:j=0:=by omega
        subst this
        refine ⟨?_,rfl⟩
        show CR w (old w) (.sl sz (l.map f)) (.slice (some a) len cap)
        by_cases h0:len=0
        · have:l=[]:=List.eq_nil_of_length_eq_zero (by omega)
          subst this
          subst h0
          exact .sl0 sz _ _
        · have sp:a.spot=none:=by
            obtain ⟨_,cs,hcl,hcc,_⟩:=hp 0 (l[0]'(by omega)) (List.getElem?_eq_getElem (by omega))
            have h1:=hcc 0 hz
            rw [List.getElem?_eq_getElem (by omega)] at h1
            have:=World.cell?_spot h1
            simpa [Addr.add] using this
          obtain ⟨b,off,spot⟩:=a
          simp only at sp
          subst sp
          simp only [add_plain] at hp
          have key:∀ i,i<l.length → ∃ cs:List Value,ok (l.getD i (l[0]'(by omega)))∧cs.length=sz∧(∀ j,j<sz→w.cell? ⟨b,off+i * sz+j,none⟩=cs[j]?)∧∀ j,j<sz→CR w (old w) ((f (l.getD i (l[0]'(by omega)))).getD j .junk) (cs.getD j undef)∧(cs.getD j undef).oneCell'=true:=by
            intro i hi
            have e1:l.getD i (l[0]'(by omega))=l[i]:=by simp [List.getD,hi]
            rw [e1]
            obtain ⟨h1,cs,h2,h3,h4⟩:=hp i l[i] (List.getElem?_eq_getElem hi)
            exact ⟨cs,h1,h2,h3,h4⟩
          have row:∀ i,i<l.length→(l.map f).getD i []=f (l.getD i (l[0]'(by omega))):=by
            intro i hi
            simp [List.getD,hi]
          have cell:∀ i j,i<l.length→j<sz → ∃ u,w.cell? ⟨b,off+(i * sz+j),none⟩=some u∧u.oneCell'=true∧CR w (old w) (((l.map f).getD i []).getD j .junk) u:=by
            intro i j hi hj
            obtain ⟨cs,_,h2,h3,h4⟩:=key i hi
            refine ⟨cs.getD j undef,?_,(h4 j hj).2,by rw [row i hi];exact (h4 j hj).1⟩
            rw [← Nat.add_assoc,h3 j hj]
            simp [List.getD,h2,hj]
          refine .sl sz (l.map f) b off len cap (fun i j=>(w.cell? ⟨b,off+(i * sz+j),none⟩).getD undef) ?_ (by simp [hll]) hl ?_ ?_ ?_
          · obtain ⟨u,hu,_⟩:=cell 0 0 (by omega) hz
            exact cell_lt hu
          · intro i hi
            rw [row i (by simpa using hi)]
            exact h.len _
          · intro i j hi hj
            obtain ⟨u,hu,h1,_⟩:=cell i j (by simpa using hi) hj
            rw [hu]
            exact ⟨rfl,h1⟩
          · intro i j hi hj
            obtain ⟨u,hu,_,h2⟩:=cell i j (by simpa using hi) hj
            simp only [hu]
            exact h2
theorem OpensW.arg_slice {P:Program} {H:Type} {enc:TypeId × Value→H} {w:World} {spare:Nat→Bool} {held:Bool} {t e:TypeId} {α:Type} {f:α→List D} {ok:α→Prop} (h:OpensW P t 1 f ok) (ht:P.underlying t=some (.slice e)) {r:Reach} {b0:Nat} {v:Value} (hval:Value.okWide P w r b0 t v) {d:DataW H} {ps:List MemPlace} (hd:DataW.Trod enc P w 0 spare held t v d ps) (hw:∀ n,n ∈ d.weights P t→n≤reachBytes) :
    ∃ a,ok a∧CR w (old w) ((f a).getD 0 .junk) v:=by
  obtain ⟨a,len,cap,rfl⟩:=okWide_slice ht hval
  obtain ⟨fuel,hf⟩:=hd
  rw [cells_self rfl] at hf
  obtain ⟨a,ha,_,hr⟩:=h.opn enc w spare held fuel _ _ hf hw
  exact ⟨a,ha,(hr 0 (by omega)).1⟩
theorem weights_at {H:Type} {P:Program} {ts:List TypeId} {ds:List (DataW H)} (h:(DataW.weightsEach P ts ds).all (·≤reachBytes)=true) {j:Nat} {t:TypeId} {d:DataW H} (ht:ts[j]?=some t) (hd:ds[j]?=some d):∀ n,n ∈ d.weights P t→n≤reachBytes:=fun n hn=>by
  have:=List.all_eq_true.1 h _ (DataW.weights_mem_each ht hd n hn)
  simpa using this
def okR (r:Dm.Rule):Prop:=r.ok∧r.right.length * 8≤140737488351232
def okD (d:Dm.Deed):Prop:=d.ok∧d.rule.right.length * 8≤140737488351232
def okDs (l:List Dm.Deed):Prop:=okL okD l∧l.length * 96≤140737488351232
theorem Try.w_ints:OpensW Try.prog 28 1 (fun l=>[.sl 1 (i64s l)]) (fun l=>(l.length≤maxLen∧l.length * 8≤reachBytes)∧∀ x,x ∈ l→ok64 x) :=
  OpensW.slice Try.underlying28 (by kernel_rfl) (by kernel_rfl) (Opens.w Try.o_int) (by omega)
theorem Try.w_rul:OpensW Try.prog 30 2 rulD okR :=
  (OpensW.struct (sz:=2) Try.underlying30 (by kernel_rfl) (.cons rfl (Opens.w Try.o_int) (.cons rfl Try.w_ints (.nil _))) (fun _=>rfl)).map (fun _=>rfl) fun ⟨x0,x1,⟨⟩⟩ h=>⟨⟨x0,x1⟩,⟨⟨h.1,h.2.1.1.1,h.2.1.2⟩,h.2.1.1.2⟩,rfl⟩
theorem Try.w_dee:OpensW Try.prog 32 6 deeD okD :=
  (OpensW.struct (sz:=6) Try.underlying32 (by kernel_rfl) (.cons rfl (Opens.w Try.o_int) (.cons rfl Try.w_rul (.cons rfl Try.w_ints (.cons rfl (Opens.w Try.o_int64) (.cons rfl Try.w_ints (.nil _)))))) (fun _=>rfl)).map (fun _=>rfl) fun ⟨x0,x1,x2,x3,x4,⟨⟩⟩ h=>⟨⟨x0,x1,x2,x3,x4⟩,⟨⟨h.1,h.2.1.1,⟨h.2.2.1.1.1,h.2.2.1.2⟩,h.2.2.2.1,⟨h.2.2.2.2.1.1.1,h.2.2.2.2.1.2⟩⟩,h.2.1.2⟩,rfl⟩
theorem Try.w_dees:OpensW Try.prog 22 1 (fun l=>[.sl 6 (tbl deeD l)]) okDs :=
  (OpensW.slice Try.underlying22 (by kernel_rfl) (by kernel_rfl) Try.w_dee (by omega)).map (fun _=>rfl) fun l h=>⟨l,⟨⟨h.1.1,h.2⟩,h.1.2⟩,rfl⟩
end Go.Proofs.Ytjekkbpdgnohcaa

namespace Go.Dm
def nsum (f:Nat→Nat):Nat→Nat
  | 0=>0
  | n+1=>nsum f n+f n
theorem nsum_ext {f g:Nat→Nat}:∀ {n:Nat},(∀ m,m<n→f m=g m)→nsum f n=nsum g n
  | 0,_=>rfl
  | n+1,h=>by
    show nsum f n+f n=nsum g n+g n
    rw [nsum_ext fun m hm=>h m (by omega),h n (by omega)]
theorem nsum_zero {f:Nat→Nat}:∀ {n:Nat},(∀ m,m<n→f m=0)→nsum f n=0
  | 0,_=>rfl
  | n+1,h=>by
    show nsum f n+f n=0
    rw [nsum_zero fun m hm=>h m (by omega),h n (by omega)]
theorem nsum_mono {f:Nat→Nat} {n m:Nat} (h:n≤m):nsum f n≤nsum f m:=by
  induction m with
  | zero => have : n = 0 := by omega
            subst this;exact Nat.le_refl _
  | succ m ih =>
    by_cases e:n=m+1
    · subst e;exact Nat.le_refl _
    · exact Nat.le_trans (ih (by omega)) (Nat.le_add_right _ _)
def tsum (f:Nat→Nat) (a b:Nat):Nat:=nsum (fun m=>if a≤m then f m else 0) b
theorem tsum_succ {f:Nat→Nat} {a b:Nat} (h:a≤b):tsum f a (b+1)=tsum f a b+f b:=by
  show nsum _ b+(if a≤b then f b else 0)=_
  rw [if_pos h];rfl
theorem tsum_empty {f:Nat→Nat} {a b:Nat} (h:b≤a):tsum f a b=0:=nsum_zero fun m hm=>if_neg (by omega)
theorem tsum_ext {f g:Nat→Nat} {a b:Nat} (h:∀ m,a≤m→m<b→f m=g m):tsum f a b=tsum g a b:=nsum_ext fun m hm=>by
  split
  · exact h m (by assumption) hm
  · rfl
theorem tsum_zero {f:Nat→Nat} {a b:Nat} (h:∀ m,a≤m→m<b→f m=0):tsum f a b=0:=nsum_zero fun m hm=>by
  split
  · exact h m (by assumption) hm
  · rfl
def rowT (T:Int→Nat→Nat→Nat):List Int→Nat→Nat→Nat
  | [],i,j=>if i=j then 1 else 0
  | [s],i,j=>T s i j
  | s::s'::l,i,j=>tsum (fun m=>T s i m * rowT T (s'::l) m j) (i+1) j
theorem rowT_congr {T T':Int→Nat→Nat→Nat}:∀ {l:List Int} {i j:Nat},(∀ s,s ∈ l→∀ a b,i≤a→b≤j→T s a b=T' s a b)→rowT T l i j=rowT T' l i j
  | [],_,_,_=>rfl
  | [s],i,j,h=>h s (by simp) i j (Nat.le_refl _) (Nat.le_refl _)
  | s::s'::l,i,j,h=>tsum_ext fun m h1 h2=>by
    rw [h s (by simp) i m (Nat.le_refl _) (by omega),rowT_congr (l:=s'::l) fun x hx a b ha hb=>h x (List.mem_cons_of_mem _ hx) a b (by omega) hb]
def symV (w:List Int) (x:Int) (i j:Nat):Nat:=if j=i+1∧w.getD i 0=x then 1 else 0
def treeF (g:Grammar) (w:List Int):Nat→Int→Nat→Nat→Nat
  | 0,x,i,j=>if x<g.k then symV w x i j else 0
  | f+1,x,i,j=>if x<g.k then symV w x i j else nsum (fun q=>if (g.rules.getD q default).left=x - g.k then rowT (treeF g w f) (g.rules.getD q default).right i j else 0) g.rules.length
def Proper (g:Grammar):Prop:=∀ r,r ∈ g.rules→r.right ≠ []∧∀ x,r.right=[x]→x<g.k
theorem treeF_sym {g:Grammar} {w:List Int} {f:Nat} {x:Int} {i j:Nat} (h:x<g.k):treeF g w f x i j=symV w x i j:=by
  cases f<;>simp only [treeF,if_pos h]
theorem treeF_stable {g : Grammar} {w : List Int} (hp : Proper g) : ∀ (n f f' : Nat), n < f → n < f' → ∀ (x : Int) (i j : Nat), j - i ≤ n → treeF g w f x i j = treeF g w f' x i j := by
  intro n
  induction n with
  | zero =>
    intro f f' hf hf' x i j hij
    by_cases hx:x<g.k
    · rw [treeF_sym hx,treeF_sym hx]
    cases f with
    | zero=>omega
    | succ f=>cases f' with
      | zero=>omega
      | succ f' =>
        simp only [treeF,if_neg hx]
        refine nsum_ext fun q hq => ?_
        split
        · have hr:=hp _ (getD_mem' (l:=g.rules) (i:=q) hq)
          generalize (g.rules.getD q default).right=l at hr
          match l,hr with
          | [],hr=>exact absurd rfl hr.1
          | [s],hr =>
            have:=hr.2 s rfl
            show treeF g w f s i j=treeF g w f' s i j
            rw [treeF_sym this,treeF_sym this]
          | s::s'::l,hr =>
            show tsum _ _ _=tsum _ _ _
            rw [tsum_empty (by omega),tsum_empty (by omega)]
        · rfl
  | succ n ih =>
    intro f f' hf hf' x i j hij
    by_cases hx:x<g.k
    · rw [treeF_sym hx,treeF_sym hx]
    cases f with
    | zero=>omega
    | succ f=>cases f' with
      | zero=>omega
      | succ f' =>
        simp only [treeF,if_neg hx]
        refine nsum_ext fun q hq => ?_
        split
        · have hr:=hp _ (getD_mem' (l:=g.rules) (i:=q) hq)
          generalize (g.rules.getD q default).right=l at hr
          match l,hr with
          | [],hr=>exact absurd rfl hr.1
          | [s],hr =>
            have:=hr.2 s rfl
            show treeF g w f s i j=treeF g w f' s i j
            rw [treeF_sym this,treeF_sym this]
          | s::s'::l,hr =>
            refine tsum_ext fun m h1 h2 => ?_
            rw [ih f f' (by omega) (by omega) s i m (by omega),rowT_congr (l:=s'::l) fun x hx a b ha hb=>ih f f' (by omega) (by omega) x a b (by omega)]
        · rfl
def trees (g:Grammar) (w:List Int) (x:Int) (i j:Nat):Nat:=treeF g w (j - i+1) x i j
def rowN (g:Grammar) (w:List Int) (l:List Int) (i j:Nat):Nat:=rowT (trees g w) l i j
theorem trees_sym {g:Grammar} {w:List Int} {x:Int} {i j:Nat} (h:x<g.k):trees g w x i j=symV w x i j:=treeF_sym h
theorem trees_fuel {g:Grammar} {w:List Int} (hp:Proper g) {f:Nat} {x:Int} {i j:Nat} (h:j - i<f):treeF g w f x i j=trees g w x i j:=treeF_stable hp (j - i) _ _ h (by omega) x i j (Nat.le_refl _)
def ruleV (g:Grammar) (w:List Int) (x:Int) (i j q:Nat):Nat:=if (g.rules.getD q default).left=x - g.k then rowN g w (g.rules.getD q default).right i j else 0
theorem trees_name {g:Grammar} {w:List Int} (hp:Proper g) {x:Int} {i j:Nat} (h:¬ x<g.k):trees g w x i j=nsum (ruleV g w x i j) g.rules.length:=by
  unfold trees
  rw [treeF,if_neg h]
  refine nsum_ext fun q hq => ?_
  unfold ruleV rowN
  split
  · have hr:=hp _ (getD_mem' (l:=g.rules) (i:=q) hq)
    generalize (g.rules.getD q default).right=l at hr
    match l,hr with
    | [],hr=>exact absurd rfl hr.1
    | [s],hr =>
      have:=hr.2 s rfl
      show treeF g w _ s i j=trees g w s i j
      rw [treeF_sym this,trees_sym this]
    | s::s'::l,hr =>
      refine tsum_ext fun m h1 h2 => ?_
      rw [trees_fuel hp (by omega),rowT_congr (l:=s'::l) fun x hx a b ha hb=>trees_fuel hp (by omega)]
  · rfl
theorem rowN_nil {g:Grammar} {w:List Int} {i j:Nat}:rowN g w [] i j=if i=j then 1 else 0:=(rfl)
theorem rowN_one {g:Grammar} {w:List Int} {s:Int} {i j:Nat}:rowN g w [s] i j=trees g w s i j:=(rfl)
theorem rowN_two {g:Grammar} {w:List Int} {s s':Int} {l:List Int} {i j:Nat}:rowN g w (s::s'::l) i j=tsum (fun m=>trees g w s i m * rowN g w (s'::l) m j) (i+1) j:=(rfl)
theorem rowN_drop {g:Grammar} {w:List Int} {l:List Int} {q i j:Nat} (h:q+1<l.length):rowN g w (l.drop q) i j=tsum (fun m=>trees g w (l.getD q 0) i m * rowN g w (l.drop (q+1)) m j) (i+1) j:=by
  have e:l.drop q=l.getD q 0::l.drop (q+1):=by
    rw [List.drop_eq_getElem_cons (by omega)];simp [List.getD,show q<l.length by omega]
  have e2:l.drop (q+1)=l.getD (q+1) 0::l.drop (q+2):=by
    rw [List.drop_eq_getElem_cons (by omega)];simp [List.getD,show q+1<l.length by omega]
  rw [e,e2,rowN_two,← e2]
theorem rowN_last {g:Grammar} {w:List Int} {l:List Int} {q i j:Nat} (h:q+1=l.length):rowN g w (l.drop q) i j=trees g w (l.getD q 0) i j:=by
  have e:l.drop q=l.getD q 0::l.drop (q+1):=by
    rw [List.drop_eq_getElem_cons (by omega)];simp [List.getD,show q<l.length by omega]
  rw [e,List.drop_of_length_le (by omega),rowN_one]
theorem rowT_short {T:Int→Nat→Nat→Nat} (hT:∀ s a b,b≤a→T s a b=0):∀ {l:List Int} {i j:Nat},j - i<l.length→rowT T l i j=0
  | [],_,_,h=>absurd h (Nat.not_lt_zero _)
  | [s],i,j,h=>hT s i j (by simp at h;omega)
  | s::s'::l,i,j,h=>tsum_zero fun m h1 h2=>by
    rw [rowT_short hT (l:=s'::l) (by simp only [List.length_cons] at h ⊢;omega),Nat.mul_zero]
theorem treeF_none {g:Grammar} {w:List Int} (hp:Proper g):∀ {f:Nat} {x:Int} {i j:Nat},j≤i→treeF g w f x i j=0
  | f, x, i, j, h => by
    by_cases hx:x<g.k
    · rw [treeF_sym hx];exact if_neg (by omega)
    cases f with
    | zero=>simp only [treeF,if_neg hx]
    | succ f =>
      simp only [treeF,if_neg hx]
      refine nsum_zero fun q hq => ?_
      split
      · exact rowT_short (fun s a b hab=>treeF_none hp hab) (by
          have hr:=(hp _ (getD_mem' (l:=g.rules) (i:=q) hq)).1
          have:=List.length_pos_iff.mpr hr
          omega)
      · rfl
theorem trees_none {g:Grammar} {w:List Int} (hp:Proper g) {x:Int} {i j:Nat} (h:j≤i):trees g w x i j=0:=treeF_none hp h
theorem rowN_short {g:Grammar} {w:List Int} (hp:Proper g) {l:List Int} {i j:Nat} (h:j - i<l.length):rowN g w l i j=0:=rowT_short (fun s a b hab=>trees_none hp hab) h
def cp (n:Nat):Nat:=min n 1099511627777
theorem cp_le {n:Nat}:cp n≤1099511627777:=Nat.min_le_right ..
theorem cp_add {a b:Nat}:min (cp a+cp b) 1099511627777=cp (a+b):=by unfold cp;omega
theorem cp_zero {n:Nat}:cp n=0 ↔ n=0:=by unfold cp;omega
theorem cp_mul {a b:Nat}:min (cp a * cp b) 1099511627777=cp (a * b):=by
  by_cases ha:a=0
  · subst ha;simp [cp]
  by_cases hb:b=0
  · subst hb;simp [cp]
  by_cases h1:a≤1099511627777
  · by_cases h2:b≤1099511627777
    · have e1:cp a=a:=Nat.min_eq_left h1
      have e2:cp b=b:=Nat.min_eq_left h2
      rw [e1,e2];rfl
    · have e2:cp b=1099511627777:=Nat.min_eq_right (by omega)
      have h3:1099511627777≤a * b:=Nat.le_trans (show 1099511627777≤b by omega) (Nat.le_mul_of_pos_left b (by omega))
      have h4:1099511627777≤cp a * 1099511627777:=Nat.le_mul_of_pos_left _ (by unfold cp;omega)
      rw [e2];unfold cp at h4 ⊢;omega
  · have e1:cp a=1099511627777:=Nat.min_eq_right (by omega)
    have h3:1099511627777≤a * b:=Nat.le_trans (show 1099511627777≤a by omega) (Nat.le_mul_of_pos_right a (by omega))
    have h4:1099511627777≤1099511627777 * cp b:=Nat.le_mul_of_pos_right _ (by unfold cp;omega)
    rw [e1];unfold cp at h4 ⊢;omega
end Go.Dm
