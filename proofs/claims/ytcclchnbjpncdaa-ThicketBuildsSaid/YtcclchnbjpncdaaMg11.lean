/-
 Texts of this claim, one behind another.
-/
import Derived.ProofKit
import Derived.Test.YtcclchnbjpncdaaDmD
import Derived.Test.YtcclchnbjpncdaaProg
import Derived.KernelRfl
set_option linter.unusedSimpArgs false
set_option linter.unnecessarySimpa false
set_option linter.unusedVariables false
set_option linter.defProp false
namespace Go.Dm
open Go.ChangeShapes Go.WideShapes Go.ChangeAt Go.RowKit
def old (w:World):Nat→Prop:=fun b=>b<w.heap.size
structure Opens (P:Program) (t:TypeId) {α:Type} (sz:Nat) (f:α→List D) (ok:α→Prop):Prop where
  size:P.cellsOf t=sz
  len:∀ a,(f a).length=sz
  opn:∀ {H:Type} (enc:TypeId × Value→H) (w:World) (spare:Nat→Bool) (held:Bool) (fuel:Nat) (cs:List Value) (x:DataW H × List MemPlace),DataW.trod enc P w 0 spare held fuel t cs=some x →
    ∃ a,ok a∧cs.length=sz∧∀ j,j<sz→CR w (old w) ((f a).getD j .junk) (cs.getD j undef)∧(cs.getD j undef).oneCell'=true
section
variable {P:Program}
theorem Opens.int {t:TypeId} {k:IntKind} (ht:P.underlying t=some (.int k)) (hc:P.cellsOf t=1):Opens P t 1 (fun n:Int=>[.v (.int k n)]) (fun n=>(Lit.int k n).wf=true) where
  size:=hc
  len _:=rfl
  opn enc w spare held fuel cs x h:=by
    obtain ⟨n,rfl,_,hw⟩:=DataW.trod_int ht h
    refine ⟨n,hw,rfl,fun j hj => ?_⟩
    have:j=0:=by omega
    subst this
    exact ⟨.v _,rfl⟩
theorem Opens.bool {t:TypeId} (ht:P.underlying t=some .bool) (hc:P.cellsOf t=1):Opens P t 1 (fun n:Bool=>[.v (.bool n)]) (fun _=>True) where
  size:=hc
  len _:=rfl
  opn enc w spare held fuel cs x h:=by
    obtain ⟨n,rfl,_⟩:=DataW.trod_bool ht h
    refine ⟨n,trivial,rfl,fun j hj => ?_⟩
    have:j=0:=by omega
    subst this
    exact ⟨.v _,rfl⟩
theorem Opens.map {t:TypeId} {α β:Type} {sz:Nat} {f:α→List D} {ok:α→Prop} {g:β→List D} {ok':β→Prop} (h:Opens P t sz f ok) (hl:∀ b,(g b).length=sz) (hm:∀ a,ok a → ∃ b,ok' b∧g b=f a):Opens P t sz g ok' where
  size:=h.size
  len:=hl
  opn enc w spare held fuel cs x hx:=by
    obtain ⟨a,ha,h1,h2⟩:=h.opn enc w spare held fuel cs x hx
    obtain ⟨b,hb,e⟩:=hm a ha
    exact ⟨b,hb,h1,by rw [e];exact h2⟩
theorem Opens.u8 {t:TypeId} (ht:P.underlying t=some (.int .u8)) (hc:P.cellsOf t=1):Opens P t 1 (fun n:UInt8=>[.v (.int .u8 (n.toNat:Int))]) (fun _=>True) :=
  (Opens.int ht hc).map (fun _=>rfl) fun n hn=>by
    have h:0≤n∧n≤255:=by
      simp only [Lit.wf,Bool.and_eq_true,decide_eq_true_eq] at hn
      exact hn
    refine ⟨UInt8.ofNat n.toNat,trivial,?_⟩
    have e:((UInt8.ofNat n.toNat).toNat:Int)=n:=by
      rw [UInt8.toNat_ofNat']
      omega
    rw [e]
theorem Opens.i64 {t:TypeId} (ht:P.underlying t=some (.int .i64)) (hc:P.cellsOf t=1):Opens P t 1 (fun n:Int=>[.v (.int .i64 n)]) (fun n => -9223372036854775808≤n∧n≤9223372036854775807) :=
  (Opens.int ht hc).map (fun _=>rfl) fun n hn=>by
    simp only [Lit.wf,Bool.and_eq_true,decide_eq_true_eq] at hn
    exact ⟨n,hn,rfl⟩
inductive OpensFs (P:Program):List Field→Nat→(α:Type)→(α→List D)→(α→Prop)→Prop
  | nil (off:Nat):OpensFs P [] off Unit (fun _=>[]) (fun _=>True)
  | cons {f:Field} {fs:List Field} {off sz:Nat} {α β:Type} {g:α→List D} {ok:α→Prop} {g':β→List D} {ok':β→Prop} (hoff:f.offset=off) (h:Opens P f.type sz g ok) (t:OpensFs P fs (off+sz) β g' ok') :
      OpensFs P (f::fs) off (α × β) (fun x=>g x.1++g' x.2) (fun x=>ok x.1∧ok' x.2)
theorem OpensFs.opn {H : Type} {enc : TypeId × Value → H} {w : World} {spare : Nat → Bool} {held : Bool} {fuel : Nat} {cs : List Value} {fs : List Field} {off : Nat} {α : Type} {f : α → List D} {ok : α → Prop} (h : OpensFs P fs off α f ok) :
    (∀ f,f ∈ fs → ∃ y,DataW.trod enc P w 0 spare held fuel f.type ((cs.drop f.offset).take (P.cellsOf f.type))=some y) →
      ∃ a,ok a∧(0<(f a).length→off+(f a).length≤cs.length)∧∀ j,j<(f a).length→CR w (old w) ((f a).getD j .junk) (cs.getD (off+j) undef)∧(cs.getD (off+j) undef).oneCell'=true:=by
  induction h with
  | nil off=>intro _;exact ⟨(),trivial,fun h=>by simp at h,fun j hj=>by simp at hj⟩
  | cons hoff h t ih =>
    rename_i f fs off sz α β g ok g' ok'
    intro hx
    obtain ⟨y,hy⟩:=hx f (by simp)
    obtain ⟨b,hb,hl,hr⟩:=ih (fun f hf=>hx f (by simp [hf]))
    rw [h.size,hoff] at hy
    obtain ⟨a,ha,hcl,hca⟩:=h.opn enc w spare held fuel _ _ hy
    have hga:(g a).length=sz:=h.len a
    have hle:off+sz≤cs.length∨sz=0:=by
      rw [List.length_take,List.length_drop] at hcl
      omega
    have get:∀ j,j<sz→((cs.drop off).take sz).getD j undef=cs.getD (off+j) undef:=by
      intro j hj
      simp only [List.getD_eq_getElem?_getD,List.getElem?_take,hj,if_true,List.getElem?_drop]
    refine ⟨(a,b),⟨ha,hb⟩,fun hpos => ?_,fun j hj => ?_⟩
    · simp only [List.length_append,hga] at hpos ⊢
      by_cases h0:0<(g' b).length
      · have:=hl h0;omega
      · rcases hle with h|h<;>omega
    · simp only [List.length_append,hga] at hj
      simp only
      by_cases hlt:j<sz
      · have e1:(g a++g' b).getD j .junk=(g a).getD j .junk:=by simp only [List.getD_eq_getElem?_getD];rw [List.getElem?_append_left (by omega)]
        have:=hca j hlt
        rw [get j hlt] at this
        rw [e1];exact this
      · have e1:(g a++g' b).getD j .junk=(g' b).getD (j - sz) .junk:=by simp only [List.getD_eq_getElem?_getD];rw [List.getElem?_append_right (by omega),hga]
        have:=hr (j - sz) (by omega)
        rw [show off+sz+(j - sz)=off+j by omega] at this
        rw [e1];exact this
theorem OpensFs.len {fs:List Field} {off:Nat} {α:Type} {f:α→List D} {ok:α→Prop} (h:OpensFs P fs off α f ok) : ∃ n,∀ a,(f a).length=n:=by
  induction h with
  | nil off=>exact ⟨0,fun _=>rfl⟩
  | cons hoff h t ih =>
    obtain ⟨n,hn⟩:=ih
    exact ⟨_,fun a=>by rw [List.length_append,h.len,hn]⟩
theorem Opens.struct {t : TypeId} {fs : Array Field} {α : Type} {sz : Nat} {f : α → List D} {ok : α → Prop} (ht : P.underlying t = some (.struct fs)) (hc : P.cellsOf t = sz) (h : OpensFs P fs.toList 0 α f ok) (hl : ∀ a, (f a).length = sz) : Opens P t sz f ok where
  size:=hc
  len:=hl
  opn enc w spare held fuel cs x hx := by
    obtain ⟨xs,n,rfl,_,hcl,hxl,hf⟩:=DataW.trod_struct ht hx
    rw [hc] at hcl
    obtain ⟨a,ha,_,hr⟩:=h.opn (enc:=enc) (w:=w) (spare:=spare) (held:=held) (fuel:=n) (cs:=cs) (fun f hf'=>by
      obtain ⟨i,hi⟩:=List.getElem?_of_mem hf'
      have h1:=hf i f (by simpa using hi)
      have h2:i<xs.length:=by
        have:=(List.getElem?_eq_some_iff.1 hi).1
        simp at this;omega
      rw [List.getElem?_eq_getElem h2] at h1
      exact ⟨_,h1⟩)
    refine ⟨a,ha,hcl,fun j hj => ?_⟩
    have:=hr j (by rw [hl];exact hj)
    rwa [Nat.zero_add] at this
theorem Opens.u32 {t:TypeId} (ht:P.underlying t=some (.int .u32)) (hc:P.cellsOf t=1):Opens P t 1 (fun n:Int=>[.v (.int .u32 n)]) (fun n=>0≤n∧n≤4294967295) :=
  (Opens.int ht hc).map (fun _=>rfl) fun n hn=>by
    simp only [Lit.wf,Bool.and_eq_true,decide_eq_true_eq] at hn
    exact ⟨n,hn,rfl⟩
theorem choose_list {α : Type} (p : Nat → α → Prop) : ∀ n : Nat, (∀ i, i < n → ∃ a, p i a) → ∃ l : List α, l.length = n ∧ ∀ i a, l[i]? = some a → p i a
  | 0,_=>⟨[],rfl,fun i a h=>by simp at h⟩
  | n + 1, h => by
    obtain ⟨l,hl,hp⟩:=choose_list p n (fun i hi=>h i (by omega))
    obtain ⟨a,ha⟩:=h n (by omega)
    refine ⟨l++[a],by simp [hl],fun i b hb => ?_⟩
    by_cases hi:i<n
    · rw [List.getElem?_append_left (by omega)] at hb
      exact hp i b hb
    · rw [List.getElem?_append_right (by omega)] at hb
      have:i=n:=by
        have:=(List.getElem?_eq_some_iff.1 hb).1
        simp at this
        omega
      subst this
      simp [hl] at hb
      exact hb ▸ ha
theorem cell_lt {w:World} {b off:Nat} {v:Value} (h:w.cell? ⟨b,off,none⟩=some v):b<w.heap.size:=by
  by_cases hb:b<w.heap.size
  · exact hb
  · have:w.heap[b]?=none:=by simp;omega
    simp [World.cell?,this] at h
theorem Opens.slice {t e : TypeId} {α : Type} {sz : Nat} {f : α → List D} {ok : α → Prop} (ht : P.underlying t = some (.slice e)) (hc : P.cellsOf t = 1) (h : Opens P e sz f ok) (hz : 0 < sz) :
    Opens P t 1 (fun l:List α=>[.sl sz (l.map f)]) (fun l=>l.length≤maxLen∧∀ a,a ∈ l→ok a) where
  size:=hc
  len _:=rfl
  opn enc w spare held fuel cs x hx := by
    rcases DataW.trod_slice ht hx with ⟨rfl,_⟩|⟨a,len,cap,elems,rest,n,_,rfl,_,_,hl,hm,hlen,hel,_,_⟩
    · refine ⟨[],⟨Nat.zero_le _,by simp⟩,rfl,fun j hj => ?_⟩
      have:j=0:=by omega
      subst this
      exact ⟨.sl0 sz none 0,rfl⟩
    · have each:∀ i,i<len → ∃ y:α,ok y ∧ ∃ cs:List Value,cs.length=sz∧(∀ j,j<sz→w.cell? ((a.add (i * sz)).add j)=cs[j]?)∧∀ j,j<sz→CR w (old w) ((f y).getD j .junk) (cs.getD j undef)∧(cs.getD j undef).oneCell'=true:=by
        intro i hi
        have h1:=hel i hi
        rw [h.size,List.getElem?_eq_getElem (by omega),Option.bind_eq_some_iff] at h1
        obtain ⟨cs,hcs,htr⟩:=h1
        obtain ⟨_,hcl,hcc⟩:=World.cells?_some hcs
        obtain ⟨y,hy,hl1,hr⟩:=h.opn enc w spare held n cs _ htr
        exact ⟨y,hy,cs,hl1,hcc,hr⟩
      obtain ⟨l,hll,hp⟩:=choose_list (fun i y=>ok y ∧ ∃ cs:List Value,cs.length=sz∧(∀ j,j<sz→w.cell? ((a.add (i * sz)).add j)=cs[j]?)∧∀ j,j<sz→CR w (old w) ((f y).getD j .junk) (cs.getD j undef)∧(cs.getD j undef).oneCell'=true) len each
      refine ⟨l,⟨by omega,fun y hy => ?_⟩,rfl,fun j hj => ?_⟩
      · obtain ⟨i,hi⟩:=List.getElem?_of_mem hy
        exact (hp i y hi).1
      · have:j=0:=by omega
        subst this
        refine ⟨?_,rfl⟩
        show CR w (old w) (.sl sz (l.map f)) (.slice (some a) len cap)
        by_cases h0:len=0
        · have:l=[]:=List.eq_nil_of_length_eq_zero (by omega)
          subst this
          subst h0
          exact .sl0 sz _ _
        · have sp:a.spot=none:=by
            obtain ⟨_,cs,hcl,hcc,_⟩:=hp 0 (l[0]'(by omega)) (List.getElem?_eq_getElem (by omega))
            have h1:=hcc 0 hz
            rw [List.getElem?_eq_getElem (by omega)] at h1
            have:=World.cell?_spot h1
            simpa [Addr.add] using this
          obtain ⟨b,off,spot⟩:=a
          simp only at sp
          subst sp
          simp only [add_plain] at hp
          have key:∀ i,i<l.length → ∃ cs:List Value,ok (l.getD i (l[0]'(by omega)))∧cs.length=sz∧(∀ j,j<sz→w.cell? ⟨b,off+i * sz+j,none⟩=cs[j]?)∧∀ j,j<sz→CR w (old w) ((f (l.getD i (l[0]'(by omega)))).getD j .junk) (cs.getD j undef)∧(cs.getD j undef).oneCell'=true:=by
            intro i hi
            have e1:l.getD i (l[0]'(by omega))=l[i]:=by simp [List.getD,hi]
            rw [e1]
            obtain ⟨h1,cs,h2,h3,h4⟩:=hp i l[i] (List.getElem?_eq_getElem hi)
            exact ⟨cs,h1,h2,h3,h4⟩
          have row:∀ i,i<l.length→(l.map f).getD i []=f (l.getD i (l[0]'(by omega))):=by
            intro i hi
            simp [List.getD,hi]
          have cell:∀ i j,i<l.length→j<sz → ∃ u,w.cell? ⟨b,off+(i * sz+j),none⟩=some u∧u.oneCell'=true∧CR w (old w) (((l.map f).getD i []).getD j .junk) u:=by
            intro i j hi hj
            obtain ⟨cs,_,h2,h3,h4⟩:=key i hi
            refine ⟨cs.getD j undef,?_,(h4 j hj).2,by rw [row i hi];exact (h4 j hj).1⟩
            rw [← Nat.add_assoc,h3 j hj]
            simp [List.getD,h2,hj]
          refine .sl sz (l.map f) b off len cap (fun i j=>(w.cell? ⟨b,off+(i * sz+j),none⟩).getD undef) ?_ (by simp [hll]) hl ?_ ?_ ?_
          · obtain ⟨u,hu,_⟩:=cell 0 0 (by omega) hz
            exact cell_lt hu
          · intro i hi
            rw [row i (by simpa using hi)]
            exact h.len _
          · intro i j hi hj
            obtain ⟨u,hu,h1,_⟩:=cell i j (by simpa using hi) hj
            rw [hu]
            exact ⟨rfl,h1⟩
          · intro i j hi hj
            obtain ⟨u,hu,_,h2⟩:=cell i j (by simpa using hi) hj
            simp only [hu]
            exact h2
variable {H:Type} {enc:TypeId × Value→H} {w:World} {spare:Nat→Bool} {held:Bool}
theorem cells_self {v:Value} (h:v.oneCell'=true):v.cells.toList=[v]:=by
  cases v<;>first|rfl|cases h
theorem Opens.val {t:TypeId} {α:Type} {f:α→List D} {ok:α→Prop} (h:Opens P t 1 f ok) {v:Value} (hv:v.oneCell'=true) {d:DataW H} {ps:List MemPlace} (hd:DataW.Trod enc P w 0 spare held t v d ps) :
    ∃ a,ok a∧CR w (old w) ((f a).getD 0 .junk) v:=by
  obtain ⟨fuel,hf⟩:=hd
  rw [cells_self hv] at hf
  obtain ⟨a,ha,_,hr⟩:=h.opn enc w spare held fuel _ _ hf
  exact ⟨a,ha,(hr 0 (by omega)).1⟩
theorem Opens.arg_slice {t e:TypeId} {α:Type} {f:α→List D} {ok:α→Prop} (h:Opens P t 1 f ok) (ht:P.underlying t=some (.slice e)) {r:Reach} {b0:Nat} {v:Value} (hval:Value.okWide P w r b0 t v) {d:DataW H} {ps:List MemPlace} (hd:DataW.Trod enc P w 0 spare held t v d ps) :
    ∃ a,ok a∧CR w (old w) ((f a).getD 0 .junk) v:=by
  obtain ⟨a,len,cap,rfl⟩:=okWide_slice ht hval
  exact h.val rfl hd
theorem Opens.arg_struct {t:TypeId} {fs:Array Field} {α:Type} {sz:Nat} {f:α→List D} {ok:α→Prop} (h:Opens P t sz f ok) (ht:P.underlying t=some (.struct fs)) {r:Reach} {b0:Nat} {v:Value} (hval:Value.okWide P w r b0 t v) {d:DataW H} {ps:List MemPlace} (hd:DataW.Trod enc P w 0 spare held t v d ps) :
    ∃ a,ok a∧CR w (old w) (.ag (f a)) v:=by
  simp only [Value.okWide,ht] at hval
  obtain ⟨cs,rfl,_,_⟩:=hval
  obtain ⟨fuel,hf⟩:=hd
  obtain ⟨a,ha,hl,hr⟩:=h.opn enc w spare held fuel _ _ hf
  refine ⟨a,ha,.ag _ _ (by rw [h.len];simpa [Value.cells] using hl) fun i hi => ?_⟩
  rw [h.len] at hi
  have:=(hr i hi).1
  simpa [Value.cells,Array.getD_eq_getD_getElem?,List.getD] using this
theorem trodAll_stays (hl:laidOutB P=true) {W W':World} (hb:Below W.heap.size W W'):∀ {ts:List TypeId} {vs:List Value} {ds:List (DataW H)} {ps:List MemPlace},(∀ t,t ∈ ts→P.readableRec t=true∧t<P.types.size) →
    DataW.TrodAll enc P W 0 (fun _=>true) true ts vs ds ps→(∀ p,p ∈ ps→p.block<W.heap.size)→DataW.TrodAll enc P W' 0 (fun b=>decide (b<W.heap.size)) true ts vs ds ps
  | [],_,_,_,_,h,_=>by
    obtain ⟨rfl,rfl,rfl⟩:=trodAll_nil h
    exact trodAll_mk0
  | t::ts,_,_,_,hr,h,hlt=>by
    obtain ⟨v,vs1,d,ds1,a,b,rfl,rfl,rfl,h1,h2⟩:=trodAll_cons h
    exact ⟨a,b,Below.trod hl (hr t (by simp)).1 (hr t (by simp)).2 h1 hb (fun x hx=>hlt x (by simp [hx])),trodAll_stays hl hb (fun t ht=>hr t (by simp [ht])) h2 (fun x hx=>hlt x (by simp [hx])),rfl⟩
theorem row_of_spec (hl:laidOutB P=true) {f:Func} {fid:FuncId} {s:ChangeSpec} {args:Array Value} {ds gs:List (DataW H)} {before:List MemPlace} {W:World} {tb:TypeId} {dd:List D}
    (hvars:s.vars=[]) (hrt:f.resultTypes = #[tb]) (htb:P.underlying tb=some .bool)
    (hr:f.params.toList.all (fun t=>P.readableRec t && decide (t<P.types.size))=true)
    (hfn:s.fn H (ds++gs)={ results:=[.lit (.bool true)],args:=ds })
    (hW:DataW.Whole enc P f.params.toList s.vars false W args.toList ds gs before)
    (hn:args.size=dd.length) (hcr:∀ i,i<dd.length→CR W (old W) (dd.getD i .junk) (args.getD i undef))
    (hs:Spec P fid dd (·=.v (.bool true))) :
    Calls P fid args W fun e W' => ∃ v,e=.returned v∧s.post enc P f false true false false W args v W':=by
  refine (hs.2 W (old W) args (fun _ h=>h) hn hcr).mono ?_
  rintro e W' ⟨x,d,rfl,rfl,hb,hx⟩
  cases hx
  refine ⟨_,rfl,?_⟩
  have hW':=hW
  obtain ⟨p,q,hA,hV,rfl,_,_⟩:=hW
  rw [hvars] at hV
  obtain ⟨rfl,rfl⟩:=trodVars_none hV
  have hlt:∀ x,x ∈ p→x.block<W.heap.size:=fun x hx=>hW'.lt x (by simp [hx])
  have hr':∀ t,t ∈ f.params.toList→P.readableRec t=true∧t<P.types.size:=fun t ht=>by
    have:=List.all_eq_true.1 hr t ht
    simpa using this
  refine ⟨_,_,_,[],p,[],hW',?_,?_,?_,?_,fun h=>by cases h⟩
  · rw [hfn,hrt]
    exact trodAll_mk1 (shut_bool htb true)
  · rw [hfn]
    exact trodAll_stays hl hb hr' hA hlt
  · rw [hfn,hvars]
    rfl
  · exact hb.frame _
end
end Go.Dm

namespace Go.Dm
def tbl {α:Type} (f:α→List D) (l:List α):List (List D):=l.map f
theorem tbl_len {α:Type} {f:α→List D} {l:List α}:(tbl f l).length=l.length:=by simp [tbl]
theorem tbl_get {α:Type} [Inhabited α] {f:α→List D} {l:List α} {i:Nat} (h:i<l.length):(tbl f l).getD i []=f (l.getD i default):=map_getD _ l i [] default h
theorem tbl_app {α:Type} {f:α→List D} {l:List α} {x:α}:tbl f (l++[x])=tbl f l++[f x]:=by simp [tbl]
theorem tbl_take {α:Type} {f:α→List D} {l:List α} {n:Nat}:(tbl f l).take n=tbl f (l.take n):=by simp [tbl,List.map_take]
theorem tbl_drop {α:Type} {f:α→List D} {l:List α} {n:Nat}:(tbl f l).drop n=tbl f (l.drop n):=by simp [tbl,List.map_drop]
theorem tbl_set {α:Type} {f:α→List D} {l:List α} {i:Nat} {x:α}:(tbl f l).set i (f x)=tbl f (l.set i x):=by simp [tbl,List.map_set]
theorem tbl_nil {α:Type} {f:α→List D}:tbl f []=[]:=(rfl)
theorem rows_app {α:Type} {f:α→List (List D)} {l:List α} {x:α}:rows f (l++[x])=rows f l++[[.sl 1 (f x)]]:=by simp [rows]
theorem rows_take {α:Type} {f:α→List (List D)} {l:List α} {n:Nat}:(rows f l).take n=rows f (l.take n):=by simp [rows,List.map_take]
theorem rows_drop {α:Type} {f:α→List (List D)} {l:List α} {n:Nat}:(rows f l).drop n=rows f (l.drop n):=by simp [rows,List.map_drop]
structure Arc where
  fr:Int
  sym:Int
  to:Int
structure Net where
  n:Int
  k:Int
  arcs:List Arc
  start:Int
  final:Int
structure Machine where
  n:Int
  k:Int
  next:List (List Int)
  start:Int
  final:Int
structure Node where
  kind:Int
  a:Int
  b:Int
structure Turner where
  n:Int
  k:Int
  l:Int
  next:List (List Int)
  out:List (List (List Int))
  start:Int
structure Rule where
  left:Int
  right:List Int
structure Grammar where
  k:Int
  n:Int
  start:Int
  rules:List Rule
structure Opr where
  level:Int
  right:Bool
structure Spot where
  sign:Int
  fr:Int
  to:Int
  ways:List (List Int)
structure Thicket where
  spots:List Spot
  root:Int
structure Deed where
  kind:Int
  rule:Rule
  word:List Int
  n:Int
  steps:List Int
instance : Inhabited Arc:=⟨⟨0,0,0⟩⟩
instance : Inhabited Node:=⟨⟨0,0,0⟩⟩
instance : Inhabited Rule:=⟨⟨0,[]⟩⟩
instance : Inhabited Opr:=⟨⟨0,false⟩⟩
instance : Inhabited Spot:=⟨⟨0,0,0,[]⟩⟩
instance : Inhabited Deed:=⟨⟨0,⟨0,[]⟩,[],0,[]⟩⟩
instance : Inhabited Machine:=⟨⟨0,0,[],0,0⟩⟩
def arcD (a:Arc):List D:=[iv .i64 a.fr,iv .i64 a.sym,iv .i64 a.to]
def netD (n:Net):List D:=[iv .i64 n.n,iv .i64 n.k,.sl 3 (tbl arcD n.arcs),iv .u32 n.start,iv .u32 n.final]
def macD (m:Machine):List D:=[iv .i64 m.n,iv .i64 m.k,.sl 1 (rows i64s m.next),iv .i64 m.start,iv .u32 m.final]
def nodD (n:Node):List D:=[iv .i64 n.kind,iv .i64 n.a,iv .i64 n.b]
def turD (t:Turner):List D:=[iv .i64 t.n,iv .i64 t.k,iv .i64 t.l,.sl 1 (rows i64s t.next),.sl 1 (rows (rows i64s) t.out),iv .i64 t.start]
def rulD (r:Rule):List D:=[iv .i64 r.left,.sl 1 (i64s r.right)]
def graD (g:Grammar):List D:=[iv .i64 g.k,iv .i64 g.n,iv .i64 g.start,.sl 2 (tbl rulD g.rules)]
def oprD (o:Opr):List D:=[iv .i64 o.level,.v (.bool o.right)]
def spoD (s:Spot):List D:=[iv .i64 s.sign,iv .i64 s.fr,iv .i64 s.to,.sl 1 (rows i64s s.ways)]
def thiD (t:Thicket):List D:=[.sl 4 (tbl spoD t.spots),iv .i64 t.root]
def deeD (d:Deed):List D:=[iv .i64 d.kind,iv .i64 d.rule.left,.sl 1 (i64s d.rule.right),.sl 1 (i64s d.word),iv .i64 d.n,.sl 1 (i64s d.steps)]
def ok64 (n:Int):Prop := -9223372036854775808≤n∧n≤9223372036854775807
def ok32 (n:Int):Prop:=0≤n∧n≤4294967295
def okL {α:Type} (p:α→Prop) (l:List α):Prop:=l.length≤maxLen∧∀ a,a ∈ l→p a
def Arc.ok (a:Arc):Prop:=ok64 a.fr∧ok64 a.sym∧ok64 a.to
def Net.ok (n:Net):Prop:=ok64 n.n∧ok64 n.k∧okL Arc.ok n.arcs∧ok32 n.start∧ok32 n.final
def Machine.ok (m:Machine):Prop:=ok64 m.n∧ok64 m.k∧okL (okL ok64) m.next∧ok64 m.start∧ok32 m.final
def Node.ok (n:Node):Prop:=ok64 n.kind∧ok64 n.a∧ok64 n.b
def Turner.ok (t:Turner):Prop:=ok64 t.n∧ok64 t.k∧ok64 t.l∧okL (okL ok64) t.next∧okL (okL (okL ok64)) t.out∧ok64 t.start
def Rule.ok (r:Rule):Prop:=ok64 r.left∧okL ok64 r.right
def Grammar.ok (g:Grammar):Prop:=ok64 g.k∧ok64 g.n∧ok64 g.start∧okL Rule.ok g.rules
def Opr.ok (o:Opr):Prop:=ok64 o.level
def Spot.ok (s:Spot):Prop:=ok64 s.sign∧ok64 s.fr∧ok64 s.to∧okL (okL ok64) s.ways
def Thicket.ok (t:Thicket):Prop:=okL Spot.ok t.spots∧ok64 t.root
def Deed.ok (d:Deed):Prop:=ok64 d.kind∧d.rule.ok∧okL ok64 d.word∧ok64 d.n∧okL ok64 d.steps
theorem maxLen_le {n:Nat} (h:n≤maxLen):n≤9223372036854775807:=Nat.le_trans h (by decide)
theorem arcD_eq {a:Arc}:arcD a=[iv .i64 a.fr,iv .i64 a.sym,iv .i64 a.to]:=(rfl)
theorem netD_eq {n:Net}:netD n=[iv .i64 n.n,iv .i64 n.k,.sl 3 (tbl arcD n.arcs),iv .u32 n.start,iv .u32 n.final]:=(rfl)
theorem macD_eq {m:Machine}:macD m=[iv .i64 m.n,iv .i64 m.k,.sl 1 (rows i64s m.next),iv .i64 m.start,iv .u32 m.final]:=(rfl)
theorem nodD_eq {n:Node}:nodD n=[iv .i64 n.kind,iv .i64 n.a,iv .i64 n.b]:=(rfl)
theorem turD_eq {t:Turner}:turD t=[iv .i64 t.n,iv .i64 t.k,iv .i64 t.l,.sl 1 (rows i64s t.next),.sl 1 (rows (rows i64s) t.out),iv .i64 t.start]:=(rfl)
theorem rulD_eq {r:Rule}:rulD r=[iv .i64 r.left,.sl 1 (i64s r.right)]:=(rfl)
theorem graD_eq {g:Grammar}:graD g=[iv .i64 g.k,iv .i64 g.n,iv .i64 g.start,.sl 2 (tbl rulD g.rules)]:=(rfl)
theorem oprD_eq {o:Opr}:oprD o=[iv .i64 o.level,.v (.bool o.right)]:=(rfl)
theorem spoD_eq {s:Spot}:spoD s=[iv .i64 s.sign,iv .i64 s.fr,iv .i64 s.to,.sl 1 (rows i64s s.ways)]:=(rfl)
theorem thiD_eq {t:Thicket}:thiD t=[.sl 4 (tbl spoD t.spots),iv .i64 t.root]:=(rfl)
theorem deeD_eq {d:Deed}:deeD d=[iv .i64 d.kind,iv .i64 d.rule.left,.sl 1 (i64s d.rule.right),.sl 1 (i64s d.word),iv .i64 d.n,.sl 1 (i64s d.steps)]:=(rfl)
def vy0:=And.intro @tbl_len (And.intro @tbl_get (And.intro @tbl_take (And.intro @tbl_drop (And.intro @rows_take (And.intro @rows_drop (And.intro @arcD_eq (And.intro @netD_eq (And.intro @macD_eq (And.intro @nodD_eq (And.intro @turD_eq (And.intro @rulD_eq (And.intro @graD_eq (And.intro @oprD_eq (And.intro @spoD_eq (And.intro @thiD_eq (@deeD_eq))))))))))))))))
end Go.Dm

namespace Go.Proofs.Ytcclchnbjpncdaa
open Go.ChangeShapes Go.WideShapes Go.ChangeAt Go.RowKit Go.Dm
theorem Try.own:ownKnob Try.prog.godebug=none:=by kernel_rfl
theorem Try.laidOut:laidOutB Try.prog=true:=by kernel_rfl
theorem Try.o_int:Opens Try.prog 3 1 (fun n:Int=>[.v (.int .i64 n)]) ok64 :=
  Opens.i64 Try.underlying3 (by kernel_rfl)
theorem Try.o_ints:Opens Try.prog 25 1 (fun l=>[.sl 1 (i64s l)]) (okL ok64) :=
  Opens.slice Try.underlying25 (by kernel_rfl) Try.o_int (by omega)
theorem Try.o_rul:Opens Try.prog 65 2 rulD Rule.ok :=
  (Opens.struct (sz:=2) Try.underlying65 (by kernel_rfl) (OpensFs.cons rfl Try.o_int (OpensFs.cons rfl Try.o_ints (OpensFs.nil _))) (fun _=>rfl)).map (fun _=>rfl) fun ⟨x0,x1,⟨⟩⟩ h=>⟨⟨x0,x1⟩,⟨h.1,h.2.1⟩,rfl⟩
theorem Try.o_ruls:Opens Try.prog 22 1 (fun l=>[.sl 2 (tbl rulD l)]) (okL Rule.ok) :=
  Opens.slice Try.underlying22 (by kernel_rfl) Try.o_rul (by omega)
theorem Try.o_gra:Opens Try.prog 24 4 graD Grammar.ok :=
  (Opens.struct (sz:=4) Try.underlying24 (by kernel_rfl) (OpensFs.cons rfl Try.o_int (OpensFs.cons rfl Try.o_int (OpensFs.cons rfl Try.o_int (OpensFs.cons rfl Try.o_ruls (OpensFs.nil _))))) (fun _=>rfl)).map (fun _=>rfl) fun ⟨x0,x1,x2,x3,⟨⟩⟩ h=>⟨⟨x0,x1,x2,x3⟩,⟨h.1,h.2.1,h.2.2.1,h.2.2.2.1⟩,rfl⟩
end Go.Proofs.Ytcclchnbjpncdaa

namespace Go.Dm
theorem viEq {k:IntKind} {a b:Int} (h:a=b):(D.v (.int k a))=D.v (.int k b):=by rw [h]
theorem vbEq {a b:Bool} (h:a=b):(D.v (.bool a))=D.v (.bool b):=by rw [h]
theorem mem_getD {α:Type} [Inhabited α] {l:List α} {a:α} (h:a ∈ l) : ∃ i,i<l.length∧l.getD i default=a:=by
  obtain ⟨i,hi,rfl⟩:=List.getElem_of_mem h
  exact ⟨i,hi,by simp [List.getD,hi]⟩
theorem getD_mem' {α:Type} [Inhabited α] {l:List α} {i:Nat} (h:i<l.length):l.getD i default ∈ l:=by
  simp [List.getD,h]
theorem take_succ_getD {α:Type} {l:List α} {i:Nat} (h:i<l.length) (d:α):l.take (i+1)=l.take i++[l.getD i d]:=by
  rw [List.take_add_one];simp [List.getD,h]
theorem ofInt32 {a:Int} (h:0≤a∧a≤4294967295):(BitVec.ofInt IntKind.u32.bits a).toNat=a.toNat:=by
  show (BitVec.ofInt 32 a).toNat=a.toNat
  rw [BitVec.toNat_ofInt];omega
theorem or32 {a b:Int} (ha:0≤a∧a≤4294967295) (hb:0≤b∧b≤4294967295):IntKind.u32.wrap ((BitVec.ofInt IntKind.u32.bits a ||| BitVec.ofInt IntKind.u32.bits b).toNat:Int)=((a.toNat ||| b.toNat:Nat):Int):=by
  rw [BitVec.toNat_or,ofInt32 ha,ofInt32 hb]
  have:a.toNat ||| b.toNat<2 ^ 32:=Nat.or_lt_two_pow (by omega) (by omega)
  exact wrapu32_id (by omega)
theorem and32 {a b:Int} (ha:0≤a∧a≤4294967295) (hb:0≤b∧b≤4294967295):IntKind.u32.wrap ((BitVec.ofInt IntKind.u32.bits a &&& BitVec.ofInt IntKind.u32.bits b).toNat:Int)=((a.toNat &&& b.toNat:Nat):Int):=by
  rw [BitVec.toNat_and,ofInt32 ha,ofInt32 hb]
  have:a.toNat &&& b.toNat<2 ^ 32:=Nat.and_lt_two_pow _ (by omega)
  exact wrapu32_id (by omega)
theorem shl32_1 {n:Int} (hn:0≤n∧n≤31):IntKind.u32.wrap (1 * 2 ^ (min n.toNat IntKind.u32.bits))=((2 ^ n.toNat:Nat):Int):=by
  have e:min n.toNat IntKind.u32.bits=n.toNat:=Nat.min_eq_left (by show n.toNat≤32;omega)
  have h:2 ^ n.toNat≤2147483648:=show 2 ^ n.toNat≤2 ^ 31 from Nat.pow_le_pow_right (by omega) (by omega)
  rw [e,Int.one_mul]
  have e2:(2:Int) ^ n.toNat=((2 ^ n.toNat:Nat):Int):=by simp
  rw [e2]
  generalize 2 ^ n.toNat=p at *
  exact wrapu32_id (by omega)
def tab (n:Nat) (f:Nat→Int):List Int:=(List.range n).map f
theorem tab_length {n:Nat} {f:Nat→Int}:(tab n f).length=n:=by simp [tab]
theorem tab_getD {n i:Nat} {f:Nat→Int} {d:Int} (h:i<n):(tab n f).getD i d=f i:=by simp [tab,List.getD,h]
theorem tab_set {n i:Nat} {f:Nat→Int} {v:Int}:(tab n f).set i v=tab n fun j=>if j=i then v else f j:=by
  apply List.ext_getElem
  · simp [tab]
  · intro k h1 h2
    simp only [tab,List.getElem_set,List.getElem_map,List.getElem_range]
    by_cases e:i=k
    · simp [e]
    · have:¬ k=i:=fun h=>e h.symm
      simp [e,this]
theorem tab_rep {n:Nat} {x:Int}:List.replicate n x=tab n fun _=>x:=by
  apply List.ext_getElem<;>simp [tab]
theorem viewO_1 {sz:Nat} {a:List D}:viewO (some ⟨sz,[a],true,false,.arr⟩) sz 0 1=.sl sz [a]:=viewO_all rfl
theorem viewO_2 {sz:Nat} {a b:List D}:viewO (some ⟨sz,[a,b],true,false,.arr⟩) sz 0 2=.sl sz [a,b]:=viewO_all rfl
theorem viewO_3 {sz:Nat} {a b c:List D}:viewO (some ⟨sz,[a,b,c],true,false,.arr⟩) sz 0 3=.sl sz [a,b,c]:=viewO_all rfl
theorem viewO_4 {sz:Nat} {a b c d:List D}:viewO (some ⟨sz,[a,b,c,d],true,false,.arr⟩) sz 0 4=.sl sz [a,b,c,d]:=viewO_all rfl
theorem i64s_tab_getD {n k:Nat} {f:Nat→Int} {d:List D} (h:k<n):(i64s (tab n f)).getD k d=[.v (.int .i64 (f k))]:=by simp [i64s,tab,List.getD,h]
theorem viewO_tab {n:Nat} {f:Nat→Int}:viewO (some ⟨1,i64s (tab n f),true,false,.arr⟩) 1 0 n=.sl 1 (i64s (tab n f)):=viewO_all (by simp [i64s,tab])
theorem viewO_i64s {l:List Int} {n:Nat} (h:n=l.length):viewO (some ⟨1,i64s l,true,false,.arr⟩) 1 0 n=.sl 1 (i64s l):=viewO_all (by simp [i64s,h])
theorem viewO_u8s {l:List UInt8} {n:Nat} (h:n=l.length):viewO (some ⟨1,u8s l,true,false,.arr⟩) 1 0 n=.sl 1 (u8s l):=viewO_all (by simp [u8s,h])
theorem viewO_bls {l:List Bool} {n:Nat} (h:n=l.length):viewO (some ⟨1,bls l,true,false,.arr⟩) 1 0 n=.sl 1 (bls l):=viewO_all (by simp [bls,h])
theorem nat_add {a b:Nat}:((a:Int)+(b:Int)).toNat=a+b:=by omega
theorem nat_add1 {a:Nat}:((a:Int)+1).toNat=a+1:=by omega
theorem nat_add2 {a:Nat}:((a:Int)+2).toNat=a+2:=by omega
theorem nat_sub {a b:Nat}:((a:Int) - (b:Int)).toNat=a - b:=by omega
theorem nat_sub1 {a:Nat}:((a:Int) - 1).toNat=a - 1:=by omega
theorem rows_kill {α:Type} {f:α→List (List D)} {l:List α} {τ:Nat}:((rows f l).map fun e=>e.map (D.kill τ))=rows f l:=by simp [rows,kill_sl]
theorem rows_frz {α:Type} {f:α→List (List D)} {l:List α} {τ:Nat} {ob:Ob}:((rows f l).map fun e=>e.map (D.frz τ ob))=rows f l:=by simp [rows,frz_sl]
theorem rows_all {α:Type} {f:α→List (List D)} {l:List α}:(rows f l).all (fun e=>e.all D.clo')=true:=by simp [rows,clo'_sl]
def ownC (sz:Nat):List (List D)→D
  | []=>.nl
  | e::es=>.own false sz (e::es)
theorem ownC_nil {sz:Nat} {α:Type} {f:α→List D}:ownC sz (tbl f [])=.nl:=(rfl)
theorem ownC_cons {sz:Nat} {α:Type} {f:α→List D} {a:α} {l:List α}:ownC sz (tbl f (a::l))=.own false sz (tbl f (a::l)):=(rfl)
theorem vwR_nil:vwR []=[]:=(rfl)
theorem vwR_cons {e:List D} {es:List (List D)}:vwR (e::es)=e.map D.vw::vwR es:=(rfl)
theorem vw_v' {x:Value}:(D.v x).vw=.v x:=by rw [D.vw]<;>(intros;contradiction)
theorem vw_nl':D.nl.vw=.nl:=by rw [D.vw]<;>(intros;contradiction)
theorem vw_sl' {sz:Nat} {es:List (List D)}:(D.sl sz es).vw=.sl sz es:=by rw [D.vw]<;>(intros;contradiction)
def tabD (n:Nat) (f:Nat→D):List (List D):=(List.range n).map fun i=>[f i]
theorem tabD_len {n:Nat} {f:Nat→D}:(tabD n f).length=n:=by simp [tabD]
theorem tabD_get {n k:Nat} {f:Nat→D} {d:List D} (h:k<n):(tabD n f).getD k d=[f k]:=by simp [tabD,List.getD,h]
theorem tabD_set {n i:Nat} {f:Nat→D} {x:D}:(tabD n f).set i [x]=tabD n fun j=>if j=i then x else f j:=by
  apply List.ext_getElem
  · simp [tabD]
  · intro k h1 h2
    simp only [tabD,List.getElem_set,List.getElem_map,List.getElem_range]
    by_cases e:i=k
    · simp [e]
    · have:¬ k=i:=fun h=>e h.symm
      simp [e,this]
theorem tabD_kill {n τ:Nat} {f:Nat→D}:((tabD n f).map fun e=>e.map (D.kill τ))=tabD n fun j=>(f j).kill τ:=by simp [tabD]
theorem tabD_frz {n τ:Nat} {f:Nat→D} {ob:Ob}:((tabD n f).map fun e=>e.map (D.frz τ ob))=tabD n fun j=>(f j).frz τ ob:=by simp [tabD]
theorem tabD_trim {n m:Nat} {f:Nat→D}:((tabD n f).map fun e=>e.map (D.trim m))=tabD n fun j=>(f j).trim m:=by simp [tabD]
theorem tabD_rep {n:Nat} {x:D}:List.replicate n [x]=tabD n fun _=>x:=by apply List.ext_getElem<;>simp [tabD]
theorem tabD_ext {n:Nat} {f g:Nat→D} (h:∀ j,j<n→f j=g j):tabD n f=tabD n g:=by
  unfold tabD
  exact List.map_congr_left fun j hj=>by rw [h j (List.mem_range.1 hj)]
theorem tabD_all {n:Nat} {f:Nat→D} (h:∀ j,j<n→(f j).clo'=true):(tabD n f).all (fun e=>e.all D.clo')=true:=by
  simp only [tabD,List.all_map,List.all_eq_true,List.mem_range]
  intro j hj
  simp [h j hj]
theorem iteD_pos {c:Prop} [Decidable c] {a b:D} (h:c):(if c then a else b)=a:=if_pos h
theorem iteD_neg {c:Prop} [Decidable c] {a b:D} (h:¬ c):(if c then a else b)=b:=if_neg h
theorem dec_iff {a b:Prop} [Decidable a] [Decidable b] (h:a ↔ b):decide a=decide b:=by congr 1;exact propext h
theorem trim_ite {c:Prop} [Decidable c] {a b:D} {m:Nat}:(if c then a else b).trim m=if c then a.trim m else b.trim m:=by split<;>rfl
theorem kill_ite {c:Prop} [Decidable c] {a b:D} {m:Nat}:(if c then a else b).kill m=if c then a.kill m else b.kill m:=by split<;>rfl
theorem frz_ite {c:Prop} [Decidable c] {a b:D} {m:Nat} {ob:Ob}:(if c then a else b).frz m ob=if c then a.frz m ob else b.frz m ob:=by split<;>rfl
def vlen:=And.intro @List.length_cons.{0}<|And.intro @List.length_nil.{0}<|And.intro @List.length_append.{0}<|And.intro @List.length_map.{0,0}<|And.intro @List.length_replicate.{0}<|And.intro @List.length_take.{0}<|And.intro @List.length_drop.{0}<|And.intro @List.length_set.{0}<|And.intro @tab_length<|And.intro @tabD_len<|And.intro @i64s_len<|And.intro @bls_len<|And.intro @u8s_len<|And.intro @tbl_len @rows_len
def vx0:=And.intro @trim_ite<|And.intro @kill_ite<|And.intro @frz_ite<|And.intro @tabD_len<|And.intro @tabD_get<|And.intro @tabD_set<|And.intro @tabD_kill<|And.intro @tabD_frz<|And.intro @tabD_trim<|And.intro @iteD_pos<|And.intro @iteD_neg<|And.intro @vwR_nil<|And.intro @vwR_cons<|And.intro @vw_v'<|And.intro @vw_nl'<|And.intro @vw_sl'<|And.intro @vw_own<|And.intro @rows_kill<|And.intro @rows_frz<|And.intro @rows_all<|And.intro @List.map_append.{0,0}<|And.intro @List.all_append.{0}<|And.intro @ownC_nil<|And.intro @ownC_cons<|And.intro @nat_add<|And.intro @nat_add1<|And.intro @nat_add2<|And.intro @nat_sub<|And.intro @nat_sub1<|And.intro @i64s_tab_getD<|And.intro @viewO_tab<|And.intro @viewO_i64s<|And.intro @viewO_u8s<|And.intro @viewO_bls<|And.intro @viewO_1<|And.intro @viewO_2<|And.intro @viewO_3<|And.intro @viewO_4<|And.intro @tab_length (And.intro @tab_getD (And.intro @tab_set (And.intro @i64s_rep @tab_rep)))
def vAq:=And.intro va0<|And.intro va1<|And.intro va2 va3
def vBq:=And.intro vb0<|And.intro vb1<|And.intro vb2<|And.intro vb3<|And.intro vb4<|And.intro vb5<|And.intro vb6<|And.intro vb7<|And.intro vb8<|And.intro vb9<|And.intro vb10<|And.intro vb11<|And.intro vz0<|And.intro vz1<|And.intro vy0 vx0
theorem Y0 {p:Prop} (h:p:=by simp (disch:=first|omega|(simp only [vlen];first|done|omega)) only [↓vAq,vBq,↓reduceIte,Nat.reduceBEq,Nat.reduceEqDiff,Nat.reduceLT,Nat.reduceLeDiff,Nat.reduceAdd,Nat.reduceMul,Nat.reduceSub,reduceCtorEq,Int.reduceToNat]):p:=h
theorem Y1 {p:Prop} (h:p:=by simp (disch:=first|omega|(simp only [vlen];first|done|omega)) only [vtt,↓vAq,vBq,↓reduceIte,Nat.reduceBEq,Nat.reduceEqDiff,Nat.reduceLT,Nat.reduceLeDiff,Nat.reduceAdd,Nat.reduceMul,Nat.reduceSub,reduceCtorEq,Int.reduceToNat]):p:=h
theorem Y2 {p:Prop} (h:p:=by simp (disch:=first|omega|(simp only [vlen];first|done|omega)) only [vbe,↓vAq,vBq,↓reduceIte,Nat.reduceBEq,Nat.reduceEqDiff,Nat.reduceLT,Nat.reduceLeDiff,Nat.reduceAdd,Nat.reduceMul,Nat.reduceSub,reduceCtorEq,Int.reduceToNat]):p:=h
theorem Y3 {p:Prop} (h:p:=by simp (disch:=first|omega|(simp only [vlen];first|done|omega)) only [vth,↓vAq,vBq,↓reduceIte,Nat.reduceBEq,Nat.reduceEqDiff,Nat.reduceLT,Nat.reduceLeDiff,Nat.reduceAdd,Nat.reduceMul,Nat.reduceSub,reduceCtorEq,Int.reduceToNat]):p:=h
theorem Y4 {p:Prop} (h:p:=by unfold buO;simp (disch:=first|omega|(simp only [vlen];first|done|omega)) only [vbe,↓vAq,vBq,↓reduceIte,Nat.reduceBEq,Nat.reduceEqDiff,Nat.reduceLT,Nat.reduceLeDiff,Nat.reduceAdd,Nat.reduceMul,Nat.reduceSub,reduceCtorEq,Int.reduceToNat]):p:=h
theorem Y5 {p:Prop} (h:p:=by simp (disch:=first|omega|(simp only [vlen];first|done|omega)) only [vtf,↓vAq,vBq,↓reduceIte,Nat.reduceBEq,Nat.reduceEqDiff,Nat.reduceLT,Nat.reduceLeDiff,Nat.reduceAdd,Nat.reduceMul,Nat.reduceSub,reduceCtorEq,Int.reduceToNat]):p:=h
theorem Y6 {p:Prop} (h:p:=by unfold spO;(simp (disch:=first|omega|(simp only [vlen];first|done|omega)) only [vle0,↓vAq,vBq,↓reduceIte,Nat.reduceBEq,Nat.reduceEqDiff,Nat.reduceLT,Nat.reduceLeDiff,Nat.reduceAdd,Nat.reduceMul,Nat.reduceSub,reduceCtorEq,Int.reduceToNat]<;>(repeat' first|rfl|apply And.intro))):p:=h
theorem Y7 {p:Prop} (h:p:=by unfold buO;(simp (disch:=first|omega|(simp only [vlen];first|done|omega)) only [vle0,↓vAq,vBq,↓reduceIte,Nat.reduceBEq,Nat.reduceEqDiff,Nat.reduceLT,Nat.reduceLeDiff,Nat.reduceAdd,Nat.reduceMul,Nat.reduceSub,reduceCtorEq,Int.reduceToNat]<;>(repeat' first|rfl|apply And.intro))):p:=h
theorem Y8 {p:Prop} (h:p:=by simp (disch:=first|omega|(simp only [vlen];first|done|omega)) only [vse,↓vAq,vBq,↓reduceIte,Nat.reduceBEq,Nat.reduceEqDiff,Nat.reduceLT,Nat.reduceLeDiff,Nat.reduceAdd,Nat.reduceMul,Nat.reduceSub,reduceCtorEq,Int.reduceToNat]):p:=h
theorem Y9 {p:Prop} (h:p:=by simp (disch:=first|omega|(simp only [vlen];first|done|omega)) only [vsp,↓vAq,vBq,↓reduceIte,Nat.reduceBEq,Nat.reduceEqDiff,Nat.reduceLT,Nat.reduceLeDiff,Nat.reduceAdd,Nat.reduceMul,Nat.reduceSub,reduceCtorEq,Int.reduceToNat]):p:=h
theorem Y10 {p:Prop} (h:p:=by (simp (disch:=first|omega|(simp only [vlen];first|done|omega)) only [Fits_u,Fits_m,Fits_nil,List.length_append,↓vAq,vBq,↓reduceIte,Nat.reduceBEq,Nat.reduceEqDiff,Nat.reduceLT,Nat.reduceLeDiff,Nat.reduceAdd,Nat.reduceMul,Nat.reduceSub,reduceCtorEq,Int.reduceToNat]<;>(repeat' first|rfl|apply And.intro))):p:=h
theorem Y11 {p:Prop} (h:p:=by unfold spO;simp (disch:=first|omega|(simp only [vlen];first|done|omega)) only [vse,↓vAq,vBq,↓reduceIte,Nat.reduceBEq,Nat.reduceEqDiff,Nat.reduceLT,Nat.reduceLeDiff,Nat.reduceAdd,Nat.reduceMul,Nat.reduceSub,reduceCtorEq,Int.reduceToNat]):p:=h
theorem Y12 {p:Prop} (h:p:=by simp (disch:=first|omega|(simp only [vlen];first|done|omega)) only [vtg,↓vAq,vBq,↓reduceIte,Nat.reduceBEq,Nat.reduceEqDiff,Nat.reduceLT,Nat.reduceLeDiff,Nat.reduceAdd,Nat.reduceMul,Nat.reduceSub,reduceCtorEq,Int.reduceToNat]):p:=h
theorem Y13 {p:Prop} (h:p:=by simp (disch:=first|omega|(simp only [vlen];first|done|omega)) only [vtb,↓vAq,vBq,↓reduceIte,Nat.reduceBEq,Nat.reduceEqDiff,Nat.reduceLT,Nat.reduceLeDiff,Nat.reduceAdd,Nat.reduceMul,Nat.reduceSub,reduceCtorEq,Int.reduceToNat]):p:=h
theorem Y14 {p:Prop} (h:p:=by unfold grO;(simp (disch:=first|omega|(simp only [vlen];first|done|omega)) only [vle0,vtb,↓vAq,vBq,↓reduceIte,Nat.reduceBEq,Nat.reduceEqDiff,Nat.reduceLT,Nat.reduceLeDiff,Nat.reduceAdd,Nat.reduceMul,Nat.reduceSub,reduceCtorEq,Int.reduceToNat]<;>(repeat' first|rfl|apply And.intro))):p:=h
theorem Y15 {p:Prop} (h:p:=by (simp (disch:=first|omega|(simp only [vlen];first|done|omega)) only [Fits_u,Fits_m,Fits_nil,List.length_append,vcu,↓vAq,vBq,↓reduceIte,Nat.reduceBEq,Nat.reduceEqDiff,Nat.reduceLT,Nat.reduceLeDiff,Nat.reduceAdd,Nat.reduceMul,Nat.reduceSub,reduceCtorEq,Int.reduceToNat]<;>(repeat' first|rfl|apply And.intro))):p:=h
theorem Y16 {p:Prop} (h:p:=by simp (disch:=first|omega|(simp only [vlen];first|done|omega)) only [vsr3,↓vAq,vBq,↓reduceIte,Nat.reduceBEq,Nat.reduceEqDiff,Nat.reduceLT,Nat.reduceLeDiff,Nat.reduceAdd,Nat.reduceMul,Nat.reduceSub,reduceCtorEq,Int.reduceToNat]):p:=h
theorem Y17 {p:Prop} (h:p:=by simp [grO];simp (disch:=first|omega|(simp only [vlen];first|done|omega)) only [vth,↓vAq,vBq,↓reduceIte,Nat.reduceBEq,Nat.reduceEqDiff,Nat.reduceLT,Nat.reduceLeDiff,Nat.reduceAdd,Nat.reduceMul,Nat.reduceSub,reduceCtorEq,Int.reduceToNat]):p:=h
theorem Y18 {p:Prop} (h:p:=by unfold grO;simp (disch:=first|omega|(simp only [vlen];first|done|omega)) only [vth,↓vAq,vBq,↓reduceIte,Nat.reduceBEq,Nat.reduceEqDiff,Nat.reduceLT,Nat.reduceLeDiff,Nat.reduceAdd,Nat.reduceMul,Nat.reduceSub,reduceCtorEq,Int.reduceToNat]):p:=h
theorem Y19 {p:Prop} (h:p:=by unfold grO;(simp (disch:=first|omega|(simp only [vlen];first|done|omega)) only [vle0,↓vAq,vBq,↓reduceIte,Nat.reduceBEq,Nat.reduceEqDiff,Nat.reduceLT,Nat.reduceLeDiff,Nat.reduceAdd,Nat.reduceMul,Nat.reduceSub,reduceCtorEq,Int.reduceToNat]<;>(repeat' first|rfl|apply And.intro))):p:=h
theorem Y20 {p:Prop} (h:p:=by simp [buO];simp (disch:=first|omega|(simp only [vlen];first|done|omega)) only [vsp,↓vAq,vBq,↓reduceIte,Nat.reduceBEq,Nat.reduceEqDiff,Nat.reduceLT,Nat.reduceLeDiff,Nat.reduceAdd,Nat.reduceMul,Nat.reduceSub,reduceCtorEq,Int.reduceToNat]):p:=h
theorem Y21 {p:Prop} (h:p:=by unfold buO;simp (disch:=first|omega|(simp only [vlen];first|done|omega)) only [vsp,↓vAq,vBq,↓reduceIte,Nat.reduceBEq,Nat.reduceEqDiff,Nat.reduceLT,Nat.reduceLeDiff,Nat.reduceAdd,Nat.reduceMul,Nat.reduceSub,reduceCtorEq,Int.reduceToNat]):p:=h
theorem Y22 {p:Prop} (h:p:=by simp (disch:=first|omega|(simp only [vlen];first|done|omega)) only [vtr,↓vAq,vBq,↓reduceIte,Nat.reduceBEq,Nat.reduceEqDiff,Nat.reduceLT,Nat.reduceLeDiff,Nat.reduceAdd,Nat.reduceMul,Nat.reduceSub,reduceCtorEq,Int.reduceToNat]):p:=h
theorem Y23 {p:Prop} (h:p:=by unfold buO;(simp (disch:=first|omega|(simp only [vlen];first|done|omega)) only [vle0,vtt,↓vAq,vBq,↓reduceIte,Nat.reduceBEq,Nat.reduceEqDiff,Nat.reduceLT,Nat.reduceLeDiff,Nat.reduceAdd,Nat.reduceMul,Nat.reduceSub,reduceCtorEq,Int.reduceToNat]<;>(repeat' first|rfl|apply And.intro))):p:=h
theorem Y24 {p:Prop} (h:p:=by simp [grO];simp (disch:=first|omega|(simp only [vlen];first|done|omega)) only [vtg,↓vAq,vBq,↓reduceIte,Nat.reduceBEq,Nat.reduceEqDiff,Nat.reduceLT,Nat.reduceLeDiff,Nat.reduceAdd,Nat.reduceMul,Nat.reduceSub,reduceCtorEq,Int.reduceToNat]):p:=h
theorem Y25 {p:Prop} (h:p:=by unfold grO;simp (disch:=first|omega|(simp only [vlen];first|done|omega)) only [vtg,↓vAq,vBq,↓reduceIte,Nat.reduceBEq,Nat.reduceEqDiff,Nat.reduceLT,Nat.reduceLeDiff,Nat.reduceAdd,Nat.reduceMul,Nat.reduceSub,reduceCtorEq,Int.reduceToNat]):p:=h
theorem Y26 {p:Prop} (h:p:=by simp [grO];simp (disch:=first|omega|(simp only [vlen];first|done|omega)) only [vtf,↓vAq,vBq,↓reduceIte,Nat.reduceBEq,Nat.reduceEqDiff,Nat.reduceLT,Nat.reduceLeDiff,Nat.reduceAdd,Nat.reduceMul,Nat.reduceSub,reduceCtorEq,Int.reduceToNat]):p:=h
theorem Y27 {p:Prop} (h:p:=by unfold grO;simp (disch:=first|omega|(simp only [vlen];first|done|omega)) only [vtf,↓vAq,vBq,↓reduceIte,Nat.reduceBEq,Nat.reduceEqDiff,Nat.reduceLT,Nat.reduceLeDiff,Nat.reduceAdd,Nat.reduceMul,Nat.reduceSub,reduceCtorEq,Int.reduceToNat]):p:=h
theorem Y28 {p:Prop} (h:p:=by rw [hs];(simp (disch:=first|omega|(simp only [vlen];first|done|omega)) only [vsp,↓vAq,vBq,↓reduceIte,Nat.reduceBEq,Nat.reduceEqDiff,Nat.reduceLT,Nat.reduceLeDiff,Nat.reduceAdd,Nat.reduceMul,Nat.reduceSub,reduceCtorEq,Int.reduceToNat]);rfl):p:=h
theorem Y29 {p:Prop} (h:p:=by (simp (disch:=first|omega|(simp only [vlen];first|done|omega)) only [Fits_u,Fits_m,Fits_nil,List.length_append,vmr,↓vAq,vBq,↓reduceIte,Nat.reduceBEq,Nat.reduceEqDiff,Nat.reduceLT,Nat.reduceLeDiff,Nat.reduceAdd,Nat.reduceMul,Nat.reduceSub,reduceCtorEq,Int.reduceToNat]<;>(repeat' first|rfl|apply And.intro))):p:=h
theorem Z0 {p q:Prop} (h:q) (e:p=q:=by simp (disch:=first|omega|(simp only [vlen];first|done|omega)) only [vtt,↓vAq,vBq,↓reduceIte,Nat.reduceBEq,Nat.reduceEqDiff,Nat.reduceLT,Nat.reduceLeDiff,Nat.reduceAdd,Nat.reduceMul,Nat.reduceSub,reduceCtorEq,Int.reduceToNat];rfl):p:=e.mpr h
theorem Z1 {p q:Prop} (h:q) (e:p=q:=by simp (disch:=first|omega|(simp only [vlen];first|done|omega)) only [↓vAq,vBq,↓reduceIte,Nat.reduceBEq,Nat.reduceEqDiff,Nat.reduceLT,Nat.reduceLeDiff,Nat.reduceAdd,Nat.reduceMul,Nat.reduceSub,reduceCtorEq,Int.reduceToNat];rfl):p:=e.mpr h
theorem Z2 {p q:Prop} (h:q) (e:p=q:=by simp (disch:=first|omega|(simp only [vlen];first|done|omega)) only [vtb,↓vAq,vBq,↓reduceIte,Nat.reduceBEq,Nat.reduceEqDiff,Nat.reduceLT,Nat.reduceLeDiff,Nat.reduceAdd,Nat.reduceMul,Nat.reduceSub,reduceCtorEq,Int.reduceToNat];rfl):p:=e.mpr h
theorem Z3 {p q:Prop} (h:q) (e:p=q:=by simp (disch:=first|omega|(simp only [vlen];first|done|omega)) only [vbe,↓vAq,vBq,↓reduceIte,Nat.reduceBEq,Nat.reduceEqDiff,Nat.reduceLT,Nat.reduceLeDiff,Nat.reduceAdd,Nat.reduceMul,Nat.reduceSub,reduceCtorEq,Int.reduceToNat];rfl):p:=e.mpr h
theorem Z4 {p q:Prop} (h:q) (e:p=q:=by simp (disch:=first|omega|(simp only [vlen];first|done|omega)) only [vtf,↓vAq,vBq,↓reduceIte,Nat.reduceBEq,Nat.reduceEqDiff,Nat.reduceLT,Nat.reduceLeDiff,Nat.reduceAdd,Nat.reduceMul,Nat.reduceSub,reduceCtorEq,Int.reduceToNat];rfl):p:=e.mpr h
theorem Z5 {p q:Prop} (h:q) (e:p=q:=by simp (disch:=first|omega|(simp only [vlen];first|done|omega)) only [vse,↓vAq,vBq,↓reduceIte,Nat.reduceBEq,Nat.reduceEqDiff,Nat.reduceLT,Nat.reduceLeDiff,Nat.reduceAdd,Nat.reduceMul,Nat.reduceSub,reduceCtorEq,Int.reduceToNat];rfl):p:=e.mpr h
theorem Z6 {p q:Prop} (h:q) (e:p=q:=by simp (disch:=first|omega|(simp only [vlen];first|done|omega)) only [vtg,↓vAq,vBq,↓reduceIte,Nat.reduceBEq,Nat.reduceEqDiff,Nat.reduceLT,Nat.reduceLeDiff,Nat.reduceAdd,Nat.reduceMul,Nat.reduceSub,reduceCtorEq,Int.reduceToNat];rfl):p:=e.mpr h
theorem Z7 {p q:Prop} (h:q) (e:p=q:=by simp (disch:=first|omega|(simp only [vlen];first|done|omega)) only [vct,hN,hwi,↓vAq,vBq,↓reduceIte,Nat.reduceBEq,Nat.reduceEqDiff,Nat.reduceLT,Nat.reduceLeDiff,Nat.reduceAdd,Nat.reduceMul,Nat.reduceSub,reduceCtorEq,Int.reduceToNat];rfl):p:=e.mpr h
theorem Z8 {p q:Prop} (h:q) (e:p=q:=by simp (disch:=first|omega|(simp only [vlen];first|done|omega)) only [vmr,↓vAq,vBq,↓reduceIte,Nat.reduceBEq,Nat.reduceEqDiff,Nat.reduceLT,Nat.reduceLeDiff,Nat.reduceAdd,Nat.reduceMul,Nat.reduceSub,reduceCtorEq,Int.reduceToNat];rfl):p:=e.mpr h
theorem Z9 {p q:Prop} (h:q) (e:p=q:=by simp (disch:=first|omega|(simp only [vlen];first|done|omega)) only [vsp,↓vAq,vBq,↓reduceIte,Nat.reduceBEq,Nat.reduceEqDiff,Nat.reduceLT,Nat.reduceLeDiff,Nat.reduceAdd,Nat.reduceMul,Nat.reduceSub,reduceCtorEq,Int.reduceToNat];rfl):p:=e.mpr h
theorem Z10 {p q:Prop} (h:q) (e:p=q:=by simp (disch:=first|omega|(simp only [vlen];first|done|omega)) only [vse,hfr,↓vAq,vBq,↓reduceIte,Nat.reduceBEq,Nat.reduceEqDiff,Nat.reduceLT,Nat.reduceLeDiff,Nat.reduceAdd,Nat.reduceMul,Nat.reduceSub,reduceCtorEq,Int.reduceToNat];rfl):p:=e.mpr h
theorem Z11 {p q:Prop} (h:q) (e:p=q:=by simp (disch:=first|omega|(simp only [vlen];first|done|omega)) only [vth,hll,hg0,↓vAq,vBq,↓reduceIte,Nat.reduceBEq,Nat.reduceEqDiff,Nat.reduceLT,Nat.reduceLeDiff,Nat.reduceAdd,Nat.reduceMul,Nat.reduceSub,reduceCtorEq,Int.reduceToNat];rfl):p:=e.mpr h
theorem Z12 {p q:Prop} (h:q) (e:p=q:=by simp (disch:=first|omega|(simp only [vlen];first|done|omega)) only [vtr,↓vAq,vBq,↓reduceIte,Nat.reduceBEq,Nat.reduceEqDiff,Nat.reduceLT,Nat.reduceLeDiff,Nat.reduceAdd,Nat.reduceMul,Nat.reduceSub,reduceCtorEq,Int.reduceToNat];rfl):p:=e.mpr h
theorem Z13 {p q:Prop} (h:q) (e:p=q:=by simp (disch:=first|omega|(simp only [vlen];first|done|omega)) only [vtt,hwpl,↓vAq,vBq,↓reduceIte,Nat.reduceBEq,Nat.reduceEqDiff,Nat.reduceLT,Nat.reduceLeDiff,Nat.reduceAdd,Nat.reduceMul,Nat.reduceSub,reduceCtorEq,Int.reduceToNat];rfl):p:=e.mpr h
theorem Z14 {p q:Prop} (h:q) (e:p=q:=by simp (disch:=first|omega|(simp only [vlen];first|done|omega)) only [vct,hN,hwi,ha,hT,hf1,hf2,↓vAq,vBq,↓reduceIte,Nat.reduceBEq,Nat.reduceEqDiff,Nat.reduceLT,Nat.reduceLeDiff,Nat.reduceAdd,Nat.reduceMul,Nat.reduceSub,reduceCtorEq,Int.reduceToNat];rfl):p:=e.mpr h
theorem Z15 {p q:Prop} (h:q) (e:p=q:=by simp (disch:=first|omega|(simp only [vlen];first|done|omega)) only [vse,hfr,ha,↓vAq,vBq,↓reduceIte,Nat.reduceBEq,Nat.reduceEqDiff,Nat.reduceLT,Nat.reduceLeDiff,Nat.reduceAdd,Nat.reduceMul,Nat.reduceSub,reduceCtorEq,Int.reduceToNat];rfl):p:=e.mpr h
theorem Z16 {p q:Prop} (h:q) (e:p=q:=by simp (disch:=first|omega|(simp only [vlen];first|done|omega)) only [vsp,hg0,hes,hwy,↓vAq,vBq,↓reduceIte,Nat.reduceBEq,Nat.reduceEqDiff,Nat.reduceLT,Nat.reduceLeDiff,Nat.reduceAdd,Nat.reduceMul,Nat.reduceSub,reduceCtorEq,Int.reduceToNat];rfl):p:=e.mpr h
theorem Z17 {p q:Prop} (h:q) (e:p=q:=by simp (disch:=first|omega|(simp only [vlen];first|done|omega)) only [vct,hN,hwi,ha,hT,↓vAq,vBq,↓reduceIte,Nat.reduceBEq,Nat.reduceEqDiff,Nat.reduceLT,Nat.reduceLeDiff,Nat.reduceAdd,Nat.reduceMul,Nat.reduceSub,reduceCtorEq,Int.reduceToNat];rfl):p:=e.mpr h
theorem Z18 {p q:Prop} (h:q) (e:p=q:=by simp (disch:=first|omega|(simp only [vlen];first|done|omega)) only [vct,hN,hwi,ha,hT,hf1,↓vAq,vBq,↓reduceIte,Nat.reduceBEq,Nat.reduceEqDiff,Nat.reduceLT,Nat.reduceLeDiff,Nat.reduceAdd,Nat.reduceMul,Nat.reduceSub,reduceCtorEq,Int.reduceToNat];rfl):p:=e.mpr h
theorem Z19 {p q:Prop} (h:q) (e:p=q:=by simp (disch:=first|omega|(simp only [vlen];first|done|omega)) only [vth,↓vAq,vBq,↓reduceIte,Nat.reduceBEq,Nat.reduceEqDiff,Nat.reduceLT,Nat.reduceLeDiff,Nat.reduceAdd,Nat.reduceMul,Nat.reduceSub,reduceCtorEq,Int.reduceToNat];rfl):p:=e.mpr h
theorem Z20 {p q:Prop} (h:q) (e:p=q:=by simp (disch:=first|omega|(simp only [vlen];first|done|omega)) only [vcu,↓vAq,vBq,↓reduceIte,Nat.reduceBEq,Nat.reduceEqDiff,Nat.reduceLT,Nat.reduceLeDiff,Nat.reduceAdd,Nat.reduceMul,Nat.reduceSub,reduceCtorEq,Int.reduceToNat];rfl):p:=e.mpr h
theorem Z21 {p q:Prop} (h:q) (e:p=q:=by simp (disch:=first|omega|(simp only [vlen];first|done|omega)) only [vcu,h1,h2,h0,↓vAq,vBq,↓reduceIte,Nat.reduceBEq,Nat.reduceEqDiff,Nat.reduceLT,Nat.reduceLeDiff,Nat.reduceAdd,Nat.reduceMul,Nat.reduceSub,reduceCtorEq,Int.reduceToNat];rfl):p:=e.mpr h
theorem Z22 {p q:Prop} (h:q) (e:p=q:=by simp (disch:=first|omega|(simp only [vlen];first|done|omega)) only [vsr3,↓vAq,vBq,↓reduceIte,Nat.reduceBEq,Nat.reduceEqDiff,Nat.reduceLT,Nat.reduceLeDiff,Nat.reduceAdd,Nat.reduceMul,Nat.reduceSub,reduceCtorEq,Int.reduceToNat];rfl):p:=e.mpr h
theorem Z23 {p q:Prop} (h:q) (e:p=q:=by simp (disch:=first|omega|(simp only [vlen];first|done|omega)) only [vth,hll,hg0,hes,hwk,↓vAq,vBq,↓reduceIte,Nat.reduceBEq,Nat.reduceEqDiff,Nat.reduceLT,Nat.reduceLeDiff,Nat.reduceAdd,Nat.reduceMul,Nat.reduceSub,reduceCtorEq,Int.reduceToNat];rfl):p:=e.mpr h
theorem Z24 {p q:Prop} (h:q) (e:p=q:=by simp (disch:=first|omega|(simp only [vlen];first|done|omega)) only [vtf,hwl,↓vAq,vBq,↓reduceIte,Nat.reduceBEq,Nat.reduceEqDiff,Nat.reduceLT,Nat.reduceLeDiff,Nat.reduceAdd,Nat.reduceMul,Nat.reduceSub,reduceCtorEq,Int.reduceToNat];rfl):p:=e.mpr h
theorem Z25 {p q:Prop} (h:q) (e:p=q:=by simp (disch:=first|omega|(simp only [vlen];first|done|omega)) only [vtb,hR,↓vAq,vBq,↓reduceIte,Nat.reduceBEq,Nat.reduceEqDiff,Nat.reduceLT,Nat.reduceLeDiff,Nat.reduceAdd,Nat.reduceMul,Nat.reduceSub,reduceCtorEq,Int.reduceToNat];rfl):p:=e.mpr h
theorem Z26 {p q:Prop} (h:q) (e:p=q:=by simp (disch:=first|omega|(simp only [vlen];first|done|omega)) only [vse,hxe,↓vAq,vBq,↓reduceIte,Nat.reduceBEq,Nat.reduceEqDiff,Nat.reduceLT,Nat.reduceLeDiff,Nat.reduceAdd,Nat.reduceMul,Nat.reduceSub,reduceCtorEq,Int.reduceToNat];rfl):p:=e.mpr h
theorem Z27 {p q:Prop} (h:q) (e:p=q:=by simp (disch:=first|omega|(simp only [vlen];first|done|omega)) only [vse,vmk,hfr,ha,hsh,hor0,↓vAq,vBq,↓reduceIte,Nat.reduceBEq,Nat.reduceEqDiff,Nat.reduceLT,Nat.reduceLeDiff,Nat.reduceAdd,Nat.reduceMul,Nat.reduceSub,reduceCtorEq,Int.reduceToNat];rfl):p:=e.mpr h
theorem Z28 {p q:Prop} (h:q) (e:p=q:=by simp (disch:=first|omega|(simp only [vlen];first|done|omega)) only [vtt,hsal,↓vAq,vBq,↓reduceIte,Nat.reduceBEq,Nat.reduceEqDiff,Nat.reduceLT,Nat.reduceLeDiff,Nat.reduceAdd,Nat.reduceMul,Nat.reduceSub,reduceCtorEq,Int.reduceToNat];rfl):p:=e.mpr h
theorem Z29 {p q:Prop} (h:q) (e:p=q:=by simp (disch:=first|omega|(simp only [vlen];first|done|omega)) only [vtt,hes,hwd2,↓vAq,vBq,↓reduceIte,Nat.reduceBEq,Nat.reduceEqDiff,Nat.reduceLT,Nat.reduceLeDiff,Nat.reduceAdd,Nat.reduceMul,Nat.reduceSub,reduceCtorEq,Int.reduceToNat];rfl):p:=e.mpr h
theorem Z30 {p q:Prop} (h:q) (e:p=q:=by simp (disch:=first|omega|(simp only [vlen];first|done|omega)) only [vcu,h1,h2,h0,ha,ht,↓vAq,vBq,↓reduceIte,Nat.reduceBEq,Nat.reduceEqDiff,Nat.reduceLT,Nat.reduceLeDiff,Nat.reduceAdd,Nat.reduceMul,Nat.reduceSub,reduceCtorEq,Int.reduceToNat];rfl):p:=e.mpr h
theorem Z31 {p q:Prop} (h:q) (e:p=q:=by simp (disch:=first|omega|(simp only [vlen];first|done|omega)) only [hq0,hmi,↓vAq,vBq,↓reduceIte,Nat.reduceBEq,Nat.reduceEqDiff,Nat.reduceLT,Nat.reduceLeDiff,Nat.reduceAdd,Nat.reduceMul,Nat.reduceSub,reduceCtorEq,Int.reduceToNat];rfl):p:=e.mpr h
theorem Z32 {p q:Prop} (h:q) (e:p=q:=by simp (disch:=first|omega|(simp only [vlen];first|done|omega)) only [vse,ha,↓vAq,vBq,↓reduceIte,Nat.reduceBEq,Nat.reduceEqDiff,Nat.reduceLT,Nat.reduceLeDiff,Nat.reduceAdd,Nat.reduceMul,Nat.reduceSub,reduceCtorEq,Int.reduceToNat];rfl):p:=e.mpr h
theorem Z33 {p q:Prop} (h:q) (e:p=q:=by simp (disch:=first|omega|(simp only [vlen];first|done|omega)) only [vse,hfr,hR,ha,↓vAq,vBq,↓reduceIte,Nat.reduceBEq,Nat.reduceEqDiff,Nat.reduceLT,Nat.reduceLeDiff,Nat.reduceAdd,Nat.reduceMul,Nat.reduceSub,reduceCtorEq,Int.reduceToNat];rfl):p:=e.mpr h
theorem Z34 {p q:Prop} (h:q) (e:p=q:=by simp (disch:=first|omega|(simp only [vlen];first|done|omega)) only [vse,vmk,hfr,hR2,ha,hsh,hor,↓vAq,vBq,↓reduceIte,Nat.reduceBEq,Nat.reduceEqDiff,Nat.reduceLT,Nat.reduceLeDiff,Nat.reduceAdd,Nat.reduceMul,Nat.reduceSub,reduceCtorEq,Int.reduceToNat];rfl):p:=e.mpr h
theorem Z35 {p q:Prop} (h:q) (e:p=q:=by simp (disch:=first|omega|(simp only [vlen];first|done|omega)) only [vth,hll,↓vAq,vBq,↓reduceIte,Nat.reduceBEq,Nat.reduceEqDiff,Nat.reduceLT,Nat.reduceLeDiff,Nat.reduceAdd,Nat.reduceMul,Nat.reduceSub,reduceCtorEq,Int.reduceToNat];rfl):p:=e.mpr h
theorem Z36 {p q:Prop} (h:q) (e:p=q:=by simp (disch:=first|omega|(simp only [vlen];first|done|omega)) only [hC,vbe,↓vAq,vBq,↓reduceIte,Nat.reduceBEq,Nat.reduceEqDiff,Nat.reduceLT,Nat.reduceLeDiff,Nat.reduceAdd,Nat.reduceMul,Nat.reduceSub,reduceCtorEq,Int.reduceToNat];rfl):p:=e.mpr h
theorem Z37 {p q:Prop} (h:q) (e:p=q:=by simp (disch:=first|omega|(simp only [vlen];first|done|omega)) only [vsp,hd1,↓vAq,vBq,↓reduceIte,Nat.reduceBEq,Nat.reduceEqDiff,Nat.reduceLT,Nat.reduceLeDiff,Nat.reduceAdd,Nat.reduceMul,Nat.reduceSub,reduceCtorEq,Int.reduceToNat];rfl):p:=e.mpr h
theorem Z38 {p q:Prop} (h:q) (e:p=q:=by simp (disch:=first|omega|(simp only [vlen];first|done|omega)) only [vtt,hse,↓vAq,vBq,↓reduceIte,Nat.reduceBEq,Nat.reduceEqDiff,Nat.reduceLT,Nat.reduceLeDiff,Nat.reduceAdd,Nat.reduceMul,Nat.reduceSub,reduceCtorEq,Int.reduceToNat];rfl):p:=e.mpr h
theorem Z39 {p q:Prop} (h:q) (e:p=q:=by simp (disch:=first|omega|(simp only [vlen];first|done|omega)) only [vtt,hye,hwpl,↓vAq,vBq,↓reduceIte,Nat.reduceBEq,Nat.reduceEqDiff,Nat.reduceLT,Nat.reduceLeDiff,Nat.reduceAdd,Nat.reduceMul,Nat.reduceSub,reduceCtorEq,Int.reduceToNat];rfl):p:=e.mpr h
theorem Z40 {p q:Prop} (h:q) (e:p=q:=by simp (disch:=first|omega|(simp only [vlen];first|done|omega)) only [vtt,hwpl,hlen1,↓vAq,vBq,↓reduceIte,Nat.reduceBEq,Nat.reduceEqDiff,Nat.reduceLT,Nat.reduceLeDiff,Nat.reduceAdd,Nat.reduceMul,Nat.reduceSub,reduceCtorEq,Int.reduceToNat];rfl):p:=e.mpr h
end Go.Dm

namespace Go.Dm
def nsum (f:Nat→Nat):Nat→Nat
  | 0=>0
  | n+1=>nsum f n+f n
theorem nsum_ext {f g:Nat→Nat}:∀ {n:Nat},(∀ m,m<n→f m=g m)→nsum f n=nsum g n
  | 0,_=>rfl
  | n+1,h=>by
    show nsum f n+f n=nsum g n+g n
    rw [nsum_ext fun m hm=>h m (by omega),h n (by omega)]
theorem nsum_zero {f:Nat→Nat}:∀ {n:Nat},(∀ m,m<n→f m=0)→nsum f n=0
  | 0,_=>rfl
  | n+1,h=>by
    show nsum f n+f n=0
    rw [nsum_zero fun m hm=>h m (by omega),h n (by omega)]
theorem nsum_le {f:Nat→Nat}:∀ {n m:Nat},m<n→f m≤nsum f n
  | 0,m,h=>absurd h (Nat.not_lt_zero _)
  | n+1,m,h=>by
    show f m≤nsum f n+f n
    by_cases e:m=n
    · subst e;omega
    · have:=@nsum_le f n m (by omega);omega
theorem nsum_mono {f:Nat→Nat} {n m:Nat} (h:n≤m):nsum f n≤nsum f m:=by
  induction m with
  | zero => have : n = 0 := by omega
            subst this;exact Nat.le_refl _
  | succ m ih =>
    by_cases e:n=m+1
    · subst e;exact Nat.le_refl _
    · exact Nat.le_trans (ih (by omega)) (Nat.le_add_right _ _)
theorem nsum_le_of {f g:Nat→Nat}:∀ {n:Nat},(∀ m,m<n→f m≤g m)→nsum f n≤nsum g n
  | 0,_=>Nat.le_refl _
  | n+1,h=>by
    have h1:=@nsum_le_of f g n fun m hm=>h m (by omega)
    have h2:=h n (by omega)
    show nsum f n+f n≤nsum g n+g n
    omega
theorem nsum_lt_of {f g:Nat→Nat}:∀ {n m:Nat},(∀ m,m<n→f m≤g m)→m<n→f m<g m→nsum f n<nsum g n
  | 0,m,_,h,_=>absurd h (Nat.not_lt_zero _)
  | n + 1, m, h, hm, hl => by
    show nsum f n+f n<nsum g n+g n
    by_cases e:m=n
    · subst e
      have h1:=@nsum_le_of f g m fun k hk=>h k (by omega)
      omega
    · have h1:=@nsum_lt_of f g n m (fun k hk=>h k (by omega)) (by omega) hl
      have h2:=h n (by omega)
      omega
theorem nsum_const {c:Nat} {f:Nat→Nat}:∀ {n:Nat},(∀ m,m<n→f m≤c)→nsum f n≤n * c
  | 0,_=>Nat.zero_le _
  | n+1,h=>by
    have h1:=@nsum_const c f n fun m hm=>h m (by omega)
    have h2:=h n (by omega)
    show nsum f n+f n≤(n+1) * c
    rw [Nat.succ_mul];omega
def tsum (f:Nat→Nat) (a b:Nat):Nat:=nsum (fun m=>if a≤m then f m else 0) b
theorem tsum_succ {f:Nat→Nat} {a b:Nat} (h:a≤b):tsum f a (b+1)=tsum f a b+f b:=by
  show nsum _ b+(if a≤b then f b else 0)=_
  rw [if_pos h];rfl
theorem tsum_empty {f:Nat→Nat} {a b:Nat} (h:b≤a):tsum f a b=0:=nsum_zero fun m hm=>if_neg (by omega)
theorem tsum_ext {f g:Nat→Nat} {a b:Nat} (h:∀ m,a≤m→m<b→f m=g m):tsum f a b=tsum g a b:=nsum_ext fun m hm=>by
  split
  · exact h m (by assumption) hm
  · rfl
theorem tsum_zero {f:Nat→Nat} {a b:Nat} (h:∀ m,a≤m→m<b→f m=0):tsum f a b=0:=nsum_zero fun m hm=>by
  split
  · exact h m (by assumption) hm
  · rfl
def rowT (T:Int→Nat→Nat→Nat):List Int→Nat→Nat→Nat
  | [],i,j=>if i=j then 1 else 0
  | [s],i,j=>T s i j
  | s::s'::l,i,j=>tsum (fun m=>T s i m * rowT T (s'::l) m j) (i+1) j
theorem rowT_congr {T T':Int→Nat→Nat→Nat}:∀ {l:List Int} {i j:Nat},(∀ s,s ∈ l→∀ a b,i≤a→b≤j→T s a b=T' s a b)→rowT T l i j=rowT T' l i j
  | [],_,_,_=>rfl
  | [s],i,j,h=>h s (by simp) i j (Nat.le_refl _) (Nat.le_refl _)
  | s::s'::l,i,j,h=>tsum_ext fun m h1 h2=>by
    rw [h s (by simp) i m (Nat.le_refl _) (by omega),rowT_congr (l:=s'::l) fun x hx a b ha hb=>h x (List.mem_cons_of_mem _ hx) a b (by omega) hb]
def symV (w:List Int) (x:Int) (i j:Nat):Nat:=if j=i+1∧w.getD i 0=x then 1 else 0
def treeF (g:Grammar) (w:List Int):Nat→Int→Nat→Nat→Nat
  | 0,x,i,j=>if x<g.k then symV w x i j else 0
  | f+1,x,i,j=>if x<g.k then symV w x i j else nsum (fun q=>if (g.rules.getD q default).left=x - g.k then rowT (treeF g w f) (g.rules.getD q default).right i j else 0) g.rules.length
def Proper (g:Grammar):Prop:=∀ r,r ∈ g.rules→r.right ≠ []∧∀ x,r.right=[x]→x<g.k
theorem treeF_sym {g:Grammar} {w:List Int} {f:Nat} {x:Int} {i j:Nat} (h:x<g.k):treeF g w f x i j=symV w x i j:=by
  cases f<;>simp only [treeF,if_pos h]
theorem treeF_stable {g : Grammar} {w : List Int} (hp : Proper g) : ∀ (n f f' : Nat), n < f → n < f' → ∀ (x : Int) (i j : Nat), j - i ≤ n → treeF g w f x i j = treeF g w f' x i j := by
  intro n
  induction n with
  | zero =>
    intro f f' hf hf' x i j hij
    by_cases hx:x<g.k
    · rw [treeF_sym hx,treeF_sym hx]
    cases f with
    | zero=>omega
    | succ f=>cases f' with
      | zero=>omega
      | succ f' =>
        simp only [treeF,if_neg hx]
        refine nsum_ext fun q hq => ?_
        split
        · have hr:=hp _ (getD_mem' (l:=g.rules) (i:=q) hq)
          generalize (g.rules.getD q default).right=l at hr
          match l,hr with
          | [],hr=>exact absurd rfl hr.1
          | [s],hr =>
            have:=hr.2 s rfl
            show treeF g w f s i j=treeF g w f' s i j
            rw [treeF_sym this,treeF_sym this]
          | s::s'::l,hr =>
            show tsum _ _ _=tsum _ _ _
            rw [tsum_empty (by omega),tsum_empty (by omega)]
        · rfl
  | succ n ih =>
    intro f f' hf hf' x i j hij
    by_cases hx:x<g.k
    · rw [treeF_sym hx,treeF_sym hx]
    cases f with
    | zero=>omega
    | succ f=>cases f' with
      | zero=>omega
      | succ f' =>
        simp only [treeF,if_neg hx]
        refine nsum_ext fun q hq => ?_
        split
        · have hr:=hp _ (getD_mem' (l:=g.rules) (i:=q) hq)
          generalize (g.rules.getD q default).right=l at hr
          match l,hr with
          | [],hr=>exact absurd rfl hr.1
          | [s],hr =>
            have:=hr.2 s rfl
            show treeF g w f s i j=treeF g w f' s i j
            rw [treeF_sym this,treeF_sym this]
          | s::s'::l,hr =>
            refine tsum_ext fun m h1 h2 => ?_
            rw [ih f f' (by omega) (by omega) s i m (by omega),rowT_congr (l:=s'::l) fun x hx a b ha hb=>ih f f' (by omega) (by omega) x a b (by omega)]
        · rfl
def trees (g:Grammar) (w:List Int) (x:Int) (i j:Nat):Nat:=treeF g w (j - i+1) x i j
def rowN (g:Grammar) (w:List Int) (l:List Int) (i j:Nat):Nat:=rowT (trees g w) l i j
theorem trees_sym {g:Grammar} {w:List Int} {x:Int} {i j:Nat} (h:x<g.k):trees g w x i j=symV w x i j:=treeF_sym h
theorem trees_fuel {g:Grammar} {w:List Int} (hp:Proper g) {f:Nat} {x:Int} {i j:Nat} (h:j - i<f):treeF g w f x i j=trees g w x i j:=treeF_stable hp (j - i) _ _ h (by omega) x i j (Nat.le_refl _)
def ruleV (g:Grammar) (w:List Int) (x:Int) (i j q:Nat):Nat:=if (g.rules.getD q default).left=x - g.k then rowN g w (g.rules.getD q default).right i j else 0
theorem trees_name {g:Grammar} {w:List Int} (hp:Proper g) {x:Int} {i j:Nat} (h:¬ x<g.k):trees g w x i j=nsum (ruleV g w x i j) g.rules.length:=by
  unfold trees
  rw [treeF,if_neg h]
  refine nsum_ext fun q hq => ?_
  unfold ruleV rowN
  split
  · have hr:=hp _ (getD_mem' (l:=g.rules) (i:=q) hq)
    generalize (g.rules.getD q default).right=l at hr
    match l,hr with
    | [],hr=>exact absurd rfl hr.1
    | [s],hr =>
      have:=hr.2 s rfl
      show treeF g w _ s i j=trees g w s i j
      rw [treeF_sym this,trees_sym this]
    | s::s'::l,hr =>
      refine tsum_ext fun m h1 h2 => ?_
      rw [trees_fuel hp (by omega),rowT_congr (l:=s'::l) fun x hx a b ha hb=>trees_fuel hp (by omega)]
  · rfl
theorem rowN_nil {g:Grammar} {w:List Int} {i j:Nat}:rowN g w [] i j=if i=j then 1 else 0:=(rfl)
theorem rowN_one {g:Grammar} {w:List Int} {s:Int} {i j:Nat}:rowN g w [s] i j=trees g w s i j:=(rfl)
theorem rowN_two {g:Grammar} {w:List Int} {s s':Int} {l:List Int} {i j:Nat}:rowN g w (s::s'::l) i j=tsum (fun m=>trees g w s i m * rowN g w (s'::l) m j) (i+1) j:=(rfl)
theorem rowN_drop {g:Grammar} {w:List Int} {l:List Int} {q i j:Nat} (h:q+1<l.length):rowN g w (l.drop q) i j=tsum (fun m=>trees g w (l.getD q 0) i m * rowN g w (l.drop (q+1)) m j) (i+1) j:=by
  have e:l.drop q=l.getD q 0::l.drop (q+1):=by
    rw [List.drop_eq_getElem_cons (by omega)];simp [List.getD,show q<l.length by omega]
  have e2:l.drop (q+1)=l.getD (q+1) 0::l.drop (q+2):=by
    rw [List.drop_eq_getElem_cons (by omega)];simp [List.getD,show q+1<l.length by omega]
  rw [e,e2,rowN_two,← e2]
theorem rowN_last {g:Grammar} {w:List Int} {l:List Int} {q i j:Nat} (h:q+1=l.length):rowN g w (l.drop q) i j=trees g w (l.getD q 0) i j:=by
  have e:l.drop q=l.getD q 0::l.drop (q+1):=by
    rw [List.drop_eq_getElem_cons (by omega)];simp [List.getD,show q<l.length by omega]
  rw [e,List.drop_of_length_le (by omega),rowN_one]
theorem rowT_short {T:Int→Nat→Nat→Nat} (hT:∀ s a b,b≤a→T s a b=0):∀ {l:List Int} {i j:Nat},j - i<l.length→rowT T l i j=0
  | [],_,_,h=>absurd h (Nat.not_lt_zero _)
  | [s],i,j,h=>hT s i j (by simp at h;omega)
  | s::s'::l,i,j,h=>tsum_zero fun m h1 h2=>by
    rw [rowT_short hT (l:=s'::l) (by simp only [List.length_cons] at h ⊢;omega),Nat.mul_zero]
theorem treeF_none {g:Grammar} {w:List Int} (hp:Proper g):∀ {f:Nat} {x:Int} {i j:Nat},j≤i→treeF g w f x i j=0
  | f, x, i, j, h => by
    by_cases hx:x<g.k
    · rw [treeF_sym hx];exact if_neg (by omega)
    cases f with
    | zero=>simp only [treeF,if_neg hx]
    | succ f =>
      simp only [treeF,if_neg hx]
      refine nsum_zero fun q hq => ?_
      split
      · exact rowT_short (fun s a b hab=>treeF_none hp hab) (by
          have hr:=(hp _ (getD_mem' (l:=g.rules) (i:=q) hq)).1
          have:=List.length_pos_iff.mpr hr
          omega)
      · rfl
theorem trees_none {g:Grammar} {w:List Int} (hp:Proper g) {x:Int} {i j:Nat} (h:j≤i):trees g w x i j=0:=treeF_none hp h
theorem rowN_short {g:Grammar} {w:List Int} (hp:Proper g) {l:List Int} {i j:Nat} (h:j - i<l.length):rowN g w l i j=0:=rowT_short (fun s a b hab=>trees_none hp hab) h
def cp (n:Nat):Nat:=min n 1099511627777
theorem cp_le {n:Nat}:cp n≤1099511627777:=Nat.min_le_right ..
theorem cp_zero {n:Nat}:cp n=0 ↔ n=0:=by unfold cp;omega
theorem cp_mul {a b:Nat}:min (cp a * cp b) 1099511627777=cp (a * b):=by
  by_cases ha:a=0
  · subst ha;simp [cp]
  by_cases hb:b=0
  · subst hb;simp [cp]
  by_cases h1:a≤1099511627777
  · by_cases h2:b≤1099511627777
    · have e1:cp a=a:=Nat.min_eq_left h1
      have e2:cp b=b:=Nat.min_eq_left h2
      rw [e1,e2];rfl
    · have e2:cp b=1099511627777:=Nat.min_eq_right (by omega)
      have h3:1099511627777≤a * b:=Nat.le_trans (show 1099511627777≤b by omega) (Nat.le_mul_of_pos_left b (by omega))
      have h4:1099511627777≤cp a * 1099511627777:=Nat.le_mul_of_pos_left _ (by unfold cp;omega)
      rw [e2];unfold cp at h4 ⊢;omega
  · have e1:cp a=1099511627777:=Nat.min_eq_right (by omega)
    have h3:1099511627777≤a * b:=Nat.le_trans (show 1099511627777≤a by omega) (Nat.le_mul_of_pos_right a (by omega))
    have h4:1099511627777≤1099511627777 * cp b:=Nat.le_mul_of_pos_right _ (by unfold cp;omega)
    rw [e1];unfold cp at h4 ⊢;omega
end Go.Dm

namespace Go.Dm
def RuleAt (g:Grammar) (x q:Int):Prop:=0≤q∧q<g.rules.length∧(g.rules.getD q.toNat default).left=x - g.k
inductive Pr (g:Grammar):List Int→List Int→List Int→List Int→Prop
  | nil {st:List Int}:Pr g [] st [] st
  | sym {x:Int} {s st w r:List Int} (hx:x<g.k) (h:Pr g s st w r):Pr g (x::s) st (x::w) r
  | name {x q:Int} {s st w r:List Int} (hx:¬ x<g.k) (hq:RuleAt g x q) (h:Pr g ((g.rules.getD q.toNat default).right++s) st w r):Pr g (x::s) (q::st) w r
theorem Pr.det {g:Grammar} {s st w r w' r':List Int} (h:Pr g s st w r) (h':Pr g s st w' r'):w=w'∧r=r':=by
  induction h generalizing w' r' with
  | nil=>cases h';exact ⟨rfl,rfl⟩
  | sym hx _ ih =>
    cases h' with
    | sym _ h2=>have:=ih h2;exact ⟨by rw [this.1],this.2⟩
    | name hn _ _=>exact absurd hx hn
  | name hx hq _ ih =>
    cases h' with
    | sym hn _=>exact absurd hn hx
    | name _ _ h2=>exact ih h2
theorem Pr.app {g:Grammar} {a b st w1 m w2 r:List Int} (h:Pr g a st w1 m) (k:Pr g b m w2 r):Pr g (a++b) st (w1++w2) r:=by
  induction h with
  | nil=>exact k
  | sym hx _ ih=>exact .sym hx (ih k)
  | @name x q s st w r hx hq _ ih =>
    refine .name hx hq ?_
    have:=ih k
    rwa [List.append_assoc] at this
theorem Pr.split {g:Grammar} {c st w r:List Int} (h:Pr g c st w r):∀ {a b:List Int},c=a++b → ∃ w1 m w2,Pr g a st w1 m∧Pr g b m w2 r∧w=w1++w2:=by
  induction h with
  | nil =>
    intro a b e
    obtain ⟨rfl,rfl⟩:=List.append_eq_nil_iff.mp e.symm
    exact ⟨[],_,[],.nil,.nil,rfl⟩
  | @sym x s st w r hx h ih =>
    intro a b e
    cases a with
    | nil=>simp only [List.nil_append] at e;subst e;exact ⟨[],_,_,.nil,.sym hx h,rfl⟩
    | cons y a =>
      simp only [List.cons_append,List.cons.injEq] at e
      obtain ⟨rfl,rfl⟩:=e
      obtain ⟨w1,m,w2,h1,h2,h3⟩:=ih rfl
      exact ⟨x::w1,m,w2,.sym hx h1,h2,by rw [h3];rfl⟩
  | @name x q s st w r hx hq h ih =>
    intro a b e
    cases a with
    | nil=>simp only [List.nil_append] at e;subst e;exact ⟨[],_,_,.nil,.name hx hq h,rfl⟩
    | cons y a =>
      simp only [List.cons_append,List.cons.injEq] at e
      obtain ⟨rfl,rfl⟩:=e
      obtain ⟨w1,m,w2,h1,h2,h3⟩:=ih (by rw [List.append_assoc])
      exact ⟨w1,m,w2,.name hx hq h1,h2,h3⟩
theorem Pr.terms {g:Grammar} {u st:List Int} (h:∀ x,x ∈ u→x<g.k):Pr g u st u st:=by
  induction u with
  | nil=>exact .nil
  | cons x u ih=>exact .sym (h x (by simp)) (ih fun y hy=>h y (List.mem_cons_of_mem _ hy))
theorem Pr.pass {g:Grammar} {u s st w r:List Int} (h:∀ x,x ∈ u→x<g.k):Pr g (u++s) st w r ↔ ∃ w',Pr g s st w' r∧w=u++w':=by
  constructor
  · intro hp
    obtain ⟨w1,m,w2,h1,h2,h3⟩:=hp.split rfl
    obtain ⟨rfl,rfl⟩:=h1.det (Pr.terms h)
    exact ⟨w2,h2,h3⟩
  · rintro ⟨w',h1,rfl⟩
    exact (Pr.terms h).app h1
theorem Pr.step {g:Grammar} {u s st w r:List Int} {x q:Int} (h:∀ x,x ∈ u→x<g.k) (hx:¬ x<g.k):Pr g (u++x::s) (q::st) w r ↔ RuleAt g x q∧Pr g (u++((g.rules.getD q.toNat default).right++s)) st w r:=by
  rw [Pr.pass h]
  constructor
  · rintro ⟨w',h1,rfl⟩
    cases h1 with
    | sym hn _=>exact absurd hn hx
    | name _ hq h2=>exact ⟨hq,(Pr.pass h).mpr ⟨w',h2,rfl⟩⟩
  · rintro ⟨hq,h1⟩
    obtain ⟨w',h2,rfl⟩:=(Pr.pass h).mp h1
    exact ⟨w',.name hx hq h2,rfl⟩
theorem Pr.done {g:Grammar} {l w r:List Int} (h:Pr g l [] w r):(∀ x,x ∈ l→x<g.k)∧w=l∧r=[]:=by
  generalize he:([]:List Int)=st at h
  induction h with
  | nil=>subst he;exact ⟨by simp,rfl,rfl⟩
  | sym hx _ ih =>
    obtain ⟨h1,h2,h3⟩:=ih he
    refine ⟨fun y hy => ?_,by rw [h2],h3⟩
    rcases List.mem_cons.mp hy with e|hy
    · rw [e];exact hx
    · exact h1 y hy
  | name _ _ _ _=>cases he
theorem Pr.len {g:Grammar} {B:Nat} (hB:∀ q,q<g.rules.length→(g.rules.getD q default).right.length≤B) {s st w r:List Int} (h:Pr g s st w r):r.length≤st.length∧w.length≤s.length+B * (st.length - r.length):=by
  induction h with
  | nil=>exact ⟨Nat.le_refl _,by simp⟩
  | sym _ _ ih=>refine ⟨ih.1,?_⟩;have:=ih.2;simp only [List.length_cons];omega
  | @name x q s st w r hx hq _ ih =>
    obtain ⟨h1,h2⟩:=ih
    have h3:=hB q.toNat (by have:=hq.1;have:=hq.2.1;omega)
    refine ⟨by simp only [List.length_cons];omega,?_⟩
    rw [List.length_append] at h2
    simp only [List.length_cons]
    rw [show st.length+1 - r.length=(st.length - r.length)+1 by omega,Nat.mul_succ]
    omega
end Go.Dm

namespace Go.Dm
def cutN:Nat→Nat→Nat→List (List Nat)
  | 0,_,to=>[[to]]
  | n+1,frm,to=>(List.range (to - (frm+1))).flatMap fun q=>(cutN n (frm+1+q) to).map fun r=>(frm+1+q)::r
theorem cutN_last:∀ {n i j:Nat} {c:List Nat},c ∈ cutN n i j→c.getLast?=some j
  | 0,i,j,c,h=>by simp [cutN] at h;subst h;rfl
  | n+1,i,j,c,h=>by
    simp only [cutN,List.mem_flatMap,List.mem_map] at h
    obtain ⟨q,_,r,hr,rfl⟩:=h
    have:=cutN_last hr
    cases r with
    | nil=>simp at this
    | cons y r=>rw [List.getLast?_cons_cons];exact this
theorem nodup_flat {α β:Type} {f:α→List β}:∀ {l:List α},l.Nodup→(∀ x,x ∈ l→(f x).Nodup)→(∀ x,x ∈ l→∀ y,y ∈ l→x ≠ y→∀ z,z ∈ f x→z ∉ f y)→(l.flatMap f).Nodup
  | [],_,_,_=>by simp
  | x::l,hn,h1,h2=>by
    rw [List.nodup_cons] at hn
    rw [List.flatMap_cons,List.nodup_append]
    refine ⟨h1 x (by simp),nodup_flat hn.2 (fun y hy=>h1 y (by simp [hy])) (fun y hy z hz=>h2 y (by simp [hy]) z (by simp [hz])),fun a ha b hb e => ?_⟩
    subst e
    obtain ⟨y,hy,hz⟩:=List.mem_flatMap.1 hb
    exact h2 x (by simp) y (by simp [hy]) (fun e=>hn.1 (e ▸ hy)) a ha hz
theorem cutN_nodup:∀ {n i j:Nat},(cutN n i j).Nodup
  | 0,i,j=>by simp [cutN]
  | n + 1, i, j => by
    unfold cutN
    refine nodup_flat List.nodup_range (fun q _ => ?_) (fun x _ y _ hxy z hz hz' => ?_)
    · have:=cutN_nodup (n:=n) (i:=i+1+q) (j:=j)
      exact List.Pairwise.map _ (fun a b hab e=>hab (by simpa using e)) this
    · obtain ⟨r,_,rfl⟩:=List.mem_map.1 hz
      obtain ⟨r',_,e⟩:=List.mem_map.1 hz'
      simp only [List.cons.injEq] at e
      omega
theorem cutN_inj {n i j c c':Nat} (h:c<(cutN n i j).length) (h':c'<(cutN n i j).length) (e:(cutN n i j).getD c []=(cutN n i j).getD c' []):c=c':=by
  rw [List.getD_eq_getElem?_getD,List.getD_eq_getElem?_getD,List.getElem?_eq_getElem h,List.getElem?_eq_getElem h'] at e
  exact (List.getElem_inj cutN_nodup).1 (by simpa using e)
theorem getD_cut {n i j c:Nat} (h:c<(cutN n i j).length):(cutN n i j).getD c [] ∈ cutN n i j:=by
  rw [List.getD_eq_getElem?_getD,List.getElem?_eq_getElem h];exact List.getElem_mem h
def prT (g:Grammar) (w:List Int):List Int→Nat→List Nat→Nat
  | x::l,i,e::es=>trees g w x i e * prT g w l e es
  | _,_,_=>1
theorem prT_nil {g:Grammar} {w:List Int} {i:Nat} {es:List Nat}:prT g w [] i es=1:=(rfl)
theorem prT_cons {g:Grammar} {w:List Int} {x:Int} {l:List Int} {i e:Nat} {es:List Nat}:prT g w (x::l) i (e::es)=trees g w x i e * prT g w l e es:=(rfl)
def sumL {α:Type} (f:α→Nat):List α→Nat
  | []=>0
  | x::l=>f x+sumL f l
theorem sumL_app {α:Type} {f:α→Nat}:∀ {a b:List α},sumL f (a++b)=sumL f a+sumL f b
  | [],b=>by simp [sumL]
  | x::a,b=>by simp only [List.cons_append,sumL,sumL_app];omega
theorem sumL_map {α β:Type} {f:β→Nat} {h:α→β}:∀ {a:List α},sumL f (a.map h)=sumL (fun x=>f (h x)) a
  | []=>rfl
  | x::a=>by simp only [List.map_cons,sumL,sumL_map]
theorem sumL_mul {α:Type} {f:α→Nat} {c:Nat}:∀ {a:List α},sumL (fun x=>c * f x) a=c * sumL f a
  | []=>by simp [sumL]
  | x::a=>by simp only [sumL,sumL_mul,Nat.mul_add]
theorem sumL_congr {α:Type} {f h:α→Nat}:∀ {a:List α},(∀ x,x ∈ a→f x=h x)→sumL f a=sumL h a
  | [],_=>rfl
  | x::a,hh=>by rw [sumL,sumL,hh x (by simp),sumL_congr fun y hy=>hh y (by simp [hy])]
theorem sumL_flat {α β:Type} {f:β→Nat} {h:α→List β}:∀ {a:List α},sumL f (a.flatMap h)=sumL (fun x=>sumL f (h x)) a
  | []=>rfl
  | x::a=>by rw [List.flatMap_cons,sumL_app,sumL,sumL_flat]
theorem sumL_range {f:Nat→Nat}:∀ {n:Nat},sumL f (List.range n)=nsum f n
  | 0=>rfl
  | n+1=>by rw [List.range_succ,sumL_app,sumL_range,sumL,sumL];rfl
theorem sumL_take {α:Type} {f:α→Nat} {l:List α} {c:Nat} {d:α} (h:c<l.length):sumL f (l.take c)+f (l.getD c d)≤sumL f l:=by
  have e:l=l.take c++l.getD c d::l.drop (c+1):=by
    conv=>lhs;rw [← List.take_append_drop c l,List.drop_eq_getElem_cons h]
    simp [List.getD,h]
  conv=>rhs;rw [e]
  rw [sumL_app,sumL];omega
theorem nsum_shift {f:Nat→Nat} {a:Nat}:∀ {b:Nat},a≤b→tsum f a b=nsum (fun q=>f (a+q)) (b - a)
  | 0, h => by have : a = 0 := by omega
               subst this;rfl
  | b + 1, h => by
    by_cases e:a=b+1
    · subst e;rw [tsum_empty (Nat.le_refl _),Nat.sub_self];rfl
    · rw [tsum_succ (by omega),nsum_shift (b:=b) (by omega),show b+1 - a=(b - a)+1 by omega]
      show _=nsum _ (b - a)+f (a+(b - a))
      rw [show a+(b - a)=b by omega]
theorem cut_sum {g:Grammar} {w:List Int}:∀ (l:List Int) (i j:Nat),l ≠ []→sumL (prT g w l i) (cutN (l.length - 1) i j)=rowN g w l i j
  | [],_,_,h=>absurd rfl h
  | [x],i,j,_=>by simp [cutN,sumL,prT,rowN_one]
  | x :: y :: l, i, j, _ => by
    rw [rowN_two]
    show sumL _ (cutN (l.length+1) i j)=_
    unfold cutN
    rw [sumL_flat,sumL_range]
    have key:∀ q,sumL (prT g w (x::y::l) i) ((cutN l.length (i+1+q) j).map fun r=>(i+1+q)::r)=trees g w x i (i+1+q) * rowN g w (y::l) (i+1+q) j:=fun q=>by
      rw [sumL_map,← cut_sum (y::l) (i+1+q) j (by simp),← sumL_mul]
      exact sumL_congr fun r _=>prT_cons
    rw [nsum_ext (fun q _=>key q)]
    by_cases h:i+1≤j
    · rw [nsum_shift h]
    · rw [show j - (i+1)=0 by omega,tsum_empty (by omega)];rfl
def rlB (g:Grammar) (w:List Int) (x:Int) (i j q:Nat):Nat:=nsum (ruleV g w x i j) q
inductive Tk (g:Grammar) (w:List Int):List Int→Nat→List Nat→List Int→Nat→Prop
  | nil (i:Nat):Tk g w [] i [] [] 0
  | sym {x:Int} {l:List Int} {i:Nat} {es:List Nat} {st:List Int} {K:Nat} (hx:x<g.k) (hw:w.getD i 0=x) (h:Tk g w l (i+1) es st K):Tk g w (x::l) i ((i+1)::es) st K
  | name {x:Int} {l:List Int} {i e:Nat} {es:List Nat} {q c:Nat} {s1 s2:List Int} {K1 K2:Nat} (hx:¬ x<g.k) (hq:RuleAt g x q) (hc:c<(cutN ((g.rules.getD q default).right.length - 1) i e).length)
      (h1:Tk g w (g.rules.getD q default).right i ((cutN ((g.rules.getD q default).right.length - 1) i e).getD c []) s1 K1) (h2:Tk g w l e es s2 K2) :
      Tk g w (x::l) i (e::es) ((q:Int)::s1++s2) ((rlB g w x i e q+sumL (prT g w (g.rules.getD q default).right i) ((cutN ((g.rules.getD q default).right.length - 1) i e).take c)+K1) * prT g w l e es+K2)
theorem rule_row {g:Grammar} {w:List Int} {x:Int} {q i j:Nat} (hq:RuleAt g x q):ruleV g w x i j q=rowN g w (g.rules.getD q default).right i j:=by
  unfold ruleV
  have:=hq.2.2
  rw [Int.toNat_natCast] at this
  rw [if_pos this]
theorem rlB_row {g:Grammar} {w:List Int} (hp:Proper g) {x:Int} {q i j:Nat} (hx:¬ x<g.k) (hq:RuleAt g x q):rlB g w x i j q+rowN g w (g.rules.getD q default).right i j≤trees g w x i j:=by
  rw [trees_name hp hx,← rule_row hq]
  exact nsum_mono (f:=ruleV g w x i j) (n:=q+1) (by have:=hq.2.1;omega)
theorem right_ne {g:Grammar} (hp:Proper g) {q:Nat} (hq:q<g.rules.length):(g.rules.getD q default).right ≠ []:=(hp _ (getD_mem' (l:=g.rules) (i:=q) hq)).1
theorem rule_lt {g:Grammar} {x:Int} {q:Nat} (hq:RuleAt g x q):q<g.rules.length:=by have:=hq.2.1;omega
theorem Tk.lt {g:Grammar} {w:List Int} (hp:Proper g) {l:List Int} {i:Nat} {es:List Nat} {st:List Int} {K:Nat} (h:Tk g w l i es st K):K<prT g w l i es:=by
  induction h with
  | nil=>exact Nat.one_pos
  | @sym x l i es st K hx hw h ih =>
    rw [prT_cons,trees_sym hx,symV,if_pos ⟨rfl,hw⟩,Nat.one_mul];exact ih
  | @name x l i e es q c s1 s2 K1 K2 hx hq hc h1 h2 ih1 ih2 =>
    have hr:=cut_sum (g:=g) (w:=w) _ i e (right_ne hp (rule_lt hq))
    have h3:=sumL_take (f:=prT g w (g.rules.getD q default).right i) (d:=[]) hc
    have h4:=rlB_row hp (w:=w) (i:=i) (j:=e) hx hq
    rw [prT_cons]
    have h5:rlB g w x i e q+sumL (prT g w (g.rules.getD q default).right i) ((cutN ((g.rules.getD q default).right.length - 1) i e).take c)+K1+1≤trees g w x i e:=by omega
    refine Nat.lt_of_lt_of_le ?_ (Nat.mul_le_mul_right _ h5)
    rw [Nat.succ_mul];omega
theorem Tk.cons {g:Grammar} {w:List Int} {x:Int} {l:List Int} {i e:Nat} {es:List Nat} {s1 s2:List Int} {n K:Nat} (h1:Tk g w [x] i [e] s1 n) (h2:Tk g w l e es s2 K):Tk g w (x::l) i (e::es) (s1++s2) (n * prT g w l e es+K):=by
  cases h1 with
  | sym hx hw h =>
    cases h with
    | nil=>rw [Nat.zero_mul,Nat.zero_add];exact .sym hx hw h2
  | @name _ _ _ _ _ q c t1 t2 K1 K2 hx hq hc h3 h4 =>
    cases h4 with
    | nil =>
      rw [List.append_nil]
      have:=Tk.name hx hq hc h3 h2
      rw [show prT g w [] e []=1 from rfl,Nat.mul_one,Nat.add_zero]
      exact this
theorem Tk.len {g:Grammar} {w:List Int} {l:List Int} {i:Nat} {es:List Nat} {st:List Int} {K:Nat} (h:Tk g w l i es st K):es.length=l.length:=by
  induction h with
  | nil=>rfl
  | sym _ _ _ ih=>simp [ih]
  | name _ _ _ _ _ _ ih2=>simp [ih2]
theorem Tk.det {g:Grammar} {w:List Int} {l:List Int} {i:Nat} {es:List Nat} {st:List Int} {K:Nat} (h:Tk g w l i es st K):∀ {es':List Nat} {st' r r':List Int} {K':Nat},Tk g w l i es' st' K'→st++r=st'++r'→st=st'∧es=es'∧K=K'∧r=r':=by
  induction h with
  | nil =>
    intro es' st' r r' K' h' e
    cases h' with
    | nil=>exact ⟨rfl,rfl,rfl,e⟩
  | sym hx hw h ih =>
    intro es' st' r r' K' h' e
    cases h' with
    | sym _ _ h2=>obtain ⟨e1,e2,e3,e4⟩:=ih h2 e;exact ⟨e1,by rw [e2],e3,e4⟩
    | name hn=>exact absurd hx hn
  | @name x l i e es q c s1 s2 K1 K2 hx hq hc h1 h2 ih1 ih2 =>
    intro es' st' r r' K' h' he
    cases h' with
    | sym hn=>exact absurd hn hx
    | @name _ _ _ e' es' q' c' t1 t2 L1 L2 hx' hq' hc' k1 k2 =>
      simp only [List.cons_append,List.append_assoc,List.cons.injEq,Int.natCast_inj] at he
      obtain ⟨rfl,he⟩:=he
      obtain ⟨e1,e2,e3,e4⟩:=ih1 k1 he
      have l1:=cutN_last (getD_cut hc)
      have l2:=cutN_last (getD_cut hc')
      rw [e2,l2] at l1
      have hee:e'=e:=by simpa using l1
      subst hee
      have hcc:=cutN_inj hc hc' e2
      subst hcc
      obtain ⟨f1,f2,f3,f4⟩:=ih2 k2 e4
      exact ⟨by rw [e1,f1],by rw [f2],by rw [e3,f2,f3],f4⟩
end Go.Dm

namespace Go.Dm
def splN (g:Grammar) (w:List Int):List Int→Nat→Nat→List (List Nat)
  | [],i,j=>if i=j then [[]] else []
  | x::l,i,j=>(List.range (j - i)).flatMap fun q=>if trees g w x i (i+1+q)=0∨rowN g w l (i+1+q) j=0 then [] else (splN g w l (i+1+q) j).map fun r=>(i+1+q)::r
def splP (g:Grammar) (w:List Int) (x:Int) (l:List Int) (i j n:Nat):List (List Nat):=(List.range n).flatMap fun q=>if trees g w x i (i+1+q)=0∨rowN g w l (i+1+q) j=0 then [] else (splN g w l (i+1+q) j).map fun r=>(i+1+q)::r
theorem splN_cons {g:Grammar} {w:List Int} {x:Int} {l:List Int} {i j:Nat}:splN g w (x::l) i j=splP g w x l i j (j - i):=rfl
theorem splP_succ {g:Grammar} {w:List Int} {x:Int} {l:List Int} {i j n:Nat}:splP g w x l i j (n+1)=splP g w x l i j n++(if trees g w x i (i+1+n)=0∨rowN g w l (i+1+n) j=0 then [] else (splN g w l (i+1+n) j).map fun r=>(i+1+n)::r):=by
  unfold splP
  rw [List.range_succ,List.flatMap_append];simp
theorem flatMap_congr' {α β:Type} {f k:α→List β}:∀ {l:List α},(∀ x,x ∈ l→f x=k x)→l.flatMap f=l.flatMap k
  | [],_=>rfl
  | x::l,h=>by rw [List.flatMap_cons,List.flatMap_cons,h x (by simp),flatMap_congr' fun y hy=>h y (by simp [hy])]
theorem filter_flat {α β:Type} {f:α→List β} {p:β→Bool}:∀ {l:List α},(l.flatMap f).filter p=l.flatMap fun x=>(f x).filter p
  | []=>rfl
  | x::l=>by rw [List.flatMap_cons,List.filter_append,List.flatMap_cons,filter_flat]
theorem sumL_zero {α:Type} {f:α→Nat}:∀ {l:List α},sumL f l=0→∀ x,x ∈ l→f x=0
  | [],_,x,hx=>by cases hx
  | y::l,h,x,hx=>by
    rw [sumL] at h
    rcases List.mem_cons.1 hx with rfl|hx
    · omega
    · exact sumL_zero (l:=l) (by omega) x hx
theorem splN_cut {g : Grammar} {w : List Int} (hp : Proper g) : ∀ (l : List Int) (i j : Nat), l ≠ [] → splN g w l i j = (cutN (l.length - 1) i j).filter fun c => decide (prT g w l i c ≠ 0)
  | [],_,_,h=>absurd rfl h
  | [x], i, j, _ => by
    have e1:cutN ([x].length - 1) i j=[[j]]:=rfl
    rw [e1,splN_cons]
    have e2 : ∀ n, n ≤ j - i → splP g w x [] i j n = if n = j - i ∧ i < j ∧ trees g w x i j ≠ 0 then [[j]] else [] := by
      intro n
      induction n with
      | zero=>intro _;rw [if_neg (fun h=>by omega)];rfl
      | succ n ih =>
        intro hn
        rw [splP_succ,ih (by omega),if_neg (fun h=>by omega),List.nil_append,rowN_nil]
        by_cases h:n+1=j - i
        · have e:i+1+n=j:=by omega
          rw [e,if_pos rfl]
          by_cases ht:trees g w x i j=0
          · rw [if_pos (.inl ht),if_neg (fun c=>c.2.2 ht)]
          · rw [if_neg (fun c=>c.elim ht (fun c=>by omega)),if_pos ⟨h,by omega,ht⟩]
            simp [splN]
        · rw [if_pos (.inr (if_neg (by omega))),if_neg (fun c=>h c.1)]
    rw [e2 _ (Nat.le_refl _)]
    simp only [prT_cons,prT_nil,Nat.mul_one,List.filter_cons,List.filter_nil,decide_eq_true_eq]
    by_cases h:i<j
    · by_cases ht:trees g w x i j=0
      · rw [if_neg (fun c=>c.2.2 ht),if_neg (fun c=>c ht)]
      · simp [h,ht]
    · rw [if_neg (fun c=>h c.2.1),if_neg (fun c=>c (trees_none hp (by omega)))]
  | x :: y :: l, i, j, _ => by
    rw [splN_cons]
    show splP g w x (y::l) i j (j - i)=(cutN (l.length+1) i j).filter _
    unfold cutN
    rw [filter_flat]
    have key:∀ q,(if trees g w x i (i+1+q)=0∨rowN g w (y::l) (i+1+q) j=0 then [] else (splN g w (y::l) (i+1+q) j).map fun r=>(i+1+q)::r)=((cutN l.length (i+1+q) j).map fun r=>(i+1+q)::r).filter fun c=>decide (prT g w (x::y::l) i c ≠ 0):=fun q=>by
      rw [List.filter_map]
      have hs:=cut_sum (g:=g) (w:=w) (y::l) (i+1+q) j (by simp)
      by_cases hc:trees g w x i (i+1+q)=0∨rowN g w (y::l) (i+1+q) j=0
      · rw [if_pos hc]
        symm
        rw [List.map_eq_nil_iff,List.filter_eq_nil_iff]
        intro r hr
        simp only [Function.comp,decide_eq_true_eq,ne_eq,Decidable.not_not]
        rw [prT_cons]
        rcases hc with hc|hc
        · rw [hc,Nat.zero_mul]
        · have:=sumL_zero (hs.trans hc) r hr
          rw [this,Nat.mul_zero]
      · rw [if_neg hc,splN_cut hp (y::l) _ _ (by simp)]
        refine congrArg _ (List.filter_congr fun r _ => ?_)
        have ht:trees g w x i (i+1+q) ≠ 0:=fun h=>hc (.inl h)
        simp only [Function.comp,prT_cons (l:=y::l),ne_eq,Nat.mul_eq_zero,ht,false_or]
    have hsm:splP g w x (y::l) i j (j - i)=splP g w x (y::l) i j (j - (i+1)):=by
      by_cases h:i<j
      · have h0:rowN g w (y::l) (i+1+(j - (i+1))) j=0:=by
          rw [show i+1+(j - (i+1))=j by omega]
          exact rowN_short hp (by simp)
        rw [show j - i=(j - (i+1))+1 by omega,splP_succ,if_pos (.inr h0),List.append_nil]
      · rw [show j - i=0 by omega,show j - (i+1)=0 by omega]
    rw [hsm]
    exact flatMap_congr' fun q _=>key q
theorem flat_len {α β:Type} {f:α→List β} {c:Nat}:∀ {l:List α},(∀ x,x ∈ l→(f x).length≤c)→(l.flatMap f).length≤l.length * c
  | [],_=>by simp
  | x::l,h=>by
    rw [List.flatMap_cons,List.length_append,List.length_cons,Nat.succ_mul]
    have:=h x (by simp)
    have:=flat_len (l:=l) fun y hy=>h y (by simp [hy])
    omega
theorem splN_len {g:Grammar} {w:List Int}:∀ {l:List Int} {i j:Nat},j - i≤12→(splN g w l i j).length≤13 ^ l.length
  | [],i,j,_=>by unfold splN;split<;>simp
  | x :: l, i, j, h => by
    unfold splN
    refine Nat.le_trans (flat_len (c:=13 ^ l.length) fun q _ => ?_) ?_
    · split
      · simp
      · rw [List.length_map];exact splN_len (by omega)
    · rw [List.length_range,List.length_cons,Nat.pow_succ,Nat.mul_comm]
      exact Nat.mul_le_mul_left _ (by omega)
theorem splN_small {g:Grammar} {w:List Int} {l:List Int} {i j:Nat} (hl:l.length≤3) (h:j - i≤12):(splN g w l i j).length≤2197 :=
  Nat.le_trans (splN_len h) (Nat.le_trans (Nat.pow_le_pow_right (by omega) hl) (by omega))
theorem splN_wlen {g:Grammar} {w:List Int}:∀ {l:List Int} {i j:Nat} {c:List Nat},c ∈ splN g w l i j→c.length=l.length
  | [],i,j,c,h=>by
    unfold splN at h
    split at h
    · simp at h;subst h;rfl
    · cases h
  | x :: l, i, j, c, h => by
    unfold splN at h
    obtain ⟨q,_,hq⟩:=List.mem_flatMap.1 h
    split at hq
    · cases hq
    · obtain ⟨r,hr,rfl⟩:=List.mem_map.1 hq
      rw [List.length_cons,List.length_cons,splN_wlen hr]
def wyS:List Int→Nat→List Nat→List (Nat × Nat × Int)
  | x::l,i,e::es=>(i,e,x)::wyS l e es
  | _,_,_=>[]
end Go.Dm
