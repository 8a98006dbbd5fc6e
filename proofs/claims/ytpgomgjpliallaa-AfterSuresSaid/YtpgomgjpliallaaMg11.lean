/-
 Texts of this claim, one behind another.
-/
import Derived.ProofKit
import Derived.Test.YtpgomgjpliallaaDmD
import Derived.Test.YtpgomgjpliallaaProg
import Derived.KernelRfl
set_option linter.unusedSimpArgs false
set_option linter.unnecessarySimpa false
set_option linter.unusedVariables false
set_option linter.defProp false
namespace Go.Dm
open Go.ChangeShapes Go.WideShapes Go.ChangeAt Go.RowKit
def old (w:World):Nat→Prop:=fun b=>b<w.heap.size
structure Opens (P:Program) (t:TypeId) {α:Type} (sz:Nat) (f:α→List D) (ok:α→Prop):Prop where
  size:P.cellsOf t=sz
  len:∀ a,(f a).length=sz
  opn:∀ {H:Type} (enc:TypeId × Value→H) (w:World) (spare:Nat→Bool) (held:Bool) (fuel:Nat) (cs:List Value) (x:DataW H × List MemPlace),DataW.trod enc P w 0 spare held fuel t cs=some x →
    ∃ a,ok a∧cs.length=sz∧∀ j,j<sz→CR w (old w) ((f a).getD j .junk) (cs.getD j undef)∧(cs.getD j undef).oneCell'=true
section
variable {P:Program}
theorem Opens.int {t:TypeId} {k:IntKind} (ht:P.underlying t=some (.int k)) (hc:P.cellsOf t=1):Opens P t 1 (fun n:Int=>[.v (.int k n)]) (fun n=>(Lit.int k n).wf=true) where
  size:=hc
  len _:=rfl
  opn enc w spare held fuel cs x h:=by
    obtain ⟨n,rfl,_,hw⟩:=DataW.trod_int ht h
    refine ⟨n,hw,rfl,fun j hj => ?_⟩
    have:j=0:=by omega
    subst this
    exact ⟨.v _,rfl⟩
theorem Opens.bool {t:TypeId} (ht:P.underlying t=some .bool) (hc:P.cellsOf t=1):Opens P t 1 (fun n:Bool=>[.v (.bool n)]) (fun _=>True) where
  size:=hc
  len _:=rfl
  opn enc w spare held fuel cs x h:=by
    obtain ⟨n,rfl,_⟩:=DataW.trod_bool ht h
    refine ⟨n,trivial,rfl,fun j hj => ?_⟩
    have:j=0:=by omega
    subst this
    exact ⟨.v _,rfl⟩
theorem Opens.map {t:TypeId} {α β:Type} {sz:Nat} {f:α→List D} {ok:α→Prop} {g:β→List D} {ok':β→Prop} (h:Opens P t sz f ok) (hl:∀ b,(g b).length=sz) (hm:∀ a,ok a → ∃ b,ok' b∧g b=f a):Opens P t sz g ok' where
  size:=h.size
  len:=hl
  opn enc w spare held fuel cs x hx:=by
    obtain ⟨a,ha,h1,h2⟩:=h.opn enc w spare held fuel cs x hx
    obtain ⟨b,hb,e⟩:=hm a ha
    exact ⟨b,hb,h1,by rw [e];exact h2⟩
theorem Opens.u8 {t:TypeId} (ht:P.underlying t=some (.int .u8)) (hc:P.cellsOf t=1):Opens P t 1 (fun n:UInt8=>[.v (.int .u8 (n.toNat:Int))]) (fun _=>True) :=
  (Opens.int ht hc).map (fun _=>rfl) fun n hn=>by
    have h:0≤n∧n≤255:=by
      simp only [Lit.wf,Bool.and_eq_true,decide_eq_true_eq] at hn
      exact hn
    refine ⟨UInt8.ofNat n.toNat,trivial,?_⟩
    have e:((UInt8.ofNat n.toNat).toNat:Int)=n:=by
      rw [UInt8.toNat_ofNat']
      omega
    rw [e]
theorem Opens.i64 {t:TypeId} (ht:P.underlying t=some (.int .i64)) (hc:P.cellsOf t=1):Opens P t 1 (fun n:Int=>[.v (.int .i64 n)]) (fun n => -9223372036854775808≤n∧n≤9223372036854775807) :=
  (Opens.int ht hc).map (fun _=>rfl) fun n hn=>by
    simp only [Lit.wf,Bool.and_eq_true,decide_eq_true_eq] at hn
    exact ⟨n,hn,rfl⟩
inductive OpensFs (P:Program):List Field→Nat→(α:Type)→(α→List D)→(α→Prop)→Prop
  | nil (off:Nat):OpensFs P [] off Unit (fun _=>[]) (fun _=>True)
  | cons {f:Field} {fs:List Field} {off sz:Nat} {α β:Type} {g:α→List D} {ok:α→Prop} {g':β→List D} {ok':β→Prop} (hoff:f.offset=off) (h:Opens P f.type sz g ok) (t:OpensFs P fs (off+sz) β g' ok') :
      OpensFs P (f::fs) off (α × β) (fun x=>g x.1++g' x.2) (fun x=>ok x.1∧ok' x.2)
theorem OpensFs.opn {H : Type} {enc : TypeId × Value → H} {w : World} {spare : Nat → Bool} {held : Bool} {fuel : Nat} {cs : List Value} {fs : List Field} {off : Nat} {α : Type} {f : α → List D} {ok : α → Prop} (h : OpensFs P fs off α f ok) :
    (∀ f,f ∈ fs → ∃ y,DataW.trod enc P w 0 spare held fuel f.type ((cs.drop f.offset).take (P.cellsOf f.type))=some y) →
      ∃ a,ok a∧(0<(f a).length→off+(f a).length≤cs.length)∧∀ j,j<(f a).length→CR w (old w) ((f a).getD j .junk) (cs.getD (off+j) undef)∧(cs.getD (off+j) undef).oneCell'=true:=by
  induction h with
  | nil off=>intro _;exact ⟨(),trivial,fun h=>by simp at h,fun j hj=>by simp at hj⟩
  | cons hoff h t ih =>
    rename_i f fs off sz α β g ok g' ok'
    intro hx
    obtain ⟨y,hy⟩:=hx f (by simp)
    obtain ⟨b,hb,hl,hr⟩:=ih (fun f hf=>hx f (by simp [hf]))
    rw [h.size,hoff] at hy
    obtain ⟨a,ha,hcl,hca⟩:=h.opn enc w spare held fuel _ _ hy
    have hga:(g a).length=sz:=h.len a
    have hle:off+sz≤cs.length∨sz=0:=by
      rw [List.length_take,List.length_drop] at hcl
      omega
    have get:∀ j,j<sz→((cs.drop off).take sz).getD j undef=cs.getD (off+j) undef:=by
      intro j hj
      simp only [List.getD_eq_getElem?_getD,List.getElem?_take,hj,if_true,List.getElem?_drop]
    refine ⟨(a,b),⟨ha,hb⟩,fun hpos => ?_,fun j hj => ?_⟩
    · simp only [List.length_append,hga] at hpos ⊢
      by_cases h0:0<(g' b).length
      · have:=hl h0;omega
      · rcases hle with h|h<;>omega
    · simp only [List.length_append,hga] at hj
      simp only
      by_cases hlt:j<sz
      · have e1:(g a++g' b).getD j .junk=(g a).getD j .junk:=by simp only [List.getD_eq_getElem?_getD];rw [List.getElem?_append_left (by omega)]
        have:=hca j hlt
        rw [get j hlt] at this
        rw [e1];exact this
      · have e1:(g a++g' b).getD j .junk=(g' b).getD (j - sz) .junk:=by simp only [List.getD_eq_getElem?_getD];rw [List.getElem?_append_right (by omega),hga]
        have:=hr (j - sz) (by omega)
        rw [show off+sz+(j - sz)=off+j by omega] at this
        rw [e1];exact this
theorem OpensFs.len {fs:List Field} {off:Nat} {α:Type} {f:α→List D} {ok:α→Prop} (h:OpensFs P fs off α f ok) : ∃ n,∀ a,(f a).length=n:=by
  induction h with
  | nil off=>exact ⟨0,fun _=>rfl⟩
  | cons hoff h t ih =>
    obtain ⟨n,hn⟩:=ih
    exact ⟨_,fun a=>by rw [List.length_append,h.len,hn]⟩
theorem Opens.struct {t : TypeId} {fs : Array Field} {α : Type} {sz : Nat} {f : α → List D} {ok : α → Prop} (ht : P.underlying t = some (.struct fs)) (hc : P.cellsOf t = sz) (h : OpensFs P fs.toList 0 α f ok) (hl : ∀ a, (f a).length = sz) : Opens P t sz f ok where
  size:=hc
  len:=hl
  opn enc w spare held fuel cs x hx := by
    obtain ⟨xs,n,rfl,_,hcl,hxl,hf⟩:=DataW.trod_struct ht hx
    rw [hc] at hcl
    obtain ⟨a,ha,_,hr⟩:=h.opn (enc:=enc) (w:=w) (spare:=spare) (held:=held) (fuel:=n) (cs:=cs) (fun f hf'=>by
      obtain ⟨i,hi⟩:=List.getElem?_of_mem hf'
      have h1:=hf i f (by simpa using hi)
      have h2:i<xs.length:=by
        have:=(List.getElem?_eq_some_iff.1 hi).1
        simp at this;omega
      rw [List.getElem?_eq_getElem h2] at h1
      exact ⟨_,h1⟩)
    refine ⟨a,ha,hcl,fun j hj => ?_⟩
    have:=hr j (by rw [hl];exact hj)
    rwa [Nat.zero_add] at this
theorem Opens.u32 {t:TypeId} (ht:P.underlying t=some (.int .u32)) (hc:P.cellsOf t=1):Opens P t 1 (fun n:Int=>[.v (.int .u32 n)]) (fun n=>0≤n∧n≤4294967295) :=
  (Opens.int ht hc).map (fun _=>rfl) fun n hn=>by
    simp only [Lit.wf,Bool.and_eq_true,decide_eq_true_eq] at hn
    exact ⟨n,hn,rfl⟩
theorem choose_list {α : Type} (p : Nat → α → Prop) : ∀ n : Nat, (∀ i, i < n → ∃ a, p i a) → ∃ l : List α, l.length = n ∧ ∀ i a, l[i]? = some a → p i a
  | 0,_=>⟨[],rfl,fun i a h=>by simp at h⟩
  | n + 1, h => by
    obtain ⟨l,hl,hp⟩:=choose_list p n (fun i hi=>h i (by omega))
    obtain ⟨a,ha⟩:=h n (by omega)
    refine ⟨l++[a],by simp [hl],fun i b hb => ?_⟩
    by_cases hi:i<n
    · rw [List.getElem?_append_left (by omega)] at hb
      exact hp i b hb
    · rw [List.getElem?_append_right (by omega)] at hb
      have:i=n:=by
        have:=(List.getElem?_eq_some_iff.1 hb).1
        simp at this
        omega
      subst this
      simp [hl] at hb
      exact hb ▸ ha
theorem cell_lt {w:World} {b off:Nat} {v:Value} (h:w.cell? ⟨b,off,none⟩=some v):b<w.heap.size:=by
  by_cases hb:b<w.heap.size
  · exact hb
  · have:w.heap[b]?=none:=by simp;omega
    simp [World.cell?,this] at h
theorem Opens.slice {t e : TypeId} {α : Type} {sz : Nat} {f : α → List D} {ok : α → Prop} (ht : P.underlying t = some (.slice e)) (hc : P.cellsOf t = 1) (h : Opens P e sz f ok) (hz : 0 < sz) :
    Opens P t 1 (fun l:List α=>[.sl sz (l.map f)]) (fun l=>l.length≤maxLen∧∀ a,a ∈ l→ok a) where
  size:=hc
  len _:=rfl
  opn enc w spare held fuel cs x hx := by
    rcases DataW.trod_slice ht hx with ⟨rfl,_⟩|⟨a,len,cap,elems,rest,n,_,rfl,_,_,hl,hm,hlen,hel,_,_⟩
    · refine ⟨[],⟨Nat.zero_le _,by simp⟩,rfl,fun j hj => ?_⟩
      have:j=0:=by omega
      subst this
      exact ⟨.sl0 sz none 0,rfl⟩
    · have each:∀ i,i<len → ∃ y:α,ok y ∧ ∃ cs:List Value,cs.length=sz∧(∀ j,j<sz→w.cell? ((a.add (i * sz)).add j)=cs[j]?)∧∀ j,j<sz→CR w (old w) ((f y).getD j .junk) (cs.getD j undef)∧(cs.getD j undef).oneCell'=true:=by
        intro i hi
        have h1:=hel i hi
        rw [h.size,List.getElem?_eq_getElem (by omega),Option.bind_eq_some_iff] at h1
        obtain ⟨cs,hcs,htr⟩:=h1
        obtain ⟨_,hcl,hcc⟩:=World.cells?_some hcs
        obtain ⟨y,hy,hl1,hr⟩:=h.opn enc w spare held n cs _ htr
        exact ⟨y,hy,cs,hl1,hcc,hr⟩
      obtain ⟨l,hll,hp⟩:=choose_list (fun i y=>ok y ∧ ∃ cs:List Value,cs.length=sz∧(∀ j,j<sz→w.cell? ((a.add (i * sz)).add j)=cs[j]?)∧∀ j,j<sz→CR w (old w) ((f y).getD j .junk) (cs.getD j undef)∧(cs.getD j undef).oneCell'=true) len each
      refine ⟨l,⟨by omega,fun y hy => ?_⟩,rfl,fun j hj => ?_⟩
      · obtain ⟨i,hi⟩:=List.getElem?_of_mem hy
        exact (hp i y hi).1
      · have:j=0:=by omega
        subst this
        refine ⟨?_,rfl⟩
        show CR w (old w) (.sl sz (l.map f)) (.slice (some a) len cap)
        by_cases h0:len=0
        · have:l=[]:=List.eq_nil_of_length_eq_zero (by omega)
          subst this
          subst h0
          exact .sl0 sz _ _
        · have sp:a.spot=none:=by
            obtain ⟨_,cs,hcl,hcc,_⟩:=hp 0 (l[0]'(by omega)) (List.getElem?_eq_getElem (by omega))
            have h1:=hcc 0 hz
            rw [List.getElem?_eq_getElem (by omega)] at h1
            have:=World.cell?_spot h1
            simpa [Addr.add] using this
          obtain ⟨b,off,spot⟩:=a
          simp only at sp
          subst sp
          simp only [add_plain] at hp
          have key:∀ i,i<l.length → ∃ cs:List Value,ok (l.getD i (l[0]'(by omega)))∧cs.length=sz∧(∀ j,j<sz→w.cell? ⟨b,off+i * sz+j,none⟩=cs[j]?)∧∀ j,j<sz→CR w (old w) ((f (l.getD i (l[0]'(by omega)))).getD j .junk) (cs.getD j undef)∧(cs.getD j undef).oneCell'=true:=by
            intro i hi
            have e1:l.getD i (l[0]'(by omega))=l[i]:=by simp [List.getD,hi]
            rw [e1]
            obtain ⟨h1,cs,h2,h3,h4⟩:=hp i l[i] (List.getElem?_eq_getElem hi)
            exact ⟨cs,h1,h2,h3,h4⟩
          have row:∀ i,i<l.length→(l.map f).getD i []=f (l.getD i (l[0]'(by omega))):=by
            intro i hi
            simp [List.getD,hi]
          have cell:∀ i j,i<l.length→j<sz → ∃ u,w.cell? ⟨b,off+(i * sz+j),none⟩=some u∧u.oneCell'=true∧CR w (old w) (((l.map f).getD i []).getD j .junk) u:=by
            intro i j hi hj
            obtain ⟨cs,_,h2,h3,h4⟩:=key i hi
            refine ⟨cs.getD j undef,?_,(h4 j hj).2,by rw [row i hi];exact (h4 j hj).1⟩
            rw [← Nat.add_assoc,h3 j hj]
            simp [List.getD,h2,hj]
          refine .sl sz (l.map f) b off len cap (fun i j=>(w.cell? ⟨b,off+(i * sz+j),none⟩).getD undef) ?_ (by simp [hll]) hl ?_ ?_ ?_
          · obtain ⟨u,hu,_⟩:=cell 0 0 (by omega) hz
            exact cell_lt hu
          · intro i hi
            rw [row i (by simpa using hi)]
            exact h.len _
          · intro i j hi hj
            obtain ⟨u,hu,h1,_⟩:=cell i j (by simpa using hi) hj
            rw [hu]
            exact ⟨rfl,h1⟩
          · intro i j hi hj
            obtain ⟨u,hu,_,h2⟩:=cell i j (by simpa using hi) hj
            simp only [hu]
            exact h2
variable {H:Type} {enc:TypeId × Value→H} {w:World} {spare:Nat→Bool} {held:Bool}
theorem cells_self {v:Value} (h:v.oneCell'=true):v.cells.toList=[v]:=by
  cases v<;>first|rfl|cases h
theorem Opens.val {t:TypeId} {α:Type} {f:α→List D} {ok:α→Prop} (h:Opens P t 1 f ok) {v:Value} (hv:v.oneCell'=true) {d:DataW H} {ps:List MemPlace} (hd:DataW.Trod enc P w 0 spare held t v d ps) :
    ∃ a,ok a∧CR w (old w) ((f a).getD 0 .junk) v:=by
  obtain ⟨fuel,hf⟩:=hd
  rw [cells_self hv] at hf
  obtain ⟨a,ha,_,hr⟩:=h.opn enc w spare held fuel _ _ hf
  exact ⟨a,ha,(hr 0 (by omega)).1⟩
theorem Opens.arg_slice {t e:TypeId} {α:Type} {f:α→List D} {ok:α→Prop} (h:Opens P t 1 f ok) (ht:P.underlying t=some (.slice e)) {r:Reach} {b0:Nat} {v:Value} (hval:Value.okWide P w r b0 t v) {d:DataW H} {ps:List MemPlace} (hd:DataW.Trod enc P w 0 spare held t v d ps) :
    ∃ a,ok a∧CR w (old w) ((f a).getD 0 .junk) v:=by
  obtain ⟨a,len,cap,rfl⟩:=okWide_slice ht hval
  exact h.val rfl hd
theorem Opens.arg_int {t:TypeId} {k:IntKind} {α:Type} {f:α→List D} {ok:α→Prop} (h:Opens P t 1 f ok) (ht:P.underlying t=some (.int k)) {r:Reach} {b0:Nat} {v:Value} (hval:Value.okWide P w r b0 t v) {d:DataW H} {ps:List MemPlace} (hd:DataW.Trod enc P w 0 spare held t v d ps) :
    ∃ a,ok a∧CR w (old w) ((f a).getD 0 .junk) v:=by
  obtain ⟨_,rfl,_⟩:=open_int ht hval hd
  exact h.val rfl hd
theorem trodAll_stays (hl:laidOutB P=true) {W W':World} (hb:Below W.heap.size W W'):∀ {ts:List TypeId} {vs:List Value} {ds:List (DataW H)} {ps:List MemPlace},(∀ t,t ∈ ts→P.readableRec t=true∧t<P.types.size) →
    DataW.TrodAll enc P W 0 (fun _=>true) true ts vs ds ps→(∀ p,p ∈ ps→p.block<W.heap.size)→DataW.TrodAll enc P W' 0 (fun b=>decide (b<W.heap.size)) true ts vs ds ps
  | [],_,_,_,_,h,_=>by
    obtain ⟨rfl,rfl,rfl⟩:=trodAll_nil h
    exact trodAll_mk0
  | t::ts,_,_,_,hr,h,hlt=>by
    obtain ⟨v,vs1,d,ds1,a,b,rfl,rfl,rfl,h1,h2⟩:=trodAll_cons h
    exact ⟨a,b,Below.trod hl (hr t (by simp)).1 (hr t (by simp)).2 h1 hb (fun x hx=>hlt x (by simp [hx])),trodAll_stays hl hb (fun t ht=>hr t (by simp [ht])) h2 (fun x hx=>hlt x (by simp [hx])),rfl⟩
theorem row_of_spec (hl:laidOutB P=true) {f:Func} {fid:FuncId} {s:ChangeSpec} {args:Array Value} {ds gs:List (DataW H)} {before:List MemPlace} {W:World} {tb:TypeId} {dd:List D}
    (hvars:s.vars=[]) (hrt:f.resultTypes = #[tb]) (htb:P.underlying tb=some .bool)
    (hr:f.params.toList.all (fun t=>P.readableRec t && decide (t<P.types.size))=true)
    (hfn:s.fn H (ds++gs)={ results:=[.lit (.bool true)],args:=ds })
    (hW:DataW.Whole enc P f.params.toList s.vars false W args.toList ds gs before)
    (hn:args.size=dd.length) (hcr:∀ i,i<dd.length→CR W (old W) (dd.getD i .junk) (args.getD i undef))
    (hs:Spec P fid dd (·=.v (.bool true))) :
    Calls P fid args W fun e W' => ∃ v,e=.returned v∧s.post enc P f false true false false W args v W':=by
  refine (hs.2 W (old W) args (fun _ h=>h) hn hcr).mono ?_
  rintro e W' ⟨x,d,rfl,rfl,hb,hx⟩
  cases hx
  refine ⟨_,rfl,?_⟩
  have hW':=hW
  obtain ⟨p,q,hA,hV,rfl,_,_⟩:=hW
  rw [hvars] at hV
  obtain ⟨rfl,rfl⟩:=trodVars_none hV
  have hlt:∀ x,x ∈ p→x.block<W.heap.size:=fun x hx=>hW'.lt x (by simp [hx])
  have hr':∀ t,t ∈ f.params.toList→P.readableRec t=true∧t<P.types.size:=fun t ht=>by
    have:=List.all_eq_true.1 hr t ht
    simpa using this
  refine ⟨_,_,_,[],p,[],hW',?_,?_,?_,?_,fun h=>by cases h⟩
  · rw [hfn,hrt]
    exact trodAll_mk1 (shut_bool htb true)
  · rw [hfn]
    exact trodAll_stays hl hb hr' hA hlt
  · rw [hfn,hvars]
    rfl
  · exact hb.frame _
end
end Go.Dm

namespace Go.Dm
def tbl {α:Type} (f:α→List D) (l:List α):List (List D):=l.map f
theorem tbl_len {α:Type} {f:α→List D} {l:List α}:(tbl f l).length=l.length:=by simp [tbl]
theorem tbl_get {α:Type} [Inhabited α] {f:α→List D} {l:List α} {i:Nat} (h:i<l.length):(tbl f l).getD i []=f (l.getD i default):=map_getD _ l i [] default h
theorem tbl_app {α:Type} {f:α→List D} {l:List α} {x:α}:tbl f (l++[x])=tbl f l++[f x]:=by simp [tbl]
theorem tbl_take {α:Type} {f:α→List D} {l:List α} {n:Nat}:(tbl f l).take n=tbl f (l.take n):=by simp [tbl,List.map_take]
theorem tbl_drop {α:Type} {f:α→List D} {l:List α} {n:Nat}:(tbl f l).drop n=tbl f (l.drop n):=by simp [tbl,List.map_drop]
theorem rows_take {α:Type} {f:α→List (List D)} {l:List α} {n:Nat}:(rows f l).take n=rows f (l.take n):=by simp [rows,List.map_take]
theorem rows_drop {α:Type} {f:α→List (List D)} {l:List α} {n:Nat}:(rows f l).drop n=rows f (l.drop n):=by simp [rows,List.map_drop]
structure Arc where
  fr:Int
  sym:Int
  to:Int
structure Net where
  n:Int
  k:Int
  arcs:List Arc
  start:Int
  final:Int
structure Machine where
  n:Int
  k:Int
  next:List (List Int)
  start:Int
  final:Int
structure Node where
  kind:Int
  a:Int
  b:Int
structure Turner where
  n:Int
  k:Int
  l:Int
  next:List (List Int)
  out:List (List (List Int))
  start:Int
structure Rule where
  left:Int
  right:List Int
structure Grammar where
  k:Int
  n:Int
  start:Int
  rules:List Rule
structure Opr where
  level:Int
  right:Bool
structure Spot where
  sign:Int
  fr:Int
  to:Int
  ways:List (List Int)
structure Thicket where
  spots:List Spot
  root:Int
structure Deed where
  kind:Int
  rule:Rule
  word:List Int
  n:Int
  steps:List Int
instance : Inhabited Arc:=⟨⟨0,0,0⟩⟩
instance : Inhabited Node:=⟨⟨0,0,0⟩⟩
instance : Inhabited Rule:=⟨⟨0,[]⟩⟩
instance : Inhabited Opr:=⟨⟨0,false⟩⟩
instance : Inhabited Spot:=⟨⟨0,0,0,[]⟩⟩
instance : Inhabited Deed:=⟨⟨0,⟨0,[]⟩,[],0,[]⟩⟩
instance : Inhabited Machine:=⟨⟨0,0,[],0,0⟩⟩
def arcD (a:Arc):List D:=[iv .i64 a.fr,iv .i64 a.sym,iv .i64 a.to]
def netD (n:Net):List D:=[iv .i64 n.n,iv .i64 n.k,.sl 3 (tbl arcD n.arcs),iv .u32 n.start,iv .u32 n.final]
def macD (m:Machine):List D:=[iv .i64 m.n,iv .i64 m.k,.sl 1 (rows i64s m.next),iv .i64 m.start,iv .u32 m.final]
def nodD (n:Node):List D:=[iv .i64 n.kind,iv .i64 n.a,iv .i64 n.b]
def turD (t:Turner):List D:=[iv .i64 t.n,iv .i64 t.k,iv .i64 t.l,.sl 1 (rows i64s t.next),.sl 1 (rows (rows i64s) t.out),iv .i64 t.start]
def rulD (r:Rule):List D:=[iv .i64 r.left,.sl 1 (i64s r.right)]
def graD (g:Grammar):List D:=[iv .i64 g.k,iv .i64 g.n,iv .i64 g.start,.sl 2 (tbl rulD g.rules)]
def oprD (o:Opr):List D:=[iv .i64 o.level,.v (.bool o.right)]
def spoD (s:Spot):List D:=[iv .i64 s.sign,iv .i64 s.fr,iv .i64 s.to,.sl 1 (rows i64s s.ways)]
def thiD (t:Thicket):List D:=[.sl 4 (tbl spoD t.spots),iv .i64 t.root]
def deeD (d:Deed):List D:=[iv .i64 d.kind,iv .i64 d.rule.left,.sl 1 (i64s d.rule.right),.sl 1 (i64s d.word),iv .i64 d.n,.sl 1 (i64s d.steps)]
def ok64 (n:Int):Prop := -9223372036854775808≤n∧n≤9223372036854775807
def ok32 (n:Int):Prop:=0≤n∧n≤4294967295
def okL {α:Type} (p:α→Prop) (l:List α):Prop:=l.length≤maxLen∧∀ a,a ∈ l→p a
def Arc.ok (a:Arc):Prop:=ok64 a.fr∧ok64 a.sym∧ok64 a.to
def Net.ok (n:Net):Prop:=ok64 n.n∧ok64 n.k∧okL Arc.ok n.arcs∧ok32 n.start∧ok32 n.final
def Machine.ok (m:Machine):Prop:=ok64 m.n∧ok64 m.k∧okL (okL ok64) m.next∧ok64 m.start∧ok32 m.final
def Node.ok (n:Node):Prop:=ok64 n.kind∧ok64 n.a∧ok64 n.b
def Turner.ok (t:Turner):Prop:=ok64 t.n∧ok64 t.k∧ok64 t.l∧okL (okL ok64) t.next∧okL (okL (okL ok64)) t.out∧ok64 t.start
def Rule.ok (r:Rule):Prop:=ok64 r.left∧okL ok64 r.right
def Grammar.ok (g:Grammar):Prop:=ok64 g.k∧ok64 g.n∧ok64 g.start∧okL Rule.ok g.rules
def Opr.ok (o:Opr):Prop:=ok64 o.level
def Spot.ok (s:Spot):Prop:=ok64 s.sign∧ok64 s.fr∧ok64 s.to∧okL (okL ok64) s.ways
def Thicket.ok (t:Thicket):Prop:=okL Spot.ok t.spots∧ok64 t.root
def Deed.ok (d:Deed):Prop:=ok64 d.kind∧d.rule.ok∧okL ok64 d.word∧ok64 d.n∧okL ok64 d.steps
theorem maxLen_le {n:Nat} (h:n≤maxLen):n≤9223372036854775807:=Nat.le_trans h (by decide)
theorem arcD_eq {a:Arc}:arcD a=[iv .i64 a.fr,iv .i64 a.sym,iv .i64 a.to]:=(rfl)
theorem netD_eq {n:Net}:netD n=[iv .i64 n.n,iv .i64 n.k,.sl 3 (tbl arcD n.arcs),iv .u32 n.start,iv .u32 n.final]:=(rfl)
theorem macD_eq {m:Machine}:macD m=[iv .i64 m.n,iv .i64 m.k,.sl 1 (rows i64s m.next),iv .i64 m.start,iv .u32 m.final]:=(rfl)
theorem nodD_eq {n:Node}:nodD n=[iv .i64 n.kind,iv .i64 n.a,iv .i64 n.b]:=(rfl)
theorem turD_eq {t:Turner}:turD t=[iv .i64 t.n,iv .i64 t.k,iv .i64 t.l,.sl 1 (rows i64s t.next),.sl 1 (rows (rows i64s) t.out),iv .i64 t.start]:=(rfl)
theorem rulD_eq {r:Rule}:rulD r=[iv .i64 r.left,.sl 1 (i64s r.right)]:=(rfl)
theorem graD_eq {g:Grammar}:graD g=[iv .i64 g.k,iv .i64 g.n,iv .i64 g.start,.sl 2 (tbl rulD g.rules)]:=(rfl)
theorem oprD_eq {o:Opr}:oprD o=[iv .i64 o.level,.v (.bool o.right)]:=(rfl)
theorem spoD_eq {s:Spot}:spoD s=[iv .i64 s.sign,iv .i64 s.fr,iv .i64 s.to,.sl 1 (rows i64s s.ways)]:=(rfl)
theorem thiD_eq {t:Thicket}:thiD t=[.sl 4 (tbl spoD t.spots),iv .i64 t.root]:=(rfl)
theorem deeD_eq {d:Deed}:deeD d=[iv .i64 d.kind,iv .i64 d.rule.left,.sl 1 (i64s d.rule.right),.sl 1 (i64s d.word),iv .i64 d.n,.sl 1 (i64s d.steps)]:=(rfl)
def vy0:=And.intro @tbl_len (And.intro @tbl_get (And.intro @tbl_take (And.intro @tbl_drop (And.intro @rows_take (And.intro @rows_drop (And.intro @arcD_eq (And.intro @netD_eq (And.intro @macD_eq (And.intro @nodD_eq (And.intro @turD_eq (And.intro @rulD_eq (And.intro @graD_eq (And.intro @oprD_eq (And.intro @spoD_eq (And.intro @thiD_eq (@deeD_eq))))))))))))))))
end Go.Dm

namespace Go.Proofs.Ytpgomgjpliallaa
open Go.ChangeShapes Go.WideShapes Go.ChangeAt Go.RowKit Go.Dm
theorem Try.own:ownKnob Try.prog.godebug=none:=by kernel_rfl
theorem Try.laidOut:laidOutB Try.prog=true:=by kernel_rfl
theorem Try.o_int:Opens Try.prog 3 1 (fun n:Int=>[.v (.int .i64 n)]) ok64 :=
  Opens.i64 Try.underlying3 (by kernel_rfl)
theorem Try.o_nod:Opens Try.prog 60 3 nodD Node.ok :=
  (Opens.struct (sz:=3) Try.underlying60 (by kernel_rfl) (OpensFs.cons rfl Try.o_int (OpensFs.cons rfl Try.o_int (OpensFs.cons rfl Try.o_int (OpensFs.nil _)))) (fun _=>rfl)).map (fun _=>rfl) fun ⟨x0,x1,x2,⟨⟩⟩ h=>⟨⟨x0,x1,x2⟩,⟨h.1,h.2.1,h.2.2.1⟩,rfl⟩
theorem Try.o_nods:Opens Try.prog 22 1 (fun l=>[.sl 3 (tbl nodD l)]) (okL Node.ok) :=
  Opens.slice Try.underlying22 (by kernel_rfl) Try.o_nod (by omega)
end Go.Proofs.Ytpgomgjpliallaa

namespace Go.Dm
theorem viEq {k:IntKind} {a b:Int} (h:a=b):(D.v (.int k a))=D.v (.int k b):=by rw [h]
theorem vbEq {a b:Bool} (h:a=b):(D.v (.bool a))=D.v (.bool b):=by rw [h]
theorem mem_getD {α:Type} [Inhabited α] {l:List α} {a:α} (h:a ∈ l) : ∃ i,i<l.length∧l.getD i default=a:=by
  obtain ⟨i,hi,rfl⟩:=List.getElem_of_mem h
  exact ⟨i,hi,by simp [List.getD,hi]⟩
theorem getD_mem' {α:Type} [Inhabited α] {l:List α} {i:Nat} (h:i<l.length):l.getD i default ∈ l:=by
  simp [List.getD,h]
theorem take_succ_getD {α:Type} {l:List α} {i:Nat} (h:i<l.length) (d:α):l.take (i+1)=l.take i++[l.getD i d]:=by
  rw [List.take_add_one];simp [List.getD,h]
theorem ofInt32 {a:Int} (h:0≤a∧a≤4294967295):(BitVec.ofInt IntKind.u32.bits a).toNat=a.toNat:=by
  show (BitVec.ofInt 32 a).toNat=a.toNat
  rw [BitVec.toNat_ofInt];omega
theorem or32 {a b:Int} (ha:0≤a∧a≤4294967295) (hb:0≤b∧b≤4294967295):IntKind.u32.wrap ((BitVec.ofInt IntKind.u32.bits a ||| BitVec.ofInt IntKind.u32.bits b).toNat:Int)=((a.toNat ||| b.toNat:Nat):Int):=by
  rw [BitVec.toNat_or,ofInt32 ha,ofInt32 hb]
  have:a.toNat ||| b.toNat<2 ^ 32:=Nat.or_lt_two_pow (by omega) (by omega)
  exact wrapu32_id (by omega)
theorem shl32_1 {n:Int} (hn:0≤n∧n≤31):IntKind.u32.wrap (1 * 2 ^ (min n.toNat IntKind.u32.bits))=((2 ^ n.toNat:Nat):Int):=by
  have e:min n.toNat IntKind.u32.bits=n.toNat:=Nat.min_eq_left (by show n.toNat≤32;omega)
  have h:2 ^ n.toNat≤2147483648:=show 2 ^ n.toNat≤2 ^ 31 from Nat.pow_le_pow_right (by omega) (by omega)
  rw [e,Int.one_mul]
  have e2:(2:Int) ^ n.toNat=((2 ^ n.toNat:Nat):Int):=by simp
  rw [e2]
  generalize 2 ^ n.toNat=p at *
  exact wrapu32_id (by omega)
def tab (n:Nat) (f:Nat→Int):List Int:=(List.range n).map f
theorem tab_length {n:Nat} {f:Nat→Int}:(tab n f).length=n:=by simp [tab]
theorem tab_getD {n i:Nat} {f:Nat→Int} {d:Int} (h:i<n):(tab n f).getD i d=f i:=by simp [tab,List.getD,h]
theorem tab_set {n i:Nat} {f:Nat→Int} {v:Int}:(tab n f).set i v=tab n fun j=>if j=i then v else f j:=by
  apply List.ext_getElem
  · simp [tab]
  · intro k h1 h2
    simp only [tab,List.getElem_set,List.getElem_map,List.getElem_range]
    by_cases e:i=k
    · simp [e]
    · have:¬ k=i:=fun h=>e h.symm
      simp [e,this]
theorem tab_rep {n:Nat} {x:Int}:List.replicate n x=tab n fun _=>x:=by
  apply List.ext_getElem<;>simp [tab]
theorem viewO_1 {sz:Nat} {a:List D}:viewO (some ⟨sz,[a],true,false,.arr⟩) sz 0 1=.sl sz [a]:=viewO_all rfl
theorem viewO_2 {sz:Nat} {a b:List D}:viewO (some ⟨sz,[a,b],true,false,.arr⟩) sz 0 2=.sl sz [a,b]:=viewO_all rfl
theorem viewO_3 {sz:Nat} {a b c:List D}:viewO (some ⟨sz,[a,b,c],true,false,.arr⟩) sz 0 3=.sl sz [a,b,c]:=viewO_all rfl
theorem viewO_4 {sz:Nat} {a b c d:List D}:viewO (some ⟨sz,[a,b,c,d],true,false,.arr⟩) sz 0 4=.sl sz [a,b,c,d]:=viewO_all rfl
theorem i64s_tab_getD {n k:Nat} {f:Nat→Int} {d:List D} (h:k<n):(i64s (tab n f)).getD k d=[.v (.int .i64 (f k))]:=by simp [i64s,tab,List.getD,h]
theorem viewO_tab {n:Nat} {f:Nat→Int}:viewO (some ⟨1,i64s (tab n f),true,false,.arr⟩) 1 0 n=.sl 1 (i64s (tab n f)):=viewO_all (by simp [i64s,tab])
theorem viewO_i64s {l:List Int} {n:Nat} (h:n=l.length):viewO (some ⟨1,i64s l,true,false,.arr⟩) 1 0 n=.sl 1 (i64s l):=viewO_all (by simp [i64s,h])
theorem viewO_u8s {l:List UInt8} {n:Nat} (h:n=l.length):viewO (some ⟨1,u8s l,true,false,.arr⟩) 1 0 n=.sl 1 (u8s l):=viewO_all (by simp [u8s,h])
theorem viewO_bls {l:List Bool} {n:Nat} (h:n=l.length):viewO (some ⟨1,bls l,true,false,.arr⟩) 1 0 n=.sl 1 (bls l):=viewO_all (by simp [bls,h])
theorem nat_add {a b:Nat}:((a:Int)+(b:Int)).toNat=a+b:=by omega
theorem nat_add1 {a:Nat}:((a:Int)+1).toNat=a+1:=by omega
theorem nat_add2 {a:Nat}:((a:Int)+2).toNat=a+2:=by omega
theorem nat_sub {a b:Nat}:((a:Int) - (b:Int)).toNat=a - b:=by omega
theorem nat_sub1 {a:Nat}:((a:Int) - 1).toNat=a - 1:=by omega
theorem rows_kill {α:Type} {f:α→List (List D)} {l:List α} {τ:Nat}:((rows f l).map fun e=>e.map (D.kill τ))=rows f l:=by simp [rows,kill_sl]
theorem rows_frz {α:Type} {f:α→List (List D)} {l:List α} {τ:Nat} {ob:Ob}:((rows f l).map fun e=>e.map (D.frz τ ob))=rows f l:=by simp [rows,frz_sl]
theorem rows_all {α:Type} {f:α→List (List D)} {l:List α}:(rows f l).all (fun e=>e.all D.clo')=true:=by simp [rows,clo'_sl]
def ownC (sz:Nat):List (List D)→D
  | []=>.nl
  | e::es=>.own false sz (e::es)
theorem ownC_nil {sz:Nat} {α:Type} {f:α→List D}:ownC sz (tbl f [])=.nl:=(rfl)
theorem ownC_cons {sz:Nat} {α:Type} {f:α→List D} {a:α} {l:List α}:ownC sz (tbl f (a::l))=.own false sz (tbl f (a::l)):=(rfl)
theorem vwR_nil:vwR []=[]:=(rfl)
theorem vwR_cons {e:List D} {es:List (List D)}:vwR (e::es)=e.map D.vw::vwR es:=(rfl)
theorem vw_v' {x:Value}:(D.v x).vw=.v x:=by rw [D.vw]<;>(intros;contradiction)
theorem vw_nl':D.nl.vw=.nl:=by rw [D.vw]<;>(intros;contradiction)
theorem vw_sl' {sz:Nat} {es:List (List D)}:(D.sl sz es).vw=.sl sz es:=by rw [D.vw]<;>(intros;contradiction)
def tabD (n:Nat) (f:Nat→D):List (List D):=(List.range n).map fun i=>[f i]
theorem tabD_len {n:Nat} {f:Nat→D}:(tabD n f).length=n:=by simp [tabD]
theorem tabD_get {n k:Nat} {f:Nat→D} {d:List D} (h:k<n):(tabD n f).getD k d=[f k]:=by simp [tabD,List.getD,h]
theorem tabD_set {n i:Nat} {f:Nat→D} {x:D}:(tabD n f).set i [x]=tabD n fun j=>if j=i then x else f j:=by
  apply List.ext_getElem
  · simp [tabD]
  · intro k h1 h2
    simp only [tabD,List.getElem_set,List.getElem_map,List.getElem_range]
    by_cases e:i=k
    · simp [e]
    · have:¬ k=i:=fun h=>e h.symm
      simp [e,this]
theorem tabD_kill {n τ:Nat} {f:Nat→D}:((tabD n f).map fun e=>e.map (D.kill τ))=tabD n fun j=>(f j).kill τ:=by simp [tabD]
theorem tabD_frz {n τ:Nat} {f:Nat→D} {ob:Ob}:((tabD n f).map fun e=>e.map (D.frz τ ob))=tabD n fun j=>(f j).frz τ ob:=by simp [tabD]
theorem tabD_trim {n m:Nat} {f:Nat→D}:((tabD n f).map fun e=>e.map (D.trim m))=tabD n fun j=>(f j).trim m:=by simp [tabD]
theorem iteD_pos {c:Prop} [Decidable c] {a b:D} (h:c):(if c then a else b)=a:=if_pos h
theorem iteD_neg {c:Prop} [Decidable c] {a b:D} (h:¬ c):(if c then a else b)=b:=if_neg h
theorem dec_iff {a b:Prop} [Decidable a] [Decidable b] (h:a ↔ b):decide a=decide b:=by congr 1;exact propext h
theorem trim_ite {c:Prop} [Decidable c] {a b:D} {m:Nat}:(if c then a else b).trim m=if c then a.trim m else b.trim m:=by split<;>rfl
theorem kill_ite {c:Prop} [Decidable c] {a b:D} {m:Nat}:(if c then a else b).kill m=if c then a.kill m else b.kill m:=by split<;>rfl
theorem frz_ite {c:Prop} [Decidable c] {a b:D} {m:Nat} {ob:Ob}:(if c then a else b).frz m ob=if c then a.frz m ob else b.frz m ob:=by split<;>rfl
def vlen:=And.intro @List.length_cons.{0}<|And.intro @List.length_nil.{0}<|And.intro @List.length_append.{0}<|And.intro @List.length_map.{0,0}<|And.intro @List.length_replicate.{0}<|And.intro @List.length_take.{0}<|And.intro @List.length_drop.{0}<|And.intro @List.length_set.{0}<|And.intro @tab_length<|And.intro @tabD_len<|And.intro @i64s_len<|And.intro @bls_len<|And.intro @u8s_len<|And.intro @tbl_len @rows_len
def vx0:=And.intro @trim_ite<|And.intro @kill_ite<|And.intro @frz_ite<|And.intro @tabD_len<|And.intro @tabD_get<|And.intro @tabD_set<|And.intro @tabD_kill<|And.intro @tabD_frz<|And.intro @tabD_trim<|And.intro @iteD_pos<|And.intro @iteD_neg<|And.intro @vwR_nil<|And.intro @vwR_cons<|And.intro @vw_v'<|And.intro @vw_nl'<|And.intro @vw_sl'<|And.intro @vw_own<|And.intro @rows_kill<|And.intro @rows_frz<|And.intro @rows_all<|And.intro @List.map_append.{0,0}<|And.intro @List.all_append.{0}<|And.intro @ownC_nil<|And.intro @ownC_cons<|And.intro @nat_add<|And.intro @nat_add1<|And.intro @nat_add2<|And.intro @nat_sub<|And.intro @nat_sub1<|And.intro @i64s_tab_getD<|And.intro @viewO_tab<|And.intro @viewO_i64s<|And.intro @viewO_u8s<|And.intro @viewO_bls<|And.intro @viewO_1<|And.intro @viewO_2<|And.intro @viewO_3<|And.intro @viewO_4<|And.intro @tab_length (And.intro @tab_getD (And.intro @tab_set (And.intro @i64s_rep @tab_rep)))
def vAq:=And.intro va0<|And.intro va1<|And.intro va2 va3
def vBq:=And.intro vb0<|And.intro vb1<|And.intro vb2<|And.intro vb3<|And.intro vb4<|And.intro vb5<|And.intro vb6<|And.intro vb7<|And.intro vb8<|And.intro vb9<|And.intro vb10<|And.intro vb11<|And.intro vz0<|And.intro vz1<|And.intro vy0 vx0
end Go.Dm

namespace Go.Dm
abbrev Lg:=List Int→Prop
def noL:Lg:=fun _=>False
instance : Inhabited Lg:=⟨noL⟩
inductive Star (L:Lg):Lg
  | nil:Star L []
  | app {a b:List Int} (h:L a) (t:Star L b):Star L (a++b)
def catL (A B:Lg):Lg:=fun u => ∃ a b,A a∧B b∧u=a++b
def orL (A B:Lg):Lg:=fun u=>A u∨B u
def emL:Lg:=fun u=>u=[]
def syL (s:Int):Lg:=fun u=>u=[s]
def stepL (Ls:List Lg) (x:Node):Lg :=
  if x.kind=2 then emL else if x.kind=3 then syL x.a
  else if x.kind=4 then catL (Ls.getD x.a.toNat noL) (Ls.getD x.b.toNat noL)
  else if x.kind=5 then orL (Ls.getD x.a.toNat noL) (Ls.getD x.b.toNat noL)
  else if x.kind=6 then Star (Ls.getD x.a.toNat noL) else noL
def langs (l:List Node):List Lg:=l.foldl (fun Ls x=>Ls++[stepL Ls x]) []
def lang (l:List Node) (k:Nat):Lg:=(langs l).getD k noL
theorem langs_snoc {l:List Node} {x:Node}:langs (l++[x])=langs l++[stepL (langs l) x]:=by
  unfold langs;rw [List.foldl_append];rfl
theorem snoc_ind {α:Type} {P:List α→Prop} (h0:P []) (h1:∀ l x,P l→P (l++[x])) (l:List α):P l:=by
  have:∀ r:List α,P r.reverse:=fun r=>by
    induction r with
    | nil=>exact h0
    | cons x r ih=>rw [List.reverse_cons];exact h1 _ _ ih
  have h:=this l.reverse
  rwa [List.reverse_reverse] at h
theorem langs_len {l:List Node}:(langs l).length=l.length:=by
  induction l using snoc_ind with
  | h0=>rfl
  | h1 l x ih=>rw [langs_snoc,List.length_append,List.length_append,ih];rfl
theorem lang_pre {l r:List Node} {k:Nat} (h:k<l.length):lang (l++r) k=lang l k:=by
  induction r using snoc_ind with
  | h0=>rw [List.append_nil]
  | h1 r x ih =>
    rw [← ih,← List.append_assoc]
    unfold lang
    rw [langs_snoc]
    have:k<(langs (l++r)).length:=by rw [langs_len,List.length_append];omega
    simp [List.getD,List.getElem?_append_left this]
theorem lang_last {l:List Node} {x:Node}:lang (l++[x]) l.length=stepL (langs l) x:=by
  unfold lang
  rw [langs_snoc]
  have:=@langs_len l
  simp [List.getD,← this]
theorem lang_at {l:List Node} {k:Nat} (h:k<l.length):lang l k=stepL (langs (l.take k)) (l.getD k default):=by
  have e:l=(l.take k++[l.getD k default])++l.drop (k+1):=by
    rw [← take_succ_getD h,List.take_append_drop]
  have h2:(l.take k).length=k:=by simp;omega
  conv=>lhs;rw [e]
  rw [lang_pre (by rw [List.length_append,h2];simp)]
  have:=@lang_last (l.take k) (l.getD k default)
  rwa [h2] at this
theorem langs_take {l:List Node} {k a:Nat} (h:k≤l.length) (ha:a<k):(langs (l.take k)).getD a noL=lang l a:=by
  have h2:(l.take k).length=k:=by simp;omega
  have:=@lang_pre (l.take k) (l.drop k) a (by omega)
  rw [List.take_append_drop] at this
  exact this.symm
def NodeOk (k:Int) (i:Nat) (n:Node):Prop:=1≤n.kind∧n.kind≤6∧(n.kind=3→0≤n.a∧n.a<k)∧(4≤n.kind→0≤n.a∧n.a<i)∧(n.kind=4∨n.kind=5→0≤n.b∧n.b<i)
def NodesOk (k:Int) (l:List Node):Prop:=∀ i,i<l.length→NodeOk k i (l.getD i default)
section
variable {k:Int} {l:List Node} {i:Nat}
theorem lang_1 (h:i<l.length) (e:(l.getD i default).kind=1):lang l i=noL:=by rw [lang_at h];unfold stepL;rw [e];rfl
theorem lang_2 (h:i<l.length) (e:(l.getD i default).kind=2):lang l i=emL:=by rw [lang_at h];unfold stepL;rw [e];rfl
theorem lang_3 (h:i<l.length) (e:(l.getD i default).kind=3):lang l i=syL (l.getD i default).a:=by rw [lang_at h];unfold stepL;rw [e];rfl
theorem lang_4 (hv:NodesOk k l) (h:i<l.length) (e:(l.getD i default).kind=4):lang l i=catL (lang l (l.getD i default).a.toNat) (lang l (l.getD i default).b.toNat):=by
  have:=hv i h
  obtain ⟨h1,h2,h3,h4,h5⟩:=this
  have h4:=h4 (by omega)
  have h5:=h5 (.inl e)
  rw [lang_at h]
  simp only [stepL,e]
  rw [langs_take (by omega) (by omega),langs_take (by omega) (by omega)]
  rfl
theorem lang_5 (hv:NodesOk k l) (h:i<l.length) (e:(l.getD i default).kind=5):lang l i=orL (lang l (l.getD i default).a.toNat) (lang l (l.getD i default).b.toNat):=by
  have:=hv i h
  obtain ⟨h1,h2,h3,h4,h5⟩:=this
  have h4:=h4 (by omega)
  have h5:=h5 (.inr e)
  rw [lang_at h]
  simp only [stepL,e]
  rw [langs_take (by omega) (by omega),langs_take (by omega) (by omega)]
  rfl
theorem lang_6 (hv:NodesOk k l) (h:i<l.length) (e:(l.getD i default).kind=6):lang l i=Star (lang l (l.getD i default).a.toNat):=by
  have:=hv i h
  obtain ⟨h1,h2,h3,h4,h5⟩:=this
  have h4:=h4 (by omega)
  rw [lang_at h]
  simp only [stepL,e]
  rw [langs_take (by omega) (by omega)]
  rfl
end
section
variable {w:List Int} {i m j:Nat}
end
theorem star_app {L:Lg} {a b:List Int} (ha:Star L a) (hb:Star L b):Star L (a++b):=by
  induction ha with
  | nil=>exact hb
  | app h t ih=>rw [List.append_assoc];exact .app h ih
theorem star_one {L:Lg} {a:List Int} (h:L a):Star L a:=by
  have:=Star.app h Star.nil
  rwa [List.append_nil] at this
theorem star_front {L:Lg} {u:List Int} (h:Star L u):u=[] ∨ ∃ a b,a ≠ []∧L a∧Star L b∧u=a++b:=by
  induction h with
  | nil=>exact .inl rfl
  | @app a b h t ih =>
    by_cases e:a=[]
    · subst e;exact ih
    · exact .inr ⟨a,b,e,h,t,rfl⟩
section
variable {k:Int} {l:List Node} {w:List Int} {x i j:Nat}
end
end Go.Dm

namespace Go.Dm
inductive Rx
  | no|em
  | sy (a:Int)
  | cat (x y:Rx)
  | or (x y:Rx)
  | star (x:Rx)
instance : Inhabited Rx:=⟨.no⟩
def Rx.L:Rx→Lg
  | .no=>noL
  | .em=>emL
  | .sy a=>syL a
  | .cat x y=>catL x.L y.L
  | .or x y=>orL x.L y.L
  | .star x=>Star x.L
def Rx.s:Rx→List Int
  | .no=>[]
  | .em=>[]
  | .sy a=>[a]
  | .cat x y=>x.s++y.s
  | .or x y=>x.s++y.s
  | .star x=>x.s
def Rx.R:Rx→List Int→Nat→Prop
  | .no,_,_=>False
  | .em,_,_=>False
  | .sy a,w,q=>w=[a]∧q=0
  | .cat x y,w,q=>x.R w q ∨ ∃ u v p,x.L u∧y.R v p∧w=u++v∧q=x.s.length+p
  | .or x y,w,q=>x.R w q ∨ ∃ p,y.R w p∧q=x.s.length+p
  | .star x,w,q => ∃ u v,Star x.L u∧x.R v q∧w=u++v
theorem Rx.r_last {x:Rx}:∀ {w:List Int} {q:Nat},x.R w q→q<x.s.length ∧ ∃ v,w=v++[x.s.getD q 0]:=by
  induction x with
  | no=>intro w q h;exact h.elim
  | em=>intro w q h;exact h.elim
  | sy a=>rintro w q ⟨rfl,rfl⟩;exact ⟨Nat.zero_lt_one,[],rfl⟩
  | cat x y ihx ihy =>
    rintro w q (h|⟨u,v,p,h1,h2,rfl,rfl⟩)
    · obtain ⟨h3,v,e⟩:=ihx h
      refine ⟨by show q<(x.s++y.s).length;rw [List.length_append];omega,v,?_⟩
      show w=v++[(x.s++y.s).getD q 0]
      rw [e];simp [List.getD,List.getElem?_append_left h3]
    · obtain ⟨h3,v',e⟩:=ihy h2
      refine ⟨by show _<(x.s++y.s).length;rw [List.length_append];omega,u++v',?_⟩
      show u++v=u++v'++[(x.s++y.s).getD (x.s.length+p) 0]
      have e2:(x.s++y.s).getD (x.s.length+p) 0=y.s.getD p 0:=by simp [List.getD,List.getElem?_append_right (Nat.le_add_right _ _)]
      rw [e2];conv=>lhs;rw [e]
      rw [List.append_assoc]
  | or x y ihx ihy =>
    rintro w q (h|⟨p,h2,rfl⟩)
    · obtain ⟨h3,v,e⟩:=ihx h
      refine ⟨by show q<(x.s++y.s).length;rw [List.length_append];omega,v,?_⟩
      show w=v++[(x.s++y.s).getD q 0]
      rw [e];simp [List.getD,List.getElem?_append_left h3]
    · obtain ⟨h3,v',e⟩:=ihy h2
      refine ⟨by show _<(x.s++y.s).length;rw [List.length_append];omega,v',?_⟩
      show w=v'++[(x.s++y.s).getD (x.s.length+p) 0]
      have e2:(x.s++y.s).getD (x.s.length+p) 0=y.s.getD p 0:=by simp [List.getD,List.getElem?_append_right (Nat.le_add_right _ _)]
      rw [e2];exact e
  | star x ih =>
    rintro w q ⟨u,v,h1,h2,rfl⟩
    obtain ⟨h3,v',e⟩:=ih h2
    refine ⟨h3,u++v',?_⟩
    show u++v=u++v'++[x.s.getD q 0]
    conv=>lhs;rw [e]
    rw [List.append_assoc]
theorem Rx.l_sub {x : Rx} : ∀ {w : List Int}, x.L w → ∀ c, c ∈ w → c ∈ x.s := by
  induction x with
  | no=>intro w h;exact h.elim
  | em=>intro w h c hc;have h:w=[]:=h;subst h;cases hc
  | sy a=>intro w h c hc;have h:w=[a]:=h;subst h;exact hc
  | cat x y ihx ihy =>
    rintro w ⟨u,v,h1,h2,rfl⟩ c hc
    rcases List.mem_append.1 hc with hc|hc
    · exact List.mem_append.2 (.inl (ihx h1 c hc))
    · exact List.mem_append.2 (.inr (ihy h2 c hc))
  | or x y ihx ihy =>
    rintro w (h|h) c hc
    · exact List.mem_append.2 (.inl (ihx h c hc))
    · exact List.mem_append.2 (.inr (ihy h c hc))
  | star x ih =>
    intro w h
    have h2:∀ w,Star x.L w→∀ c,c ∈ w→c ∈ x.s:=by
      intro w h
      induction h with
      | nil=>intro c hc;cases hc
      | app h t ih2 =>
        intro c hc
        rcases List.mem_append.1 hc with hc|hc
        · exact ih h c hc
        · exact ih2 c hc
    exact h2 w h
theorem Rx.r_sub {x:Rx}:∀ {w:List Int} {q:Nat},x.R w q→∀ c,c ∈ w→c ∈ x.s:=by
  induction x with
  | no=>intro w q h;exact h.elim
  | em=>intro w q h;exact h.elim
  | sy a=>rintro w q ⟨rfl,rfl⟩ c hc;exact hc
  | cat x y ihx ihy =>
    rintro w q (h|⟨u,v,p,h1,h2,rfl,rfl⟩) c hc
    · exact List.mem_append.2 (.inl (ihx h c hc))
    · rcases List.mem_append.1 hc with hc|hc
      · exact List.mem_append.2 (.inl (l_sub h1 c hc))
      · exact List.mem_append.2 (.inr (ihy h2 c hc))
  | or x y ihx ihy =>
    rintro w q (h|⟨p,h2,rfl⟩) c hc
    · exact List.mem_append.2 (.inl (ihx h c hc))
    · exact List.mem_append.2 (.inr (ihy h2 c hc))
  | star x ih =>
    rintro w q ⟨u,v,h1,h2,rfl⟩ c hc
    rcases List.mem_append.1 hc with hc|hc
    · exact l_sub (x:=.star x) h1 c hc
    · exact ih h2 c hc
def stepR (Ls:List Rx) (x:Node):Rx :=
  if x.kind=2 then .em else if x.kind=3 then .sy x.a
  else if x.kind=4 then .cat (Ls.getD x.a.toNat .no) (Ls.getD x.b.toNat .no)
  else if x.kind=5 then .or (Ls.getD x.a.toNat .no) (Ls.getD x.b.toNat .no)
  else if x.kind=6 then .star (Ls.getD x.a.toNat .no) else .no
def rxs (l:List Node):List Rx:=l.foldl (fun Ls x=>Ls++[stepR Ls x]) []
def rx (l:List Node) (k:Nat):Rx:=(rxs l).getD k .no
theorem rxs_snoc {l:List Node} {x:Node}:rxs (l++[x])=rxs l++[stepR (rxs l) x]:=by
  unfold rxs;rw [List.foldl_append];rfl
theorem rxs_len {l:List Node}:(rxs l).length=l.length:=by
  induction l using snoc_ind with
  | h0=>rfl
  | h1 l x ih=>rw [rxs_snoc,List.length_append,List.length_append,ih];rfl
theorem rx_pre {l r:List Node} {k:Nat} (h:k<l.length):rx (l++r) k=rx l k:=by
  induction r using snoc_ind with
  | h0=>rw [List.append_nil]
  | h1 r x ih =>
    rw [← ih,← List.append_assoc]
    unfold rx
    rw [rxs_snoc]
    have:k<(rxs (l++r)).length:=by rw [rxs_len,List.length_append];omega
    simp [List.getD,List.getElem?_append_left this]
theorem rx_last {l:List Node} {x:Node}:rx (l++[x]) l.length=stepR (rxs l) x:=by
  unfold rx
  rw [rxs_snoc]
  have:=@rxs_len l
  simp [List.getD,← this]
theorem rx_at {l:List Node} {k:Nat} (h:k<l.length):rx l k=stepR (rxs (l.take k)) (l.getD k default):=by
  have e:l=(l.take k++[l.getD k default])++l.drop (k+1):=by
    rw [← take_succ_getD h,List.take_append_drop]
  have h2:(l.take k).length=k:=by simp;omega
  conv=>lhs;rw [e]
  rw [rx_pre (by rw [List.length_append,h2];simp)]
  have:=@rx_last (l.take k) (l.getD k default)
  rwa [h2] at this
theorem rxs_take {l:List Node} {k a:Nat} (h:k≤l.length) (ha:a<k):(rxs (l.take k)).getD a .no=rx l a:=by
  have h2:(l.take k).length=k:=by simp;omega
  have:=@rx_pre (l.take k) (l.drop k) a (by omega)
  rw [List.take_append_drop] at this
  exact this.symm
section
variable {k:Int} {l:List Node} {i:Nat}
theorem rx_1 (h:i<l.length) (e:(l.getD i default).kind=1):rx l i=.no:=by rw [rx_at h];unfold stepR;rw [e];rfl
theorem rx_2 (h:i<l.length) (e:(l.getD i default).kind=2):rx l i=.em:=by rw [rx_at h];unfold stepR;rw [e];rfl
theorem rx_3 (h:i<l.length) (e:(l.getD i default).kind=3):rx l i=.sy (l.getD i default).a:=by rw [rx_at h];unfold stepR;rw [e];rfl
theorem rx_4 (hv:NodesOk k l) (h:i<l.length) (e:(l.getD i default).kind=4):rx l i=.cat (rx l (l.getD i default).a.toNat) (rx l (l.getD i default).b.toNat):=by
  have:=hv i h
  obtain ⟨h1,h2,h3,h4,h5⟩:=this
  have h4:=h4 (by omega)
  have h5:=h5 (.inl e)
  rw [rx_at h]
  simp only [stepR,e]
  rw [rxs_take (by omega) (by omega),rxs_take (by omega) (by omega)]
  rfl
theorem rx_5 (hv:NodesOk k l) (h:i<l.length) (e:(l.getD i default).kind=5):rx l i=.or (rx l (l.getD i default).a.toNat) (rx l (l.getD i default).b.toNat):=by
  have:=hv i h
  obtain ⟨h1,h2,h3,h4,h5⟩:=this
  have h4:=h4 (by omega)
  have h5:=h5 (.inr e)
  rw [rx_at h]
  simp only [stepR,e]
  rw [rxs_take (by omega) (by omega),rxs_take (by omega) (by omega)]
  rfl
theorem rx_6 (hv:NodesOk k l) (h:i<l.length) (e:(l.getD i default).kind=6):rx l i=.star (rx l (l.getD i default).a.toNat):=by
  have:=hv i h
  obtain ⟨h1,h2,h3,h4,h5⟩:=this
  have h4:=h4 (by omega)
  rw [rx_at h]
  simp only [stepR,e]
  rw [rxs_take (by omega) (by omega)]
  rfl
inductive RxC (l:List Node) (i:Nat):Prop
  | no (e:rx l i=.no) (k:(l.getD i default).kind=1)
  | em (e:rx l i=.em) (k:(l.getD i default).kind=2)
  | sy (e:rx l i=.sy (l.getD i default).a) (k:(l.getD i default).kind=3)
  | cat (a b:Nat) (ha:a<i) (hb:b<i) (e:rx l i=.cat (rx l a) (rx l b)) (ea:a=(l.getD i default).a.toNat) (eb:b=(l.getD i default).b.toNat) (k:(l.getD i default).kind=4)
  | or (a b:Nat) (ha:a<i) (hb:b<i) (e:rx l i=.or (rx l a) (rx l b)) (ea:a=(l.getD i default).a.toNat) (eb:b=(l.getD i default).b.toNat) (k:(l.getD i default).kind=5)
  | star (a:Nat) (ha:a<i) (e:rx l i=.star (rx l a)) (ea:a=(l.getD i default).a.toNat) (k:(l.getD i default).kind=6)
theorem rxC (hv:NodesOk k l) (h:i<l.length):RxC l i:=by
  obtain ⟨h1,h2,h3,h4,h5⟩:=hv i h
  by_cases e1:(l.getD i default).kind=1
  · exact .no (rx_1 h e1) e1
  by_cases e2:(l.getD i default).kind=2
  · exact .em (rx_2 h e2) e2
  by_cases e3:(l.getD i default).kind=3
  · exact .sy (rx_3 h e3) e3
  have h4:=h4 (by omega)
  by_cases e4:(l.getD i default).kind=4
  · have h5:=h5 (.inl e4)
    exact .cat _ _ (by omega) (by omega) (rx_4 hv h e4) rfl rfl e4
  by_cases e5:(l.getD i default).kind=5
  · have h5:=h5 (.inr e5)
    exact .or _ _ (by omega) (by omega) (rx_5 hv h e5) rfl rfl e5
  · have e6:(l.getD i default).kind=6:=by omega
    exact .star _ (by omega) (rx_6 hv h e6) rfl e6
theorem lang_rx (hv:NodesOk k l):∀ {i:Nat},i<l.length→lang l i=(rx l i).L:=by
  intro i
  induction i using Nat.strongRecOn with
  | _ i ih =>
    intro h
    cases rxC hv h with
    | no e k=>rw [e,lang_1 h k];rfl
    | em e k=>rw [e,lang_2 h k];rfl
    | sy e k=>rw [e,lang_3 h k];rfl
    | cat a b ha hb e ea eb k=>rw [e,lang_4 hv h k,← ea,← eb,ih a ha (by omega),ih b hb (by omega)];rfl
    | or a b ha hb e ea eb k=>rw [e,lang_5 hv h k,← ea,← eb,ih a ha (by omega),ih b hb (by omega)];rfl
    | star a ha e ea k=>rw [e,lang_6 hv h k,← ea,ih a ha (by omega)];rfl
theorem rx_len (hv:NodesOk k l):∀ {i:Nat},i<l.length→(rx l i).s.length≤2 ^ i:=by
  intro i
  induction i using Nat.strongRecOn with
  | _ i ih =>
    intro h
    have two:∀ {a b:Nat},a<i→b<i→2 ^ a+2 ^ b≤2 ^ i:=fun {a b} ha hb=>by
      have h1:2 ^ a≤2 ^ (i - 1):=Nat.pow_le_pow_right (by omega) (by omega)
      have h2:2 ^ b≤2 ^ (i - 1):=Nat.pow_le_pow_right (by omega) (by omega)
      have h3:2 ^ i=2 ^ (i - 1) * 2:=by rw [← Nat.pow_succ,show (i - 1).succ=i by omega]
      omega
    have pos:0<2 ^ i:=Nat.pow_pos (by omega)
    cases rxC hv h with
    | no e k=>rw [e];exact Nat.zero_le _
    | em e k=>rw [e];exact Nat.zero_le _
    | sy e k=>rw [e];exact pos
    | cat a b ha hb e ea eb k =>
      rw [e];show ((rx l a).s++(rx l b).s).length≤_
      rw [List.length_append]
      have:=ih a ha (by omega);have:=ih b hb (by omega);have:=two ha hb;omega
    | or a b ha hb e ea eb k =>
      rw [e];show ((rx l a).s++(rx l b).s).length≤_
      rw [List.length_append]
      have:=ih a ha (by omega);have:=ih b hb (by omega);have:=two ha hb;omega
    | star a ha e ea k =>
      rw [e];show (rx l a).s.length≤_
      have:=ih a ha (by omega)
      have:2 ^ a≤2 ^ i:=Nat.pow_le_pow_right (by omega) (by omega)
      omega
theorem rx_sym (hv:NodesOk k l):∀ {i:Nat},i<l.length→∀ c,c ∈ (rx l i).s→0≤c∧c<k:=by
  intro i
  induction i using Nat.strongRecOn with
  | _ i ih =>
    intro h c hc
    cases rxC hv h with
    | no e k=>rw [e] at hc;cases hc
    | em e k=>rw [e] at hc;cases hc
    | sy e k =>
      rw [e] at hc
      rw [List.mem_singleton.1 hc]
      exact (hv i h).2.2.1 k
    | cat a b ha hb e ea eb k =>
      rw [e] at hc
      rcases List.mem_append.1 hc with hc|hc
      · exact ih a ha (by omega) c hc
      · exact ih b hb (by omega) c hc
    | or a b ha hb e ea eb k =>
      rw [e] at hc
      rcases List.mem_append.1 hc with hc|hc
      · exact ih a ha (by omega) c hc
      · exact ih b hb (by omega) c hc
    | star a ha e ea k=>rw [e] at hc;exact ih a ha (by omega) c hc
end
end Go.Dm

namespace Go.Dm
abbrev A3:=Nat × Int × Nat
def Rx.ns:Rx→Nat
  | .no=>2
  | .em=>2
  | .sy _=>2
  | .cat x y=>2+x.ns+y.ns
  | .or x y=>2+x.ns+y.ns
  | .star x=>2+x.ns
def Rx.ar:Rx→Nat→List A3
  | .no,_=>[]
  | .em,b=>[(b,-1,b+1)]
  | .sy a,b=>[(b,a,b+1)]
  | .cat x y,b=>x.ar (b+2)++y.ar (b+2+x.ns)++[(b,-1,b+2),(b+3,-1,b+2+x.ns),(b+3+x.ns,-1,b+1)]
  | .or x y,b=>x.ar (b+2)++y.ar (b+2+x.ns)++[(b,-1,b+2),(b,-1,b+2+x.ns),(b+3,-1,b+1),(b+3+x.ns,-1,b+1)]
  | .star x,b=>x.ar (b+2)++[(b,-1,b+2),(b,-1,b+1),(b+3,-1,b+2),(b+3,-1,b+1)]
def Rx.S:Rx→Nat→List Int→Nat→Prop
  | .no,b,w,q=>w=[]∧q=b
  | .em,b,w,q=>w=[]∧(q=b∨q=b+1)
  | .sy a,b,w,q=>(w=[]∧q=b)∨(w=[a]∧q=b+1)
  | .cat x y,b,w,q=>(w=[]∧q=b)∨x.S (b+2) w q∨(∃ u v,w=u++v∧x.L u∧y.S (b+2+x.ns) v q)∨(q=b+1∧catL x.L y.L w)
  | .or x y,b,w,q=>(w=[]∧q=b)∨x.S (b+2) w q∨y.S (b+2+x.ns) w q∨(q=b+1∧(x.L w∨y.L w))
  | .star x,b,w,q=>(w=[]∧q=b)∨(∃ u v,w=u++v∧Star x.L u∧x.S (b+2) v q)∨(q=b+1∧Star x.L w)
theorem Rx.ns_two {x:Rx}:2≤x.ns:=by cases x<;>simp [Rx.ns]<;>omega
theorem Rx.s_rng {x:Rx}:∀ {b:Nat} {w:List Int} {q:Nat},x.S b w q→b≤q∧q<b+x.ns:=by
  induction x with
  | no=>rintro b w q ⟨_,rfl⟩;simp [Rx.ns]
  | em=>rintro b w q ⟨_,rfl|rfl⟩<;>simp [Rx.ns]
  | sy a=>rintro b w q (⟨_,rfl⟩|⟨_,rfl⟩)<;>simp [Rx.ns]
  | cat x y ihx ihy =>
    rintro b w q (⟨_,rfl⟩|h|⟨u,v,_,_,h⟩|⟨rfl,_⟩)
    · simp only [Rx.ns];omega
    · have:=ihx h;simp only [Rx.ns];omega
    · have:=ihy h;simp only [Rx.ns];omega
    · simp only [Rx.ns];omega
  | or x y ihx ihy =>
    rintro b w q (⟨_,rfl⟩|h|h|⟨rfl,_⟩)
    · simp only [Rx.ns];omega
    · have:=ihx h;simp only [Rx.ns];omega
    · have:=ihy h;simp only [Rx.ns];omega
    · simp only [Rx.ns];omega
  | star x ih =>
    rintro b w q (⟨_,rfl⟩|⟨u,v,_,_,h⟩|⟨rfl,_⟩)
    · simp only [Rx.ns];omega
    · have:=ih h;simp only [Rx.ns];omega
    · simp only [Rx.ns];omega
theorem Rx.ar_rng {x:Rx}:∀ {b:Nat} {p:Nat} {c:Int} {q:Nat},(p,c,q) ∈ x.ar b→(b≤p∧p<b+x.ns)∧b≤q∧q<b+x.ns:=by
  induction x with
  | no=>intro b p c q h;cases h
  | em =>
    intro b p c q h
    simp only [Rx.ar,List.mem_singleton,Prod.mk.injEq] at h
    obtain ⟨rfl,_,rfl⟩:=h;simp [Rx.ns]
  | sy a =>
    intro b p c q h
    simp only [Rx.ar,List.mem_singleton,Prod.mk.injEq] at h
    obtain ⟨rfl,_,rfl⟩:=h;simp [Rx.ns]
  | cat x y ihx ihy =>
    intro b p c q h
    have hx:=@Rx.ns_two x
    have hy:=@Rx.ns_two y
    simp only [Rx.ar,List.mem_append,List.mem_cons,List.not_mem_nil,or_false,Prod.mk.injEq] at h
    rcases h with (h|h)|⟨rfl,_,rfl⟩|⟨rfl,_,rfl⟩|⟨rfl,_,rfl⟩
    · have:=ihx h;simp only [Rx.ns];omega
    · have:=ihy h;simp only [Rx.ns];omega
    all_goals simp only [Rx.ns];omega
  | or x y ihx ihy =>
    intro b p c q h
    have hx:=@Rx.ns_two x
    have hy:=@Rx.ns_two y
    simp only [Rx.ar,List.mem_append,List.mem_cons,List.not_mem_nil,or_false,Prod.mk.injEq] at h
    rcases h with (h|h)|⟨rfl,_,rfl⟩|⟨rfl,_,rfl⟩|⟨rfl,_,rfl⟩|⟨rfl,_,rfl⟩
    · have:=ihx h;simp only [Rx.ns];omega
    · have:=ihy h;simp only [Rx.ns];omega
    all_goals simp only [Rx.ns];omega
  | star x ih =>
    intro b p c q h
    have hx:=@Rx.ns_two x
    simp only [Rx.ar,List.mem_append,List.mem_cons,List.not_mem_nil,or_false,Prod.mk.injEq] at h
    rcases h with h|⟨rfl,_,rfl⟩|⟨rfl,_,rfl⟩|⟨rfl,_,rfl⟩|⟨rfl,_,rfl⟩
    · have:=ih h;simp only [Rx.ns];omega
    all_goals simp only [Rx.ns];omega
theorem Rx.s_nil {x:Rx} {b:Nat}:x.S b [] b:=by
  cases x with
  | no=>exact ⟨rfl,rfl⟩
  | em=>exact ⟨rfl,.inl rfl⟩
  | sy a=>exact .inl ⟨rfl,rfl⟩
  | cat x y=>exact .inl ⟨rfl,rfl⟩
  | or x y=>exact .inl ⟨rfl,rfl⟩
  | star x=>exact .inl ⟨rfl,rfl⟩
theorem Rx.s_to {x:Rx} {b:Nat} {w:List Int}:x.S b w (b+1) ↔ x.L w:=by
  cases x with
  | no=>exact ⟨fun h=>by have:=h.2;omega,fun h=>h.elim⟩
  | em=>exact ⟨fun h=>h.1,fun h=>⟨h,.inr rfl⟩⟩
  | sy a => exact ⟨fun h => by rcases h with ⟨_, h⟩ | ⟨h, _⟩; · omega
                               · exact h,fun h=>.inr ⟨h,rfl⟩⟩
  | cat x y =>
    refine ⟨fun h => ?_,fun h=>.inr (.inr (.inr ⟨rfl,h⟩))⟩
    rcases h with ⟨_,h⟩|h|⟨u,v,_,_,h⟩|⟨_,h⟩
    · omega
    · have:=Rx.s_rng h;omega
    · have:=Rx.s_rng h;omega
    · exact h
  | or x y =>
    refine ⟨fun h => ?_,fun h=>.inr (.inr (.inr ⟨rfl,h⟩))⟩
    rcases h with ⟨_,h⟩|h|h|⟨_,h⟩
    · omega
    · have:=Rx.s_rng h;omega
    · have:=Rx.s_rng h;omega
    · exact h
  | star x =>
    refine ⟨fun h => ?_,fun h=>.inr (.inr ⟨rfl,h⟩)⟩
    rcases h with ⟨_,h⟩|⟨u,v,_,_,h⟩|⟨_,h⟩
    · omega
    · have:=Rx.s_rng h;omega
    · exact h
def arW (w:List Int) (c:Int):List Int:=if c = -1 then w else w++[c]
theorem arW_app {u v:List Int} {c:Int}:arW (u++v) c=u++arW v c:=by unfold arW;split<;>simp
theorem arW_nil {w:List Int}:arW w (-1)=w:=if_pos rfl
theorem Rx.s_step {x : Rx} (hs : ∀ c, c ∈ x.s → 0 ≤ c) : ∀ {b : Nat} {w : List Int} {p : Nat} {c : Int} {q : Nat}, x.S b w p → (p, c, q) ∈ x.ar b → x.S b (arW w c) q := by
  induction x with
  | no=>intro b w p c q _ h;cases h
  | em =>
    intro b w p c q hS h
    simp only [Rx.ar,List.mem_singleton,Prod.mk.injEq] at h
    obtain ⟨rfl,rfl,rfl⟩:=h
    rw [arW_nil];exact ⟨hS.1,.inr rfl⟩
  | sy a =>
    intro b w p c q hS h
    simp only [Rx.ar,List.mem_singleton,Prod.mk.injEq] at h
    obtain ⟨rfl,rfl,rfl⟩:=h
    have ha:=hs c (by simp [Rx.s])
    rcases hS with ⟨h1,_⟩|⟨_,h1⟩
    · subst h1
      unfold arW
      rw [if_neg (by omega)]
      exact .inr ⟨rfl,rfl⟩
    · omega
  | cat x y ihx ihy =>
    intro b w p c q hS h
    have hx:=@Rx.ns_two x
    have ihx:=fun {b w p c q}=>ihx (fun c hc=>hs c (List.mem_append.2 (.inl hc))) (b:=b) (w:=w) (p:=p) (c:=c) (q:=q)
    have ihy:=fun {b w p c q}=>ihy (fun c hc=>hs c (List.mem_append.2 (.inr hc))) (b:=b) (w:=w) (p:=p) (c:=c) (q:=q)
    simp only [Rx.ar,List.mem_append,List.mem_cons,List.not_mem_nil,or_false,Prod.mk.injEq] at h
    rcases h with (h|h)|⟨rfl,rfl,rfl⟩|⟨rfl,rfl,rfl⟩|⟨rfl,rfl,rfl⟩
    · have hr:=Rx.ar_rng h
      rcases hS with ⟨_,e⟩|hS|⟨u,v,_,_,hS⟩|⟨e,_⟩
      · omega
      · exact .inr (.inl (ihx hS h))
      · have:=Rx.s_rng hS;omega
      · omega
    · have hr:=Rx.ar_rng h
      rcases hS with ⟨_,e⟩|hS|⟨u,v,e,hu,hS⟩|⟨e,_⟩
      · omega
      · have:=Rx.s_rng hS;omega
      · exact .inr (.inr (.inl ⟨u,_,by rw [e,arW_app],hu,ihy hS h⟩))
      · omega
    · rw [arW_nil]
      rcases hS with ⟨e,_⟩|hS|⟨u,v,e,hu,hS⟩|⟨e,_⟩
      · rw [e];exact .inr (.inl Rx.s_nil)
      · have:=Rx.s_rng hS;omega
      · have:=Rx.s_rng hS;omega
      · omega
    · rw [arW_nil]
      rcases hS with ⟨_,e⟩|hS|⟨u,v,e,hu,hS⟩|⟨e,_⟩
      · omega
      · exact .inr (.inr (.inl ⟨w,[],by simp,Rx.s_to.1 hS,Rx.s_nil⟩))
      · have:=Rx.s_rng hS;omega
      · omega
    · rw [arW_nil]
      rcases hS with ⟨_,e⟩|hS|⟨u,v,e,hu,hS⟩|⟨e,_⟩
      · omega
      · have:=Rx.s_rng hS;omega
      · refine .inr (.inr (.inr ⟨rfl,u,v,hu,(Rx.s_to (b:=b+2+x.ns)).1 ?_,e⟩))
        rwa [show b+2+x.ns+1=b+3+x.ns by omega]
      · omega
  | or x y ihx ihy =>
    intro b w p c q hS h
    have hx:=@Rx.ns_two x
    have ihx:=fun {b w p c q}=>ihx (fun c hc=>hs c (List.mem_append.2 (.inl hc))) (b:=b) (w:=w) (p:=p) (c:=c) (q:=q)
    have ihy:=fun {b w p c q}=>ihy (fun c hc=>hs c (List.mem_append.2 (.inr hc))) (b:=b) (w:=w) (p:=p) (c:=c) (q:=q)
    simp only [Rx.ar,List.mem_append,List.mem_cons,List.not_mem_nil,or_false,Prod.mk.injEq] at h
    rcases h with (h|h)|⟨rfl,rfl,rfl⟩|⟨rfl,rfl,rfl⟩|⟨rfl,rfl,rfl⟩|⟨rfl,rfl,rfl⟩
    · have hr:=Rx.ar_rng h
      rcases hS with ⟨_,e⟩|hS|hS|⟨e,_⟩
      · omega
      · exact .inr (.inl (ihx hS h))
      · have:=Rx.s_rng hS;omega
      · omega
    · have hr:=Rx.ar_rng h
      rcases hS with ⟨_,e⟩|hS|hS|⟨e,_⟩
      · omega
      · have:=Rx.s_rng hS;omega
      · exact .inr (.inr (.inl (ihy hS h)))
      · omega
    · rw [arW_nil]
      rcases hS with ⟨e,_⟩|hS|hS|⟨e,_⟩
      · rw [e];exact .inr (.inl Rx.s_nil)
      · have:=Rx.s_rng hS;omega
      · have:=Rx.s_rng hS;omega
      · omega
    · rw [arW_nil]
      rcases hS with ⟨e,_⟩|hS|hS|⟨e,_⟩
      · rw [e];exact .inr (.inr (.inl Rx.s_nil))
      · have:=Rx.s_rng hS;omega
      · have:=Rx.s_rng hS;omega
      · omega
    · rw [arW_nil]
      rcases hS with ⟨_,e⟩|hS|hS|⟨e,_⟩
      · omega
      · exact .inr (.inr (.inr ⟨rfl,.inl (Rx.s_to.1 hS)⟩))
      · have:=Rx.s_rng hS;omega
      · omega
    · rw [arW_nil]
      rcases hS with ⟨_,e⟩|hS|hS|⟨e,_⟩
      · omega
      · have:=Rx.s_rng hS;omega
      · refine .inr (.inr (.inr ⟨rfl,.inr ((Rx.s_to (b:=b+2+x.ns)).1 ?_)⟩))
        rwa [show b+2+x.ns+1=b+3+x.ns by omega]
      · omega
  | star x ih =>
    intro b w p c q hS h
    have hx:=@Rx.ns_two x
    have ih:=fun {b w p c q}=>ih hs (b:=b) (w:=w) (p:=p) (c:=c) (q:=q)
    simp only [Rx.ar,List.mem_append,List.mem_cons,List.not_mem_nil,or_false,Prod.mk.injEq] at h
    rcases h with h|⟨rfl,rfl,rfl⟩|⟨rfl,rfl,rfl⟩|⟨rfl,rfl,rfl⟩|⟨rfl,rfl,rfl⟩
    · have hr:=Rx.ar_rng h
      rcases hS with ⟨_,e⟩|⟨u,v,e,hu,hS⟩|⟨e,_⟩
      · omega
      · exact .inr (.inl ⟨u,_,by rw [e,arW_app],hu,ih hS h⟩)
      · omega
    · rw [arW_nil]
      rcases hS with ⟨e,_⟩|⟨u,v,e,hu,hS⟩|⟨e,_⟩
      · rw [e];exact .inr (.inl ⟨[],[],rfl,.nil,Rx.s_nil⟩)
      · have:=Rx.s_rng hS;omega
      · omega
    · rw [arW_nil]
      rcases hS with ⟨e,_⟩|⟨u,v,e,hu,hS⟩|⟨e,_⟩
      · rw [e];exact .inr (.inr ⟨rfl,.nil⟩)
      · have:=Rx.s_rng hS;omega
      · omega
    · rw [arW_nil]
      rcases hS with ⟨_,e⟩|⟨u,v,e,hu,hS⟩|⟨e,_⟩
      · omega
      · refine .inr (.inl ⟨u++v,[],by rw [e];simp,?_,Rx.s_nil⟩)
        exact star_app hu (star_one (Rx.s_to.1 hS))
      · omega
    · rw [arW_nil]
      rcases hS with ⟨_,e⟩|⟨u,v,e,hu,hS⟩|⟨e,_⟩
      · omega
      · exact .inr (.inr ⟨rfl,by rw [e];exact star_app hu (star_one (Rx.s_to.1 hS))⟩)
      · omega
inductive NS (A:List A3) (p0:Nat):List Int→Nat→Prop
  | nil:NS A p0 [] p0
  | step {w:List Int} {p:Nat} {c:Int} {q:Nat} (h:NS A p0 w p) (ha:(p,c,q) ∈ A):NS A p0 (arW w c) q
theorem NS.mono {A B:List A3} (hAB:∀ a,a ∈ A→a ∈ B) {p0:Nat} {w:List Int} {q:Nat} (h:NS A p0 w q):NS B p0 w q:=by
  induction h with
  | nil=>exact .nil
  | step _ ha ih=>exact .step ih (hAB _ ha)
theorem NS.app {A:List A3} {p0 p1:Nat} {u v:List Int} {q:Nat} (h:NS A p0 u p1) (h2:NS A p1 v q):NS A p0 (u++v) q:=by
  induction h2 with
  | nil=>rw [List.append_nil];exact h
  | step _ ha ih=>rw [← arW_app];exact .step ih ha
theorem NS.eps {A:List A3} {p0:Nat} {w:List Int} {p q:Nat} (h:NS A p0 w p) (ha:(p,-1,q) ∈ A):NS A p0 w q:=by
  have:=NS.step h ha
  rwa [arW_nil] at this
theorem Rx.ns_s {x:Rx} (hs:∀ c,c ∈ x.s→0≤c) {b:Nat} {w:List Int} {q:Nat} (h:NS (x.ar b) b w q):x.S b w q:=by
  induction h with
  | nil=>exact Rx.s_nil
  | step _ ha ih=>exact Rx.s_step hs ih ha
theorem Rx.s_ns {x : Rx} (hs : ∀ c, c ∈ x.s → 0 ≤ c) : ∀ {b : Nat} {w : List Int} {q : Nat}, x.S b w q → NS (x.ar b) b w q := by
  induction x with
  | no=>rintro b w q ⟨rfl,rfl⟩;exact .nil
  | em =>
    rintro b w q ⟨rfl,rfl|rfl⟩
    · exact .nil
    · exact NS.nil.eps (by simp [Rx.ar])
  | sy a =>
    rintro b w q (⟨rfl,rfl⟩|⟨rfl,rfl⟩)
    · exact .nil
    · have ha:=hs a (by simp [Rx.s])
      have:=NS.step (A:=(Rx.sy a).ar b) (p0:=b) (w:=[]) (c:=a) (q:=b+1) .nil (by simp [Rx.ar])
      unfold arW at this
      rwa [if_neg (by omega)] at this
  | cat x y ihx ihy =>
    have ihx:=fun {b w q}=>ihx (fun c hc=>hs c (List.mem_append.2 (.inl hc))) (b:=b) (w:=w) (q:=q)
    have ihy:=fun {b w q}=>ihy (fun c hc=>hs c (List.mem_append.2 (.inr hc))) (b:=b) (w:=w) (q:=q)
    intro b w q h
    have hx:∀ {w q},x.S (b+2) w q→NS ((Rx.cat x y).ar b) b w q:=fun {w q} h=>by
      have h1:=(ihx h).mono (B:=(Rx.cat x y).ar b) fun a ha=>by simp only [Rx.ar,List.mem_append];exact .inl (.inl ha)
      have h2:NS ((Rx.cat x y).ar b) b [] (b+2):=NS.nil.eps (by simp [Rx.ar])
      exact h2.app h1
    have hy:∀ {u v q},x.L u→y.S (b+2+x.ns) v q→NS ((Rx.cat x y).ar b) b (u++v) q:=fun {u v q} hu h=>by
      have h1:=(ihy h).mono (B:=(Rx.cat x y).ar b) fun a ha=>by simp only [Rx.ar,List.mem_append];exact .inl (.inr ha)
      have h2:=hx (Rx.s_to.2 hu)
      exact (h2.eps (by simp [Rx.ar])).app h1
    rcases h with ⟨rfl,rfl⟩|h|⟨u,v,rfl,hu,h⟩|⟨rfl,u,v,hu,hv,rfl⟩
    · exact .nil
    · exact hx h
    · exact hy hu h
    · refine (hy hu (Rx.s_to.2 hv)).eps ?_
      rw [show b+2+x.ns+1=b+3+x.ns by omega]
      simp [Rx.ar]
  | or x y ihx ihy =>
    have ihx:=fun {b w q}=>ihx (fun c hc=>hs c (List.mem_append.2 (.inl hc))) (b:=b) (w:=w) (q:=q)
    have ihy:=fun {b w q}=>ihy (fun c hc=>hs c (List.mem_append.2 (.inr hc))) (b:=b) (w:=w) (q:=q)
    intro b w q h
    have hx:∀ {w q},x.S (b+2) w q→NS ((Rx.or x y).ar b) b w q:=fun {w q} h=>by
      have h1:=(ihx h).mono (B:=(Rx.or x y).ar b) fun a ha=>by simp only [Rx.ar,List.mem_append];exact .inl (.inl ha)
      have h2:NS ((Rx.or x y).ar b) b [] (b+2):=NS.nil.eps (by simp [Rx.ar])
      exact h2.app h1
    have hy:∀ {w q},y.S (b+2+x.ns) w q→NS ((Rx.or x y).ar b) b w q:=fun {w q} h=>by
      have h1:=(ihy h).mono (B:=(Rx.or x y).ar b) fun a ha=>by simp only [Rx.ar,List.mem_append];exact .inl (.inr ha)
      have h2:NS ((Rx.or x y).ar b) b [] (b+2+x.ns):=NS.nil.eps (by simp [Rx.ar])
      exact h2.app h1
    rcases h with ⟨rfl,rfl⟩|h|h|⟨rfl,hu|hu⟩
    · exact .nil
    · exact hx h
    · exact hy h
    · exact (hx (Rx.s_to.2 hu)).eps (by simp [Rx.ar])
    · refine (hy (Rx.s_to.2 hu)).eps ?_
      rw [show b+2+x.ns+1=b+3+x.ns by omega]
      simp [Rx.ar]
  | star x ih =>
    have ih:=fun {b w q}=>ih hs (b:=b) (w:=w) (q:=q)
    intro b w q h
    have hx:∀ {w q},x.S (b+2) w q→NS ((Rx.star x).ar b) (b+2) w q:=fun {w q} h =>
      (ih h).mono (B:=(Rx.star x).ar b) fun a ha=>by simp only [Rx.ar,List.mem_append];exact .inl ha
    have hr : ∀ {u}, Star x.L u → ∃ p, (p = b ∨ p = b + 3) ∧ NS ((Rx.star x).ar b) b u p := by
      intro u hu
      have one:∀ u,Star x.L u→∀ w0 p,(p=b∨p=b+3)→NS ((Rx.star x).ar b) b w0 p → ∃ p,(p=b∨p=b+3)∧NS ((Rx.star x).ar b) b (w0++u) p:=by
        intro u hu
        induction hu with
        | nil=>exact fun w0 p hp h=>⟨p,hp,by rw [List.append_nil];exact h⟩
        | @app u1 u2 h1 t ih2 =>
          intro w0 p hp h
          have h2:NS ((Rx.star x).ar b) b w0 (b+2):=by
            rcases hp with rfl|rfl
            · exact h.eps (by simp [Rx.ar])
            · exact h.eps (by simp [Rx.ar])
          have h3:=h2.app (hx (Rx.s_to.2 h1))
          rw [← List.append_assoc]
          exact ih2 (w0++u1) (b+3) (.inr rfl) h3
      exact one u hu [] b (.inl rfl) .nil
    rcases h with ⟨rfl,rfl⟩|⟨u,v,rfl,hu,h⟩|⟨rfl,hu⟩
    · exact .nil
    · obtain ⟨p,hp,h1⟩:=hr hu
      have h2:NS ((Rx.star x).ar b) b u (b+2):=by
        rcases hp with rfl|rfl
        · exact h1.eps (by simp [Rx.ar])
        · exact h1.eps (by simp [Rx.ar])
      exact h2.app (hx h)
    · obtain ⟨p,hp,h1⟩:=hr hu
      rcases hp with rfl|rfl
      · exact h1.eps (by simp [Rx.ar])
      · exact h1.eps (by simp [Rx.ar])
def Rx.Q:Rx→Nat→Nat→Nat→Prop
  | .no,_,_,_=>False
  | .em,_,_,_=>False
  | .sy _,b,r,q=>r=0∧q=b+1
  | .cat x y,b,r,q=>(r<x.s.length∧(x.Q (b+2) r q∨(x.Q (b+2) r (b+3)∧(y.S (b+2+x.ns) [] q∨(q=b+1∧y.L [])))))∨(x.s.length≤r∧(y.Q (b+2+x.ns) (r - x.s.length) q∨(q=b+1∧y.Q (b+2+x.ns) (r - x.s.length) (b+2+x.ns+1))))
  | .or x y,b,r,q=>(r<x.s.length∧(x.Q (b+2) r q∨(q=b+1∧x.Q (b+2) r (b+3))))∨(x.s.length≤r∧(y.Q (b+2+x.ns) (r - x.s.length) q∨(q=b+1∧y.Q (b+2+x.ns) (r - x.s.length) (b+2+x.ns+1))))
  | .star x,b,r,q=>x.Q (b+2) r q∨(x.Q (b+2) r (b+3)∧(x.S (b+2) [] q∨q=b+1))
theorem star_back2 {A:Lg} {w:List Int} (h:Star A w):w ≠ [] → ∃ u v,Star A u∧A v∧v ≠ []∧w=u++v:=by
  induction h with
  | nil=>exact fun h=>absurd rfl h
  | @app a b ha t ih =>
    intro hne
    by_cases hb:b=[]
    · subst hb
      rw [List.append_nil] at hne ⊢
      exact ⟨[],a,.nil,ha,hne,rfl⟩
    · obtain ⟨u,v,h1,h2,h3,h4⟩:=ih hb
      exact ⟨a++u,v,.app ha h1,h2,h3,by rw [h4,List.append_assoc]⟩
theorem Rx.r_nne {x:Rx} {w:List Int} {q:Nat} (h:x.R w q):w ≠ []:=fun e=>by
  obtain ⟨_,v,e2⟩:=Rx.r_last h
  rw [e] at e2
  cases v<;>cases e2
theorem Rx.s_q {x : Rx} : ∀ {b : Nat} {w : List Int} {q : Nat}, w ≠ [] → (x.S b w q ↔ ∃ r, x.R w r ∧ x.Q b r q) := by
  induction x with
  | no=>exact fun {b w q} hw=>⟨fun h=>absurd h.1 hw,fun ⟨_,h,_⟩=>h.elim⟩
  | em=>exact fun {b w q} hw=>⟨fun h=>absurd h.1 hw,fun ⟨_,h,_⟩=>h.elim⟩
  | sy a =>
    intro b w q hw
    constructor
    · rintro (⟨h,_⟩|⟨h1,h2⟩)
      · exact absurd h hw
      · exact ⟨0,⟨h1,rfl⟩,rfl,h2⟩
    · rintro ⟨r,⟨h1,h2⟩,_,h4⟩
      exact .inr ⟨h1,h4⟩
  | cat x y ihx ihy =>
    intro b w q hw
    have hLx:∀ {w},w ≠ []→(x.L w ↔ ∃ r,x.R w r∧x.Q (b+2) r (b+3)):=fun {w} hw=>by rw [← ihx hw,← Rx.s_to]
    have hLy:∀ {w},w ≠ []→(y.L w ↔ ∃ r,y.R w r∧y.Q (b+2+x.ns) r (b+2+x.ns+1)):=fun {w} hw=>by rw [← ihy hw,← Rx.s_to]
    have left:∀ {r},x.R w r→r<x.s.length:=fun h=>(Rx.r_last h).1
    constructor
    · rintro (⟨h,_⟩|h|⟨u,v,e,hu,h⟩|⟨e0,u,v,hu,hv,e⟩)
      · exact absurd h hw
      · obtain ⟨r,r1,r2⟩:=(ihx hw).1 h
        exact ⟨r,.inl r1,.inl ⟨left r1,.inl r2⟩⟩
      · by_cases hv:v=[]
        · rw [hv] at e h
          rw [List.append_nil] at e
          rw [← e] at hu
          obtain ⟨r,r1,r2⟩:=(hLx hw).1 hu
          exact ⟨r,.inl r1,.inl ⟨left r1,.inr ⟨r2,.inl h⟩⟩⟩
        · obtain ⟨r,r1,r2⟩:=(ihy hv).1 h
          refine ⟨x.s.length+r,.inr ⟨u,v,r,hu,r1,e,rfl⟩,.inr ⟨Nat.le_add_right _ _,.inl ?_⟩⟩
          rwa [Nat.add_sub_cancel_left]
      · by_cases hv0:v=[]
        · rw [hv0] at e hv
          rw [List.append_nil] at e
          rw [← e] at hu
          obtain ⟨r,r1,r2⟩:=(hLx hw).1 hu
          exact ⟨r,.inl r1,.inl ⟨left r1,.inr ⟨r2,.inr ⟨e0,hv⟩⟩⟩⟩
        · obtain ⟨r,r1,r2⟩:=(hLy hv0).1 hv
          refine ⟨x.s.length+r,.inr ⟨u,v,r,hu,r1,e,rfl⟩,.inr ⟨Nat.le_add_right _ _,.inr ⟨e0,?_⟩⟩⟩
          rwa [Nat.add_sub_cancel_left]
    · rintro ⟨r,hr,hq⟩
      rcases hr with hr|⟨u,v,r',hu,hr,e,rfl⟩
      · have hl:=left hr
        rcases hq with ⟨_,hq|⟨hq,h|⟨e0,h⟩⟩⟩|⟨h,_⟩
        · exact .inr (.inl ((ihx hw).2 ⟨r,hr,hq⟩))
        · exact .inr (.inr (.inl ⟨w,[],by simp,(hLx hw).2 ⟨r,hr,hq⟩,h⟩))
        · exact .inr (.inr (.inr ⟨e0,w,[],(hLx hw).2 ⟨r,hr,hq⟩,h,by simp⟩))
        · omega
      · have hv:=Rx.r_nne hr
        simp only [Rx.Q,Nat.add_sub_cancel_left] at hq
        rcases hq with ⟨h,_⟩|⟨_,hq|⟨e0,hq⟩⟩
        · omega
        · exact .inr (.inr (.inl ⟨u,v,e,hu,(ihy hv).2 ⟨r',hr,hq⟩⟩))
        · exact .inr (.inr (.inr ⟨e0,u,v,hu,(hLy hv).2 ⟨r',hr,hq⟩,e⟩))
  | or x y ihx ihy =>
    intro b w q hw
    have hLx:x.L w ↔ ∃ r,x.R w r∧x.Q (b+2) r (b+3):=by rw [← ihx hw,← Rx.s_to]
    have hLy:y.L w ↔ ∃ r,y.R w r∧y.Q (b+2+x.ns) r (b+2+x.ns+1):=by rw [← ihy hw,← Rx.s_to]
    have left:∀ {r},x.R w r→r<x.s.length:=fun h=>(Rx.r_last h).1
    constructor
    · rintro (⟨h,_⟩|h|h|⟨e0,hu|hu⟩)
      · exact absurd h hw
      · obtain ⟨r,r1,r2⟩:=(ihx hw).1 h
        exact ⟨r,.inl r1,.inl ⟨left r1,.inl r2⟩⟩
      · obtain ⟨r,r1,r2⟩:=(ihy hw).1 h
        refine ⟨x.s.length+r,.inr ⟨r,r1,rfl⟩,.inr ⟨Nat.le_add_right _ _,.inl ?_⟩⟩
        rwa [Nat.add_sub_cancel_left]
      · obtain ⟨r,r1,r2⟩:=hLx.1 hu
        exact ⟨r,.inl r1,.inl ⟨left r1,.inr ⟨e0,r2⟩⟩⟩
      · obtain ⟨r,r1,r2⟩:=hLy.1 hu
        refine ⟨x.s.length+r,.inr ⟨r,r1,rfl⟩,.inr ⟨Nat.le_add_right _ _,.inr ⟨e0,?_⟩⟩⟩
        rwa [Nat.add_sub_cancel_left]
    · rintro ⟨r,hr,hq⟩
      rcases hr with hr|⟨r',hr,rfl⟩
      · have hl:=left hr
        rcases hq with ⟨_,hq|⟨e0,hq⟩⟩|⟨h,_⟩
        · exact .inr (.inl ((ihx hw).2 ⟨r,hr,hq⟩))
        · exact .inr (.inr (.inr ⟨e0,.inl (hLx.2 ⟨r,hr,hq⟩)⟩))
        · omega
      · simp only [Rx.Q,Nat.add_sub_cancel_left] at hq
        rcases hq with ⟨h,_⟩|⟨_,hq|⟨e0,hq⟩⟩
        · omega
        · exact .inr (.inr (.inl ((ihy hw).2 ⟨r',hr,hq⟩)))
        · exact .inr (.inr (.inr ⟨e0,.inr (hLy.2 ⟨r',hr,hq⟩)⟩))
  | star x ih =>
    intro b w q hw
    have hLx:∀ {w},w ≠ []→(x.L w ↔ ∃ r,x.R w r∧x.Q (b+2) r (b+3)):=fun {w} hw=>by rw [← ih hw,← Rx.s_to]
    have last:Star x.L w → ∃ r,(Rx.star x).R w r∧x.Q (b+2) r (b+3):=fun h=>by
      obtain ⟨u,v,h1,h2,h3,h4⟩:=star_back2 h hw
      obtain ⟨r,r1,r2⟩:=(hLx h3).1 h2
      exact ⟨r,⟨u,v,h1,r1,h4⟩,r2⟩
    constructor
    · rintro (⟨h,_⟩|⟨u,v,e,hu,h⟩|⟨e0,hu⟩)
      · exact absurd h hw
      · by_cases hv:v=[]
        · rw [hv] at e h
          rw [List.append_nil] at e
          rw [← e] at hu
          obtain ⟨r,r1,r2⟩:=last hu
          exact ⟨r,r1,.inr ⟨r2,.inl h⟩⟩
        · obtain ⟨r,r1,r2⟩:=(ih hv).1 h
          exact ⟨r,⟨u,v,hu,r1,e⟩,.inl r2⟩
      · obtain ⟨r,r1,r2⟩:=last hu
        exact ⟨r,r1,.inr ⟨r2,.inr e0⟩⟩
    · rintro ⟨r,⟨u,v,hu,hr,e⟩,hq⟩
      have hv:=Rx.r_nne hr
      rcases hq with hq|⟨hq,h⟩
      · exact .inr (.inl ⟨u,v,e,hu,(ih hv).2 ⟨r,hr,hq⟩⟩)
      · have hw2:Star x.L w:=by rw [e];exact star_app hu (star_one ((hLx hv).2 ⟨r,hr,hq⟩))
        rcases h with h|h
        · exact .inr (.inl ⟨w,[],by simp,hw2,h⟩)
        · exact .inr (.inr ⟨h,hw2⟩)
end Go.Dm
