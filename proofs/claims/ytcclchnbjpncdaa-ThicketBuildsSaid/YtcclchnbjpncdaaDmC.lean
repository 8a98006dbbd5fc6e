/-
  A logic for Go functions over plain data,part C: what the relation keeps,and the operations that only read.
-/
import Derived.Test.YtcclchnbjpncdaaMg2
set_option linter.unusedSimpArgs false
set_option linter.unusedVariables false
namespace Go.Dm
open Go.RowKit
theorem CR.mono {w w':World} {A A':Nat→Prop} {d:D} {x:Value} (h:CR w A d x) (hw:∀ b,A b→w'.heap[b]?=w.heap[b]?) (hA:∀ b,A b→A' b):CR w' A' d x:=by
  induction h with
  | v x=>exact .v x
  | nl=>exact .nl
  | sl0 sz b c=>exact .sl0 sz b c
  | sl sz es b off n c us hAb hn hcap hsz hc hr ih =>
    refine .sl sz es b off n c us (hA b hAb) hn hcap hsz (fun i j hi hj=>⟨?_,(hc i j hi hj).2⟩) ih
    rw [World.cell?_of_block (w:=w) (hw b hAb)];exact (hc i j hi hj).1
  | ag ds cs hn hr ih=>exact .ag ds cs hn ih
  | tu ds cs hn hr ih=>exact .tu ds cs hn ih
  | ip e o b off us hAb hc hr ih =>
    refine .ip e o b off us (hA b hAb) (fun j hj => ?_) ih
    rw [World.cell?_of_block (w:=w) (hw b hAb)];exact hc j hj
  | clo f ds cs hn hr ih=>exact .clo f ds cs hn ih
  | junk x=>exact .junk x
theorem cr_no {w:World} {A:Nat→Prop} {d:D} {x:Value} (h:CR w A d x):d.isOwn=false:=by
  cases h<;>rfl
theorem Shp.refl (w:World):Shp w w:=fun _ arr _ h=>⟨arr,h,rfl⟩
theorem Shp.trans {a b c:World} (h:Shp a b) (k:Shp b c):Shp a c:=fun n arr T e=>by
  obtain ⟨arr1,h1,s1⟩:=h n arr T e
  obtain ⟨arr2,h2,s2⟩:=k n arr1 T h1
  exact ⟨arr2,h2,s2.trans s1⟩
theorem lt_of_get {w:World} {b:Nat} {o:Obj} (h:w.heap[b]?=some o):b<w.heap.size:=by
  rcases Nat.lt_or_ge b w.heap.size with h'|h'
  · exact h'
  · simp [Array.getElem?_eq_none h'] at h
theorem Same.shp {w w':World} (h:Same w w'):Shp w w':=fun b arr T e=>⟨arr,by rw [h b (lt_of_get e)];exact e,rfl⟩
theorem Same.below {w w':World} (h:Below w.heap.size w w'):Same w w':=fun b hb=>h.block b hb
theorem DR.mono {w w':World} {A A':Nat→Prop} {β β':Nat→Option Nat} {N N':Nat} {d:D} {x:Value} (h:DR w A β N d x)
    (hw:∀ b,A b→w'.heap[b]?=w.heap[b]?) (hA:∀ b,A b→A' b) (hs:Shp w w') (hN:N≤N') (hβ:∀ τ,τ<N→β' τ=β τ):DR w' A' β' N' d x:=by
  induction h with
  | cl d x h=>exact .cl d x (h.mono hw hA)
  | ref τ sz off n c b arr T h1 hb hc hh hr =>
    obtain ⟨arr',h1',h2'⟩:=hs b arr T hh
    exact .ref τ sz off n c b arr' T (Nat.lt_of_lt_of_le h1 hN) (by rw [hβ τ h1];exact hb) hc h1' (by rw [h2'];exact hr)
  | refz τ sz off b h1=>exact .refz τ sz off b (Nat.lt_of_lt_of_le h1 hN)
  | ptr τ sz i o b h1 hb=>exact .ptr τ sz i o b (Nat.lt_of_lt_of_le h1 hN) (by rw [hβ τ h1];exact hb)
  | mp τ b h1 hb=>exact .mp τ b (Nat.lt_of_lt_of_le h1 hN) (by rw [hβ τ h1];exact hb)
  | ag ds cs hn hr ih=>exact .ag ds cs hn ih
  | tu ds cs hn hr ih=>exact .tu ds cs hn ih
  | clo f ds cs hn hr ih=>exact .clo f ds cs hn ih
theorem DR.junk {w:World} {A:Nat→Prop} {β:Nat→Option Nat} {N:Nat} {x:Value}:DR w A β N .junk x:=.cl _ _ (.junk x)
theorem getD_mem {α:Type} {l:List α} {i:Nat} {d:α} (h:i<l.length):l.getD i d ∈ l:=by
  rw [List.getD_eq_getElem?_getD,List.getElem?_eq_getElem h,Option.getD_some];exact List.getElem_mem h
theorem all_getD {α:Type} {p:α→Bool} {l:List α} (h:l.all p=true) {i:Nat} (hi:i<l.length) {d:α}:p (l.getD i d)=true:=List.all_eq_true.1 h _ (getD_mem hi)
theorem DR.toC {w:World} {A:Nat→Prop} {β:Nat→Option Nat} {N:Nat} {d:D} {x:Value} (h:DR w A β N d x) (hc:d.cl=true):CR w A d x:=by
  unfold D.cl at hc
  induction h with
  | cl d x h=>exact h
  | ref|refz|ptr|mp=>simp [D.alls,clL] at hc
  | ag ds cs hn hr ih=>rw [alls_ag] at hc;exact .ag ds cs hn fun i hi=>ih i hi (all_getD hc hi)
  | tu ds cs hn hr ih=>rw [alls_tu] at hc;exact .tu ds cs hn fun i hi=>ih i hi (all_getD hc hi)
  | clo f ds cs hn hr ih=>rw [alls_clo] at hc;exact .clo f ds cs hn fun i hi=>ih i hi (all_getD hc hi)
theorem DR.toJ {w:World} {A:Nat→Prop} {β:Nat→Option Nat} {N:Nat} {d:D} {x:Value} (h:DR w A β N d x) (hc:d.owned=false):CR w A d x:=by
  have hc':d.alls clJ=true:=by simpa [D.owned] using hc
  clear hc
  induction h with
  | cl d x h=>exact h
  | ref|refz|ptr|mp=>simp [D.alls,clJ] at hc'
  | ag ds cs hn hr ih=>rw [alls_ag] at hc';exact .ag ds cs hn fun i hi=>ih i hi (all_getD hc' hi)
  | tu ds cs hn hr ih=>rw [alls_tu] at hc';exact .tu ds cs hn fun i hi=>ih i hi (all_getD hc' hi)
  | clo f ds cs hn hr ih=>rw [alls_clo] at hc';exact .clo f ds cs hn fun i hi=>ih i hi (all_getD hc' hi)
theorem map_getD' {α γ:Type} (f:α→γ) (l:List α) (i:Nat) (x:γ) (y:α) (h:i<l.length):(l.map f).getD i x=f (l.getD i y):=by
  simp [List.getD,h]
theorem CR.lf {w:World} {A:Nat→Prop} {Q:D→Value→Prop} {f:D→D} (hag:∀ ds cs,cs.size=List.length ds→(∀ i,i<ds.length→Q (ds.getD i .junk) (cs.getD i undef))→Q (.ag ds) (.agg cs))
    (htu:∀ ds cs,cs.size=List.length ds→(∀ i,i<ds.length→Q (ds.getD i .junk) (cs.getD i undef))→Q (.tu ds) (.tuple cs))
    (hcl:∀ g ds cs,cs.size=List.length ds→(∀ i,i<ds.length→Q (ds.getD i .junk) (cs.getD i undef))→Q (.clo g ds) (.func (.func g) #[] cs))
    (hl:∀ d x,d.leaf=true→CR w A d x→Q (f d) x) {d:D} {x:Value} (h:CR w A d x):Q (d.lf f) x:=by
  have part:∀ (ds:List D) (cs:Array Value),(∀ i,i<ds.length→Q ((ds.getD i .junk).lf f) (cs.getD i undef))→∀ i,i<(ds.map (D.lf f)).length→Q ((ds.map (D.lf f)).getD i .junk) (cs.getD i undef):=by
    intro ds cs ih i hi
    simp only [List.length_map] at hi
    rw [map_getD' (D.lf f) ds i .junk .junk hi];exact ih i hi
  induction h with
  | ag ds cs hn hr ih=>rw [lf_ag];exact hag _ _ (by simpa using hn) (part ds cs ih)
  | tu ds cs hn hr ih=>rw [lf_tu];exact htu _ _ (by simpa using hn) (part ds cs ih)
  | clo g ds cs hn hr ih=>rw [lf_clo];exact hcl _ _ _ (by simpa using hn) (part ds cs ih)
  | v x=>rw [lf_leaf rfl];exact hl _ _ rfl (.v x)
  | nl=>rw [lf_leaf rfl];exact hl _ _ rfl .nl
  | sl0 sz b c=>rw [lf_leaf rfl];exact hl _ _ rfl (.sl0 sz b c)
  | sl sz es b off n c us h1 h2 h3 h4 h5 h6=>rw [lf_leaf rfl];exact hl _ _ rfl (.sl sz es b off n c us h1 h2 h3 h4 h5 h6)
  | ip e o b off us h1 h2 h3=>rw [lf_leaf rfl];exact hl _ _ rfl (.ip e o b off us h1 h2 h3)
  | junk x=>rw [lf_leaf rfl];exact hl _ _ rfl (.junk x)
theorem DR.lfQ {w:World} {A:Nat→Prop} {β:Nat→Option Nat} {N:Nat} {Q:D→Value→Prop} {f:D→D} (hag:∀ ds cs,cs.size=List.length ds→(∀ i,i<ds.length→Q (ds.getD i .junk) (cs.getD i undef))→Q (.ag ds) (.agg cs))
    (htu:∀ ds cs,cs.size=List.length ds→(∀ i,i<ds.length→Q (ds.getD i .junk) (cs.getD i undef))→Q (.tu ds) (.tuple cs))
    (hcl:∀ g ds cs,cs.size=List.length ds→(∀ i,i<ds.length→Q (ds.getD i .junk) (cs.getD i undef))→Q (.clo g ds) (.func (.func g) #[] cs))
    (hl:∀ d x,d.leaf=true→DR w A β N d x→Q (f d) x) {d:D} {x:Value} (h:DR w A β N d x):Q (d.lf f) x:=by
  have part:∀ (ds:List D) (cs:Array Value),(∀ i,i<ds.length→Q ((ds.getD i .junk).lf f) (cs.getD i undef))→∀ i,i<(ds.map (D.lf f)).length→Q ((ds.map (D.lf f)).getD i .junk) (cs.getD i undef):=by
    intro ds cs ih i hi
    simp only [List.length_map] at hi
    rw [map_getD' (D.lf f) ds i .junk .junk hi];exact ih i hi
  induction h with
  | cl d x h=>exact h.lf hag htu hcl (fun d x hd h=>hl d x hd (.cl _ _ h))
  | ag ds cs hn hr ih=>rw [lf_ag];exact hag _ _ (by simpa using hn) (part ds cs ih)
  | tu ds cs hn hr ih=>rw [lf_tu];exact htu _ _ (by simpa using hn) (part ds cs ih)
  | clo g ds cs hn hr ih=>rw [lf_clo];exact hcl _ _ _ (by simpa using hn) (part ds cs ih)
  | ref τ sz off n c b arr T h1 h2 h3 h4 h5=>rw [lf_leaf rfl];exact hl _ _ rfl (.ref τ sz off n c b arr T h1 h2 h3 h4 h5)
  | refz τ sz off b h1=>rw [lf_leaf rfl];exact hl _ _ rfl (.refz τ sz off b h1)
  | ptr τ sz i o b h1 h2=>rw [lf_leaf rfl];exact hl _ _ rfl (.ptr τ sz i o b h1 h2)
  | mp τ b h1 h2=>rw [lf_leaf rfl];exact hl _ _ rfl (.mp τ b h1 h2)
theorem DR.lfD {w w':World} {A A':Nat→Prop} {β β':Nat→Option Nat} {N N':Nat} {f:D→D} (hl:∀ d x,d.leaf=true→DR w A β N d x→DR w' A' β' N' (f d) x) {d:D} {x:Value} (h:DR w A β N d x):DR w' A' β' N' (d.lf f) x :=
  h.lfQ (Q:=DR w' A' β' N') (fun ds cs h1 h2=>.ag ds cs h1 h2) (fun ds cs h1 h2=>.tu ds cs h1 h2) (fun g ds cs h1 h2=>.clo g ds cs h1 h2) hl
theorem DR.lfC {w w':World} {A A':Nat→Prop} {β:Nat→Option Nat} {N:Nat} {f:D→D} (hl:∀ d x,d.leaf=true→DR w A β N d x→CR w' A' (f d) x) {d:D} {x:Value} (h:DR w A β N d x):CR w' A' (d.lf f) x :=
  h.lfQ (Q:=CR w' A') (fun ds cs h1 h2=>.ag ds cs h1 h2) (fun ds cs h1 h2=>.tu ds cs h1 h2) (fun g ds cs h1 h2=>.clo g ds cs h1 h2) hl
theorem cl_leaf {w:World} {A:Nat→Prop} {β:Nat→Option Nat} {N:Nat} {d:D} {x:Value} (h:DR w A β N d x) (hd:d.leaf=true) :
    (∃ τ sz off n,d=.ref τ sz off n)∨(∃ τ sz i o,d=.ptr τ sz i o)∨(∃ τ,d=.mp τ)∨CR w A d x:=by
  cases h with
  | cl d x h=>exact .inr (.inr (.inr h))
  | ref=>exact .inl ⟨_,_,_,_,rfl⟩
  | refz=>exact .inl ⟨_,_,_,_,rfl⟩
  | ptr=>exact .inr (.inl ⟨_,_,_,_,rfl⟩)
  | mp=>exact .inr (.inr (.inl ⟨_,rfl⟩))
  | ag|tu|clo=>simp [D.leaf] at hd
theorem OC.move {w w':World} {A A':Nat→Prop} {γ γ':Nat→Option (Nat × List Nat)} {τ τ':Nat} {g:List Nat→List Nat} (Pp:List Nat→Prop) (hP:∀ i π,Pp π→Pp (i::π)) (hg:∀ i π,Pp π→g (i::π)=i::g π)
    (hb:∀ b π,Pp π→γ b=some (τ,π)→w'.heap[b]?=w.heap[b]?∧γ' b=some (τ',g π)) (hw:∀ b,A b→w'.heap[b]?=w.heap[b]?) (hA:∀ b,A b→A' b) {π:List Nat} {d:D} {x:Value} (h:OC w A γ τ π d x) (hp:Pp π):OC w' A' γ' τ' (g π) d x:=by
  induction h with
  | cr π d x h=>exact .cr _ d x (h.mono hw hA)
  | own0 π ow sz b=>exact .own0 _ ow sz b
  | own π ow sz es b n c arr T h1 hh hn hc hs hl hone ho hr ih =>
    obtain ⟨e1,e2⟩:=hb b π hp h1
    exact .own _ ow sz es b n c arr T e2 (by rw [e1];exact hh) hn hc hs hl hone (fun h i j hi hj=>(ho h i j hi hj).mono hw hA) (fun i j hi hj=>by
      have:=ih i j hi hj (hP _ _ hp)
      rw [hg _ _ hp] at this;exact this)
  | omp π kd sz es b o us h1 hh hm hH hl hone hr =>
    obtain ⟨e1,e2⟩:=hb b π hp h1
    exact .omp _ kd sz es b o us e2 (by rw [e1];exact hh) hm hH hl hone (fun i j hi hj=>(hr i j hi hj).mono hw hA)
theorem OC.mono {w w':World} {A A':Nat→Prop} {γ γ':Nat→Option (Nat × List Nat)} {τ:Nat} (hb:∀ b π,π ≠ []→γ b=some (τ,π)→w'.heap[b]?=w.heap[b]?∧γ' b=some (τ,π)) (hw:∀ b,A b→w'.heap[b]?=w.heap[b]?) (hA:∀ b,A b→A' b)
    {π:List Nat} {d:D} {x:Value} (h:OC w A γ τ π d x) (hp:π ≠ []):OC w' A' γ' τ π d x :=
  OC.move (g:=fun π=>π) (fun π=>π ≠ []) (fun _ _ _=>by simp) (fun _ _ _=>rfl) hb hw hA h hp
theorem OC.toCR {w:World} {A:Nat→Prop} {γ:Nat→Option (Nat × List Nat)} {τ:Nat} {π:List Nat} {d:D} {x:Value} (h:OC w A γ τ π d x) (hn:d.isOwn=false):CR w A d x:=by
  cases h with
  | cr π d x h=>exact h
  | own0=>cases hn
  | own=>cases hn
  | omp=>cases hn
theorem OC.toC {w : World} {A A' : Nat → Prop} {γ : Nat → Option (Nat × List Nat)} {τ : Nat} (hA : ∀ b, A b → A' b) (hγ : ∀ b π, γ b = some (τ, π) → A' b) {π : List Nat} {d : D} {x : Value} (h : OC w A γ τ π d x) : CR w A' d.vw x := by
  have cell:∀ {b sz i j n c:Nat} {arr:Array Value} {T:TypeId},w.heap[b]?=some (.cells arr T (0,0))→c * sz≤arr.size→n≤c→i<n→j<sz→w.cell? ⟨b,0+(i * sz+j),none⟩=some (arr.getD (i * sz+j) undef):=by
    intro b sz i j n c arr T hh hs hc hi hj
    have h1:i * sz+j<arr.size:=by
      have:(i+1) * sz≤c * sz:=Nat.mul_le_mul_right _ (by omega)
      rw [Nat.add_mul] at this;omega
    rw [Nat.zero_add]
    simp only [World.cell?,hh]
    simp [h1]
  induction h with
  | cr π d x h =>
    cases ho:d.isOwn with
    | true=>cases d<;>first|(cases h;done)|(simp [D.isOwn] at ho;done)
    | false=>rw [vw_other ho];exact h.mono (fun _ _=>rfl) hA
  | own0 π ow sz b=>rw [vw_own];cases ow<;>exact .sl0 _ _ _
  | omp π kd sz es b o us h1 hh hm hH hl hone hr=>rw [vw_omp];exact .junk _
  | own π ow sz es b n c arr T h1 hh hn hc hs hl hone ho hr ih =>
    rw [vw_own]
    cases ow with
    | false =>
      simp only [Bool.false_eq_true,if_false]
      exact .sl sz es b 0 n c (fun i j=>arr.getD (i * sz+j) undef) (hγ _ _ h1) hn hc hl (fun i j hi hj=>⟨cell hh hs hc (by omega) hj,hone i j hi hj⟩) (fun i j hi hj=>(ho rfl i j hi hj).mono (fun _ _=>rfl) hA)
    | true =>
      simp only [if_true]
      have row:∀ i,i<es.length→(es.map fun e=>e.map D.vw).getD i []=(es.getD i []).map D.vw:=fun i hi=>map_getD' _ es i [] [] hi
      refine .sl sz _ b 0 n c (fun i j=>arr.getD (i * sz+j) undef) (hγ _ _ h1) (by simpa using hn) hc (fun i hi => ?_) (fun i j hi hj => ?_) (fun i j hi hj => ?_)
      · simp only [List.length_map] at hi;rw [row i hi,List.length_map];exact hl i hi
      · simp only [List.length_map] at hi;exact ⟨cell hh hs hc (by omega) hj,hone i j hi hj⟩
      · simp only [List.length_map] at hi
        rw [row i hi,map_getD' D.vw _ j .junk .junk (by rw [hl i hi];exact hj)]
        exact ih i j hi hj
inductive KR (w:World) (A:Nat→Prop) (B:Nat→Option Nat) (F:Nat→Prop):D→Value→Prop
  | cl (d:D) (x:Value) (h:CR w A d x):KR w A B F d x
  | ptr (τ sz i o b:Nat) (hN:F τ) (hb:B τ=some b):KR w A B F (.ptr τ sz i o) (.pointer (some ⟨b,i * sz+o,none⟩))
  | mp (τ b:Nat) (hN:F τ) (hb:B τ=some b):KR w A B F (.mp τ) (.map (some b))
  | ag (ds:List D) (cs:Array Value) (hn:cs.size=ds.length) (hr:∀ i,i<ds.length→KR w A B F (ds.getD i .junk) (cs.getD i undef)):KR w A B F (.ag ds) (.agg cs)
  | tu (ds:List D) (cs:Array Value) (hn:cs.size=ds.length) (hr:∀ i,i<ds.length→KR w A B F (ds.getD i .junk) (cs.getD i undef)):KR w A B F (.tu ds) (.tuple cs)
  | clo (f:FuncId) (ds:List D) (cs:Array Value) (hn:cs.size=ds.length) (hr:∀ i,i<ds.length→KR w A B F (ds.getD i .junk) (cs.getD i undef)):KR w A B F (.clo f ds) (.func (.func f) #[] cs)
theorem KR.mono {w w':World} {A A':Nat→Prop} {B B':Nat→Option Nat} {F F':Nat→Prop} {d:D} {x:Value} (h:KR w A B F d x) (hw:∀ b,A b→w'.heap[b]?=w.heap[b]?) (hA:∀ b,A b→A' b) (hF:∀ τ,F τ→F' τ∧B' τ=B τ):KR w' A' B' F' d x:=by
  induction h with
  | cl d x h=>exact .cl d x (h.mono hw hA)
  | ptr τ sz i o b h1 hb=>exact .ptr τ sz i o b (hF τ h1).1 (by rw [(hF τ h1).2];exact hb)
  | mp τ b h1 hb=>exact .mp τ b (hF τ h1).1 (by rw [(hF τ h1).2];exact hb)
  | ag ds cs hn hr ih=>exact .ag ds cs hn ih
  | tu ds cs hn hr ih=>exact .tu ds cs hn ih
  | clo f ds cs hn hr ih=>exact .clo f ds cs hn ih
theorem KR.toD {w:World} {A:Nat→Prop} {B β:Nat→Option Nat} {F:Nat→Prop} {N:Nat} {d:D} {x:Value} (h:KR w A B F d x) (hF:∀ τ,F τ→τ<N∧β τ=B τ):DR w A β N d x:=by
  induction h with
  | cl d x h=>exact .cl d x h
  | ptr τ sz i o b h1 hb=>exact .ptr τ sz i o b (hF τ h1).1 (by rw [(hF τ h1).2];exact hb)
  | mp τ b h1 hb=>exact .mp τ b (hF τ h1).1 (by rw [(hF τ h1).2];exact hb)
  | ag ds cs hn hr ih=>exact .ag ds cs hn ih
  | tu ds cs hn hr ih=>exact .tu ds cs hn ih
  | clo f ds cs hn hr ih=>exact .clo f ds cs hn ih
structure KD where
  B:Nat→Option Nat
  F:Nat→Prop
  d:D
structure Gh where
  g:Gw
  nt:Nat
  T:Nat→KD→Prop
  z:List (Nat × Obj)
def mkD (d:Nat):Deferred:={ target:=.collected d,args := #[] }
def defO:Obj:=.deferred (some [])
def Wch (w:World) (A:Nat→Prop) (l:List (Nat × Obj)):Prop:=∀ p,p ∈ l→oth p.2=true∧¬ A p.1∧w.heap[p.1]?=some p.2
def Mz (n:Nat) (ds:List Deferred) (w:World) (A:Nat→Prop) (z:List (Nat × Obj)):Prop :=
  (∃ Z:List Nat,ds=Z.map mkD∧Z.Nodup∧(∀ d,d ∈ Z→n≤d)∧Wch w A (Z.map fun d=>(d,defO)))∧Wch w A z
theorem holds_noth {kd:Kd} {sz n:Nat} {o:Obj} {us:Nat→Nat→Value} (h:Holds kd sz n o us):oth o=false:=by
  cases kd with
  | arr=>obtain ⟨_,_,rfl,_⟩:=h;rfl
  | fix=>obtain ⟨_,_,rfl,_⟩:=h;rfl
  | map _ _ _=>obtain ⟨_,rfl,_⟩:=h;rfl
  | itr=>obtain ⟨_,_,_,_,rfl,_⟩:=h;rfl
theorem OR.noth {w:World} {A:Nat→Prop} {β:Nat→Option Nat} {γ:Nat→Option (Nat × List Nat)} {N:Nat} {ob:Ob} {τ b:Nat} (h:OR w A β γ N ob τ) (hb:β τ=some b):nOth w b:=fun o ho=>by
  rcases h.2.2 with ⟨e,_⟩|⟨b',o',us,e,h1,h2,_⟩
  · rw [e] at hb;cases hb
  · rw [hb] at e;cases e
    rw [ho] at h1;cases h1
    exact holds_noth h2
theorem nOth.cells {w w':World} {b c:Nat} {arr:Array Value} {T:TypeId} {f:Nat × Nat} (h:nOth w c) (hb:w'.heap[b]?=some (.cells arr T f)) (ho:c ≠ b→w'.heap[c]?=w.heap[c]?):nOth w' c:=fun o hc=>by
  by_cases e:c=b
  · subst e;rw [hb] at hc;cases hc;rfl
  · rw [ho e] at hc;exact h o hc
def Vis (w w':World):Prop:=∀ (b:Nat) (o:Obj),w.heap[b]?=some o→(oth o=true→w'.heap[b]?=some o)∧(oth o=false→nOth w' b)
theorem Vis.refl (w:World):Vis w w:=fun b o h=>⟨fun _=>h,fun ho o' h'=>(by rw [h] at h';cases h';exact ho)⟩
theorem Vis.of (w w':World) (h:∀ b,b<w.heap.size→w'.heap[b]?=w.heap[b]?):Vis w w':=fun b o hb=>by
  have e:w'.heap[b]?=some o:=(h b (Array.getElem?_eq_some_iff.1 hb).1).trans hb
  exact ⟨fun _=>e,fun ho o' h'=>by rw [e] at h';cases h';exact ho⟩
theorem Vis.cells {w w':World} {c:Nat} {arr:Array Value} {T:TypeId} {f:Nat × Nat} {arr':Array Value} {T':TypeId} {f':Nat × Nat} (h0:w.heap[c]?=some (.cells arr T f)) (h1:w'.heap[c]?=some (.cells arr' T' f')) (ho:∀ b,b ≠ c→w'.heap[b]?=w.heap[b]?):Vis w w':=fun b o hb=>by
  by_cases e:b=c
  · subst e
    rw [h0] at hb;cases hb
    exact ⟨fun h=>(by cases h),fun _ o' h'=>(by rw [h1] at h';cases h';rfl)⟩
  · have e2:w'.heap[b]?=some o:=(ho b e).trans hb
    exact ⟨fun _=>e2,fun ho o' h'=>by rw [e2] at h';cases h';exact ho⟩
theorem Vis.noth {w w':World} (h:Vis w w') {b:Nat} (hb:b<w.heap.size) (hn:nOth w b):nOth w' b:=(h b _ (Array.getElem?_eq_getElem hb)).2 (hn _ (Array.getElem?_eq_getElem hb))
theorem nOth.wch {w:World} {b:Nat} (h:nOth w b) (hb:b<w.heap.size) : ∃ o,w.heap[b]?=some o∧oth o=false:=⟨_,Array.getElem?_eq_getElem hb,h _ (Array.getElem?_eq_getElem hb)⟩
theorem Wch.mono {w w':World} {A A':Nat→Prop} {l:List (Nat × Obj)} (h:Wch w A l) (hw:∀ (b:Nat) (o:Obj),w.heap[b]?=some o→oth o=true→w'.heap[b]?=some o)
    (hA:∀ b,A' b→A b∨w.heap.size≤b ∨ ∃ o,w.heap[b]?=some o∧oth o=false):Wch w' A' l:=fun p hp=>by
  obtain ⟨h1,h2,h3⟩:=h p hp
  refine ⟨h1,fun h4 => ?_,hw _ _ h3 h1⟩
  rcases hA _ h4 with h|h|⟨o,h,h5⟩
  · exact h2 h
  · have:=(Array.getElem?_eq_some_iff.1 h3).1;omega
  · rw [h3] at h;cases h;rw [h1] at h5;cases h5
theorem Mz.mono {n:Nat} {ds:List Deferred} {w w':World} {A A':Nat→Prop} {z:List (Nat × Obj)} (h:Mz n ds w A z) (hw:∀ (b:Nat) (o:Obj),w.heap[b]?=some o→oth o=true→w'.heap[b]?=some o)
    (hA:∀ b,A' b→A b∨w.heap.size≤b ∨ ∃ o,w.heap[b]?=some o∧oth o=false):Mz n ds w' A' z :=
  let ⟨⟨Z,h1,h2,h3,h4⟩,h5⟩:=h;⟨⟨Z,h1,h2,h3,h4.mono hw hA⟩,h5.mono hw hA⟩
theorem Mz.vis {n:Nat} {ds:List Deferred} {w w':World} {A:Nat→Prop} {z:List (Nat × Obj)} (h:Mz n ds w A z) (hv:Vis w w'):Mz n ds w' A z:=Mz.mono h (fun b o hb ho=>(hv b o hb).1 ho) fun _ h=>.inl h
theorem Mz.below {n:Nat} {ds:List Deferred} {w w':World} {A:Nat→Prop} {z:List (Nat × Obj)} (h:Mz n ds w A z) (hb:Below w.heap.size w w'):Mz n ds w' A z :=
  Mz.mono h (fun b o hh _=>by rw [hb.block b (Array.getElem?_eq_some_iff.1 hh).1];exact hh) fun b h=>.inl h
structure GR (G:Gh) (s:S) (a:Act) (w:World) (A:Nat→Prop) (β:Nat→Option Nat) (γ:Nat→Option (Nat × List Nat)):Prop where
  size:a.tmps.size=G.nt
  defers:Mz G.g.w0.heap.size a.defers w A G.z
  hr:HR G.g w A β γ s.N s.M
  slots:∀ t,DR w A β s.N (s.ρ t) (a.tmps.getD t undef)
  keep:∀ t y,G.T t y→KR w A y.B y.F y.d (a.tmps.getD t undef)
def SR (G:Gh) (s:S) (a:Act) (w:World):Prop := ∃ A β γ,GR G s a w A β γ
theorem Bel.refl (O:Nat→Prop) (w:World):Bel O w w:=⟨rfl,rfl,rfl,Nat.le_refl _,fun _ _ _=>rfl,Shp.refl _⟩
theorem Bel.trans {O O':Nat→Prop} {a b c:World} (h:Bel O a b) (k:Bel O' b c) (hO:∀ x,x<a.heap.size→O' x→O x):Bel O a c :=
  ⟨k.os.trans h.os,k.tape.trans h.tape,k.output.trans h.output,Nat.le_trans h.size k.size,fun x hx hn=>(k.block x (Nat.lt_of_lt_of_le hx h.size) (fun h'=>hn (hO x hx h'))).trans (h.block x hx hn),h.shp.trans k.shp⟩
theorem Bel.of_below {O:Nat→Prop} {w w':World} (h:Below w.heap.size w w'):Bel O w w':=⟨h.os,h.tape,h.output,h.size,fun k hk _=>h.block k hk,(Same.below h).shp⟩
theorem Bel.below {O:Nat→Prop} {w w':World} (h:Bel O w w') (hO:∀ x,¬ O x):Below w.heap.size w w':=⟨h.os,h.tape,h.output,h.size,fun k hk=>h.block k hk (hO k)⟩
theorem Bel.next {O:Nat→Prop} {a w w':World} (h:Bel O a w) (k:Below w.heap.size w w'):Bel O a w' :=
  h.trans (Bel.of_below (O:=fun _=>False) k) (fun _ _ h=>h.elim)
section
variable {G:Gh} {s:S} {a:Act} {w:World} {A:Nat→Prop} {β:Nat→Option Nat} {γ:Nat→Option (Nat × List Nat)}
theorem CDR.mono {fl:Bool} {w w':World} {A A':Nat→Prop} {β β':Nat→Option Nat} {γ γ':Nat→Option (Nat × List Nat)} {N N' τ:Nat} {π:List Nat} {d:D} {x:Value} (h:CDR fl w A β γ N τ π d x) (hπ:π ≠ [])
    (hw:∀ b,A b→w'.heap[b]?=w.heap[b]?) (hA:∀ b,A b→A' b) (hs:Shp w w') (hN:N≤N') (hβ:∀ τ,τ<N→β' τ=β τ) (hb:∀ b π,π ≠ []→γ b=some (τ,π)→w'.heap[b]?=w.heap[b]?∧γ' b=some (τ,π)):CDR fl w' A' β' γ' N' τ π d x :=
  ⟨fun ho=>(h.1 ho).mono hw hA hs hN hβ,fun ho=>(h.2.1 ho).mono hb hw hA hπ,h.2.2⟩
theorem getD_put (a:Act) (t u:Nat) (x:Value) (ht:t<a.tmps.size):(a.put (some t) x).tmps.getD u undef=if u=t then x else a.tmps.getD u undef:=by
  simp only [Act.put]
  by_cases h:u=t
  · subst h;simp [ht]
  · simp only [h,if_false]
    simp only [Array.getD_eq_getD_getElem?,Array.getElem?_setIfInBounds]
    rw [if_neg (fun e=>h e.symm)]
theorem GR.put (h:GR G s a w A β γ) {d:Option Nat} {x:D} {v:Value} (hx:DR w A β s.N x v) (hd:∀ t,d=some t→t<G.nt∧∀ y,¬ G.T t y):GR G (s.put d x) (a.put d v) w A β γ:=by
  cases d with
  | none=>exact h
  | some t =>
    obtain ⟨ht,hT⟩:=hd t rfl
    have ht':t<a.tmps.size:=by rw [h.size];exact ht
    refine ⟨by simp [Act.put,h.size],h.defers,h.hr,fun u => ?_,fun u y hu => ?_⟩
    · rw [getD_put a t u v ht']
      show DR w A β s.N (if u=t then x else s.ρ u) _
      by_cases e:u=t
      · simp only [e,if_true];exact hx
      · simp only [e,if_false];exact h.slots u
    · rw [getD_put a t u v ht']
      by_cases e:u=t
      · subst e;exact absurd hu (hT y)
      · simp only [e,if_false];exact h.keep u y hu
theorem OR.mono {w w':World} {A A':Nat→Prop} {β β':Nat→Option Nat} {γ γ':Nat→Option (Nat × List Nat)} {N N' τ:Nat} {ob:Ob} (h:OR w A β γ N ob τ) (hτ:τ<N)
    (hw:∀ b,A b→w'.heap[b]?=w.heap[b]?) (hA:∀ b,A b→A' b) (hs:Shp w w') (hN:N≤N') (hβ:∀ τ,τ<N→β' τ=β τ) (hb:∀ b π,π ≠ []→γ b=some (τ,π)→w'.heap[b]?=w.heap[b]?∧γ' b=some (τ,π))
    (hr:∀ b,β τ=some b→w'.heap[b]?=w.heap[b]?):OR w' A' β' γ' N' ob τ:=by
  refine ⟨h.1,h.2.1,?_⟩
  rcases h.2.2 with ⟨k1,k2,k3⟩|⟨b,o,us,k1,k2,k3,k4⟩
  · exact .inl ⟨by rw [hβ τ hτ];exact k1,k2,k3⟩
  · exact .inr ⟨b,o,us,by rw [hβ τ hτ];exact k1,by rw [hr b k1];exact k2,k3,fun i j hi hj=>(k4 i j hi hj).mono (by simp) hw hA hs hN hβ hb⟩
theorem HR.world {G:Gw} {N:Nat} {M:Nat→Option Ob} (h:HR G w A β γ N M) {w':World} (hb:Below w.heap.size w w'):HR G w' A β γ N M:=by
  have hs:Same w w':=fun b hb'=>hb.block b hb'
  have hA:∀ b,A b→w'.heap[b]?=w.heap[b]?:=fun b hb'=>hb.block b (h.low b hb')
  have hle:w.heap.size≤w'.heap.size:=hb.size
  refine ⟨h.below.next hb,h.sub,h.up,fun b hb'=>Nat.lt_of_lt_of_le (h.low b hb') hle,fun τ ob hτ hm => ?_,fun b τ π h1 h2 h3 => ?_,h.root,h.ge,h.flt,h.fixd⟩
  · have hm':M τ ≠ none:=by rw [hm];simp
    exact (h.objs τ ob hτ hm).mono hτ hA (fun _ x=>x) hs.shp (Nat.le_refl _) (fun _ _=>rfl) (fun b π _ hg=>⟨hs b (h.own b τ π hg hτ hm').1,hg⟩) (fun b hβ=>hs b (h.own b τ [] (h.root τ b hτ hm' hβ) hτ hm').1)
  · obtain ⟨q1,q2,q3,q4⟩:=h.own b τ π h1 h2 h3
    exact ⟨Nat.lt_of_lt_of_le q1 hle,q2,q3,fun o ho=>q4 o (by rw [← hs b q1];exact ho)⟩
theorem GR.world (h:GR G s a w A β γ) {w':World} (hb:Below w.heap.size w w'):GR G s a w' A β γ:=by
  have hs:Same w w':=fun b hb'=>hb.block b hb'
  have hA:∀ b,A b→w'.heap[b]?=w.heap[b]?:=fun b hb'=>hb.block b (h.hr.low b hb')
  exact ⟨h.size,Mz.below h.defers hb,h.hr.world hb,fun t=>(h.slots t).mono hA (fun _ x=>x) hs.shp (Nat.le_refl _) (fun _ _=>rfl),fun t d ht=>(h.keep t d ht).mono hA (fun _ x=>x) (fun τ h=>⟨h,rfl⟩)⟩
theorem HR.blk {G:Gw} {N:Nat} {M:Nat→Option Ob} (g:HR G w A β γ N M) {τ b:Nat} (hτ:τ<N) (hm:M τ ≠ none) (hb:β τ=some b):b<w.heap.size∧¬ A b∧(G.w0.heap.size≤b∨G.O0 b):=let k:=g.own b τ [] (g.root τ b hτ hm hb) hτ hm;⟨k.1,k.2.1,k.2.2.1⟩
theorem HR.cells {G:Gw} {N:Nat} {M:Nat→Option Ob} (g:HR G w A β γ N M) {τ b:Nat} {ob:Ob} (hτ:τ<N) (hm:M τ=some ob) (hk:ob.kd.isMap=false) (hb:β τ=some b) : ∃ arr T,w.heap[b]?=some (.cells arr T (0,0))∧ob.es.length * ob.sz≤arr.size ∧
    ∀ i j,i<ob.es.length→j<ob.sz→CDR ob.flat w A β γ N τ [i * ob.sz+j] ((ob.es.getD i []).getD j .junk) (arr.getD (i * ob.sz+j) undef):=by
  rcases (g.objs τ ob hτ hm).2.2 with ⟨h,_⟩|⟨b',o,us,h1,h2,h3,h4⟩
  · rw [h] at hb;cases hb
  · rw [hb] at h1;cases h1
    have : ∃ arr T,o=.cells arr T (0,0)∧ob.es.length * ob.sz≤arr.size∧∀ i j,i<ob.es.length→j<ob.sz→arr.getD (i * ob.sz+j) undef=us i j:=by
      cases hkd:ob.kd with
      | map k ka va=>rw [hkd] at hk;cases hk
      | itr=>rw [hkd] at hk;cases hk
      | arr=>rw [hkd] at h3;exact h3
      | fix=>rw [hkd] at h3;exact h3
    obtain ⟨arr,T,rfl,h5,h6⟩:=this
    exact ⟨arr,T,h2,h5,fun i j hi hj=>by rw [h6 i j hi hj];exact h4 i j hi hj⟩
theorem GR.evalO (h : GR G s a w A β γ) {x : Operand} {y : O} (hc : cO x = some y) : DR w A β s.N (s.g y) (a.eval x) := by
  cases x with
  | tmp t=>simp only [cO,Option.some.injEq] at hc;subst hc;exact h.slots t
  | const x =>
    have:(x=.slice none 0 0∧y=.nl)∨y=.k x:=by
      by_cases hx:x=.slice none 0 0
      · subst hx;simp only [cO,Option.some.injEq] at hc;exact .inl ⟨rfl,hc.symm⟩
      · have e:cO (.const x)=some (.k x):=by unfold cO;split<;>simp_all
        rw [e,Option.some.injEq] at hc;exact .inr hc.symm
    rcases this with ⟨rfl,rfl⟩|rfl
    · exact .cl _ _ .nl
    · exact .cl _ _ (.v x)
  | func f=>simp only [cO,Option.some.injEq] at hc;subst hc;exact .cl _ _ (.clo f [] #[] rfl (fun i hi=>by simp at hi))
  | global g=>simp [cO] at hc
end
def puI (i:MI) (s:S) (k:S→D→Prop):Prop :=
  match i with
  | .mov x=>kD (s.g x) (k s)
  | .pick c a b=>kPick (s.g c) (s.g a) (s.g b) (k s)
  | .len x=>kLen (s.g x) (k s)
  | .idx x i sz=>kIdx (s.g x) (s.g i) sz (k s)
  | .idxa x i sz n=>kIdxa (s.g x) (s.g i) sz n (k s)
  | .idxv x i sz n agg=>kIdxv (s.g x) (s.g i) sz n agg (k s)
  | .fld x off=>kFld (s.g x) off (k s)
  | .ld1 x=>kLd s (s.g x) k
  | .ldn x n=>kLdw s x n k (s.g x)
  | .bin op x y=>kBin op (s.g x) (s.g y) (k s)
  | .eqb neg x y=>kEqb neg (s.g x) (s.g y) (k s)
  | .isnil neg x=>kIsnil neg (s.g x) (k s)
  | .cap x=>kCap (s.g x) (k s)
  | .not x=>kNot (s.g x) (k s)
  | .neg x=>kNeg (s.g x) (k s)
  | .cvi q x=>kCvi q (s.g x) (k s)
  | .ext x i=>kExt (s.g x) i (k s)
  | .getf x off n agg=>kGetf (s.g x) off n agg (k s)
  | .sub x lo hi sz=>kSub (s.g x) (s.lo lo) (s.hi (s.g x) hi) sz (k s)
  | .mkf f ds=>kD (.clo f (ds.map s.g)) (k s)
  | .min x y=>kMin false (s.g x) (s.g y) (k s)
  | .max x y=>kMin true (s.g x) (s.g y) (k s)
  | .bld zero parts=>kBld s (k s) parts zero
  | .nck x=>kNck (s.g x) (k s)
  | .mlk x y ks ka va vz ok zero=>kMlk s (s.g x) (s.g y) ks ka va vz ok zero (k s)
  | .eqs neg x y ks=>kEqs neg (s.g x) (s.g y) ks (k s)
  | .bla zero sz parts=>kBla s (k s) sz parts zero
  | .sla x n=>kSla s (s.g x) n (k s)
  | _=>False
def Yields (P:Program) (a:Act) (w:World) (o:Oper) (v:Value):Prop:=Yld P (isLoad o) o a w v
section
variable {P:Program} {G:Gh} {s:S} {a:Act} {w:World} {A:Nat→Prop} {β:Nat→Option Nat} {γ:Nat→Option (Nat × List Nat)} {o:Oper} {k:D→Prop}
theorem pu_mov {x:Operand} {y:O} (ho:o.op=.move x∨o.op=.assign x) (hx:cO x=some y) (h:kD (s.g y) k) (g:GR G s a w A β γ) : ∃ d v,k d∧DR w A β s.N d v∧Yields P a w o v :=
  ⟨_,_,h,g.evalO hx,fun w' _=>by rcases ho with ho|ho<;>simp [execOp,ho]⟩
theorem dr_bool {N:Nat} {b:Bool} {x:Value} (h:DR w A β N (.v (.bool b)) x):x=.bool b:=by
  cases h with
  | cl d x h=>cases h;rfl
theorem dr_v {N:Nat} {y x:Value} (h:DR w A β N (.v y) x):x=y:=by
  cases h with
  | cl d x h=>cases h;rfl
theorem pu_pick {c x y:Operand} {c' x' y':O} (ho:o.op=.pick c x y) (hc:cO c=some c') (hx:cO x=some x') (hy:cO y=some y') (h:kPick (s.g c') (s.g x') (s.g y') k) (g:GR G s a w A β γ) :
    ∃ d v,k d∧DR w A β s.N d v∧Yields P a w o v:=by
  have e:=g.evalO hc
  unfold kPick at h
  split at h
  · next t ht =>
    rw [ht] at e
    have e':=dr_bool e
    cases t with
    | true=>exact ⟨_,_,h.1 rfl,g.evalO hx,fun w' _=>by simp [execOp,ho,e',asBool]⟩
    | false=>exact ⟨_,_,h.2 rfl,g.evalO hy,fun w' _=>by simp [execOp,ho,e',asBool]⟩
  · exact h.elim
theorem isSlice_spec {t e:TypeId} (h:isSlice P t=some e):P.underlying t=some (.slice e):=by
  unfold isSlice at h
  split at h
  · next e' h'=>simp only [Option.some.injEq] at h;subst h;exact h'
  · cases h
theorem szOf_spec {t:TypeId} {n:Nat} (h:szOf P t=some n) (w:World):(sizeOf t).run P w=.ok n w:=by
  unfold szOf at h
  cases hi:P.info? t with
  | none=>rw [hi] at h;simp at h
  | some i=>rw [hi] at h;simp only [Option.map_some,Option.some.injEq] at h;simp [sizeOf,typeInfo,hi,h]
theorem und_run {t:TypeId} {d:TypeDesc} (h:P.underlying t=some d) (w:World):(underlying t).run P w=.ok d w:=by simp [underlying,h]
theorem pu_len {x:Operand} {x':O} {t e:TypeId} (ho:o.op=.call ⟨.builtin .len,#[x],#[t]⟩) (ht:isSlice P t=some e) (hx:cO x=some x') (h:kLen (s.g x') k) (g:GR G s a w A β γ) :
    ∃ d v,k d∧DR w A β s.N d v∧Yields P a w o v:=by
  have ev:=g.evalO hx
  have hu:=isSlice_spec ht
  have run:∀ (b:Option Addr) (n c:Nat),a.eval x=.slice b n c→Yields P a w o (.int .i64 n):=fun b n c hv w' _=>by
    simp [execOp,ho,resolve,invoke,builtin,Builtin.len_,hv,und_run hu,goInt]
  unfold kLen at h
  generalize hv:a.eval x=v at ev
  split at h
  · next sz es hd =>
    rw [hd] at ev
    cases ev with
    | cl d x h' =>
      cases h' with
      | sl0 sz b c=>exact ⟨_,_,h,.cl _ _ (.v _),by simpa using run b 0 c hv⟩
      | sl sz es b off n c us hA hn=>exact ⟨_,_,h,.cl _ _ (.v _),by subst hn;exact run _ _ c hv⟩
  · next τ sz off n hd =>
    rw [hd] at ev
    cases ev with
    | cl d x h'=>cases h'
    | ref=>exact ⟨_,_,h,.cl _ _ (.v _),run _ _ _ hv⟩
    | refz=>exact ⟨_,_,h,.cl _ _ (.v _),run _ _ _ hv⟩
  · next hd =>
    rw [hd] at ev
    cases ev with
    | cl d x h'=>cases h';exact ⟨_,_,h,.cl _ _ (.v _),run _ _ _ hv⟩
  · exact h.elim
theorem addr_add (b off n:Nat):(⟨b,off,none⟩:Addr).add n=⟨b,off+n,none⟩:=by
  unfold Addr.add;split
  · next h=>subst h;rfl
  · rfl
theorem in_row {i n j sz:Nat} (hi:i<n) (hj:j<sz):i * sz+j<n * sz:=by
  have:(i+1) * sz≤n * sz:=Nat.mul_le_mul_right sz hi
  rw [Nat.add_mul] at this;omega
theorem Same.cell {w':World} (h:Same w w') {b off:Nat} (hb:b<w.heap.size):w'.cell? ⟨b,off,none⟩=w.cell? ⟨b,off,none⟩:=World.cell?_of_block (w:=w) (h b hb)
theorem pu_idx {x i : Operand} {x' i' : O} {t e : TypeId} {sz : Nat} (ho : o.op = .indexAddr t x i) (ht : P.underlying t = some (.slice e)) (hsz : szOf P e = some sz) (hx : cO x = some x') (hi : cO i = some i')
    (h:kIdx (s.g x') (s.g i') sz k) (g:GR G s a w A β γ) : ∃ d v,k d∧DR w A β s.N d v∧Yields P a w o v:=by
  have ev:=g.evalO hx
  have ei:=g.evalO hi
  generalize hv:a.eval x=v at ev
  generalize hj:a.eval i=vi at ei
  have run:∀ (b off n c:Nat) (q:IntKind) (j:Int),v=.slice (some ⟨b,off,none⟩) n c→vi=.int q j→0≤j→j<n→Yields P a w o (.pointer (some ⟨b,off+j.toNat * sz,none⟩)):=by
    intro b off n c q j h1 h2 h3 h4 w' _
    subst h1;subst h2
    simp [execOp,ho,Instr.indexAt,hv,hj,asIntOf,und_run ht,szOf_spec hsz,h3,h4,addr_add]
  unfold kIdx at h
  split at h
  · next z es q j hd he =>
    obtain ⟨⟨rfl,h0,h1⟩,hk⟩:=h
    rw [hd] at ev;rw [he] at ei
    have e2:=dr_v ei
    have hjl:j.toNat<es.length:=by omega
    cases ev with
    | cl d x h' =>
      cases h' with
      | sl0 sz b c=>simp at h1;omega
      | sl sz es b off n c us hA hn hcap hs hc hr =>
        refine ⟨_,_,hk,.cl _ _ ?_,run b off n c q j rfl e2 h0 (by omega)⟩
        refine .ip _ 0 b (off+j.toNat * z) (fun m=>us j.toNat m) hA (fun m hm => ?_) (fun m hm => ?_)
        · rw [hs _ hjl] at hm;rw [Nat.add_assoc];exact (hc _ _ hjl hm).1
        · rw [hs _ hjl] at hm;exact hr _ _ hjl hm
  · next τ z off n q j hd he =>
    obtain ⟨⟨rfl,h0,h1⟩,hk⟩:=h
    rw [hd] at ev;rw [he] at ei
    have e2:=dr_v ei
    cases ev with
    | cl d x h'=>cases h'
    | ref τ sz off n c b arr T hN hb hc hh hr =>
      refine ⟨_,_,hk,?_,run b _ n c q j rfl e2 h0 h1⟩
      have:=DR.ptr (w:=w) (A:=A) τ z (off+j.toNat) 0 b hN hb
      rw [Nat.add_mul] at this;exact this
    | refz=>simp at h1;omega
  · exact h.elim
theorem pu_idxa {x i : Operand} {x' i' : O} {t e : TypeId} {sz n : Nat} (ho : o.op = .indexAddr t x i) (ht : P.underlying t = some (.array n e)) (hsz : szOf P e = some sz) (hx : cO x = some x') (hi : cO i = some i')
    (h:kIdxa (s.g x') (s.g i') sz n k) (g:GR G s a w A β γ) : ∃ d v,k d∧DR w A β s.N d v∧Yields P a w o v:=by
  have ev:=g.evalO hx
  have ei:=g.evalO hi
  generalize hv:a.eval x=v at ev
  generalize hj:a.eval i=vi at ei
  have run:∀ (b off:Nat) (q:IntKind) (j:Int),v=.pointer (some ⟨b,off,none⟩)→vi=.int q j→0≤j→j<n→Yields P a w o (.pointer (some ⟨b,off+j.toNat * sz,none⟩)):=by
    intro b off q j h1 h2 h3 h4 w' _
    subst h1;subst h2
    simp [execOp,ho,Instr.indexAt,Instr.sureAddr,hv,hj,asIntOf,und_run ht,szOf_spec hsz,h3,h4,addr_add]
  unfold kIdxa at h
  split at h
  · next e' o' q j hd he =>
    obtain ⟨⟨h0,h1⟩,hk⟩:=h
    rw [hd] at ev;rw [he] at ei
    have e2:=dr_v ei
    cases ev with
    | cl d x h' =>
      cases h' with
      | ip e o b off us hA hc hr =>
        refine ⟨_,_,hk,.cl _ _ ?_,run b _ q j rfl e2 h0 h1⟩
        rw [Nat.add_assoc]
        exact .ip _ _ b off us hA hc hr
  · next τ z i0 o' q j hd he =>
    obtain ⟨⟨h0,h1⟩,hk⟩:=h
    rw [hd] at ev;rw [he] at ei
    have e2:=dr_v ei
    cases ev with
    | cl d x h'=>cases h'
    | ptr τ sz' i0 o' b hN hb =>
      refine ⟨_,_,hk,?_,run b _ q j rfl e2 h0 h1⟩
      rw [Nat.add_assoc]
      exact .ptr τ _ _ _ b hN hb
  · exact h.elim
theorem field_spec {t:TypeId} {i:Nat} {f:Field} (h:field P t i=some f) : ∃ fs,P.underlying t=some (.struct fs)∧fs[i]?=some f:=by
  unfold field at h
  split at h
  · next fs h'=>exact ⟨fs,h',h⟩
  · cases h
theorem pu_fld {x : Operand} {x' : O} {t : TypeId} {i z : Nat} {f : Field} (ho : o.op = .fieldAddr t x i) (hf : field P t i = some f) (hz : szOf P f.type = some z) (hz0 : z ≠ 0) (hx : cO x = some x')
    (h:kFld (s.g x') f.offset k) (g:GR G s a w A β γ) : ∃ d v,k d∧DR w A β s.N d v∧Yields P a w o v:=by
  have ev:=g.evalO hx
  obtain ⟨fs,hu,hi⟩:=field_spec hf
  generalize hv:a.eval x=v at ev
  have run:∀ (b off:Nat),v=.pointer (some ⟨b,off,none⟩)→Yields P a w o (.pointer (some ⟨b,off+f.offset,none⟩)):=by
    intro b off h1 w' _
    subst h1
    simp [execOp,ho,Instr.fieldAt,Instr.sureAddr,hv,und_run hu,hi,fieldPlace,szOf_spec hz,hz0,addr_add]
  unfold kFld at h
  split at h
  · next e' o' hd =>
    rw [hd] at ev
    cases ev with
    | cl d x h' =>
      cases h' with
      | ip e o b off us hA hc hr =>
        refine ⟨_,_,h,.cl _ _ ?_,run b _ rfl⟩
        rw [Nat.add_assoc]
        exact .ip _ _ b off us hA hc hr
  · next τ z' i0 o' hd =>
    rw [hd] at ev
    cases ev with
    | cl d x h'=>cases h'
    | ptr τ sz' i0 o' b hN hb =>
      refine ⟨_,_,h,?_,run b _ rfl⟩
      rw [Nat.add_assoc]
      exact .ptr τ _ _ _ b hN hb
  · exact h.elim
theorem agg_run {t:TypeId} {r:Bool} (h:aggOf P t=some r) (w:World):(isAgg t).run P w=.ok r w:=by
  unfold aggOf at h
  split at h
  · next fs h'=>simp only [Option.some.injEq] at h;subst h;simp [isAgg,und_run h']
  · next fs h'=>simp only [Option.some.injEq] at h;subst h;simp [isAgg,und_run h']
  · next d h1 h2 hd =>
    simp only [Option.some.injEq] at h;subst h
    simp only [isAgg,Sem.run_bind,und_run hd,Result.andThen_ok]
    cases d<;>first|rfl|exact absurd hd (h1 _)|exact absurd hd (h2 _ _)
  · cases h
theorem ptr_cells (g:GR G s a w A β γ) {τ z i o n:Nat} {ob:Ob} {v:Value} (hm:s.M τ=some ob) (hk:ob.kd.isMap=false) (h1:ob.sz=z) (h2:i<ob.es.length) (h3:o+n≤z) (_hn:0<n) (ev:DR w A β s.N (.ptr τ z i o) v) :
    ∃ b:Nat,∃ us:Nat→Value,τ<s.N∧β τ=some b∧v=.pointer (some ⟨b,i * z+o,none⟩)∧b<w.heap.size∧(∀ j,j<n→w.cell? ⟨b,i * z+o+j,none⟩=some (us j)) ∧
      ∀ j,j<n→CDR ob.flat w A β γ s.N τ [i * z+(o+j)] ((ob.es.getD i []).getD (o+j) .junk) (us j):=by
  cases ev with
  | cl d x h'=>cases h'
  | ptr τ sz' i0 o' b hN hb =>
    obtain ⟨arr,T,hh,hl,hr⟩:=g.hr.cells hN hm hk hb
    subst h1
    refine ⟨b,fun j=>arr.getD (i * ob.sz+(o+j)) undef,hN,hb,rfl,lt_of_get hh,fun j hj => ?_,fun j hj=>hr i (o+j) h2 (by omega)⟩
    have hlt:i * ob.sz+(o+j)<arr.size:=by have:=in_row (sz:=ob.sz) h2 (show o+j<ob.sz by omega);omega
    simp only [World.cell?,hh]
    rw [Nat.add_assoc]
    simp [hlt]
theorem GR.unfold (g : GR G s a w A β γ) {τ i o z : Nat} {ob : Ob} {ow : Bool} {es : List (List D)} {u : Value} (hτ : τ < s.N) (hM : s.M τ = some ob) (hk : ob.kd.isMap = false) (hi : i < ob.es.length) (ho : o < ob.sz) (hc : (ob.es.getD i []).getD o .junk = .own ow z es)
    (hu:OC w A γ τ [i * ob.sz+o] (.own ow z es) u) (hu':∀ b,β τ=some b → ∃ arr T,w.heap[b]?=some (.cells arr T (0,0))∧arr.getD (i * ob.sz+o) undef=u) :
    ∃ β' γ',GR G (s.unfold τ i o ob ow z es) a w A β' γ'∧DR w A β' (s.N+1) (.ref s.N z 0 es.length) u∧∀ σ,σ<s.N→β' σ=β σ:=by
  have hMn:s.M τ ≠ none:=by rw [hM];simp
  let idx:=i * ob.sz+o
  -- where the slice lies
  obtain ⟨x,hx⟩ : ∃ x:Option Nat,(x=none∧es=[] ∧ ∃ b,u=.slice b 0 0) ∨ ∃ b n c arr T,x=some b∧u=.slice (some ⟨b,0,none⟩) n c∧γ b=some (τ,[idx])∧w.heap[b]?=some (.cells arr T (0,0))∧es.length=n∧n≤c∧c * z≤arr.size ∧
      (∀ i,i<es.length→(es.getD i []).length=z)∧(∀ i j,i<es.length→j<z→(arr.getD (i * z+j) undef).oneCell'=true) ∧
      (ow=false→∀ i j,i<es.length→j<z→CR w A ((es.getD i []).getD j .junk) (arr.getD (i * z+j) undef)) ∧
      (∀ i j,i<es.length→j<z→OC w A γ τ ((i * z+j)::[idx]) ((es.getD i []).getD j .junk) (arr.getD (i * z+j) undef)):=by
    cases hu with
    | cr π d x h=>cases h
    | own0 π ow sz b=>exact ⟨none,.inl ⟨rfl,rfl,b,rfl⟩⟩
    | own π ow sz es b n c arr T h1 hh hn hc hs hl hone ho hr=>exact ⟨some b,.inr ⟨b,n,c,arr,T,rfl,rfl,h1,hh,hn,hc,hs,hl,hone,ho,hr⟩⟩
  let β':Nat→Option Nat:=fun σ=>if σ=s.N then x else β σ
  let γ':Nat→Option (Nat × List Nat):=fun b=>match γ b with
    | some (σ,π)=>if σ=τ∧π.getLast?=some idx then some (s.N,π.dropLast) else if σ<s.N then some (σ,π) else none
    | none=>none
  have hτN:τ ≠ s.N:=Nat.ne_of_lt hτ
  have eβ:∀ σ,σ<s.N→β' σ=β σ:=fun σ h=>by simp [β',Nat.ne_of_lt h]
  have eβN:β' s.N=x:=by simp [β']
  -- blocks of others stay theirs
  have keepγ:∀ b σ π,γ b=some (σ,π)→σ<s.N→¬ (σ=τ∧π.getLast?=some idx)→γ' b=some (σ,π):=by
    intro b σ π h1 h2 h3
    simp only [γ',h1,if_neg h3,if_pos h2]
  have movedγ:∀ b π,γ b=some (τ,π)→π.getLast?=some idx→γ' b=some (s.N,π.dropLast):=by
    intro b π h1 h2
    simp only [γ',h1,h2,and_self,if_true]
  have invγ:∀ b σ π,γ' b=some (σ,π)→(σ=s.N ∧ ∃ π',γ b=some (τ,π'))∨(σ<s.N∧γ b=some (σ,π)):=by
    intro b σ π h
    simp only [γ'] at h
    split at h
    · next σ' π' he =>
      split at h
      · next hc=>simp only [Option.some.injEq,Prod.mk.injEq] at h;left;exact ⟨h.1.symm,π',by rw [he,hc.1]⟩
      · split at h
        · next hlt=>simp only [Option.some.injEq,Prod.mk.injEq] at h;right;obtain ⟨rfl,rfl⟩:=h;exact ⟨hlt,he⟩
        · cases h
    · cases h
  have hMu:∀ σ,(s.unfold τ i o ob ow z es).M σ=if σ=s.N then some ⟨z,es,true,ow,.arr⟩ else if σ=τ then some ⟨ob.sz,ob.es.set i ((ob.es.getD i []).set o (.ref s.N z 0 es.length)),false,ob.ow,ob.kd⟩ else s.M σ:=fun σ=>rfl
  have live:∀ σ,σ<s.N→(s.unfold τ i o ob ow z es).M σ ≠ none→s.M σ ≠ none:=by
    intro σ h1 h2
    rw [hMu,if_neg (Nat.ne_of_lt h1)] at h2
    by_cases e:σ=τ
    · rw [e];exact hMn
    · rwa [if_neg e] at h2
  have hdr:DR w A β' (s.N+1) (.ref s.N z 0 es.length) u:=by
    rcases hx with ⟨rfl,rfl,b,rfl⟩|⟨b,n,c,arr,T,rfl,rfl,h1,hh,hn,hc,hs,_⟩
    · exact .refz _ _ _ _ (Nat.lt_succ_self _)
    · subst hn
      have:=DR.ref (w:=w) (A:=A) (β:=β') (N:=s.N+1) s.N z 0 es.length c b arr T (Nat.lt_succ_self _) eβN hc hh (by simpa using hs)
      simpa using this
  have mv:∀ {d:D} {v:Value},DR w A β s.N d v→DR w A β' (s.N+1) d v:=fun h=>h.mono (fun _ _=>rfl) (fun _ h=>h) (Shp.refl _) (Nat.le_succ _) eβ
  have ocmv:∀ (σ:Nat) (k:Nat) (d:D) (v:Value),σ<s.N→¬ (σ=τ∧k=idx)→OC w A γ σ [k] d v→OC w A γ' σ [k] d v:=by
    intro σ k d v h1 h2 h3
    refine OC.move (g:=fun π=>π) (fun π=>¬ (σ=τ∧π.getLast?=some idx)∧π ≠ []) (fun i π h=>⟨?_,by simp⟩) (fun _ _ _=>rfl) (fun b π h hb=>⟨rfl,keepγ b σ π hb h1 h.1⟩) (fun _ _=>rfl) (fun _ h=>h) h3 ⟨?_,by simp⟩
    · obtain ⟨hh1,hh2⟩:=h
      cases π with
      | nil=>exact absurd rfl hh2
      | cons p q=>simpa [List.getLast?_cons_cons] using hh1
    · simpa using h2
  refine ⟨β',γ',⟨g.size,g.defers,⟨g.hr.below,g.hr.sub,g.hr.up,g.hr.low,fun σ ob' hσ hm => ?_,fun b σ π h1 h2 h3 => ?_,fun σ b h1 h2 h3 => ?_,Nat.le_trans g.hr.ge (Nat.le_succ _),g.hr.flt,fun σ hF => ?_⟩,fun t=>mv (g.slots t),g.keep⟩,hdr,eβ⟩
  · rw [hMu] at hm
    by_cases hN:σ=s.N
    · subst hN
      rw [if_pos rfl] at hm;cases hm
      rcases hx with ⟨rfl,rfl,b,rfl⟩|⟨b,n,c,arr,T,rfl,rfl,h1,hh,hn,hc,hs,hl,hone,hcr,hr⟩
      · exact ⟨fun i hi=>by simp at hi,fun _ i j hi=>by simp at hi,.inl ⟨eβN,rfl,rfl⟩⟩
      · refine ⟨hl,fun hw i j hi hj => ?_,.inr ⟨b,_,fun i j=>arr.getD (i * z+j) undef,eβN,hh,⟨arr,T,rfl,?_,fun i j _ _=>rfl⟩,fun i j hi hj=>⟨fun hno => ?_,fun _ => ?_,hone i j hi hj⟩⟩⟩
        · have hw':ow=false:=hw
          exact cr_no (hcr hw' i j hi hj)
        · have h1:es.length * z≤c * z:=Nat.mul_le_mul_right z (by omega)
          show es.length * z≤arr.size
          omega
        · have hh:=hr i j hi hj
          exact .cl _ _ (hh.toCR hno)
        · have hh:=hr i j hi hj
          have:=OC.move (γ':=γ') (τ':=s.N) (g:=List.dropLast) (fun π=>π.getLast?=some idx) (fun i π h=>by cases π with|nil=>simp at h|cons p q=>simpa [List.getLast?_cons_cons] using h)
            (fun i π h=>by cases π with|nil=>simp at h|cons p q=>rfl) (fun b π h hb=>⟨rfl,movedγ b π hb h⟩) (fun _ _=>rfl) (fun _ h=>h) hh (by simp)
          simpa using this
    · rw [if_neg hN] at hm
      have hlt:σ<s.N:=by have:σ<s.N+1:=hσ;omega
      by_cases e:σ=τ
      · subst e
        rw [if_pos rfl] at hm;cases hm
        have hor:=g.hr.objs σ ob hτ hM
        have hset:∀ i',i'<ob.es.length→(ob.es.set i ((ob.es.getD i []).set o (.ref s.N z 0 es.length))).getD i' []=if i=i' then (ob.es.getD i []).set o (.ref s.N z 0 es.length) else ob.es.getD i' []:=by
          intro i' hi'
          simp only [List.getD_eq_getElem?_getD,List.getElem?_set]
          by_cases h:i=i'
          · subst h;simp [hi]
          · simp [h]
        have hcell:∀ i' j,i'<ob.es.length→j<ob.sz→((ob.es.set i ((ob.es.getD i []).set o (.ref s.N z 0 es.length))).getD i' []).getD j .junk=if i=i'∧o=j then .ref s.N z 0 es.length else (ob.es.getD i' []).getD j .junk:=by
          intro i' j hi' hj
          rw [hset i' hi']
          by_cases h:i=i'
          · subst h
            simp only [if_true,true_and]
            have hlen:o<(ob.es.getD i []).length:=by rw [hor.1 i hi];exact ho
            rw [List.getD_eq_getElem?_getD,List.getElem?_set]
            by_cases h2:o=j
            · subst h2;rw [if_pos rfl,if_pos rfl,if_pos hlen];rfl
            · rw [if_neg h2,if_neg h2,← List.getD_eq_getElem?_getD]
          · rw [if_neg h,if_neg (fun hh=>h hh.1)]
        refine ⟨fun i' hi' => ?_,fun hw i' j hi' hj => ?_,?_⟩
        · simp only [List.length_set] at hi'
          simp only
          rw [hset i' hi']
          split
          · next h=>subst h;rw [List.length_set];exact hor.1 i hi
          · exact hor.1 i' hi'
        · simp only [List.length_set] at hi'
          simp only at hj ⊢
          rw [hcell i' j hi' hj]
          split
          · rfl
          · exact hor.2.1 hw i' j hi' hj
        · rcases hor.2.2 with ⟨k1,k2,k3⟩|⟨b,oo,us,k1,k2,k3,k4⟩
          · rw [k2] at hi;simp at hi
          · obtain ⟨arr,T,hh,harr⟩:=hu' b k1
            rw [hh] at k2;cases k2
            refine .inr ⟨b,_,us,by rw [eβ _ hlt];exact k1,hh,by simpa using k3,fun i' j hi' hj => ?_⟩
            simp only [List.length_set] at hi'
            simp only at hj ⊢
            rw [hcell i' j hi' hj]
            obtain ⟨q1,q2,q3⟩:=k4 i' j hi' hj
            by_cases h:i=i'∧o=j
            · obtain ⟨rfl,rfl⟩:=h
              rw [if_pos ⟨rfl,rfl⟩]
              have husv:us i o=u:=by
                have : ∃ arr' T',Obj.cells arr T (0,0)=.cells arr' T' (0,0)∧ob.es.length * ob.sz≤arr'.size∧∀ i j,i<ob.es.length→j<ob.sz→arr'.getD (i * ob.sz+j) undef=us i j:=by
                  cases hkd:ob.kd with
                  | map k ka va=>rw [hkd] at hk;cases hk
                  | itr=>rw [hkd] at hk;cases hk
                  | arr=>rw [hkd] at k3;exact k3
                  | fix=>rw [hkd] at k3;exact k3
                obtain ⟨arr',T',he,_,h6⟩:=this
                cases he
                rw [← h6 i o hi ho,harr]
              exact ⟨fun _=>by rw [husv];exact hdr,fun h=>(by rcases h with h|h<;>cases h),q3⟩
            · rw [if_neg h]
              refine ⟨fun hno=>mv (q1 hno),fun hor => ?_,q3⟩
              rcases hor with h'|h'
              · cases h'
              · refine ocmv σ _ _ _ hτ ?_ (q2 (.inr h'))
                rintro ⟨_,he⟩
                have hj':j<ob.sz:=hj
                have h1:=Nat.mul_add_mod ob.sz i' j
                have h2:=Nat.mul_add_mod ob.sz i o
                rw [Nat.mod_eq_of_lt hj'] at h1
                rw [Nat.mod_eq_of_lt ho] at h2
                have he':i' * ob.sz+j=i * ob.sz+o:=he
                rw [Nat.mul_comm] at h1 h2
                rw [he'] at h1
                have hjo:j=o:=h1.symm.trans h2
                subst hjo
                have:i' * ob.sz=i * ob.sz:=by omega
                have:=Nat.eq_of_mul_eq_mul_right (by omega) this
                exact h ⟨this.symm,rfl⟩
      · rw [if_neg e] at hm
        refine (g.hr.objs σ ob' hlt hm).mono hlt (fun _ _=>rfl) (fun _ h=>h) (Shp.refl _) (Nat.le_succ _) eβ (fun b π _ hb=>⟨rfl,keepγ b σ π hb hlt (fun h=>e h.1)⟩) (fun _ _=>rfl)
  · rcases invγ b σ π h1 with ⟨rfl,π',h⟩|⟨hlt,h⟩
    · exact g.hr.own b τ π' h hτ hMn
    · exact g.hr.own b σ π h hlt (live σ hlt h3)
  · by_cases hN:σ=s.N
    · subst hN
      rw [eβN] at h3
      rcases hx with ⟨e1,_⟩|⟨b',n,c,arr,T,e1,e2,h4,_⟩
      · rw [e1] at h3;cases h3
      · rw [e1] at h3
        have e3:b'=b:=Option.some.inj h3
        have:=movedγ b' [idx] h4 rfl
        rw [e3] at this
        simpa using this
    · have hlt:σ<s.N:=by have:σ<s.N+1:=h1;omega
      rw [eβ σ hlt] at h3
      exact keepγ b σ [] (g.hr.root σ b hlt (live σ hlt h2) h3) hlt (by simp)
  · have hlt:=Nat.lt_of_lt_of_le (g.hr.flt σ hF) g.hr.ge
    refine ⟨by rw [eβ σ hlt];exact (g.hr.fixd σ hF).1,fun ob' hm => ?_⟩
    rw [hMu,if_neg (Nat.ne_of_lt hlt)] at hm
    by_cases e:σ=τ
    · subst e;rw [if_pos rfl] at hm;cases hm
      exact (g.hr.fixd σ hF).2 ob hM
    · rw [if_neg e] at hm;exact (g.hr.fixd σ hF).2 ob' hm
theorem GR.unfoldM (g : GR G s a w A β γ) {τ i o z : Nat} {ob : Ob} {kd : Kd} {es : List (List D)} {u : Value} (hτ : τ < s.N) (hM : s.M τ = some ob) (hk : ob.kd.isMap = false) (hi : i < ob.es.length) (ho : o < ob.sz) (hc : (ob.es.getD i []).getD o .junk = .omp kd z es)
    (hu:OC w A γ τ [i * ob.sz+o] (.omp kd z es) u) (hu':∀ b,β τ=some b → ∃ arr T,w.heap[b]?=some (.cells arr T (0,0))∧arr.getD (i * ob.sz+o) undef=u) :
    ∃ β' γ',GR G (s.unfoldM τ i o ob kd z es) a w A β' γ'∧DR w A β' (s.N+1) (.mp s.N) u:=by
  have hMn:s.M τ ≠ none:=by rw [hM];simp
  let idx:=i * ob.sz+o
  obtain ⟨b0,o0,us0,rfl,h1',hh,hmap,hH,hl,hone,hr⟩ : ∃ (b0:Nat) (o0:Obj) (us0:Nat→Nat→Value),u=.map (some b0)∧γ b0=some (τ,[idx])∧w.heap[b0]?=some o0∧kd.isMap=true∧Holds kd z es.length o0 us0 ∧
      (∀ i,i<es.length→(es.getD i []).length=z)∧(∀ i j,i<es.length→j<z→(us0 i j).oneCell'=true)∧(∀ i j,i<es.length→j<z→CR w A ((es.getD i []).getD j .junk) (us0 i j)):=by
    cases hu with
    | cr π d x h=>cases h
    | omp π kd sz es b o us h1 hh hm hH hl hone hr=>exact ⟨b,o,us,rfl,h1,hh,hm,hH,hl,hone,hr⟩
  let β':Nat→Option Nat:=fun σ=>if σ=s.N then some b0 else β σ
  let γ':Nat→Option (Nat × List Nat):=fun b=>match γ b with
    | some (σ,π)=>if σ=τ∧π.getLast?=some idx then some (s.N,π.dropLast) else if σ<s.N then some (σ,π) else none
    | none=>none
  have hτN:τ ≠ s.N:=Nat.ne_of_lt hτ
  have eβ:∀ σ,σ<s.N→β' σ=β σ:=fun σ h=>by simp [β',Nat.ne_of_lt h]
  have eβN:β' s.N=some b0:=by simp [β']
  -- blocks of others stay theirs
  have keepγ:∀ b σ π,γ b=some (σ,π)→σ<s.N→¬ (σ=τ∧π.getLast?=some idx)→γ' b=some (σ,π):=by
    intro b σ π h1 h2 h3
    simp only [γ',h1,if_neg h3,if_pos h2]
  have movedγ:∀ b π,γ b=some (τ,π)→π.getLast?=some idx→γ' b=some (s.N,π.dropLast):=by
    intro b π h1 h2
    simp only [γ',h1,h2,and_self,if_true]
  have invγ:∀ b σ π,γ' b=some (σ,π)→(σ=s.N ∧ ∃ π',γ b=some (τ,π'))∨(σ<s.N∧γ b=some (σ,π)):=by
    intro b σ π h
    simp only [γ'] at h
    split at h
    · next σ' π' he =>
      split at h
      · next hc=>simp only [Option.some.injEq,Prod.mk.injEq] at h;left;exact ⟨h.1.symm,π',by rw [he,hc.1]⟩
      · split at h
        · next hlt=>simp only [Option.some.injEq,Prod.mk.injEq] at h;right;obtain ⟨rfl,rfl⟩:=h;exact ⟨hlt,he⟩
        · cases h
    · cases h
  have hMu:∀ σ,(s.unfoldM τ i o ob kd z es).M σ=if σ=s.N then some ⟨z,es,true,false,kd⟩ else if σ=τ then some ⟨ob.sz,ob.es.set i ((ob.es.getD i []).set o (.mp s.N)),false,ob.ow,ob.kd⟩ else s.M σ:=fun σ=>rfl
  have live:∀ σ,σ<s.N→(s.unfoldM τ i o ob kd z es).M σ ≠ none→s.M σ ≠ none:=by
    intro σ h1 h2
    rw [hMu,if_neg (Nat.ne_of_lt h1)] at h2
    by_cases e:σ=τ
    · rw [e];exact hMn
    · rwa [if_neg e] at h2
  have hdr:DR w A β' (s.N+1) (.mp s.N) (.map (some b0)):=.mp _ b0 (Nat.lt_succ_self _) eβN
  have mv:∀ {d:D} {v:Value},DR w A β s.N d v→DR w A β' (s.N+1) d v:=fun h=>h.mono (fun _ _=>rfl) (fun _ h=>h) (Shp.refl _) (Nat.le_succ _) eβ
  have ocmv:∀ (σ:Nat) (k:Nat) (d:D) (v:Value),σ<s.N→¬ (σ=τ∧k=idx)→OC w A γ σ [k] d v→OC w A γ' σ [k] d v:=by
    intro σ k d v h1 h2 h3
    refine OC.move (g:=fun π=>π) (fun π=>¬ (σ=τ∧π.getLast?=some idx)∧π ≠ []) (fun i π h=>⟨?_,by simp⟩) (fun _ _ _=>rfl) (fun b π h hb=>⟨rfl,keepγ b σ π hb h1 h.1⟩) (fun _ _=>rfl) (fun _ h=>h) h3 ⟨?_,by simp⟩
    · obtain ⟨hh1,hh2⟩:=h
      cases π with
      | nil=>exact absurd rfl hh2
      | cons p q=>simpa [List.getLast?_cons_cons] using hh1
    · simpa using h2
  refine ⟨β',γ',⟨g.size,g.defers,⟨g.hr.below,g.hr.sub,g.hr.up,g.hr.low,fun σ ob' hσ hm => ?_,fun b σ π h1 h2 h3 => ?_,fun σ b h1 h2 h3 => ?_,Nat.le_trans g.hr.ge (Nat.le_succ _),g.hr.flt,fun σ hF => ?_⟩,fun t=>mv (g.slots t),g.keep⟩,hdr⟩
  · rw [hMu] at hm
    by_cases hN:σ=s.N
    · subst hN
      rw [if_pos rfl] at hm;cases hm
      refine ⟨hl,fun _ i j hi hj=>cr_no (hr i j hi hj),.inr ⟨b0,o0,us0,eβN,hh,hH,fun i j hi hj=>⟨fun hno=>.cl _ _ (hr i j hi hj),fun _=>.cr _ _ _ (hr i j hi hj),hone i j hi hj⟩⟩⟩
    · rw [if_neg hN] at hm
      have hlt:σ<s.N:=by have:σ<s.N+1:=hσ;omega
      by_cases e:σ=τ
      · subst e
        rw [if_pos rfl] at hm;cases hm
        have hor:=g.hr.objs σ ob hτ hM
        have hset:∀ i',i'<ob.es.length→(ob.es.set i ((ob.es.getD i []).set o (.mp s.N))).getD i' []=if i=i' then (ob.es.getD i []).set o (.mp s.N) else ob.es.getD i' []:=by
          intro i' hi'
          simp only [List.getD_eq_getElem?_getD,List.getElem?_set]
          by_cases h:i=i'
          · subst h;simp [hi]
          · simp [h]
        have hcell:∀ i' j,i'<ob.es.length→j<ob.sz→((ob.es.set i ((ob.es.getD i []).set o (.mp s.N))).getD i' []).getD j .junk=if i=i'∧o=j then .mp s.N else (ob.es.getD i' []).getD j .junk:=by
          intro i' j hi' hj
          rw [hset i' hi']
          by_cases h:i=i'
          · subst h
            simp only [if_true,true_and]
            have hlen:o<(ob.es.getD i []).length:=by rw [hor.1 i hi];exact ho
            rw [List.getD_eq_getElem?_getD,List.getElem?_set]
            by_cases h2:o=j
            · subst h2;rw [if_pos rfl,if_pos rfl,if_pos hlen];rfl
            · rw [if_neg h2,if_neg h2,← List.getD_eq_getElem?_getD]
          · rw [if_neg h,if_neg (fun hh=>h hh.1)]
        refine ⟨fun i' hi' => ?_,fun hw i' j hi' hj => ?_,?_⟩
        · simp only [List.length_set] at hi'
          simp only
          rw [hset i' hi']
          split
          · next h=>subst h;rw [List.length_set];exact hor.1 i hi
          · exact hor.1 i' hi'
        · simp only [List.length_set] at hi'
          simp only at hj ⊢
          rw [hcell i' j hi' hj]
          split
          · rfl
          · exact hor.2.1 hw i' j hi' hj
        · rcases hor.2.2 with ⟨k1,k2,k3⟩|⟨b,oo,us,k1,k2,k3,k4⟩
          · rw [k2] at hi;simp at hi
          · obtain ⟨arr,T,hh,harr⟩:=hu' b k1
            rw [hh] at k2;cases k2
            refine .inr ⟨b,_,us,by rw [eβ _ hlt];exact k1,hh,by simpa using k3,fun i' j hi' hj => ?_⟩
            simp only [List.length_set] at hi'
            simp only at hj ⊢
            rw [hcell i' j hi' hj]
            obtain ⟨q1,q2,q3⟩:=k4 i' j hi' hj
            by_cases h:i=i'∧o=j
            · obtain ⟨rfl,rfl⟩:=h
              rw [if_pos ⟨rfl,rfl⟩]
              have husv:us i o=.map (some b0):=by
                have : ∃ arr' T',Obj.cells arr T (0,0)=.cells arr' T' (0,0)∧ob.es.length * ob.sz≤arr'.size∧∀ i j,i<ob.es.length→j<ob.sz→arr'.getD (i * ob.sz+j) undef=us i j:=by
                  cases hkd:ob.kd with
                  | map k ka va=>rw [hkd] at hk;cases hk
                  | itr=>rw [hkd] at hk;cases hk
                  | arr=>rw [hkd] at k3;exact k3
                  | fix=>rw [hkd] at k3;exact k3
                obtain ⟨arr',T',he,_,h6⟩:=this
                cases he
                rw [← h6 i o hi ho,harr]
              exact ⟨fun _=>by rw [husv];exact hdr,fun h=>(by rcases h with h|h<;>cases h),q3⟩
            · rw [if_neg h]
              refine ⟨fun hno=>mv (q1 hno),fun hor => ?_,q3⟩
              rcases hor with h'|h'
              · cases h'
              · refine ocmv σ _ _ _ hτ ?_ (q2 (.inr h'))
                rintro ⟨_,he⟩
                have hj':j<ob.sz:=hj
                have h1:=Nat.mul_add_mod ob.sz i' j
                have h2:=Nat.mul_add_mod ob.sz i o
                rw [Nat.mod_eq_of_lt hj'] at h1
                rw [Nat.mod_eq_of_lt ho] at h2
                have he':i' * ob.sz+j=i * ob.sz+o:=he
                rw [Nat.mul_comm] at h1 h2
                rw [he'] at h1
                have hjo:j=o:=h1.symm.trans h2
                subst hjo
                have:i' * ob.sz=i * ob.sz:=by omega
                have:=Nat.eq_of_mul_eq_mul_right (by omega) this
                exact h ⟨this.symm,rfl⟩
      · rw [if_neg e] at hm
        refine (g.hr.objs σ ob' hlt hm).mono hlt (fun _ _=>rfl) (fun _ h=>h) (Shp.refl _) (Nat.le_succ _) eβ (fun b π _ hb=>⟨rfl,keepγ b σ π hb hlt (fun h=>e h.1)⟩) (fun _ _=>rfl)
  · rcases invγ b σ π h1 with ⟨rfl,π',h⟩|⟨hlt,h⟩
    · exact g.hr.own b τ π' h hτ hMn
    · exact g.hr.own b σ π h hlt (live σ hlt h3)
  · by_cases hN:σ=s.N
    · subst hN
      rw [eβN] at h3
      have e3:b0=b:=Option.some.inj h3
      have:=movedγ b0 [idx] h1' rfl
      rw [e3] at this
      simpa using this
    · have hlt:σ<s.N:=by have:σ<s.N+1:=h1;omega
      rw [eβ σ hlt] at h3
      exact keepγ b σ [] (g.hr.root σ b hlt (live σ hlt h2) h3) hlt (by simp)
  · have hlt:=Nat.lt_of_lt_of_le (g.hr.flt σ hF) g.hr.ge
    refine ⟨by rw [eβ σ hlt];exact (g.hr.fixd σ hF).1,fun ob' hm => ?_⟩
    rw [hMu,if_neg (Nat.ne_of_lt hlt)] at hm
    by_cases e:σ=τ
    · subst e;rw [if_pos rfl] at hm;cases hm
      exact (g.hr.fixd σ hF).2 ob hM
    · rw [if_neg e] at hm;exact (g.hr.fixd σ hF).2 ob' hm
def PU (P:Program) (G:Gh) (a:Act) (w:World) (o:Oper) (k:S→D→Prop):Prop := ∃ s' A' β' γ' d v,k s' d∧GR G s' a w A' β' γ'∧DR w A' β' s'.N d v∧Yields P a w o v
theorem PU.of {kk:S→D→Prop} (g:GR G s a w A β γ) (h : ∃ d v,kk s d∧DR w A β s.N d v∧Yields P a w o v):PU P G a w o kk :=
  let ⟨d,v,h1,h2,h3⟩:=h
  ⟨s,A,β,γ,d,v,h1,g,h2,h3⟩
theorem pu_ld1 {x : Operand} {x' : O} {t : TypeId} {kk : S → D → Prop} (ho : o.op = .load t x) (ht : aggOf P t = some false) (hx : cO x = some x')
    (h:kLd s (s.g x') kk) (g:GR G s a w A β γ):PU P G a w o kk:=by
  have ev:=g.evalO hx
  generalize hv:a.eval x=v at ev
  have run:∀ (b off:Nat) (u:Value),v=.pointer (some ⟨b,off,none⟩)→b<w.heap.size→w.cell? ⟨b,off,none⟩=some u→Yields P a w o u:=by
    intro b off u h1 hb hc w' hs
    have hs:=hs (by simp [isLoad,ho])
    subst h1
    have hc':=hs.cell (off:=off) hb
    rw [hc] at hc'
    simp [execOp,ho,Instr.loadAt,Instr.sureAddr,hv,loadVar,agg_run ht,hc']
  unfold kLd at h
  split at h
  · next e' o' hd =>
    obtain ⟨h1,hk⟩:=h
    rw [hd] at ev
    cases ev with
    | cl d x h' =>
      cases h' with
      | ip e o b off us hA hc hr=>exact ⟨s,A,β,γ,_,_,hk,g,.cl _ _ (hr o' h1),run b _ _ rfl (g.hr.low b hA) (hc o' h1)⟩
  · next τ z i o' hd =>
    rw [hd] at ev
    unfold kM at h
    split at h
    · next ob hm =>
      obtain ⟨⟨h1,h2,h3,hkm⟩,hk⟩:=h
      unfold kOwn at hk
      split at hk
      · next kd sz es hcell =>
        obtain ⟨_,hk⟩:=hk
        obtain ⟨b,us,hN,hβ,e1,hb,hc,hr⟩:=ptr_cells g hm hkm h1 h2 (n:=1) (by omega) (by omega) ev
        obtain ⟨arr,T,hh,hl,hcells⟩:=g.hr.cells hN hm hkm hβ
        subst h1
        have hr0:=hr 0 (by omega)
        rw [Nat.add_zero,hcell] at hr0
        have hlt:i * ob.sz+o'<arr.size:=by have:=in_row (sz:=ob.sz) h2 (show o'<ob.sz by omega);omega
        have hus:us 0=arr.getD (i * ob.sz+o') undef:=by
          have:=hc 0 (by omega)
          simp only [World.cell?,hh,Nat.add_zero] at this
          simp [hlt] at this
          simp [hlt,this]
        obtain ⟨β',γ',g',hdr⟩:=g.unfoldM hN hm hkm h2 h3 hcell (hr0.2.1 (.inr rfl)) (fun b' hb'=>by rw [hβ] at hb';cases hb';exact ⟨arr,T,hh,hus.symm⟩)
        have hN':(s.unfoldM τ i o' ob kd sz es).N - 1=s.N:=by show s.N+1 - 1=s.N;omega
        unfold kMpN at hk
        rw [hN'] at hk
        exact ⟨_,A,β',γ',_,_,hk,g',hdr,run b _ _ e1 hb (by have:=hc 0 (by omega);simpa using this)⟩
      · next ow sz es hcell =>
        obtain ⟨_,hk⟩:=hk
        obtain ⟨b,us,hN,hβ,e1,hb,hc,hr⟩:=ptr_cells g hm hkm h1 h2 (n:=1) (by omega) (by omega) ev
        obtain ⟨arr,T,hh,hl,hcells⟩:=g.hr.cells hN hm hkm hβ
        subst h1
        have hr0:=hr 0 (by omega)
        rw [Nat.add_zero,hcell] at hr0
        have hlt:i * ob.sz+o'<arr.size:=by have:=in_row (sz:=ob.sz) h2 (show o'<ob.sz by omega);omega
        have hus:us 0=arr.getD (i * ob.sz+o') undef:=by
          have:=hc 0 (by omega)
          simp only [World.cell?,hh,Nat.add_zero] at this
          simp [hlt] at this
          simp [hlt,this]
        obtain ⟨β',γ',g',hdr,_⟩:=g.unfold hN hm hkm h2 h3 hcell (hr0.2.1 (.inr rfl)) (fun b' hb'=>by rw [hβ] at hb';cases hb';exact ⟨arr,T,hh,hus.symm⟩)
        have hN':(s.unfold τ i o' ob ow sz es).N - 1=s.N:=by show s.N+1 - 1=s.N;omega
        unfold kRefN at hk
        rw [hN'] at hk
        exact ⟨_,A,β',γ',_,_,hk,g',hdr,run b _ _ e1 hb (by have:=hc 0 (by omega);simpa using this)⟩
      · next d hno hno2 =>
        obtain ⟨b,us,_,_,e1,hb,hc,hr⟩:=ptr_cells g hm hkm h1 h2 (n:=1) (by omega) (by omega) ev
        exact ⟨s,A,β,γ,_,_,hk,g,(hr 0 (by omega)).1 (by cases hd2:(ob.es.getD i []).getD o' .junk<;>first|(simp [hd2,D.isOwn];done)|exact absurd hd2 (hno _ _ _)|exact absurd hd2 (hno2 _ _ _)),run b _ _ e1 hb (hc 0 (by omega))⟩
    · exact h.elim
  · exact h.elim
theorem getD_drop_take (l:List D) (o n j:Nat) (h:j<n):((l.drop o).take n).getD j .junk=l.getD (o+j) .junk:=by
  simp only [List.getD_eq_getElem?_getD,List.getElem?_take,h,if_true,List.getElem?_drop]
theorem pu_ldn {x : Operand} {x' : O} {t : TypeId} {n : Nat} (ho : o.op = .load t x) (ht : aggOf P t = some true) (hn : szOf P t = some n) (hx : cO x = some x')
    (h:kLdn s (s.g x') n k) (g:GR G s a w A β γ) : ∃ d v,k d∧DR w A β s.N d v∧Yields P a w o v:=by
  have ev:=g.evalO hx
  generalize hv:a.eval x=v at ev
  have run:∀ (b off:Nat) (us:Nat→Value),v=.pointer (some ⟨b,off,none⟩)→(0<n→b<w.heap.size)→(∀ j,j<n→w.cell? ⟨b,off+j,none⟩=some (us j))→Yields P a w o (.agg ((List.range n).map us).toArray):=by
    intro b off us h1 hb hc w' hs
    have hs:=hs (by simp [isLoad,ho])
    subst h1
    have:=run_loadCells (P:=P) w' ⟨b,off,none⟩ n us (fun j hj=>by rw [addr_add,hs.cell (hb (by omega))];exact hc j hj)
    simp [execOp,ho,Instr.loadAt,Instr.sureAddr,hv,loadVar,agg_run ht,szOf_spec hn,this]
  have szl:∀ (us:Nat→Value),((List.range n).map us).toArray.size=n:=by simp
  have get:∀ (us:Nat→Value) (j:Nat),j<n→((List.range n).map us).toArray.getD j undef=us j:=fun us j hj=>by simp [hj]
  unfold kLdn at h
  split at h
  · next e' o' hd =>
    obtain ⟨h1,hk⟩:=h
    rw [hd] at ev
    cases ev with
    | cl d x h' =>
      cases h' with
      | ip e o b off us hA hc hr =>
        have hl:((e'.drop o').take n).length=n:=by simp;omega
        refine ⟨_,_,hk,.cl _ _ (.ag _ _ (by rw [hl];exact szl fun j=>us (o'+j)) fun j hj => ?_),run b _ (fun j=>us (o'+j)) rfl (fun _=>g.hr.low b hA) (fun j hj => ?_)⟩
        · rw [hl] at hj;rw [get _ _ hj,getD_drop_take _ _ _ _ hj];exact hr _ (by omega)
        · rw [Nat.add_assoc];exact hc _ (by omega)
  · next τ z i o' hd =>
    rw [hd] at ev
    unfold kM at h
    split at h
    · next ob hm =>
      obtain ⟨⟨h1,h2,h3,hkm⟩,hk⟩:=h
      by_cases hn0:n=0
      · subst hn0
        cases ev with
        | cl d x h'=>cases h'
        | ptr τ sz' i0 o' b hN hb =>
          exact ⟨_,_,hk,.ag _ _ (by cases ob.ow<;>simp [uns]) (fun j hj=>by cases hw:ob.ow<;>simp [uns,hw] at hj),run b _ (fun _=>undef) rfl (fun h=>by omega) (fun j hj=>by omega)⟩
      · obtain ⟨b,us,hN,_,e1,hb,hc,hr⟩:=ptr_cells g hm hkm h1 h2 (n:=n) h3 (by omega) ev
        have hlen:(ob.es.getD i []).length=z:=by rw [(g.hr.objs τ ob hN hm).1 i h2,h1]
        have hl:(((ob.es.getD i []).drop o').take n).length=n:=by rw [List.length_take,List.length_drop,hlen];omega
        have hun:∀ j,j<n→(uns ob.ow (((ob.es.getD i []).drop o').take n)).getD j .junk=((ob.es.getD i []).getD (o'+j) .junk).un∨(((ob.es.getD i []).getD (o'+j) .junk).isOwn=false∧(uns ob.ow (((ob.es.getD i []).drop o').take n)).getD j .junk=(ob.es.getD i []).getD (o'+j) .junk):=by
          intro j hj
          cases hw:ob.ow with
          | true =>
            left
            rw [uns_t,map_getD' D.un _ j .junk .junk (by rw [hl];exact hj),getD_drop_take _ _ _ _ hj]
          | false =>
            right
            rw [uns_f,getD_drop_take _ _ _ _ hj]
            exact ⟨(g.hr.objs τ ob hN hm).2.1 hw i (o'+j) h2 (by omega),rfl⟩
        have hul:(uns ob.ow (((ob.es.getD i []).drop o').take n)).length=n:=by cases ob.ow<;>simp only [uns_f,uns_t,List.length_map,hl]
        refine ⟨_,_,hk,.ag _ _ (by rw [hul];exact szl us) fun j hj => ?_,run b _ us e1 (fun _=>hb) hc⟩
        rw [hul] at hj;rw [get _ _ hj]
        rcases hun j hj with e|⟨e1,e⟩
        · rw [e]
          cases ho:((ob.es.getD i []).getD (o'+j) .junk).isOwn with
          | true =>
            have:((ob.es.getD i []).getD (o'+j) .junk).un=.junk:=by
              generalize (ob.es.getD i []).getD (o'+j) .junk=d at ho
              cases d<;>first|rfl|(simp [D.isOwn] at ho)
            rw [this];exact DR.junk
          | false =>
            have:((ob.es.getD i []).getD (o'+j) .junk).un=(ob.es.getD i []).getD (o'+j) .junk:=by
              generalize (ob.es.getD i []).getD (o'+j) .junk=d at ho
              cases d<;>first|rfl|(simp [D.isOwn] at ho)
            rw [this];exact (hr j hj).1 ho
        · rw [e];exact (hr j hj).1 e1
    · exact h.elim
  · exact h.elim
theorem pu_nck {x:Operand} {x':O} (ho:o.op=.nilCheck x) (hx:cO x=some x') (h:kNck (s.g x') k) (g:GR G s a w A β γ) : ∃ d v,k d∧DR w A β s.N d v∧Yields P a w o v:=by
  have ev:=g.evalO hx
  generalize hv:a.eval x=v at ev
  unfold kNck at h
  split at h
  · next e o' hd =>
    rw [hd] at ev
    refine ⟨_,_,h,ev,fun w' _ => ?_⟩
    cases ev with
    | cl d x h'=>cases h' with|ip=>simp [execOp,ho,hv]
  · next τ z i o' hd =>
    rw [hd] at ev
    refine ⟨_,_,h,ev,fun w' _ => ?_⟩
    cases ev with
    | cl d x h'=>cases h'
    | ptr=>simp [execOp,ho,hv]
  · next f ds hd =>
    rw [hd] at ev
    refine ⟨_,_,h,ev,fun w' _ => ?_⟩
    cases ev with
    | cl d x h'=>cases h' with|clo=>simp [execOp,ho,hv]
    | clo=>simp [execOp,ho,hv]
  · exact h.elim
theorem pu_bin {op : BinOp} {x y : Operand} {x' y' : O} {t u : TypeId} (ho : o.op = .binOp op t x y u) (hx : cO x = some x') (hy : cO y = some y')
    (h:kBin op (s.g x') (s.g y') k) (g:GR G s a w A β γ) : ∃ d v,k d∧DR w A β s.N d v∧Yields P a w o v:=by
  have ex:=g.evalO hx
  have ey:=g.evalO hy
  unfold kBin at h
  split at h
  · next p q hp hq =>
    rw [hp] at ex;rw [hq] at ey
    have e1:=dr_v ex
    have e2:=dr_v ey
    split at h
    · next c hc =>
      refine ⟨_,_,h,.cl _ _ (.v c),fun w' _ => ?_⟩
      unfold binV at hc
      split at hc
      all_goals (try (cases hc;done))
      all_goals (
        first
          | (obtain ⟨h1, h2⟩ := (Option.ite_none_right_eq_some.1 hc)
             first
               | (obtain ⟨rfl,h3⟩:=h1;cases h2;simp [execOp,ho,e1,e2,binOp,eqGuard_at_int,Op.intDiv,h3])
               | (subst h1;cases h2;simp [execOp,ho,e1,e2,binOp,eqGuard_at_int,Op.intArith,Op.intBits,Op.intCmp])
               | (cases h2;simp [execOp,ho,e1,e2,binOp,eqGuard_at_int,Op.shift,Int.not_lt.2 h1])))
    · exact h.elim
  · exact h.elim
theorem run_equal_bool {t:TypeId} (ht:P.underlying t=some .bool) (p q:Bool) (w:World):(Op.equal t (.bool p) (.bool q)).run P w=.ok (p == q) w:=by
  show (Op.equalIn (9999+1) t (.bool p) (.bool q)).run P w=_
  unfold Op.equalIn
  simp [und_run ht]
theorem isBool_spec {t:TypeId} (h:isBool P t=true):P.underlying t=some .bool:=by
  unfold isBool at h;split at h
  · assumption
  · cases h
theorem pu_eqb {neg:Bool} {x y:Operand} {x' y':O} {t u:TypeId} (ho:o.op=.binOp (if neg then .neq else .eql) t x y u) (ht:isBool P t=true) (hx:cO x=some x') (hy:cO y=some y')
    (h:kEqb neg (s.g x') (s.g y') k) (g:GR G s a w A β γ) : ∃ d v,k d∧DR w A β s.N d v∧Yields P a w o v:=by
  have ex:=g.evalO hx
  have ey:=g.evalO hy
  unfold kEqb at h
  split at h
  · next p q hp hq =>
    rw [hp] at ex;rw [hq] at ey
    have e1:=dr_v ex
    have e2:=dr_v ey
    have r:=fun w'=>run_equal_bool (P:=P) (isBool_spec ht) p q w'
    refine ⟨_,_,h,.cl _ _ (.v _),fun w' _ => ?_⟩
    cases neg<;>simp [execOp,ho,e1,e2,binOp,eqGuard_at_bool,r,bne]
  · exact h.elim
theorem run_eq_nil {t e:TypeId} {b:Option Addr} {n c:Nat} (h:P.underlying t=some (.slice e)) (w':World):(Op.equal t (.slice b n c) (.slice none 0 0)).run P w'=.ok b.isNone w':=by
  show (Op.equalIn (9999+1) t (.slice b n c) (.slice none 0 0)).run P w'=_
  unfold Op.equalIn
  cases b<;>simp [und_run h]
theorem pu_isnil {neg:Bool} {x y:Operand} {x':O} {t e u:TypeId} (ho:o.op=.binOp (if neg then .neq else .eql) t x y u) (ht:isSlice P t=some e) (hx:cO x=some x') (hy:cO y=some .nl)
    (h:kIsnil neg (s.g x') k) (g:GR G s a w A β γ) : ∃ d v,k d∧DR w A β s.N d v∧Yields P a w o v:=by
  have ex:=g.evalO hx
  have ey:a.eval y=.slice none 0 0:=by
    have:=g.evalO hy
    generalize a.eval y=v at this
    cases this with
    | cl d x h'=>cases h';rfl
  have hu:=isSlice_spec ht
  have run:∀ (b:Option Addr) (n c:Nat),a.eval x=.slice b n c→Yields P a w o (.bool (if neg then !b.isNone else b.isNone)):=fun b n c hv w' _=>by
    have r:=run_eq_nil (P:=P) (b:=b) (n:=n) (c:=c) hu w'
    cases neg<;>simp [execOp,ho,ey,hv,binOp,eqGuard_at_slice,r]
  have fin:∀ (b:Option Addr) (n c:Nat),a.eval x=.slice b n c→∀ {p:Prop},(b=none→p)→BrN p (.v (.bool (!neg))) (.v (.bool neg)) k → ∃ d v,k d∧DR w A β s.N d v∧Yields P a w o v:=by
    intro b n c hv p hp hk
    have:=run b n c hv
    cases b with
    | none=>exact ⟨_,_,hk.1 (hp rfl),.cl _ _ (.v _),by cases neg<;>simpa using this⟩
    | some b=>exact ⟨_,_,hk.2,.cl _ _ (.v _),by cases neg<;>simpa using this⟩
  unfold kIsnil at h
  generalize hv:a.eval x=v at ex
  split at h
  · next hd =>
    rw [hd] at ex
    cases ex with
    | cl d x h'=>cases h';exact ⟨_,_,h,.cl _ _ (.v _),by have:=run _ _ _ hv;cases neg<;>simpa using this⟩
  · next sz es hd =>
    rw [hd] at ex
    cases ex with
    | cl d x h' =>
      cases h' with
      | sl0 sz b c=>exact fin _ _ _ hv (fun _=>rfl) h
      | sl sz es b off n c us hA hn=>exact fin _ _ _ hv (fun e=>by cases e) h
  · next τ sz off n hd =>
    rw [hd] at ex
    cases ex with
    | cl d x h'=>cases h'
    | ref=>exact fin _ _ _ hv (fun e=>by cases e) h
    | refz=>exact fin _ _ _ hv (fun _=>rfl) h
  · exact h.elim
theorem pu_cap {x:Operand} {x':O} {t e:TypeId} (ho:o.op=.call ⟨.builtin .cap,#[x],#[t]⟩) (ht:isSlice P t=some e) (hx:cO x=some x') (h:kCap (s.g x') k) (g:GR G s a w A β γ) :
    ∃ d v,k d∧DR w A β s.N d v∧Yields P a w o v:=by
  have ev:=g.evalO hx
  have hu:=isSlice_spec ht
  unfold kCap at h
  generalize hv:a.eval x=v at ev
  split at h
  · next hd =>
    rw [hd] at ev
    cases ev with
    | cl d x h' =>
      cases h'
      exact ⟨_,_,h,.cl _ _ (.v _),fun w' _=>by simp [execOp,ho,resolve,invoke,builtin,Builtin.cap_,hv,und_run hu,goInt]⟩
  · exact h.elim
theorem pu_not {x:Operand} {x':O} {t:TypeId} (ho:o.op=.unOp .not t x) (hx:cO x=some x') (h:kNot (s.g x') k) (g:GR G s a w A β γ) : ∃ d v,k d∧DR w A β s.N d v∧Yields P a w o v:=by
  have ex:=g.evalO hx
  unfold kNot at h
  split at h
  · next p hp =>
    rw [hp] at ex
    exact ⟨_,_,h,.cl _ _ (.v _),fun w' _=>by simp [execOp,ho,dr_v ex,Op.unary]⟩
  · exact h.elim
theorem pu_neg {x:Operand} {x':O} {t:TypeId} (ho:o.op=.unOp .neg t x) (hx:cO x=some x') (h:kNeg (s.g x') k) (g:GR G s a w A β γ) : ∃ d v,k d∧DR w A β s.N d v∧Yields P a w o v:=by
  have ex:=g.evalO hx
  unfold kNeg at h
  split at h
  · next p q hp =>
    rw [hp] at ex
    exact ⟨_,_,h,.cl _ _ (.v _),fun w' _=>by simp [execOp,ho,dr_v ex,Op.unary,Op.intArith]⟩
  · exact h.elim
theorem pu_cvi {x:Operand} {x':O} {t u:TypeId} {q:IntKind} {dd:TypeDesc} (ho:o.op=.convert t u x) (hu:P.underlying u=some (.int q)) (ht:P.underlying t=some dd) (hx:cO x=some x') (h:kCvi q (s.g x') k) (g:GR G s a w A β γ) :
    ∃ d v,k d∧DR w A β s.N d v∧Yields P a w o v:=by
  have ex:=g.evalO hx
  unfold kCvi at h
  split at h
  · next q' p hp =>
    rw [hp] at ex
    exact ⟨_,_,h,.cl _ _ (.v _),fun w' _=>by simp [execOp,ho,dr_v ex,convert,und_run hu,und_run ht,Conv.intToInt]⟩
  · exact h.elim
theorem dr_ag {N:Nat} {ds:List D} {v:Value} (h:DR w A β N (.ag ds) v) : ∃ cs,v=.agg cs∧cs.size=ds.length∧∀ i,i<ds.length→DR w A β N (ds.getD i .junk) (cs.getD i undef):=by
  cases h with
  | cl d x h'=>cases h' with|ag ds cs hn hr=>exact ⟨cs,rfl,hn,fun i hi=>.cl _ _ (hr i hi)⟩
  | ag ds cs hn hr=>exact ⟨cs,rfl,hn,hr⟩
theorem dr_tu {N:Nat} {ds:List D} {v:Value} (h:DR w A β N (.tu ds) v) : ∃ cs,v=.tuple cs∧cs.size=ds.length∧∀ i,i<ds.length→DR w A β N (ds.getD i .junk) (cs.getD i undef):=by
  cases h with
  | cl d x h'=>cases h' with|tu ds cs hn hr=>exact ⟨cs,rfl,hn,fun i hi=>.cl _ _ (hr i hi)⟩
  | tu ds cs hn hr=>exact ⟨cs,rfl,hn,hr⟩
theorem pu_ext {x:Operand} {x':O} {i:Nat} (ho:o.op=.extract x i) (hx:cO x=some x') (h:kExt (s.g x') i k) (g:GR G s a w A β γ) : ∃ d v,k d∧DR w A β s.N d v∧Yields P a w o v:=by
  have ex:=g.evalO hx
  unfold kExt at h
  split at h
  · next ds hp =>
    obtain ⟨hi,hk⟩:=h
    rw [hp] at ex
    obtain ⟨cs,e,hn,hr⟩:=dr_tu ex
    have hi':i<cs.size:=by omega
    refine ⟨_,_,hk,hr i hi,fun w' _ => ?_⟩
    simp [execOp,ho,e,Instr.extract,hi']
  · exact h.elim
theorem run_part {t:TypeId} {n:Nat} {ag:Bool} (hag:aggOf P t=some ag) (hn:szOf P t=some n) (h1:ag=false→n=1) {N:Nat} {ds:List D} {cs:Array Value} (hsz:cs.size=ds.length)
    (hr:∀ i,i<ds.length→DR w A β N (ds.getD i .junk) (cs.getD i undef)) {off:Nat} (ho:off+n≤ds.length) :
    ∃ v,DR w A β N (if ag=true then .ag ((ds.drop off).take n) else ds.getD off .junk) v∧∀ w',(part t cs off).run P w'=.ok v w':=by
  cases ag with
  | false =>
    have hn1:=h1 rfl
    subst hn1
    have hlt:off<cs.size:=by omega
    refine ⟨cs.getD off undef,by simpa using hr off (by omega),fun w' => ?_⟩
    simp [part,agg_run hag,hlt]
  | true =>
    refine ⟨.agg (cs.extract off (off+n)),?_,fun w'=>by simp [part,agg_run hag,szOf_spec hn]⟩
    have hl:((ds.drop off).take n).length=n:=by rw [List.length_take,List.length_drop];omega
    refine .ag _ _ (by rw [hl];simp;omega) fun i hi => ?_
    rw [hl] at hi
    rw [getD_drop_take _ _ _ _ hi]
    have:=hr (off+i) (by omega)
    have e:(cs.extract off (off+n)).getD i undef=cs.getD (off+i) undef:=by
      have h2:off+i<cs.size:=by omega
      have h3:i<min (off+n) cs.size - off:=by omega
      simp only [Array.getD_eq_getD_getElem?,Array.getElem?_extract,h3,if_true]
    rw [e];exact this
theorem pu_getf {x:Operand} {x':O} {t:TypeId} {i n:Nat} {f:Field} {ag:Bool} (ho:o.op=.field t x i) (hf:field P t i=some f) (hz:szOf P f.type=some n) (hag:aggOf P f.type=some ag) (h1:ag=false→n=1) (hx:cO x=some x')
    (h:kGetf (s.g x') f.offset n ag k) (g:GR G s a w A β γ) : ∃ d v,k d∧DR w A β s.N d v∧Yields P a w o v:=by
  have ex:=g.evalO hx
  obtain ⟨fs,hu,hi⟩:=field_spec hf
  unfold kGetf at h
  split at h
  · next ds hp =>
    obtain ⟨hl,hk⟩:=h
    rw [hp] at ex
    obtain ⟨cs,e,hn,hr⟩:=dr_ag ex
    obtain ⟨v,hv,hrun⟩:=run_part hag hz h1 hn hr hl
    exact ⟨_,_,hk,hv,fun w' _=>by simp [execOp,ho,e,Instr.field,und_run hu,hi,asAgg,hrun]⟩
  · exact h.elim
theorem pu_idxv {x i:Operand} {x' i':O} {t e:TypeId} {n sz:Nat} {ag:Bool} (ho:o.op=.index t x i) (ht:P.underlying t=some (.array n e)) (hz:szOf P e=some sz) (hag:aggOf P e=some ag) (h1:ag=false→sz=1) (hx:cO x=some x') (hi:cO i=some i')
    (h:kIdxv (s.g x') (s.g i') sz n ag k) (g:GR G s a w A β γ) : ∃ d v,k d∧DR w A β s.N d v∧Yields P a w o v:=by
  have ex:=g.evalO hx
  have ei:=g.evalO hi
  unfold kIdxv at h
  split at h
  · next ds q j hp hq =>
    obtain ⟨⟨h2,h3,h4⟩,hk⟩:=h
    rw [hp] at ex;rw [hq] at ei
    obtain ⟨cs,e1,hn,hr⟩:=dr_ag ex
    have e2:=dr_v ei
    have hjl:j.toNat<n:=by omega
    have hl:j.toNat * sz+sz≤ds.length:=by
      have:=Nat.mul_le_mul_right sz hjl
      rw [Nat.succ_mul] at this;omega
    obtain ⟨v,hv,hrun⟩:=run_part hag hz h1 hn hr hl
    exact ⟨_,_,hk,hv,fun w' _=>by simp [execOp,ho,e1,e2,Instr.index,und_run ht,asIntOf,h2,h3,szOf_spec hz,hrun]⟩
  · exact h.elim
theorem pu_mkf {f : FuncId} {cap : Array Operand} {ds : List O} (ho : o.op = .makeFunc (.func f) #[] cap) (hc : cap.toList.mapM cO = some ds) (h : kD (.clo f (ds.map s.g)) k) (g : GR G s a w A β γ) : ∃ d v, k d ∧ DR w A β s.N d v ∧ Yields P a w o v := by
  refine ⟨_,_,h,.clo f _ (cap.map a.eval) ?_ ?_,fun w' _=>by simp [execOp,ho,Instr.makeFunc]⟩
  all_goals
    obtain ⟨l⟩:=cap
    simp only at hc
    have key:∀ (l:List Operand) (ds:List O),l.mapM cO=some ds→l.length=ds.length∧∀ i,i<ds.length→DR w A β s.N ((ds.map s.g).getD i .junk) ((l.map a.eval).getD i undef):=by
      intro l
      induction l with
      | nil=>intro ds h;simp at h;subst h;exact ⟨rfl,fun i hi=>by simp at hi⟩
      | cons x l ih =>
        intro ds h
        simp only [List.mapM_cons,Option.bind_eq_bind,Option.pure_def,Option.bind_eq_some_iff] at h
        obtain ⟨y,hy,ds',hds,h⟩:=h
        cases h
        obtain ⟨i1,i2⟩:=ih ds' hds
        refine ⟨by simp [i1],fun i hi => ?_⟩
        cases i with
        | zero=>simpa using g.evalO hy
        | succ i=>simpa using i2 i (by simpa using hi)
    obtain ⟨k1,k2⟩:=key l ds hc
  · simp [k1]
  · intro i hi
    simp only [List.length_map] at hi
    have:=k2 i hi
    have hl:i<l.length:=by omega
    simpa [List.getD,hl,hi] using this
theorem pu_min {m:Bool} {x y:Operand} {x' y':O} {ts:Array TypeId} (ho:o.op=.call ⟨.builtin (if m then .max else .min),#[x,y],ts⟩) (hx:cO x=some x') (hy:cO y=some y')
    (h:kMin m (s.g x') (s.g y') k) (g:GR G s a w A β γ) : ∃ d v,k d∧DR w A β s.N d v∧Yields P a w o v:=by
  have ex:=g.evalO hx
  have ey:=g.evalO hy
  unfold kMin at h
  split at h
  · next p q hp hq =>
    rw [hp] at ex;rw [hq] at ey
    refine ⟨_,_,h,.cl _ _ (.v _),fun w' _ => ?_⟩
    cases m<;>simp [execOp,ho,dr_v ex,dr_v ey,resolve,invoke,builtin,Builtin.min_,Builtin.max_,Builtin.min2,Builtin.max2]
  · exact h.elim
def Bnd (a:Act) (x:Option Operand) (dflt n:Nat):Prop:=(x=none∧n=dflt) ∨ ∃ y q,x=some y∧a.eval y=.int q n
theorem run_slice {x:Operand} {lo hi:Option Operand} {t e:TypeId} {sz:Nat} (ho:o.op=.slice t x lo hi none) (ht:isSlice P t=some e) (hsz:szOf P e=some sz) {b:Option Addr} {n c l h:Nat}
    (hx:a.eval x=.slice b n c) (hl:Bnd a lo 0 l) (hh:Bnd a hi n h) (h1:l≤h) (h2:h≤c) :
    Yields P a w o (.slice (if c=l then b else b.map (·.add (l * sz))) (h - l) (c - l)):=by
  intro w' _
  have hu:=isSlice_spec ht
  rcases hl with ⟨rfl,rfl⟩|⟨yl,ql,rfl,el⟩<;>rcases hh with ⟨rfl,rfl⟩|⟨yh,qh,rfl,eh⟩
  · simp [execOp,ho,Instr.sliceAt,Instr.slice,Instr.sliceBounds,hx,und_run hu,szOf_spec hsz]
  · simp [execOp,ho,Instr.sliceAt,Instr.slice,Instr.sliceBounds,Instr.sliceBound,asIntOf,hx,und_run hu,szOf_spec hsz,eh,h2]
  · simp [execOp,ho,Instr.sliceAt,Instr.slice,Instr.sliceBounds,Instr.sliceBound,asIntOf,hx,und_run hu,szOf_spec hsz,el,h1]
  · simp [execOp,ho,Instr.sliceAt,Instr.slice,Instr.sliceBounds,Instr.sliceBound,asIntOf,hx,und_run hu,szOf_spec hsz,el,eh,h1,h2]
theorem pu_sub {x : Operand} {x' : O} {lo hi : Option Operand} {lo' hi' : Option O} {t e : TypeId} {sz : Nat} (ho : o.op = .slice t x lo hi none) (ht : isSlice P t = some e) (hsz : szOf P e = some sz)
    (hx:cO x=some x') (hlo:(lo=none∧lo'=none) ∨ ∃ y y',lo=some y∧lo'=some y'∧cO y=some y') (hhi:(hi=none∧hi'=none) ∨ ∃ y y',hi=some y∧hi'=some y'∧cO y=some y')
    (h:kSub (s.g x') (s.lo lo') (s.hi (s.g x') hi') sz k) (g:GR G s a w A β γ) : ∃ d v,k d∧DR w A β s.N d v∧Yields P a w o v:=by
  have ex:=g.evalO hx
  have bl:∀ q (l:Int),s.lo lo'=.v (.int q l)→0≤l→Bnd a lo 0 l.toNat:=by
    intro q l e h0
    rcases hlo with ⟨rfl,rfl⟩|⟨y,y',rfl,rfl,hy⟩
    · simp only [S.lo,D.v.injEq,Value.int.injEq] at e
      exact .inl ⟨rfl,by rw [← e.2];rfl⟩
    · have:=g.evalO hy
      simp only [S.lo] at e
      rw [e] at this
      exact .inr ⟨y,q,rfl,by rw [dr_v this,Int.toNat_of_nonneg h0]⟩
  have bh:∀ q (l:Int) (n:Nat),s.hi (s.g x') hi'=.v (.int q l)→lenDD (s.g x')=.v (.int .i64 n)→0≤l→Bnd a hi n l.toNat:=by
    intro q l n e en h0
    rcases hhi with ⟨rfl,rfl⟩|⟨y,y',rfl,rfl,hy⟩
    · simp only [S.hi] at e
      rw [en] at e
      simp only [D.v.injEq,Value.int.injEq] at e
      exact .inl ⟨rfl,by rw [← e.2];rfl⟩
    · have:=g.evalO hy
      simp only [S.hi] at e
      rw [e] at this
      exact .inr ⟨y,q,rfl,by rw [dr_v this,Int.toNat_of_nonneg h0]⟩
  unfold kSub at h
  generalize hv:a.eval x=v at ex
  split at h
  · next z es q l q' hh hd hl hhd =>
    obtain ⟨⟨rfl,h1,h2,h3⟩,hk⟩:=h
    rw [hd] at ex
    have b1:=bl q l hl h1
    have b2:=bh q' hh es.length hhd (by rw [hd];rfl) (by omega)
    cases ex with
    | cl d x h' =>
      cases h' with
      | sl0 sz b c =>
        have e1:l.toNat=0:=by simp at h3;omega
        have e2:hh.toNat=0:=by simp at h3;omega
        rw [e1] at b1;rw [e2] at b2
        refine ⟨_,_,hk,?_,run_slice ho ht hsz hv b1 b2 (Nat.le_refl _) (Nat.zero_le _)⟩
        simp only [e1,e2,List.take_nil,List.drop_nil]
        exact .cl _ _ (.sl0 _ _ _)
      | sl sz es b off n c us hA hn hcap hs hc hr =>
        refine ⟨_,_,hk,?_,run_slice ho ht hsz hv b1 (by rw [← hn];exact b2) (by omega) (by omega)⟩
        have hlen:((es.take hh.toNat).drop l.toNat).length=hh.toNat - l.toNat:=by rw [List.length_drop,List.length_take];omega
        by_cases hcl:c=l.toNat
        · have:(es.take hh.toNat).drop l.toNat=[]:=List.eq_nil_of_length_eq_zero (by omega)
          rw [this,show hh.toNat - l.toNat=0 by omega]
          exact .cl _ _ (.sl0 _ _ _)
        · simp only [hcl,if_false,Option.map_some,addr_add]
          have hget:∀ i,i<hh.toNat - l.toNat→((es.take hh.toNat).drop l.toNat).getD i []=es.getD (l.toNat+i) []:=by
            intro i hi
            simp only [List.getD_eq_getElem?_getD,List.getElem?_drop,List.getElem?_take,show l.toNat+i<hh.toNat by omega,if_true]
          refine .cl _ _ (.sl _ _ b (off+l.toNat * z) _ _ (fun i j=>us (l.toNat+i) j) hA hlen (by omega) (fun i hi => ?_) (fun i j hi hj => ?_) fun i j hi hj => ?_)
          · rw [hlen] at hi;rw [hget i hi];exact hs _ (by omega)
          · rw [hlen] at hi
            have:=hc (l.toNat+i) j (by omega) hj
            refine ⟨?_,this.2⟩
            have:=this.1
            rw [Nat.add_mul] at this
            rw [← this];congr 2;omega
          · rw [hlen] at hi;rw [hget i hi];exact hr _ _ (by omega) hj
  · next τ z off n q l q' hh hd hl hhd =>
    obtain ⟨⟨rfl,h1,h2,h3⟩,hk⟩:=h
    rw [hd] at ex
    have b1:=bl q l hl h1
    have b2:=bh q' hh n hhd (by rw [hd];rfl) (by omega)
    cases ex with
    | cl d x h'=>cases h'
    | ref τ sz off n c b arr T hN hb hc hhp hr =>
      refine ⟨_,_,hk,?_,run_slice ho ht hsz hv b1 b2 (by omega) (by omega)⟩
      by_cases hcl:c=l.toNat
      · have e0:hh.toNat - l.toNat=0:=by omega
        rw [e0,show c - l.toNat=0 by omega]
        exact .refz _ _ _ _ hN
      · simp only [hcl,if_false,Option.map_some,addr_add]
        rw [← Nat.add_mul]
        exact .ref τ z (off+l.toNat) _ _ b arr T hN hb (by omega) hhp (by rw [show off+l.toNat+(c - l.toNat)=off+c by omega];exact hr)
    | refz τ sz off b hN =>
      have e1:l.toNat=0:=by simp at h3;omega
      have e2:hh.toNat=0:=by simp at h3;omega
      rw [e1] at b1;rw [e2] at b2
      refine ⟨_,_,hk,?_,run_slice ho ht hsz hv b1 b2 (Nat.le_refl _) (Nat.le_refl _)⟩
      simp only [e1,e2]
      exact .refz _ _ _ _ hN
  · next q l q' hh hd hl hhd =>
    obtain ⟨⟨rfl,rfl⟩,hk⟩:=h
    rw [hd] at ex
    have b1:=bl q 0 hl (Int.le_refl _)
    have b2:=bh q' 0 0 hhd (by rw [hd];rfl) (Int.le_refl _)
    cases ex with
    | cl d x h' =>
      cases h'
      refine ⟨_,_,hk,.cl _ _ .nl,?_⟩
      have:=run_slice (w:=w) ho ht hsz hv b1 b2 (Nat.le_refl _) (Nat.le_refl _)
      simpa using this
  · exact h.elim
end
end Go.Dm
