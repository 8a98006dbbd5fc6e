/-
  A logic for Go functions over plain data,part A: data descriptions,states,a small code language,verification conditions.
-/
import Derived.WalkKit
import Derived.Deep.Quiet
import Derived.StillTail
import Derived.RangeFuncNested
import Derived.RangeFuncLeaves
import Derived.OrdersIn
import Derived.TacticsIn
set_option linter.unusedSimpArgs false
set_option linter.unusedVariables false
namespace Go.Dm
open Go.RowKit
inductive Kd where
  | arr
  | fix
  | map (ks:List IntKind) (ka va:Bool)
  | itr
def Kd.isArr:Kd→Bool
  | .arr=>true
  | _=>false
def Kd.isMap:Kd→Bool
  | .map _ _ _=>true
  | .itr=>true
  | _=>false
def Kd.isMp:Kd→Bool
  | .map _ _ _=>true
  | _=>false
theorem isMp_map {ks:List IntKind} {ka va:Bool}:Kd.isMp (.map ks ka va)=true:=(rfl)
inductive D where
  | v (x:Value)
  | nl
  | sl (sz:Nat) (es:List (List D))
  | ag (ds:List D)
  | tu (ds:List D)
  | ip (e:List D) (o:Nat)
  | ref (τ sz off n:Nat)
  | ptr (τ sz i o:Nat)
  | mp (τ:Nat)
  | clo (f:FuncId) (ds:List D)
  | own (ow:Bool) (sz:Nat) (es:List (List D))
  | omp (kd:Kd) (sz:Nat) (es:List (List D))
  | junk
instance : Inhabited D:=⟨.junk⟩
structure Ob where
  sz:Nat
  es:List (List D)
  flat:Bool
  ow:Bool
  kd:Kd
structure S where
  ρ:Nat→D
  M:Nat→Option Ob
  N:Nat
inductive O where
  | t (n:Nat)
  | k (x:Value)
  | nl
  | f (f:FuncId)
instance : Inhabited O:=⟨.nl⟩
def S.g (s:S):O→D
  | .t n=>s.ρ n
  | .k x=>.v x
  | .nl=>.nl
  | .f f=>.clo f []
def S.put (s:S) (d:Option Nat) (x:D):S :=
  match d with
  | some d=>{ s with ρ:=fun t=>if t=d then x else s.ρ t }
  | none=>s
def S.setM (s:S) (τ:Nat) (ob:Ob):S:={ s with M:=fun t=>if t=τ then some ob else s.M t }
def S.setN (s:S) (n:Nat):S:={ s with N:=n }
def S.newt (s:S) (d:Option Nat) (ob:Ob) (x:Nat→D):S:=((s.setM s.N ob).setN (s.N+1)).put d (x s.N)
def D.lf (f:D→D):D→D
  | .ag ds=>.ag (ds.map fun d=>d.lf f)
  | .tu ds=>.tu (ds.map fun d=>d.lf f)
  | .clo g ds=>.clo g (ds.map fun d=>d.lf f)
  | .v x=>f (.v x)
  | .nl=>f .nl
  | .sl sz es=>f (.sl sz es)
  | .ip e o=>f (.ip e o)
  | .ref τ sz off n=>f (.ref τ sz off n)
  | .ptr τ sz i o=>f (.ptr τ sz i o)
  | .mp τ=>f (.mp τ)
  | .own ow sz es=>f (.own ow sz es)
  | .omp kd sz es=>f (.omp kd sz es)
  | .junk=>f .junk
def D.alls (f:D→Bool):D→Bool
  | .ag ds=>(ds.map fun d=>d.alls f).all id
  | .tu ds=>(ds.map fun d=>d.alls f).all id
  | .clo _ ds=>(ds.map fun d=>d.alls f).all id
  | .v x=>f (.v x)
  | .nl=>f .nl
  | .sl sz es=>f (.sl sz es)
  | .ip e o=>f (.ip e o)
  | .ref τ sz off n=>f (.ref τ sz off n)
  | .ptr τ sz i o=>f (.ptr τ sz i o)
  | .mp τ=>f (.mp τ)
  | .own ow sz es=>f (.own ow sz es)
  | .omp kd sz es=>f (.omp kd sz es)
  | .junk=>f .junk
theorem lf_ag {f:D→D} {ds:List D}:(D.ag ds).lf f=.ag (ds.map (D.lf f)):=by rw [D.lf]
theorem lf_tu {f:D→D} {ds:List D}:(D.tu ds).lf f=.tu (ds.map (D.lf f)):=by rw [D.lf]
theorem lf_clo {f:D→D} {g:FuncId} {ds:List D}:(D.clo g ds).lf f=.clo g (ds.map (D.lf f)):=by rw [D.lf]
theorem alls_ag {f:D→Bool} {ds:List D}:(D.ag ds).alls f=ds.all (D.alls f):=by rw [D.alls,List.all_map];rfl
theorem alls_tu {f:D→Bool} {ds:List D}:(D.tu ds).alls f=ds.all (D.alls f):=by rw [D.alls,List.all_map];rfl
theorem alls_clo {f:D→Bool} {g:FuncId} {ds:List D}:(D.clo g ds).alls f=ds.all (D.alls f):=by rw [D.alls,List.all_map];rfl
def D.leaf:D→Bool
  | .ag _|.tu _|.clo _ _=>false
  | _=>true
theorem lf_leaf {f:D→D} {d:D} (h:d.leaf=true):d.lf f=f d:=by
  cases d<;>first|(rw [D.lf];done)|(simp [D.leaf] at h)
theorem alls_leaf {f:D→Bool} {d:D} (h:d.leaf=true):d.alls f=f d:=by
  cases d<;>first|(rw [D.alls];done)|(simp [D.leaf] at h)
def clL:D→Bool
  | .v _|.nl|.sl _ _|.ip _ _=>true
  | _=>false
def clJ:D→Bool
  | .v _|.nl|.sl _ _|.ip _ _|.junk=>true
  | _=>false
def D.cl (d:D):Bool:=d.alls clL
def D.clo':D→Bool
  | .own _ _ _=>true
  | .omp _ _ _=>true
  | d=>d.cl
def D.isOwn:D→Bool
  | .own _ _ _=>true
  | .omp _ _ _=>true
  | _=>false
def D.un:D→D
  | .own _ _ _=>.junk
  | .omp _ _ _=>.junk
  | d=>d
def D.owned (d:D):Bool := !d.alls clJ
def Value.one:Value→Bool
  | .agg _|.tuple _=>false
  | _=>true
def D.one:D→Bool
  | .v x=>Value.one x
  | .nl|.sl _ _|.ip _ _|.ref _ _ _ _|.ptr _ _ _ _|.mp _|.clo _ _=>true
  | _=>false
def killL (τ:Nat):D→D
  | .ref σ sz off n=>if σ=τ then .junk else .ref σ sz off n
  | .ptr σ sz i o=>if σ=τ then .junk else .ptr σ sz i o
  | .mp σ=>if σ=τ then .junk else .mp σ
  | d=>d
def D.kill (τ:Nat) (d:D):D:=d.lf (killL τ)
def Ob.mapc (f:D→D) (ob:Ob):Ob:=if ob.flat then ob else { ob with es:=ob.es.map fun e=>e.map f }
def S.kill (s:S) (τ:Nat):S:={ s with ρ:=fun t=>(s.ρ t).kill τ,M:=fun t=>(s.M t).map (Ob.mapc (D.kill τ)) }
def trimL (n:Nat):D→D
  | .ref σ sz off m=>if σ<n then .ref σ sz off m else .junk
  | .ptr σ sz i o=>if σ<n then .ptr σ sz i o else .junk
  | .mp σ=>if σ<n then .mp σ else .junk
  | d=>d
def D.trim (n:Nat) (d:D):D:=d.lf (trimL n)
def S.trim (s:S) (n:Nat):S:={ ρ:=fun t=>(s.ρ t).trim n,M:=fun τ=>if τ<n then (s.M τ).map (Ob.mapc (D.trim n)) else none,N:=n }
def D.vw:D→D
  | .own ow sz es=>.sl sz (if ow then es.map fun e=>e.map fun d=>d.vw else es)
  | .v x=>.v x
  | .nl=>.nl
  | .sl sz es=>.sl sz es
  | .ag ds=>.ag ds
  | .tu ds=>.tu ds
  | .ip e o=>.ip e o
  | .ref τ sz off n=>.ref τ sz off n
  | .ptr τ sz i o=>.ptr τ sz i o
  | .mp τ=>.mp τ
  | .clo f ds=>.clo f ds
  | .omp _ _ _=>.junk
  | .junk=>.junk
decreasing_by
  have h1:=List.sizeOf_lt_of_mem ‹e ∈ es›
  have h2:=List.sizeOf_lt_of_mem ‹d ∈ e›
  simp
  omega
theorem vw_own {ow:Bool} {sz:Nat} {es:List (List D)}:(D.own ow sz es).vw=.sl sz (if ow then es.map fun e=>e.map D.vw else es):=by rw [D.vw]
theorem vw_omp {kd:Kd} {sz:Nat} {es:List (List D)}:(D.omp kd sz es).vw=.junk:=by rw [D.vw]
theorem vw_other {d:D} (h:d.isOwn=false):d.vw=d:=by
  cases d<;>first|(rw [D.vw];done)|(simp [D.isOwn] at h)
def Ob.vrows (ob:Ob):List (List D):=if ob.ow then ob.es.map fun e=>e.map D.vw else ob.es
inductive CR (w:World) (A:Nat→Prop):D→Value→Prop
  | v (x:Value):CR w A (.v x) x
  | nl:CR w A .nl (.slice none 0 0)
  | sl0 (sz:Nat) (b:Option Addr) (c:Nat):CR w A (.sl sz []) (.slice b 0 c)
  | sl (sz:Nat) (es:List (List D)) (b off n c:Nat) (us:Nat→Nat→Value) (hA:A b) (hn:es.length=n) (hcap:n≤c)
      (hsz:∀ i,i<es.length→(es.getD i []).length=sz)
      (hc:∀ i j,i<es.length→j<sz→w.cell? ⟨b,off+(i * sz+j),none⟩=some (us i j)∧(us i j).oneCell'=true)
      (hr:∀ i j,i<es.length→j<sz→CR w A ((es.getD i []).getD j .junk) (us i j)):CR w A (.sl sz es) (.slice (some ⟨b,off,none⟩) n c)
  | ag (ds:List D) (cs:Array Value) (hn:cs.size=ds.length) (hr:∀ i,i<ds.length→CR w A (ds.getD i .junk) (cs.getD i undef)):CR w A (.ag ds) (.agg cs)
  | tu (ds:List D) (cs:Array Value) (hn:cs.size=ds.length) (hr:∀ i,i<ds.length→CR w A (ds.getD i .junk) (cs.getD i undef)):CR w A (.tu ds) (.tuple cs)
  | ip (e:List D) (o b off:Nat) (us:Nat→Value) (hA:A b)
      (hc:∀ j,j<e.length→w.cell? ⟨b,off+j,none⟩=some (us j))
      (hr:∀ j,j<e.length→CR w A (e.getD j .junk) (us j)):CR w A (.ip e o) (.pointer (some ⟨b,off+o,none⟩))
  | clo (f:FuncId) (ds:List D) (cs:Array Value) (hn:cs.size=ds.length) (hr:∀ i,i<ds.length→CR w A (ds.getD i .junk) (cs.getD i undef)):CR w A (.clo f ds) (.func (.func f) #[] cs)
  | junk (x:Value):CR w A .junk x
inductive DR (w:World) (A:Nat→Prop) (β:Nat→Option Nat) (N:Nat):D→Value→Prop
  | cl (d:D) (x:Value) (h:CR w A d x):DR w A β N d x
  | ref (τ sz off n c b:Nat) (arr:Array Value) (T:TypeId) (hN:τ<N) (hb:β τ=some b) (hc:n≤c)
      (hh:w.heap[b]?=some (.cells arr T (0,0))) (hr:(off+c) * sz≤arr.size):DR w A β N (.ref τ sz off n) (.slice (some ⟨b,off * sz,none⟩) n c)
  | refz (τ sz off:Nat) (b:Option Addr) (hN:τ<N):DR w A β N (.ref τ sz off 0) (.slice b 0 0)
  | ptr (τ sz i o b:Nat) (hN:τ<N) (hb:β τ=some b):DR w A β N (.ptr τ sz i o) (.pointer (some ⟨b,i * sz+o,none⟩))
  | mp (τ b:Nat) (hN:τ<N) (hb:β τ=some b):DR w A β N (.mp τ) (.map (some b))
  | ag (ds:List D) (cs:Array Value) (hn:cs.size=ds.length) (hr:∀ i,i<ds.length→DR w A β N (ds.getD i .junk) (cs.getD i undef)):DR w A β N (.ag ds) (.agg cs)
  | tu (ds:List D) (cs:Array Value) (hn:cs.size=ds.length) (hr:∀ i,i<ds.length→DR w A β N (ds.getD i .junk) (cs.getD i undef)):DR w A β N (.tu ds) (.tuple cs)
  | clo (f:FuncId) (ds:List D) (cs:Array Value) (hn:cs.size=ds.length) (hr:∀ i,i<ds.length→DR w A β N (ds.getD i .junk) (cs.getD i undef)):DR w A β N (.clo f ds) (.func (.func f) #[] cs)
def mkV (ag:Bool) (n:Nat) (us:Nat→Value):Value:=if ag then .agg ((List.range n).map us).toArray else us 0
def Holds (kd:Kd) (sz n:Nat) (o:Obj) (us:Nat→Nat→Value):Prop :=
  match kd with
  | .map ks ka va => ∃ ents,o=.map ents ents.size∧ents.size=n∧ks.length≤sz∧(ka=false→ks.length=1)∧(va=false→sz=ks.length+1) ∧
      ∀ i e,ents[i]?=some e→e.born=i∧e.key=mkV ka ks.length (us i)∧e.val=mkV va (sz - ks.length) (fun j=>us i (ks.length+j))∧∀ j,j<ks.length → ∃ m,us i j=.int (ks.getD j .i64) m∧(Lit.int (ks.getD j .i64) m).wf=true
  | .itr=>sz=1 ∧ ∃ bm m seen,o=.mapIter (some bm) m seen m∧n=seen.size+2∧us 0 0=.map (some bm)∧us 1 0=.int .i64 (m:Int)∧∀ (k:Nat) (h:k<seen.size),us (k+2) 0=.int .i64 (seen[k]:Int)
  | _ => ∃ arr T,o=.cells arr T (0,0)∧n * sz≤arr.size∧∀ i j,i<n→j<sz→arr.getD (i * sz+j) undef=us i j
inductive OC (w:World) (A:Nat→Prop) (γ:Nat→Option (Nat × List Nat)) (τ:Nat):List Nat→D→Value→Prop
  | cr (π:List Nat) (d:D) (x:Value) (h:CR w A d x):OC w A γ τ π d x
  | own0 (π:List Nat) (ow:Bool) (sz:Nat) (b:Option Addr):OC w A γ τ π (.own ow sz []) (.slice b 0 0)
  | own (π:List Nat) (ow:Bool) (sz:Nat) (es:List (List D)) (b n c:Nat) (arr:Array Value) (T:TypeId) (hb:γ b=some (τ,π)) (hh:w.heap[b]?=some (.cells arr T (0,0)))
      (hn:es.length=n) (hc:n≤c) (hs:c * sz≤arr.size) (hl:∀ i,i<es.length→(es.getD i []).length=sz)
      (h1:∀ i j,i<es.length→j<sz→(arr.getD (i * sz+j) undef).oneCell'=true)
      (ho:ow=false→∀ i j,i<es.length→j<sz→CR w A ((es.getD i []).getD j .junk) (arr.getD (i * sz+j) undef))
      (hr:∀ i j,i<es.length→j<sz→OC w A γ τ ((i * sz+j)::π) ((es.getD i []).getD j .junk) (arr.getD (i * sz+j) undef)) :
      OC w A γ τ π (.own ow sz es) (.slice (some ⟨b,0,none⟩) n c)
  | omp (π:List Nat) (kd:Kd) (sz:Nat) (es:List (List D)) (b:Nat) (o:Obj) (us:Nat→Nat→Value) (hb:γ b=some (τ,π)) (hh:w.heap[b]?=some o) (hm:kd.isMap=true) (hH:Holds kd sz es.length o us)
      (hl:∀ i,i<es.length→(es.getD i []).length=sz) (h1:∀ i j,i<es.length→j<sz→(us i j).oneCell'=true)
      (hr:∀ i j,i<es.length→j<sz→CR w A ((es.getD i []).getD j .junk) (us i j)):OC w A γ τ π (.omp kd sz es) (.map (some b))
def D.Le (d d':D):Prop:=∀ w A x,CR w A d x→CR w A d' x
def FnOk (P : Program) (f : FuncId) : Prop := ∃ fn, P.funcs[f]? = some fn ∧ fn.body.isSome = true ∧ (fn.name == "runtime.NumGoroutine") = false
def Spec (P : Program) (f : FuncId) (ds : List D) (R : D → Prop) : Prop :=
  FnOk P f∧∀ (w:World) (A:Nat→Prop) (vs:Array Value),(∀ b,A b→b<w.heap.size)→vs.size=ds.length →
    (∀ i,i<ds.length→CR w A (ds.getD i .junk) (vs.getD i undef)) →
    Calls P f vs w fun e w' => ∃ x d,e=.returned x∧R d∧Below w.heap.size w w'∧CR w' (fun b=>A b∨(w.heap.size≤b∧b<w'.heap.size)) d x
theorem Spec.mono {P:Program} {f:FuncId} {ds:List D} {R R':D→Prop} (h:Spec P f ds R) (hr:∀ d,R d→R' d):Spec P f ds R' :=
  ⟨h.1,fun w A vs h1 h2 h3=>(h.2 w A vs h1 h2 h3).mono fun _ _ ⟨x,d,he,hR,hb,hc⟩=>⟨x,d,he,hr d hR,hb,hc⟩⟩
def Shp (w w':World):Prop:=∀ (b:Nat) (arr:Array Value) (T:TypeId),w.heap[b]?=some (.cells arr T (0,0)) → ∃ arr',w'.heap[b]?=some (.cells arr' T (0,0))∧arr'.size=arr.size
structure Kpt (Z:Nat→Prop) (w w':World):Prop where
  os:w'.os=w.os
  tape:w'.tape=w.tape
  output:w'.output=w.output
  size:w.heap.size≤w'.heap.size
  blk:∀ b,b<w.heap.size→Z b→w'.heap[b]?=w.heap[b]?
  shp:Shp w w'
def IterOk (P : Program) (f : FuncId) (ds : List D) (vs : List (List D)) : Prop :=
  (∀ args w,(callFunc f args).run P w=.ok (.enter f args) w) ∧
  ∀ (w:World) (A:Nat→Prop) (cs:Array Value),(∀ b,A b→b<w.heap.size)→cs.size=ds.length→(∀ i,i<ds.length→CR w A (ds.getD i .junk) (cs.getD i undef)) →
  ∀ (l : Nat) (I : Nat → (Nat → Prop) → World → Prop) (Ix : (Nat → Prop) → World → Prop) (U : Nat → Prop),
    (∀ k O W W',I k O W→Kpt (fun b=>b<w.heap.size∨O b) W W'→I k O W') →
    (∀ O W W',Ix O W→Kpt (fun b=>b<w.heap.size∨O b) W W'→Ix O W') →
    (∀ k O W,I k O W→∀ b,O b→b<W.heap.size) →
    (∀ (k : Nat) (O : Nat → Prop) (W : World) (Y : Nat → Prop) (args : Array Value), k < vs.length → I k O W → (∀ b, Y b → b < W.heap.size) → (∀ b, Y b → A b ∨ (w.heap.size ≤ b ∧ ¬ O b)) → args.size = (vs.getD k []).length →
      (∀ i,i<args.size→CR W (fun b=>A b∨Y b) ((vs.getD k []).getD i .junk) (args.getD i undef)) →
      YieldAt Fence.wide 0 P l args W fun e W'=>Kpt (fun b=>¬ O b∨A b) W W' ∧
        ((e=.returned (.bool true) ∧ ∃ O',I (k+1) O' W'∧∀ b,O' b→O b∨Y b∨W.heap.size≤b) ∨
         (e=.returned (.bool false) ∧ ∃ O',Ix O' W'∧∀ b,O' b→O b∨Y b∨W.heap.size≤b))) →
    I 0 U w→(∀ b,A b→U b)→(∀ b,U b→b<w.heap.size) →
    CallsIn Fence.wide 0 P f (#[.func (.yield l) #[] #[]]++cs) w fun e W'=>(∃ v,e=.returned v)∧((∃ O,I vs.length O W') ∨ ∃ O,Ix O W')
def IterD (P:Program) (d:D) (vs:List (List D)):Prop :=
  match d with
  | .clo f ds=>ds.all D.cl=true∧IterOk P f ds vs
  | _=>False
inductive MI where
  | mov (x:O)
  | pick (c a b:O)
  | len (x:O)
  | idx (x i:O) (sz:Nat)
  | idxa (x i:O) (sz n:Nat)
  | idxv (x i:O) (sz n:Nat) (agg:Bool)
  | fld (x:O) (off:Nat)
  | ld1 (x:O)
  | ldn (x:O) (n:Nat)
  | bin (op:BinOp) (x y:O)
  | eqb (neg:Bool) (x y:O)
  | isnil (neg:Bool) (x:O)
  | appz (x n:O) (sz:Nat) (zero:List D) (bytes:Nat)
  | cap (x:O)
  | not (x:O)
  | neg (x:O)
  | cvi (k:IntKind) (x:O)
  | ext (x:O) (i:Nat)
  | getf (x:O) (off n:Nat) (agg:Bool)
  | sub (x:O) (lo hi:Option O) (sz:Nat)
  | mkf (f:FuncId) (ds:List O)
  | min (x y:O)
  | max (x y:O)
  | bld (zero:List D) (parts:List (Nat × Nat × O))
  | nil (sz:Nat)
  | new (zero:List D)
  | box (x:O) (n:Nat)
  | mk (len:O) (sz:Nat) (zero:List D) (bytes:Nat)
  | bsl (sz:Nat) (es:List O)
  | st1 (x y:O)
  | stn (x y:O) (n:Nat)
  | app (x y:O) (sz bytes:Nat)
  | call (f:FuncId) (args:List O)
  | callv (x:O) (args:List O)
  | callp (f:FuncId) (args:List O)
  | nck (x:O)
  | mmk (ks:List IntKind) (ka va:Bool) (vz:Nat)
  | mlen (x:O)
  | mlk (x y:O) (ks:List IntKind) (ka va:Bool) (vz:Nat) (ok:Bool) (zero:List D)
  | mup (x y z:O) (ks:List IntKind) (ka va:Bool) (vz:Nat)
  | men (x y:O) (ks:List IntKind) (ka va:Bool) (vz:Nat) (zero:List D)
  | mes (x y z:O) (ks:List IntKind) (ka va:Bool) (vz:Nat)
  | eqs (neg:Bool) (x y:O) (ks:List IntKind)
  | bla (zero:List D) (sz:Nat) (parts:List (Nat × O))
  | sla (x:O) (n:Nat)
  | cpy (x y:O)
  | rng (x:O)
  | nxt (x:O)
  | ent (x:O)
  | bad
structure Op1 where
  g:Option (Nat × Bool)
  d:Option Nat
  i:MI
inductive DT where
  | done
  | op (o:Op1) (t:DT)
  | alt (t u:DT)
inductive MC where
  | skip
  | reg (q:Nat) (ops:List Op1)
  | dreg (asg:List Nat) (t u:DT)
  | seq (a b:MC)
  | cond (c:O) (x y:MC)
  | blk (id:Nat) (c:MC)
  | loop (asg:List Nat) (c:MC)
  | rf (L:List Nat) (g:O) (ps:List Nat) (a c:MC)
  | exit (id:Nat)
  | ret
  | bad
inductive Ex where
  | nrm
  | exit (id:Nat)
  | ret
def Br {α β:Type} (b:Bool) (f:α→Prop) (x:α) (g:β→Prop) (y:β):Prop:=(b=true→f x)∧(b=false→g y)
section
variable {α β:Type} {b:Bool} {f:α→Prop} {x:α} {g:β→Prop} {y:β}
theorem Br_true:Br true f x g y=f x:=by simp [Br]
theorem Br_false:Br false f x g y=g y:=by simp [Br]
theorem Br_not:Br (!b) f x g y=Br b g y f x:=by cases b<;>simp [Br]
theorem Br.mk (h:b=true→f x) (k:b=false→g y):Br b f x g y:=⟨h,k⟩
theorem Br.dec {c:Prop} [Decidable c] (h:c→f x) (k:¬ c→g y):Br (decide c) f x g y:=⟨fun e=>h (of_decide_eq_true e),fun e=>k (of_decide_eq_false e)⟩
theorem Br.eqi {a b:Int} (h:a=b→f x) (k:¬ a=b→g y):Br (a == b) f x g y:=⟨fun e=>h (by simpa using e),fun e=>k (by simpa using e)⟩
theorem Br_bne:∀ {a b:Int},Br (a != b) f x g y=Br (a == b) g y f x:=by intro a b;by_cases h:a=b<;>simp [Br,h]
end
def Chk {α:Type} (p:Prop) (f:α→Prop) (x:α):Prop:=p∧f x
theorem Chk_ok {α:Type} {p:Prop} {f:α→Prop} {x:α} (h:p):Chk p f x=f x:=by simp [Chk,h]
theorem Chk.mk {α:Type} {p:Prop} {f:α→Prop} {x:α} (h:p) (k:f x):Chk p f x:=⟨h,k⟩
def putK (d:Option Nat) (s:S) (K:S→Prop) (x:D):Prop:=K (s.put d x)
def putS (d:Option Nat) (K:S→Prop) (s:S) (x:D):Prop:=K (s.put d x)
def kM (x:Option Ob) (k:Ob→Prop):Prop:=match x with|some ob=>k ob|none=>False
theorem kM_some {ob:Ob} {k:Ob→Prop}:kM (some ob) k=k ob:=(rfl)
def kD {α:Type} (x:α) (k:α→Prop):Prop:=k x
theorem kD_eq {α:Type} {x:α} {k:α→Prop}:kD x k=k x:=(rfl)
def ChkD {α:Type} (p:Prop) (x:α) (k:α→Prop):Prop:=p∧k x
theorem ChkD_ok {α:Type} {p:Prop} {k:α→Prop} {x:α} (h:p):ChkD p x k=k x:=by simp [ChkD,h]
def kPick (c a b:D) (k:D→Prop):Prop:=match c with|.v (.bool t)=>Br t k a k b|_=>False
theorem kPick_v {t:Bool} {a b:D} {k:D→Prop}:kPick (.v (.bool t)) a b k=Br t k a k b:=(rfl)
def kLen (x:D) (k:D→Prop):Prop :=
  match x with
  | .sl _ es=>k (.v (.int .i64 es.length))
  | .ref _ _ _ n=>k (.v (.int .i64 n))
  | .nl=>k (.v (.int .i64 0))
  | _=>False
theorem kLen_sl {sz:Nat} {es:List (List D)} {k:D→Prop}:kLen (.sl sz es) k=kD (.v (.int .i64 es.length)) k:=(rfl)
theorem kLen_ref {τ sz off n:Nat} {k:D→Prop}:kLen (.ref τ sz off n) k=kD (.v (.int .i64 n)) k:=(rfl)
theorem kLen_nl {k:D→Prop}:kLen .nl k=k (.v (.int .i64 0)):=(rfl)
def kIdx (x i:D) (sz:Nat) (k:D→Prop):Prop :=
  match x,i with
  | .sl z es,.v (.int _ j)=>ChkD (z=sz∧0≤j∧j<es.length) (.ip (es.getD j.toNat []) 0) k
  | .ref τ z off n,.v (.int _ j)=>ChkD (z=sz∧0≤j∧j<n) (.ptr τ sz (off+j.toNat) 0) k
  | _,_=>False
theorem kIdx_sl {z sz:Nat} {es:List (List D)} {q:IntKind} {j:Int} {k:D→Prop}:kIdx (.sl z es) (.v (.int q j)) sz k=ChkD (z=sz∧0≤j∧j<es.length) (.ip (es.getD j.toNat []) 0) k:=(rfl)
theorem kIdx_ref {τ z off n sz:Nat} {q:IntKind} {j:Int} {k:D→Prop}:kIdx (.ref τ z off n) (.v (.int q j)) sz k=ChkD (z=sz∧0≤j∧j<n) (.ptr τ sz (off+j.toNat) 0) k:=(rfl)
def kIdxa (x i:D) (sz n:Nat) (k:D→Prop):Prop :=
  match x,i with
  | .ip e o,.v (.int _ j)=>ChkD (0≤j∧j<n) (.ip e (o+j.toNat * sz)) k
  | .ptr τ z a o,.v (.int _ j)=>ChkD (0≤j∧j<n) (.ptr τ z a (o+j.toNat * sz)) k
  | _,_=>False
theorem kIdxa_ip {e:List D} {o sz n:Nat} {q:IntKind} {j:Int} {k:D→Prop}:kIdxa (.ip e o) (.v (.int q j)) sz n k=ChkD (0≤j∧j<n) (.ip e (o+j.toNat * sz)) k:=(rfl)
theorem kIdxa_ptr {τ z a o sz n:Nat} {q:IntKind} {j:Int} {k:D→Prop}:kIdxa (.ptr τ z a o) (.v (.int q j)) sz n k=ChkD (0≤j∧j<n) (.ptr τ z a (o+j.toNat * sz)) k:=(rfl)
def kIdxv (x i:D) (sz n:Nat) (agg:Bool) (k:D→Prop):Prop :=
  match x,i with
  | .ag ds,.v (.int _ j)=>ChkD (0≤j∧j<n∧ds.length=n * sz) (if agg then .ag ((ds.drop (j.toNat * sz)).take sz) else ds.getD (j.toNat * sz) .junk) k
  | _,_=>False
theorem kIdxv_ag {ds:List D} {sz n:Nat} {agg:Bool} {q:IntKind} {j:Int} {k:D→Prop}:kIdxv (.ag ds) (.v (.int q j)) sz n agg k=ChkD (0≤j∧j<n∧ds.length=n * sz) (if agg then .ag ((ds.drop (j.toNat * sz)).take sz) else ds.getD (j.toNat * sz) .junk) k:=(rfl)
def kFld (x:D) (off:Nat) (k:D→Prop):Prop :=
  match x with
  | .ip e o=>k (.ip e (o+off))
  | .ptr τ z i o=>k (.ptr τ z i (o+off))
  | _=>False
theorem kFld_ip {e:List D} {o off:Nat} {k:D→Prop}:kFld (.ip e o) off k=kD (.ip e (o+off)) k:=(rfl)
theorem kFld_ptr {τ z i o off:Nat} {k:D→Prop}:kFld (.ptr τ z i o) off k=kD (.ptr τ z i (o+off)) k:=(rfl)
def S.unfold (s:S) (τ i o:Nat) (ob:Ob) (ow:Bool) (sz:Nat) (es:List (List D)):S :=
  ((s.setM τ ⟨ob.sz,ob.es.set i ((ob.es.getD i []).set o (.ref s.N sz 0 es.length)),false,ob.ow,ob.kd⟩).setM s.N ⟨sz,es,true,ow,.arr⟩).setN (s.N+1)
def kRefN (k:S→D→Prop) (sz n:Nat) (s:S):Prop:=k s (.ref (s.N - 1) sz 0 n)
theorem kRefN_eq {k:S→D→Prop} {sz n:Nat} {s:S}:kRefN k sz n s=k s (.ref (s.N - 1) sz 0 n):=(rfl)
def S.unfoldM (s:S) (τ i o:Nat) (ob:Ob) (kd:Kd) (sz:Nat) (es:List (List D)):S :=
  ((s.setM τ ⟨ob.sz,ob.es.set i ((ob.es.getD i []).set o (.mp s.N)),false,ob.ow,ob.kd⟩).setM s.N ⟨sz,es,true,false,kd⟩).setN (s.N+1)
def kMpN (k:S→D→Prop) (s:S):Prop:=k s (.mp (s.N - 1))
theorem kMpN_eq {k:S→D→Prop} {s:S}:kMpN k s=k s (.mp (s.N - 1)):=(rfl)
def kOwn (s:S) (τ i o:Nat) (ob:Ob) (k:S→D→Prop) (d:D):Prop :=
  match d with
  | .omp kd sz es=>Chk (τ ≠ s.N) (kMpN k) (s.unfoldM τ i o ob kd sz es)
  | .own ow sz es=>Chk (τ ≠ s.N) (kRefN k sz es.length) (s.unfold τ i o ob ow sz es)
  | d=>k s d
section
variable {s:S} {τ i o:Nat} {ob:Ob} {k:S→D→Prop}
theorem kOwn_own {ow:Bool} {sz:Nat} {es:List (List D)}:kOwn s τ i o ob k (.own ow sz es)=Chk (τ ≠ s.N) (kRefN k sz es.length) (s.unfold τ i o ob ow sz es):=(rfl)
theorem kOwn_omp {kd:Kd} {sz:Nat} {es:List (List D)}:kOwn s τ i o ob k (.omp kd sz es)=Chk (τ ≠ s.N) (kMpN k) (s.unfoldM τ i o ob kd sz es):=(rfl)
theorem kOwn_v {x:Value}:kOwn s τ i o ob k (.v x)=k s (.v x):=(rfl)
theorem kOwn_nl:kOwn s τ i o ob k .nl=k s .nl:=(rfl)
theorem kOwn_sl {sz:Nat} {es:List (List D)}:kOwn s τ i o ob k (.sl sz es)=k s (.sl sz es):=(rfl)
theorem kOwn_ip {e:List D} {n:Nat}:kOwn s τ i o ob k (.ip e n)=k s (.ip e n):=(rfl)
theorem kOwn_ref {σ sz off n:Nat}:kOwn s τ i o ob k (.ref σ sz off n)=k s (.ref σ sz off n):=(rfl)
theorem kOwn_ptr {σ sz off n:Nat}:kOwn s τ i o ob k (.ptr σ sz off n)=k s (.ptr σ sz off n):=(rfl)
theorem kOwn_mp {σ:Nat}:kOwn s τ i o ob k (.mp σ)=k s (.mp σ):=(rfl)
theorem kOwn_clo {f:FuncId} {ds:List D}:kOwn s τ i o ob k (.clo f ds)=k s (.clo f ds):=(rfl)
theorem kOwn_junk:kOwn s τ i o ob k .junk=k s .junk:=(rfl)
end
def kLdO (s:S) (τ z i o:Nat) (k:S→D→Prop) (ob:Ob):Prop:=ChkD (ob.sz=z∧i<ob.es.length∧o<z∧ob.kd.isMap=false) ((ob.es.getD i []).getD o .junk) (kOwn s τ i o ob k)
theorem kLdO_eq {s:S} {τ z i o z':Nat} {k:S→D→Prop} {es:List (List D)} {fl ow:Bool} {kd:Kd}:kLdO s τ z i o k ⟨z',es,fl,ow,kd⟩=ChkD (z'=z∧i<es.length∧o<z∧kd.isMap=false) ((es.getD i []).getD o .junk) (kOwn s τ i o ⟨z',es,fl,ow,kd⟩ k):=(rfl)
def kLd (s:S) (x:D) (k:S→D→Prop):Prop :=
  match x with
  | .ip e o=>ChkD (o<e.length) (e.getD o .junk) (k s)
  | .ptr τ z i o=>kM (s.M τ) (kLdO s τ z i o k)
  | _=>False
theorem kLd_ip {s:S} {e:List D} {o:Nat} {k:S→D→Prop}:kLd s (.ip e o) k=ChkD (o<e.length) (e.getD o .junk) (k s):=(rfl)
theorem kLd_ptr {s:S} {τ z i o:Nat} {k:S→D→Prop}:kLd s (.ptr τ z i o) k=kM (s.M τ) (kLdO s τ z i o k):=(rfl)
def uns (ow:Bool) (l:List D):List D:=if ow then l.map D.un else l
theorem uns_f {l:List D}:uns false l=l:=(rfl)
theorem uns_t {l:List D}:uns true l=l.map D.un:=(rfl)
def kLdnO (z i o n:Nat) (k:D→Prop) (ob:Ob):Prop:=ChkD (ob.sz=z∧i<ob.es.length∧o+n≤z∧ob.kd.isMap=false) (.ag (uns ob.ow (((ob.es.getD i []).drop o).take n))) k
theorem kLdnO_eq {z i o n z':Nat} {k:D→Prop} {es:List (List D)} {fl ow:Bool} {kd:Kd}:kLdnO z i o n k ⟨z',es,fl,ow,kd⟩=ChkD (z'=z∧i<es.length∧o+n≤z∧kd.isMap=false) (.ag (uns ow (((es.getD i []).drop o).take n))) k:=(rfl)
def kLdn (s:S) (x:D) (n:Nat) (k:D→Prop):Prop :=
  match x with
  | .ip e o=>ChkD (o+n≤e.length) (.ag ((e.drop o).take n)) k
  | .ptr τ z i o=>kM (s.M τ) (kLdnO z i o n k)
  | _=>False
theorem kLdn_ip {s:S} {e:List D} {o n:Nat} {k:D→Prop}:kLdn s (.ip e o) n k=ChkD (o+n≤e.length) (.ag ((e.drop o).take n)) k:=(rfl)
theorem kLdn_ptr {s:S} {τ z i o n:Nat} {k:D→Prop}:kLdn s (.ptr τ z i o) n k=kM (s.M τ) (kLdnO z i o n k):=(rfl)
def binV (op:BinOp) (x y:Value):Option Value :=
  match op,x,y with
  | .add,.int k a,.int q b=>if k=q then some (.int k (k.wrap (a+b))) else none
  | .sub,.int k a,.int q b=>if k=q then some (.int k (k.wrap (a - b))) else none
  | .mul,.int k a,.int q b=>if k=q then some (.int k (k.wrap (a * b))) else none
  | .quo,.int k a,.int q b=>if k=q∧b ≠ 0 then some (.int k (k.wrap (a.tdiv b))) else none
  | .rem,.int k a,.int q b=>if k=q∧b ≠ 0 then some (.int k (a.tmod b)) else none
  | .and,.int k a,.int q b=>if k=q then some (.int k (k.wrap (BitVec.ofInt k.bits a &&& BitVec.ofInt k.bits b).toNat)) else none
  | .or,.int k a,.int q b=>if k=q then some (.int k (k.wrap (BitVec.ofInt k.bits a ||| BitVec.ofInt k.bits b).toNat)) else none
  | .xor,.int k a,.int q b=>if k=q then some (.int k (k.wrap (BitVec.ofInt k.bits a ^^^ BitVec.ofInt k.bits b).toNat)) else none
  | .andNot,.int k a,.int q b=>if k=q then some (.int k (k.wrap (BitVec.ofInt k.bits a &&& ~~~ (BitVec.ofInt k.bits b)).toNat)) else none
  | .shl,.int k a,.int _ b=>if 0≤b then some (.int k (k.wrap (a * 2 ^ (min b.toNat k.bits)))) else none
  | .shr,.int k a,.int _ b=>if 0≤b then some (.int k (a.fdiv (2 ^ (min b.toNat k.bits)))) else none
  | .eql,.int k a,.int q b=>if k=q then some (.bool (a == b)) else none
  | .neq,.int k a,.int q b=>if k=q then some (.bool (a != b)) else none
  | .lss,.int k a,.int q b=>if k=q then some (.bool (decide (a<b))) else none
  | .leq,.int k a,.int q b=>if k=q then some (.bool (decide (a≤b))) else none
  | .gtr,.int k a,.int q b=>if k=q then some (.bool (decide (a>b))) else none
  | .geq,.int k a,.int q b=>if k=q then some (.bool (decide (a ≥ b))) else none
  | _,_,_=>none
def kBin (op:BinOp) (x y:D) (k:D→Prop):Prop :=
  match x,y with
  | .v a,.v b=>match binV op a b with|some c=>k (.v c)|none=>False
  | _,_=>False
section
variable {q q':IntKind} {a b:Int} {k:D→Prop}
theorem kBin_add:kBin .add (.v (.int q a)) (.v (.int q b)) k=kD (.v (.int q (q.wrap (a+b)))) k:=by simp [kBin,binV,kD]
theorem kBin_sub:kBin .sub (.v (.int q a)) (.v (.int q b)) k=kD (.v (.int q (q.wrap (a - b)))) k:=by simp [kBin,binV,kD]
theorem kBin_mul:kBin .mul (.v (.int q a)) (.v (.int q b)) k=kD (.v (.int q (q.wrap (a * b)))) k:=by simp [kBin,binV,kD]
theorem kBin_quo:kBin .quo (.v (.int q a)) (.v (.int q b)) k=ChkD (b ≠ 0) (.v (.int q (q.wrap (a.tdiv b)))) k:=by by_cases h:b=0<;>simp [kBin,binV,ChkD,h]
theorem kBin_rem:kBin .rem (.v (.int q a)) (.v (.int q b)) k=ChkD (b ≠ 0) (.v (.int q (a.tmod b))) k:=by by_cases h:b=0<;>simp [kBin,binV,ChkD,h]
theorem kBin_and:kBin .and (.v (.int q a)) (.v (.int q b)) k=kD (.v (.int q (q.wrap (BitVec.ofInt q.bits a &&& BitVec.ofInt q.bits b).toNat))) k:=by simp [kBin,binV,kD]
theorem kBin_or:kBin .or (.v (.int q a)) (.v (.int q b)) k=kD (.v (.int q (q.wrap (BitVec.ofInt q.bits a ||| BitVec.ofInt q.bits b).toNat))) k:=by simp [kBin,binV,kD]
theorem kBin_xor:kBin .xor (.v (.int q a)) (.v (.int q b)) k=kD (.v (.int q (q.wrap (BitVec.ofInt q.bits a ^^^ BitVec.ofInt q.bits b).toNat))) k:=by simp [kBin,binV,kD]
theorem kBin_andNot:kBin .andNot (.v (.int q a)) (.v (.int q b)) k=kD (.v (.int q (q.wrap (BitVec.ofInt q.bits a &&& ~~~ (BitVec.ofInt q.bits b)).toNat))) k:=by simp [kBin,binV,kD]
theorem kBin_shl:kBin .shl (.v (.int q a)) (.v (.int q' b)) k=ChkD (0≤b) (.v (.int q (q.wrap (a * 2 ^ (min b.toNat q.bits))))) k:=by by_cases h:0≤b<;>simp [kBin,binV,ChkD,h]
theorem kBin_shr:kBin .shr (.v (.int q a)) (.v (.int q' b)) k=ChkD (0≤b) (.v (.int q (a.fdiv (2 ^ (min b.toNat q.bits))))) k:=by by_cases h:0≤b<;>simp [kBin,binV,ChkD,h]
theorem kBin_eql:kBin .eql (.v (.int q a)) (.v (.int q b)) k=kD (.v (.bool (a == b))) k:=by simp [kBin,binV,kD]
theorem kBin_neq:kBin .neq (.v (.int q a)) (.v (.int q b)) k=kD (.v (.bool (a != b))) k:=by simp [kBin,binV,kD]
theorem kBin_lss:kBin .lss (.v (.int q a)) (.v (.int q b)) k=kD (.v (.bool (decide (a<b)))) k:=by simp [kBin,binV,kD]
theorem kBin_leq:kBin .leq (.v (.int q a)) (.v (.int q b)) k=kD (.v (.bool (decide (a≤b)))) k:=by simp [kBin,binV,kD]
theorem kBin_gtr:kBin .gtr (.v (.int q a)) (.v (.int q b)) k=kD (.v (.bool (decide (b<a)))) k:=by simp [kBin,binV,kD]
theorem kBin_geq:kBin .geq (.v (.int q a)) (.v (.int q b)) k=kD (.v (.bool (decide (b≤a)))) k:=by simp [kBin,binV,kD]
end
def kEqb (neg:Bool) (x y:D) (k:D→Prop):Prop :=
  match x,y with
  | .v (.bool a),.v (.bool b)=>k (.v (.bool (if neg then a != b else a == b)))
  | _,_=>False
theorem kEqb_eq {a b:Bool} {k:D→Prop}:kEqb false (.v (.bool a)) (.v (.bool b)) k=kD (.v (.bool (a == b))) k:=(rfl)
theorem kEqb_ne {a b:Bool} {k:D→Prop}:kEqb true (.v (.bool a)) (.v (.bool b)) k=kD (.v (.bool (a != b))) k:=(rfl)
def BrN (p:Prop) (a b:D) (k:D→Prop):Prop:=(p→k a)∧k b
theorem BrN.mk {p:Prop} {a b:D} {k:D→Prop} (h:p→k a) (h2:k b):BrN p a b k:=⟨h,h2⟩
def kIsnil (neg:Bool) (x:D) (k:D→Prop):Prop :=
  match x with
  | .nl=>k (.v (.bool (!neg)))
  | .sl _ es=>BrN (es.length=0) (.v (.bool (!neg))) (.v (.bool neg)) k
  | .ref _ _ _ n=>BrN (n=0) (.v (.bool (!neg))) (.v (.bool neg)) k
  | _=>False
theorem kIsnil_nl {neg:Bool} {k:D→Prop}:kIsnil neg .nl k=kD (.v (.bool (!neg))) k:=(rfl)
theorem kIsnil_sl {neg:Bool} {k:D→Prop} {sz:Nat} {es:List (List D)}:kIsnil neg (.sl sz es) k=BrN (es.length=0) (.v (.bool (!neg))) (.v (.bool neg)) k:=(rfl)
theorem kIsnil_ref {neg:Bool} {k:D→Prop} {τ sz off n:Nat}:kIsnil neg (.ref τ sz off n) k=BrN (n=0) (.v (.bool (!neg))) (.v (.bool neg)) k:=(rfl)
def kCap (x:D) (k:D→Prop):Prop:=match x with|.nl=>k (.v (.int .i64 0))|_=>False
theorem kCap_nl {k:D→Prop}:kCap .nl k=k (.v (.int .i64 0)):=(rfl)
def kNot (x:D) (k:D→Prop):Prop:=match x with|.v (.bool a)=>k (.v (.bool (!a)))|_=>False
theorem kNot_v {a:Bool} {k:D→Prop}:kNot (.v (.bool a)) k=kD (.v (.bool (!a))) k:=(rfl)
def kNeg (x:D) (k:D→Prop):Prop:=match x with|.v (.int q a)=>k (.v (.int q (q.wrap (0 - a))))|_=>False
theorem kNeg_v {q:IntKind} {a:Int} {k:D→Prop}:kNeg (.v (.int q a)) k=kD (.v (.int q (q.wrap (0 - a)))) k:=(rfl)
def kCvi (q:IntKind) (x:D) (k:D→Prop):Prop:=match x with|.v (.int _ a)=>k (.v (.int q (q.wrap a)))|_=>False
theorem kCvi_v {q q':IntKind} {a:Int} {k:D→Prop}:kCvi q (.v (.int q' a)) k=kD (.v (.int q (q.wrap a))) k:=(rfl)
def kExt (x:D) (i:Nat) (k:D→Prop):Prop:=match x with|.tu ds=>ChkD (i<ds.length) (ds.getD i .junk) k|_=>False
theorem kExt_tu {ds:List D} {i:Nat} {k:D→Prop}:kExt (.tu ds) i k=ChkD (i<ds.length) (ds.getD i .junk) k:=(rfl)
def kGetf (x:D) (off n:Nat) (agg:Bool) (k:D→Prop):Prop:=match x with|.ag ds=>ChkD (off+n≤ds.length) (if agg then .ag ((ds.drop off).take n) else ds.getD off .junk) k|_=>False
theorem kGetf_ag {ds:List D} {off n:Nat} {agg:Bool} {k:D→Prop}:kGetf (.ag ds) off n agg k=ChkD (off+n≤ds.length) (if agg then .ag ((ds.drop off).take n) else ds.getD off .junk) k:=(rfl)
def kSub (x lo hi:D) (sz:Nat) (k:D→Prop):Prop :=
  match x,lo,hi with
  | .sl z es,.v (.int _ l),.v (.int _ h)=>ChkD (z=sz∧0≤l∧l≤h∧h≤es.length) (.sl z ((es.take h.toNat).drop l.toNat)) k
  | .ref τ z off n,.v (.int _ l),.v (.int _ h)=>ChkD (z=sz∧0≤l∧l≤h∧h≤n) (.ref τ z (off+l.toNat) (h.toNat - l.toNat)) k
  | .nl,.v (.int _ l),.v (.int _ h)=>ChkD (l=0∧h=0) .nl k
  | _,_,_=>False
theorem kSub_sl {z sz:Nat} {es:List (List D)} {q q':IntKind} {l h:Int} {k:D→Prop} :
    kSub (.sl z es) (.v (.int q l)) (.v (.int q' h)) sz k=ChkD (z=sz∧0≤l∧l≤h∧h≤es.length) (.sl z ((es.take h.toNat).drop l.toNat)) k:=(rfl)
theorem kSub_ref {τ z off n sz:Nat} {q q':IntKind} {l h:Int} {k:D→Prop} :
    kSub (.ref τ z off n) (.v (.int q l)) (.v (.int q' h)) sz k=ChkD (z=sz∧0≤l∧l≤h∧h≤n) (.ref τ z (off+l.toNat) (h.toNat - l.toNat)) k:=(rfl)
theorem kSub_nl {sz:Nat} {q q':IntKind} {l h:Int} {k:D→Prop}:kSub .nl (.v (.int q l)) (.v (.int q' h)) sz k=ChkD (l=0∧h=0) .nl k:=(rfl)
def lenDD:D→D
  | .sl _ es=>.v (.int .i64 es.length)
  | .ref _ _ _ n=>.v (.int .i64 n)
  | .nl=>.v (.int .i64 0)
  | _=>.junk
theorem lenDD_sl {sz:Nat} {es:List (List D)}:lenDD (.sl sz es)=.v (.int .i64 es.length):=(rfl)
theorem lenDD_ref {τ sz off n:Nat}:lenDD (.ref τ sz off n)=.v (.int .i64 n):=(rfl)
theorem lenDD_nl:lenDD .nl=.v (.int .i64 0):=(rfl)
def S.lo (s:S):Option O→D
  | some o=>s.g o
  | none=>.v (.int .i64 0)
def S.hi (s:S) (x:D):Option O→D
  | some o=>s.g o
  | none=>lenDD x
def kMin (isMax:Bool) (x y:D) (k:D→Prop):Prop :=
  match x,y with
  | .v (.int q a),.v (.int _ b)=>k (.v (.int q (if isMax then (if a<b then b else a) else (if b<a then b else a))))
  | _,_=>False
theorem kMin_min {q q':IntKind} {a b:Int} {k:D→Prop}:kMin false (.v (.int q a)) (.v (.int q' b)) k=kD (.v (.int q (if b<a then b else a))) k:=(rfl)
theorem kMin_max {q q':IntKind} {a b:Int} {k:D→Prop}:kMin true (.v (.int q a)) (.v (.int q' b)) k=kD (.v (.int q (if a<b then b else a))) k:=(rfl)
def D.cells:D→List D
  | .ag ds=>ds
  | d=>[d]
def splice (cells:List D) (off:Nat) (ds:List D):List D:=cells.take off++ds++cells.drop (off+ds.length)
def kBldS (off n:Nat) (cells:List D) (go:List D→Prop) (ds:List D):Prop:=ChkD (ds.length=n∧off+n≤cells.length∧ds.all D.one=true) (splice cells off ds) go
def kBld (s:S) (k:D→Prop):List (Nat × Nat × O)→List D→Prop
  | [],cells=>k (.ag cells)
  | (off,n,o)::r,cells=>kBldS off n cells (kBld s k r) (s.g o).cells
def viewO (x:Option Ob) (sz off n:Nat):D :=
  match x with
  | some ob=>if ob.flat=true∧ob.kd.isMap=false∧ob.sz=sz∧off+n≤ob.es.length then .sl sz ((ob.vrows.drop off).take n) else .junk
  | none=>.junk
def viewP (x:Option Ob) (sz i o:Nat):D :=
  match x with
  | some ob=>if ob.flat=true∧ob.kd.isMap=false∧ob.sz=sz∧i<ob.es.length then .ip (ob.vrows.getD i []) o else .junk
  | none=>.junk
def S.viewL (s:S):D→D
  | .ref τ sz off n=>viewO (s.M τ) sz off n
  | .ptr τ sz i o=>viewP (s.M τ) sz i o
  | .mp _|.own _ _ _|.omp _ _ _=>.junk
  | d=>d
def S.view (s:S) (d:D):D:=d.lf s.viewL
def plL:D→Bool
  | .v _=>true
  | _=>false
def D.plain (d:D):Bool:=d.alls plL
inductive Les:List D→List D→Prop
  | nil:Les [] []
  | cons {d d':D} {l l':List D} (h:d.Le d') (t:Les l l'):Les (d::l) (d'::l')
def frzL (τ:Nat) (ob:Ob):D→D
  | .ref σ sz off n=>if σ=τ then viewO (some ob) sz off n else .ref σ sz off n
  | .ptr σ sz i o=>if σ=τ then viewP (some ob) sz i o else .ptr σ sz i o
  | .mp σ=>if σ=τ then .junk else .mp σ
  | d=>d
def D.frz (τ:Nat) (ob:Ob) (d:D):D:=d.lf (frzL τ ob)
def S.frz (s:S) (τ:Nat) (ob:Ob):S:={ ρ:=fun t=>(s.ρ t).frz τ ob,M:=fun σ=>if σ=τ then none else (s.M σ).map (Ob.mapc (D.frz τ ob)),N:=s.N }
def foldRows (σ i o:Nat) (fl:Bool) (ob:Ob) (x:D):List (List D):=if fl then ob.es.set i ((ob.es.getD i []).set o x) else (ob.es.set i ((ob.es.getD i []).set o x)).map fun e=>e.map (D.kill σ)
def S.fold (s:S) (σ τ i o:Nat) (fl:Bool) (ob:Ob) (x:D):S :=
  { ρ:=fun t=>(s.ρ t).kill σ,M:=fun υ=>if υ=σ then none else if υ=τ then some ⟨ob.sz,foldRows σ i o fl ob x,fl,true,ob.kd⟩ else (s.M υ).map (Ob.mapc (D.kill σ)),N:=s.N }
def renL (ι:Nat→Nat):D→D
  | .ref τ sz off n=>.ref (ι τ) sz off n
  | .ptr τ sz i o=>.ptr (ι τ) sz i o
  | .mp τ=>.mp (ι τ)
  | d=>d
def D.ren (ι:Nat→Nat) (d:D):D:=d.lf (renL ι)
def Ob.ren (ι:Nat→Nat) (ob:Ob):Ob:=ob.mapc (D.ren ι)
def swp (σ τ k:Nat):Nat:=if k=σ then τ else if k=τ then σ else k
def arrO (x:Option Ob):Bool:=match x with|some ob=>ob.kd.isArr|none=>false
def S.swap (s:S) (σ τ:Nat):S:={ ρ:=fun t=>(s.ρ t).ren (swp σ τ),M:=fun υ=>(s.M (swp σ τ υ)).map (Ob.ren (swp σ τ)),N:=s.N }
inductive Gho:S→(D→D)→S→Prop
  | frz (s:S) (τ:Nat) (ob:Ob) (hN:τ<s.N) (hM:s.M τ=some ob) (hf:ob.flat=true) (hk:ob.kd.isMap=false):Gho s (D.frz τ ob) (s.frz τ ob)
  | fold (s:S) (σ τ i o n:Nat) (fl:Bool) (ob ob':Ob) (hN:σ<s.N∧τ<s.N) (hM:s.M τ=some ob) (hM':s.M σ=some ob') (hne:σ ≠ τ) (hf:ob'.flat=true) (hk:ob.kd.isMap=false) (hk':ob'.kd.isMap=false)
      (hi:i<ob.es.length) (ho:o<ob.sz) (hc:(ob.es.getD i []).getD o .junk=.ref σ ob'.sz 0 n) (hn:n≤ob'.es.length)
      (hfl:fl=true→(ob.es.set i ((ob.es.getD i []).set o (.own ob'.ow ob'.sz (ob'.es.take n)))).all (fun e=>e.all D.clo')=true):Gho s (D.kill σ) (s.fold σ τ i o fl ob (.own ob'.ow ob'.sz (ob'.es.take n)))
  | foldm (s:S) (σ τ i o:Nat) (fl:Bool) (ob ob':Ob) (hN:σ<s.N∧τ<s.N) (hM:s.M τ=some ob) (hM':s.M σ=some ob') (hne:σ ≠ τ) (hf:ob'.flat=true) (hk:ob.kd.isMap=false) (hk':ob'.kd.isMap=true) (how:ob'.ow=false)
      (hi:i<ob.es.length) (ho:o<ob.sz) (hc:(ob.es.getD i []).getD o .junk=.mp σ)
      (hfl:fl=true→(ob.es.set i ((ob.es.getD i []).set o (.omp ob'.kd ob'.sz ob'.es))).all (fun e=>e.all D.clo')=true):Gho s (D.kill σ) (s.fold σ τ i o fl ob (.omp ob'.kd ob'.sz ob'.es))
  | flt (s:S) (τ:Nat) (ob:Ob) (hN:τ<s.N) (hM:s.M τ=some ob) (hfl:ob.es.all (fun e=>e.all D.clo')=true):Gho s (fun d=>d) (s.setM τ ⟨ob.sz,ob.es,true,ob.ow,ob.kd⟩)
  | nlo (s:S) (τ i o z:Nat) (ob:Ob) (hN:τ<s.N) (hM:s.M τ=some ob) (hi:i<ob.es.length) (ho:o<ob.sz) (hc:(ob.es.getD i []).getD o .junk=.nl):Gho s (fun d=>d) (s.setM τ ⟨ob.sz,ob.es.set i ((ob.es.getD i []).set o (.own false z [])),ob.flat,true,ob.kd⟩)
  | swap (s:S) (σ τ:Nat) (hN:σ<s.N∧τ<s.N) (h1:arrO (s.M σ)=true) (h2:arrO (s.M τ)=true):Gho s (D.ren (swp σ τ)) (s.swap σ τ)
  | stay (s:S) (τ:Nat) (ob:Ob) (hN:τ<s.N) (hM:s.M τ=some ob) (hl:0<ob.es.length) (hk:ob.kd.isMap=false):Gho s (fun d=>d) (s.setM τ ⟨ob.sz,ob.es,ob.flat,ob.ow,.fix⟩)
  | wk (s:S) (τ i o:Nat) (d':D) (ob:Ob) (hN:τ<s.N) (hM:s.M τ=some ob) (hi:i<ob.es.length) (ho:o<ob.sz) (hc:((ob.es.getD i []).getD o .junk).cl=true) (hl:((ob.es.getD i []).getD o .junk).Le d') (hd:d'.isOwn=false):Gho s (fun d=>d) (s.setM τ ⟨ob.sz,ob.es.set i ((ob.es.getD i []).set o d'),ob.flat,ob.ow,ob.kd⟩)
  | unf (s:S) (τ i o z:Nat) (ow:Bool) (es:List (List D)) (ob:Ob) (hN:τ<s.N) (hM:s.M τ=some ob) (hk:ob.kd.isMap=false) (hi:i<ob.es.length) (ho:o<ob.sz) (hc:(ob.es.getD i []).getD o .junk=.own ow z es):Gho s (fun d=>d) (s.unfold τ i o ob ow z es)
  | emp (s:S) (t sz:Nat) (h:s.ρ t=.nl):Gho s (fun d=>d) (s.newt (some t) ⟨sz,[],true,false,.arr⟩ fun τ=>.ref τ sz 0 0)
inductive GhosD:S→(D→D)→S→Prop
  | refl (s:S):GhosD s (fun d=>d) s
  | step (s s1 s2:S) (g g':D→D) (h:Gho s g s1) (t:GhosD s1 g' s2):GhosD s (fun d=>g' (g d)) s2
inductive Ghos:S→S→Prop
  | refl (s:S):Ghos s s
  | step (s s1 s2:S) (g:D→D) (h:Gho s g s1) (t:Ghos s1 s2):Ghos s s2
def GhoV (K:S→Prop) (s:S):Prop := ∃ s',Ghos s s'∧K s'
def kLdx (x:O) (n:Nat) (k:S→D→Prop) (s:S):Prop:=kLdn s (s.g x) n (k s)
def kLdwO (s:S) (x:O) (z i o n:Nat) (k:S→D→Prop) (ob:Ob):Prop:=if ob.ow then GhoV (kLdx x n k) s else kLdnO z i o n (k s) ob
def kLdw (s:S) (x:O) (n:Nat) (k:S→D→Prop) (d:D):Prop :=
  match d with
  | .ip e o=>ChkD (o+n≤e.length) (.ag ((e.drop o).take n)) (k s)
  | .ptr τ z i o=>kM (s.M τ) (kLdwO s x z i o n k)
  | _=>False
theorem kLdw_ip {s:S} {x:O} {e:List D} {o n:Nat} {k:S→D→Prop}:kLdw s x n k (.ip e o)=ChkD (o+n≤e.length) (.ag ((e.drop o).take n)) (k s):=(rfl)
theorem kLdw_ptr {s:S} {x:O} {τ z i o n:Nat} {k:S→D→Prop}:kLdw s x n k (.ptr τ z i o)=kM (s.M τ) (kLdwO s x z i o n k):=(rfl)
theorem kLdwO_f {s:S} {x:O} {z i o n z':Nat} {k:S→D→Prop} {es:List (List D)} {fl:Bool} {kd:Kd}:kLdwO s x z i o n k ⟨z',es,fl,false,kd⟩=ChkD (z'=z∧i<es.length∧o+n≤z∧kd.isMap=false) (.ag (((es.getD i []).drop o).take n)) (k s):=(rfl)
theorem kLdwO_t {s:S} {x:O} {z i o n z':Nat} {k:S→D→Prop} {es:List (List D)} {fl:Bool} {kd:Kd}:kLdwO s x z i o n k ⟨z',es,fl,true,kd⟩=GhoV (kLdx x n k) s:=(rfl)
theorem kLdx_eq {x:O} {n:Nat} {k:S→D→Prop} {s:S}:kLdx x n k s=kLdn s (s.g x) n (k s):=(rfl)
theorem kLdw_cases {s:S} {x:O} {n:Nat} {k:S→D→Prop} {d:D} (h:kLdw s x n k d):kLdn s d n (k s)∨GhoV (kLdx x n k) s:=by
  unfold kLdw at h
  split at h
  · exact .inl h
  · next τ z i o =>
    unfold kM at h
    split at h
    · next ob hM =>
      unfold kLdwO at h
      split at h
      · exact .inr h
      · exact .inl (by unfold kLdn kM;simp only [hM];exact h)
    · exact h.elim
  · exact h.elim
def isFix (x:Option Ob):Bool:=match x with|some ob => !ob.kd.isArr|none=>false
def mOf (l:List (Option Ob)) (τ:Nat):Option Ob:=(l[τ]?).getD none
def posn (τ:Nat):List Nat→Option Nat
  | []=>none
  | x::r=>if τ=x then some 0 else (posn τ r).map (·+1)
def iotaO (ι:List Nat) (N:Nat) (k:Nat):Nat:=if k<ι.length then ι.getD k 0 else N+(k - ι.length)
def lentL (s:S) (ι:List Nat):D→D
  | .ref τ sz off n=>if ((posn τ ι).isSome∧isFix (s.M τ)=false)∨(s.M τ).isNone then .junk else .ref τ sz off n
  | .ptr τ sz i o=>if (posn τ ι).isSome∧isFix (s.M τ)=false then .junk else .ptr τ sz i o
  | .mp τ=>if (posn τ ι).isSome∧isFix (s.M τ)=false then .junk else .mp τ
  | d=>d
def S.after (s : S) (ι : List Nat) (l : List (Option Ob)) : S :=
  { ρ := fun t => (s.ρ t).lf (lentL s ι)
    M:=fun τ=>match posn τ ι with
      | some k=>(mOf l k).map (Ob.ren (iotaO ι s.N))
      | none=>if s.N≤τ then (mOf l (τ - s.N+ι.length)).map (Ob.ren (iotaO ι s.N)) else (s.M τ).map (Ob.mapc (D.lf (lentL s ι)))
    N:=s.N+(l.length - ι.length) }
def CDR (fl:Bool) (w:World) (A:Nat→Prop) (β:Nat→Option Nat) (γ:Nat→Option (Nat × List Nat)) (N τ:Nat) (π:List Nat) (d:D) (x:Value):Prop :=
  (d.isOwn=false→DR w A β N d x)∧(fl=true∨d.isOwn=true→OC w A γ τ π d x)∧x.oneCell'=true
def OR (w : World) (A : Nat → Prop) (β : Nat → Option Nat) (γ : Nat → Option (Nat × List Nat)) (N : Nat) (ob : Ob) (τ : Nat) : Prop :=
  (∀ i,i<ob.es.length→(ob.es.getD i []).length=ob.sz) ∧
  (ob.ow=false→∀ i j,i<ob.es.length→j<ob.sz→((ob.es.getD i []).getD j .junk).isOwn=false) ∧
  ((β τ=none∧ob.es=[]∧ob.kd.isArr=true) ∨ ∃ (b:Nat) (o:Obj) (us:Nat→Nat→Value),β τ=some b∧w.heap[b]?=some o∧Holds ob.kd ob.sz ob.es.length o us ∧
    ∀ i j,i<ob.es.length→j<ob.sz→CDR ob.flat w A β γ N τ [i * ob.sz+j] ((ob.es.getD i []).getD j .junk) (us i j))
structure Bel (O:Nat→Prop) (w w':World):Prop where
  os:w'.os=w.os
  tape:w'.tape=w.tape
  output:w'.output=w.output
  size:w.heap.size≤w'.heap.size
  block:∀ k,k<w.heap.size→¬ O k→w'.heap[k]?=w.heap[k]?
  shp:Shp w w'
structure Gw where
  w0:World
  A0:Nat→Prop
  O0:Nat→Prop
  n0:Nat
  β0:Nat→Option Nat
  F:Nat→Prop
def oth:Obj→Bool
  | .deferred _=>true
  | .loop _=>true
  | _=>false
def nOth (w:World) (b:Nat):Prop:=∀ o,w.heap[b]?=some o→oth o=false
structure HR (G:Gw) (w:World) (A:Nat→Prop) (β:Nat→Option Nat) (γ:Nat→Option (Nat × List Nat)) (N:Nat) (M:Nat→Option Ob):Prop where
  below:Bel G.O0 G.w0 w
  sub:∀ b,G.A0 b→A b
  up:∀ b,A b→G.A0 b∨G.O0 b∨G.w0.heap.size≤b
  low:∀ b,A b→b<w.heap.size
  objs:∀ τ ob,τ<N→M τ=some ob→OR w A β γ N ob τ
  own:∀ b τ π,γ b=some (τ,π)→τ<N→M τ ≠ none→b<w.heap.size∧¬ A b∧(G.w0.heap.size≤b∨G.O0 b)∧nOth w b
  root:∀ τ b,τ<N→M τ ≠ none→β τ=some b→γ b=some (τ,[])
  ge:G.n0≤N
  flt:∀ τ,G.F τ→τ<G.n0
  fixd:∀ τ,G.F τ→β τ=G.β0 τ∧∀ ob,M τ=some ob→ob.kd.isArr=false
def Gw.at (w:World) (A:Nat→Prop) (β:Nat→Option Nat) (γ:Nat→Option (Nat × List Nat)) (N:Nat) (M:Nat→Option Ob):Gw :=
  { w0:=w,A0:=A,O0:=fun b => ∃ τ π,γ b=some (τ,π)∧τ<N∧M τ ≠ none,n0:=N,β0:=β,F:=fun τ=>τ<N∧isFix (M τ)=true }
def mAll (l:List Ob):Nat→Option Ob:=mOf (l.map some)
def SpecH (P : Program) (f : FuncId) (ds : List D) (obs : List Ob) (R : D → List (Option Ob) → Prop) : Prop :=
  FnOk P f∧∀ (w:World) (A:Nat→Prop) (β:Nat→Option Nat) (γ:Nat→Option (Nat × List Nat)) (vs:Array Value),HR (Gw.at w A β γ obs.length (mAll obs)) w A β γ obs.length (mAll obs)→vs.size=ds.length →
    (∀ i,i<ds.length→DR w A β obs.length (ds.getD i .junk) (vs.getD i undef)) →
    Calls P f vs w fun e w' => ∃ x d l A' β' γ',e=.returned x∧R d l∧HR (Gw.at w A β γ obs.length (mAll obs)) w' A' β' γ' l.length (mOf l)∧DR w' A' β' l.length d x
def SpecN (P : Program) (f : FuncId) (ds : List D) (R : D → Prop) : Prop :=
  FnOk P f∧∀ (w:World) (A:Nat→Prop) (vs:Array Value),(∀ b,A b→b<w.heap.size)→vs.size=ds.length →
    (∀ i,i<ds.length→CR w A (ds.getD i .junk) (vs.getD i undef)) →
    Calls P f vs w fun e w' => ∃ x d,e=.returned x∧R d∧Below w.heap.size w w'∧CR w' (fun b=>w.heap.size≤b∧b<w'.heap.size) d x
inductive CallVC (P:Program) (f:FuncId) (d:Option Nat) (K:S→Prop):List D→S→Prop
  | pure (raws:List D) (s:S) (ds':List D) (R:D→Prop) (hl:Les (raws.map s.view) ds') (h:Spec P f ds' R) (hk:∀ r,R r→(raws.any D.owned=true→r.plain=true)∧K (s.put d r)):CallVC P f d K raws s
  | ghost (raws:List D) (s s':S) (g:D→D) (hg:Gho s g s') (h:CallVC P f d K (raws.map g) s'):CallVC P f d K raws s
  | heap (raws:List D) (s:S) (ι:List Nat) (ds:List D) (obs:List Ob) (R:D→List (Option Ob)→Prop) (hn:ι.Nodup) (hlt:∀ x,x ∈ ι→x<s.N) (hlen:ι.length=obs.length)
      (hd:raws=ds.map (D.ren (iotaO ι s.N))) (hM:∀ k ob,obs[k]?=some ob→s.M (ι.getD k 0)=some (ob.ren (iotaO ι s.N))) (h:SpecH P f ds obs R)
      (hk:∀ r l,R r l→K ((s.after ι l).put d (r.ren (iotaO ι s.N)))):CallVC P f d K raws s
  | fresh (raws:List D) (s:S) (ds':List D) (R:D→Prop) (hl:Les (raws.map s.view) ds') (h:SpecN P f ds' R) (hk:∀ r,R r→K (s.put d r)):CallVC P f d K raws s
def CallV (P:Program) (f:FuncId) (views:List D) (own:Bool) (raws:List D) (s:S) (d:Option Nat) (K:S→Prop):Prop:=views=raws.map s.view→own=raws.any D.owned→CallVC P f d K raws s
theorem callV_eq {P:Program} {f:FuncId} {d:Option Nat} {K:S→Prop} {raws:List D} {s:S}:CallVC P f d K raws s=CallV P f (raws.map s.view) (raws.any D.owned) raws s d K:=by simp [CallV]
inductive CallPC (P:Program) (f:FuncId) (d:Option Nat) (K:S→Prop):List D→S→Prop
  | pure (raws:List D) (s:S) (ds':List D) (R:D→Prop) (hl:Les (raws.map s.view) ds') (h:Spec P f ds' R) (hk:∀ r,R r→(raws.any D.owned=true→r.plain=true)∧K (s.put d r)):CallPC P f d K raws s
  | ghost (raws:List D) (s s':S) (g:D→D) (hg:Gho s g s') (h:CallPC P f d K (raws.map g) s'):CallPC P f d K raws s
  | heap (raws:List D) (s:S) (ds:List D) (R:D→List (Option Ob)→Prop) (hd:raws=ds.map (D.ren (iotaO [] s.N))) (h:SpecH P f ds [] R)
      (hk:∀ r l,R r l→K ((s.after [] l).put d (r.ren (iotaO [] s.N)))):CallPC P f d K raws s
  | fresh (raws:List D) (s:S) (ds':List D) (R:D→Prop) (hl:Les (raws.map s.view) ds') (h:SpecN P f ds' R) (hk:∀ r,R r→K (s.put d r)):CallPC P f d K raws s
def CallP (P:Program) (f:FuncId) (views:List D) (own:Bool) (raws:List D) (s:S) (d:Option Nat) (K:S→Prop):Prop:=views=raws.map s.view→own=raws.any D.owned→CallPC P f d K raws s
theorem callP_eq {P:Program} {f:FuncId} {d:Option Nat} {K:S→Prop} {raws:List D} {s:S}:CallPC P f d K raws s=CallP P f (raws.map s.view) (raws.any D.owned) raws s d K:=by simp [CallP]
def srcO (x:Option Ob) (sz off n:Nat):D × Bool :=
  match x with
  | some ob=>if ob.kd.isMap=false∧ob.sz=sz∧off+n≤ob.es.length then (.sl sz (((if ob.ow then ob.es.map fun e=>e.map D.un else ob.es).drop off).take n),ob.flat) else (.junk,true)
  | none=>(.junk,true)
def S.src (s:S):D→D × Bool
  | .sl sz es=>(.sl sz es,true)
  | .nl=>(.nl,true)
  | .ref τ sz off n=>srcO (s.M τ) sz off n
  | _=>(.junk,true)
def appO (τ n:Nat) (ob:Ob) (ys:List (List D)) (fy:Bool):Ob :=
  ⟨ob.sz,if ob.flat && fy then ob.es.take n++ys else (ob.es.take n++ys).map fun e=>e.map (D.kill τ),ob.flat && fy,ob.ow,ob.kd⟩
def kAppW (s : S) (d : Option Nat) (τ zx off n : Nat) (z : Nat) (ys : List (List D)) (fy : Bool) (sz bytes : Nat) (K : S → Prop) (ob : Ob) : Prop :=
  (z=sz∧zx=sz∧ob.sz=sz∧off+n≤ob.es.length∧ob.kd.isArr=true∧ob.ow=false∧(n+ys.length) * bytes≤140737488355328) ∧
    K (((s.kill τ).setM τ (appO τ (off+n) ob ys fy)).put d (.ref τ sz off (n+ys.length)))∧K (((s.kill τ).setM τ (appO τ n ⟨ob.sz,ob.es.drop off,ob.flat,ob.ow,ob.kd⟩ ys fy)).put d (.ref τ sz 0 (n+ys.length)))
def kAppO (s : S) (d : Option Nat) (τ zx off n : Nat) (z : Nat) (ys : List (List D)) (fy : Bool) (sz bytes : Nat) (K : S → Prop) (ob : Ob) : Prop :=
  match off with
  | 0=>Chk (z=sz∧zx=sz∧ob.sz=sz∧(0:Nat)=0∧n≤ob.es.length∧ob.kd.isArr=true∧(n+ys.length) * bytes≤140737488355328) K
    (((s.kill τ).setM τ (appO τ n ob ys fy)).put d (.ref τ sz 0 (n+ys.length)))
  | off+1=>kAppW s d τ zx (off+1) n z ys fy sz bytes K ob
theorem appO_flat {τ n z:Nat} {es ys:List (List D)} {ow:Bool} {kd:Kd}:appO τ n ⟨z,es,true,ow,kd⟩ ys true=⟨z,es.take n++ys,true,ow,kd⟩:=(rfl)
theorem appO_open1 {τ n z:Nat} {es ys:List (List D)} {fy ow:Bool} {kd:Kd}:appO τ n ⟨z,es,false,ow,kd⟩ ys fy=⟨z,(es.take n++ys).map fun e=>e.map (D.kill τ),false,ow,kd⟩:=(rfl)
theorem appO_open2 {τ n z:Nat} {es ys:List (List D)} {ow:Bool} {kd:Kd}:appO τ n ⟨z,es,true,ow,kd⟩ ys false=⟨z,(es.take n++ys).map fun e=>e.map (D.kill τ),false,ow,kd⟩:=(rfl)
theorem kAppO_eq {s:S} {d:Option Nat} {τ zx n z z':Nat} {ys es:List (List D)} {fy:Bool} {sz bytes:Nat} {K:S→Prop} {fl ow:Bool} {kd:Kd}:kAppO s d τ zx 0 n z ys fy sz bytes K ⟨z',es,fl,ow,kd⟩ =
  Chk (z=sz∧zx=sz∧z'=sz∧(0:Nat)=0∧n≤es.length∧kd.isArr=true∧(n+ys.length) * bytes≤140737488355328) K
    (((s.kill τ).setM τ (appO τ n ⟨z',es,fl,ow,kd⟩ ys fy)).put d (.ref τ sz 0 (n+ys.length))):=(rfl)
theorem kAppO.two {s:S} {d:Option Nat} {τ zx off n z:Nat} {ys:List (List D)} {fy:Bool} {sz bytes:Nat} {K:S→Prop} {ob:Ob} (h:z=sz∧zx=sz∧ob.sz=sz∧off+n≤ob.es.length∧ob.kd.isArr=true∧ob.ow=false∧(n+ys.length) * bytes≤140737488355328)
    (h1:K (((s.kill τ).setM τ (appO τ (off+n) ob ys fy)).put d (.ref τ sz off (n+ys.length)))) (h2:K (((s.kill τ).setM τ (appO τ n ⟨ob.sz,ob.es.drop off,ob.flat,ob.ow,ob.kd⟩ ys fy)).put d (.ref τ sz 0 (n+ys.length)))):kAppO s d τ zx off n z ys fy sz bytes K ob:=by
  cases off with
  | zero=>exact ⟨⟨h.1,h.2.1,h.2.2.1,rfl,by have:=h.2.2.2.1;omega,h.2.2.2.2.1,h.2.2.2.2.2.2⟩,by rw [Nat.zero_add] at h1;exact h1⟩
  | succ off=>exact ⟨h,h1,h2⟩
def kApp (s : S) (d : Option Nat) (sz bytes : Nat) (K : S → Prop) (x : D) (y : D × Bool) : Prop :=
  match y.1 with
  | .sl z ys =>
    (match x with
    | .nl=>Chk (z=sz∧ys.length * bytes≤140737488355328) K (s.newt d ⟨sz,ys,y.2,false,.arr⟩ (fun τ=>.ref τ sz 0 ys.length))
    | .ref τ zx off n=>kM (s.M τ) (kAppO s d τ zx off n z ys y.2 sz bytes K)
    | _=>False)
  | .nl =>
    (match x with
    | .nl=>K (s.put d .nl)
    | .ref τ zx off n=>K (s.put d (.ref τ zx off n))
    | _=>False)
  | _=>False
section
variable {s:S} {d:Option Nat} {sz bytes:Nat} {k:S→Prop}
theorem kApp_nl {z:Nat} {ys:List (List D)} {f:Bool}:kApp s d sz bytes k .nl (.sl z ys,f)=Chk (z=sz∧ys.length * bytes≤140737488355328) k (s.newt d ⟨sz,ys,f,false,.arr⟩ (fun τ=>.ref τ sz 0 ys.length)):=(rfl)
theorem kApp_ref {z:Nat} {ys:List (List D)} {f:Bool} {τ zx off n:Nat}:kApp s d sz bytes k (.ref τ zx off n) (.sl z ys,f)=kM (s.M τ) (kAppO s d τ zx off n z ys f sz bytes k):=(rfl)
theorem kApp_nn {f:Bool}:kApp s d sz bytes k .nl (.nl,f)=k (s.put d .nl):=(rfl)
theorem kApp_rn {f:Bool} {τ zx off n:Nat}:kApp s d sz bytes k (.ref τ zx off n) (.nl,f)=k (s.put d (.ref τ zx off n)):=(rfl)
theorem src_sl {es:List (List D)}:s.src (.sl sz es)=(.sl sz es,true):=(rfl)
theorem src_nl:s.src .nl=(.nl,true):=(rfl)
theorem src_ref {τ off n:Nat}:s.src (.ref τ sz off n)=srcO (s.M τ) sz off n:=(rfl)
end
def kMk (s:S) (d:Option Nat) (sz:Nat) (zero:List D) (bytes:Nat) (K:S→Prop) (x:D):Prop :=
  match x with
  | .v (.int .i64 z)=>Chk (0≤z∧z * bytes≤140737488355328) K (s.newt d ⟨sz,List.replicate z.toNat zero,true,false,.arr⟩ (fun τ=>.ref τ sz 0 z.toNat))
  | _=>False
theorem kMk_v {s:S} {d:Option Nat} {z:Int} {sz:Nat} {zero:List D} {bytes:Nat} {K:S→Prop} :
    kMk s d sz zero bytes K (.v (.int .i64 z))=Chk (0≤z∧z * bytes≤140737488355328) K (s.newt d ⟨sz,List.replicate z.toNat zero,true,false,.arr⟩ (fun τ=>.ref τ sz 0 z.toNat)):=(rfl)
def kAppz (s:S) (d:Option Nat) (sz:Nat) (zero:List D) (bytes:Nat) (K:S→Prop) (x y:D):Prop :=
  match x,y with
  | .nl,.v (.int .i64 z)=>Chk (0<z∧z * bytes≤140737488355328) K (s.newt d ⟨sz,List.replicate z.toNat zero,true,false,.arr⟩ (fun τ=>.ref τ sz 0 z.toNat))
  | _,_=>False
theorem kAppz_nl {s:S} {d:Option Nat} {z:Int} {sz:Nat} {zero:List D} {bytes:Nat} {K:S→Prop} :
    kAppz s d sz zero bytes K .nl (.v (.int .i64 z))=Chk (0<z∧z * bytes≤140737488355328) K (s.newt d ⟨sz,List.replicate z.toNat zero,true,false,.arr⟩ (fun τ=>.ref τ sz 0 z.toNat)):=(rfl)
def kRows (s:S) (d:Option Nat) (n:Nat) (isRef:Bool) (K:S→Prop) (xs:List (List D)):Prop :=
  Chk (xs.all (fun e=>e.length == n && e.all D.one)=true) K (s.newt d ⟨n,xs,xs.all (fun e=>e.all D.cl),false,if isRef then .arr else .fix⟩ fun τ=>if isRef then .ref τ n 0 xs.length else .ptr τ n 0 0)
def kStO (s:S) (d:Option Nat) (τ z i o:Nat) (y:D) (K:S→Prop) (ob:Ob):Prop :=
  Chk (ob.sz=z∧i<ob.es.length∧o<z∧y.one=true∧ob.kd.isMap=false) K ((s.setM τ ⟨z,ob.es.set i ((ob.es.getD i []).set o y),ob.flat && y.cl,ob.ow,ob.kd⟩).put d .junk)
theorem kStO_eq {s:S} {d:Option Nat} {τ z i o z':Nat} {y:D} {K:S→Prop} {es:List (List D)} {fl ow:Bool} {kd:Kd}:kStO s d τ z i o y K ⟨z',es,fl,ow,kd⟩ =
  Chk (z'=z∧i<es.length∧o<z∧y.one=true∧kd.isMap=false) K ((s.setM τ ⟨z,es.set i ((es.getD i []).set o y),fl && y.cl,ow,kd⟩).put d .junk):=(rfl)
def kSt (s:S) (d:Option Nat) (K:S→Prop) (x y:D):Prop :=
  match x with
  | .ptr τ z i o=>kM (s.M τ) (kStO s d τ z i o y K)
  | _=>False
theorem kSt_ptr {s:S} {d:Option Nat} {τ z i o:Nat} {y:D} {K:S→Prop}:kSt s d K (.ptr τ z i o) y=kM (s.M τ) (kStO s d τ z i o y K):=(rfl)
def kStnO (s:S) (d:Option Nat) (τ z i o n:Nat) (ds:List D) (K:S→Prop) (ob:Ob):Prop :=
  Chk (ob.sz=z∧i<ob.es.length∧o+n≤z∧ds.length=n∧ds.all D.one=true∧ob.kd.isMap=false) K ((s.setM τ ⟨z,ob.es.set i (splice (ob.es.getD i []) o ds),ob.flat && ds.all D.cl,ob.ow,ob.kd⟩).put d .junk)
theorem kStnO_eq {s:S} {d:Option Nat} {τ z i o n z':Nat} {ds:List D} {K:S→Prop} {es:List (List D)} {fl ow:Bool} {kd:Kd}:kStnO s d τ z i o n ds K ⟨z',es,fl,ow,kd⟩ =
  Chk (z'=z∧i<es.length∧o+n≤z∧ds.length=n∧ds.all D.one=true∧kd.isMap=false) K ((s.setM τ ⟨z,es.set i (splice (es.getD i []) o ds),fl && ds.all D.cl,ow,kd⟩).put d .junk):=(rfl)
def kStn (s:S) (d:Option Nat) (n:Nat) (K:S→Prop) (x y:D):Prop :=
  match x,y with
  | .ptr τ z i o,.ag ds=>kM (s.M τ) (kStnO s d τ z i o n ds K)
  | _,_=>False
theorem kStn_ptr {s:S} {d:Option Nat} {τ z i o n:Nat} {ds:List D} {K:S→Prop}:kStn s d n K (.ptr τ z i o) (.ag ds)=kM (s.M τ) (kStnO s d τ z i o n ds K):=(rfl)
def kSlaO (τ z i o n:Nat) (k:D→Prop) (ob:Ob):Prop:=ChkD (ob.sz=z∧i<ob.es.length∧o+n≤z∧ob.kd.isMap=false) (.ref τ 1 (i * z+o) n) k
theorem kSlaO_eq {τ z i o n z':Nat} {k:D→Prop} {es:List (List D)} {fl ow:Bool} {kd:Kd}:kSlaO τ z i o n k ⟨z',es,fl,ow,kd⟩=ChkD (z'=z∧i<es.length∧o+n≤z∧kd.isMap=false) (.ref τ 1 (i * z+o) n) k:=(rfl)
def kSla (s:S) (x:D) (n:Nat) (k:D→Prop):Prop :=
  match x with
  | .ptr τ z i o=>kM (s.M τ) (kSlaO τ z i o n k)
  | _=>False
theorem kSla_ptr {s:S} {τ z i o n:Nat} {k:D→Prop}:kSla s (.ptr τ z i o) n k=kM (s.M τ) (kSlaO τ z i o n k):=(rfl)
def cpyD (n:Nat) (es:List (List D)):List D:=(es.take n).map fun e=>e.getD 0 .junk
def cpyR (off n:Nat) (es es':List (List D)):List (List D):=es.take off++es'.take n++es.drop (off+min es'.length n)
def kCpyP (s:S) (d:Option Nat) (τ off n:Nat) (es':List (List D)) (K:S→Prop) (ob:Ob):Prop :=
  Chk (ob.sz=1∧off+n≤ob.es.length∧ob.kd.isMap=false) K ((s.setM τ ⟨ob.sz,cpyR off n ob.es es',ob.flat,ob.ow,ob.kd⟩).put d (.v (.int .i64 (min es'.length n:Nat))))
theorem kCpyP_eq {s:S} {d:Option Nat} {τ off n z:Nat} {es' es:List (List D)} {K:S→Prop} {fl ow:Bool} {kd:Kd}:kCpyP s d τ off n es' K ⟨z,es,fl,ow,kd⟩ =
  Chk (z=1∧off+n≤es.length∧kd.isMap=false) K ((s.setM τ ⟨z,cpyR off n es es',fl,ow,kd⟩).put d (.v (.int .i64 (min es'.length n:Nat)))):=(rfl)
def kCpyO (s:S) (d:Option Nat) (τ off n:Nat) (es':List (List D)) (K:S→Prop) (ob:Ob):Prop :=
  if ob.sz=1 then kCpyP s d τ off n es' K ob
  else Chk (ob.es.length=1∧off+n≤ob.sz∧ob.kd.isMap=false) K ((s.setM τ ⟨ob.sz,[splice (ob.es.getD 0 []) off (cpyD n es')],ob.flat,ob.ow,ob.kd⟩).put d (.v (.int .i64 (min es'.length n:Nat))))
theorem kCpyO_eq {s:S} {d:Option Nat} {τ off n z:Nat} {es' es:List (List D)} {K:S→Prop} {fl ow:Bool} {kd:Kd} (hz:¬ z=1):kCpyO s d τ off n es' K ⟨z,es,fl,ow,kd⟩ =
  Chk (es.length=1∧off+n≤z∧kd.isMap=false) K ((s.setM τ ⟨z,[splice (es.getD 0 []) off (cpyD n es')],fl,ow,kd⟩).put d (.v (.int .i64 (min es'.length n:Nat)))):=if_neg hz
theorem kCpyO_1 {s:S} {d:Option Nat} {τ off n:Nat} {es' es:List (List D)} {K:S→Prop} {fl ow:Bool} {kd:Kd}:kCpyO s d τ off n es' K ⟨1,es,fl,ow,kd⟩=kCpyP s d τ off n es' K ⟨1,es,fl,ow,kd⟩:=if_pos rfl
def kCpyT (d:Option Nat) (τ off n:Nat) (es':List (List D)) (K:S→Prop) (s:S):Prop:=kM (s.M τ) (kCpyP s d τ off n es' K)
theorem kCpyT_eq {s:S} {d:Option Nat} {τ off n:Nat} {es':List (List D)} {K:S→Prop}:kCpyT d τ off n es' K s=kM (s.M τ) (kCpyP s d τ off n es' K):=(rfl)
def kCpyW (s:S) (d:Option Nat) (τ off n off' n':Nat) (K:S→Prop) (ob:Ob):Prop :=
  Chk (ob.sz=1∧ob.kd.isMap=false∧off'+n'≤ob.es.length∧(ob.es.all fun e=>e.all D.cl)=true) (kCpyT d τ off n ((ob.es.drop off').take n') K) s
theorem kCpyW_eq {s:S} {d:Option Nat} {τ off n off' n' z:Nat} {K:S→Prop} {es:List (List D)} {fl ow:Bool} {kd:Kd}:kCpyW s d τ off n off' n' K ⟨z,es,fl,ow,kd⟩ =
  Chk (z=1∧kd.isMap=false∧off'+n'≤es.length∧(es.all fun e=>e.all D.cl)=true) (kCpyT d τ off n ((es.drop off').take n') K) s:=(rfl)
def kCpy (s:S) (d:Option Nat) (K:S→Prop) (x y:D):Prop :=
  match x,y with
  | .ref τ z off n,.sl z' es'=>(z=1∧z'=1)∧kM (s.M τ) (kCpyO s d τ off n es' K)
  | .ref τ z off n,.ref τ' z' off' n'=>(z=1∧z'=1)∧kM (s.M τ') (kCpyW s d τ off n off' n' K)
  | _,_=>False
theorem kCpy_sl {s:S} {d:Option Nat} {τ off n:Nat} {es':List (List D)} {K:S→Prop}:kCpy s d K (.ref τ 1 off n) (.sl 1 es')=kM (s.M τ) (kCpyO s d τ off n es' K):=by simp [kCpy]
theorem kCpy_rr {s:S} {d:Option Nat} {τ off n τ' off' n':Nat} {K:S→Prop}:kCpy s d K (.ref τ 1 off n) (.ref τ' 1 off' n')=kM (s.M τ') (kCpyW s d τ off n off' n' K):=by simp [kCpy]
def kdB (kd:Kd) (ks:List IntKind) (ka va:Bool):Prop:=kd=.map ks ka va
theorem kdB_eq {ks:List IntKind} {ka va:Bool}:kdB (.map ks ka va) ks ka va=True:=by simp [kdB]
def keyP:List IntKind→List D→Prop
  | [],[]=>True
  | q::ks,.v (.int q' n)::ds=>(q'=q∧(Lit.int q n).wf=true)∧keyP ks ds
  | _,_=>False
theorem keyP_nil:keyP [] []=True:=(rfl)
theorem keyP_i64 {ks:List IntKind} {n:Int} {ds:List D}:keyP (.i64::ks) (.v (.int .i64 n)::ds)=((-9223372036854775808≤n∧n≤9223372036854775807)∧keyP ks ds):=by simp [keyP,Lit.wf,IntKind.min,IntKind.max,IntKind.signed,IntKind.bits]
theorem keyP_u8 {ks:List IntKind} {n:Int} {ds:List D}:keyP (.u8::ks) (.v (.int .u8 n)::ds)=((0≤n∧n≤255)∧keyP ks ds):=by simp [keyP,Lit.wf,IntKind.min,IntKind.max,IntKind.signed,IntKind.bits]
theorem keyP_u32 {ks:List IntKind} {n:Int} {ds:List D}:keyP (.u32::ks) (.v (.int .u32 n)::ds)=((0≤n∧n≤4294967295)∧keyP ks ds):=by simp [keyP,Lit.wf,IntKind.min,IntKind.max,IntKind.signed,IntKind.bits]
theorem keyP_u64 {ks:List IntKind} {n:Int} {ds:List D}:keyP (.u64::ks) (.v (.int .u64 n)::ds)=((0≤n∧n≤18446744073709551615)∧keyP ks ds):=by simp [keyP,Lit.wf,IntKind.min,IntKind.max,IntKind.signed,IntKind.bits]
def Agr:List D→List D→Prop
  | .v x::l,d::r=>.v x=d∧Agr l r
  | _::l,_::r=>Agr l r
  | _,_=>True
theorem Agr_nil {l:List D}:Agr [] l=True:=by cases l<;>rfl
theorem Agr_v {x:Value} {l:List D} {d:D} {r:List D}:Agr (.v x::l) (d::r)=(.v x=d∧Agr l r):=(rfl)
def BrK {α:Type} (es:List (List D)) (n:Nat) (kd:List D) (f:Nat→Prop) (g:α→Prop) (x:α):Prop :=
  (∀ i,i<es.length→Agr ((es.getD i []).take n) kd→f i)∧((∀ i,i<es.length→(es.getD i []).take n ≠ kd)→g x)
theorem BrK.mk {α:Type} {es:List (List D)} {n:Nat} {kd:List D} {f:Nat→Prop} {g:α→Prop} {x:α} (h:∀ i,i<es.length→Agr ((es.getD i []).take n) kd→f i) (k:(∀ i,i<es.length→(es.getD i []).take n ≠ kd)→g x):BrK es n kd f g x:=⟨h,k⟩
def kVc (va:Bool) (d:D) (k:List D→Prop):Prop :=
  match va with
  | true=>(match d with|.ag ds=>k ds|_=>False)
  | false=>ChkD (d.one=true) [d] k
theorem kVc_t {ds:List D} {k:List D→Prop}:kVc true (.ag ds) k=kD ds k:=(rfl)
theorem kVc_f {d:D} {k:List D→Prop}:kVc false d k=ChkD (d.one=true) [d] k:=(rfl)
def mkvD (va:Bool) (l:List D):D:=if va then .ag l else l.getD 0 .junk
theorem mkvD_t {l:List D}:mkvD true l=.ag l:=(rfl)
theorem mkvD_f {l:List D}:mkvD false l=l.getD 0 .junk:=(rfl)
def mokD (ok:Bool) (d:D) (b:Bool):D:=if ok then .tu [d,.v (.bool b)] else d
theorem mokD_t {d:D} {b:Bool}:mokD true d b=.tu [d,.v (.bool b)]:=(rfl)
theorem mokD_f {d:D} {b:Bool}:mokD false d b=d:=(rfl)
def mlkF (es:List (List D)) (n:Nat) (va ok:Bool) (k:D→Prop) (i:Nat):Prop:=kD (mokD ok (mkvD va ((es.getD i []).drop n)) true) k
theorem mlkF_eq {es:List (List D)} {n:Nat} {va ok:Bool} {k:D→Prop} {i:Nat}:mlkF es n va ok k i=kD (mokD ok (mkvD va ((es.getD i []).drop n)) true) k:=(rfl)
def kMlkK (es:List (List D)) (ks:List IntKind) (va ok:Bool) (zero:List D) (k:D→Prop) (kc:List D):Prop:=Chk (keyP ks kc) (BrK es ks.length kc (mlkF es ks.length va ok k) k) (mokD ok (mkvD va zero) false)
theorem kMlkK_eq {es:List (List D)} {ks:List IntKind} {va ok:Bool} {zero:List D} {k:D→Prop} {kc:List D}:kMlkK es ks va ok zero k kc=Chk (keyP ks kc) (BrK es ks.length kc (mlkF es ks.length va ok k) k) (mokD ok (mkvD va zero) false):=(rfl)
def kMlkO (y:D) (ks:List IntKind) (ka va:Bool) (vz:Nat) (ok:Bool) (zero:List D) (k:D→Prop) (ob:Ob):Prop:=(kdB ob.kd ks ka va∧ob.sz=ks.length+vz∧ob.ow=false)∧kVc ka y (kMlkK ob.es ks va ok zero k)
theorem kMlkO_eq {y:D} {ks:List IntKind} {ka va:Bool} {vz:Nat} {ok:Bool} {zero:List D} {k:D→Prop} {z:Nat} {es:List (List D)} {fl:Bool} {kd:Kd}:kMlkO y ks ka va vz ok zero k ⟨z,es,fl,false,kd⟩=((kdB kd ks ka va∧z=ks.length+vz)∧kVc ka y (kMlkK es ks va ok zero k)):=by simp [kMlkO]
def kMlk (s:S) (x y:D) (ks:List IntKind) (ka va:Bool) (vz:Nat) (ok:Bool) (zero:List D) (k:D→Prop):Prop :=
  match x with
  | .mp τ=>kM (s.M τ) (kMlkO y ks ka va vz ok zero k)
  | _=>False
theorem kMlk_mp {s:S} {τ:Nat} {y:D} {ks:List IntKind} {ka va:Bool} {vz:Nat} {ok:Bool} {zero:List D} {k:D→Prop}:kMlk s (.mp τ) y ks ka va vz ok zero k=kM (s.M τ) (kMlkO y ks ka va vz ok zero k):=(rfl)
def kMlenO (k:D→Prop) (ob:Ob):Prop:=ob.kd.isMp=true∧k (.v (.int .i64 ob.es.length))
theorem kMlenO_eq {k:D→Prop} {z:Nat} {es:List (List D)} {fl w:Bool} {ks:List IntKind} {ka va:Bool}:kMlenO k ⟨z,es,fl,w,.map ks ka va⟩=kD (.v (.int .i64 es.length)) k:=by simp [kMlenO,Kd.isMp,kD]
def kMlen (s:S) (x:D) (k:D→Prop):Prop :=
  match x with
  | .mp τ=>kM (s.M τ) (kMlenO k)
  | _=>False
theorem kMlen_mp {s:S} {τ:Nat} {k:D→Prop}:kMlen s (.mp τ) k=kM (s.M τ) (kMlenO k):=(rfl)
def itO (σ m:Nat) (l:List Nat):Ob:=⟨1,[.mp σ]::[.v (.int .i64 (m:Int))]::l.map (fun (i:Nat)=>[D.v (.int .i64 (i:Int))]),false,false,.itr⟩
def kRngO (s:S) (d:Option Nat) (K:S→Prop) (τ:Nat) (ob:Ob):Prop:=Chk (ob.kd.isMp=true) K (s.newt d (itO τ ob.es.length []) fun υ=>.ptr υ 1 0 0)
theorem kRngO_eq {s:S} {d:Option Nat} {K:S→Prop} {τ z:Nat} {es:List (List D)} {fl w:Bool} {kd:Kd}:kRngO s d K τ ⟨z,es,fl,w,kd⟩=Chk (kd.isMp=true) K (s.newt d (itO τ es.length []) fun υ=>.ptr υ 1 0 0):=(rfl)
def kRng (s:S) (d:Option Nat) (K:S→Prop) (x:D):Prop :=
  match x with
  | .mp τ=>kM (s.M τ) (kRngO s d K τ)
  | _=>False
theorem kRng_mp {s:S} {d:Option Nat} {K:S→Prop} {τ:Nat}:kRng s d K (.mp τ)=kM (s.M τ) (kRngO s d K τ):=(rfl)
inductive NxtVC (d:Option Nat) (K:S→Prop) (s:S):D→Prop
  | mk (τ σ m:Nat) (l:List Nat) (ob:Ob) (h1:s.M τ=some (itO σ m l)) (h2:s.M σ=some ob) (h3:ob.kd.isMp=true) (h4:ob.es.length=m) (h5:(∀ i,i<m→i ∈ l)→K (s.put d (.tu [.v (.bool false)])))
      (h6:∀ i,i<m→i ∉ l→K ((s.setM τ (itO σ m (l++[i]))).put d (.tu [.v (.bool true),.junk,.junk]))):NxtVC d K s (.ptr τ 1 0 0)
inductive EntVC (d:Option Nat) (K:S→Prop) (s:S):D→Prop
  | mk (τ σ m i:Nat) (l:List Nat) (ob:Ob) (ks:List IntKind) (ka va:Bool) (h1:s.M τ=some (itO σ m (l++[i]))) (h2:s.M σ=some ob) (h3:ob.kd=.map ks ka va) (h4:ob.es.length=m) (h5:i<m) (h6:ob.ow=false)
      (hk:K (s.put d (.tu [mkvD ka ((ob.es.getD i []).take ks.length),mkvD va ((ob.es.getD i []).drop ks.length)]))):EntVC d K s (.ptr τ 1 0 0)
def mupF (s:S) (d:Option Nat) (τ n:Nat) (ob:Ob) (kc vs:List D) (K:S→Prop) (i:Nat):Prop:=K ((s.setM τ ⟨ob.sz,ob.es.set i (kc++vs),ob.flat && vs.all D.cl,false,ob.kd⟩).put d .junk)
theorem mupF_eq {s:S} {d:Option Nat} {τ n z:Nat} {es:List (List D)} {fl w:Bool} {kd:Kd} {kc vs:List D} {K:S→Prop} {i:Nat}:mupF s d τ n ⟨z,es,fl,w,kd⟩ kc vs K i=K ((s.setM τ ⟨z,es.set i (kc++vs),fl && vs.all D.cl,false,kd⟩).put d .junk):=(rfl)
def mupG (s:S) (d:Option Nat) (τ:Nat) (ob:Ob) (vs:List D) (K:S→Prop) (kc:List D):Prop:=K ((s.setM τ ⟨ob.sz,ob.es++[kc++vs],ob.flat && vs.all D.cl,false,ob.kd⟩).put d .junk)
theorem mupG_eq {s:S} {d:Option Nat} {τ z:Nat} {es:List (List D)} {fl w:Bool} {kd:Kd} {kc vs:List D} {K:S→Prop}:mupG s d τ ⟨z,es,fl,w,kd⟩ vs K kc=K ((s.setM τ ⟨z,es++[kc++vs],fl && vs.all D.cl,false,kd⟩).put d .junk):=(rfl)
def kMupV (s:S) (d:Option Nat) (τ:Nat) (ob:Ob) (ks:List IntKind) (vz:Nat) (K:S→Prop) (kc vs:List D):Prop :=
  Chk (keyP ks kc∧vs.length=vz∧vs.all D.one=true) (BrK ob.es ks.length kc (mupF s d τ ks.length ob kc vs K) (mupG s d τ ob vs K)) kc
theorem kMupV_eq {s:S} {d:Option Nat} {τ:Nat} {ob:Ob} {ks:List IntKind} {vz:Nat} {K:S→Prop} {kc vs:List D}:kMupV s d τ ob ks vz K kc vs=Chk (keyP ks kc∧vs.length=vz∧vs.all D.one=true) (BrK ob.es ks.length kc (mupF s d τ ks.length ob kc vs K) (mupG s d τ ob vs K)) kc:=(rfl)
def kMupK (s:S) (d:Option Nat) (τ:Nat) (ob:Ob) (ks:List IntKind) (va:Bool) (vz:Nat) (z:D) (K:S→Prop) (kc:List D):Prop:=kVc va z (kMupV s d τ ob ks vz K kc)
theorem kMupK_eq {s:S} {d:Option Nat} {τ:Nat} {ob:Ob} {ks:List IntKind} {va:Bool} {vz:Nat} {z:D} {K:S→Prop} {kc:List D}:kMupK s d τ ob ks va vz z K kc=kVc va z (kMupV s d τ ob ks vz K kc):=(rfl)
def kMupO (s:S) (d:Option Nat) (τ:Nat) (y z:D) (ks:List IntKind) (ka va:Bool) (vz:Nat) (K:S→Prop) (ob:Ob):Prop:=(kdB ob.kd ks ka va∧ob.sz=ks.length+vz∧ob.ow=false)∧kVc ka y (kMupK s d τ ob ks va vz z K)
theorem kMupO_eq {s:S} {d:Option Nat} {τ:Nat} {y z:D} {ks:List IntKind} {ka va:Bool} {vz:Nat} {K:S→Prop} {c:Nat} {es:List (List D)} {fl:Bool} {kd:Kd}:kMupO s d τ y z ks ka va vz K ⟨c,es,fl,false,kd⟩=((kdB kd ks ka va∧c=ks.length+vz)∧kVc ka y (kMupK s d τ ⟨c,es,fl,false,kd⟩ ks va vz z K)):=by simp [kMupO]
def kMup (s:S) (d:Option Nat) (x y z:D) (ks:List IntKind) (ka va:Bool) (vz:Nat) (K:S→Prop):Prop :=
  match x with
  | .mp τ=>kM (s.M τ) (kMupO s d τ y z ks ka va vz K)
  | _=>False
theorem kMup_mp {s:S} {d:Option Nat} {τ:Nat} {y z:D} {ks:List IntKind} {ka va:Bool} {vz:Nat} {K:S→Prop}:kMup s d (.mp τ) y z ks ka va vz K=kM (s.M τ) (kMupO s d τ y z ks ka va vz K):=(rfl)
def menF (s:S) (d:Option Nat) (n:Nat) (es:List (List D)) (va:Bool) (K:S→Prop) (i:Nat):Prop:=kD (.tu [mkvD va ((es.getD i []).drop n),.v (.int .i64 i)]) (putK d s K)
theorem menF_eq {s:S} {d:Option Nat} {n:Nat} {es:List (List D)} {va:Bool} {K:S→Prop} {i:Nat}:menF s d n es va K i=kD (.tu [mkvD va ((es.getD i []).drop n),.v (.int .i64 i)]) (putK d s K):=(rfl)
def menG (s:S) (d:Option Nat) (τ:Nat) (ob:Ob) (va:Bool) (zero:List D) (K:S→Prop) (kc:List D):Prop:=K ((s.setM τ ⟨ob.sz,ob.es++[kc++zero],ob.flat,false,ob.kd⟩).put d (.tu [mkvD va zero,.v (.int .i64 ob.es.length)]))
theorem menG_eq {s:S} {d:Option Nat} {τ z:Nat} {es:List (List D)} {fl w:Bool} {kd:Kd} {va:Bool} {zero kc:List D} {K:S→Prop}:menG s d τ ⟨z,es,fl,w,kd⟩ va zero K kc=K ((s.setM τ ⟨z,es++[kc++zero],fl,false,kd⟩).put d (.tu [mkvD va zero,.v (.int .i64 es.length)])):=(rfl)
def kMenK (s:S) (d:Option Nat) (τ:Nat) (ob:Ob) (ks:List IntKind) (va:Bool) (zero:List D) (K:S→Prop) (kc:List D):Prop :=
  Chk (keyP ks kc) (BrK ob.es ks.length kc (menF s d ks.length ob.es va K) (menG s d τ ob va zero K)) kc
theorem kMenK_eq {s:S} {d:Option Nat} {τ z:Nat} {es:List (List D)} {fl w:Bool} {kd:Kd} {ks:List IntKind} {va:Bool} {zero:List D} {K:S→Prop} {kc:List D}:kMenK s d τ ⟨z,es,fl,w,kd⟩ ks va zero K kc=Chk (keyP ks kc) (BrK es ks.length kc (menF s d ks.length es va K) (menG s d τ ⟨z,es,fl,w,kd⟩ va zero K)) kc:=(rfl)
def kMenO (s:S) (d:Option Nat) (τ:Nat) (y:D) (ks:List IntKind) (ka va:Bool) (vz:Nat) (zero:List D) (K:S→Prop) (ob:Ob):Prop:=(kdB ob.kd ks ka va∧ob.sz=ks.length+vz∧ob.ow=false)∧kVc ka y (kMenK s d τ ob ks va zero K)
theorem kMenO_eq {s:S} {d:Option Nat} {τ:Nat} {y:D} {ks:List IntKind} {ka va:Bool} {vz:Nat} {zero:List D} {K:S→Prop} {c:Nat} {es:List (List D)} {fl:Bool} {kd:Kd}:kMenO s d τ y ks ka va vz zero K ⟨c,es,fl,false,kd⟩=((kdB kd ks ka va∧c=ks.length+vz)∧kVc ka y (kMenK s d τ ⟨c,es,fl,false,kd⟩ ks va zero K)):=by simp [kMenO]
def kMen (s:S) (d:Option Nat) (x y:D) (ks:List IntKind) (ka va:Bool) (vz:Nat) (zero:List D) (K:S→Prop):Prop :=
  match x with
  | .mp τ=>kM (s.M τ) (kMenO s d τ y ks ka va vz zero K)
  | _=>False
theorem kMen_mp {s:S} {d:Option Nat} {τ:Nat} {y:D} {ks:List IntKind} {ka va:Bool} {vz:Nat} {zero:List D} {K:S→Prop}:kMen s d (.mp τ) y ks ka va vz zero K=kM (s.M τ) (kMenO s d τ y ks ka va vz zero K):=(rfl)
def kMesV (s:S) (d:Option Nat) (τ:Nat) (ob:Ob) (n:Nat) (vz:Nat) (j:Int) (K:S→Prop) (vs:List D):Prop :=
  Chk ((0≤j∧j<ob.es.length∧vs.length=vz)∧vs.all D.one=true) K ((s.setM τ ⟨ob.sz,ob.es.set j.toNat ((ob.es.getD j.toNat []).take n++vs),ob.flat && vs.all D.cl,false,ob.kd⟩).put d .junk)
theorem kMesV_eq {s:S} {d:Option Nat} {τ z:Nat} {es:List (List D)} {fl w:Bool} {kd:Kd} {n vz:Nat} {j:Int} {K:S→Prop} {vs:List D}:kMesV s d τ ⟨z,es,fl,w,kd⟩ n vz j K vs =
  Chk ((0≤j∧j<es.length∧vs.length=vz)∧vs.all D.one=true) K ((s.setM τ ⟨z,es.set j.toNat ((es.getD j.toNat []).take n++vs),fl && vs.all D.cl,false,kd⟩).put d .junk):=(rfl)
def kMesO (s:S) (d:Option Nat) (τ:Nat) (j:Int) (z:D) (ks:List IntKind) (ka va:Bool) (vz:Nat) (K:S→Prop) (ob:Ob):Prop:=(kdB ob.kd ks ka va∧ob.sz=ks.length+vz∧ob.ow=false)∧kVc va z (kMesV s d τ ob ks.length vz j K)
theorem kMesO_eq {s:S} {d:Option Nat} {τ:Nat} {j:Int} {z:D} {ks:List IntKind} {ka va:Bool} {vz:Nat} {K:S→Prop} {c:Nat} {es:List (List D)} {fl:Bool} {kd:Kd}:kMesO s d τ j z ks ka va vz K ⟨c,es,fl,false,kd⟩=((kdB kd ks ka va∧c=ks.length+vz)∧kVc va z (kMesV s d τ ⟨c,es,fl,false,kd⟩ ks.length vz j K)):=by simp [kMesO]
def kMes (s:S) (d:Option Nat) (x y z:D) (ks:List IntKind) (ka va:Bool) (vz:Nat) (K:S→Prop):Prop :=
  match x,y with
  | .mp τ,.v (.int .i64 j)=>kM (s.M τ) (kMesO s d τ j z ks ka va vz K)
  | _,_=>False
theorem kMes_mp {s:S} {d:Option Nat} {τ:Nat} {j:Int} {z:D} {ks:List IntKind} {ka va:Bool} {vz:Nat} {K:S→Prop}:kMes s d (.mp τ) (.v (.int .i64 j)) z ks ka va vz K=kM (s.M τ) (kMesO s d τ j z ks ka va vz K):=(rfl)
def BrE (p:Prop) (k:D→Prop) (x y:D):Prop:=(p→k x)∧(¬ p→k y)
theorem BrE.mk {p:Prop} {k:D→Prop} {x y:D} (h:p→k x) (h2:¬ p→k y):BrE p k x y:=⟨h,h2⟩
def kEqs (neg:Bool) (x y:D) (ks:List IntKind) (k:D→Prop):Prop :=
  match x,y with
  | .ag ds,.ag es=>Chk (keyP ks ds∧keyP ks es) (BrE (ds=es) k (.v (.bool (!neg)))) (.v (.bool neg))
  | _,_=>False
theorem kEqs_ag {neg:Bool} {ds es:List D} {ks:List IntKind} {k:D→Prop}:kEqs neg (.ag ds) (.ag es) ks k=Chk (keyP ks ds∧keyP ks es) (BrE (ds=es) k (.v (.bool (!neg)))) (.v (.bool neg)):=(rfl)
def kBlaS (off sz:Nat) (cells:List D) (go:List D→Prop) (ds:List D):Prop:=ChkD (ds.length=sz∧off+sz≤cells.length∧ds.all D.one=true) (splice cells off ds) go
def kBla (s:S) (k:D→Prop) (sz:Nat):List (Nat × O)→List D→Prop
  | [],cells=>k (.ag cells)
  | (i,o)::r,cells=>kBlaS (i * sz) sz cells (kBla s k sz r) (s.g o).cells
def kNck (x:D) (k:D→Prop):Prop :=
  match x with
  | .ip e o=>k (.ip e o)
  | .ptr τ z i o=>k (.ptr τ z i o)
  | .clo f ds=>k (.clo f ds)
  | _=>False
theorem kNck_ip {e:List D} {o:Nat} {k:D→Prop}:kNck (.ip e o) k=k (.ip e o):=(rfl)
theorem kNck_ptr {τ z i o:Nat} {k:D→Prop}:kNck (.ptr τ z i o) k=k (.ptr τ z i o):=(rfl)
theorem kNck_clo {f:FuncId} {ds:List D} {k:D→Prop}:kNck (.clo f ds) k=k (.clo f ds):=(rfl)
def kCallv (P:Program) (d:Option Nat) (K:S→Prop) (s:S) (args:List D) (x:D):Prop :=
  match x with
  | .clo f ds=>CallVC P f d K (args++ds) s
  | _=>False
def vcI (P:Program) (i:MI) (d:Option Nat) (K:S→Prop) (s:S):Prop :=
  match i with
  | .mov x=>kD (s.g x) (putK d s K)
  | .pick c a b=>kPick (s.g c) (s.g a) (s.g b) (putK d s K)
  | .len x=>kLen (s.g x) (putK d s K)
  | .idx x i sz=>kIdx (s.g x) (s.g i) sz (putK d s K)
  | .idxa x i sz n=>kIdxa (s.g x) (s.g i) sz n (putK d s K)
  | .idxv x i sz n agg=>kIdxv (s.g x) (s.g i) sz n agg (putK d s K)
  | .fld x off=>kFld (s.g x) off (putK d s K)
  | .ld1 x=>kLd s (s.g x) (putS d K)
  | .ldn x n=>kLdw s x n (putS d K) (s.g x)
  | .bin op x y=>kBin op (s.g x) (s.g y) (putK d s K)
  | .eqb neg x y=>kEqb neg (s.g x) (s.g y) (putK d s K)
  | .appz x n sz zero bytes=>kAppz s d sz zero bytes K (s.g x) (s.g n)
  | .isnil neg x=>kIsnil neg (s.g x) (putK d s K)
  | .cap x=>kCap (s.g x) (putK d s K)
  | .not x=>kNot (s.g x) (putK d s K)
  | .neg x=>kNeg (s.g x) (putK d s K)
  | .cvi q x=>kCvi q (s.g x) (putK d s K)
  | .ext x i=>kExt (s.g x) i (putK d s K)
  | .getf x off n agg=>kGetf (s.g x) off n agg (putK d s K)
  | .sub x lo hi sz=>kSub (s.g x) (s.lo lo) (s.hi (s.g x) hi) sz (putK d s K)
  | .mkf f ds=>kD (.clo f (ds.map s.g)) (putK d s K)
  | .min x y=>kMin false (s.g x) (s.g y) (putK d s K)
  | .max x y=>kMin true (s.g x) (s.g y) (putK d s K)
  | .bld zero parts=>kBld s (putK d s K) parts zero
  | .nil sz=>K (s.newt d ⟨sz,[],true,false,.arr⟩ fun τ=>.ref τ sz 0 0)
  | .new zero=>K (s.newt d ⟨zero.length,[zero],true,false,.fix⟩ fun τ=>.ptr τ zero.length 0 0)
  | .box x n=>kD [(s.g x).cells] (kRows s d n false K)
  | .mk len sz zero bytes=>kMk s d sz zero bytes K (s.g len)
  | .bsl sz es=>kD (es.map fun o=>(s.g o).cells) (kRows s d sz true K)
  | .st1 x y=>kSt s d K (s.g x) (s.g y)
  | .stn x y n=>kStn s d n K (s.g x) (s.g y)
  | .app x y sz bytes=>kApp s d sz bytes K (s.g x) (s.src (s.g y))
  | .call f args=>CallVC P f d K (args.map s.g) s
  | .callv x args=>kCallv P d K s (args.map s.g) (s.g x)
  | .callp f args=>CallPC P f d K (args.map s.g) s
  | .nck x=>kNck (s.g x) (putK d s K)
  | .mmk ks ka va vz=>K (s.newt d ⟨ks.length+vz,[],true,false,.map ks ka va⟩ fun τ=>.mp τ)
  | .mlen x=>kMlen s (s.g x) (putK d s K)
  | .mlk x y ks ka va vz ok zero=>kMlk s (s.g x) (s.g y) ks ka va vz ok zero (putK d s K)
  | .mup x y z ks ka va vz=>kMup s d (s.g x) (s.g y) (s.g z) ks ka va vz K
  | .men x y ks ka va vz zero=>kMen s d (s.g x) (s.g y) ks ka va vz zero K
  | .mes x y z ks ka va vz=>kMes s d (s.g x) (s.g y) (s.g z) ks ka va vz K
  | .eqs neg x y ks=>kEqs neg (s.g x) (s.g y) ks (putK d s K)
  | .bla zero sz parts=>kBla s (putK d s K) sz parts zero
  | .sla x n=>kSla s (s.g x) n (putK d s K)
  | .cpy x y=>kCpy s d K (s.g x) (s.g y)
  | .rng x=>kRng s d K (s.g x)
  | .nxt x=>NxtVC d K s (s.g x)
  | .ent x=>EntVC d K s (s.g x)
  | .bad=>False
def skipK (d:Option Nat) (K:S→Prop) (s:S):Prop:=K (s.put d (.v undef))
def kGd (x:D) (g:Nat) (b:Bool) (f h:S→Prop) (s:S):Prop :=
  match x with
  | .v (.bool t)=>Br t (if b then f else h) (s.put (some g) (.v (.bool true))) (if b then h else f) (s.put (some g) (.v (.bool false)))
  | .v (.tuple _)=>h s
  | _=>False
theorem kGd_u {b:Bool} {g:Nat} {f h:S→Prop} {s:S}:kGd (.v undef) g b f h s=h s:=(rfl)
theorem kGd_t {t:Bool} {g:Nat} {f h:S→Prop} {s:S}:kGd (.v (.bool t)) g true f h s=Br t f (s.put (some g) (.v (.bool true))) h (s.put (some g) (.v (.bool false))):=(rfl)
theorem kGd_f {t:Bool} {g:Nat} {f h:S→Prop} {s:S}:kGd (.v (.bool t)) g false f h s=Br t h (s.put (some g) (.v (.bool true))) f (s.put (some g) (.v (.bool false))):=(rfl)
def vcOps (P:Program):List Op1→(S→Prop)→S→Prop
  | [],K,s=>K s
  | ⟨none,d,i⟩::r,K,s=>vcI P i d (vcOps P r K) s
  | ⟨some (g,b),d,i⟩::r,K,s=>kGd (s.ρ g) g b (vcI P i d (vcOps P r K)) (skipK d (vcOps P r K)) s
def look {α:Type} (t:Nat):List (Nat × α)→Option α
  | []=>none
  | (i,d)::r=>if t=i then some d else look t r
def keepL (s:S):D→D
  | .v x=>.v x
  | .nl=>.nl
  | .sl sz es=>.sl sz es
  | .ip e o=>.ip e o
  | .ptr τ sz i o=>if isFix (s.M τ) then .ptr τ sz i o else .junk
  | .mp τ=>if isFix (s.M τ) then .mp τ else .junk
  | _=>.junk
def D.keep (s:S) (d:D):D:=d.lf (keepL s)
def headD (x:Option D) (c:Bool) (s:S) (t:Nat):D:=match x with|some d=>d|none=>if c then .junk else (s.ρ t).keep s
def S.head (s:S) (asg:List Nat) (ups:List (Nat × D)) (ms:List (Nat × Ob)):S :=
  { s with ρ:=fun t=>headD (look t ups) (asg.contains t) s t,M:=fun τ=>look τ ms }
def Fits (s:S) (ups:List (Nat × D)) (ms:List (Nat × Ob)):Prop:=(∀ p,p ∈ ups→s.ρ p.1=p.2)∧∀ p,p ∈ ms→s.M p.1=some p.2
def kFrzO (τ:Nat) (K:S→Prop) (s:S) (ob:Ob):Prop:=Chk (τ<s.N∧ob.flat=true∧ob.kd.isMap=false) K (s.frz τ ob)
def kFrz (τ:Nat) (K:S→Prop) (s:S):Prop:=kM (s.M τ) (kFrzO τ K s)
def kStayO (τ:Nat) (K:S→Prop) (s:S) (ob:Ob):Prop:=Chk (τ<s.N∧0<ob.es.length∧ob.kd.isMap=false) K (s.setM τ ⟨ob.sz,ob.es,ob.flat,ob.ow,.fix⟩)
def kStay (τ:Nat) (K:S→Prop) (s:S):Prop:=kM (s.M τ) (kStayO τ K s)
def kFltO (τ:Nat) (K:S→Prop) (s:S) (ob:Ob):Prop:=Chk (τ<s.N∧ob.es.all (fun e=>e.all D.clo')=true) K (s.setM τ ⟨ob.sz,ob.es,true,ob.ow,ob.kd⟩)
def kFlt (τ:Nat) (K:S→Prop) (s:S):Prop:=kM (s.M τ) (kFltO τ K s)
def kEmpD (t z:Nat) (K:S→Prop) (s:S) (x:D):Prop:=match x with|.nl=>K (s.newt (some t) ⟨z,[],true,false,.arr⟩ fun τ=>.ref τ z 0 0)|_=>False
def kEmp (t z:Nat) (K:S→Prop) (s:S):Prop:=kEmpD t z K s (s.ρ t)
def kNloO (τ i o z:Nat) (K:S→Prop) (s:S) (ob:Ob):Prop:=Chk (τ<s.N∧i<ob.es.length∧o<ob.sz∧(ob.es.getD i []).getD o .junk=.nl) K (s.setM τ ⟨ob.sz,ob.es.set i ((ob.es.getD i []).set o (.own false z [])),ob.flat,true,ob.kd⟩)
def kNlo (τ i o z:Nat) (K:S→Prop) (s:S):Prop:=kM (s.M τ) (kNloO τ i o z K s)
def kUnfC (τ i o:Nat) (K:S→Prop) (s:S) (ob:Ob) (x:D):Prop :=
  match x with
  | .own ow z es=>K (s.unfold τ i o ob ow z es)
  | _=>False
def kUnfO (τ i o:Nat) (K:S→Prop) (s:S) (ob:Ob):Prop:=ChkD (τ<s.N∧ob.kd.isMap=false∧i<ob.es.length∧o<ob.sz) ((ob.es.getD i []).getD o .junk) (kUnfC τ i o K s ob)
def kUnf (τ i o:Nat) (K:S→Prop) (s:S):Prop:=kM (s.M τ) (kUnfO τ i o K s)
def kWkO (τ i o:Nat) (d':D) (K:S→Prop) (s:S) (ob:Ob):Prop:=(((ob.es.getD i []).getD o .junk).Le d')∧Chk (τ<s.N∧i<ob.es.length∧o<ob.sz∧((ob.es.getD i []).getD o .junk).cl=true∧d'.isOwn=false) K (s.setM τ ⟨ob.sz,ob.es.set i ((ob.es.getD i []).set o d'),ob.flat,ob.ow,ob.kd⟩)
def kWk (τ i o:Nat) (d':D) (K:S→Prop) (s:S):Prop:=kM (s.M τ) (kWkO τ i o d' K s)
def kFoldC (σ τ i o:Nat) (fl:Bool) (K:S→Prop) (s:S) (ob ob':Ob) (x:D):Prop :=
  match x with
  | .ref υ sz off n=>υ=σ∧sz=ob'.sz∧off=0∧n≤ob'.es.length ∧
      (fl=true→(ob.es.set i ((ob.es.getD i []).set o (.own ob'.ow ob'.sz (ob'.es.take n)))).all (fun e=>e.all D.clo')=true)∧ob'.kd.isMap=false∧K (s.fold σ τ i o fl ob (.own ob'.ow ob'.sz (ob'.es.take n)))
  | .mp υ=>υ=σ∧ob'.kd.isMap=true∧ob'.ow=false∧(fl=true→(ob.es.set i ((ob.es.getD i []).set o (.omp ob'.kd ob'.sz ob'.es))).all (fun e=>e.all D.clo')=true)∧K (s.fold σ τ i o fl ob (.omp ob'.kd ob'.sz ob'.es))
  | _=>False
def kFoldB (σ τ i o:Nat) (fl:Bool) (K:S→Prop) (s:S) (ob ob':Ob):Prop :=
  (σ<s.N∧τ<s.N∧σ ≠ τ∧ob'.flat=true∧ob.kd.isMap=false∧i<ob.es.length∧o<ob.sz)∧kFoldC σ τ i o fl K s ob ob' ((ob.es.getD i []).getD o .junk)
def kFoldA (σ τ i o:Nat) (fl:Bool) (K:S→Prop) (s:S) (ob:Ob):Prop:=kM (s.M σ) (kFoldB σ τ i o fl K s ob)
def kFold (σ τ i o:Nat) (fl:Bool) (K:S→Prop) (s:S):Prop:=kM (s.M τ) (kFoldA σ τ i o fl K s)
def loopK {X:Type} (ups:X→List (Nat × D)) (ms:X→List (Nat × Ob)) (μ:X→Nat) (Inv:X→Prop) (n:Nat) (x:X) (s:S):Prop :=
  ∃ s',Ghos s s'∧n≤s'.N ∧ ∃ x',Inv x'∧μ x'<μ x∧Fits (s'.trim n) (ups x') (ms x')
def S.rnd (s:S) (us:List (Nat × D)) (ms:List (Nat × Ob)):S:={ ρ:=fun t=>headD (look t us) false s t,M:=fun τ=>look τ ms,N:=s.N }
def S.putL:S→List Nat→List D→S
  | s,p::ps,d::ds=>S.putL (s.put (some p) d) ps ds
  | s,_,_=>s
def jmpD (c:Bool) (s s2:S) (t:Nat):D:=if c then (s.ρ t).keep s else s2.ρ t
def S.jmp (s s2:S) (L:List Nat):S:={ ρ:=fun t=>jmpD (L.contains t) s s2 t,M:=s2.M,N:=s2.N }
def usOk (L:List Nat) (us:List (Nat × D)):Bool:=us.all fun p => !L.contains p.1
def rfK {X:Type} (us:X→List (Nat × D)) (ms:X→List (Nat × Ob)) (Inv:Nat→X→Prop) (n k:Nat) (s:S):Prop :=
  ∃ s',Ghos s s'∧n≤s'.N ∧ ∃ x',Inv (k+1) x'∧Fits (s'.trim n) (us x') (ms x')
def AltVC (f g:S→Prop) (s:S):Prop:=f s∧g s
theorem AltVC.mk {f g:S→Prop} {s:S} (h:f s) (k:g s):AltVC f g s:=⟨h,k⟩
def vcT (P:Program):DT→(S→Prop)→S→Prop
  | .done,K,s=>K s
  | .op o t,K,s=>vcOps P [o] (vcT P t K) s
  | .alt t u,K,s=>AltVC (vcT P t K) (vcT P u K) s
def cutK {X:Type} (ups:X→List (Nat × D)) (ms:X→List (Nat × Ob)) (Inv:X→Prop) (n:Nat) (s:S):Prop :=
  ∃ s',Ghos s s'∧n≤s'.N ∧ ∃ x',Inv x'∧Fits (s'.trim n) (ups x') (ms x')
def CutVC (P : Program) (asg : List Nat) (t : DT) (K : S → Prop) (s0 : S) : Prop :=
  ∃ (s:S) (X:Type) (ups:X→List (Nat × D)) (ms:X→List (Nat × Ob)) (Inv:X→Prop) (n:Nat),Ghos s0 s∧s.N≤n∧vcT P t (cutK ups ms Inv n) s ∧
    ∀ x,Inv x→K ((s.head asg (ups x) (ms x)).setN n)
def DrawVC (P:Program) (asg:List Nat) (t u:DT) (K:S→Prop) (s:S):Prop:=vcT P t K s∨vcT P u K s∨CutVC P asg t K s∨CutVC P asg u K s
def kSwap (σ τ:Nat) (K:S→Prop) (s:S):Prop:=Chk (σ<s.N∧τ<s.N∧arrO (s.M σ)=true∧arrO (s.M τ)=true) K (s.swap σ τ)
def kCond (x:D) (f g:S→Prop) (s:S):Prop:=match x with|.v (.bool b)=>Br b f s g s|_=>False
theorem kCond_v {b:Bool} {f g:S→Prop} {s:S}:kCond (.v (.bool b)) f g s=Br b f s g s:=(rfl)
inductive Fr where
  | s (c:MC)
  | b (id:Nat)
  | l (J:S→Prop)
  | f (F:Ex→S→Prop)
def MC.size:MC→Nat
  | .skip|.reg _ _|.dreg _ _ _|.exit _|.ret|.bad=>1
  | .seq a b=>a.size+b.size+2
  | .cond _ a b=>a.size+b.size+1
  | .blk _ c=>c.size+2
  | .loop _ c=>c.size+2
  | .rf _ _ _ a c=>a.size+c.size+6
def Fr.size:Fr→Nat
  | .s c=>c.size+1
  | _=>1
def stSize:List Fr→Nat
  | []=>0
  | f::r=>f.size+stSize r
mutual
def vc (P : Program) : MC → List Fr → S → Prop
  | .skip,st,s=>rs P .nrm st s
  | .reg _ ops,st,s=>vcOps P ops (rs P .nrm st) s
  | .dreg asg t u,st,s=>DrawVC P asg t u (rs P .nrm st) s
  | .seq a b,st,s=>vc P a (.s b::st) s
  | .cond c x y,st,s=>kCond (s.g c) (vc P x st) (vc P y st) s
  | .blk id c,st,s=>vc P c (.b id::st) s
  | .loop asg c,st,s0 => ∃ (s:S) (X:Type) (ups:X→List (Nat × D)) (ms:X→List (Nat × Ob)) (μ:X→Nat) (Inv:X→Prop) (x0:X),Ghos s0 s∧Inv x0∧Fits s (ups x0) (ms x0) ∧
      ∀ x,Inv x→vc P c (.l (loopK ups ms μ Inv s.N x)::st) (s.head asg (ups x) (ms x))
  | .rf L g ps a c, st, s0 => ∃ (s : S) (vs : List (List D)) (X : Type) (us : X → List (Nat × D)) (ms : X → List (Nat × Ob)) (Inv : Nat → X → Prop) (x0 : X), Ghos s0 s ∧ IterD P (s.g g) vs ∧ (∀ r, r ∈ vs → r.length = ps.length) ∧ Inv 0 x0 ∧ Fits s (us x0) (ms x0) ∧ (∀ x, usOk L (us x) = true) ∧
      (∀ k x,k<vs.length→Inv k x→vc P a [.f (fun e s1=>match e with
        | .nrm=>vc P c [.f (fun e s2=>match e with
          | .nrm=>rfK us ms Inv s.N k s2
          | .exit i=>rs P (.exit i) st (s.jmp s2 L)
          | .ret=>rs P .ret st (s.jmp s2 L))] s1
        | _=>False)] ((s.rnd (us x) (ms x)).putL ps (vs.getD k []))) ∧
      ∀ x,Inv vs.length x→rs P .nrm st (s.rnd (us x) (ms x))
  | .exit id,st,s=>rs P (.exit id) st s
  | .ret,st,s=>rs P .ret st s
  | .bad,_,_=>False
  termination_by c st=>2 * (c.size+stSize st)+1
  decreasing_by all_goals (simp only [MC.size,stSize,Fr.size];omega)
def rs (P:Program):Ex→List Fr→S→Prop
  | _,[],_=>False
  | e,.f F::_,s=>F e s
  | .nrm,.s c::st,s=>vc P c st s
  | .exit i,.s _::st,s=>rs P (.exit i) st s
  | .ret,.s _::st,s=>rs P .ret st s
  | .nrm,.b _::st,s=>rs P .nrm st s
  | .exit i,.b id::st,s=>if i=id then rs P .nrm st s else rs P (.exit i) st s
  | .ret,.b _::st,s=>rs P .ret st s
  | .nrm,.l J::_,s=>J s
  | .exit i,.l _::st,s=>rs P (.exit i) st s
  | .ret,.l _::st,s=>rs P .ret st s
  termination_by _ st=>2 * stSize st
  decreasing_by all_goals (simp only [stSize,Fr.size];omega)
end
def rfA (P:Program) (c:MC) (F:Ex→S→Prop):Ex→S→Prop
  | .nrm,s=>vc P c [.f F] s
  | _,_=>False
def rfB {X:Type} (P:Program) (L:List Nat) (us:X→List (Nat × D)) (ms:X→List (Nat × Ob)) (Inv:Nat→X→Prop) (n k:Nat) (st:List Fr) (s:S):Ex→S→Prop
  | .nrm,s2=>rfK us ms Inv n k s2
  | .exit i,s2=>rs P (.exit i) st (s.jmp s2 L)
  | .ret,s2=>rs P .ret st (s.jmp s2 L)
def RfVC (P : Program) (L : List Nat) (g : O) (ps : List Nat) (a c : MC) (st : List Fr) (s0 : S) : Prop :=
  ∃ (s:S) (vs:List (List D)) (X:Type) (us:X→List (Nat × D)) (ms:X→List (Nat × Ob)) (Inv:Nat→X→Prop) (x0:X),Ghos s0 s∧IterD P (s.g g) vs∧(∀ r,r ∈ vs→r.length=ps.length)∧Inv 0 x0∧Fits s (us x0) (ms x0)∧(∀ x,usOk L (us x)=true) ∧
    (∀ k x,k<vs.length→Inv k x→vc P a [.f (rfA P c (rfB P L us ms Inv s.N k st s))] ((s.rnd (us x) (ms x)).putL ps (vs.getD k [])))∧∀ x,Inv vs.length x→rs P .nrm st (s.rnd (us x) (ms x))
theorem RfVC_eq {P:Program} {L:List Nat} {g:O} {ps:List Nat} {a c:MC} {st:List Fr} {s:S}:vc P (.rf L g ps a c) st s=RfVC P L g ps a c st s:=by
  rw [vc]
  unfold RfVC
  congr;funext s1;congr;funext vs;congr;funext X;congr;funext us;congr;funext ms;congr;funext Inv;congr;funext x0
  have:∀ k,(fun e s1_1=>match e with|Ex.nrm=>vc P c [Fr.f fun e s2=>match e with|Ex.nrm=>rfK us ms Inv s1.N k s2|Ex.exit i=>rs P (Ex.exit i) st (s1.jmp s2 L)|Ex.ret=>rs P Ex.ret st (s1.jmp s2 L)] s1_1|_=>False)=rfA P c (rfB P L us ms Inv s1.N k st s1):=fun k=>by
    funext e s2
    cases e<;>simp only [rfA]
    congr;funext e s3;cases e<;>rfl
  simp only [this]
def LoopVC (P : Program) (asg : List Nat) (c : MC) (st : List Fr) (s0 : S) : Prop :=
  ∃ (s:S) (X:Type) (ups:X→List (Nat × D)) (ms:X→List (Nat × Ob)) (μ:X→Nat) (Inv:X→Prop) (x0:X),Ghos s0 s∧Inv x0∧Fits s (ups x0) (ms x0) ∧
    ∀ x,Inv x→vc P c (.l (loopK ups ms μ Inv s.N x)::st) (s.head asg (ups x) (ms x))
inductive RO where
  | t (n:Nat)
  | cell (n sz:Nat) (agg:Bool)
def resD:List D→D
  | [d]=>d
  | ds=>.tu ds
def Fin (R:D→Prop) (d:D):Prop := ∃ d',d.Le d'∧R d'
def kCellO (z i o sz:Nat) (agg:Bool) (k:D→Prop) (ob:Ob):Prop :=
  Chk (ob.sz=z∧i<ob.es.length∧o+sz≤z∧0<sz∧ob.kd.isMap=false∧(agg=false→sz=1)) (kD (if agg then .ag (uns ob.ow (((ob.es.getD i []).drop o).take sz)) else ((ob.es.getD i []).getD o .junk).un)) k
def kCell (s:S) (sz:Nat) (agg:Bool) (k:D→Prop) (x:D):Prop :=
  match x with
  | .ptr τ z i o=>kM (s.M τ) (kCellO z i o sz agg k)
  | _=>False
def kRes (s:S) (E:D→Prop):List RO→List D→Prop
  | [],acc=>kD (resD acc) E
  | .t n::r,acc=>kD (s.ρ n) fun x=>kRes s E r (acc++[x])
  | .cell n sz agg::r,acc=>kCell s sz agg (fun x=>kRes s E r (acc++[x])) (s.ρ n)
def resN (s:S) (E:D→Prop) (r:List RO) (acc:List D) (x:D):Prop:=kRes s E r (acc++[x])
def FinC (R:D→Prop) (s:S) (d:D):Prop := ∃ s' g,GhosD s g s'∧Fin R (s'.view (g d))
def finQ (rs:List RO) (R:D→Prop):Ex→S→Prop
  | .exit _,_=>False
  | _,s=>kRes s (FinC R s) rs []
def FinH (n0:Nat) (R:D→List (Option Ob)→Prop) (s:S) (d:D):Prop := ∃ s' g l,GhosD s g s'∧n0≤l.length∧l.length≤s'.N∧(∀ k ob,mOf l k=some ob→(s'.trim l.length).M k=some ob)∧R ((g d).trim l.length) l
def finH (n0:Nat) (rs:List RO) (R:D→List (Option Ob)→Prop):Ex→S→Prop
  | .exit _,_=>False
  | _,s=>kRes s (FinH n0 R s) rs []
def S.init (ds:List D):S:={ ρ:=fun t=>ds.getD t .junk,M:=fun _=>none,N:=0 }
def S.initH (ds:List D) (obs:List Ob):S:={ ρ:=fun t=>ds.getD t .junk,M:=mAll obs,N:=obs.length }
end Go.Dm
