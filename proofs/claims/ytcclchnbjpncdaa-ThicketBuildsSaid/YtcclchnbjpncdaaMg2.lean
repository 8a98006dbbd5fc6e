/-
 Texts of this claim, one behind another.
-/
import Derived.Test.YtcclchnbjpncdaaDmN
import Derived.DeepKeys3
set_option linter.unusedSimpArgs false
set_option linter.unusedVariables false
namespace Go.Dm
def cO:Operand→Option O
  | .tmp t=>some (.t t)
  | .const (.slice none 0 0)=>some .nl
  | .const x=>some (.k x)
  | .func f=>some (.f f)
  | .global _=>none
def isSlice (P:Program) (t:TypeId):Option TypeId :=
  match P.underlying t with
  | some (.slice e)=>some e
  | _=>none
def szOf (P:Program) (t:TypeId):Option Nat:=(P.info? t).map (·.size)
def byOf (P:Program) (t:TypeId):Option Nat:=(P.info? t).map (·.bytes)
def aggOf (P:Program) (t:TypeId):Option Bool :=
  match P.underlying t with
  | some (.struct _)|some (.array _ _)=>some true
  | some _=>some false
  | none=>none
def zCell:Value→Option D
  | .slice none 0 0=>some .nl
  | .slice _ _ _|.agg _|.tuple _=>none
  | x=>some (.v x)
def zOf (P:Program) (t:TypeId):Option (List D) :=
  match (P.info? t).bind (·.zero) with
  | some x=>x.cells.toList.mapM zCell
  | none=>none
def isInt (P:Program) (t:TypeId):Bool :=
  match P.underlying t with
  | some (.int _)=>true
  | _=>false
def isBool (P:Program) (t:TypeId):Bool :=
  match P.underlying t with
  | some .bool=>true
  | _=>false
def field (P:Program) (t:TypeId) (i:Nat):Option Field :=
  match P.underlying t with
  | some (.struct fs)=>fs[i]?
  | _=>none
def fldK (P : Program) (k : TypeId → Option (List IntKind)) : Nat → List Field → Option (List IntKind)
  | _,[]=>some []
  | off,f::fs=>do
    let a ← k f.type
    if f.offset = off ∧ P.cellsOf f.type = a.length ∧ (f.name == "_") = false then pure (a ++ (← fldK P k (off + a.length) fs)) else none
def kindsOf (P : Program) : Nat → TypeId → Option (List IntKind)
  | 0,_=>none
  | d + 1, t =>
    match P.underlying t with
    | some (.int q)=>some [q]
    | some (.array n e)=>do
      let a ← kindsOf P d e
      if P.cellsOf e=a.length∧P.cellsOf t=n * a.length then pure (List.replicate n a).flatten else none
    | some (.struct fs)=>do
      let a ← fldK P (kindsOf P d) 0 fs.toList
      if P.cellsOf t=a.length then pure a else none
    | _=>none
def isMapT (P:Program) (t:TypeId):Option (TypeId × TypeId) :=
  match P.underlying t with
  | some (.map k e)=>some (k,e)
  | _=>none
def keyT (P:Program) (k:TypeId):Option (List IntKind × Bool):=do
  let ks ← kindsOf P 20 k
  let ka ← aggOf P k
  if P.keyTypeAt 20 k=true then pure (ks,ka) else none
def valT (P:Program) (e:TypeId):Option (Bool × Nat):=do
  let va ← aggOf P e
  let vz ← szOf P e
  if va=true∨vz=1 then pure (va,vz) else none
def zShape (P:Program) (e:TypeId) (va:Bool):Bool :=
  match (P.info? e).bind (·.zero) with
  | some (.agg _)=>va
  | some (.tuple _)=>false
  | some _ => !va
  | none=>false
def cX (P : Program) (o : Oper) : Option MI :=
  match o.op with
  | .makeMap t r=>do
      let (k,e) ← isMapT P t
      let (ks,ka) ← keyT P k
      let (va,vz) ← valT P e
      if r.isNone then pure (.mmk ks ka va vz) else none
  | .lookup t x i ok=>do
      let (k,e) ← isMapT P t
      let (ks,ka) ← keyT P k
      let (va,vz) ← valT P e
      let z ← zOf P e
      if z.length=vz∧zShape P e va=true then pure (.mlk (← cO x) (← cO i) ks ka va vz ok z) else none
  | .mapUpdate t m i x=>do
      let (k,e) ← isMapT P t
      let (ks,ka) ← keyT P k
      let (va,vz) ← valT P e
      pure (.mup (← cO m) (← cO i) (← cO x) ks ka va vz)
  | .insert t m i x=>do
      let (k,e) ← isMapT P t
      let (ks,ka) ← keyT P k
      let (va,vz) ← valT P e
      pure (.mup (← cO m) (← cO i) (← cO x) ks ka va vz)
  | .mapEntry t m i=>do
      let (k,e) ← isMapT P t
      let (ks,ka) ← keyT P k
      let (va,vz) ← valT P e
      let z ← zOf P e
      if z.length=vz∧zShape P e va=true then pure (.men (← cO m) (← cO i) ks ka va vz z) else none
  | .entryStore t m i x=>do
      let (k,e) ← isMapT P t
      let (ks,ka) ← keyT P k
      let (va,vz) ← valT P e
      pure (.mes (← cO m) (← cO i) (← cO x) ks ka va vz)
  | .binOp op t x y _=>do
      let ks ← kindsOf P 20 t
      if aggOf P t=some true∧P.keyTypeAt 20 t=true∧P.eqGuardType P.depth t=false then
        match op with
        | .eql=>pure (.eqs false (← cO x) (← cO y) ks)
        | .neq=>pure (.eqs true (← cO x) (← cO y) ks)
        | _=>none
      else none
  | .build t parts =>
    match P.underlying t with
    | some (.array _ e)=>do
      let zero ← zOf P t
      let sz ← szOf P e
      let ps ← parts.toList.mapM fun p=>do pure (p.1,← cO p.2)
      pure (.bla zero sz ps)
    | _=>none
  | .slice t x none none none =>
    match P.underlying t with
    | some (.array n e)=>do
      let sz ← szOf P e
      if sz=1 then pure (.sla (← cO x) n) else none
    | _=>none
  | .range t x=>do
      let _ ← isMapT P t
      pure (.rng (← cO x))
  | .next x str =>
      match str with
      | false=>(cO x).map .nxt
      | true=>none
  | .entry x=>(cO x).map .ent
  | .call c =>
      match c.callee with
      | .builtin .copy =>
        match c.args.toList,c.argTypes.toList with
        | [x,y],[t,u]=>do
          let e ← isSlice P t
          let sz ← szOf P e
          if sz=1 then pure (.cpy (← cO x) (← cO y)) else none
        | _,_=>none
      | .builtin .len =>
        match c.args.toList,c.argTypes.toList with
        | [x],[t]=>do let _ ← isMapT P t;pure (.mlen (← cO x))
        | _,_=>none
      | _=>none
  | _=>none
def nilMov (d:Option Nat):Bool:=false
def cI0 (P : Program) (o : Oper) : Option MI :=
  match o.op with
  | .move x=>(cO x).map .mov
  | .assign x =>
    match x with
    | .const (.slice none 0 0) =>
      if nilMov o.dst then (cO x).map .mov else do
      let e ← isSlice P o.type
      let sz ← szOf P e
      pure (.nil sz)
    | x=>(cO x).map .mov
  | .pick c a b=>do pure (.pick (← cO c) (← cO a) (← cO b))
  | .alloc e=>do
      let z ← zOf P e
      if szOf P e=some z.length then pure (.new z) else none
  | .box e x=>do
      let z ← szOf P e
      if aggOf P e=some true∨(aggOf P e=some false∧z=1) then pure (.box (← cO x) z) else none
  | .build t parts =>
    match P.underlying t with
    | some (.struct fs)=>do
      let zero ← zOf P t
      let ps ← parts.toList.mapM fun p=>do
        let f ← fs[p.1]?
        let z ← szOf P f.type
        pure (f.offset,z,← cO p.2)
      if fs.toList.all (fun f=>(szOf P f.type).isSome) then pure (.bld zero ps) else none
    | _=>none
  | .buildSlice t len parts=>do
      let e ← isSlice P t
      let sz ← szOf P e
      let ag ← aggOf P e
      if (ag=false∧sz=1)∨(ag=true∧0<sz) then
        if parts.toList.map (·.1)=List.range len∧len * sz≤2 ^ 24∧((P.info? e).bind (·.zero)).isSome then pure (.bsl sz (← parts.toList.mapM fun p=>cO p.2)) else none
      else none
  | .load t a=>do
      let sz ← szOf P t
      match aggOf P t with
      | some true=>pure (.ldn (← cO a) sz)
      | some false=>pure (.ld1 (← cO a))
      | none=>none
  | .store t a x=>do
      let sz ← szOf P t
      match aggOf P t with
      | some true=>pure (.stn (← cO a) (← cO x) sz)
      | some false=>if sz=1 then pure (.st1 (← cO a) (← cO x)) else none
      | none=>none
  | .binOp op t x y _ =>
      if isBool P t then
        match op with
        | .eql=>do pure (.eqb false (← cO x) (← cO y))
        | .neq=>do pure (.eqb true (← cO x) (← cO y))
        | _=>none
      else if isInt P t then do pure (.bin op (← cO x) (← cO y))
      else match op,isSlice P t,cO y with
        | .eql,some _,some .nl=>(cO x).map (.isnil false)
        | .neq,some _,some .nl=>(cO x).map (.isnil true)
        | _,_,_=>none
  | .unOp op _ x =>
      match op with
      | .not=>(cO x).map .not
      | .neg=>(cO x).map .neg
      | _=>none
  | .convert src dst x =>
      match P.underlying src,P.underlying dst with
      | some _,some (.int k)=>(cO x).map (.cvi k)
      | _,_=>none
  | .makeFunc fn first captured =>
      match fn with
      | .func f=>if first.size=0 then do pure (.mkf f (← captured.toList.mapM cO)) else none
      | _=>none
  | .makeSlice t len cap =>
      match len,cap with
      | .tmp l,.tmp c=>if l=c then do
          let e ← isSlice P t
          let sz ← szOf P e
          let zero ← zOf P e
          let by_ ← byOf P e
          if zero.length=sz∧0<sz∧0<by_ then pure (.mk (.t l) sz zero by_) else none
        else none
      | .const (.int .i64 l),.const (.int .i64 c)=>if l=c then do
          let e ← isSlice P t
          let sz ← szOf P e
          let zero ← zOf P e
          let by_ ← byOf P e
          if zero.length=sz∧0<sz∧0<by_ then pure (.mk (.k (.int .i64 l)) sz zero by_) else none
        else none
      | _,_=>none
  | .slice t x lo hi mx =>
      if mx.isSome then none else do
      let e ← isSlice P t
      let sz ← szOf P e
      let lo' ← (match lo with|some l=>(cO l).map some|none=>some none)
      let hi' ← (match hi with|some l=>(cO l).map some|none=>some none)
      pure (.sub (← cO x) lo' hi' sz)
  | .fieldAddr t x i=>do
      let f ← field P t i
      let z ← szOf P f.type
      if z=0 then none else pure (.fld (← cO x) f.offset)
  | .field t x i=>do
      let f ← field P t i
      let z ← szOf P f.type
      match aggOf P f.type with
      | some true=>pure (.getf (← cO x) f.offset z true)
      | some false=>if z=1 then pure (.getf (← cO x) f.offset 1 false) else none
      | none=>none
  | .indexAddr t x i =>
      match P.underlying t with
      | some (.slice e)=>do pure (.idx (← cO x) (← cO i) (← szOf P e))
      | some (.array n e)=>do pure (.idxa (← cO x) (← cO i) (← szOf P e) n)
      | _=>none
  | .index t x i =>
      match P.underlying t with
      | some (.array n e)=>do
        let sz ← szOf P e
        match aggOf P e with
        | some true=>pure (.idxv (← cO x) (← cO i) sz n true)
        | some false=>if sz=1 then pure (.idxv (← cO x) (← cO i) 1 n false) else none
        | none=>none
      | _=>none
  | .extract x i=>do pure (.ext (← cO x) i)
  | .nilCheck x=>(cO x).map .nck
  | .call c =>
      match c.callee with
      | .builtin .len =>
        match c.args.toList,c.argTypes.toList with
        | [x],[t]=>do let _ ← isSlice P t;pure (.len (← cO x))
        | _,_=>none
      | .builtin .cap =>
        match c.args.toList,c.argTypes.toList with
        | [x],[t]=>do let _ ← isSlice P t;pure (.cap (← cO x))
        | _,_=>none
      | .builtin .append =>
        match c.args.toList,c.argTypes.toList with
        | [x,y],[t,u]=>if isInt P u then do
            let e ← isSlice P t
            let sz ← szOf P e
            let zero ← zOf P e
            let by_ ← byOf P e
            if zero.length=sz∧0<sz∧0<by_ then pure (.appz (← cO x) (← cO y) sz zero by_) else none
          else do
          let e ← isSlice P t
          let e2 ← isSlice P u
          let sz ← szOf P e
          let sz2 ← szOf P e2
          let by_ ← byOf P e
          if sz=sz2∧0<sz∧0<by_∧(zOf P e).isSome∧(zOf P e).map (·.length)=some sz then pure (.app (← cO x) (← cO y) sz by_) else none
        | _,_=>none
      | .builtin .min =>
        match c.args.toList with
        | [x,y]=>do pure (.min (← cO x) (← cO y))
        | _=>none
      | .builtin .max =>
        match c.args.toList with
        | [x,y]=>do pure (.max (← cO x) (← cO y))
        | _=>none
      | .value (.func f) =>
        match P.funcs[f]? with
        | some fn => if fn.body.isSome ∧ (fn.name == "runtime.NumGoroutine") = false then do pure (.call f (← c.args.toList.mapM cO)) else none
        | none=>none
      | .value (.tmp t)=>do pure (.callv (.t t) (← c.args.toList.mapM cO))
      | _=>none
  | _=>none
def cI (P:Program) (o:Oper):Option MI :=
  match cX P o with
  | some i=>some i
  | none=>cI0 P o
def cOp (P : Program) (nt : Nat) (ops : List Oper) (o : Oper) : Option Op1 := do
  let i:=(cI P o).getD .bad
  let d ← (match o.dst with|some d=>if d<nt then some (some d) else none|none=>some none)
  match o.guard with
  | none=>pure ⟨none,d,i⟩
  | some (j,b)=>do
    let g ← (ops[j]?).bind (·.dst)
    if g<nt then pure ⟨some (g,b),d,i⟩ else none
def MI.quiet:MI→Bool
  | .mov _|.pick _ _ _|.len _|.idx _ _ _|.idxa _ _ _ _|.idxv _ _ _ _ _|.fld _ _|.ld1 _|.ldn _ _|.bin _ _ _|.eqb _ _ _|.isnil _ _|.cap _|.not _|.neg _|.cvi _ _
  | .ext _ _|.nck _|.getf _ _ _ _|.sub _ _ _ _|.mkf _ _|.min _ _|.max _ _|.bld _ _|.mlk _ _ _ _ _ _ _ _|.eqs _ _ _ _|.bla _ _ _|.sla _ _=>true
  | _=>false
def MI.gr:MI→Bool
  | .nil _|.new _|.box _ _|.mk _ _ _ _|.bsl _ _|.callp _ _|.mmk _ _ _ _|.mlen _=>true
  | _=>false
def isLoad (o:Oper):Bool:=match o.op with|.load _ _=>true|.lookup _ _ _ _=>true|_=>false
def MI.toP:MI→MI
  | .call f a=>.callp f a
  | i=>i
def Op1.toP (o:Op1):Op1:=⟨o.g,o.d,o.i.toP⟩
def mode (ops : Array Oper) (l : List Op1) : Option Nat :=
  if l.all (fun o=>o.i.quiet) && Go.Region.lexB .any ops then some 1
  else
    let n:=(l.takeWhile fun o=>o.i.quiet).length
    (List.range (n+1)).reverse.findSome? fun n=>if Go.Region.lexTailB .any ops n then some (n+2) else none
def tabT (ops:Array Oper):List (List Nat) :=
  (List.range ops.size).foldl (fun T i=>T++[(List.range i).filter fun j=>wt ops i j || (List.range i).any fun k=>wt ops i k && (T.getD k []).contains j]) []
def eagE (l:List Op1) (T:List (List Nat)):List Nat :=
  let n:=l.length
  let pu:=fun i=>((l[i]?).map (·.i.quiet)).getD false
  let effs:=(List.range n).filter fun i => !pu i
  let stage:=fun i=>((List.range effs.length).filter fun r=>(T.getD i []).contains (effs.getD r 0)).foldl (fun m r=>max m (r+1)) 0
  (List.range (effs.length+1)).flatMap fun r=>(if r=0 then [] else [effs.getD (r - 1) 0])++(List.range n).filter fun i=>pu i && stage i == r
def puF (l:List Op1) (i:Nat):Bool:=((l[i]?).map (·.i.quiet)).getD false
def grF (l:List Op1) (i:Nat):Bool:=((l[i]?).map (·.i.gr)).getD false
def ldF (ops:Array Oper) (i:Nat):Bool:=((ops[i]?).map isLoad).getD false
def eager (ops:Array Oper) (l:List Op1):Option (List Op1) :=
  if eagerB ops (puF l) (ldF ops) (grF l) (eagE l (tabT ops)) (tabT ops) && decide ((eagE l (tabT ops)).length≤ops.size) then some ((eagE l (tabT ops)).map fun i=>l.getD i ⟨none,none,.bad⟩) else none
def cntT (Ef : List Nat) (T : List (List Nat)) : Nat → List Nat → Nat → Nat
  | 0,_,b=>b - 1
  | f+1,X,b=>if b=0 then 0 else match enabT Ef T X with
    | []=>b - 1
    | l=>l.foldl (fun b e=>cntT Ef T f (X++[e]) b) b
def toDT (l:List Op1):IT→DT
  | .done=>.done
  | .op i t=>.op (l.getD i ⟨none,none,.bad⟩) (toDT l t)
  | .alt t u=>.alt (toDT l t) (toDT l u)
def grF2 (l:List Op1) (i:Nat):Bool:=puF l i || grF l i
def efsF (ops:Array Oper) (l:List Op1) (T:List (List Nat)):List Nat:=efsT ops.size (puF l) (ldF ops) (grF2 l) T
def treeC (c:Nat) (ops:Array Oper) (l:List Op1):DT :=
  let T:=tabT ops
  let Ef:=efsF ops l T
  if 0<cntT Ef T Ef.length [] c && okG ops (puF l) (ldF ops) (grF2 l) Ef T then toDT l (genT ops.size Ef T Ef.length (pendT ops.size Ef T) []) else .op ⟨none,none,.bad⟩ .done
def treeT (ops:Array Oper) (l:List Op1):DT:=treeC 13 ops l
def DT.isBad:DT→Bool
  | .op ⟨none,none,.bad⟩ .done=>true
  | _=>false
def dedup (l:List Nat):List Nat:=l.foldr (fun x r=>if r.contains x then r else x::r) []
def asgOps (l:List Op1):List Nat:=l.filterMap (·.d)++l.filterMap fun o=>o.g.map (·.1)
def asg:MC→List Nat
  | .reg _ l=>asgOps l
  | .dreg l _ _=>l
  | .seq a b=>asg a++asg b
  | .cond _ a b=>asg a++asg b
  | .blk _ c=>asg c
  | .loop l _=>l
  | .rf _ _ ps a c=>ps++asg a++asg c
  | _=>[]
def ptrPar (P : Program) (f : FuncId) : Bool :=
  match P.funcs[f]? with
  | some fn=>(match fn.params[0]? with
    | some t=>(match P.underlying t with
      | some (.pointer _)=>true
      | _=>false)
    | none=>false)
  | none=>false
def isCallI:MI→Bool
  | .call _ _=>true
  | _=>false
def depP (P:Program) (l:List Op1) (o:Op1):Bool :=
  match o.i with
  | .call f (.t t::_)=>ptrPar P f && l.any fun q=>isCallI q.i && (q.d == some t)
  | _=>false
def mixL (P:Program) (l:List Op1):List Op1:=l.map fun o=>if depP P l o then o else o.toP
def mixed (P:Program) (ops:Array Oper) (l:List Op1):Option (List Op1):=if l.any (depP P l) then eager ops (mixL P l) else none
def ptrOp (P:Program) (o:Op1):Bool:=match o.i with|.call f _=>ptrPar P f|_=>false
def selL (P:Program) (l:List Op1):List Op1:=l.map fun o=>if ptrOp P o then o else o.toP
def tr1 (P:Program) (ops:Array Oper) (l:List Op1):DT:=if (treeT ops l).isBad then treeC 50 ops (selL P l) else treeT ops l
def late (P:Program) (ops:Array Oper) (l:List Op1):Option (List Op1):=if l.any (ptrOp P) && !(tr1 P ops l).isBad then none else eager ops (l.map Op1.toP)
def plainC:Code→Bool
  | .region _ ops _=>ops.toList.all fun o=>match o.op with|.defer _=>false|_=>true
  | .seq a b=>plainC a && plainC b
  | .cond _ a b=>plainC a && plainC b
  | .block _ c=>plainC c
  | .loop c=>plainC c
  | .rangeFunc ..=>false
  | _=>true
def cC (P : Program) (nt : Nat) : Code → Option MC
  | .skip=>some .skip
  | .region _ ops draw => do
      let l ← ops.toList.mapM (cOp P nt ops.toList)
      if draw then
        match mode ops l with
        | some q=>pure (.reg q l)
        | none =>
          match eager ops l with
          | some l'=>pure (.reg 998 l')
          | none =>
            match mixed P ops l with
            | some l'=>pure (.reg 997 l')
            | none =>
              match late P ops l with
              | some l'=>pure (.reg 999 l')
              | none=>pure (.dreg (dedup (asgOps l)) (tr1 P ops l) (treeT ops (l.map Op1.toP)))
      else pure (.reg 0 l)
  | .seq a b=>do pure (.seq (← cC P nt a) (← cC P nt b))
  | .cond c x y=>do pure (.cond (← cO c) (← cC P nt x) (← cC P nt y))
  | .block id c=>do pure (.blk id (← cC P nt c))
  | .loop c=>do let m ← cC P nt c;pure (.loop (dedup (asg m)) m)
  | .exit id=>some (.exit id)
  | .ret=>some .ret
  | .rangeFunc g ps a c=>if plainC a && plainC c then do
      let x ← cO g
      let ma ← cC P nt a
      let mc ← cC P nt c
      pure (.rf (dedup (ps.toList++asg ma++asg mc)) x ps.toList ma mc)
    else some .bad
  | _=>some .bad
def cR (P : Program) : ResultVar → Option RO
  | .tmp t=>some (.t t)
  | .cell n T=>do
    let sz ← szOf P T
    match aggOf P T with
    | some true=>pure (.cell n sz true)
    | some false=>pure (.cell n 1 false)
    | none=>none
def cF (P:Program) (fn:Func):Option (MC × List RO):=do
  let c ← fn.body
  let m ← cC P fn.ntmps c
  let rs ← fn.results.toList.mapM (cR P)
  if (fn.name == "runtime.NumGoroutine") = false ∧ fn.params.size ≤ fn.ntmps ∧ (asg m).all (fun t => decide (t < fn.ntmps)) = true then pure (m, rs) else none
end Go.Dm

namespace Go.Dm
open Go.RowKit
inductive IL:List IntKind→List Value→Prop
  | nil:IL [] []
  | cons (q:IntKind) (n:Int) (ks:List IntKind) (vs:List Value) (h:(Lit.int q n).wf=true) (t:IL ks vs):IL (q::ks) (.int q n::vs)
theorem IL.length {ks:List IntKind} {vs:List Value} (h:IL ks vs):vs.length=ks.length:=by
  induction h with
  | nil=>rfl
  | cons=>simp [*]
theorem IL.split:∀ {a b:List IntKind} {vs:List Value},IL (a++b) vs→IL a (vs.take a.length)∧IL b (vs.drop a.length)
  | [],b,vs,h=>by simpa using ⟨IL.nil,h⟩
  | q :: a, b, vs, h => by
    cases h with
    | cons q n ks vs hw t =>
      obtain ⟨h1,h2⟩:=IL.split t
      exact ⟨by simpa using IL.cons q n _ _ hw h1,by simpa using h2⟩
def toL:Value→Lit
  | .int q n=>.int q n
  | _=>.bool false
theorem IL.inj : ∀ {ks : List IntKind} {vs us : List Value}, IL ks vs → IL ks us → vs.map toL = us.map toL → vs = us
  | [],vs,us,h1,h2,_=>by cases h1;cases h2;rfl
  | q :: ks, vs, us, h1, h2, he => by
    cases h1 with
    | cons q n ks vs hw t =>
      cases h2 with
      | cons q m ks us hw' t' =>
        simp only [List.map_cons,toL,List.cons.injEq,Lit.int.injEq,true_and] at he
        rw [he.1,IL.inj t t' he.2]
theorem IL.of {ks:List IntKind}:∀ {vs:List Value},vs.length=ks.length→(∀ j,j<ks.length → ∃ m,vs.getD j undef=.int (ks.getD j .i64) m∧(Lit.int (ks.getD j .i64) m).wf=true)→IL ks vs:=by
  induction ks with
  | nil=>intro vs h _;simp at h;subst h;exact .nil
  | cons q ks ih =>
    intro vs h hk
    cases vs with
    | nil=>simp at h
    | cons v vs =>
      obtain ⟨m,h1,h2⟩:=hk 0 (by simp)
      simp only [List.getD_cons_zero] at h1 h2
      subst h1
      exact .cons q m ks vs h2 (ih (by simpa using h) fun j hj=>by simpa using hk (j+1) (by simpa using hj))
theorem IL.get {ks:List IntKind} {vs:List Value} (h:IL ks vs):∀ j,j<ks.length → ∃ m,vs.getD j undef=.int (ks.getD j .i64) m∧(Lit.int (ks.getD j .i64) m).wf=true:=by
  induction h with
  | nil=>intro j hj;simp at hj
  | cons q n ks vs hw t ih =>
    intro j hj
    cases j with
    | zero=>exact ⟨n,by simp,by simpa using hw⟩
    | succ j=>simpa using ih j (by simpa using hj)
section
variable {P:Program}
theorem mapM_range {D e c:Nat} (P:Program) (cs:List Value) {ks:List IntKind} (hc:c=ks.length) (hk:∀ vs,IL ks vs→P.keyLits D e vs=some (vs.map toL)):∀ (n s:Nat),IL (List.replicate n ks).flatten (cs.drop (s * c)) →
    ∃ ls,(List.range' s n).mapM (fun i=>P.keyLits D e ((cs.drop (i * c)).take c))=some ls∧ls.flatten=(cs.drop (s * c)).map toL
  | 0,s,h=>by
    simp only [List.replicate_zero,List.flatten_nil] at h
    have:cs.drop (s * c)=[]:=by generalize cs.drop (s * c)=x at h;cases h;rfl
    exact ⟨[],by simp,by simp [this]⟩
  | n + 1, s, h => by
    rw [List.replicate_succ,List.flatten_cons] at h
    obtain ⟨h1,h2⟩:=h.split
    rw [← hc] at h1 h2
    rw [List.drop_drop,show s * c+c=(s+1) * c by rw [Nat.add_mul,Nat.one_mul]] at h2
    obtain ⟨ls,h3,h4⟩:=mapM_range P cs hc hk n (s+1) h2
    refine ⟨((cs.drop (s * c)).take c).map toL::ls,?_,?_⟩
    · rw [List.range'_succ,List.mapM_cons,hk _ h1]
      simp only [bind,Option.bind_some,h3,pure]
    · rw [List.flatten_cons,h4,← List.map_append,show (s+1) * c=s * c+c by rw [Nat.add_mul,Nat.one_mul],← List.drop_drop,List.take_append_drop]
theorem mapM_fields {D : Nat} {k : TypeId → Option (List IntKind)} (cs : List Value) (hk : ∀ t ks, k t = some ks → ∀ vs, IL ks vs → P.keyLits D t vs = some (vs.map toL)) : ∀ (fs : List Field) (off : Nat) (ks : List IntKind), fldK P k off fs = some ks → IL ks (cs.drop off) →
    (fs.all (fun f => f.name != "_") = true) ∧ ∃ ls, fs.mapM (fun f => P.keyLits D f.type ((cs.drop f.offset).take (P.cellsOf f.type))) = some ls ∧ ls.flatten = (cs.drop off).map toL
  | [],off,ks,h,hi=>by
    simp only [fldK,Option.some.injEq] at h;subst h
    have:cs.drop off=[]:=by generalize cs.drop off=x at hi;cases hi;rfl
    exact ⟨by simp,[],by simp,by simp [this]⟩
  | f :: fs, off, ks, h, hi => by
    simp only [fldK,Option.bind_eq_bind,Option.bind_eq_some_iff] at h
    obtain ⟨a,h1,h⟩:=h
    split at h
    · next hc =>
      obtain ⟨c1,c2,c3⟩:=hc
      simp only [Option.pure_def,Option.bind_eq_some_iff,Option.some.injEq] at h
      obtain ⟨b,h2,rfl⟩:=h
      obtain ⟨i1,i2⟩:=hi.split
      rw [List.drop_drop] at i2
      obtain ⟨q1,ls,q2,q3⟩:=mapM_fields cs hk fs _ b h2 i2
      refine ⟨by rw [List.all_cons,q1,Bool.and_true,bne,c3];rfl,(((cs.drop off).take a.length).map toL)::ls,?_,?_⟩
      · rw [List.mapM_cons,c1,c2,hk _ _ h1 _ i1]
        simp only [bind,Option.bind_some,q2,pure]
      · rw [List.flatten_cons,q3,← List.map_append,← List.drop_drop,List.take_append_drop]
    · cases h
theorem keyLits_il : ∀ (d : Nat) (t : TypeId) (ks : List IntKind), kindsOf P d t = some ks → ∀ vs, IL ks vs → P.keyLits d t vs = some (vs.map toL)
  | 0,t,ks,h,vs,hv=>by simp [kindsOf] at h
  | d + 1, t, ks, h, vs, hv => by
    unfold kindsOf at h
    unfold Program.keyLits
    cases hu:P.underlying t with
    | none=>simp [hu] at h
    | some kd =>
      cases kd
      case int q =>
        simp only [hu,Option.some.injEq] at h
        subst h
        cases hv with
        | cons q n ks vs hw tl =>
          cases tl
          simp [hw,toL]
      case array n e =>
        simp only [hu,Option.bind_eq_bind,Option.bind_eq_some_iff] at h
        obtain ⟨a,h1,h⟩:=h
        split at h
        · next hc =>
          simp only [Option.pure_def,Option.some.injEq] at h
          subst h
          have hl:=hv.length
          simp only [List.length_flatten,List.map_replicate,List.sum_replicate_nat] at hl
          obtain ⟨ls,h2,h3⟩:=mapM_range (D:=d) (e:=e) P vs hc.1 (keyLits_il d e a h1) n 0 (by simpa using hv)
          rw [← List.range_eq_range'] at h2
          simp only [h2,Option.map_some,h3,Nat.zero_mul,List.drop_zero]
          rw [if_pos (by rw [hc.2];exact hl)]
        · cases h
      case struct fs =>
        simp only [hu,Option.bind_eq_bind,Option.bind_eq_some_iff] at h
        obtain ⟨a,h1,h⟩:=h
        split at h
        · next hc =>
          simp only [Option.pure_def,Option.some.injEq] at h
          subst h
          obtain ⟨q1,ls,q2,q3⟩:=mapM_fields (P:=P) (D:=d) vs (fun t ks h=>keyLits_il d t ks h) fs.toList 0 a h1 (by simpa using hv)
          simp only [q2,Option.map_some,q3,List.drop_zero]
          rw [if_pos ⟨by rw [hc];exact hv.length,by rw [← Array.all_toList];exact q1⟩]
        · cases h
      all_goals (simp [hu] at h;done)
def KV (P:Program) (k:TypeId) (ks:List IntKind) (v:Value):Prop:=v.formed P k=true∧IL ks v.cells.toList
theorem KV.eq {k:TypeId} {ks:List IntKind} (hk:kindsOf P 20 k=some ks) (ht:P.keyTypeAt 20 k=true) {x y:Value} (hx:KV P k ks x) (hy:KV P k ks y) (w:World) : ∃ r:Bool,(Op.equal k x y).run P w=.ok r w∧(r=true ↔ x.cells=y.cells):=by
  obtain ⟨r,h1,h2⟩:=run_equalIn_deep (10000 - 20) 20 k ht w 20 20 x y _ _ hx.1 hy.1 (keyLits_il 20 k ks hk _ hx.2) (keyLits_il 20 k ks hk _ hy.2)
  refine ⟨r,h1,h2.trans ⟨fun h => ?_,fun h=>by rw [h]⟩⟩
  have:=hx.2.inj hy.2 h
  exact Array.ext' this
theorem KV.check {k:TypeId} {ks:List IntKind} (hk:kindsOf P 20 k=some ks) (ht:P.keyTypeAt 20 k=true) {x:Value} (hx:KV P k ks x) (em:Bool) (w:World):(Instr.checkKey em 10000 k x).run P w=.ok () w:=by
  have:=run_checkKey_deep em (10000 - 20) 20 k ht w 20 x _ hx.1 (keyLits_il 20 k ks hk _ hx.2)
  simpa using this
theorem KV.vals {k:TypeId} {ks:List IntKind} {x y:Value} (hx:KV P k ks x) (hy:KV P k ks y) (h:x.cells=y.cells):x=y:=by
  have h1:=hx.1
  have h2:=hy.1
  unfold Value.formed at h1 h2
  cases hu:P.underlying k with
  | none =>
    rw [hu] at h1 h2
    cases x<;>cases y<;>simp_all [Value.cells]
  | some kd =>
    rw [hu] at h1 h2
    cases x<;>cases y<;>simp_all [Value.cells]<;>(split at h1<;>simp_all)
theorem KV.eqT {k:TypeId} {ks:List IntKind} (hk:kindsOf P 20 k=some ks) (ht:P.keyTypeAt 20 k=true) {x y:Value} (hx:KV P k ks x) (hy:KV P k ks y) (h:x=y) (w:World):(Op.equal k x y).run P w=.ok true w:=by
  obtain ⟨r,h1,h2⟩:=KV.eq hk ht hx hy w
  rw [h1,h2.2 (by rw [h])]
theorem KV.eqF {k:TypeId} {ks:List IntKind} (hk:kindsOf P 20 k=some ks) (ht:P.keyTypeAt 20 k=true) {x y:Value} (hx:KV P k ks x) (hy:KV P k ks y) (h:x ≠ y) (w:World):(Op.equal k x y).run P w=.ok false w:=by
  obtain ⟨r,h1,h2⟩:=KV.eq hk ht hx hy w
  cases r with
  | true=>exact absurd (hx.vals hy (h2.1 rfl)) h
  | false=>exact h1
theorem findAsking_run {k : TypeId} {ks : List IntKind} (hk : kindsOf P 20 k = some ks) (ht : P.keyTypeAt 20 k = true) {x : Value} (hx : KV P k ks x) : ∀ (es : List MapEntry) (i : Nat), (∀ e, e ∈ es → KV P k ks e.key) →
    ((∀ w,(Instr.findAsking k x es i).run P w=.ok none w)∧∀ e,e ∈ es→e.key ≠ x) ∨ ∃ j e,(∀ w,(Instr.findAsking k x es i).run P w=.ok (some (i+j,e.val)) w)∧es[j]?=some e∧e.key=x
  | [],i,_=>.inl ⟨fun w=>by simp [Instr.findAsking],by simp⟩
  | e :: es, i, h => by
    have he:=h e (by simp)
    by_cases hc:e.key=x
    · exact .inr ⟨0,e,fun w=>by simp [Instr.findAsking,KV.eqT hk ht hx he hc.symm w],rfl,hc⟩
    · have h1:=KV.eqF hk ht hx he (Ne.symm hc)
      rcases findAsking_run hk ht hx es (i+1) (fun y hy=>h y (by simp [hy])) with ⟨a1,a2⟩|⟨j,e',a1,a2,a3⟩
      · refine .inl ⟨fun w=>by simp [Instr.findAsking,h1,a1],fun y hy => ?_⟩
        rcases List.mem_cons.1 hy with rfl|hy
        · exact hc
        · exact a2 y hy
      · exact .inr ⟨j+1,e',fun w=>by simp [Instr.findAsking,h1,a1,Nat.add_assoc,Nat.add_comm 1 j],by simpa using a2,a3⟩
theorem findNow_run {q : IntKind} {n : Int} : ∀ (es : List MapEntry) (i : Nat), (∀ e, e ∈ es → ∃ m, e.key = .int q m) →
    (Instr.findNow (.int q) (.int q n) es i=some none∧∀ e,e ∈ es→e.key ≠ .int q n) ∨ ∃ j e,Instr.findNow (.int q) (.int q n) es i=some (some (i+j,e.val))∧es[j]?=some e∧e.key=.int q n
  | [],i,_=>.inl ⟨rfl,by simp⟩
  | e :: es, i, h => by
    obtain ⟨m,hm⟩:=h e (by simp)
    by_cases hnm:n=m
    · subst hnm
      exact .inr ⟨0,e,by simp [Instr.findNow,Instr.sameNow,hm],rfl,hm⟩
    · have hne:e.key ≠ .int q n:=fun e'=>by rw [hm] at e';cases e';exact hnm rfl
      have hb:(n == m)=false:=by simpa using hnm
      rcases findNow_run (q:=q) (n:=n) es (i+1) (fun y hy=>h y (by simp [hy])) with ⟨a1,a2⟩|⟨j,e',a1,a2,a3⟩
      · refine .inl ⟨by simp [Instr.findNow,Instr.sameNow,hm,hb,a1],fun y hy => ?_⟩
        rcases List.mem_cons.1 hy with rfl|hy
        · exact hne
        · exact a2 y hy
      · exact .inr ⟨j+1,e',by simp [Instr.findNow,Instr.sameNow,hm,hb,a1,Nat.add_assoc,Nat.add_comm 1 j],by simpa using a2,a3⟩
theorem kind_one {k:TypeId} {ks:List IntKind} {q:IntKind} {d:Nat} (hk:kindsOf P d k=some ks) (hu:P.underlying k=some (.int q)):ks=[q]:=by
  cases d with
  | zero=>simp [kindsOf] at hk
  | succ d=>unfold kindsOf at hk;rw [hu] at hk;simpa using hk.symm
theorem kv_int {k:TypeId} {ks:List IntKind} {q:IntKind} (hk:kindsOf P 20 k=some ks) (hu:P.underlying k=some (.int q)) {x:Value} (hx:KV P k ks x) : ∃ m,x=.int q m:=by
  have:=kind_one hk hu
  subst this
  obtain ⟨h1,h2⟩:=hx
  cases x<;>simp [Value.formed,hu] at h1
  all_goals
    first
      | (simp only [Value.cells] at h2
         cases h2 with
         | cons q n ks vs hw t=>exact ⟨_,rfl⟩)
      | (simp only [Value.cells] at h2;cases h2)
theorem find_run {k : TypeId} {ks : List IntKind} (hk : kindsOf P 20 k = some ks) (ht : P.keyTypeAt 20 k = true) {x : Value} (hx : KV P k ks x) (es : List MapEntry) (h : ∀ e, e ∈ es → KV P k ks e.key) :
    ((∀ w,(Instr.findKey k x es).run P w=.ok none w)∧∀ e,e ∈ es→e.key ≠ x) ∨ ∃ j e,(∀ w,(Instr.findKey k x es).run P w=.ok (some (j,e.val)) w)∧es[j]?=some e∧e.key=x:=by
  cases hu:P.underlying k with
  | none=>rw [show (20:Nat)=19+1 from rfl] at hk;unfold kindsOf at hk;simp [hu] at hk
  | some kd =>
    by_cases hint : ∃ q,kd=.int q
    · obtain ⟨q,rfl⟩:=hint
      obtain ⟨n,rfl⟩:=kv_int hk hu hx
      rcases findNow_run (q:=q) (n:=n) es 0 (fun e he=>kv_int hk hu (h e he)) with ⟨a1,a2⟩|⟨j,e,a1,a2,a3⟩
      · exact .inl ⟨fun w=>by simp [Instr.findKey,underlying,hu,a1],a2⟩
      · refine .inr ⟨j,e,fun w => ?_,a2,a3⟩
        rw [Nat.zero_add] at a1
        simp [Instr.findKey,underlying,hu,a1]
    · cases es with
      | nil=>exact .inl ⟨fun w=>by simp [Instr.findKey,underlying,hu,Instr.findNow],by simp⟩
      | cons e es =>
        have hn:Instr.findNow kd x (e::es) 0=none:=by
          have hag : ∃ cs,x=.agg cs:=by
            have h1:=hx.1
            rw [show (20:Nat)=19+1 from rfl] at hk
            unfold kindsOf at hk
            cases kd
            case int q=>exact absurd ⟨q,rfl⟩ hint
            all_goals first
              | (simp [hu] at hk;done)
              | (cases x<;>simp [Value.formed,hu] at h1;exact ⟨_,rfl⟩)
          obtain ⟨cs,rfl⟩:=hag
          simp [Instr.findNow,Instr.sameNow]
        have e0:∀ w,(Instr.findKey k x (e::es)).run P w=(Instr.findAsking k x (e::es)).run P w:=fun w=>by
          simp [Instr.findKey,underlying,hu,hn]
        rcases findAsking_run hk ht hx (e::es) 0 h with ⟨a1,a2⟩|⟨j,e',a1,a2,a3⟩
        · exact .inl ⟨fun w=>(e0 w).trans (a1 w),a2⟩
        · exact .inr ⟨j,e',fun w=>(e0 w).trans (by simpa using a1 w),a2,a3⟩
theorem stays_run {k:TypeId} {ks:List IntKind} {x:Value} (hx:KV P k ks x) (w:World):(Instr.keyThatStays x x).run P w=.ok x w:=by
  have one:∀ {ks:List IntKind} {vs:List Value},IL ks vs→∀ n,(vs.zip vs).all (fun (p:Value × Value)=>Instr.sameBits n p.1 p.2)=true:=by
    intro ks vs h n
    induction h with
    | nil=>simp
    | cons q m ks vs hw t ih=>simp [ih,Instr.sameBits]
  have:Instr.sameBits 10000 x x=true:=by
    have h2:=hx.2
    cases x with
    | agg cs =>
      show Instr.sameBits (9999+1) _ _=true
      unfold Instr.sameBits
      have:=one h2 9999
      simp only [Value.cells] at this
      simpa using this
    | tuple cs=>exact absurd hx.1 (by simp [Value.formed])
    | int q n=>simp [Instr.sameBits]
    | _=>simp only [Value.cells] at h2;cases h2
  simp [Instr.keyThatStays,this]
end
end Go.Dm
