/-
  A logic for Go functions over plain data, part B: the loaded program's code compiled into the small language.
-/
import Derived.Test.YtjekkbpdgnohcaaDmN
set_option linter.unusedSimpArgs false
set_option linter.unusedVariables false
namespace Go.Dm
def cO : Operand → Option O
  | .tmp t => some (.t t)
  | .const (.slice none 0 0) => some .nl
  | .const x => some (.k x)
  | .func f => some (.f f)
  | .global _ => none
def isSlice (P : Program) (t : TypeId) : Option TypeId :=
  match P.underlying t with
  | some (.slice e) => some e
  | _ => none
def szOf (P : Program) (t : TypeId) : Option Nat := (P.info? t).map (·.size)
def byOf (P : Program) (t : TypeId) : Option Nat := (P.info? t).map (·.bytes)
def aggOf (P : Program) (t : TypeId) : Option Bool :=
  match P.underlying t with
  | some (.struct _) | some (.array _ _) => some true
  | some _ => some false
  | none => none
def zCell : Value → Option D
  | .slice none 0 0 => some .nl
  | .slice _ _ _ | .agg _ | .tuple _ => none
  | x => some (.v x)
def zOf (P : Program) (t : TypeId) : Option (List D) :=
  match (P.info? t).bind (·.zero) with
  | some x => x.cells.toList.mapM zCell
  | none => none
def isInt (P : Program) (t : TypeId) : Bool :=
  match P.underlying t with
  | some (.int _) => true
  | _ => false
def isBool (P : Program) (t : TypeId) : Bool :=
  match P.underlying t with
  | some .bool => true
  | _ => false
def field (P : Program) (t : TypeId) (i : Nat) : Option Field :=
  match P.underlying t with
  | some (.struct fs) => fs[i]?
  | _ => none
def fldK (P : Program) (k : TypeId → Option (List IntKind)) : Nat → List Field → Option (List IntKind)
  | _, [] => some []
  | off, f :: fs => do
    let a ← k f.type
    if f.offset = off ∧ P.cellsOf f.type = a.length ∧ (f.name == "_") = false then pure (a ++ (← fldK P k (off + a.length) fs)) else none
def kindsOf (P : Program) : Nat → TypeId → Option (List IntKind)
  | 0, _ => none
  | d + 1, t =>
    match P.underlying t with
    | some (.int q) => some [q]
    | some (.array n e) => do
      let a ← kindsOf P d e
      if P.cellsOf e = a.length ∧ P.cellsOf t = n * a.length then pure (List.replicate n a).flatten else none
    | some (.struct fs) => do
      let a ← fldK P (kindsOf P d) 0 fs.toList
      if P.cellsOf t = a.length then pure a else none
    | _ => none
def isMapT (P : Program) (t : TypeId) : Option (TypeId × TypeId) :=
  match P.underlying t with
  | some (.map k e) => some (k, e)
  | _ => none
def keyT (P : Program) (k : TypeId) : Option (List IntKind × Bool) := do
  let ks ← kindsOf P 20 k
  let ka ← aggOf P k
  if P.keyTypeAt 20 k = true then pure (ks, ka) else none
def valT (P : Program) (e : TypeId) : Option (Bool × Nat) := do
  let va ← aggOf P e
  let vz ← szOf P e
  if va = true ∨ vz = 1 then pure (va, vz) else none
def zShape (P : Program) (e : TypeId) (va : Bool) : Bool :=
  match (P.info? e).bind (·.zero) with
  | some (.agg _) => va
  | some (.tuple _) => false
  | some _ => !va
  | none => false
def cX (P : Program) (o : Oper) : Option MI :=
  match o.op with
  | .makeMap t r => do
      let (k, e) ← isMapT P t
      let (ks, ka) ← keyT P k
      let (va, vz) ← valT P e
      if r.isNone then pure (.mmk ks ka va vz) else none
  | .lookup t x i ok => do
      let (k, e) ← isMapT P t
      let (ks, ka) ← keyT P k
      let (va, vz) ← valT P e
      let z ← zOf P e
      if z.length = vz ∧ zShape P e va = true then pure (.mlk (← cO x) (← cO i) ks ka va vz ok z) else none
  | .mapUpdate t m i x => do
      let (k, e) ← isMapT P t
      let (ks, ka) ← keyT P k
      let (va, vz) ← valT P e
      pure (.mup (← cO m) (← cO i) (← cO x) ks ka va vz)
  | .insert t m i x => do
      let (k, e) ← isMapT P t
      let (ks, ka) ← keyT P k
      let (va, vz) ← valT P e
      pure (.mup (← cO m) (← cO i) (← cO x) ks ka va vz)
  | .mapEntry t m i => do
      let (k, e) ← isMapT P t
      let (ks, ka) ← keyT P k
      let (va, vz) ← valT P e
      let z ← zOf P e
      if z.length = vz ∧ zShape P e va = true then pure (.men (← cO m) (← cO i) ks ka va vz z) else none
  | .entryStore t m i x => do
      let (k, e) ← isMapT P t
      let (ks, ka) ← keyT P k
      let (va, vz) ← valT P e
      pure (.mes (← cO m) (← cO i) (← cO x) ks ka va vz)
  | .binOp op t x y _ => do
      let ks ← kindsOf P 20 t
      if aggOf P t = some true ∧ P.keyTypeAt 20 t = true ∧ P.eqGuardType P.depth t = false then
        match op with
        | .eql => pure (.eqs false (← cO x) (← cO y) ks)
        | .neq => pure (.eqs true (← cO x) (← cO y) ks)
        | _ => none
      else none
  | .build t parts =>
    match P.underlying t with
    | some (.array _ e) => do
      let zero ← zOf P t
      let sz ← szOf P e
      let ps ← parts.toList.mapM fun p => do pure (p.1, ← cO p.2)
      pure (.bla zero sz ps)
    | _ => none
  | .call c =>
      match c.callee with
      | .builtin .len =>
        match c.args.toList, c.argTypes.toList with
        | [x], [t] => do let _ ← isMapT P t; pure (.mlen (← cO x))
        | _, _ => none
      | _ => none
  | _ => none
def nilMov (d : Option Nat) : Bool := false
def cI0 (P : Program) (o : Oper) : Option MI :=
  match o.op with
  | .move x => (cO x).map .mov
  | .assign x =>
    match x with
    | .const (.slice none 0 0) =>
      if nilMov o.dst then (cO x).map .mov else do
      let e ← isSlice P o.type
      let sz ← szOf P e
      pure (.nil sz)
    | x => (cO x).map .mov
  | .pick c a b => do pure (.pick (← cO c) (← cO a) (← cO b))
  | .alloc e => do
      let z ← zOf P e
      if szOf P e = some z.length then pure (.new z) else none
  | .box e x => do
      let z ← szOf P e
      if aggOf P e = some true ∨ (aggOf P e = some false ∧ z = 1) then pure (.box (← cO x) z) else none
  | .build t parts =>
    match P.underlying t with
    | some (.struct fs) => do
      let zero ← zOf P t
      let ps ← parts.toList.mapM fun p => do
        let f ← fs[p.1]?
        let z ← szOf P f.type
        pure (f.offset, z, ← cO p.2)
      if fs.toList.all (fun f => (szOf P f.type).isSome) then pure (.bld zero ps) else none
    | _ => none
  | .buildSlice t len parts => do
      let e ← isSlice P t
      let sz ← szOf P e
      let ag ← aggOf P e
      if (ag = false ∧ sz = 1) ∨ (ag = true ∧ 0 < sz) then
        if parts.toList.map (·.1) = List.range len ∧ len * sz ≤ 2 ^ 24 ∧ ((P.info? e).bind (·.zero)).isSome then pure (.bsl sz (← parts.toList.mapM fun p => cO p.2)) else none
      else none
  | .load t a => do
      let sz ← szOf P t
      match aggOf P t with
      | some true => pure (.ldn (← cO a) sz)
      | some false => pure (.ld1 (← cO a))
      | none => none
  | .store t a x => do
      let sz ← szOf P t
      match aggOf P t with
      | some true => pure (.stn (← cO a) (← cO x) sz)
      | some false => if sz = 1 then pure (.st1 (← cO a) (← cO x)) else none
      | none => none
  | .binOp op t x y _ =>
      if isBool P t then
        match op with
        | .eql => do pure (.eqb false (← cO x) (← cO y))
        | .neq => do pure (.eqb true (← cO x) (← cO y))
        | _ => none
      else if isInt P t then do pure (.bin op (← cO x) (← cO y))
      else match op, isSlice P t, cO y with
        | .eql, some _, some .nl => (cO x).map (.isnil false)
        | .neq, some _, some .nl => (cO x).map (.isnil true)
        | _, _, _ => none
  | .unOp op _ x =>
      match op with
      | .not => (cO x).map .not
      | .neg => (cO x).map .neg
      | _ => none
  | .convert src dst x =>
      match P.underlying src, P.underlying dst with
      | some _, some (.int k) => (cO x).map (.cvi k)
      | _, _ => none
  | .makeFunc fn first captured =>
      match fn with
      | .func f => if first.size = 0 then do pure (.mkf f (← captured.toList.mapM cO)) else none
      | _ => none
  | .makeSlice t len cap =>
      match len, cap with
      | .tmp l, .tmp c => if l = c then do
          let e ← isSlice P t
          let sz ← szOf P e
          let zero ← zOf P e
          let by_ ← byOf P e
          if zero.length = sz ∧ 0 < sz ∧ 0 < by_ then pure (.mk (.t l) sz zero by_) else none
        else none
      | .const (.int .i64 l), .const (.int .i64 c) => if l = c then do
          let e ← isSlice P t
          let sz ← szOf P e
          let zero ← zOf P e
          let by_ ← byOf P e
          if zero.length = sz ∧ 0 < sz ∧ 0 < by_ then pure (.mk (.k (.int .i64 l)) sz zero by_) else none
        else none
      | _, _ => none
  | .slice t x lo hi mx =>
      if mx.isSome then none else do
      let e ← isSlice P t
      let sz ← szOf P e
      let lo' ← (match lo with | some l => (cO l).map some | none => some none)
      let hi' ← (match hi with | some l => (cO l).map some | none => some none)
      pure (.sub (← cO x) lo' hi' sz)
  | .fieldAddr t x i => do
      let f ← field P t i
      let z ← szOf P f.type
      if z = 0 then none else pure (.fld (← cO x) f.offset)
  | .field t x i => do
      let f ← field P t i
      let z ← szOf P f.type
      match aggOf P f.type with
      | some true => pure (.getf (← cO x) f.offset z true)
      | some false => if z = 1 then pure (.getf (← cO x) f.offset 1 false) else none
      | none => none
  | .indexAddr t x i =>
      match P.underlying t with
      | some (.slice e) => do pure (.idx (← cO x) (← cO i) (← szOf P e))
      | some (.array n e) => do pure (.idxa (← cO x) (← cO i) (← szOf P e) n)
      | _ => none
  | .index t x i =>
      match P.underlying t with
      | some (.array n e) => do
        let sz ← szOf P e
        match aggOf P e with
        | some true => pure (.idxv (← cO x) (← cO i) sz n true)
        | some false => if sz = 1 then pure (.idxv (← cO x) (← cO i) 1 n false) else none
        | none => none
      | _ => none
  | .extract x i => do pure (.ext (← cO x) i)
  | .nilCheck x => (cO x).map .nck
  | .call c =>
      match c.callee with
      | .builtin .len =>
        match c.args.toList, c.argTypes.toList with
        | [x], [t] => do let _ ← isSlice P t; pure (.len (← cO x))
        | _, _ => none
      | .builtin .cap =>
        match c.args.toList, c.argTypes.toList with
        | [x], [t] => do let _ ← isSlice P t; pure (.cap (← cO x))
        | _, _ => none
      | .builtin .append =>
        match c.args.toList, c.argTypes.toList with
        | [x, y], [t, u] => if isInt P u then do
            let e ← isSlice P t
            let sz ← szOf P e
            let zero ← zOf P e
            let by_ ← byOf P e
            if zero.length = sz ∧ 0 < sz ∧ 0 < by_ then pure (.appz (← cO x) (← cO y) sz zero by_) else none
          else do
          let e ← isSlice P t
          let e2 ← isSlice P u
          let sz ← szOf P e
          let sz2 ← szOf P e2
          let by_ ← byOf P e
          if sz = sz2 ∧ 0 < sz ∧ 0 < by_ ∧ (zOf P e).isSome ∧ (zOf P e).map (·.length) = some sz then pure (.app (← cO x) (← cO y) sz by_) else none
        | _, _ => none
      | .builtin .min =>
        match c.args.toList with
        | [x, y] => do pure (.min (← cO x) (← cO y))
        | _ => none
      | .builtin .max =>
        match c.args.toList with
        | [x, y] => do pure (.max (← cO x) (← cO y))
        | _ => none
      | .value (.func f) =>
        match P.funcs[f]? with
        | some fn => if fn.body.isSome ∧ (fn.name == "runtime.NumGoroutine") = false then do pure (.call f (← c.args.toList.mapM cO)) else none
        | none => none
      | .value (.tmp t) => do pure (.callv (.t t) (← c.args.toList.mapM cO))
      | _ => none
  | _ => none
def cI (P : Program) (o : Oper) : Option MI :=
  match cX P o with
  | some i => some i
  | none => cI0 P o
def cOp (P : Program) (nt : Nat) (ops : List Oper) (o : Oper) : Option Op1 := do
  let i := (cI P o).getD .bad
  let d ← (match o.dst with | some d => if d < nt then some (some d) else none | none => some none)
  match o.guard with
  | none => pure ⟨none, d, i⟩
  | some (j, b) => do
    let g ← (ops[j]?).bind (·.dst)
    if g < nt then pure ⟨some (g, b), d, i⟩ else none
def MI.quiet : MI → Bool
  | .mov _ | .pick _ _ _ | .len _ | .idx _ _ _ | .idxa _ _ _ _ | .idxv _ _ _ _ _ | .fld _ _ | .ld1 _ | .ldn _ _ | .bin _ _ _ | .eqb _ _ _ | .isnil _ _ | .cap _ | .not _ | .neg _ | .cvi _ _
  | .ext _ _ | .nck _ | .getf _ _ _ _ | .sub _ _ _ _ | .mkf _ _ | .min _ _ | .max _ _ | .bld _ _ | .mlk _ _ _ _ _ _ _ _ | .eqs _ _ _ _ | .bla _ _ _ => true
  | _ => false
def MI.gr : MI → Bool
  | .nil _ | .new _ | .box _ _ | .mk _ _ _ _ | .bsl _ _ | .callp _ _ | .mmk _ _ _ _ | .mlen _ => true
  | _ => false
def isLoad (o : Oper) : Bool := match o.op with | .load _ _ => true | .lookup _ _ _ _ => true | _ => false
def MI.toP : MI → MI
  | .call f a => .callp f a
  | i => i
def Op1.toP (o : Op1) : Op1 := ⟨o.g, o.d, o.i.toP⟩
def mode (ops : Array Oper) (l : List Op1) : Option Nat :=
  if l.all (fun o => o.i.quiet) && Go.Region.lexB .any ops then some 1
  else
    let n := (l.takeWhile fun o => o.i.quiet).length
    (List.range (n + 1)).reverse.findSome? fun n => if Go.Region.lexTailB .any ops n then some (n + 2) else none
def tabT (ops : Array Oper) : List (List Nat) :=
  (List.range ops.size).foldl (fun T i => T ++ [(List.range i).filter fun j => wt ops i j || (List.range i).any fun k => wt ops i k && (T.getD k []).contains j]) []
def eagE (l : List Op1) (T : List (List Nat)) : List Nat :=
  let n := l.length
  let pu := fun i => ((l[i]?).map (·.i.quiet)).getD false
  let effs := (List.range n).filter fun i => !pu i
  let stage := fun i => ((List.range effs.length).filter fun r => (T.getD i []).contains (effs.getD r 0)).foldl (fun m r => max m (r + 1)) 0
  (List.range (effs.length + 1)).flatMap fun r => (if r = 0 then [] else [effs.getD (r - 1) 0]) ++ (List.range n).filter fun i => pu i && stage i == r
def puF (l : List Op1) (i : Nat) : Bool := ((l[i]?).map (·.i.quiet)).getD false
def grF (l : List Op1) (i : Nat) : Bool := ((l[i]?).map (·.i.gr)).getD false
def ldF (ops : Array Oper) (i : Nat) : Bool := ((ops[i]?).map isLoad).getD false
def eager (ops : Array Oper) (l : List Op1) : Option (List Op1) :=
  if eagerB ops (puF l) (ldF ops) (grF l) (eagE l (tabT ops)) (tabT ops) && decide ((eagE l (tabT ops)).length ≤ ops.size) then some ((eagE l (tabT ops)).map fun i => l.getD i ⟨none, none, .bad⟩) else none
def cntT (Ef : List Nat) (T : List (List Nat)) : Nat → List Nat → Nat → Nat
  | 0, _, b => b - 1
  | f + 1, X, b => if b = 0 then 0 else match enabT Ef T X with
    | [] => b - 1
    | l => l.foldl (fun b e => cntT Ef T f (X ++ [e]) b) b
def toDT (l : List Op1) : IT → DT
  | .done => .done
  | .op i t => .op (l.getD i ⟨none, none, .bad⟩) (toDT l t)
  | .alt t u => .alt (toDT l t) (toDT l u)
def grF2 (l : List Op1) (i : Nat) : Bool := puF l i || grF l i
def efsF (ops : Array Oper) (l : List Op1) (T : List (List Nat)) : List Nat := efsT ops.size (puF l) (ldF ops) (grF2 l) T
def treeC (c : Nat) (ops : Array Oper) (l : List Op1) : DT :=
  let T := tabT ops
  let Ef := efsF ops l T
  if 0 < cntT Ef T Ef.length [] c && okG ops (puF l) (ldF ops) (grF2 l) Ef T then toDT l (genT ops.size Ef T Ef.length (pendT ops.size Ef T) []) else .op ⟨none, none, .bad⟩ .done
def treeT (ops : Array Oper) (l : List Op1) : DT := treeC 13 ops l
def DT.isBad : DT → Bool
  | .op ⟨none, none, .bad⟩ .done => true
  | _ => false
def dedup (l : List Nat) : List Nat := l.foldr (fun x r => if r.contains x then r else x :: r) []
def asgOps (l : List Op1) : List Nat := l.filterMap (·.d) ++ l.filterMap fun o => o.g.map (·.1)
def asg : MC → List Nat
  | .reg _ l => asgOps l
  | .dreg l _ _ => l
  | .seq a b => asg a ++ asg b
  | .cond _ a b => asg a ++ asg b
  | .blk _ c => asg c
  | .loop l _ => l
  | .rf _ _ ps a c => ps ++ asg a ++ asg c
  | _ => []
def ptrPar (P : Program) (f : FuncId) : Bool :=
  match P.funcs[f]? with
  | some fn => (match fn.params[0]? with
    | some t => (match P.underlying t with
      | some (.pointer _) => true
      | _ => false)
    | none => false)
  | none => false
def isCallI : MI → Bool
  | .call _ _ => true
  | _ => false
def depP (P : Program) (l : List Op1) (o : Op1) : Bool :=
  match o.i with
  | .call f (.t t :: _) => ptrPar P f && l.any fun q => isCallI q.i && (q.d == some t)
  | _ => false
def mixL (P : Program) (l : List Op1) : List Op1 := l.map fun o => if depP P l o then o else o.toP
def mixed (P : Program) (ops : Array Oper) (l : List Op1) : Option (List Op1) := if l.any (depP P l) then eager ops (mixL P l) else none
def ptrOp (P : Program) (o : Op1) : Bool := match o.i with | .call f _ => ptrPar P f | _ => false
def selL (P : Program) (l : List Op1) : List Op1 := l.map fun o => if ptrOp P o then o else o.toP
def tr1 (P : Program) (ops : Array Oper) (l : List Op1) : DT := if (treeT ops l).isBad then treeC 50 ops (selL P l) else treeT ops l
def late (P : Program) (ops : Array Oper) (l : List Op1) : Option (List Op1) := if l.any (ptrOp P) && !(tr1 P ops l).isBad then none else eager ops (l.map Op1.toP)
def plainC : Code → Bool
  | .region _ ops _ => ops.toList.all fun o => match o.op with | .defer _ => false | _ => true
  | .seq a b => plainC a && plainC b
  | .cond _ a b => plainC a && plainC b
  | .block _ c => plainC c
  | .loop c => plainC c
  | .rangeFunc .. => false
  | _ => true
def cC (P : Program) (nt : Nat) : Code → Option MC
  | .skip => some .skip
  | .region _ ops draw => do
      let l ← ops.toList.mapM (cOp P nt ops.toList)
      if draw then
        match mode ops l with
        | some q => pure (.reg q l)
        | none =>
          match eager ops l with
          | some l' => pure (.reg 998 l')
          | none =>
            match mixed P ops l with
            | some l' => pure (.reg 997 l')
            | none =>
              match late P ops l with
              | some l' => pure (.reg 999 l')
              | none => pure (.dreg (dedup (asgOps l)) (tr1 P ops l) (treeT ops (l.map Op1.toP)))
      else pure (.reg 0 l)
  | .seq a b => do pure (.seq (← cC P nt a) (← cC P nt b))
  | .cond c x y => do pure (.cond (← cO c) (← cC P nt x) (← cC P nt y))
  | .block id c => do pure (.blk id (← cC P nt c))
  | .loop c => do let m ← cC P nt c; pure (.loop (dedup (asg m)) m)
  | .exit id => some (.exit id)
  | .ret => some .ret
  | .rangeFunc g ps a c => if plainC a && plainC c then do
      let x ← cO g
      let ma ← cC P nt a
      let mc ← cC P nt c
      pure (.rf (dedup (ps.toList ++ asg ma ++ asg mc)) x ps.toList ma mc)
    else some .bad
  | _ => some .bad
def cR (P : Program) : ResultVar → Option RO
  | .tmp t => some (.t t)
  | .cell n T => do
    let sz ← szOf P T
    match aggOf P T with
    | some true => pure (.cell n sz true)
    | some false => pure (.cell n 1 false)
    | none => none
def cF (P : Program) (fn : Func) : Option (MC × List RO) := do
  let c ← fn.body
  let m ← cC P fn.ntmps c
  let rs ← fn.results.toList.mapM (cR P)
  if (fn.name == "runtime.NumGoroutine") = false ∧ fn.params.size ≤ fn.ntmps ∧ (asg m).all (fun t => decide (t < fn.ntmps)) = true then pure (m, rs) else none
end Go.Dm
