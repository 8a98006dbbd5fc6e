/-
  The program's plain types as lists of cells.
-/
import Derived.Test.YtjekkbpdgnohcaaDmD
set_option linter.unusedSimpArgs false
set_option linter.unnecessarySimpa false
set_option linter.unusedVariables false
namespace Go.Dm
def tbl {α : Type} (f : α → List D) (l : List α) : List (List D) := l.map f
theorem tbl_len {α : Type} {f : α → List D} {l : List α} : (tbl f l).length = l.length := by simp [tbl]
theorem tbl_get {α : Type} [Inhabited α] {f : α → List D} {l : List α} {i : Nat} (h : i < l.length) : (tbl f l).getD i [] = f (l.getD i default) := map_getD _ l i [] default h
theorem tbl_app {α : Type} {f : α → List D} {l : List α} {x : α} : tbl f (l ++ [x]) = tbl f l ++ [f x] := by simp [tbl]
theorem tbl_take {α : Type} {f : α → List D} {l : List α} {n : Nat} : (tbl f l).take n = tbl f (l.take n) := by simp [tbl, List.map_take]
theorem tbl_drop {α : Type} {f : α → List D} {l : List α} {n : Nat} : (tbl f l).drop n = tbl f (l.drop n) := by simp [tbl, List.map_drop]
theorem tbl_set {α : Type} {f : α → List D} {l : List α} {i : Nat} {x : α} : (tbl f l).set i (f x) = tbl f (l.set i x) := by simp [tbl, List.map_set]
theorem tbl_nil {α : Type} {f : α → List D} : tbl f [] = [] := (rfl)
theorem rows_take {α : Type} {f : α → List (List D)} {l : List α} {n : Nat} : (rows f l).take n = rows f (l.take n) := by simp [rows, List.map_take]
theorem rows_drop {α : Type} {f : α → List (List D)} {l : List α} {n : Nat} : (rows f l).drop n = rows f (l.drop n) := by simp [rows, List.map_drop]
structure Arc where
  fr : Int
  sym : Int
  to : Int
structure Net where
  n : Int
  k : Int
  arcs : List Arc
  start : Int
  final : Int
structure Machine where
  n : Int
  k : Int
  next : List (List Int)
  start : Int
  final : Int
structure Node where
  kind : Int
  a : Int
  b : Int
structure Turner where
  n : Int
  k : Int
  l : Int
  next : List (List Int)
  out : List (List (List Int))
  start : Int
structure Rule where
  left : Int
  right : List Int
structure Grammar where
  k : Int
  n : Int
  start : Int
  rules : List Rule
structure Opr where
  level : Int
  right : Bool
structure Spot where
  sign : Int
  fr : Int
  to : Int
  ways : List (List Int)
structure Thicket where
  spots : List Spot
  root : Int
structure Deed where
  kind : Int
  rule : Rule
  word : List Int
  n : Int
  steps : List Int
instance : Inhabited Arc := ⟨⟨0, 0, 0⟩⟩
instance : Inhabited Node := ⟨⟨0, 0, 0⟩⟩
instance : Inhabited Rule := ⟨⟨0, []⟩⟩
instance : Inhabited Opr := ⟨⟨0, false⟩⟩
instance : Inhabited Spot := ⟨⟨0, 0, 0, []⟩⟩
instance : Inhabited Deed := ⟨⟨0, ⟨0, []⟩, [], 0, []⟩⟩
instance : Inhabited Machine := ⟨⟨0, 0, [], 0, 0⟩⟩
def arcD (a : Arc) : List D := [iv .i64 a.fr, iv .i64 a.sym, iv .i64 a.to]
def netD (n : Net) : List D := [iv .i64 n.n, iv .i64 n.k, .sl 3 (tbl arcD n.arcs), iv .u32 n.start, iv .u32 n.final]
def macD (m : Machine) : List D := [iv .i64 m.n, iv .i64 m.k, .sl 1 (rows i64s m.next), iv .i64 m.start, iv .u32 m.final]
def nodD (n : Node) : List D := [iv .i64 n.kind, iv .i64 n.a, iv .i64 n.b]
def turD (t : Turner) : List D := [iv .i64 t.n, iv .i64 t.k, iv .i64 t.l, .sl 1 (rows i64s t.next), .sl 1 (rows (rows i64s) t.out), iv .i64 t.start]
def rulD (r : Rule) : List D := [iv .i64 r.left, .sl 1 (i64s r.right)]
def graD (g : Grammar) : List D := [iv .i64 g.k, iv .i64 g.n, iv .i64 g.start, .sl 2 (tbl rulD g.rules)]
def oprD (o : Opr) : List D := [iv .i64 o.level, .v (.bool o.right)]
def spoD (s : Spot) : List D := [iv .i64 s.sign, iv .i64 s.fr, iv .i64 s.to, .sl 1 (rows i64s s.ways)]
def thiD (t : Thicket) : List D := [.sl 4 (tbl spoD t.spots), iv .i64 t.root]
def deeD (d : Deed) : List D := [iv .i64 d.kind, iv .i64 d.rule.left, .sl 1 (i64s d.rule.right), .sl 1 (i64s d.word), iv .i64 d.n, .sl 1 (i64s d.steps)]
def ok64 (n : Int) : Prop := -9223372036854775808 ≤ n ∧ n ≤ 9223372036854775807
def ok32 (n : Int) : Prop := 0 ≤ n ∧ n ≤ 4294967295
def okL {α : Type} (p : α → Prop) (l : List α) : Prop := l.length ≤ maxLen ∧ ∀ a, a ∈ l → p a
def Arc.ok (a : Arc) : Prop := ok64 a.fr ∧ ok64 a.sym ∧ ok64 a.to
def Net.ok (n : Net) : Prop := ok64 n.n ∧ ok64 n.k ∧ okL Arc.ok n.arcs ∧ ok32 n.start ∧ ok32 n.final
def Machine.ok (m : Machine) : Prop := ok64 m.n ∧ ok64 m.k ∧ okL (okL ok64) m.next ∧ ok64 m.start ∧ ok32 m.final
def Node.ok (n : Node) : Prop := ok64 n.kind ∧ ok64 n.a ∧ ok64 n.b
def Turner.ok (t : Turner) : Prop := ok64 t.n ∧ ok64 t.k ∧ ok64 t.l ∧ okL (okL ok64) t.next ∧ okL (okL (okL ok64)) t.out ∧ ok64 t.start
def Rule.ok (r : Rule) : Prop := ok64 r.left ∧ okL ok64 r.right
def Grammar.ok (g : Grammar) : Prop := ok64 g.k ∧ ok64 g.n ∧ ok64 g.start ∧ okL Rule.ok g.rules
def Opr.ok (o : Opr) : Prop := ok64 o.level
def Spot.ok (s : Spot) : Prop := ok64 s.sign ∧ ok64 s.fr ∧ ok64 s.to ∧ okL (okL ok64) s.ways
def Thicket.ok (t : Thicket) : Prop := okL Spot.ok t.spots ∧ ok64 t.root
def Deed.ok (d : Deed) : Prop := ok64 d.kind ∧ d.rule.ok ∧ okL ok64 d.word ∧ ok64 d.n ∧ okL ok64 d.steps
theorem maxLen_le {n : Nat} (h : n ≤ maxLen) : n ≤ 9223372036854775807 := Nat.le_trans h (by decide)
theorem arcD_eq {a : Arc} : arcD a = [iv .i64 a.fr, iv .i64 a.sym, iv .i64 a.to] := (rfl)
theorem netD_eq {n : Net} : netD n = [iv .i64 n.n, iv .i64 n.k, .sl 3 (tbl arcD n.arcs), iv .u32 n.start, iv .u32 n.final] := (rfl)
theorem macD_eq {m : Machine} : macD m = [iv .i64 m.n, iv .i64 m.k, .sl 1 (rows i64s m.next), iv .i64 m.start, iv .u32 m.final] := (rfl)
theorem nodD_eq {n : Node} : nodD n = [iv .i64 n.kind, iv .i64 n.a, iv .i64 n.b] := (rfl)
theorem turD_eq {t : Turner} : turD t = [iv .i64 t.n, iv .i64 t.k, iv .i64 t.l, .sl 1 (rows i64s t.next), .sl 1 (rows (rows i64s) t.out), iv .i64 t.start] := (rfl)
theorem rulD_eq {r : Rule} : rulD r = [iv .i64 r.left, .sl 1 (i64s r.right)] := (rfl)
theorem graD_eq {g : Grammar} : graD g = [iv .i64 g.k, iv .i64 g.n, iv .i64 g.start, .sl 2 (tbl rulD g.rules)] := (rfl)
theorem oprD_eq {o : Opr} : oprD o = [iv .i64 o.level, .v (.bool o.right)] := (rfl)
theorem spoD_eq {s : Spot} : spoD s = [iv .i64 s.sign, iv .i64 s.fr, iv .i64 s.to, .sl 1 (rows i64s s.ways)] := (rfl)
theorem thiD_eq {t : Thicket} : thiD t = [.sl 4 (tbl spoD t.spots), iv .i64 t.root] := (rfl)
theorem deeD_eq {d : Deed} : deeD d = [iv .i64 d.kind, iv .i64 d.rule.left, .sl 1 (i64s d.rule.right), .sl 1 (i64s d.word), iv .i64 d.n, .sl 1 (i64s d.steps)] := (rfl)
set_option linter.defProp false
def vy0 := And.intro @tbl_len (And.intro @tbl_get (And.intro @tbl_take (And.intro @tbl_drop (And.intro @rows_take (And.intro @rows_drop (And.intro @arcD_eq (And.intro @netD_eq (And.intro @macD_eq (And.intro @nodD_eq (And.intro @turD_eq (And.intro @rulD_eq (And.intro @graD_eq (And.intro @oprD_eq (And.intro @spoD_eq (And.intro @thiD_eq (@deeD_eq))))))))))))))))
end Go.Dm
