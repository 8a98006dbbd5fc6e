/-
  A logic for Go functions over plain data, part A: data descriptions, states, a small code language, verification conditions.
-/
import Derived.WalkKit
import Derived.Deep.Quiet
import Derived.StillTail
namespace Go.Dm
open Go.RowKit

/-- What a value is described as. -/
inductive D where
  | v (x : Value)
  | nl
  | sl (sz : Nat) (es : List (List D))
  | ag (ds : List D)
  | tu (ds : List D)
  | ip (e : List D) (o : Nat)
  | ref (τ sz off n : Nat)
  | ptr (τ sz i o : Nat)
  | clo (f : FuncId) (ds : List D)
  | junk
instance : Inhabited D := ⟨.junk⟩

/-- An owned object: rows of sz cells. flat: no cell names an owned object. -/
structure Ob where
  sz : Nat
  es : List (List D)
  flat : Bool

/-- The state: slots, owned objects, the next token. -/
structure S where
  ρ : Nat → D
  M : Nat → Option Ob
  N : Nat

inductive O where
  | t (n : Nat)
  | k (x : Value)
  | nl
  | f (f : FuncId)

instance : Inhabited O := ⟨.nl⟩
def S.g (s : S) : O → D
  | .t n => s.ρ n
  | .k x => .v x
  | .nl => .nl
  | .f f => .clo f []

def S.put (s : S) (d : Option Nat) (x : D) : S :=
  match d with
  | some d => { s with ρ := fun t => if t = d then x else s.ρ t }
  | none => s
def S.setM (s : S) (τ : Nat) (ob : Ob) : S := { s with M := fun t => if t = τ then some ob else s.M t }
def S.setN (s : S) (n : Nat) : S := { s with N := n }
def S.newt (s : S) (d : Option Nat) (ob : Ob) (x : Nat → D) : S := ((s.setM s.N ob).setN (s.N + 1)).put d (x s.N)

/-- A cell's description that names no owned object. -/
def D.cl : D → Bool
  | .v _ | .nl | .sl _ _ | .ip _ _ => true
  | _ => false
/-- It stands in one cell. -/
def Value.one : Value → Bool
  | .agg _ | .tuple _ => false
  | _ => true
def D.one : D → Bool
  | .v x => Value.one x
  | .nl | .sl _ _ | .ip _ _ | .ref _ _ _ _ | .ptr _ _ _ _ | .clo _ _ => true
  | _ => false

def D.killA (τ : Nat) : D → D
  | .ref σ sz off n => if σ = τ then .junk else .ref σ sz off n
  | .ptr σ sz i o => if σ = τ then .junk else .ptr σ sz i o
  | .ag _ | .tu _ | .clo _ _ => .junk
  | d => d
def D.kill (τ : Nat) : D → D
  | .ref σ sz off n => if σ = τ then .junk else .ref σ sz off n
  | .ptr σ sz i o => if σ = τ then .junk else .ptr σ sz i o
  | .ag ds => .ag (ds.map (killA τ))
  | .tu ds => .tu (ds.map (killA τ))
  | .clo f ds => .clo f (ds.map (killA τ))
  | d => d
def Ob.kill (τ : Nat) (ob : Ob) : Ob := if ob.flat then ob else { ob with es := ob.es.map fun e => e.map (D.kill τ) }
def S.kill (s : S) (τ : Nat) : S := { s with ρ := fun t => (s.ρ t).kill τ, M := fun t => (s.M t).map (Ob.kill τ) }

def D.trimA (n : Nat) : D → D
  | .ref σ sz off m => if σ < n then .ref σ sz off m else .junk
  | .ptr σ sz i o => if σ < n then .ptr σ sz i o else .junk
  | .ag _ | .tu _ | .clo _ _ => .junk
  | d => d
def D.trim (n : Nat) : D → D
  | .ref σ sz off m => if σ < n then .ref σ sz off m else .junk
  | .ptr σ sz i o => if σ < n then .ptr σ sz i o else .junk
  | .ag ds => .ag (ds.map (trimA n))
  | .tu ds => .tu (ds.map (trimA n))
  | .clo f ds => .clo f (ds.map (trimA n))
  | d => d
def Ob.trim (n : Nat) (ob : Ob) : Ob := if ob.flat then ob else { ob with es := ob.es.map fun e => e.map (D.trim n) }
def S.trim (s : S) (n : Nat) : S := { ρ := fun t => (s.ρ t).trim n, M := fun τ => if τ < n then (s.M τ).map (Ob.trim n) else none, N := n }

/-! ### The relation to values and worlds -/

/-- Read in world w, touching blocks of A alone. -/
inductive CR (w : World) (A : Nat → Prop) : D → Value → Prop
  | v (x : Value) : CR w A (.v x) x
  | nl : CR w A .nl (.slice none 0 0)
  | sl0 (sz : Nat) (b : Option Addr) (c : Nat) : CR w A (.sl sz []) (.slice b 0 c)
  | sl (sz : Nat) (es : List (List D)) (b off n c : Nat) (us : Nat → Nat → Value) (hA : A b) (hn : es.length = n) (hcap : n ≤ c)
      (hsz : ∀ i, i < es.length → (es.getD i []).length = sz)
      (hc : ∀ i j, i < es.length → j < sz → w.cell? ⟨b, off + (i * sz + j), none⟩ = some (us i j) ∧ (us i j).oneCell' = true)
      (hr : ∀ i j, i < es.length → j < sz → CR w A ((es.getD i []).getD j .junk) (us i j)) : CR w A (.sl sz es) (.slice (some ⟨b, off, none⟩) n c)
  | ag (ds : List D) (cs : Array Value) (hn : cs.size = ds.length) (hr : ∀ i, i < ds.length → CR w A (ds.getD i .junk) (cs.getD i undef)) : CR w A (.ag ds) (.agg cs)
  | tu (ds : List D) (cs : Array Value) (hn : cs.size = ds.length) (hr : ∀ i, i < ds.length → CR w A (ds.getD i .junk) (cs.getD i undef)) : CR w A (.tu ds) (.tuple cs)
  | ip (e : List D) (o b off : Nat) (us : Nat → Value) (hA : A b)
      (hc : ∀ j, j < e.length → w.cell? ⟨b, off + j, none⟩ = some (us j))
      (hr : ∀ j, j < e.length → CR w A (e.getD j .junk) (us j)) : CR w A (.ip e o) (.pointer (some ⟨b, off + o, none⟩))
  | clo (f : FuncId) : CR w A (.clo f []) (.func (.func f) #[] #[])
  | junk (x : Value) : CR w A .junk x

/-- The same, with owned objects: token τ lies in block β τ. -/
inductive DR (w : World) (A : Nat → Prop) (β : Nat → Option Nat) (N : Nat) : D → Value → Prop
  | cl (d : D) (x : Value) (h : CR w A d x) : DR w A β N d x
  | ref (τ sz off n c b : Nat) (arr : Array Value) (T : TypeId) (hN : τ < N) (hb : β τ = some b) (hc : n ≤ c)
      (hh : w.heap[b]? = some (.cells arr T (0, 0))) (hr : (off + c) * sz ≤ arr.size) : DR w A β N (.ref τ sz off n) (.slice (some ⟨b, off * sz, none⟩) n c)
  | refz (τ sz off : Nat) (b : Option Addr) (hN : τ < N) : DR w A β N (.ref τ sz off 0) (.slice b 0 0)
  | ptr (τ sz i o b : Nat) (hN : τ < N) (hb : β τ = some b) : DR w A β N (.ptr τ sz i o) (.pointer (some ⟨b, i * sz + o, none⟩))
  | ag (ds : List D) (cs : Array Value) (hn : cs.size = ds.length) (hr : ∀ i, i < ds.length → DR w A β N (ds.getD i .junk) (cs.getD i undef)) : DR w A β N (.ag ds) (.agg cs)
  | tu (ds : List D) (cs : Array Value) (hn : cs.size = ds.length) (hr : ∀ i, i < ds.length → DR w A β N (ds.getD i .junk) (cs.getD i undef)) : DR w A β N (.tu ds) (.tuple cs)
  | clo (f : FuncId) (ds : List D) (cs : Array Value) (hn : cs.size = ds.length) (hr : ∀ i, i < ds.length → DR w A β N (ds.getD i .junk) (cs.getD i undef)) : DR w A β N (.clo f ds) (.func (.func f) #[] cs)

/-- d says no less than d'. -/
def D.Le (d d' : D) : Prop := ∀ w A x, CR w A d x → CR w A d' x

/-- The contract of a function on closed descriptions. -/
def Spec (P : Program) (f : FuncId) (ds : List D) (R : D → Prop) : Prop :=
  ∀ (w : World) (A : Nat → Prop) (vs : Array Value), (∀ b, A b → b < w.heap.size) → vs.size = ds.length →
    (∀ i, i < ds.length → CR w A (ds.getD i .junk) (vs.getD i undef)) →
    Calls P f vs w fun e w' => ∃ x d, e = .returned x ∧ R d ∧ Below w.heap.size w w' ∧ CR w' (fun b => A b ∨ (w.heap.size ≤ b ∧ b < w'.heap.size)) d x

theorem Spec.mono {P : Program} {f : FuncId} {ds : List D} {R R' : D → Prop} (h : Spec P f ds R) (hr : ∀ d, R d → R' d) : Spec P f ds R' :=
  fun w A vs h1 h2 h3 => (h w A vs h1 h2 h3).mono fun _ _ ⟨x, d, he, hR, hb, hc⟩ => ⟨x, d, he, hr d hR, hb, hc⟩

/-! ### The code language -/

inductive MI where
  | mov (x : O)
  | pick (c a b : O)
  | len (x : O)
  | idx (x i : O) (sz : Nat)
  | idxa (x i : O) (sz n : Nat)
  | idxv (x i : O) (sz n : Nat) (agg : Bool)
  | fld (x : O) (off : Nat)
  | ld1 (x : O)
  | ldn (x : O) (n : Nat)
  | bin (op : BinOp) (x y : O)
  | eqb (neg : Bool) (x y : O)
  | not (x : O)
  | neg (x : O)
  | cvi (k : IntKind) (x : O)
  | ext (x : O) (i : Nat)
  | getf (x : O) (off n : Nat) (agg : Bool)
  | sub (x : O) (lo hi : Option O) (sz : Nat)
  | mkf (f : FuncId) (ds : List O)
  | min (x y : O)
  | max (x y : O)
  | bld (zero : List D) (parts : List (Nat × Nat × O))
  | nil (sz : Nat)
  | new (zero : List D)
  | box (x : O) (n : Nat)
  | mk (len : O) (sz : Nat) (zero : List D) (bytes : Nat)
  | bsl (sz : Nat) (es : List O)
  | st1 (x y : O)
  | stn (x y : O) (n : Nat)
  | app (x y : O) (sz bytes : Nat)
  | call (f : FuncId) (args : List O)
  | callq (f : FuncId) (args : List O)

structure Op1 where
  g : Option (Nat × Bool)
  d : Option Nat
  i : MI

inductive MC where
  | skip
  | reg (q : Nat) (ops : List Op1)
  | seq (a b : MC)
  | cond (c : O) (x y : MC)
  | blk (id : Nat) (c : MC)
  | loop (asg : List Nat) (c : MC)
  | exit (id : Nat)
  | ret

inductive Ex where
  | nrm
  | exit (id : Nat)
  | ret

/-! ### Steps of the condition. What follows is kept as a function that is not applied yet: so simp evaluates it only when it comes up. -/

/-- A branch. -/
def Br {α β : Type} (b : Bool) (f : α → Prop) (x : α) (g : β → Prop) (y : β) : Prop := (b = true → f x) ∧ (b = false → g y)
section
variable {α β : Type} {b : Bool} {f : α → Prop} {x : α} {g : β → Prop} {y : β}
theorem Br_true : Br true f x g y = f x := by simp [Br]
theorem Br_false : Br false f x g y = g y := by simp [Br]
theorem Br_not : Br (!b) f x g y = Br b g y f x := by cases b <;> simp [Br]
theorem Br.mk (h : b = true → f x) (k : b = false → g y) : Br b f x g y := ⟨h, k⟩
theorem Br.dec {c : Prop} [Decidable c] (h : c → f x) (k : ¬ c → g y) : Br (decide c) f x g y := ⟨fun e => h (of_decide_eq_true e), fun e => k (of_decide_eq_false e)⟩
theorem Br.eqi {a b : Int} (h : a = b → f x) (k : ¬ a = b → g y) : Br (a == b) f x g y := ⟨fun e => h (by simpa using e), fun e => k (by simpa using e)⟩
theorem Br.nei {a b : Int} (h : ¬ a = b → f x) (k : a = b → g y) : Br (a != b) f x g y := ⟨fun e => h (by simpa using e), fun e => k (by simpa using e)⟩
theorem Br_pos {c : Prop} [Decidable c] (h : c) : Br (decide c) f x g y = f x := by simp [Br, h]
theorem Br_neg {c : Prop} [Decidable c] (h : ¬ c) : Br (decide c) f x g y = g y := by simp [Br, h]
theorem Br_eq {a b : Int} (h : a = b) : Br (a == b) f x g y = f x := by simp [Br, h]
theorem Br_ne {a b : Int} (h : ¬ a = b) : Br (a == b) f x g y = g y := by simp [Br, h]
theorem Br_bne : ∀ {a b : Int}, Br (a != b) f x g y = Br (a == b) g y f x := by intro a b; by_cases h : a = b <;> simp [Br, h]
end

/-- A side condition. -/
def Chk {α : Type} (p : Prop) (f : α → Prop) (x : α) : Prop := p ∧ f x
theorem Chk_ok {α : Type} {p : Prop} {f : α → Prop} {x : α} (h : p) : Chk p f x = f x := by simp [Chk, h]
theorem Chk.mk {α : Type} {p : Prop} {f : α → Prop} {x : α} (h : p) (k : f x) : Chk p f x := ⟨h, k⟩

/-- The result goes into its slot. -/
def putK (d : Option Nat) (s : S) (K : S → Prop) (x : D) : Prop := K (s.put d x)

def kM (x : Option Ob) (k : Ob → Prop) : Prop := match x with | some ob => k ob | none => False
theorem kM_some {ob : Ob} {k : Ob → Prop} : kM (some ob) k = k ob := (rfl)
/-- It is simplified before it goes on. -/
def kD {α : Type} (x : α) (k : α → Prop) : Prop := k x
theorem kD_eq {α : Type} {x : α} {k : α → Prop} : kD x k = k x := (rfl)
def ChkD {α : Type} (p : Prop) (x : α) (k : α → Prop) : Prop := p ∧ k x
theorem ChkD_ok {α : Type} {p : Prop} {k : α → Prop} {x : α} (h : p) : ChkD p x k = k x := by simp [ChkD, h]

def kPick (c a b : D) (k : D → Prop) : Prop := match c with | .v (.bool t) => Br t k a k b | _ => False
theorem kPick_v {t : Bool} {a b : D} {k : D → Prop} : kPick (.v (.bool t)) a b k = Br t k a k b := (rfl)

def kLen (x : D) (k : D → Prop) : Prop :=
  match x with
  | .sl _ es => k (.v (.int .i64 es.length))
  | .ref _ _ _ n => k (.v (.int .i64 n))
  | .nl => k (.v (.int .i64 0))
  | _ => False
theorem kLen_sl {sz : Nat} {es : List (List D)} {k : D → Prop} : kLen (.sl sz es) k = kD (.v (.int .i64 es.length)) k := (rfl)
theorem kLen_ref {τ sz off n : Nat} {k : D → Prop} : kLen (.ref τ sz off n) k = kD (.v (.int .i64 n)) k := (rfl)
theorem kLen_nl {k : D → Prop} : kLen .nl k = k (.v (.int .i64 0)) := (rfl)

def kIdx (x i : D) (sz : Nat) (k : D → Prop) : Prop :=
  match x, i with
  | .sl z es, .v (.int _ j) => ChkD (z = sz ∧ 0 ≤ j ∧ j < es.length) (.ip (es.getD j.toNat []) 0) k
  | .ref τ z off n, .v (.int _ j) => ChkD (z = sz ∧ 0 ≤ j ∧ j < n) (.ptr τ sz (off + j.toNat) 0) k
  | _, _ => False
theorem kIdx_sl {z sz : Nat} {es : List (List D)} {q : IntKind} {j : Int} {k : D → Prop} : kIdx (.sl z es) (.v (.int q j)) sz k = ChkD (z = sz ∧ 0 ≤ j ∧ j < es.length) (.ip (es.getD j.toNat []) 0) k := (rfl)
theorem kIdx_ref {τ z off n sz : Nat} {q : IntKind} {j : Int} {k : D → Prop} : kIdx (.ref τ z off n) (.v (.int q j)) sz k = ChkD (z = sz ∧ 0 ≤ j ∧ j < n) (.ptr τ sz (off + j.toNat) 0) k := (rfl)

def kIdxa (x i : D) (sz n : Nat) (k : D → Prop) : Prop :=
  match x, i with
  | .ip e o, .v (.int _ j) => ChkD (0 ≤ j ∧ j < n) (.ip e (o + j.toNat * sz)) k
  | .ptr τ z a o, .v (.int _ j) => ChkD (0 ≤ j ∧ j < n) (.ptr τ z a (o + j.toNat * sz)) k
  | _, _ => False
theorem kIdxa_ip {e : List D} {o sz n : Nat} {q : IntKind} {j : Int} {k : D → Prop} : kIdxa (.ip e o) (.v (.int q j)) sz n k = ChkD (0 ≤ j ∧ j < n) (.ip e (o + j.toNat * sz)) k := (rfl)
theorem kIdxa_ptr {τ z a o sz n : Nat} {q : IntKind} {j : Int} {k : D → Prop} : kIdxa (.ptr τ z a o) (.v (.int q j)) sz n k = ChkD (0 ≤ j ∧ j < n) (.ptr τ z a (o + j.toNat * sz)) k := (rfl)

def kIdxv (x i : D) (sz n : Nat) (agg : Bool) (k : D → Prop) : Prop :=
  match x, i with
  | .ag ds, .v (.int _ j) => ChkD (0 ≤ j ∧ j < n ∧ ds.length = n * sz) (if agg then .ag ((ds.drop (j.toNat * sz)).take sz) else ds.getD (j.toNat * sz) .junk) k
  | _, _ => False
theorem kIdxv_ag {ds : List D} {sz n : Nat} {agg : Bool} {q : IntKind} {j : Int} {k : D → Prop} : kIdxv (.ag ds) (.v (.int q j)) sz n agg k = ChkD (0 ≤ j ∧ j < n ∧ ds.length = n * sz) (if agg then .ag ((ds.drop (j.toNat * sz)).take sz) else ds.getD (j.toNat * sz) .junk) k := (rfl)

def kFld (x : D) (off : Nat) (k : D → Prop) : Prop :=
  match x with
  | .ip e o => k (.ip e (o + off))
  | .ptr τ z i o => k (.ptr τ z i (o + off))
  | _ => False
theorem kFld_ip {e : List D} {o off : Nat} {k : D → Prop} : kFld (.ip e o) off k = kD (.ip e (o + off)) k := (rfl)
theorem kFld_ptr {τ z i o off : Nat} {k : D → Prop} : kFld (.ptr τ z i o) off k = kD (.ptr τ z i (o + off)) k := (rfl)

def kLdO (z i o : Nat) (k : D → Prop) (ob : Ob) : Prop := ChkD (ob.sz = z ∧ i < ob.es.length ∧ o < z) ((ob.es.getD i []).getD o .junk) k
theorem kLdO_eq {z i o z' : Nat} {k : D → Prop} {es : List (List D)} {fl : Bool} : kLdO z i o k ⟨z', es, fl⟩ = ChkD (z' = z ∧ i < es.length ∧ o < z) ((es.getD i []).getD o .junk) k := (rfl)
def kLd (s : S) (x : D) (k : D → Prop) : Prop :=
  match x with
  | .ip e o => ChkD (o < e.length) (e.getD o .junk) k
  | .ptr τ z i o => kM (s.M τ) (kLdO z i o k)
  | _ => False
theorem kLd_ip {s : S} {e : List D} {o : Nat} {k : D → Prop} : kLd s (.ip e o) k = ChkD (o < e.length) (e.getD o .junk) k := (rfl)
theorem kLd_ptr {s : S} {τ z i o : Nat} {k : D → Prop} : kLd s (.ptr τ z i o) k = kM (s.M τ) (kLdO z i o k) := (rfl)

def kLdnO (z i o n : Nat) (k : D → Prop) (ob : Ob) : Prop := ChkD (ob.sz = z ∧ i < ob.es.length ∧ o + n ≤ z) (.ag (((ob.es.getD i []).drop o).take n)) k
theorem kLdnO_eq {z i o n z' : Nat} {k : D → Prop} {es : List (List D)} {fl : Bool} : kLdnO z i o n k ⟨z', es, fl⟩ = ChkD (z' = z ∧ i < es.length ∧ o + n ≤ z) (.ag (((es.getD i []).drop o).take n)) k := (rfl)
def kLdn (s : S) (x : D) (n : Nat) (k : D → Prop) : Prop :=
  match x with
  | .ip e o => ChkD (o + n ≤ e.length) (.ag ((e.drop o).take n)) k
  | .ptr τ z i o => kM (s.M τ) (kLdnO z i o n k)
  | _ => False
theorem kLdn_ip {s : S} {e : List D} {o n : Nat} {k : D → Prop} : kLdn s (.ip e o) n k = ChkD (o + n ≤ e.length) (.ag ((e.drop o).take n)) k := (rfl)
theorem kLdn_ptr {s : S} {τ z i o n : Nat} {k : D → Prop} : kLdn s (.ptr τ z i o) n k = kM (s.M τ) (kLdnO z i o n k) := (rfl)

/-- Integer operations. -/
def binV (op : BinOp) (x y : Value) : Option Value :=
  match op, x, y with
  | .add, .int k a, .int q b => if k = q then some (.int k (k.wrap (a + b))) else none
  | .sub, .int k a, .int q b => if k = q then some (.int k (k.wrap (a - b))) else none
  | .mul, .int k a, .int q b => if k = q then some (.int k (k.wrap (a * b))) else none
  | .quo, .int k a, .int q b => if k = q ∧ b ≠ 0 then some (.int k (k.wrap (a.tdiv b))) else none
  | .rem, .int k a, .int q b => if k = q ∧ b ≠ 0 then some (.int k (a.tmod b)) else none
  | .and, .int k a, .int q b => if k = q then some (.int k (k.wrap (BitVec.ofInt k.bits a &&& BitVec.ofInt k.bits b).toNat)) else none
  | .or, .int k a, .int q b => if k = q then some (.int k (k.wrap (BitVec.ofInt k.bits a ||| BitVec.ofInt k.bits b).toNat)) else none
  | .xor, .int k a, .int q b => if k = q then some (.int k (k.wrap (BitVec.ofInt k.bits a ^^^ BitVec.ofInt k.bits b).toNat)) else none
  | .andNot, .int k a, .int q b => if k = q then some (.int k (k.wrap (BitVec.ofInt k.bits a &&& ~~~ (BitVec.ofInt k.bits b)).toNat)) else none
  | .shl, .int k a, .int _ b => if 0 ≤ b then some (.int k (k.wrap (a * 2 ^ (min b.toNat k.bits)))) else none
  | .shr, .int k a, .int _ b => if 0 ≤ b then some (.int k (a.fdiv (2 ^ (min b.toNat k.bits)))) else none
  | .eql, .int k a, .int q b => if k = q then some (.bool (a == b)) else none
  | .neq, .int k a, .int q b => if k = q then some (.bool (a != b)) else none
  | .lss, .int k a, .int q b => if k = q then some (.bool (decide (a < b))) else none
  | .leq, .int k a, .int q b => if k = q then some (.bool (decide (a ≤ b))) else none
  | .gtr, .int k a, .int q b => if k = q then some (.bool (decide (a > b))) else none
  | .geq, .int k a, .int q b => if k = q then some (.bool (decide (a ≥ b))) else none
  | _, _, _ => none
def kBin (op : BinOp) (x y : D) (k : D → Prop) : Prop :=
  match x, y with
  | .v a, .v b => match binV op a b with | some c => k (.v c) | none => False
  | _, _ => False
section
variable {q q' : IntKind} {a b : Int} {k : D → Prop}
theorem kBin_add : kBin .add (.v (.int q a)) (.v (.int q b)) k = kD (.v (.int q (q.wrap (a + b)))) k := by simp [kBin, binV, kD]
theorem kBin_sub : kBin .sub (.v (.int q a)) (.v (.int q b)) k = kD (.v (.int q (q.wrap (a - b)))) k := by simp [kBin, binV, kD]
theorem kBin_mul : kBin .mul (.v (.int q a)) (.v (.int q b)) k = kD (.v (.int q (q.wrap (a * b)))) k := by simp [kBin, binV, kD]
theorem kBin_quo : kBin .quo (.v (.int q a)) (.v (.int q b)) k = ChkD (b ≠ 0) (.v (.int q (q.wrap (a.tdiv b)))) k := by by_cases h : b = 0 <;> simp [kBin, binV, ChkD, h]
theorem kBin_rem : kBin .rem (.v (.int q a)) (.v (.int q b)) k = ChkD (b ≠ 0) (.v (.int q (a.tmod b))) k := by by_cases h : b = 0 <;> simp [kBin, binV, ChkD, h]
theorem kBin_and : kBin .and (.v (.int q a)) (.v (.int q b)) k = kD (.v (.int q (q.wrap (BitVec.ofInt q.bits a &&& BitVec.ofInt q.bits b).toNat))) k := by simp [kBin, binV, kD]
theorem kBin_or : kBin .or (.v (.int q a)) (.v (.int q b)) k = kD (.v (.int q (q.wrap (BitVec.ofInt q.bits a ||| BitVec.ofInt q.bits b).toNat))) k := by simp [kBin, binV, kD]
theorem kBin_xor : kBin .xor (.v (.int q a)) (.v (.int q b)) k = kD (.v (.int q (q.wrap (BitVec.ofInt q.bits a ^^^ BitVec.ofInt q.bits b).toNat))) k := by simp [kBin, binV, kD]
theorem kBin_andNot : kBin .andNot (.v (.int q a)) (.v (.int q b)) k = kD (.v (.int q (q.wrap (BitVec.ofInt q.bits a &&& ~~~ (BitVec.ofInt q.bits b)).toNat))) k := by simp [kBin, binV, kD]
theorem kBin_shl : kBin .shl (.v (.int q a)) (.v (.int q' b)) k = ChkD (0 ≤ b) (.v (.int q (q.wrap (a * 2 ^ (min b.toNat q.bits))))) k := by by_cases h : 0 ≤ b <;> simp [kBin, binV, ChkD, h]
theorem kBin_shr : kBin .shr (.v (.int q a)) (.v (.int q' b)) k = ChkD (0 ≤ b) (.v (.int q (a.fdiv (2 ^ (min b.toNat q.bits))))) k := by by_cases h : 0 ≤ b <;> simp [kBin, binV, ChkD, h]
theorem kBin_eql : kBin .eql (.v (.int q a)) (.v (.int q b)) k = kD (.v (.bool (a == b))) k := by simp [kBin, binV, kD]
theorem kBin_neq : kBin .neq (.v (.int q a)) (.v (.int q b)) k = kD (.v (.bool (a != b))) k := by simp [kBin, binV, kD]
theorem kBin_lss : kBin .lss (.v (.int q a)) (.v (.int q b)) k = kD (.v (.bool (decide (a < b)))) k := by simp [kBin, binV, kD]
theorem kBin_leq : kBin .leq (.v (.int q a)) (.v (.int q b)) k = kD (.v (.bool (decide (a ≤ b)))) k := by simp [kBin, binV, kD]
theorem kBin_gtr : kBin .gtr (.v (.int q a)) (.v (.int q b)) k = kD (.v (.bool (decide (b < a)))) k := by simp [kBin, binV, kD]
theorem kBin_geq : kBin .geq (.v (.int q a)) (.v (.int q b)) k = kD (.v (.bool (decide (b ≤ a)))) k := by simp [kBin, binV, kD]
end

/-- Equality of bools. -/
def kEqb (neg : Bool) (x y : D) (k : D → Prop) : Prop :=
  match x, y with
  | .v (.bool a), .v (.bool b) => k (.v (.bool (if neg then a != b else a == b)))
  | _, _ => False
theorem kEqb_eq {a b : Bool} {k : D → Prop} : kEqb false (.v (.bool a)) (.v (.bool b)) k = kD (.v (.bool (a == b))) k := (rfl)
theorem kEqb_ne {a b : Bool} {k : D → Prop} : kEqb true (.v (.bool a)) (.v (.bool b)) k = kD (.v (.bool (a != b))) k := (rfl)

def kNot (x : D) (k : D → Prop) : Prop := match x with | .v (.bool a) => k (.v (.bool (!a))) | _ => False
theorem kNot_v {a : Bool} {k : D → Prop} : kNot (.v (.bool a)) k = kD (.v (.bool (!a))) k := (rfl)
def kNeg (x : D) (k : D → Prop) : Prop := match x with | .v (.int q a) => k (.v (.int q (q.wrap (0 - a)))) | _ => False
theorem kNeg_v {q : IntKind} {a : Int} {k : D → Prop} : kNeg (.v (.int q a)) k = kD (.v (.int q (q.wrap (0 - a)))) k := (rfl)
def kCvi (q : IntKind) (x : D) (k : D → Prop) : Prop := match x with | .v (.int _ a) => k (.v (.int q (q.wrap a))) | _ => False
theorem kCvi_v {q q' : IntKind} {a : Int} {k : D → Prop} : kCvi q (.v (.int q' a)) k = kD (.v (.int q (q.wrap a))) k := (rfl)
def kExt (x : D) (i : Nat) (k : D → Prop) : Prop := match x with | .tu ds => ChkD (i < ds.length) (ds.getD i .junk) k | _ => False
theorem kExt_tu {ds : List D} {i : Nat} {k : D → Prop} : kExt (.tu ds) i k = ChkD (i < ds.length) (ds.getD i .junk) k := (rfl)
def kGetf (x : D) (off n : Nat) (agg : Bool) (k : D → Prop) : Prop := match x with | .ag ds => ChkD (off + n ≤ ds.length) (if agg then .ag ((ds.drop off).take n) else ds.getD off .junk) k | _ => False
theorem kGetf_ag {ds : List D} {off n : Nat} {agg : Bool} {k : D → Prop} : kGetf (.ag ds) off n agg k = ChkD (off + n ≤ ds.length) (if agg then .ag ((ds.drop off).take n) else ds.getD off .junk) k := (rfl)

def kSub (x lo hi : D) (sz : Nat) (k : D → Prop) : Prop :=
  match x, lo, hi with
  | .sl z es, .v (.int _ l), .v (.int _ h) => ChkD (z = sz ∧ 0 ≤ l ∧ l ≤ h ∧ h ≤ es.length) (.sl z ((es.take h.toNat).drop l.toNat)) k
  | .ref τ z off n, .v (.int _ l), .v (.int _ h) => ChkD (z = sz ∧ 0 ≤ l ∧ l ≤ h ∧ h ≤ n) (.ref τ z (off + l.toNat) (h.toNat - l.toNat)) k
  | .nl, .v (.int _ l), .v (.int _ h) => ChkD (l = 0 ∧ h = 0) .nl k
  | _, _, _ => False
theorem kSub_sl {z sz : Nat} {es : List (List D)} {q q' : IntKind} {l h : Int} {k : D → Prop} :
    kSub (.sl z es) (.v (.int q l)) (.v (.int q' h)) sz k = ChkD (z = sz ∧ 0 ≤ l ∧ l ≤ h ∧ h ≤ es.length) (.sl z ((es.take h.toNat).drop l.toNat)) k := (rfl)
theorem kSub_ref {τ z off n sz : Nat} {q q' : IntKind} {l h : Int} {k : D → Prop} :
    kSub (.ref τ z off n) (.v (.int q l)) (.v (.int q' h)) sz k = ChkD (z = sz ∧ 0 ≤ l ∧ l ≤ h ∧ h ≤ n) (.ref τ z (off + l.toNat) (h.toNat - l.toNat)) k := (rfl)
theorem kSub_nl {sz : Nat} {q q' : IntKind} {l h : Int} {k : D → Prop} : kSub .nl (.v (.int q l)) (.v (.int q' h)) sz k = ChkD (l = 0 ∧ h = 0) .nl k := (rfl)
def lenDD : D → D
  | .sl _ es => .v (.int .i64 es.length)
  | .ref _ _ _ n => .v (.int .i64 n)
  | .nl => .v (.int .i64 0)
  | _ => .junk
theorem lenDD_sl {sz : Nat} {es : List (List D)} : lenDD (.sl sz es) = .v (.int .i64 es.length) := (rfl)
theorem lenDD_ref {τ sz off n : Nat} : lenDD (.ref τ sz off n) = .v (.int .i64 n) := (rfl)
theorem lenDD_nl : lenDD .nl = .v (.int .i64 0) := (rfl)
def S.lo (s : S) : Option O → D
  | some o => s.g o
  | none => .v (.int .i64 0)
def S.hi (s : S) (x : D) : Option O → D
  | some o => s.g o
  | none => lenDD x

def kMin (isMax : Bool) (x y : D) (k : D → Prop) : Prop :=
  match x, y with
  | .v (.int q a), .v (.int _ b) => k (.v (.int q (if isMax then (if a < b then b else a) else (if b < a then b else a))))
  | _, _ => False
theorem kMin_min {q q' : IntKind} {a b : Int} {k : D → Prop} : kMin false (.v (.int q a)) (.v (.int q' b)) k = kD (.v (.int q (if b < a then b else a))) k := (rfl)
theorem kMin_max {q q' : IntKind} {a b : Int} {k : D → Prop} : kMin true (.v (.int q a)) (.v (.int q' b)) k = kD (.v (.int q (if a < b then b else a))) k := (rfl)

/-- The cells of a description: a struct's are its parts'. -/
def D.cells : D → List D
  | .ag ds => ds
  | d => [d]
def splice (cells : List D) (off : Nat) (ds : List D) : List D := cells.take off ++ ds ++ cells.drop (off + ds.length)
def kBldS (off n : Nat) (cells : List D) (go : List D → Prop) (ds : List D) : Prop := ChkD (ds.length = n ∧ off + n ≤ cells.length ∧ ds.all D.one = true) (splice cells off ds) go
def kBld (s : S) (k : D → Prop) : List (Nat × Nat × O) → List D → Prop
  | [], cells => k (.ag cells)
  | (off, n, o) :: r, cells => kBldS off n cells (kBld s k r) (s.g o).cells

/-- What owned objects read as, for a call or a result. -/
def viewO (x : Option Ob) (sz off n : Nat) : D :=
  match x with
  | some ob => if ob.flat = true ∧ ob.sz = sz ∧ off + n ≤ ob.es.length then .sl sz ((ob.es.drop off).take n) else .junk
  | none => .junk
def S.viewA (s : S) : D → D
  | .ref τ sz off n => viewO (s.M τ) sz off n
  | .ptr _ _ _ _ | .clo _ _ | .ag _ | .tu _ => .junk
  | d => d
def S.view (s : S) : D → D
  | .ref τ sz off n => viewO (s.M τ) sz off n
  | .ag ds => .ag (ds.map s.viewA)
  | .ptr _ _ _ _ | .tu _ => .junk
  | .clo f ds => if ds.length = 0 then .clo f [] else .junk
  | d => d
def D.ownA : D → Bool
  | .ref _ _ _ _ | .ptr _ _ _ _ => true
  | _ => false
def D.owned : D → Bool
  | .ref _ _ _ _ | .ptr _ _ _ _ => true
  | .ag ds => ds.any D.ownA
  | _ => false
/-- No memory in it. -/
def D.scalar : D → Bool
  | .v _ => true
  | _ => false
def D.plain : D → Bool
  | .v _ => true
  | .tu ds => ds.all D.scalar
  | .ag ds => ds.all D.scalar
  | _ => false

inductive Les : List D → List D → Prop
  | nil : Les [] []
  | cons {d d' : D} {l l' : List D} (h : d.Le d') (t : Les l l') : Les (d :: l) (d' :: l')

def CallVC (P : Program) (f : FuncId) (ds : List D) (own : Bool) (k : D → Prop) : Prop :=
  ∃ ds' R, Les ds ds' ∧ Spec P f ds' R ∧ ∀ d, R d → (own = true → d.plain = true) ∧ k d
/-- A call in a region that draws its order: the result is one known value without memory. -/
def CallQ (P : Program) (f : FuncId) (ds : List D) (k : D → Prop) : Prop :=
  ∃ ds' x, Les ds ds' ∧ Spec P f ds' (· = .v x) ∧ k (.v x)

def kAppO (s : S) (d : Option Nat) (τ zx off n : Nat) (z : Nat) (ys : List (List D)) (sz bytes : Nat) (K : S → Prop) (ob : Ob) : Prop :=
  Chk (z = sz ∧ zx = sz ∧ ob.sz = sz ∧ off = 0 ∧ n ≤ ob.es.length ∧ (n + ys.length) * bytes ≤ 140737488355328) K
    (((s.kill τ).setM τ ⟨sz, (ob.es.take n).map (fun e => if ob.flat then e else e.map (D.kill τ)) ++ ys, ob.flat⟩).put d (.ref τ sz 0 (n + ys.length)))
def appO (τ n sz : Nat) (ys : List (List D)) (es : List (List D)) (fl : Bool) : Ob := ⟨sz, (es.take n).map (fun e => if fl then e else e.map (D.kill τ)) ++ ys, fl⟩
theorem appO_flat {τ n sz : Nat} {ys es : List (List D)} : appO τ n sz ys es true = ⟨sz, es.take n ++ ys, true⟩ := by simp [appO]
theorem appO_open {τ n sz : Nat} {ys es : List (List D)} : appO τ n sz ys es false = ⟨sz, (es.take n).map (fun e => e.map (D.kill τ)) ++ ys, false⟩ := by simp [appO]
theorem kAppO_eq {s : S} {d : Option Nat} {τ zx off n z z' : Nat} {ys es : List (List D)} {sz bytes : Nat} {K : S → Prop} {fl : Bool} : kAppO s d τ zx off n z ys sz bytes K ⟨z', es, fl⟩ =
  Chk (z = sz ∧ zx = sz ∧ z' = sz ∧ off = 0 ∧ n ≤ es.length ∧ (n + ys.length) * bytes ≤ 140737488355328) K
    (((s.kill τ).setM τ (appO τ n sz ys es fl)).put d (.ref τ sz 0 (n + ys.length))) := (rfl)
def kApp (s : S) (d : Option Nat) (sz bytes : Nat) (K : S → Prop) (x y : D) : Prop :=
  match y with
  | .sl z ys =>
    (match x with
    | .nl => Chk (z = sz ∧ ys.length * bytes ≤ 140737488355328) K (s.newt d ⟨sz, ys, true⟩ (fun τ => .ref τ sz 0 ys.length))
    | .ref τ zx off n => kM (s.M τ) (kAppO s d τ zx off n z ys sz bytes K)
    | _ => False)
  | .nl =>
    (match x with
    | .nl => K (s.put d .nl)
    | .ref τ zx off n => K (s.put d (.ref τ zx off n))
    | _ => False)
  | _ => False
section
variable {s : S} {d : Option Nat} {sz bytes : Nat} {k : S → Prop}
theorem kApp_nl {z : Nat} {ys : List (List D)} : kApp s d sz bytes k .nl (.sl z ys) = Chk (z = sz ∧ ys.length * bytes ≤ 140737488355328) k (s.newt d ⟨sz, ys, true⟩ (fun τ => .ref τ sz 0 ys.length)) := (rfl)
theorem kApp_ref {z : Nat} {ys : List (List D)} {τ zx off n : Nat} : kApp s d sz bytes k (.ref τ zx off n) (.sl z ys) = kM (s.M τ) (kAppO s d τ zx off n z ys sz bytes k) := (rfl)
theorem kApp_nn : kApp s d sz bytes k .nl .nl = k (s.put d .nl) := (rfl)
theorem kApp_rn {τ zx off n : Nat} : kApp s d sz bytes k (.ref τ zx off n) .nl = k (s.put d (.ref τ zx off n)) := (rfl)
end

def kMk (s : S) (d : Option Nat) (sz : Nat) (zero : List D) (bytes : Nat) (K : S → Prop) (x : D) : Prop :=
  match x with
  | .v (.int .i64 z) => Chk (0 ≤ z ∧ z * bytes ≤ 140737488355328) K (s.newt d ⟨sz, List.replicate z.toNat zero, true⟩ (fun τ => .ref τ sz 0 z.toNat))
  | _ => False
theorem kMk_v {s : S} {d : Option Nat} {z : Int} {sz : Nat} {zero : List D} {bytes : Nat} {K : S → Prop} :
    kMk s d sz zero bytes K (.v (.int .i64 z)) = Chk (0 ≤ z ∧ z * bytes ≤ 140737488355328) K (s.newt d ⟨sz, List.replicate z.toNat zero, true⟩ (fun τ => .ref τ sz 0 z.toNat)) := (rfl)

/-- New objects out of given rows. -/
def kRows (s : S) (d : Option Nat) (n : Nat) (isRef : Bool) (K : S → Prop) (xs : List (List D)) : Prop :=
  Chk (xs.all (fun e => e.length == n && e.all D.one) = true) K (s.newt d ⟨n, xs, xs.all (fun e => e.all D.cl)⟩ fun τ => if isRef then .ref τ n 0 xs.length else .ptr τ n 0 0)

def kStO (s : S) (d : Option Nat) (τ z i o : Nat) (y : D) (K : S → Prop) (ob : Ob) : Prop :=
  Chk (ob.sz = z ∧ i < ob.es.length ∧ o < z ∧ y.one = true) K ((s.setM τ ⟨z, ob.es.set i ((ob.es.getD i []).set o y), ob.flat && y.cl⟩).put d .junk)
theorem kStO_eq {s : S} {d : Option Nat} {τ z i o z' : Nat} {y : D} {K : S → Prop} {es : List (List D)} {fl : Bool} : kStO s d τ z i o y K ⟨z', es, fl⟩ =
  Chk (z' = z ∧ i < es.length ∧ o < z ∧ y.one = true) K ((s.setM τ ⟨z, es.set i ((es.getD i []).set o y), fl && y.cl⟩).put d .junk) := (rfl)
def kSt (s : S) (d : Option Nat) (K : S → Prop) (x y : D) : Prop :=
  match x with
  | .ptr τ z i o => kM (s.M τ) (kStO s d τ z i o y K)
  | _ => False
theorem kSt_ptr {s : S} {d : Option Nat} {τ z i o : Nat} {y : D} {K : S → Prop} : kSt s d K (.ptr τ z i o) y = kM (s.M τ) (kStO s d τ z i o y K) := (rfl)
def kStnO (s : S) (d : Option Nat) (τ z i o n : Nat) (ds : List D) (K : S → Prop) (ob : Ob) : Prop :=
  Chk (ob.sz = z ∧ i < ob.es.length ∧ o + n ≤ z ∧ ds.length = n ∧ ds.all D.one = true) K ((s.setM τ ⟨z, ob.es.set i (splice (ob.es.getD i []) o ds), ob.flat && ds.all D.cl⟩).put d .junk)
theorem kStnO_eq {s : S} {d : Option Nat} {τ z i o n z' : Nat} {ds : List D} {K : S → Prop} {es : List (List D)} {fl : Bool} : kStnO s d τ z i o n ds K ⟨z', es, fl⟩ =
  Chk (z' = z ∧ i < es.length ∧ o + n ≤ z ∧ ds.length = n ∧ ds.all D.one = true) K ((s.setM τ ⟨z, es.set i (splice (es.getD i []) o ds), fl && ds.all D.cl⟩).put d .junk) := (rfl)
def kStn (s : S) (d : Option Nat) (n : Nat) (K : S → Prop) (x y : D) : Prop :=
  match x, y with
  | .ptr τ z i o, .ag ds => kM (s.M τ) (kStnO s d τ z i o n ds K)
  | _, _ => False
theorem kStn_ptr {s : S} {d : Option Nat} {τ z i o n : Nat} {ds : List D} {K : S → Prop} : kStn s d n K (.ptr τ z i o) (.ag ds) = kM (s.M τ) (kStnO s d τ z i o n ds K) := (rfl)

/-- One instruction. -/
def vcI (P : Program) (i : MI) (d : Option Nat) (K : S → Prop) (s : S) : Prop :=
  match i with
  | .mov x => kD (s.g x) (putK d s K)
  | .pick c a b => kPick (s.g c) (s.g a) (s.g b) (putK d s K)
  | .len x => kLen (s.g x) (putK d s K)
  | .idx x i sz => kIdx (s.g x) (s.g i) sz (putK d s K)
  | .idxa x i sz n => kIdxa (s.g x) (s.g i) sz n (putK d s K)
  | .idxv x i sz n agg => kIdxv (s.g x) (s.g i) sz n agg (putK d s K)
  | .fld x off => kFld (s.g x) off (putK d s K)
  | .ld1 x => kLd s (s.g x) (putK d s K)
  | .ldn x n => kLdn s (s.g x) n (putK d s K)
  | .bin op x y => kBin op (s.g x) (s.g y) (putK d s K)
  | .eqb neg x y => kEqb neg (s.g x) (s.g y) (putK d s K)
  | .not x => kNot (s.g x) (putK d s K)
  | .neg x => kNeg (s.g x) (putK d s K)
  | .cvi q x => kCvi q (s.g x) (putK d s K)
  | .ext x i => kExt (s.g x) i (putK d s K)
  | .getf x off n agg => kGetf (s.g x) off n agg (putK d s K)
  | .sub x lo hi sz => kSub (s.g x) (s.lo lo) (s.hi (s.g x) hi) sz (putK d s K)
  | .mkf f ds => kD (.clo f (ds.map s.g)) (putK d s K)
  | .min x y => kMin false (s.g x) (s.g y) (putK d s K)
  | .max x y => kMin true (s.g x) (s.g y) (putK d s K)
  | .bld zero parts => kBld s (putK d s K) parts zero
  | .nil sz => K (s.newt d ⟨sz, [], true⟩ fun τ => .ref τ sz 0 0)
  | .new zero => K (s.newt d ⟨zero.length, [zero], true⟩ fun τ => .ptr τ zero.length 0 0)
  | .box x n => kD [(s.g x).cells] (kRows s d n false K)
  | .mk len sz zero bytes => kMk s d sz zero bytes K (s.g len)
  | .bsl sz es => kD (es.map fun o => (s.g o).cells) (kRows s d sz true K)
  | .st1 x y => kSt s d K (s.g x) (s.g y)
  | .stn x y n => kStn s d n K (s.g x) (s.g y)
  | .app x y sz bytes => kApp s d sz bytes K (s.g x) (s.view (s.g y))
  | .call f args => CallVC P f (args.map fun o => s.view (s.g o)) (args.any fun o => (s.g o).owned) (putK d s K)
  | .callq f args => CallQ P f (args.map fun o => s.view (s.g o)) (putK d s K)

/-- An operation that is passed over. -/
def skipK (d : Option Nat) (K : S → Prop) (s : S) : Prop := K (s.put d .junk)
def kGd (x : D) (g : Nat) (b : Bool) (f h : S → Prop) (s : S) : Prop :=
  match x with
  | .v (.bool t) => Br t (if b then f else h) (s.put (some g) (.v (.bool true))) (if b then h else f) (s.put (some g) (.v (.bool false)))
  | _ => False
theorem kGd_t {t : Bool} {g : Nat} {f h : S → Prop} {s : S} : kGd (.v (.bool t)) g true f h s = Br t f (s.put (some g) (.v (.bool true))) h (s.put (some g) (.v (.bool false))) := (rfl)
theorem kGd_f {t : Bool} {g : Nat} {f h : S → Prop} {s : S} : kGd (.v (.bool t)) g false f h s = Br t h (s.put (some g) (.v (.bool true))) f (s.put (some g) (.v (.bool false))) := (rfl)

def vcOps (P : Program) : List Op1 → (S → Prop) → S → Prop
  | [], K, s => K s
  | ⟨none, d, i⟩ :: r, K, s => vcI P i d (vcOps P r K) s
  | ⟨some (g, b), d, i⟩ :: r, K, s => kGd (s.ρ g) g b (vcI P i d (vcOps P r K)) (skipK d (vcOps P r K)) s

/-- The state at a loop's head: named slots and objects; what the body writes else is forgotten. -/
def look {α : Type} (t : Nat) : List (Nat × α) → Option α
  | [] => none
  | (i, d) :: r => if t = i then some d else look t r
def D.keepA : D → D
  | .v x => .v x
  | .nl => .nl
  | .sl sz es => .sl sz es
  | .ip e o => .ip e o
  | _ => .junk
def D.keep : D → D
  | .v x => .v x
  | .nl => .nl
  | .sl sz es => .sl sz es
  | .ip e o => .ip e o
  | .ag ds => .ag (ds.map keepA)
  | .tu ds => .tu (ds.map keepA)
  | .clo f ds => if ds.length = 0 then .clo f [] else .junk
  | _ => .junk
def headD (x : Option D) (c : Bool) (s : S) (t : Nat) : D := match x with | some d => d | none => if c then .junk else (s.ρ t).keep
def S.head (s : S) (asg : List Nat) (ups : List (Nat × D)) (ms : List (Nat × Ob)) : S :=
  { s with ρ := fun t => headD (look t ups) (asg.contains t) s t, M := fun τ => look τ ms }
def Fits (s : S) (ups : List (Nat × D)) (ms : List (Nat × Ob)) : Prop := (∀ p, p ∈ ups → s.ρ p.1 = p.2) ∧ ∀ p, p ∈ ms → s.M p.1 = some p.2

def loopK {X : Type} (ups : X → List (Nat × D)) (ms : X → List (Nat × Ob)) (μ : X → Nat) (Inv : X → Prop) (n : Nat) (x : X) (s : S) : Prop :=
  n ≤ s.N ∧ ∃ x', Inv x' ∧ μ x' < μ x ∧ Fits (s.trim n) (ups x') (ms x')
def kCond (x : D) (f g : S → Prop) (s : S) : Prop := match x with | .v (.bool b) => Br b f s g s | _ => False
theorem kCond_v {b : Bool} {f g : S → Prop} {s : S} : kCond (.v (.bool b)) f g s = Br b f s g s := (rfl)

/-- What follows: code, a block's end, a loop's back edge, the function's end. -/
inductive Fr where
  | s (c : MC)
  | b (id : Nat)
  | l (J : S → Prop)
  | f (F : Ex → S → Prop)
def MC.size : MC → Nat
  | .skip | .reg _ _ | .exit _ | .ret => 1
  | .seq a b => a.size + b.size + 2
  | .cond _ a b => a.size + b.size + 1
  | .blk _ c => c.size + 2
  | .loop _ c => c.size + 2
def Fr.size : Fr → Nat
  | .s c => c.size + 1
  | _ => 1
def stSize : List Fr → Nat
  | [] => 0
  | f :: r => f.size + stSize r

mutual
def vc (P : Program) : MC → List Fr → S → Prop
  | .skip, st, s => rs P .nrm st s
  | .reg _ ops, st, s => vcOps P ops (rs P .nrm st) s
  | .seq a b, st, s => vc P a (.s b :: st) s
  | .cond c x y, st, s => kCond (s.g c) (vc P x st) (vc P y st) s
  | .blk id c, st, s => vc P c (.b id :: st) s
  | .loop asg c, st, s => ∃ (X : Type) (ups : X → List (Nat × D)) (ms : X → List (Nat × Ob)) (μ : X → Nat) (Inv : X → Prop) (x0 : X), Inv x0 ∧ Fits s (ups x0) (ms x0) ∧
      ∀ x, Inv x → vc P c (.l (loopK ups ms μ Inv s.N x) :: st) (s.head asg (ups x) (ms x))
  | .exit id, st, s => rs P (.exit id) st s
  | .ret, st, s => rs P .ret st s
  termination_by c st => 2 * (c.size + stSize st) + 1
  decreasing_by all_goals (simp only [MC.size, stSize, Fr.size]; omega)
/-- It goes on so. -/
def rs (P : Program) : Ex → List Fr → S → Prop
  | _, [], _ => False
  | e, .f F :: _, s => F e s
  | .nrm, .s c :: st, s => vc P c st s
  | .exit i, .s _ :: st, s => rs P (.exit i) st s
  | .ret, .s _ :: st, s => rs P .ret st s
  | .nrm, .b _ :: st, s => rs P .nrm st s
  | .exit i, .b id :: st, s => if i = id then rs P .nrm st s else rs P (.exit i) st s
  | .ret, .b _ :: st, s => rs P .ret st s
  | .nrm, .l J :: _, s => J s
  | .exit i, .l _ :: st, s => rs P (.exit i) st s
  | .ret, .l _ :: st, s => rs P .ret st s
  termination_by _ st => 2 * stSize st
  decreasing_by all_goals (simp only [stSize, Fr.size]; omega)
end
def LoopVC (P : Program) (asg : List Nat) (c : MC) (st : List Fr) (s : S) : Prop :=
  ∃ (X : Type) (ups : X → List (Nat × D)) (ms : X → List (Nat × Ob)) (μ : X → Nat) (Inv : X → Prop) (x0 : X), Inv x0 ∧ Fits s (ups x0) (ms x0) ∧
    ∀ x, Inv x → vc P c (.l (loopK ups ms μ Inv s.N x) :: st) (s.head asg (ups x) (ms x))

/-! ### A function's end -/
inductive RO where
  | t (n : Nat)
  | cell (n sz : Nat) (agg : Bool)
def resD : List D → D
  | [d] => d
  | ds => .tu ds
def Fin (R : D → Prop) (d : D) : Prop := ∃ d', d.Le d' ∧ R d'
/-- The results, one by one. -/
def kCellO (s : S) (z i o sz : Nat) (agg : Bool) (k : D → Prop) (ob : Ob) : Prop :=
  Chk (ob.sz = z ∧ i < ob.es.length ∧ o + sz ≤ z ∧ 0 < sz ∧ (agg = false → sz = 1)) (kD (s.view (if agg then .ag (((ob.es.getD i []).drop o).take sz) else (ob.es.getD i []).getD o .junk))) k
def kCell (s : S) (sz : Nat) (agg : Bool) (k : D → Prop) (x : D) : Prop :=
  match x with
  | .ptr τ z i o => kM (s.M τ) (kCellO s z i o sz agg k)
  | _ => False
def kRes (s : S) (R : D → Prop) : List RO → List D → Prop
  | [], acc => kD (resD acc) (Fin R)
  | .t n :: r, acc => kD (s.view (s.ρ n)) fun x => kRes s R r (acc ++ [x])
  | .cell n sz agg :: r, acc => kCell s sz agg (fun x => kRes s R r (acc ++ [x])) (s.ρ n)
def resN (s : S) (R : D → Prop) (r : List RO) (acc : List D) (x : D) : Prop := kRes s R r (acc ++ [x])
def finQ (rs : List RO) (R : D → Prop) : Ex → S → Prop
  | .exit _, _ => False
  | _, s => kRes s R rs []

/-- The state at a function's entry. -/
def S.init (ds : List D) : S := { ρ := fun t => ds.getD t .junk, M := fun _ => none, N := 0 }

end Go.Dm
