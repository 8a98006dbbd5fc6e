/-
  A logic for Go functions over plain data, part C: what the relation keeps, and the operations that only read.
-/
import Derived.Test.YtagllokfkliaoaaDmB
namespace Go.Dm
open Go.RowKit

/-! ### What the relations keep -/
theorem CR.mono {w w' : World} {A A' : Nat → Prop} {d : D} {x : Value} (h : CR w A d x) (hw : ∀ b, A b → w'.heap[b]? = w.heap[b]?) (hA : ∀ b, A b → A' b) : CR w' A' d x := by
  induction h with
  | v x => exact .v x
  | nl => exact .nl
  | sl0 sz b c => exact .sl0 sz b c
  | sl sz es b off n c us hAb hn hcap hsz hc hr ih =>
    refine .sl sz es b off n c us (hA b hAb) hn hcap hsz (fun i j hi hj => ⟨?_, (hc i j hi hj).2⟩) ih
    rw [World.cell?_of_block (w := w) (hw b hAb)]; exact (hc i j hi hj).1
  | ag ds cs hn hr ih => exact .ag ds cs hn ih
  | tu ds cs hn hr ih => exact .tu ds cs hn ih
  | ip e o b off us hAb hc hr ih =>
    refine .ip e o b off us (hA b hAb) (fun j hj => ?_) ih
    rw [World.cell?_of_block (w := w) (hw b hAb)]; exact hc j hj
  | clo f => exact .clo f
  | junk x => exact .junk x

/-- Rows of cells stay rows of cells of that length. -/
def Shp (w w' : World) : Prop := ∀ (b : Nat) (arr : Array Value) (T : TypeId), w.heap[b]? = some (.cells arr T (0, 0)) → ∃ arr', w'.heap[b]? = some (.cells arr' T (0, 0)) ∧ arr'.size = arr.size
theorem Shp.refl (w : World) : Shp w w := fun _ arr _ h => ⟨arr, h, rfl⟩
theorem Shp.trans {a b c : World} (h : Shp a b) (k : Shp b c) : Shp a c := fun n arr T e => by
  obtain ⟨arr1, h1, s1⟩ := h n arr T e
  obtain ⟨arr2, h2, s2⟩ := k n arr1 T h1
  exact ⟨arr2, h2, s2.trans s1⟩
/-- No block that is there turns. -/
def Same (w w' : World) : Prop := ∀ b, b < w.heap.size → w'.heap[b]? = w.heap[b]?
theorem Same.shp {w w' : World} (h : Same w w') : Shp w w' := fun b arr T e => by
  have hb : b < w.heap.size := by
    rcases Nat.lt_or_ge b w.heap.size with h' | h'
    · exact h'
    · simp [Array.getElem?_eq_none h'] at e
  exact ⟨arr, by rw [h b hb]; exact e, rfl⟩
theorem Same.refl (w : World) : Same w w := fun _ _ => rfl

theorem DR.mono {w w' : World} {A A' : Nat → Prop} {β β' : Nat → Option Nat} {N N' : Nat} {d : D} {x : Value} (h : DR w A β N d x)
    (hw : ∀ b, A b → w'.heap[b]? = w.heap[b]?) (hA : ∀ b, A b → A' b) (hs : Shp w w') (hN : N ≤ N') (hβ : ∀ τ, τ < N → β' τ = β τ) : DR w' A' β' N' d x := by
  induction h with
  | cl d x h => exact .cl d x (h.mono hw hA)
  | ref τ sz off n c b arr T h1 hb hc hh hr =>
    obtain ⟨arr', h1', h2'⟩ := hs b arr T hh
    exact .ref τ sz off n c b arr' T (Nat.lt_of_lt_of_le h1 hN) (by rw [hβ τ h1]; exact hb) hc h1' (by rw [h2']; exact hr)
  | refz τ sz off b h1 => exact .refz τ sz off b (Nat.lt_of_lt_of_le h1 hN)
  | ptr τ sz i o b h1 hb => exact .ptr τ sz i o b (Nat.lt_of_lt_of_le h1 hN) (by rw [hβ τ h1]; exact hb)
  | ag ds cs hn hr ih => exact .ag ds cs hn ih
  | tu ds cs hn hr ih => exact .tu ds cs hn ih
  | clo f ds cs hn hr ih => exact .clo f ds cs hn ih

theorem DR.junk {w : World} {A : Nat → Prop} {β : Nat → Option Nat} {N : Nat} {x : Value} : DR w A β N .junk x := .cl _ _ (.junk x)

/-- A description without owned objects is read by CR alone. -/
theorem DR.toC {w : World} {A : Nat → Prop} {β : Nat → Option Nat} {N : Nat} {d : D} {x : Value} (h : DR w A β N d x) (hc : d.cl = true) : CR w A d x := by
  cases h with
  | cl d x h => exact h
  | ref | refz | ptr | ag | tu | clo => simp [D.cl] at hc

/-- An owned object lies in its block. -/
def CDR (fl : Bool) (w : World) (A : Nat → Prop) (β : Nat → Option Nat) (N : Nat) (d : D) (x : Value) : Prop := DR w A β N d x ∧ (fl = true → CR w A d x) ∧ x.oneCell' = true
def OR (w : World) (A : Nat → Prop) (β : Nat → Option Nat) (N : Nat) (ob : Ob) (τ : Nat) : Prop :=
  (β τ = none ∧ ob.es = []) ∨ ∃ (b : Nat) (arr : Array Value) (T : TypeId), β τ = some b ∧ w.heap[b]? = some (.cells arr T (0, 0)) ∧ ob.es.length * ob.sz ≤ arr.size ∧
    (∀ i, i < ob.es.length → (ob.es.getD i []).length = ob.sz) ∧
    ∀ i j, i < ob.es.length → j < ob.sz → CDR ob.flat w A β N ((ob.es.getD i []).getD j .junk) (arr.getD (i * ob.sz + j) undef)

/-- What a run of a function goes by: the world it began in, the blocks that its arguments lie in, the frame's size, slots that stay. -/
structure Gh where
  w0 : World
  A0 : Nat → Prop
  nt : Nat
  T : Nat → D → Prop

structure GR (G : Gh) (s : S) (a : Act) (w : World) (A : Nat → Prop) (β : Nat → Option Nat) : Prop where
  size : a.tmps.size = G.nt
  defers : a.defers = []
  below : Below G.w0.heap.size G.w0 w
  sub : ∀ b, G.A0 b → A b
  up : ∀ b, A b → G.A0 b ∨ (G.w0.heap.size ≤ b ∧ b < w.heap.size)
  low : ∀ b, A b → b < w.heap.size
  slots : ∀ t, DR w A β s.N (s.ρ t) (a.tmps.getD t undef)
  objs : ∀ τ ob, τ < s.N → s.M τ = some ob → OR w A β s.N ob τ
  inj : ∀ τ σ b, τ < s.N → σ < s.N → s.M τ ≠ none → s.M σ ≠ none → β τ = some b → β σ = some b → τ = σ
  fresh : ∀ τ b, τ < s.N → s.M τ ≠ none → β τ = some b → G.w0.heap.size ≤ b ∧ ¬ A b
  keep : ∀ t d, G.T t d → CR w A d (a.tmps.getD t undef)
def SR (G : Gh) (s : S) (a : Act) (w : World) : Prop := ∃ A β, GR G s a w A β

section
variable {G : Gh} {s : S} {a : Act} {w : World} {A : Nat → Prop} {β : Nat → Option Nat}

theorem getD_put (a : Act) (t u : Nat) (x : Value) (ht : t < a.tmps.size) : (a.put (some t) x).tmps.getD u undef = if u = t then x else a.tmps.getD u undef := by
  simp only [Act.put]
  by_cases h : u = t
  · subst h; simp [ht]
  · simp only [h, if_false]
    simp only [Array.getD_eq_getD_getElem?, Array.getElem?_setIfInBounds]
    rw [if_neg (fun e => h e.symm)]

/-- A slot is written. -/
theorem GR.put (h : GR G s a w A β) {d : Option Nat} {x : D} {v : Value} (hx : DR w A β s.N x v) (hd : ∀ t, d = some t → t < G.nt ∧ ∀ y, ¬ G.T t y) : GR G (s.put d x) (a.put d v) w A β := by
  cases d with
  | none => exact h
  | some t =>
    obtain ⟨ht, hT⟩ := hd t rfl
    have ht' : t < a.tmps.size := by rw [h.size]; exact ht
    refine ⟨by simp [Act.put, h.size], h.defers, h.below, h.sub, h.up, h.low, fun u => ?_, h.objs, h.inj, h.fresh, fun u y hu => ?_⟩
    · rw [getD_put a t u v ht']
      show DR w A β s.N (if u = t then x else s.ρ u) _
      by_cases e : u = t
      · simp only [e, if_true]; exact hx
      · simp only [e, if_false]; exact h.slots u
    · rw [getD_put a t u v ht']
      by_cases e : u = t
      · subst e; exact absurd hu (hT y)
      · simp only [e, if_false]; exact h.keep u y hu

/-- The world goes on: nothing that was there turns. -/
theorem GR.world (h : GR G s a w A β) {w' : World} (hb : Below w.heap.size w w') : GR G s a w' A β := by
  have hs : Same w w' := fun b hb' => hb.block b hb'
  have hA : ∀ b, A b → w'.heap[b]? = w.heap[b]? := fun b hb' => hb.block b (h.low b hb')
  have hle : w.heap.size ≤ w'.heap.size := hb.size
  refine ⟨h.size, h.defers, h.below.trans (hb.mono h.below.size), h.sub, fun b hb' => ?_, fun b hb' => Nat.lt_of_lt_of_le (h.low b hb') hle, fun t => (h.slots t).mono hA (fun _ x => x) hs.shp (Nat.le_refl _) (fun _ _ => rfl),
    fun τ ob hτ hm => ?_, h.inj, h.fresh, fun t d ht => (h.keep t d ht).mono hA (fun _ x => x)⟩
  · rcases h.up b hb' with h1 | h1
    · exact .inl h1
    · exact .inr ⟨h1.1, Nat.lt_of_lt_of_le h1.2 hle⟩
  · rcases h.objs τ ob hτ hm with h1 | ⟨b, arr, T, h1, h2, h3, h4, h5⟩
    · exact .inl h1
    · obtain ⟨hbl, _⟩ := Array.getElem?_eq_some_iff.1 h2
      refine .inr ⟨b, arr, T, h1, by rw [hs b hbl]; exact h2, h3, h4, fun i j hi hj => ?_⟩
      obtain ⟨k1, k2, k3⟩ := h5 i j hi hj
      exact ⟨k1.mono hA (fun _ x => x) hs.shp (Nat.le_refl _) (fun _ _ => rfl), fun hf => (k2 hf).mono hA (fun _ x => x), k3⟩

theorem GR.evalO (h : GR G s a w A β) {x : Operand} {y : O} (hc : cO x = some y) : DR w A β s.N (s.g y) (a.eval x) := by
  cases x with
  | tmp t => simp only [cO, Option.some.injEq] at hc; subst hc; exact h.slots t
  | const x =>
    have : (x = .slice none 0 0 ∧ y = .nl) ∨ y = .k x := by
      by_cases hx : x = .slice none 0 0
      · subst hx; simp only [cO, Option.some.injEq] at hc; exact .inl ⟨rfl, hc.symm⟩
      · have e : cO (.const x) = some (.k x) := by unfold cO; split <;> simp_all
        rw [e, Option.some.injEq] at hc; exact .inr hc.symm
    rcases this with ⟨rfl, rfl⟩ | rfl
    · exact .cl _ _ .nl
    · exact .cl _ _ (.v x)
  | func f => simp only [cO, Option.some.injEq] at hc; subst hc; exact .cl _ _ (.clo f)
  | global g => simp [cO] at hc
end


/-! ### Operations that only read -/

/-- What a pure instruction asks of what follows. -/
def puI (i : MI) (s : S) (k : D → Prop) : Prop :=
  match i with
  | .mov x => kD (s.g x) k
  | .pick c a b => kPick (s.g c) (s.g a) (s.g b) k
  | .len x => kLen (s.g x) k
  | .idx x i sz => kIdx (s.g x) (s.g i) sz k
  | .idxa x i sz n => kIdxa (s.g x) (s.g i) sz n k
  | .idxv x i sz n agg => kIdxv (s.g x) (s.g i) sz n agg k
  | .fld x off => kFld (s.g x) off k
  | .ld1 x => kLd s (s.g x) k
  | .ldn x n => kLdn s (s.g x) n k
  | .bin op x y => kBin op (s.g x) (s.g y) k
  | .eqb neg x y => kEqb neg (s.g x) (s.g y) k
  | .not x => kNot (s.g x) k
  | .neg x => kNeg (s.g x) k
  | .cvi q x => kCvi q (s.g x) k
  | .ext x i => kExt (s.g x) i k
  | .getf x off n agg => kGetf (s.g x) off n agg k
  | .sub x lo hi sz => kSub (s.g x) (s.lo lo) (s.hi (s.g x) hi) sz k
  | .mkf f ds => kD (.clo f (ds.map s.g)) k
  | .min x y => kMin false (s.g x) (s.g y) k
  | .max x y => kMin true (s.g x) (s.g y) k
  | .bld zero parts => kBld s k parts zero
  | _ => False

/-- A result that is the same in every world in which nothing that is there has turned. -/
def Yields (P : Program) (a : Act) (w : World) (o : Oper) (v : Value) : Prop := ∀ w', Same w w' → (execOp a.eval o).run P w' = .ok (.value v) w'

section
variable {P : Program} {G : Gh} {s : S} {a : Act} {w : World} {A : Nat → Prop} {β : Nat → Option Nat} {o : Oper} {k : D → Prop}

theorem pu_mov {x : Operand} {y : O} (ho : o.op = .move x ∨ o.op = .assign x) (hx : cO x = some y) (h : kD (s.g y) k) (g : GR G s a w A β) : ∃ d v, k d ∧ DR w A β s.N d v ∧ Yields P a w o v :=
  ⟨_, _, h, g.evalO hx, fun w' _ => by rcases ho with ho | ho <;> simp [execOp, ho]⟩

theorem dr_bool {N : Nat} {b : Bool} {x : Value} (h : DR w A β N (.v (.bool b)) x) : x = .bool b := by
  cases h with
  | cl d x h => cases h; rfl
theorem dr_v {N : Nat} {y x : Value} (h : DR w A β N (.v y) x) : x = y := by
  cases h with
  | cl d x h => cases h; rfl

theorem pu_pick {c x y : Operand} {c' x' y' : O} (ho : o.op = .pick c x y) (hc : cO c = some c') (hx : cO x = some x') (hy : cO y = some y') (h : kPick (s.g c') (s.g x') (s.g y') k) (g : GR G s a w A β) :
    ∃ d v, k d ∧ DR w A β s.N d v ∧ Yields P a w o v := by
  have e := g.evalO hc
  unfold kPick at h
  split at h
  · next t ht =>
    rw [ht] at e
    have e' := dr_bool e
    cases t with
    | true => exact ⟨_, _, h.1 rfl, g.evalO hx, fun w' _ => by simp [execOp, ho, e', asBool]⟩
    | false => exact ⟨_, _, h.2 rfl, g.evalO hy, fun w' _ => by simp [execOp, ho, e', asBool]⟩
  · exact h.elim

theorem isSlice_spec {t e : TypeId} (h : isSlice P t = some e) : P.underlying t = some (.slice e) := by
  unfold isSlice at h
  split at h
  · next e' h' => simp only [Option.some.injEq] at h; subst h; exact h'
  · cases h
theorem szOf_spec {t : TypeId} {n : Nat} (h : szOf P t = some n) (w : World) : (sizeOf t).run P w = .ok n w := by
  unfold szOf at h
  cases hi : P.info? t with
  | none => rw [hi] at h; simp at h
  | some i => rw [hi] at h; simp only [Option.map_some, Option.some.injEq] at h; simp [sizeOf, typeInfo, hi, h]
theorem und_run {t : TypeId} {d : TypeDesc} (h : P.underlying t = some d) (w : World) : (underlying t).run P w = .ok d w := by simp [underlying, h]

theorem pu_len {x : Operand} {x' : O} {t e : TypeId} (ho : o.op = .call ⟨.builtin .len, #[x], #[t]⟩) (ht : isSlice P t = some e) (hx : cO x = some x') (h : kLen (s.g x') k) (g : GR G s a w A β) :
    ∃ d v, k d ∧ DR w A β s.N d v ∧ Yields P a w o v := by
  have ev := g.evalO hx
  have hu := isSlice_spec ht
  have run : ∀ (b : Option Addr) (n c : Nat), a.eval x = .slice b n c → Yields P a w o (.int .i64 n) := fun b n c hv w' _ => by
    simp [execOp, ho, resolve, invoke, builtin, Builtin.len_, hv, und_run hu, goInt]
  unfold kLen at h
  generalize hv : a.eval x = v at ev
  split at h
  · next sz es hd =>
    rw [hd] at ev
    cases ev with
    | cl d x h' =>
      cases h' with
      | sl0 sz b c => exact ⟨_, _, h, .cl _ _ (.v _), by simpa using run b 0 c hv⟩
      | sl sz es b off n c us hA hn => exact ⟨_, _, h, .cl _ _ (.v _), by subst hn; exact run _ _ c hv⟩
  · next τ sz off n hd =>
    rw [hd] at ev
    cases ev with
    | cl d x h' => cases h'
    | ref => exact ⟨_, _, h, .cl _ _ (.v _), run _ _ _ hv⟩
    | refz => exact ⟨_, _, h, .cl _ _ (.v _), run _ _ _ hv⟩
  · next hd =>
    rw [hd] at ev
    cases ev with
    | cl d x h' => cases h'; exact ⟨_, _, h, .cl _ _ (.v _), run _ _ _ hv⟩
  · exact h.elim

theorem addr_add (b off n : Nat) : (⟨b, off, none⟩ : Addr).add n = ⟨b, off + n, none⟩ := by
  unfold Addr.add; split
  · next h => subst h; rfl
  · rfl
theorem in_row {i n j sz : Nat} (hi : i < n) (hj : j < sz) : i * sz + j < n * sz := by
  have : (i + 1) * sz ≤ n * sz := Nat.mul_le_mul_right sz hi
  rw [Nat.add_mul] at this; omega
theorem Same.cell {w' : World} (h : Same w w') {b off : Nat} (hb : b < w.heap.size) : w'.cell? ⟨b, off, none⟩ = w.cell? ⟨b, off, none⟩ := World.cell?_of_block (w := w) (h b hb)

theorem pu_idx {x i : Operand} {x' i' : O} {t e : TypeId} {sz : Nat} (ho : o.op = .indexAddr t x i) (ht : P.underlying t = some (.slice e)) (hsz : szOf P e = some sz) (hx : cO x = some x') (hi : cO i = some i')
    (h : kIdx (s.g x') (s.g i') sz k) (g : GR G s a w A β) : ∃ d v, k d ∧ DR w A β s.N d v ∧ Yields P a w o v := by
  have ev := g.evalO hx
  have ei := g.evalO hi
  generalize hv : a.eval x = v at ev
  generalize hj : a.eval i = vi at ei
  have run : ∀ (b off n c : Nat) (q : IntKind) (j : Int), v = .slice (some ⟨b, off, none⟩) n c → vi = .int q j → 0 ≤ j → j < n → Yields P a w o (.pointer (some ⟨b, off + j.toNat * sz, none⟩)) := by
    intro b off n c q j h1 h2 h3 h4 w' _
    subst h1; subst h2
    simp [execOp, ho, Instr.indexAt, hv, hj, asIntOf, und_run ht, szOf_spec hsz, h3, h4, addr_add]
  unfold kIdx at h
  split at h
  · next z es q j hd he =>
    obtain ⟨⟨rfl, h0, h1⟩, hk⟩ := h
    rw [hd] at ev; rw [he] at ei
    have e2 := dr_v ei
    have hjl : j.toNat < es.length := by omega
    cases ev with
    | cl d x h' =>
      cases h' with
      | sl0 sz b c => simp at h1; omega
      | sl sz es b off n c us hA hn hcap hs hc hr =>
        refine ⟨_, _, hk, .cl _ _ ?_, run b off n c q j rfl e2 h0 (by omega)⟩
        refine .ip _ 0 b (off + j.toNat * z) (fun m => us j.toNat m) hA (fun m hm => ?_) (fun m hm => ?_)
        · rw [hs _ hjl] at hm; rw [Nat.add_assoc]; exact (hc _ _ hjl hm).1
        · rw [hs _ hjl] at hm; exact hr _ _ hjl hm
  · next τ z off n q j hd he =>
    obtain ⟨⟨rfl, h0, h1⟩, hk⟩ := h
    rw [hd] at ev; rw [he] at ei
    have e2 := dr_v ei
    cases ev with
    | cl d x h' => cases h'
    | ref τ sz off n c b arr T hN hb hc hh hr =>
      refine ⟨_, _, hk, ?_, run b _ n c q j rfl e2 h0 h1⟩
      have := DR.ptr (w := w) (A := A) τ z (off + j.toNat) 0 b hN hb
      rw [Nat.add_mul] at this; exact this
    | refz => simp at h1; omega
  · exact h.elim

theorem pu_idxa {x i : Operand} {x' i' : O} {t e : TypeId} {sz n : Nat} (ho : o.op = .indexAddr t x i) (ht : P.underlying t = some (.array n e)) (hsz : szOf P e = some sz) (hx : cO x = some x') (hi : cO i = some i')
    (h : kIdxa (s.g x') (s.g i') sz n k) (g : GR G s a w A β) : ∃ d v, k d ∧ DR w A β s.N d v ∧ Yields P a w o v := by
  have ev := g.evalO hx
  have ei := g.evalO hi
  generalize hv : a.eval x = v at ev
  generalize hj : a.eval i = vi at ei
  have run : ∀ (b off : Nat) (q : IntKind) (j : Int), v = .pointer (some ⟨b, off, none⟩) → vi = .int q j → 0 ≤ j → j < n → Yields P a w o (.pointer (some ⟨b, off + j.toNat * sz, none⟩)) := by
    intro b off q j h1 h2 h3 h4 w' _
    subst h1; subst h2
    simp [execOp, ho, Instr.indexAt, Instr.sureAddr, hv, hj, asIntOf, und_run ht, szOf_spec hsz, h3, h4, addr_add]
  unfold kIdxa at h
  split at h
  · next e' o' q j hd he =>
    obtain ⟨⟨h0, h1⟩, hk⟩ := h
    rw [hd] at ev; rw [he] at ei
    have e2 := dr_v ei
    cases ev with
    | cl d x h' =>
      cases h' with
      | ip e o b off us hA hc hr =>
        refine ⟨_, _, hk, .cl _ _ ?_, run b _ q j rfl e2 h0 h1⟩
        rw [Nat.add_assoc]
        exact .ip _ _ b off us hA hc hr
  · next τ z i0 o' q j hd he =>
    obtain ⟨⟨h0, h1⟩, hk⟩ := h
    rw [hd] at ev; rw [he] at ei
    have e2 := dr_v ei
    cases ev with
    | cl d x h' => cases h'
    | ptr τ sz' i0 o' b hN hb =>
      refine ⟨_, _, hk, ?_, run b _ q j rfl e2 h0 h1⟩
      rw [Nat.add_assoc]
      exact .ptr τ _ _ _ b hN hb
  · exact h.elim

theorem field_spec {t : TypeId} {i : Nat} {f : Field} (h : field P t i = some f) : ∃ fs, P.underlying t = some (.struct fs) ∧ fs[i]? = some f := by
  unfold field at h
  split at h
  · next fs h' => exact ⟨fs, h', h⟩
  · cases h

theorem pu_fld {x : Operand} {x' : O} {t : TypeId} {i z : Nat} {f : Field} (ho : o.op = .fieldAddr t x i) (hf : field P t i = some f) (hz : szOf P f.type = some z) (hz0 : z ≠ 0) (hx : cO x = some x')
    (h : kFld (s.g x') f.offset k) (g : GR G s a w A β) : ∃ d v, k d ∧ DR w A β s.N d v ∧ Yields P a w o v := by
  have ev := g.evalO hx
  obtain ⟨fs, hu, hi⟩ := field_spec hf
  generalize hv : a.eval x = v at ev
  have run : ∀ (b off : Nat), v = .pointer (some ⟨b, off, none⟩) → Yields P a w o (.pointer (some ⟨b, off + f.offset, none⟩)) := by
    intro b off h1 w' _
    subst h1
    simp [execOp, ho, Instr.fieldAt, Instr.sureAddr, hv, und_run hu, hi, fieldPlace, szOf_spec hz, hz0, addr_add]
  unfold kFld at h
  split at h
  · next e' o' hd =>
    rw [hd] at ev
    cases ev with
    | cl d x h' =>
      cases h' with
      | ip e o b off us hA hc hr =>
        refine ⟨_, _, h, .cl _ _ ?_, run b _ rfl⟩
        rw [Nat.add_assoc]
        exact .ip _ _ b off us hA hc hr
  · next τ z' i0 o' hd =>
    rw [hd] at ev
    cases ev with
    | cl d x h' => cases h'
    | ptr τ sz' i0 o' b hN hb =>
      refine ⟨_, _, h, ?_, run b _ rfl⟩
      rw [Nat.add_assoc]
      exact .ptr τ _ _ _ b hN hb
  · exact h.elim

theorem agg_run {t : TypeId} {r : Bool} (h : aggOf P t = some r) (w : World) : (isAgg t).run P w = .ok r w := by
  unfold aggOf at h
  split at h
  · next fs h' => simp only [Option.some.injEq] at h; subst h; simp [isAgg, und_run h']
  · next fs h' => simp only [Option.some.injEq] at h; subst h; simp [isAgg, und_run h']
  · next d h1 h2 hd =>
    simp only [Option.some.injEq] at h; subst h
    simp only [isAgg, Sem.run_bind, und_run hd, Result.andThen_ok]
    cases d <;> first | rfl | exact absurd hd (h1 _) | exact absurd hd (h2 _ _)
  · cases h

/-- The cells that a pointer's load meets. -/
theorem ptr_cells (g : GR G s a w A β) {τ z i o n : Nat} {ob : Ob} {v : Value} (hm : s.M τ = some ob) (h1 : ob.sz = z) (h2 : i < ob.es.length) (h3 : o + n ≤ z) (_hn : 0 < n) (ev : DR w A β s.N (.ptr τ z i o) v) :
    ∃ b : Nat, ∃ us : Nat → Value, v = .pointer (some ⟨b, i * z + o, none⟩) ∧ b < w.heap.size ∧ (∀ j, j < n → w.cell? ⟨b, i * z + o + j, none⟩ = some (us j)) ∧
      ∀ j, j < n → CDR ob.flat w A β s.N ((ob.es.getD i []).getD (o + j) .junk) (us j) := by
  cases ev with
  | cl d x h' => cases h'
  | ptr τ sz' i0 o' b hN hb =>
    rcases g.objs τ ob hN hm with ⟨_, h'⟩ | ⟨b', arr, T, hb', hh, hl, he, hr⟩
    · rw [h'] at h2; simp at h2
    · rw [hb] at hb'; cases hb'
      subst h1
      obtain ⟨hbl, _⟩ := Array.getElem?_eq_some_iff.1 hh
      refine ⟨b, fun j => arr.getD (i * ob.sz + (o + j)) undef, rfl, hbl, fun j hj => ?_, fun j hj => hr i (o + j) h2 (by omega)⟩
      have hlt : i * ob.sz + (o + j) < arr.size := by have := in_row (sz := ob.sz) h2 (show o + j < ob.sz by omega); omega
      simp only [World.cell?, hh]
      rw [Nat.add_assoc]
      simp [hlt]

theorem pu_ld1 {x : Operand} {x' : O} {t : TypeId} (ho : o.op = .load t x) (ht : aggOf P t = some false) (hx : cO x = some x')
    (h : kLd s (s.g x') k) (g : GR G s a w A β) : ∃ d v, k d ∧ DR w A β s.N d v ∧ Yields P a w o v := by
  have ev := g.evalO hx
  generalize hv : a.eval x = v at ev
  have run : ∀ (b off : Nat) (u : Value), v = .pointer (some ⟨b, off, none⟩) → b < w.heap.size → w.cell? ⟨b, off, none⟩ = some u → Yields P a w o u := by
    intro b off u h1 hb hc w' hs
    subst h1
    have hc' := hs.cell (off := off) hb
    rw [hc] at hc'
    simp [execOp, ho, Instr.loadAt, Instr.sureAddr, hv, loadVar, agg_run ht, hc']
  unfold kLd at h
  split at h
  · next e' o' hd =>
    obtain ⟨h1, hk⟩ := h
    rw [hd] at ev
    cases ev with
    | cl d x h' =>
      cases h' with
      | ip e o b off us hA hc hr => exact ⟨_, _, hk, .cl _ _ (hr o' h1), run b _ _ rfl (g.low b hA) (hc o' h1)⟩
  · next τ z i o' hd =>
    rw [hd] at ev
    unfold kM at h
    split at h
    · next ob hm =>
      obtain ⟨⟨h1, h2, h3⟩, hk⟩ := h
      obtain ⟨b, us, e1, hb, hc, hr⟩ := ptr_cells g hm h1 h2 (n := 1) (by omega) (by omega) ev
      exact ⟨_, _, hk, (hr 0 (by omega)).1, run b _ _ e1 hb (hc 0 (by omega))⟩
    · exact h.elim
  · exact h.elim

theorem getD_drop_take (l : List D) (o n j : Nat) (h : j < n) : ((l.drop o).take n).getD j .junk = l.getD (o + j) .junk := by
  simp only [List.getD_eq_getElem?_getD, List.getElem?_take, h, if_true, List.getElem?_drop]

theorem pu_ldn {x : Operand} {x' : O} {t : TypeId} {n : Nat} (ho : o.op = .load t x) (ht : aggOf P t = some true) (hn : szOf P t = some n) (hx : cO x = some x')
    (h : kLdn s (s.g x') n k) (g : GR G s a w A β) : ∃ d v, k d ∧ DR w A β s.N d v ∧ Yields P a w o v := by
  have ev := g.evalO hx
  generalize hv : a.eval x = v at ev
  have run : ∀ (b off : Nat) (us : Nat → Value), v = .pointer (some ⟨b, off, none⟩) → (0 < n → b < w.heap.size) → (∀ j, j < n → w.cell? ⟨b, off + j, none⟩ = some (us j)) → Yields P a w o (.agg ((List.range n).map us).toArray) := by
    intro b off us h1 hb hc w' hs
    subst h1
    have := run_loadCells (P := P) w' ⟨b, off, none⟩ n us (fun j hj => by rw [addr_add, hs.cell (hb (by omega))]; exact hc j hj)
    simp [execOp, ho, Instr.loadAt, Instr.sureAddr, hv, loadVar, agg_run ht, szOf_spec hn, this]
  have szl : ∀ (us : Nat → Value), ((List.range n).map us).toArray.size = n := by simp
  have get : ∀ (us : Nat → Value) (j : Nat), j < n → ((List.range n).map us).toArray.getD j undef = us j := fun us j hj => by simp [hj]
  unfold kLdn at h
  split at h
  · next e' o' hd =>
    obtain ⟨h1, hk⟩ := h
    rw [hd] at ev
    cases ev with
    | cl d x h' =>
      cases h' with
      | ip e o b off us hA hc hr =>
        have hl : ((e'.drop o').take n).length = n := by simp; omega
        refine ⟨_, _, hk, .cl _ _ (.ag _ _ (by rw [hl]; exact szl fun j => us (o' + j)) fun j hj => ?_), run b _ (fun j => us (o' + j)) rfl (fun _ => g.low b hA) (fun j hj => ?_)⟩
        · rw [hl] at hj; rw [get _ _ hj, getD_drop_take _ _ _ _ hj]; exact hr _ (by omega)
        · rw [Nat.add_assoc]; exact hc _ (by omega)
  · next τ z i o' hd =>
    rw [hd] at ev
    unfold kM at h
    split at h
    · next ob hm =>
      obtain ⟨⟨h1, h2, h3⟩, hk⟩ := h
      by_cases hn0 : n = 0
      · subst hn0
        cases ev with
        | cl d x h' => cases h'
        | ptr τ sz' i0 o' b hN hb =>
          exact ⟨_, _, hk, .ag _ _ (by simp) (fun j hj => by simp at hj), run b _ (fun _ => undef) rfl (fun h => by omega) (fun j hj => by omega)⟩
      · obtain ⟨b, us, e1, hb, hc, hr⟩ := ptr_cells g hm h1 h2 (n := n) h3 (by omega) ev
        have hlen : (ob.es.getD i []).length = z := by
          cases ev with
          | cl d x h' => cases h'
          | ptr τ sz' i0 o' b hN hb =>
            rcases g.objs τ ob hN hm with ⟨_, h'⟩ | ⟨b', arr, T, hb', hh, hl, he, hr⟩
            · rw [h'] at h2; simp at h2
            · rw [he i h2, h1]
        have hl : (((ob.es.getD i []).drop o').take n).length = n := by rw [List.length_take, List.length_drop, hlen]; omega
        refine ⟨_, _, hk, .ag _ _ (by rw [hl]; exact szl us) fun j hj => ?_, run b _ us e1 (fun _ => hb) hc⟩
        rw [hl] at hj; rw [get _ _ hj, getD_drop_take _ _ _ _ hj]; exact (hr j hj).1
    · exact h.elim
  · exact h.elim

theorem pu_bin {op : BinOp} {x y : Operand} {x' y' : O} {t u : TypeId} (ho : o.op = .binOp op t x y u) (hx : cO x = some x') (hy : cO y = some y')
    (h : kBin op (s.g x') (s.g y') k) (g : GR G s a w A β) : ∃ d v, k d ∧ DR w A β s.N d v ∧ Yields P a w o v := by
  have ex := g.evalO hx
  have ey := g.evalO hy
  unfold kBin at h
  split at h
  · next p q hp hq =>
    rw [hp] at ex; rw [hq] at ey
    have e1 := dr_v ex
    have e2 := dr_v ey
    split at h
    · next c hc =>
      refine ⟨_, _, h, .cl _ _ (.v c), fun w' _ => ?_⟩
      unfold binV at hc
      split at hc
      all_goals (try (cases hc; done))
      all_goals (
        first
          | (obtain ⟨h1, h2⟩ := (Option.ite_none_right_eq_some.1 hc)
             first
               | (obtain ⟨rfl, h3⟩ := h1; cases h2; simp [execOp, ho, e1, e2, binOp, eqGuard_at_int, Op.intDiv, h3])
               | (subst h1; cases h2; simp [execOp, ho, e1, e2, binOp, eqGuard_at_int, Op.intArith, Op.intBits, Op.intCmp])
               | (cases h2; simp [execOp, ho, e1, e2, binOp, eqGuard_at_int, Op.shift, Int.not_lt.2 h1])))
    · exact h.elim
  · exact h.elim

theorem run_equal_bool {t : TypeId} (ht : P.underlying t = some .bool) (p q : Bool) (w : World) : (Op.equal t (.bool p) (.bool q)).run P w = .ok (p == q) w := by
  show (Op.equalIn (9999 + 1) t (.bool p) (.bool q)).run P w = _
  unfold Op.equalIn
  simp [und_run ht]
theorem isBool_spec {t : TypeId} (h : isBool P t = true) : P.underlying t = some .bool := by
  unfold isBool at h; split at h
  · assumption
  · cases h
theorem pu_eqb {neg : Bool} {x y : Operand} {x' y' : O} {t u : TypeId} (ho : o.op = .binOp (if neg then .neq else .eql) t x y u) (ht : isBool P t = true) (hx : cO x = some x') (hy : cO y = some y')
    (h : kEqb neg (s.g x') (s.g y') k) (g : GR G s a w A β) : ∃ d v, k d ∧ DR w A β s.N d v ∧ Yields P a w o v := by
  have ex := g.evalO hx
  have ey := g.evalO hy
  unfold kEqb at h
  split at h
  · next p q hp hq =>
    rw [hp] at ex; rw [hq] at ey
    have e1 := dr_v ex
    have e2 := dr_v ey
    have r := fun w' => run_equal_bool (P := P) (isBool_spec ht) p q w'
    refine ⟨_, _, h, .cl _ _ (.v _), fun w' _ => ?_⟩
    cases neg <;> simp [execOp, ho, e1, e2, binOp, eqGuard_at_bool, r, bne]
  · exact h.elim

theorem pu_not {x : Operand} {x' : O} {t : TypeId} (ho : o.op = .unOp .not t x) (hx : cO x = some x') (h : kNot (s.g x') k) (g : GR G s a w A β) : ∃ d v, k d ∧ DR w A β s.N d v ∧ Yields P a w o v := by
  have ex := g.evalO hx
  unfold kNot at h
  split at h
  · next p hp =>
    rw [hp] at ex
    exact ⟨_, _, h, .cl _ _ (.v _), fun w' _ => by simp [execOp, ho, dr_v ex, Op.unary]⟩
  · exact h.elim
theorem pu_neg {x : Operand} {x' : O} {t : TypeId} (ho : o.op = .unOp .neg t x) (hx : cO x = some x') (h : kNeg (s.g x') k) (g : GR G s a w A β) : ∃ d v, k d ∧ DR w A β s.N d v ∧ Yields P a w o v := by
  have ex := g.evalO hx
  unfold kNeg at h
  split at h
  · next p q hp =>
    rw [hp] at ex
    exact ⟨_, _, h, .cl _ _ (.v _), fun w' _ => by simp [execOp, ho, dr_v ex, Op.unary, Op.intArith]⟩
  · exact h.elim
theorem pu_cvi {x : Operand} {x' : O} {t u : TypeId} {q : IntKind} {dd : TypeDesc} (ho : o.op = .convert t u x) (hu : P.underlying u = some (.int q)) (ht : P.underlying t = some dd) (hx : cO x = some x') (h : kCvi q (s.g x') k) (g : GR G s a w A β) :
    ∃ d v, k d ∧ DR w A β s.N d v ∧ Yields P a w o v := by
  have ex := g.evalO hx
  unfold kCvi at h
  split at h
  · next q' p hp =>
    rw [hp] at ex
    exact ⟨_, _, h, .cl _ _ (.v _), fun w' _ => by simp [execOp, ho, dr_v ex, convert, und_run hu, und_run ht, Conv.intToInt]⟩
  · exact h.elim

theorem dr_parts {N : Nat} {ds : List D} {cs : Array Value} (h : DR w A β N (.ag ds) (.agg cs)) : cs.size = ds.length ∧ ∀ i, i < ds.length → DR w A β N (ds.getD i .junk) (cs.getD i undef) := by
  cases h with
  | cl d x h' => cases h' with | ag ds cs hn hr => exact ⟨hn, fun i hi => .cl _ _ (hr i hi)⟩
  | ag ds cs hn hr => exact ⟨hn, hr⟩
theorem dr_ag {N : Nat} {ds : List D} {v : Value} (h : DR w A β N (.ag ds) v) : ∃ cs, v = .agg cs ∧ cs.size = ds.length ∧ ∀ i, i < ds.length → DR w A β N (ds.getD i .junk) (cs.getD i undef) := by
  cases h with
  | cl d x h' => cases h' with | ag ds cs hn hr => exact ⟨cs, rfl, hn, fun i hi => .cl _ _ (hr i hi)⟩
  | ag ds cs hn hr => exact ⟨cs, rfl, hn, hr⟩
theorem dr_tu {N : Nat} {ds : List D} {v : Value} (h : DR w A β N (.tu ds) v) : ∃ cs, v = .tuple cs ∧ cs.size = ds.length ∧ ∀ i, i < ds.length → DR w A β N (ds.getD i .junk) (cs.getD i undef) := by
  cases h with
  | cl d x h' => cases h' with | tu ds cs hn hr => exact ⟨cs, rfl, hn, fun i hi => .cl _ _ (hr i hi)⟩
  | tu ds cs hn hr => exact ⟨cs, rfl, hn, hr⟩

theorem pu_ext {x : Operand} {x' : O} {i : Nat} (ho : o.op = .extract x i) (hx : cO x = some x') (h : kExt (s.g x') i k) (g : GR G s a w A β) : ∃ d v, k d ∧ DR w A β s.N d v ∧ Yields P a w o v := by
  have ex := g.evalO hx
  unfold kExt at h
  split at h
  · next ds hp =>
    obtain ⟨hi, hk⟩ := h
    rw [hp] at ex
    obtain ⟨cs, e, hn, hr⟩ := dr_tu ex
    have hi' : i < cs.size := by omega
    refine ⟨_, _, hk, hr i hi, fun w' _ => ?_⟩
    simp [execOp, ho, e, Instr.extract, hi']
  · exact h.elim

/-- A part of an aggregate. -/
theorem run_part {t : TypeId} {n : Nat} {ag : Bool} (hag : aggOf P t = some ag) (hn : szOf P t = some n) (h1 : ag = false → n = 1) {N : Nat} {ds : List D} {cs : Array Value} (hsz : cs.size = ds.length)
    (hr : ∀ i, i < ds.length → DR w A β N (ds.getD i .junk) (cs.getD i undef)) {off : Nat} (ho : off + n ≤ ds.length) :
    ∃ v, DR w A β N (if ag = true then .ag ((ds.drop off).take n) else ds.getD off .junk) v ∧ ∀ w', (part t cs off).run P w' = .ok v w' := by
  cases ag with
  | false =>
    have hn1 := h1 rfl
    subst hn1
    have hlt : off < cs.size := by omega
    refine ⟨cs.getD off undef, by simpa using hr off (by omega), fun w' => ?_⟩
    simp [part, agg_run hag, hlt]
  | true =>
    refine ⟨.agg (cs.extract off (off + n)), ?_, fun w' => by simp [part, agg_run hag, szOf_spec hn]⟩
    have hl : ((ds.drop off).take n).length = n := by rw [List.length_take, List.length_drop]; omega
    refine .ag _ _ (by rw [hl]; simp; omega) fun i hi => ?_
    rw [hl] at hi
    rw [getD_drop_take _ _ _ _ hi]
    have := hr (off + i) (by omega)
    have e : (cs.extract off (off + n)).getD i undef = cs.getD (off + i) undef := by
      have h2 : off + i < cs.size := by omega
      have h3 : i < min (off + n) cs.size - off := by omega
      simp only [Array.getD_eq_getD_getElem?, Array.getElem?_extract, h3, if_true]
    rw [e]; exact this

theorem pu_getf {x : Operand} {x' : O} {t : TypeId} {i n : Nat} {f : Field} {ag : Bool} (ho : o.op = .field t x i) (hf : field P t i = some f) (hz : szOf P f.type = some n) (hag : aggOf P f.type = some ag) (h1 : ag = false → n = 1) (hx : cO x = some x')
    (h : kGetf (s.g x') f.offset n ag k) (g : GR G s a w A β) : ∃ d v, k d ∧ DR w A β s.N d v ∧ Yields P a w o v := by
  have ex := g.evalO hx
  obtain ⟨fs, hu, hi⟩ := field_spec hf
  unfold kGetf at h
  split at h
  · next ds hp =>
    obtain ⟨hl, hk⟩ := h
    rw [hp] at ex
    obtain ⟨cs, e, hn, hr⟩ := dr_ag ex
    obtain ⟨v, hv, hrun⟩ := run_part hag hz h1 hn hr hl
    exact ⟨_, _, hk, hv, fun w' _ => by simp [execOp, ho, e, Instr.field, und_run hu, hi, asAgg, hrun]⟩
  · exact h.elim

theorem pu_idxv {x i : Operand} {x' i' : O} {t e : TypeId} {n sz : Nat} {ag : Bool} (ho : o.op = .index t x i) (ht : P.underlying t = some (.array n e)) (hz : szOf P e = some sz) (hag : aggOf P e = some ag) (h1 : ag = false → sz = 1) (hx : cO x = some x') (hi : cO i = some i')
    (h : kIdxv (s.g x') (s.g i') sz n ag k) (g : GR G s a w A β) : ∃ d v, k d ∧ DR w A β s.N d v ∧ Yields P a w o v := by
  have ex := g.evalO hx
  have ei := g.evalO hi
  unfold kIdxv at h
  split at h
  · next ds q j hp hq =>
    obtain ⟨⟨h2, h3, h4⟩, hk⟩ := h
    rw [hp] at ex; rw [hq] at ei
    obtain ⟨cs, e1, hn, hr⟩ := dr_ag ex
    have e2 := dr_v ei
    have hjl : j.toNat < n := by omega
    have hl : j.toNat * sz + sz ≤ ds.length := by
      have := Nat.mul_le_mul_right sz hjl
      rw [Nat.succ_mul] at this; omega
    obtain ⟨v, hv, hrun⟩ := run_part hag hz h1 hn hr hl
    exact ⟨_, _, hk, hv, fun w' _ => by simp [execOp, ho, e1, e2, Instr.index, und_run ht, asIntOf, h2, h3, szOf_spec hz, hrun]⟩
  · exact h.elim

theorem pu_mkf {f : FuncId} {cap : Array Operand} {ds : List O} (ho : o.op = .makeFunc (.func f) #[] cap) (hc : cap.toList.mapM cO = some ds) (h : kD (.clo f (ds.map s.g)) k) (g : GR G s a w A β) : ∃ d v, k d ∧ DR w A β s.N d v ∧ Yields P a w o v := by
  refine ⟨_, _, h, .clo f _ (cap.map a.eval) ?_ ?_, fun w' _ => by simp [execOp, ho, Instr.makeFunc]⟩
  all_goals
    obtain ⟨l⟩ := cap
    simp only at hc
    have key : ∀ (l : List Operand) (ds : List O), l.mapM cO = some ds → l.length = ds.length ∧ ∀ i, i < ds.length → DR w A β s.N ((ds.map s.g).getD i .junk) ((l.map a.eval).getD i undef) := by
      intro l
      induction l with
      | nil => intro ds h; simp at h; subst h; exact ⟨rfl, fun i hi => by simp at hi⟩
      | cons x l ih =>
        intro ds h
        simp only [List.mapM_cons, Option.bind_eq_bind, Option.pure_def, Option.bind_eq_some_iff] at h
        obtain ⟨y, hy, ds', hds, h⟩ := h
        cases h
        obtain ⟨i1, i2⟩ := ih ds' hds
        refine ⟨by simp [i1], fun i hi => ?_⟩
        cases i with
        | zero => simpa using g.evalO hy
        | succ i => simpa using i2 i (by simpa using hi)
    obtain ⟨k1, k2⟩ := key l ds hc
  · simp [k1]
  · intro i hi
    simp only [List.length_map] at hi
    have := k2 i hi
    have hl : i < l.length := by omega
    simpa [List.getD, hl, hi] using this

theorem pu_min {m : Bool} {x y : Operand} {x' y' : O} {ts : Array TypeId} (ho : o.op = .call ⟨.builtin (if m then .max else .min), #[x, y], ts⟩) (hx : cO x = some x') (hy : cO y = some y')
    (h : kMin m (s.g x') (s.g y') k) (g : GR G s a w A β) : ∃ d v, k d ∧ DR w A β s.N d v ∧ Yields P a w o v := by
  have ex := g.evalO hx
  have ey := g.evalO hy
  unfold kMin at h
  split at h
  · next p q hp hq =>
    rw [hp] at ex; rw [hq] at ey
    refine ⟨_, _, h, .cl _ _ (.v _), fun w' _ => ?_⟩
    cases m <;> simp [execOp, ho, dr_v ex, dr_v ey, resolve, invoke, builtin, Builtin.min_, Builtin.max_, Builtin.min2, Builtin.max2]
  · exact h.elim

/-- A slice's bound. -/
def Bnd (a : Act) (x : Option Operand) (dflt n : Nat) : Prop := (x = none ∧ n = dflt) ∨ ∃ y q, x = some y ∧ a.eval y = .int q n
theorem run_slice {x : Operand} {lo hi : Option Operand} {t e : TypeId} {sz : Nat} (ho : o.op = .slice t x lo hi none) (ht : isSlice P t = some e) (hsz : szOf P e = some sz) {b : Option Addr} {n c l h : Nat}
    (hx : a.eval x = .slice b n c) (hl : Bnd a lo 0 l) (hh : Bnd a hi n h) (h1 : l ≤ h) (h2 : h ≤ c) :
    Yields P a w o (.slice (if c = l then b else b.map (·.add (l * sz))) (h - l) (c - l)) := by
  intro w' _
  have hu := isSlice_spec ht
  rcases hl with ⟨rfl, rfl⟩ | ⟨yl, ql, rfl, el⟩ <;> rcases hh with ⟨rfl, rfl⟩ | ⟨yh, qh, rfl, eh⟩
  · simp [execOp, ho, Instr.sliceAt, Instr.slice, Instr.sliceBounds, hx, und_run hu, szOf_spec hsz]
  · simp [execOp, ho, Instr.sliceAt, Instr.slice, Instr.sliceBounds, Instr.sliceBound, asIntOf, hx, und_run hu, szOf_spec hsz, eh, h2]
  · simp [execOp, ho, Instr.sliceAt, Instr.slice, Instr.sliceBounds, Instr.sliceBound, asIntOf, hx, und_run hu, szOf_spec hsz, el, h1]
  · simp [execOp, ho, Instr.sliceAt, Instr.slice, Instr.sliceBounds, Instr.sliceBound, asIntOf, hx, und_run hu, szOf_spec hsz, el, eh, h1, h2]

theorem pu_sub {x : Operand} {x' : O} {lo hi : Option Operand} {lo' hi' : Option O} {t e : TypeId} {sz : Nat} (ho : o.op = .slice t x lo hi none) (ht : isSlice P t = some e) (hsz : szOf P e = some sz)
    (hx : cO x = some x') (hlo : (lo = none ∧ lo' = none) ∨ ∃ y y', lo = some y ∧ lo' = some y' ∧ cO y = some y') (hhi : (hi = none ∧ hi' = none) ∨ ∃ y y', hi = some y ∧ hi' = some y' ∧ cO y = some y')
    (h : kSub (s.g x') (s.lo lo') (s.hi (s.g x') hi') sz k) (g : GR G s a w A β) : ∃ d v, k d ∧ DR w A β s.N d v ∧ Yields P a w o v := by
  have ex := g.evalO hx
  have bl : ∀ q (l : Int), s.lo lo' = .v (.int q l) → 0 ≤ l → Bnd a lo 0 l.toNat := by
    intro q l e h0
    rcases hlo with ⟨rfl, rfl⟩ | ⟨y, y', rfl, rfl, hy⟩
    · simp only [S.lo, D.v.injEq, Value.int.injEq] at e
      exact .inl ⟨rfl, by rw [← e.2]; rfl⟩
    · have := g.evalO hy
      simp only [S.lo] at e
      rw [e] at this
      exact .inr ⟨y, q, rfl, by rw [dr_v this, Int.toNat_of_nonneg h0]⟩
  have bh : ∀ q (l : Int) (n : Nat), s.hi (s.g x') hi' = .v (.int q l) → lenDD (s.g x') = .v (.int .i64 n) → 0 ≤ l → Bnd a hi n l.toNat := by
    intro q l n e en h0
    rcases hhi with ⟨rfl, rfl⟩ | ⟨y, y', rfl, rfl, hy⟩
    · simp only [S.hi] at e
      rw [en] at e
      simp only [D.v.injEq, Value.int.injEq] at e
      exact .inl ⟨rfl, by rw [← e.2]; rfl⟩
    · have := g.evalO hy
      simp only [S.hi] at e
      rw [e] at this
      exact .inr ⟨y, q, rfl, by rw [dr_v this, Int.toNat_of_nonneg h0]⟩
  unfold kSub at h
  generalize hv : a.eval x = v at ex
  split at h
  · next z es q l q' hh hd hl hhd =>
    obtain ⟨⟨rfl, h1, h2, h3⟩, hk⟩ := h
    rw [hd] at ex
    have b1 := bl q l hl h1
    have b2 := bh q' hh es.length hhd (by rw [hd]; rfl) (by omega)
    cases ex with
    | cl d x h' =>
      cases h' with
      | sl0 sz b c =>
        have e1 : l.toNat = 0 := by simp at h3; omega
        have e2 : hh.toNat = 0 := by simp at h3; omega
        rw [e1] at b1; rw [e2] at b2
        refine ⟨_, _, hk, ?_, run_slice ho ht hsz hv b1 b2 (Nat.le_refl _) (Nat.zero_le _)⟩
        simp only [e1, e2, List.take_nil, List.drop_nil]
        exact .cl _ _ (.sl0 _ _ _)
      | sl sz es b off n c us hA hn hcap hs hc hr =>
        refine ⟨_, _, hk, ?_, run_slice ho ht hsz hv b1 (by rw [← hn]; exact b2) (by omega) (by omega)⟩
        have hlen : ((es.take hh.toNat).drop l.toNat).length = hh.toNat - l.toNat := by rw [List.length_drop, List.length_take]; omega
        by_cases hcl : c = l.toNat
        · have : (es.take hh.toNat).drop l.toNat = [] := List.eq_nil_of_length_eq_zero (by omega)
          rw [this, show hh.toNat - l.toNat = 0 by omega]
          exact .cl _ _ (.sl0 _ _ _)
        · simp only [hcl, if_false, Option.map_some, addr_add]
          have hget : ∀ i, i < hh.toNat - l.toNat → ((es.take hh.toNat).drop l.toNat).getD i [] = es.getD (l.toNat + i) [] := by
            intro i hi
            simp only [List.getD_eq_getElem?_getD, List.getElem?_drop, List.getElem?_take, show l.toNat + i < hh.toNat by omega, if_true]
          refine .cl _ _ (.sl _ _ b (off + l.toNat * z) _ _ (fun i j => us (l.toNat + i) j) hA hlen (by omega) (fun i hi => ?_) (fun i j hi hj => ?_) fun i j hi hj => ?_)
          · rw [hlen] at hi; rw [hget i hi]; exact hs _ (by omega)
          · rw [hlen] at hi
            have := hc (l.toNat + i) j (by omega) hj
            refine ⟨?_, this.2⟩
            have := this.1
            rw [Nat.add_mul] at this
            rw [← this]; congr 2; omega
          · rw [hlen] at hi; rw [hget i hi]; exact hr _ _ (by omega) hj
  · next τ z off n q l q' hh hd hl hhd =>
    obtain ⟨⟨rfl, h1, h2, h3⟩, hk⟩ := h
    rw [hd] at ex
    have b1 := bl q l hl h1
    have b2 := bh q' hh n hhd (by rw [hd]; rfl) (by omega)
    cases ex with
    | cl d x h' => cases h'
    | ref τ sz off n c b arr T hN hb hc hhp hr =>
      refine ⟨_, _, hk, ?_, run_slice ho ht hsz hv b1 b2 (by omega) (by omega)⟩
      by_cases hcl : c = l.toNat
      · have e0 : hh.toNat - l.toNat = 0 := by omega
        rw [e0, show c - l.toNat = 0 by omega]
        exact .refz _ _ _ _ hN
      · simp only [hcl, if_false, Option.map_some, addr_add]
        rw [← Nat.add_mul]
        exact .ref τ z (off + l.toNat) _ _ b arr T hN hb (by omega) hhp (by rw [show off + l.toNat + (c - l.toNat) = off + c by omega]; exact hr)
    | refz τ sz off b hN =>
      have e1 : l.toNat = 0 := by simp at h3; omega
      have e2 : hh.toNat = 0 := by simp at h3; omega
      rw [e1] at b1; rw [e2] at b2
      refine ⟨_, _, hk, ?_, run_slice ho ht hsz hv b1 b2 (Nat.le_refl _) (Nat.le_refl _)⟩
      simp only [e1, e2]
      exact .refz _ _ _ _ hN
  · next q l q' hh hd hl hhd =>
    obtain ⟨⟨rfl, rfl⟩, hk⟩ := h
    rw [hd] at ex
    have b1 := bl q 0 hl (Int.le_refl _)
    have b2 := bh q' 0 0 hhd (by rw [hd]; rfl) (Int.le_refl _)
    cases ex with
    | cl d x h' =>
      cases h'
      refine ⟨_, _, hk, .cl _ _ .nl, ?_⟩
      have := run_slice (w := w) ho ht hsz hv b1 b2 (Nat.le_refl _) (Nat.le_refl _)
      simpa using this
  · exact h.elim
end

end Go.Dm
