/-
  A logic for Go functions over plain data, part P: keys of maps, and structs and arrays of integers that are compared.
-/
import Derived.Test.YtjekkbpdgnohcaaDmB
import Derived.DeepKeys3
set_option linter.unusedSimpArgs false
set_option linter.unusedVariables false
namespace Go.Dm
open Go.RowKit
inductive IL : List IntKind → List Value → Prop
  | nil : IL [] []
  | cons (q : IntKind) (n : Int) (ks : List IntKind) (vs : List Value) (h : (Lit.int q n).wf = true) (t : IL ks vs) : IL (q :: ks) (.int q n :: vs)
theorem IL.length {ks : List IntKind} {vs : List Value} (h : IL ks vs) : vs.length = ks.length := by
  induction h with
  | nil => rfl
  | cons => simp [*]
theorem IL.split : ∀ {a b : List IntKind} {vs : List Value}, IL (a ++ b) vs → IL a (vs.take a.length) ∧ IL b (vs.drop a.length)
  | [], b, vs, h => by simpa using ⟨IL.nil, h⟩
  | q :: a, b, vs, h => by
    cases h with
    | cons q n ks vs hw t =>
      obtain ⟨h1, h2⟩ := IL.split t
      exact ⟨by simpa using IL.cons q n _ _ hw h1, by simpa using h2⟩
def toL : Value → Lit
  | .int q n => .int q n
  | _ => .bool false
theorem IL.inj : ∀ {ks : List IntKind} {vs us : List Value}, IL ks vs → IL ks us → vs.map toL = us.map toL → vs = us
  | [], vs, us, h1, h2, _ => by cases h1; cases h2; rfl
  | q :: ks, vs, us, h1, h2, he => by
    cases h1 with
    | cons q n ks vs hw t =>
      cases h2 with
      | cons q m ks us hw' t' =>
        simp only [List.map_cons, toL, List.cons.injEq, Lit.int.injEq, true_and] at he
        rw [he.1, IL.inj t t' he.2]
theorem IL.of {ks : List IntKind} : ∀ {vs : List Value}, vs.length = ks.length → (∀ j, j < ks.length → ∃ m, vs.getD j undef = .int (ks.getD j .i64) m ∧ (Lit.int (ks.getD j .i64) m).wf = true) → IL ks vs := by
  induction ks with
  | nil => intro vs h _; simp at h; subst h; exact .nil
  | cons q ks ih =>
    intro vs h hk
    cases vs with
    | nil => simp at h
    | cons v vs =>
      obtain ⟨m, h1, h2⟩ := hk 0 (by simp)
      simp only [List.getD_cons_zero] at h1 h2
      subst h1
      exact .cons q m ks vs h2 (ih (by simpa using h) fun j hj => by simpa using hk (j + 1) (by simpa using hj))
theorem IL.get {ks : List IntKind} {vs : List Value} (h : IL ks vs) : ∀ j, j < ks.length → ∃ m, vs.getD j undef = .int (ks.getD j .i64) m ∧ (Lit.int (ks.getD j .i64) m).wf = true := by
  induction h with
  | nil => intro j hj; simp at hj
  | cons q n ks vs hw t ih =>
    intro j hj
    cases j with
    | zero => exact ⟨n, by simp, by simpa using hw⟩
    | succ j => simpa using ih j (by simpa using hj)
section
variable {P : Program}
theorem mapM_range {D e c : Nat} (P : Program) (cs : List Value) {ks : List IntKind} (hc : c = ks.length) (hk : ∀ vs, IL ks vs → P.keyLits D e vs = some (vs.map toL)) : ∀ (n s : Nat), IL (List.replicate n ks).flatten (cs.drop (s * c)) →
    ∃ ls, (List.range' s n).mapM (fun i => P.keyLits D e ((cs.drop (i * c)).take c)) = some ls ∧ ls.flatten = (cs.drop (s * c)).map toL
  | 0, s, h => by
    simp only [List.replicate_zero, List.flatten_nil] at h
    have : cs.drop (s * c) = [] := by generalize cs.drop (s * c) = x at h; cases h; rfl
    exact ⟨[], by simp, by simp [this]⟩
  | n + 1, s, h => by
    rw [List.replicate_succ, List.flatten_cons] at h
    obtain ⟨h1, h2⟩ := h.split
    rw [← hc] at h1 h2
    rw [List.drop_drop, show s * c + c = (s + 1) * c by rw [Nat.add_mul, Nat.one_mul]] at h2
    obtain ⟨ls, h3, h4⟩ := mapM_range P cs hc hk n (s + 1) h2
    refine ⟨((cs.drop (s * c)).take c).map toL :: ls, ?_, ?_⟩
    · rw [List.range'_succ, List.mapM_cons, hk _ h1]
      simp only [bind, Option.bind_some, h3, pure]
    · rw [List.flatten_cons, h4, ← List.map_append, show (s + 1) * c = s * c + c by rw [Nat.add_mul, Nat.one_mul], ← List.drop_drop, List.take_append_drop]
theorem mapM_fields {D : Nat} {k : TypeId → Option (List IntKind)} (cs : List Value) (hk : ∀ t ks, k t = some ks → ∀ vs, IL ks vs → P.keyLits D t vs = some (vs.map toL)) : ∀ (fs : List Field) (off : Nat) (ks : List IntKind), fldK P k off fs = some ks → IL ks (cs.drop off) →
    (fs.all (fun f => f.name != "_") = true) ∧ ∃ ls, fs.mapM (fun f => P.keyLits D f.type ((cs.drop f.offset).take (P.cellsOf f.type))) = some ls ∧ ls.flatten = (cs.drop off).map toL
  | [], off, ks, h, hi => by
    simp only [fldK, Option.some.injEq] at h; subst h
    have : cs.drop off = [] := by generalize cs.drop off = x at hi; cases hi; rfl
    exact ⟨by simp, [], by simp, by simp [this]⟩
  | f :: fs, off, ks, h, hi => by
    simp only [fldK, Option.bind_eq_bind, Option.bind_eq_some_iff] at h
    obtain ⟨a, h1, h⟩ := h
    split at h
    · next hc =>
      obtain ⟨c1, c2, c3⟩ := hc
      simp only [Option.pure_def, Option.bind_eq_some_iff, Option.some.injEq] at h
      obtain ⟨b, h2, rfl⟩ := h
      obtain ⟨i1, i2⟩ := hi.split
      rw [List.drop_drop] at i2
      obtain ⟨q1, ls, q2, q3⟩ := mapM_fields cs hk fs _ b h2 i2
      refine ⟨by rw [List.all_cons, q1, Bool.and_true, bne, c3]; rfl, (((cs.drop off).take a.length).map toL) :: ls, ?_, ?_⟩
      · rw [List.mapM_cons, c1, c2, hk _ _ h1 _ i1]
        simp only [bind, Option.bind_some, q2, pure]
      · rw [List.flatten_cons, q3, ← List.map_append, ← List.drop_drop, List.take_append_drop]
    · cases h
theorem keyLits_il : ∀ (d : Nat) (t : TypeId) (ks : List IntKind), kindsOf P d t = some ks → ∀ vs, IL ks vs → P.keyLits d t vs = some (vs.map toL)
  | 0, t, ks, h, vs, hv => by simp [kindsOf] at h
  | d + 1, t, ks, h, vs, hv => by
    unfold kindsOf at h
    unfold Program.keyLits
    cases hu : P.underlying t with
    | none => simp [hu] at h
    | some kd =>
      cases kd
      case int q =>
        simp only [hu, Option.some.injEq] at h
        subst h
        cases hv with
        | cons q n ks vs hw tl =>
          cases tl
          simp [hw, toL]
      case array n e =>
        simp only [hu, Option.bind_eq_bind, Option.bind_eq_some_iff] at h
        obtain ⟨a, h1, h⟩ := h
        split at h
        · next hc =>
          simp only [Option.pure_def, Option.some.injEq] at h
          subst h
          have hl := hv.length
          simp only [List.length_flatten, List.map_replicate, List.sum_replicate_nat] at hl
          obtain ⟨ls, h2, h3⟩ := mapM_range (D := d) (e := e) P vs hc.1 (keyLits_il d e a h1) n 0 (by simpa using hv)
          rw [← List.range_eq_range'] at h2
          simp only [h2, Option.map_some, h3, Nat.zero_mul, List.drop_zero]
          rw [if_pos (by rw [hc.2]; exact hl)]
        · cases h
      case struct fs =>
        simp only [hu, Option.bind_eq_bind, Option.bind_eq_some_iff] at h
        obtain ⟨a, h1, h⟩ := h
        split at h
        · next hc =>
          simp only [Option.pure_def, Option.some.injEq] at h
          subst h
          obtain ⟨q1, ls, q2, q3⟩ := mapM_fields (P := P) (D := d) vs (fun t ks h => keyLits_il d t ks h) fs.toList 0 a h1 (by simpa using hv)
          simp only [q2, Option.map_some, q3, List.drop_zero]
          rw [if_pos ⟨by rw [hc]; exact hv.length, by rw [← Array.all_toList]; exact q1⟩]
        · cases h
      all_goals (simp [hu] at h; done)
def KV (P : Program) (k : TypeId) (ks : List IntKind) (v : Value) : Prop := v.formed P k = true ∧ IL ks v.cells.toList
theorem KV.eq {k : TypeId} {ks : List IntKind} (hk : kindsOf P 20 k = some ks) (ht : P.keyTypeAt 20 k = true) {x y : Value} (hx : KV P k ks x) (hy : KV P k ks y) (w : World) : ∃ r : Bool, (Op.equal k x y).run P w = .ok r w ∧ (r = true ↔ x.cells = y.cells) := by
  obtain ⟨r, h1, h2⟩ := run_equalIn_deep (10000 - 20) 20 k ht w 20 20 x y _ _ hx.1 hy.1 (keyLits_il 20 k ks hk _ hx.2) (keyLits_il 20 k ks hk _ hy.2)
  refine ⟨r, h1, h2.trans ⟨fun h => ?_, fun h => by rw [h]⟩⟩
  have := hx.2.inj hy.2 h
  exact Array.ext' this
theorem KV.check {k : TypeId} {ks : List IntKind} (hk : kindsOf P 20 k = some ks) (ht : P.keyTypeAt 20 k = true) {x : Value} (hx : KV P k ks x) (em : Bool) (w : World) : (Instr.checkKey em 10000 k x).run P w = .ok () w := by
  have := run_checkKey_deep em (10000 - 20) 20 k ht w 20 x _ hx.1 (keyLits_il 20 k ks hk _ hx.2)
  simpa using this
theorem KV.vals {k : TypeId} {ks : List IntKind} {x y : Value} (hx : KV P k ks x) (hy : KV P k ks y) (h : x.cells = y.cells) : x = y := by
  have h1 := hx.1
  have h2 := hy.1
  unfold Value.formed at h1 h2
  cases hu : P.underlying k with
  | none =>
    rw [hu] at h1 h2
    cases x <;> cases y <;> simp_all [Value.cells]
  | some kd =>
    rw [hu] at h1 h2
    cases x <;> cases y <;> simp_all [Value.cells] <;> (split at h1 <;> simp_all)
theorem KV.eqT {k : TypeId} {ks : List IntKind} (hk : kindsOf P 20 k = some ks) (ht : P.keyTypeAt 20 k = true) {x y : Value} (hx : KV P k ks x) (hy : KV P k ks y) (h : x = y) (w : World) : (Op.equal k x y).run P w = .ok true w := by
  obtain ⟨r, h1, h2⟩ := KV.eq hk ht hx hy w
  rw [h1, h2.2 (by rw [h])]
theorem KV.eqF {k : TypeId} {ks : List IntKind} (hk : kindsOf P 20 k = some ks) (ht : P.keyTypeAt 20 k = true) {x y : Value} (hx : KV P k ks x) (hy : KV P k ks y) (h : x ≠ y) (w : World) : (Op.equal k x y).run P w = .ok false w := by
  obtain ⟨r, h1, h2⟩ := KV.eq hk ht hx hy w
  cases r with
  | true => exact absurd (hx.vals hy (h2.1 rfl)) h
  | false => exact h1
theorem findAsking_run {k : TypeId} {ks : List IntKind} (hk : kindsOf P 20 k = some ks) (ht : P.keyTypeAt 20 k = true) {x : Value} (hx : KV P k ks x) : ∀ (es : List MapEntry) (i : Nat), (∀ e, e ∈ es → KV P k ks e.key) →
    ((∀ w, (Instr.findAsking k x es i).run P w = .ok none w) ∧ ∀ e, e ∈ es → e.key ≠ x) ∨ ∃ j e, (∀ w, (Instr.findAsking k x es i).run P w = .ok (some (i + j, e.val)) w) ∧ es[j]? = some e ∧ e.key = x
  | [], i, _ => .inl ⟨fun w => by simp [Instr.findAsking], by simp⟩
  | e :: es, i, h => by
    have he := h e (by simp)
    by_cases hc : e.key = x
    · exact .inr ⟨0, e, fun w => by simp [Instr.findAsking, KV.eqT hk ht hx he hc.symm w], rfl, hc⟩
    · have h1 := KV.eqF hk ht hx he (Ne.symm hc)
      rcases findAsking_run hk ht hx es (i + 1) (fun y hy => h y (by simp [hy])) with ⟨a1, a2⟩ | ⟨j, e', a1, a2, a3⟩
      · refine .inl ⟨fun w => by simp [Instr.findAsking, h1, a1], fun y hy => ?_⟩
        rcases List.mem_cons.1 hy with rfl | hy
        · exact hc
        · exact a2 y hy
      · exact .inr ⟨j + 1, e', fun w => by simp [Instr.findAsking, h1, a1, Nat.add_assoc, Nat.add_comm 1 j], by simpa using a2, a3⟩
theorem findNow_run {q : IntKind} {n : Int} : ∀ (es : List MapEntry) (i : Nat), (∀ e, e ∈ es → ∃ m, e.key = .int q m) →
    (Instr.findNow (.int q) (.int q n) es i = some none ∧ ∀ e, e ∈ es → e.key ≠ .int q n) ∨ ∃ j e, Instr.findNow (.int q) (.int q n) es i = some (some (i + j, e.val)) ∧ es[j]? = some e ∧ e.key = .int q n
  | [], i, _ => .inl ⟨rfl, by simp⟩
  | e :: es, i, h => by
    obtain ⟨m, hm⟩ := h e (by simp)
    by_cases hnm : n = m
    · subst hnm
      exact .inr ⟨0, e, by simp [Instr.findNow, Instr.sameNow, hm], rfl, hm⟩
    · have hne : e.key ≠ .int q n := fun e' => by rw [hm] at e'; cases e'; exact hnm rfl
      have hb : (n == m) = false := by simpa using hnm
      rcases findNow_run (q := q) (n := n) es (i + 1) (fun y hy => h y (by simp [hy])) with ⟨a1, a2⟩ | ⟨j, e', a1, a2, a3⟩
      · refine .inl ⟨by simp [Instr.findNow, Instr.sameNow, hm, hb, a1], fun y hy => ?_⟩
        rcases List.mem_cons.1 hy with rfl | hy
        · exact hne
        · exact a2 y hy
      · exact .inr ⟨j + 1, e', by simp [Instr.findNow, Instr.sameNow, hm, hb, a1, Nat.add_assoc, Nat.add_comm 1 j], by simpa using a2, a3⟩
theorem kind_one {k : TypeId} {ks : List IntKind} {q : IntKind} {d : Nat} (hk : kindsOf P d k = some ks) (hu : P.underlying k = some (.int q)) : ks = [q] := by
  cases d with
  | zero => simp [kindsOf] at hk
  | succ d => unfold kindsOf at hk; rw [hu] at hk; simpa using hk.symm
theorem kv_int {k : TypeId} {ks : List IntKind} {q : IntKind} (hk : kindsOf P 20 k = some ks) (hu : P.underlying k = some (.int q)) {x : Value} (hx : KV P k ks x) : ∃ m, x = .int q m := by
  have := kind_one hk hu
  subst this
  obtain ⟨h1, h2⟩ := hx
  cases x <;> simp [Value.formed, hu] at h1
  all_goals
    first
      | (simp only [Value.cells] at h2
         cases h2 with
         | cons q n ks vs hw t => exact ⟨_, rfl⟩)
      | (simp only [Value.cells] at h2; cases h2)
theorem find_run {k : TypeId} {ks : List IntKind} (hk : kindsOf P 20 k = some ks) (ht : P.keyTypeAt 20 k = true) {x : Value} (hx : KV P k ks x) (es : List MapEntry) (h : ∀ e, e ∈ es → KV P k ks e.key) :
    ((∀ w, (Instr.findKey k x es).run P w = .ok none w) ∧ ∀ e, e ∈ es → e.key ≠ x) ∨ ∃ j e, (∀ w, (Instr.findKey k x es).run P w = .ok (some (j, e.val)) w) ∧ es[j]? = some e ∧ e.key = x := by
  cases hu : P.underlying k with
  | none => rw [show (20 : Nat) = 19 + 1 from rfl] at hk; unfold kindsOf at hk; simp [hu] at hk
  | some kd =>
    by_cases hint : ∃ q, kd = .int q
    · obtain ⟨q, rfl⟩ := hint
      obtain ⟨n, rfl⟩ := kv_int hk hu hx
      rcases findNow_run (q := q) (n := n) es 0 (fun e he => kv_int hk hu (h e he)) with ⟨a1, a2⟩ | ⟨j, e, a1, a2, a3⟩
      · exact .inl ⟨fun w => by simp [Instr.findKey, underlying, hu, a1], a2⟩
      · refine .inr ⟨j, e, fun w => ?_, a2, a3⟩
        rw [Nat.zero_add] at a1
        simp [Instr.findKey, underlying, hu, a1]
    · cases es with
      | nil => exact .inl ⟨fun w => by simp [Instr.findKey, underlying, hu, Instr.findNow], by simp⟩
      | cons e es =>
        have hn : Instr.findNow kd x (e :: es) 0 = none := by
          have hag : ∃ cs, x = .agg cs := by
            have h1 := hx.1
            rw [show (20 : Nat) = 19 + 1 from rfl] at hk
            unfold kindsOf at hk
            cases kd
            case int q => exact absurd ⟨q, rfl⟩ hint
            all_goals first
              | (simp [hu] at hk; done)
              | (cases x <;> simp [Value.formed, hu] at h1; exact ⟨_, rfl⟩)
          obtain ⟨cs, rfl⟩ := hag
          simp [Instr.findNow, Instr.sameNow]
        have e0 : ∀ w, (Instr.findKey k x (e :: es)).run P w = (Instr.findAsking k x (e :: es)).run P w := fun w => by
          simp [Instr.findKey, underlying, hu, hn]
        rcases findAsking_run hk ht hx (e :: es) 0 h with ⟨a1, a2⟩ | ⟨j, e', a1, a2, a3⟩
        · exact .inl ⟨fun w => (e0 w).trans (a1 w), a2⟩
        · exact .inr ⟨j, e', fun w => (e0 w).trans (by simpa using a1 w), a2, a3⟩
theorem stays_run {k : TypeId} {ks : List IntKind} {x : Value} (hx : KV P k ks x) (w : World) : (Instr.keyThatStays x x).run P w = .ok x w := by
  have one : ∀ {ks : List IntKind} {vs : List Value}, IL ks vs → ∀ n, (vs.zip vs).all (fun (p : Value × Value) => Instr.sameBits n p.1 p.2) = true := by
    intro ks vs h n
    induction h with
    | nil => simp
    | cons q m ks vs hw t ih => simp [ih, Instr.sameBits]
  have : Instr.sameBits 10000 x x = true := by
    have h2 := hx.2
    cases x with
    | agg cs =>
      show Instr.sameBits (9999 + 1) _ _ = true
      unfold Instr.sameBits
      have := one h2 9999
      simp only [Value.cells] at this
      simpa using this
    | tuple cs => exact absurd hx.1 (by simp [Value.formed])
    | int q n => simp [Instr.sameBits]
    | _ => simp only [Value.cells] at h2; cases h2
  simp [Instr.keyThatStays, this]
end
end Go.Dm
