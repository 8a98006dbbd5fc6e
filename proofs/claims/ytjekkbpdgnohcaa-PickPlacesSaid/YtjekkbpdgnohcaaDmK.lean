/-
  A logic for Go functions over plain data, part K: every operation that the compiler takes does what its condition says.
-/
import Derived.Test.YtjekkbpdgnohcaaDmQ
set_option linter.unusedSimpArgs false
set_option linter.unnecessarySimpa false
set_option linter.unusedVariables false
namespace Go.Dm
open Go.RowKit
section
variable {P : Program} {G : Gh} {s : S} {a : Act} {w : World} {A : Nat → Prop} {β : Nat → Option Nat} {γ : Nat → Option (Nat × List Nat)} {o : Oper}
theorem optB {c : Operand → Option O} {x : Option Operand} {y : Option O} (h : (match x with | some l => (c l).map some | none => some none) = some y) : (x = none ∧ y = none) ∨ ∃ p q, x = some p ∧ y = some q ∧ c p = some q := by
  cases x with
  | none => left; simp at h; exact ⟨rfl, h.symm⟩
  | some l =>
    right
    simp only [Option.map_eq_some_iff] at h
    obtain ⟨q, h1, h2⟩ := h
    exact ⟨l, q, rfl, h2.symm, h1⟩
theorem pu_all0 {i : MI} {kk : S → D → Prop} (hc : cI0 P o = some i) (hq : i.quiet = true) (h : puI i s kk) (g : GR G s a w A β γ) : PU P G a w o kk := by
  unfold cI0 at hc
  split at hc
  · next x ho =>
    simp only [Option.map_eq_some_iff] at hc
    obtain ⟨y, hy, rfl⟩ := hc
    exact PU.of g (pu_mov (.inl ho) hy h g)
  · next x ho =>
    split at hc
    · split at hc
      · simp only [Option.map_eq_some_iff] at hc
        obtain ⟨y, hy, rfl⟩ := hc
        exact PU.of g (pu_mov (.inr ho) hy h g)
      · simp only [Option.bind_eq_bind, Option.pure_def, Option.bind_eq_some_iff, Option.some.injEq] at hc
        obtain ⟨_, _, _, _, rfl⟩ := hc
        simp [MI.quiet] at hq
    · simp only [Option.map_eq_some_iff] at hc
      obtain ⟨y, hy, rfl⟩ := hc
      exact PU.of g (pu_mov (.inr ho) hy h g)
  · next c x y ho =>
    simp only [Option.bind_eq_bind, Option.pure_def, Option.bind_eq_some_iff, Option.some.injEq] at hc
    obtain ⟨c', h1, x', h2, y', h3, rfl⟩ := hc
    exact PU.of g (pu_pick ho h1 h2 h3 h g)
  · simp only [Option.bind_eq_bind, Option.pure_def, Option.bind_eq_some_iff] at hc
    obtain ⟨z, h1, hc⟩ := hc
    split at hc
    · cases hc; simp [MI.quiet] at hq
    · cases hc
  · simp only [Option.bind_eq_bind, Option.pure_def, Option.bind_eq_some_iff] at hc
    obtain ⟨z, h1, hc⟩ := hc
    split at hc
    · simp only [Option.bind_eq_some_iff, Option.some.injEq] at hc
      obtain ⟨_, _, rfl⟩ := hc; simp [MI.quiet] at hq
    · cases hc
  · next t parts ho =>
    split at hc
    · next fs hu =>
      simp only [Option.bind_eq_bind, Option.bind_eq_some_iff] at hc
      obtain ⟨zero, h1, ps, h2, hc⟩ := hc
      split at hc
      · next hall => cases hc; exact PU.of g (pu_bld ho hu h1 h2 hall h g)
      · cases hc
    · cases hc
  · simp only [Option.bind_eq_bind, Option.pure_def, Option.bind_eq_some_iff] at hc
    obtain ⟨e, h1, sz, h2, ag, h3, hc⟩ := hc
    split at hc
    · split at hc
      · simp only [Option.bind_eq_some_iff, Option.some.injEq] at hc
        obtain ⟨_, _, rfl⟩ := hc; simp [MI.quiet] at hq
      · cases hc
    · cases hc
  · next t x ho =>
    simp only [Option.bind_eq_bind, Option.pure_def, Option.bind_eq_some_iff] at hc
    obtain ⟨sz, h1, hc⟩ := hc
    split at hc
    · next hag =>
      simp only [Option.bind_eq_some_iff, Option.some.injEq] at hc
      obtain ⟨y, hy, rfl⟩ := hc
      rcases kLdw_cases h with h | ⟨s', hg, h⟩
      · exact PU.of g (pu_ldn ho hag h1 hy h g)
      · obtain ⟨A1, β1, γ1, g1⟩ := hg.sound g
        exact PU.of g1 (pu_ldn ho hag h1 hy h g1)
    · next hag =>
      simp only [Option.bind_eq_some_iff, Option.some.injEq] at hc
      obtain ⟨y, hy, rfl⟩ := hc
      exact pu_ld1 ho hag hy h g
    · cases hc
  · next t x y ho =>
    simp only [Option.bind_eq_bind, Option.pure_def, Option.bind_eq_some_iff] at hc
    obtain ⟨sz, h1, hc⟩ := hc
    split at hc
    · simp only [Option.bind_eq_some_iff, Option.some.injEq] at hc
      obtain ⟨_, _, _, _, rfl⟩ := hc; simp [MI.quiet] at hq
    · split at hc
      · simp only [Option.bind_eq_some_iff, Option.some.injEq] at hc
        obtain ⟨_, _, _, _, rfl⟩ := hc; simp [MI.quiet] at hq
      · cases hc
    · cases hc
  · next op t x y u ho =>
    split at hc
    · next hb =>
      split at hc
      · simp only [Option.bind_eq_bind, Option.pure_def, Option.bind_eq_some_iff, Option.some.injEq] at hc
        obtain ⟨x', h1, y', h2, rfl⟩ := hc
        exact PU.of g (pu_eqb (neg := false) ho hb h1 h2 h g)
      · simp only [Option.bind_eq_bind, Option.pure_def, Option.bind_eq_some_iff, Option.some.injEq] at hc
        obtain ⟨x', h1, y', h2, rfl⟩ := hc
        exact PU.of g (pu_eqb (neg := true) ho hb h1 h2 h g)
      · cases hc
    · split at hc
      · simp only [Option.bind_eq_bind, Option.pure_def, Option.bind_eq_some_iff, Option.some.injEq] at hc
        obtain ⟨x', h1, y', h2, rfl⟩ := hc
        exact PU.of g (pu_bin ho h1 h2 h g)
      · split at hc
        · next ht hy =>
          simp only [Option.map_eq_some_iff] at hc
          obtain ⟨x', hx, rfl⟩ := hc
          exact PU.of g (pu_isnil (neg := false) ho ht hx hy h g)
        · next ht hy =>
          simp only [Option.map_eq_some_iff] at hc
          obtain ⟨x', hx, rfl⟩ := hc
          exact PU.of g (pu_isnil (neg := true) ho ht hx hy h g)
        · cases hc
  · next op t x ho =>
    split at hc
    · simp only [Option.map_eq_some_iff] at hc
      obtain ⟨y, hy, rfl⟩ := hc
      exact PU.of g (pu_not ho hy h g)
    · simp only [Option.map_eq_some_iff] at hc
      obtain ⟨y, hy, rfl⟩ := hc
      exact PU.of g (pu_neg ho hy h g)
    · cases hc
  · next src dst x ho =>
    split at hc
    · next d1 q1 hs hdt =>
      simp only [Option.map_eq_some_iff] at hc
      obtain ⟨y, hy, rfl⟩ := hc
      exact PU.of g (pu_cvi ho hdt hs hy h g)
    · cases hc
  · next fn first cap ho =>
    split at hc
    · next f =>
      split at hc
      · next hf =>
        simp only [Option.bind_eq_bind, Option.pure_def, Option.bind_eq_some_iff, Option.some.injEq] at hc
        obtain ⟨ds, h1, rfl⟩ := hc
        have : first = #[] := Array.eq_empty_of_size_eq_zero hf
        subst this
        exact PU.of g (pu_mkf ho h1 h g)
      · cases hc
    · cases hc
  · next t len cap ho =>
    split at hc
    · split at hc
      · simp only [Option.bind_eq_bind, Option.pure_def, Option.bind_eq_some_iff] at hc
        obtain ⟨_, _, _, _, _, _, _, _, hc⟩ := hc
        split at hc
        · cases hc; simp [MI.quiet] at hq
        · cases hc
      · cases hc
    · split at hc
      · simp only [Option.bind_eq_bind, Option.pure_def, Option.bind_eq_some_iff] at hc
        obtain ⟨_, _, _, _, _, _, _, _, hc⟩ := hc
        split at hc
        · cases hc; simp [MI.quiet] at hq
        · cases hc
      · cases hc
    · cases hc
  · next t x lo hi mx ho =>
    split at hc
    · cases hc
    · next hmx =>
      have : mx = none := by cases mx <;> simp_all
      subst this
      simp only [Option.bind_eq_bind, Option.pure_def, Option.bind_eq_some_iff, Option.some.injEq] at hc
      obtain ⟨e, h1, sz, h2, lo', h3, hi', h4, x', h5, rfl⟩ := hc
      exact PU.of g (pu_sub ho h1 h2 h5 (optB h3) (optB h4) h g)
  · next t x i ho =>
    simp only [Option.bind_eq_bind, Option.pure_def, Option.bind_eq_some_iff] at hc
    obtain ⟨f, h1, z, h2, hc⟩ := hc
    split at hc
    · cases hc
    · next hz =>
      simp only [Option.bind_eq_some_iff, Option.some.injEq] at hc
      obtain ⟨y, hy, rfl⟩ := hc
      exact PU.of g (pu_fld ho h1 h2 hz hy h g)
  · next t x i ho =>
    simp only [Option.bind_eq_bind, Option.pure_def, Option.bind_eq_some_iff] at hc
    obtain ⟨f, h1, z, h2, hc⟩ := hc
    split at hc
    · next hag =>
      simp only [Option.bind_eq_some_iff, Option.some.injEq] at hc
      obtain ⟨y, hy, rfl⟩ := hc
      exact PU.of g (pu_getf ho h1 h2 hag (fun h => by cases h) hy h g)
    · next hag =>
      split at hc
      · next hz =>
        subst hz
        simp only [Option.bind_eq_some_iff, Option.some.injEq] at hc
        obtain ⟨y, hy, rfl⟩ := hc
        exact PU.of g (pu_getf ho h1 h2 hag (fun _ => rfl) hy h g)
      · cases hc
    · cases hc
  · next t x i ho =>
    split at hc
    · next e hu =>
      simp only [Option.bind_eq_bind, Option.pure_def, Option.bind_eq_some_iff, Option.some.injEq] at hc
      obtain ⟨x', h1, i', h2, sz, h3, rfl⟩ := hc
      exact PU.of g (pu_idx ho hu h3 h1 h2 h g)
    · next n e hu =>
      simp only [Option.bind_eq_bind, Option.pure_def, Option.bind_eq_some_iff, Option.some.injEq] at hc
      obtain ⟨x', h1, i', h2, sz, h3, rfl⟩ := hc
      exact PU.of g (pu_idxa ho hu h3 h1 h2 h g)
    · cases hc
  · next t x i ho =>
    split at hc
    · next n e hu =>
      simp only [Option.bind_eq_bind, Option.pure_def, Option.bind_eq_some_iff] at hc
      obtain ⟨sz, h1, hc⟩ := hc
      split at hc
      · next hag =>
        simp only [Option.bind_eq_some_iff, Option.some.injEq] at hc
        obtain ⟨x', h2, i', h3, rfl⟩ := hc
        exact PU.of g (pu_idxv ho hu h1 hag (fun h => by cases h) h2 h3 h g)
      · next hag =>
        split at hc
        · next hz =>
          subst hz
          simp only [Option.bind_eq_some_iff, Option.some.injEq] at hc
          obtain ⟨x', h2, i', h3, rfl⟩ := hc
          exact PU.of g (pu_idxv ho hu h1 hag (fun _ => rfl) h2 h3 h g)
        · cases hc
      · cases hc
    · cases hc
  · next x i ho =>
    simp only [Option.bind_eq_bind, Option.pure_def, Option.bind_eq_some_iff, Option.some.injEq] at hc
    obtain ⟨y, hy, rfl⟩ := hc
    exact PU.of g (pu_ext ho hy h g)
  · next x ho =>
    simp only [Option.map_eq_some_iff] at hc
    obtain ⟨y, hy, rfl⟩ := hc
    exact PU.of g (pu_nck ho hy h g)
  · next c ho =>
    obtain ⟨callee, args, ats⟩ := c
    simp only at hc
    split at hc
    · split at hc
      · next x t hx ht =>
        simp only [Option.bind_eq_bind, Option.pure_def, Option.bind_eq_some_iff, Option.some.injEq] at hc
        obtain ⟨e, h1, y, hy, rfl⟩ := hc
        have e1 : args = #[x] := by rw [← Array.toArray_toList (xs := args), hx]
        have e2 : ats = #[t] := by rw [← Array.toArray_toList (xs := ats), ht]
        subst e1; subst e2
        exact PU.of g (pu_len ho h1 hy h g)
      · cases hc
    · split at hc
      · next x t hx ht =>
        simp only [Option.bind_eq_bind, Option.pure_def, Option.bind_eq_some_iff, Option.some.injEq] at hc
        obtain ⟨e, h1, y, hy, rfl⟩ := hc
        have e1 : args = #[x] := by rw [← Array.toArray_toList (xs := args), hx]
        have e2 : ats = #[t] := by rw [← Array.toArray_toList (xs := ats), ht]
        subst e1; subst e2
        exact PU.of g (pu_cap ho h1 hy h g)
      · cases hc
    · split at hc
      · split at hc
        · simp only [Option.bind_eq_bind, Option.pure_def, Option.bind_eq_some_iff] at hc
          obtain ⟨_, _, _, _, _, _, _, _, hc⟩ := hc
          split at hc
          · simp only [Option.bind_eq_some_iff, Option.some.injEq] at hc
            obtain ⟨_, _, _, _, rfl⟩ := hc; simp [MI.quiet] at hq
          · cases hc
        · simp only [Option.bind_eq_bind, Option.pure_def, Option.bind_eq_some_iff] at hc
          obtain ⟨_, _, _, _, _, _, _, _, _, _, hc⟩ := hc
          split at hc
          · simp only [Option.bind_eq_some_iff, Option.some.injEq] at hc
            obtain ⟨_, _, _, _, rfl⟩ := hc; simp [MI.quiet] at hq
          · cases hc
      · cases hc
    · split at hc
      · next x y hx =>
        simp only [Option.bind_eq_bind, Option.pure_def, Option.bind_eq_some_iff, Option.some.injEq] at hc
        obtain ⟨x', h1, y', h2, rfl⟩ := hc
        have e1 : args = #[x, y] := by rw [← Array.toArray_toList (xs := args), hx]
        subst e1
        exact PU.of g (pu_min (m := false) ho h1 h2 h g)
      · cases hc
    · split at hc
      · next x y hx =>
        simp only [Option.bind_eq_bind, Option.pure_def, Option.bind_eq_some_iff, Option.some.injEq] at hc
        obtain ⟨x', h1, y', h2, rfl⟩ := hc
        have e1 : args = #[x, y] := by rw [← Array.toArray_toList (xs := args), hx]
        subst e1
        exact PU.of g (pu_min (m := true) ho h1 h2 h g)
      · cases hc
    · split at hc
      · split at hc
        · simp only [Option.bind_eq_bind, Option.pure_def, Option.bind_eq_some_iff, Option.some.injEq] at hc
          obtain ⟨_, _, rfl⟩ := hc; simp [MI.quiet] at hq
        · cases hc
      · cases hc
    · simp only [Option.bind_eq_bind, Option.pure_def, Option.bind_eq_some_iff, Option.some.injEq] at hc
      obtain ⟨_, _, rfl⟩ := hc; simp [MI.quiet] at hq
    · cases hc
  · cases hc
inductive CX (P : Program) (o : Oper) : MI → Prop
  | mmk {t kt et ks ka va vz} (ho : o.op = .makeMap t none) (h1 : isMapT P t = some (kt, et)) (h2 : keyT P kt = some (ks, ka)) (h3 : valT P et = some (va, vz)) : CX P o (.mmk ks ka va vz)
  | mlk {t kt et x y ok ks ka va vz z x' y'} (ho : o.op = .lookup t x y ok) (h1 : isMapT P t = some (kt, et)) (h2 : keyT P kt = some (ks, ka)) (h3 : valT P et = some (va, vz)) (h4 : zOf P et = some z) (h5 : z.length = vz) (h6 : zShape P et va = true) (hx : cO x = some x') (hy : cO y = some y') : CX P o (.mlk x' y' ks ka va vz ok z)
  | mup {t kt et x y u ks ka va vz x' y' u'} (ho : o.op = .mapUpdate t x y u ∨ o.op = .insert t x y u) (h1 : isMapT P t = some (kt, et)) (h2 : keyT P kt = some (ks, ka)) (h3 : valT P et = some (va, vz)) (hx : cO x = some x') (hy : cO y = some y') (hu : cO u = some u') : CX P o (.mup x' y' u' ks ka va vz)
  | men {t kt et x y ks ka va vz z x' y'} (ho : o.op = .mapEntry t x y) (h1 : isMapT P t = some (kt, et)) (h2 : keyT P kt = some (ks, ka)) (h3 : valT P et = some (va, vz)) (h4 : zOf P et = some z) (h5 : z.length = vz) (h6 : zShape P et va = true) (hx : cO x = some x') (hy : cO y = some y') : CX P o (.men x' y' ks ka va vz z)
  | mes {t kt et x y u ks ka va vz x' y' u'} (ho : o.op = .entryStore t x y u) (h1 : isMapT P t = some (kt, et)) (h2 : keyT P kt = some (ks, ka)) (h3 : valT P et = some (va, vz)) (hx : cO x = some x') (hy : cO y = some y') (hu : cO u = some u') : CX P o (.mes x' y' u' ks ka va vz)
  | eqs {t u x y ks x' y'} (neg : Bool) (ho : o.op = .binOp (if neg then .neq else .eql) t x y u) (h1 : kindsOf P 20 t = some ks) (h2 : aggOf P t = some true) (h3 : P.keyTypeAt 20 t = true) (h4 : P.eqGuardType P.depth t = false) (hx : cO x = some x') (hy : cO y = some y') : CX P o (.eqs neg x' y' ks)
  | bla {t n e parts zero sz ps} (ho : o.op = .build t parts) (hu : P.underlying t = some (.array n e)) (h1 : zOf P t = some zero) (h2 : szOf P e = some sz) (h3 : (parts.toList.mapM fun p => do pure (p.1, ← cO p.2)) = some ps) : CX P o (.bla zero sz ps)
  | mlen {t kt et x x'} (ho : o.op = .call ⟨.builtin .len, #[x], #[t]⟩) (h1 : isMapT P t = some (kt, et)) (hx : cO x = some x') : CX P o (.mlen x')
theorem cX_cases {i : MI} (hc : cX P o = some i) : CX P o i := by
  unfold cX at hc
  split at hc
  · next t r ho =>
    simp only [Option.bind_eq_bind, Option.pure_def, Option.bind_eq_some_iff] at hc
    obtain ⟨⟨kt, et⟩, h1, ⟨ks, ka⟩, h2, ⟨va, vz⟩, h3, hc⟩ := hc
    simp only at hc h2 h3
    split at hc
    · next hr =>
      cases hc
      have : r = none := by cases r <;> simp_all
      subst this
      exact .mmk ho h1 h2 h3
    · cases hc
  · next t x y ok ho =>
    simp only [Option.bind_eq_bind, Option.pure_def, Option.bind_eq_some_iff] at hc
    obtain ⟨⟨kt, et⟩, h1, ⟨ks, ka⟩, h2, ⟨va, vz⟩, h3, z, h4, hc⟩ := hc
    simp only at hc h2 h3 h4
    split at hc
    · next hz =>
      simp only [Option.bind_eq_some_iff, Option.some.injEq] at hc
      obtain ⟨x', hx, y', hy, rfl⟩ := hc
      exact .mlk ho h1 h2 h3 h4 hz.1 hz.2 hx hy
    · cases hc
  · next t x y u ho =>
    simp only [Option.bind_eq_bind, Option.pure_def, Option.bind_eq_some_iff, Option.some.injEq] at hc
    obtain ⟨⟨kt, et⟩, h1, ⟨ks, ka⟩, h2, ⟨va, vz⟩, h3, x', hx, y', hy, u', hu, rfl⟩ := hc
    exact .mup (.inl ho) h1 h2 h3 hx hy hu
  · next t x y u ho =>
    simp only [Option.bind_eq_bind, Option.pure_def, Option.bind_eq_some_iff, Option.some.injEq] at hc
    obtain ⟨⟨kt, et⟩, h1, ⟨ks, ka⟩, h2, ⟨va, vz⟩, h3, x', hx, y', hy, u', hu, rfl⟩ := hc
    exact .mup (.inr ho) h1 h2 h3 hx hy hu
  · next t x y ho =>
    simp only [Option.bind_eq_bind, Option.pure_def, Option.bind_eq_some_iff] at hc
    obtain ⟨⟨kt, et⟩, h1, ⟨ks, ka⟩, h2, ⟨va, vz⟩, h3, z, h4, hc⟩ := hc
    simp only at hc h2 h3 h4
    split at hc
    · next hz =>
      simp only [Option.bind_eq_some_iff, Option.some.injEq] at hc
      obtain ⟨x', hx, y', hy, rfl⟩ := hc
      exact .men ho h1 h2 h3 h4 hz.1 hz.2 hx hy
    · cases hc
  · next t x y u ho =>
    simp only [Option.bind_eq_bind, Option.pure_def, Option.bind_eq_some_iff, Option.some.injEq] at hc
    obtain ⟨⟨kt, et⟩, h1, ⟨ks, ka⟩, h2, ⟨va, vz⟩, h3, x', hx, y', hy, u', hu, rfl⟩ := hc
    exact .mes ho h1 h2 h3 hx hy hu
  · next op t x y u ho =>
    simp only [Option.bind_eq_bind, Option.bind_eq_some_iff] at hc
    obtain ⟨ks, h1, hc⟩ := hc
    split at hc
    · next hz =>
      split at hc
      · simp only [Option.pure_def, Option.bind_eq_some_iff, Option.some.injEq] at hc
        obtain ⟨x', hx, y', hy, rfl⟩ := hc
        exact .eqs false ho h1 hz.1 hz.2.1 hz.2.2 hx hy
      · simp only [Option.pure_def, Option.bind_eq_some_iff, Option.some.injEq] at hc
        obtain ⟨x', hx, y', hy, rfl⟩ := hc
        exact .eqs true ho h1 hz.1 hz.2.1 hz.2.2 hx hy
      · cases hc
    · cases hc
  · next t parts ho =>
    split at hc
    · next n e hu =>
      simp only [Option.bind_eq_bind, Option.bind_eq_some_iff] at hc
      obtain ⟨zero, h1, sz, h2, ps, h3, hc⟩ := hc
      cases hc
      exact .bla ho hu h1 h2 h3
    · cases hc
  · next c ho =>
    obtain ⟨callee, args, ats⟩ := c
    simp only at hc
    split at hc
    · split at hc
      · next x t hx ht =>
        simp only [Option.bind_eq_bind, Option.pure_def, Option.bind_eq_some_iff, Option.some.injEq] at hc
        obtain ⟨⟨kt, et⟩, h1, x', hx', rfl⟩ := hc
        have e1 : args = #[x] := by rw [← Array.toArray_toList (xs := args), hx]
        have e2 : ats = #[t] := by rw [← Array.toArray_toList (xs := ats), ht]
        subst e1; subst e2
        exact .mlen ho h1 hx'
      · cases hc
    · cases hc
  · cases hc
theorem cI_cases {i : MI} (hc : cI P o = some i) : cX P o = some i ∨ cI0 P o = some i := by
  unfold cI at hc
  split at hc
  · next j hj => cases hc; exact .inl hj
  · exact .inr hc
theorem pu_all {i : MI} {kk : S → D → Prop} (hc : cI P o = some i) (hq : i.quiet = true) (h : puI i s kk) (g : GR G s a w A β γ) : PU P G a w o kk := by
  rcases cI_cases hc with hc | hc
  · cases cX_cases hc with
    | mlk ho h1 h2 h3 h4 h5 h6 hx hy => exact PU.of g (pu_mlk ho h1 h2 h3 h4 h5 h6 hx hy h g)
    | eqs neg ho h1 h2 h3 h4 hx hy => exact PU.of g (pu_eqs ho h1 h2 h3 h4 hx hy h g)
    | bla ho hu h1 h2 h3 => exact PU.of g (pu_bla ho hu h1 h2 h3 h g)
    | _ => simp [MI.quiet] at hq
  · exact pu_all0 hc hq h g
theorem cX_quiet {i : MI} {K : S → Prop} (hc : cX P o = some i) (hq : ¬ i.quiet = true) (hd : ∀ t, o.dst = some t → t < G.nt ∧ ∀ y, ¬ G.T t y) (h : vcI P i o.dst K s) (g : GR G s a w A β γ) : Does i.gr P G a w o K := by
  cases cX_cases hc with
  | mmk ho h1 h2 h3 => exact ef_mmk ho h2 h3 hd h g
  | mup ho h1 h2 h3 hx hy hu => exact ef_mup ho h1 h2 h3 hx hy hu hd h g
  | men ho h1 h2 h3 h4 h5 h6 hx hy => exact ef_men ho h1 h2 h3 h4 h5 h6 hx hy hd h g
  | mes ho h1 h2 h3 hx hy hu => exact ef_mes ho h2 h3 hx hy hu hd h g
  | mlen ho h1 hx => exact ef_mlen ho h1 hx hd h g
  | _ => exact absurd rfl hq
theorem op_sound {i : MI} {K : S → Prop} (hc : cI P o = some i) (hd : ∀ t, o.dst = some t → t < G.nt ∧ ∀ y, ¬ G.T t y) (h : vcI P i o.dst K s) (g : GR G s a w A β γ) : Does i.gr P G a w o K := by
  by_cases hq : i.quiet = true
  · rw [vcI_pu hq] at h
    have e : i.gr = false := by cases i <;> first | rfl | (simp [MI.quiet] at hq)
    have h1 := pure_does (pu_all hc hq h g) hd
    rw [← e] at h1
    exact h1
  rcases cI_cases hc with hc | hc
  · exact cX_quiet hc hq hd h g
  unfold cI0 at hc
  split at hc
  · simp only [Option.map_eq_some_iff] at hc
    obtain ⟨y, hy, rfl⟩ := hc
    exact absurd rfl hq
  · next x ho =>
    split at hc
    · split at hc
      · simp only [Option.map_eq_some_iff] at hc
        obtain ⟨y, hy, rfl⟩ := hc
        exact absurd rfl hq
      · simp only [Option.bind_eq_bind, Option.pure_def, Option.bind_eq_some_iff, Option.some.injEq] at hc
        obtain ⟨_, _, _, _, rfl⟩ := hc
        exact ef_nil ho hd h g
    · simp only [Option.map_eq_some_iff] at hc
      obtain ⟨y, hy, rfl⟩ := hc
      exact absurd rfl hq
  · simp only [Option.bind_eq_bind, Option.pure_def, Option.bind_eq_some_iff, Option.some.injEq] at hc
    obtain ⟨c', h1, x', h2, y', h3, rfl⟩ := hc
    exact absurd rfl hq
  · next e ho =>
    simp only [Option.bind_eq_bind, Option.pure_def, Option.bind_eq_some_iff] at hc
    obtain ⟨z, h1, hc⟩ := hc
    split at hc
    · cases hc; exact ef_new ho h1 hd h g
    · cases hc
  · next e x ho =>
    simp only [Option.bind_eq_bind, Option.pure_def, Option.bind_eq_some_iff] at hc
    obtain ⟨z, h1, hc⟩ := hc
    split at hc
    · simp only [Option.bind_eq_some_iff, Option.some.injEq] at hc
      obtain ⟨y, hy, rfl⟩ := hc; exact ef_box ho hy hd h g
    · cases hc
  · split at hc
    · simp only [Option.bind_eq_bind, Option.bind_eq_some_iff] at hc
      obtain ⟨zero, h1, ps, h2, hc⟩ := hc
      split at hc
      · cases hc; exact absurd rfl hq
      · cases hc
    · cases hc
  · next t len parts ho =>
    simp only [Option.bind_eq_bind, Option.pure_def, Option.bind_eq_some_iff] at hc
    obtain ⟨e, h1, sz, h2, ag, h3, hc⟩ := hc
    split at hc
    · split at hc
      · next hp =>
        simp only [Option.bind_eq_some_iff, Option.some.injEq] at hc
        obtain ⟨ys, hys, hz, rfl⟩ := hc
        exact ef_bsl ho h1 h2 (Option.isSome_iff_exists.1 hp.2.2) hp.1 hp.2.1 hys hd h g
      · cases hc
    · cases hc
  · simp only [Option.bind_eq_bind, Option.pure_def, Option.bind_eq_some_iff] at hc
    obtain ⟨sz, h1, hc⟩ := hc
    split at hc
    · simp only [Option.bind_eq_some_iff, Option.some.injEq] at hc
      obtain ⟨y, hy, rfl⟩ := hc
      exact absurd rfl hq
    · simp only [Option.bind_eq_some_iff, Option.some.injEq] at hc
      obtain ⟨y, hy, rfl⟩ := hc
      exact absurd rfl hq
    · cases hc
  · next t x y ho =>
    simp only [Option.bind_eq_bind, Option.pure_def, Option.bind_eq_some_iff] at hc
    obtain ⟨sz, h1, hc⟩ := hc
    split at hc
    · simp only [Option.bind_eq_some_iff, Option.some.injEq] at hc
      obtain ⟨x', h2, y', h3, rfl⟩ := hc
      exact ef_stn ho h1 h2 h3 hd h g
    · split at hc
      · next hz =>
        subst hz
        simp only [Option.bind_eq_some_iff, Option.some.injEq] at hc
        obtain ⟨x', h2, y', h3, rfl⟩ := hc
        exact ef_st1 ho h1 h2 h3 hd h g
      · cases hc
    · cases hc
  · split at hc
    · split at hc
      · simp only [Option.bind_eq_bind, Option.pure_def, Option.bind_eq_some_iff, Option.some.injEq] at hc
        obtain ⟨x', h1, y', h2, rfl⟩ := hc
        exact absurd rfl hq
      · simp only [Option.bind_eq_bind, Option.pure_def, Option.bind_eq_some_iff, Option.some.injEq] at hc
        obtain ⟨x', h1, y', h2, rfl⟩ := hc
        exact absurd rfl hq
      · cases hc
    · split at hc
      · simp only [Option.bind_eq_bind, Option.pure_def, Option.bind_eq_some_iff, Option.some.injEq] at hc
        obtain ⟨x', h1, y', h2, rfl⟩ := hc
        exact absurd rfl hq
      · split at hc
        · simp only [Option.map_eq_some_iff] at hc
          obtain ⟨x', hx, rfl⟩ := hc
          exact absurd rfl hq
        · simp only [Option.map_eq_some_iff] at hc
          obtain ⟨x', hx, rfl⟩ := hc
          exact absurd rfl hq
        · cases hc
  · split at hc
    · simp only [Option.map_eq_some_iff] at hc
      obtain ⟨y, hy, rfl⟩ := hc
      exact absurd rfl hq
    · simp only [Option.map_eq_some_iff] at hc
      obtain ⟨y, hy, rfl⟩ := hc
      exact absurd rfl hq
    · cases hc
  · split at hc
    · simp only [Option.map_eq_some_iff] at hc
      obtain ⟨y, hy, rfl⟩ := hc
      exact absurd rfl hq
    · cases hc
  · split at hc
    · split at hc
      · simp only [Option.bind_eq_bind, Option.pure_def, Option.bind_eq_some_iff, Option.some.injEq] at hc
        obtain ⟨ds, h1, rfl⟩ := hc
        exact absurd rfl hq
      · cases hc
    · cases hc
  · next t len cap ho =>
    split at hc
    · next l c =>
      split at hc
      · next hlc =>
        subst hlc
        simp only [Option.bind_eq_bind, Option.pure_def, Option.bind_eq_some_iff] at hc
        obtain ⟨e, h1, sz, h2, zero, h3, by_, h4, hc⟩ := hc
        split at hc
        · next hz => cases hc; exact ef_mk ho h1 h2 h3 h4 hz.1 hz.2.1 hz.2.2 rfl hd h g
        · cases hc
      · cases hc
    · next l c =>
      split at hc
      · next hlc =>
        subst hlc
        simp only [Option.bind_eq_bind, Option.pure_def, Option.bind_eq_some_iff] at hc
        obtain ⟨e, h1, sz, h2, zero, h3, by_, h4, hc⟩ := hc
        split at hc
        · next hz => cases hc; exact ef_mk ho h1 h2 h3 h4 hz.1 hz.2.1 hz.2.2 (show cO (.const (.int .i64 l)) = some (.k (.int .i64 l)) from rfl) hd h g
        · cases hc
      · cases hc
    · cases hc
  · split at hc
    · cases hc
    · simp only [Option.bind_eq_bind, Option.pure_def, Option.bind_eq_some_iff, Option.some.injEq] at hc
      obtain ⟨e, h1, sz, h2, lo', h3, hi', h4, x', h5, rfl⟩ := hc
      exact absurd rfl hq
  · simp only [Option.bind_eq_bind, Option.pure_def, Option.bind_eq_some_iff] at hc
    obtain ⟨f, h1, z, h2, hc⟩ := hc
    split at hc
    · cases hc
    · simp only [Option.bind_eq_some_iff, Option.some.injEq] at hc
      obtain ⟨y, hy, rfl⟩ := hc
      exact absurd rfl hq
  · simp only [Option.bind_eq_bind, Option.pure_def, Option.bind_eq_some_iff] at hc
    obtain ⟨f, h1, z, h2, hc⟩ := hc
    split at hc
    · simp only [Option.bind_eq_some_iff, Option.some.injEq] at hc
      obtain ⟨y, hy, rfl⟩ := hc
      exact absurd rfl hq
    · split at hc
      · simp only [Option.bind_eq_some_iff, Option.some.injEq] at hc
        obtain ⟨y, hy, rfl⟩ := hc
        exact absurd rfl hq
      · cases hc
    · cases hc
  · split at hc
    · simp only [Option.bind_eq_bind, Option.pure_def, Option.bind_eq_some_iff, Option.some.injEq] at hc
      obtain ⟨x', h1, i', h2, sz, h3, rfl⟩ := hc
      exact absurd rfl hq
    · simp only [Option.bind_eq_bind, Option.pure_def, Option.bind_eq_some_iff, Option.some.injEq] at hc
      obtain ⟨x', h1, i', h2, sz, h3, rfl⟩ := hc
      exact absurd rfl hq
    · cases hc
  · split at hc
    · simp only [Option.bind_eq_bind, Option.pure_def, Option.bind_eq_some_iff] at hc
      obtain ⟨sz, h1, hc⟩ := hc
      split at hc
      · simp only [Option.bind_eq_some_iff, Option.some.injEq] at hc
        obtain ⟨x', h2, i', h3, rfl⟩ := hc
        exact absurd rfl hq
      · split at hc
        · simp only [Option.bind_eq_some_iff, Option.some.injEq] at hc
          obtain ⟨x', h2, i', h3, rfl⟩ := hc
          exact absurd rfl hq
        · cases hc
      · cases hc
    · cases hc
  · simp only [Option.bind_eq_bind, Option.pure_def, Option.bind_eq_some_iff, Option.some.injEq] at hc
    obtain ⟨y, hy, rfl⟩ := hc
    exact absurd rfl hq
  · simp only [Option.map_eq_some_iff] at hc
    obtain ⟨y, hy, rfl⟩ := hc
    exact absurd rfl hq
  · next c ho =>
    obtain ⟨callee, args, ats⟩ := c
    simp only at hc
    split at hc
    · split at hc
      · simp only [Option.bind_eq_bind, Option.pure_def, Option.bind_eq_some_iff, Option.some.injEq] at hc
        obtain ⟨e, h1, y, hy, rfl⟩ := hc
        exact absurd rfl hq
      · cases hc
    · split at hc
      · simp only [Option.bind_eq_bind, Option.pure_def, Option.bind_eq_some_iff, Option.some.injEq] at hc
        obtain ⟨e, h1, y, hy, rfl⟩ := hc
        exact absurd rfl hq
      · cases hc
    · split at hc
      · next x y t u hx ht =>
        split at hc
        · next hin =>
          simp only [Option.bind_eq_bind, Option.pure_def, Option.bind_eq_some_iff] at hc
          obtain ⟨e, h1, sz, h2, zero, h3, by_, h4, hc⟩ := hc
          split at hc
          · next hz =>
            simp only [Option.bind_eq_some_iff, Option.some.injEq] at hc
            obtain ⟨x', h6, y', h7, rfl⟩ := hc
            have e1 : args = #[x, y] := by rw [← Array.toArray_toList (xs := args), hx]
            have e2 : ats = #[t, u] := by rw [← Array.toArray_toList (xs := ats), ht]
            subst e1; subst e2
            exact ef_appz ho h1 hin h2 h3 h4 hz.1 hz.2.1 hz.2.2 h6 h7 hd h g
          · cases hc
        · next hin =>
          simp only [Option.bind_eq_bind, Option.pure_def, Option.bind_eq_some_iff] at hc
          obtain ⟨e, h1, e2, h2, sz, h3, sz2, h4, by_, h5, hc⟩ := hc
          split at hc
          · next hz =>
            simp only [Option.bind_eq_some_iff, Option.some.injEq] at hc
            obtain ⟨x', h6, y', h7, rfl⟩ := hc
            have e1 : args = #[x, y] := by rw [← Array.toArray_toList (xs := args), hx]
            have e2' : ats = #[t, u] := by rw [← Array.toArray_toList (xs := ats), ht]
            subst e1; subst e2'
            obtain ⟨q1, q2, q3, q4⟩ := hz
            obtain ⟨zero, hzero⟩ := Option.isSome_iff_exists.1 q4.1
            obtain ⟨v, hv, hn, _⟩ := zOf_spec hzero
            refine ef_app ⟨⟨t, u, e2, ho, isSlice_spec h1, isSlice_spec h2⟩, h3, h5, q2, q3, v, hv, ?_⟩ h6 h7 hd h g
            rw [hn]
            have := q4.2
            rw [hzero] at this
            simpa using this
          · cases hc
      · cases hc
    · split at hc
      · simp only [Option.bind_eq_bind, Option.pure_def, Option.bind_eq_some_iff, Option.some.injEq] at hc
        obtain ⟨x', h1, y', h2, rfl⟩ := hc
        exact absurd rfl hq
      · cases hc
    · split at hc
      · simp only [Option.bind_eq_bind, Option.pure_def, Option.bind_eq_some_iff, Option.some.injEq] at hc
        obtain ⟨x', h1, y', h2, rfl⟩ := hc
        exact absurd rfl hq
      · cases hc
    · next f =>
      split at hc
      · next fn hfn =>
        split at hc
        · next hb =>
          simp only [Option.bind_eq_bind, Option.pure_def, Option.bind_eq_some_iff, Option.some.injEq] at hc
          obtain ⟨ys, hys, rfl⟩ := hc
          exact ef_call ⟨⟨ats, ho⟩, fn, hfn, hb.1, hb.2⟩ hys hd h g
        · cases hc
      · cases hc
    · next t =>
      simp only [Option.bind_eq_bind, Option.pure_def, Option.bind_eq_some_iff, Option.some.injEq] at hc
      obtain ⟨ys, hys, rfl⟩ := hc
      exact ef_callv (x := .tmp t) (y := .t t) ho rfl hys hd h g
    · cases hc
  · cases hc
theorem opP_sound {i : MI} {K : S → Prop} (hc : cI P o = some i) (hd : ∀ t, o.dst = some t → t < G.nt ∧ ∀ y, ¬ G.T t y) (h : vcI P i.toP o.dst K s) (g : GR G s a w A β γ) : Does i.toP.gr P G a w o K := by
  by_cases hq : ∃ f as, i = .call f as
  · obtain ⟨f, as, rfl⟩ := hq
    have hc : cI0 P o = some (.call f as) := by
      rcases cI_cases hc with hc | hc
      · exfalso
        cases cX_cases hc
      · exact hc
    have hcall : ∃ c, o.op = .call c := by
      unfold cI0 at hc
      split at hc
      all_goals first
        | (next c ho => exact ⟨c, ho⟩; done)
        | (exfalso
           repeat' first
             | (cases hc; done)
             | (split at hc)
             | (obtain ⟨_, _, hc⟩ := hc)
             | (simp only [Option.bind_eq_bind, Option.pure_def, Option.bind_eq_some_iff, Option.map_eq_some_iff] at hc))
    obtain ⟨⟨callee, args, ats⟩, ho⟩ := hcall
    unfold cI0 at hc
    rw [ho] at hc
    simp only at hc
    split at hc
    all_goals first
      | (next f' =>
          split at hc
          · next fn hfn =>
            split at hc
            · next hb =>
              simp only [Option.bind_eq_bind, Option.pure_def, Option.bind_eq_some_iff, Option.some.injEq] at hc
              obtain ⟨ys, hys, hc⟩ := hc
              cases hc
              exact ef_callp ⟨⟨ats, ho⟩, fn, hfn, hb.1, hb.2⟩ hys hd h g
            · cases hc
          · cases hc)
      | (exfalso
         repeat' first
           | (cases hc; done)
           | (split at hc)
           | (obtain ⟨_, _, hc⟩ := hc)
           | (simp only [Option.bind_eq_bind, Option.pure_def, Option.bind_eq_some_iff, Option.map_eq_some_iff] at hc))
  · have e : i.toP = i := by cases i <;> first | rfl | exact absurd ⟨_, _, rfl⟩ hq
    rw [e] at h ⊢
    exact op_sound hc hd h g
end
end Go.Dm
