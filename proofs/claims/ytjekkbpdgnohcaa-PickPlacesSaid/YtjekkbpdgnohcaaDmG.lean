/-
  A logic for Go functions over plain data, part G: slice literals, stores, append.
-/
import Derived.Test.YtjekkbpdgnohcaaDmF
set_option linter.unusedSimpArgs false
set_option linter.unusedVariables false
namespace Go.Dm
open Go.RowKit
section
variable {P : Program} {G : Gh} {s : S} {a : Act} {w : World} {A : Nat → Prop} {β : Nat → Option Nat} {γ : Nat → Option (Nat × List Nat)} {o : Oper}
theorem fill_rows (g : GR G s a w A β γ) {sz : Nat} : ∀ (l : List (Nat × Operand)) (ys : List O) (i0 : Nat) (cells : Array Value),
    (l.mapM fun p => cO p.2) = some ys → l.map (·.1) = List.range' i0 l.length → (∀ y, y ∈ ys → (s.g y).cells.length = sz ∧ (s.g y).cells.all D.one = true) → (i0 + l.length) * sz ≤ cells.size →
    ∃ cs, Instr.fill (fun i => some (i * sz, sz)) cells (l.map fun p => (p.1, a.eval p.2)) = some cs ∧ cs.size = cells.size ∧ (∀ m, m < i0 * sz → cs.getD m undef = cells.getD m undef) ∧
      ys.length = l.length ∧ ∀ i j, i < l.length → j < sz → DR w A β s.N ((s.g (ys.getD i default)).cells.getD j .junk) (cs.getD ((i0 + i) * sz + j) undef)
  | [], ys, i0, cells, h, _, _, _ => by
    simp at h; subst h
    exact ⟨cells, rfl, rfl, fun _ _ => rfl, rfl, fun i j hi => by simp at hi⟩
  | (k, x) :: l, ys, i0, cells, h, hf, hy, hsz => by
    simp only [List.mapM_cons, Option.bind_eq_bind, Option.pure_def, Option.bind_eq_some_iff] at h
    obtain ⟨y, hx, ys', hys, h⟩ := h
    cases h
    simp only [List.map_cons, List.length_cons, List.range'_succ, List.cons.injEq] at hf
    obtain ⟨rfl, hf⟩ := hf
    obtain ⟨c1, c2⟩ := hy y (by simp)
    have ev := g.evalO hx
    obtain ⟨d1, d2⟩ := dr_cells ev c2
    simp only [List.length_cons] at hsz
    have hmul : (k + (l.length + 1)) * sz = k * sz + sz + l.length * sz := by rw [Nat.add_mul, Nat.add_mul]; omega
    have hmul2 : (k + 1 + l.length) * sz = k * sz + sz + l.length * sz := by rw [Nat.add_mul, Nat.add_mul]; omega
    have hv : (a.eval x).cells.size = sz := by rw [d1, c1]
    have hstep : ((a.eval x).cells.zipIdx.foldl (fun cs (c, j) => cs.setIfInBounds (k * sz + j) c) cells) = (((a.eval x).cells.toList.zipIdx 0).foldl (fun cs (x : Value × Nat) => cs.setIfInBounds (k * sz + x.2) x.1) cells) := by
      rw [← Array.foldl_toList, Array.toList_zipIdx]
    obtain ⟨cs, r1, r2, r3, r4, r5⟩ := fill_rows g l ys' (k + 1) ((a.eval x).cells.zipIdx.foldl (fun cs (c, j) => cs.setIfInBounds (k * sz + j) c) cells) hys hf (fun y h => hy y (by simp [h])) (by rw [hstep, foldl_size]; omega)
    have hget : ∀ m, ((a.eval x).cells.zipIdx.foldl (fun cs (c, j) => cs.setIfInBounds (k * sz + j) c) cells).getD m undef = if k * sz ≤ m ∧ m < k * sz + sz then (a.eval x).cells.toList.getD (m - k * sz) undef else cells.getD m undef := by
      intro m
      rw [hstep, foldl_get _ _ _ _ _ (by simp [hv]; omega)]
      simp only [Nat.add_zero, Array.length_toList, hv]
    refine ⟨cs, ?_, by rw [r2, hstep, foldl_size], fun m hm => ?_, by simp [r4], fun i j hi hj => ?_⟩
    · simp only [List.map_cons, Instr.fill, hv]
      rw [if_neg (by simp; omega)]
      exact r1
    · rw [r3 m (by rw [Nat.add_mul]; omega), hget, if_neg (by omega)]
    · cases i with
      | zero =>
        have e1 : (k + 0) * sz + j < (k + 1) * sz := by rw [Nat.add_zero, Nat.add_mul]; omega
        rw [r3 _ e1, hget, if_pos (by simp; omega)]
        have := (d2 j (by rw [c1]; exact hj)).1
        have e2 : (a.eval x).cells.toList.getD ((k + 0) * sz + j - k * sz) undef = (a.eval x).cells.getD j undef := by
          rw [Nat.add_zero, Nat.add_sub_cancel_left]; simp [List.getD, Array.getD_eq_getD_getElem?]
        rw [e2]; simpa using this
      | succ i =>
        have := r5 i j (by simpa using hi) hj
        rw [show k + (i + 1) = k + 1 + i by omega]
        simpa using this
theorem ef_bsl {gr : Bool} {t e : TypeId} {len sz : Nat} {parts : Array (Nat × Operand)} {ys : List O} {K : S → Prop} (ho : o.op = .buildSlice t len parts) (ht : isSlice P t = some e) (hs : szOf P e = some sz) (hz : ∃ z, (P.info? e).bind (·.zero) = some z)
    (hp : parts.toList.map (·.1) = List.range len) (hl : len * sz ≤ 2 ^ 24) (hys : (parts.toList.mapM fun p => cO p.2) = some ys) (hd : ∀ t, o.dst = some t → t < G.nt ∧ ∀ y, ¬ G.T t y)
    (h : kRows s o.dst sz true K (ys.map fun y => (s.g y).cells)) (g : GR G s a w A β γ) : Does gr P G a w o K := by
  obtain ⟨h1, hk⟩ := h
  simp only [if_true] at hk
  have hrow : ∀ y, y ∈ ys → (s.g y).cells.length = sz ∧ (s.g y).cells.all D.one = true := by
    intro y hy
    have := List.all_eq_true.1 h1 _ (List.mem_map.2 ⟨y, hy, rfl⟩)
    simpa using this
  have hlen : parts.toList.length = len := by have := congrArg List.length hp; simpa using this
  obtain ⟨z, hz⟩ := hz
  have hzr : ∀ w', (zeroValue e).run P w' = .ok z w' := by
    intro w'
    rw [Option.bind_eq_some_iff] at hz
    obtain ⟨ti, h1, h2⟩ := hz
    simp [zeroValue, typeInfo, h1, h2]
  let base : Array Value := (Array.range (len * sz)).map fun i => (if len * sz = 0 then (#[] : Array Value) else z.cells)[i % (if len * sz = 0 then (#[] : Array Value) else z.cells).size]!
  obtain ⟨cs, r1, r2, _, r4, r5⟩ := fill_rows g parts.toList ys 0 base hys (by rw [hp, hlen, List.range_eq_range']) hrow (by simp [base, hlen])
  have e2 : (parts.map fun x => (x.1, a.eval x.2)).toList = parts.toList.map fun p => (p.1, a.eval p.2) := by simp
  have hu := isSlice_spec ht
  have hrun : (execOp a.eval o).run P w = .ok (.value (.slice (some ⟨w.heap.size, 0, none⟩) len len)) (w.alloc (.cells cs e)) := by
    by_cases h0 : len * sz = 0
    · simp only [base, h0, if_true] at r1
      simp only [execOp, ho, Instr.buildSlice, Sem.run_bind, und_run hu, Result.andThen_ok, szOf_spec hs, h0, if_true, Sem.run_pure, e2, Sem.run_ite]
      simp only [show ¬ (0 : Nat) > 2 ^ 24 by omega, if_false, r1]
      simp [newRow]
    · simp only [base, h0, if_false] at r1
      simp only [execOp, ho, Instr.buildSlice, Sem.run_bind, und_run hu, Result.andThen_ok, szOf_spec hs, h0, if_false, Sem.run_pure, e2, Sem.run_ite, hzr]
      simp only [show ¬ (len * sz > 2 ^ 24) by omega, if_false, r1]
      simp [newRow]
  have hcs : cs.size = len * sz := by rw [r2]; simp [base]
  have hyl : ys.length = len := by rw [r4, hlen]
  refine Does.valueG (fun _ => same_alloc w _) hrun hk (newt_rows g hd (Below.refl _ _) rfl (by simp [hcs, hyl]) (fun i hi => ?_) (fun i j hi hj => ?_) (fun β' eb => ?_))
  · simp only [List.length_map] at hi
    have := (hrow (ys.getD i default) (by simp [List.getD, hi])).1
    simpa [List.getD, hi] using this
  · simp only [List.length_map] at hi
    have h3 := r5 i j (by rw [hlen, ← hyl]; exact hi) hj
    have e3 : (ys.map fun y => (s.g y).cells).getD i [] = (s.g (ys.getD i default)).cells := by simp [List.getD, hi]
    simp only [e3]
    rw [Nat.zero_add] at h3
    have hj' : j < (s.g (ys.getD i default)).cells.length := by rw [(hrow (ys.getD i default) (by simp [List.getD, hi])).1]; exact hj
    refine ⟨h3, fun hf => dr_cl h3 ?_, dr_one h3 (List.all_eq_true.1 (hrow (ys.getD i default) (by simp [List.getD, hi])).2 _ (getD_mem hj'))⟩
    have h4 := List.all_eq_true.1 hf _ (List.mem_map.2 ⟨ys.getD i default, by simp [List.getD, hi], rfl⟩)
    exact List.all_eq_true.1 h4 _ (getD_mem hj')
  · have := DR.ref (w := w.alloc (.cells cs e)) (A := A) s.N sz 0 len len w.heap.size cs _ (Nat.lt_succ_self _) eb (Nat.le_refl _) (heap_new _ _) (by simp [hcs])
    simpa [hyl] using this
theorem Shp.setRow {w : World} {b : Nat} {arr arr' : Array Value} {T : TypeId} (hh : w.heap[b]? = some (.cells arr T (0, 0))) (hs : arr'.size = arr.size) : Shp w (w.setRow b arr') := by
  intro c x U hc
  by_cases e : c = b
  · subst e
    rw [hh] at hc; cases hc
    exact ⟨arr', setRow_heap w c arr arr' T (0, 0) hh, hs⟩
  · exact ⟨x, by rw [setRow_other w b c arr' e]; exact hc, rfl⟩
theorem Bel.setRow {O : Nat → Prop} {w w0 : World} (h : Bel O w0 w) {b : Nat} (hb : w0.heap.size ≤ b ∨ O b) (arr : Array Value) (hs : Shp w (w.setRow b arr)) : Bel O w0 (w.setRow b arr) := by
  refine ⟨h.os, h.tape, h.output, by rw [setRow_size]; exact h.size, fun k hk hn => ?_, h.shp.trans hs⟩
  have : k ≠ b := by
    rintro rfl
    rcases hb with h' | h'
    · omega
    · exact hn h'
  rw [setRow_other w b k arr this]; exact h.block k hk hn
theorem GR.reset (g : GR G s a w A β γ) {τ b : Nat} {ob ob' : Ob} (hτ : τ < s.N) (hM : s.M τ = some ob) (hkd : ob'.kd = ob.kd) (hk : ob.kd.isMap = false) (hβ : β τ = some b) {arr arr' : Array Value} {T : TypeId} (hh : w.heap[b]? = some (.cells arr T (0, 0))) (hs : arr'.size = arr.size)
    (hl : ob'.es.length * ob'.sz ≤ arr.size) (he : ∀ i, i < ob'.es.length → (ob'.es.getD i []).length = ob'.sz) (how : ob'.ow = false → ∀ i j, i < ob'.es.length → j < ob'.sz → ((ob'.es.getD i []).getD j .junk).isOwn = false)
    (hr : ∀ i j, i < ob'.es.length → j < ob'.sz → CDR ob'.flat w A β γ s.N τ [i * ob'.sz + j] ((ob'.es.getD i []).getD j .junk) (arr'.getD (i * ob'.sz + j) undef)) : GR G (s.setM τ ob') a (w.setRow b arr') A β γ := by
  have hMn : s.M τ ≠ none := by rw [hM]; simp
  have hroot := g.hr.root τ b hτ hMn hβ
  obtain ⟨_, hbA, hbO, _⟩ := g.hr.own b τ [] hroot hτ hMn
  have hvis : Vis w (w.setRow b arr') := Vis.cells hh (setRow_heap w b arr arr' T (0, 0) hh) (fun c e => setRow_other w b c arr' e)
  have hA : ∀ c, A c → (w.setRow b arr').heap[c]? = w.heap[c]? := fun c hc => setRow_other w b c arr' (fun e => hbA (e ▸ hc))
  have hsh := Shp.setRow hh hs
  have hMs : ∀ σ, (s.setM τ ob').M σ = if σ = τ then some ob' else s.M σ := fun _ => rfl
  have live : ∀ σ, (s.setM τ ob').M σ ≠ none → s.M σ ≠ none := fun σ h => by
    rw [hMs] at h
    by_cases e : σ = τ
    · rw [e]; exact hMn
    · rwa [if_neg e] at h
  have hown : ∀ σ c π, π ≠ [] → γ c = some (σ, π) → (w.setRow b arr').heap[c]? = w.heap[c]? ∧ γ c = some (σ, π) := fun σ c π hp hc => ⟨setRow_other w b c arr' (fun e => by
    rw [e, hroot] at hc; simp only [Option.some.injEq, Prod.mk.injEq] at hc; exact hp hc.2.symm), hc⟩
  refine ⟨g.size, Mz.vis g.defers hvis, ⟨Bel.setRow g.hr.below hbO arr' hsh, g.hr.sub, g.hr.up, fun c hc => by rw [setRow_size]; exact g.hr.low c hc, fun σ ob hσ hm => ?_, fun c σ π h1 h2 h3 => let q := g.hr.own c σ π h1 h2 (live σ h3); ⟨by rw [setRow_size]; exact q.1, q.2.1, q.2.2.1, hvis.noth q.1 q.2.2.2⟩, fun σ c h1 h2 h3 => g.hr.root σ c h1 (live σ h2) h3, g.hr.ge, g.hr.flt, fun σ hF => ⟨(g.hr.fixd σ hF).1, fun ob hm => ?_⟩⟩,
    fun t => (g.slots t).mono hA (fun _ h => h) hsh (Nat.le_refl _) (fun _ _ => rfl), fun t d ht => (g.keep t d ht).mono hA (fun _ h => h) (fun τ h => ⟨h, rfl⟩)⟩
  · rw [hMs] at hm
    by_cases e : σ = τ
    · subst e
      rw [if_pos rfl] at hm; cases hm
      refine ⟨he, how, .inr ⟨b, _, fun i j => arr'.getD (i * ob'.sz + j) undef, hβ, setRow_heap w b arr arr' T (0, 0) hh, ?_, fun i j hi hj => (hr i j hi hj).mono (by simp) hA (fun _ h => h) hsh (Nat.le_refl _) (fun _ _ => rfl) (hown σ)⟩⟩
      rw [hkd]
      cases hkd2 : ob.kd with
      | map k ka va => rw [hkd2] at hk; cases hk
      | arr => exact ⟨arr', T, rfl, by omega, fun _ _ _ _ => rfl⟩
      | fix => exact ⟨arr', T, rfl, by omega, fun _ _ _ _ => rfl⟩
    · rw [if_neg e] at hm
      refine (g.hr.objs σ ob hσ hm).mono hσ hA (fun _ h => h) hsh (Nat.le_refl _) (fun _ _ => rfl) (hown σ) (fun c hc => setRow_other w b c arr' ?_)
      rintro rfl
      have := g.hr.root σ c hσ (by rw [hm]; simp) hc
      rw [hroot] at this; simp only [Option.some.injEq, Prod.mk.injEq] at this
      exact e this.1.symm
  · rw [hMs] at hm
    by_cases e : σ = τ
    · subst e; rw [if_pos rfl] at hm; cases hm
      rw [hkd]; exact (g.hr.fixd σ hF).2 _ hM
    · rw [if_neg e] at hm; exact (g.hr.fixd σ hF).2 ob hm
theorem set_getD {α : Type} (l : List α) (i j : Nat) (x d : α) : (l.set i x).getD j d = if i = j ∧ i < l.length then x else l.getD j d := by
  simp only [List.getD_eq_getElem?_getD, List.getElem?_set]
  by_cases h : i = j
  · subst h
    by_cases h2 : i < l.length
    · simp [h2]
    · simp [h2]
  · simp [h]
theorem wr_get (arr : Array Value) (off : Nat) (vs : List Value) (m : Nat) (h : off + vs.length ≤ arr.size) :
    (arr.toList.take off ++ vs ++ arr.toList.drop (off + vs.length)).toArray.getD m undef = if off ≤ m ∧ m < off + vs.length then vs.getD (m - off) undef else arr.getD m undef := by
  have htl : (arr.toList.take off).length = off := by rw [List.length_take, Array.length_toList]; omega
  have e : ∀ (l : List Value), l.toArray.getD m undef = l.getD m undef := fun l => by simp [List.getD, Array.getD_eq_getD_getElem?]
  have e' : arr.getD m undef = arr.toList.getD m undef := by simp [List.getD, Array.getD_eq_getD_getElem?]
  rw [e, e']
  simp only [List.getD_eq_getElem?_getD]
  by_cases h1 : m < off
  · rw [if_neg (by omega), List.getElem?_append_left (by simp only [List.length_append, htl]; omega), List.getElem?_append_left (by omega), List.getElem?_take, if_pos h1]
  · by_cases h2 : m < off + vs.length
    · rw [if_pos ⟨by omega, h2⟩, List.getElem?_append_left (by simp only [List.length_append, htl]; omega), List.getElem?_append_right (by omega), htl]
    · rw [if_neg (by omega), List.getElem?_append_right (by simp only [List.length_append, htl]; omega), List.getElem?_drop]
      congr 2; simp only [List.length_append, htl]; omega
theorem wr_size (arr : Array Value) (off : Nat) (vs : List Value) (h : off + vs.length ≤ arr.size) : (arr.toList.take off ++ vs ++ arr.toList.drop (off + vs.length)).toArray.size = arr.size := by
  simp only [List.size_toArray, List.length_append, List.length_take, List.length_drop, Array.length_toList]; omega
theorem ef_store {t : TypeId} {x y : Operand} {y' : O} {n : Nat} {τ z i o' : Nat} {ob : Ob} {K : S → Prop} {fl : Bool} (ho : o.op = .store t x y) (hn : szOf P t = some n) (hy : cO y = some y') (ex : DR w A β s.N (.ptr τ z i o') (a.eval x))
    (hM : s.M τ = some ob) (hkm : ob.kd.isMap = false) (h1 : ob.sz = z) (h2 : i < ob.es.length) (h3 : o' + n ≤ z) (h4 : (s.g y').cells.length = n) (h5 : (s.g y').cells.all D.one = true) (hfl : fl = true → ob.flat = true ∧ (s.g y').cells.all D.cl = true)
    (hd : ∀ t, o.dst = some t → t < G.nt ∧ ∀ y, ¬ G.T t y) (hk : K ((s.setM τ ⟨z, ob.es.set i (splice (ob.es.getD i []) o' (s.g y').cells), fl, ob.ow, ob.kd⟩).put o.dst .junk)) (g : GR G s a w A β γ) : Does false P G a w o K := by
  have ev := g.evalO hy
  obtain ⟨c1, c2⟩ := dr_cells ev h5
  generalize hvx : a.eval x = v at ex
  cases ex with
  | cl d x h' => cases h'
  | ptr τ sz' i0 o0 b hN hb =>
    obtain ⟨arr, T, hh, hl, hr⟩ := g.hr.cells hN hM hkm hb
    have he := (g.hr.objs τ ob hN hM).1
    have how := (g.hr.objs τ ob hN hM).2.1
    subst h1
    have hvl : (a.eval y).cells.toList.length = n := by rw [Array.length_toList, c1, h4]
    have hfit : i * ob.sz + o' + (a.eval y).cells.toList.length ≤ arr.size := by
      have : (i + 1) * ob.sz ≤ ob.es.length * ob.sz := Nat.mul_le_mul_right _ h2
      rw [Nat.add_mul] at this; omega
    have hone : ∀ u, u ∈ (a.eval y).cells.toList → u.oneCell' = true := by
      intro u hu
      obtain ⟨j, hj, rfl⟩ := List.mem_iff_getElem.1 hu
      have hj' : j < (a.eval y).cells.size := by simpa using hj
      have := (c2 j (by rw [← c1]; exact hj')).2
      simpa [hj'] using this
    have hst := run_storeCells_at (P := P) b (i * ob.sz + o') T (a.eval y).cells.toList 0 arr w hh (by simpa using hfit) hone
    simp only [Nat.add_zero] at hst
    have hsz2 : (a.eval y).cells.size = n := by rw [c1, h4]
    have hrun : (execOp a.eval o).run P w = .ok .skip (w.setRow b (arr.toList.take (i * ob.sz + o') ++ (a.eval y).cells.toList ++ arr.toList.drop (i * ob.sz + o' + (a.eval y).cells.toList.length)).toArray) := by
      simp only [execOp, ho, Instr.storeAt, Instr.sureAddr, hvx, storeVar, Sem.run_bind, Sem.run_pure, Result.andThen_ok, szOf_spec hn, hsz2, ne_eq, not_true, if_false]
      rw [hst]; rfl
    have hnew : ∀ j, o' ≤ j → j < o' + n → DR w A β s.N ((s.g y').cells.getD (j - o') .junk) ((a.eval y).cells.getD (j - o') undef) ∧ ((a.eval y).cells.getD (j - o') undef).oneCell' = true := fun j h6 h7 => c2 (j - o') (by rw [h4]; omega)
    refine Does.skip hrun hk ⟨A, β, γ, GR.put (GR.reset g (ob' := ⟨ob.sz, ob.es.set i (splice (ob.es.getD i []) o' (s.g y').cells), fl, ob.ow, ob.kd⟩) hN hM rfl hkm hb hh (wr_size arr _ _ hfit) (by simpa using hl) (fun i' hi' => ?_) (fun hw i' j hi' hj => ?_) (fun i' j hi' hj => ?_)) DR.junk hd⟩
    · simp only [List.length_set] at hi'
      rw [set_getD]
      by_cases e : i = i' ∧ i < ob.es.length
      · rw [if_pos e, splice_len (by rw [he i h2, h4]; exact h3)]; exact he i h2
      · rw [if_neg e]; exact he i' hi'
    · simp only [List.length_set] at hi'
      simp only at hj hw
      dsimp only
      rw [set_getD]
      by_cases e : i = i' ∧ i < ob.es.length
      · obtain ⟨rfl, _⟩ := e
        rw [if_pos ⟨rfl, h2⟩, splice_get (by rw [he i h2, h4]; exact h3)]
        rw [h4]
        by_cases e2 : o' ≤ j ∧ j < o' + n
        · rw [if_pos e2]; exact dr_no (hnew j e2.1 e2.2).1
        · rw [if_neg e2]; exact how hw i j h2 hj
      · rw [if_neg e]; exact how hw i' j hi' hj
    · simp only [List.length_set] at hi'
      simp only at hj
      dsimp only
      rw [set_getD, wr_get arr _ _ _ hfit]
      by_cases e : i = i' ∧ i < ob.es.length
      · obtain ⟨rfl, _⟩ := e
        rw [if_pos ⟨rfl, h2⟩, splice_get (by rw [he i h2, h4]; exact h3)]
        rw [hvl, h4]
        by_cases e2 : o' ≤ j ∧ j < o' + n
        · rw [if_pos e2, if_pos (by omega)]
          obtain ⟨h6, h7⟩ := hnew j e2.1 e2.2
          have e3 : (a.eval y).cells.toList.getD (i * ob.sz + j - (i * ob.sz + o')) undef = (a.eval y).cells.getD (j - o') undef := by
            rw [show i * ob.sz + j - (i * ob.sz + o') = j - o' by omega]; simp [List.getD, Array.getD_eq_getD_getElem?]
          rw [e3]
          refine ⟨fun _ => h6, fun hf => ?_, h7⟩
          rcases hf with hf | hf
          · exact .cr _ _ _ (dr_cl h6 (all_getD (hfl hf).2 (by rw [h4]; omega)))
          · rw [dr_no h6] at hf; cases hf
        · rw [if_neg e2, if_neg (by omega)]
          obtain ⟨q1, q2, q3⟩ := hr i j h2 hj
          exact ⟨q1, fun hf => q2 (hf.imp (fun h => (hfl h).1) id), q3⟩
      · rw [if_neg e, if_neg (by
          intro h7
          have hne : i ≠ i' := fun e' => e ⟨e', h2⟩
          rw [hvl] at h7
          rcases Nat.lt_or_gt_of_ne hne with h8 | h8
          · have : (i + 1) * ob.sz ≤ i' * ob.sz := Nat.mul_le_mul_right _ h8
            rw [Nat.add_mul] at this; omega
          · have : (i' + 1) * ob.sz ≤ i * ob.sz := Nat.mul_le_mul_right _ h8
            rw [Nat.add_mul] at this; omega)]
        obtain ⟨q1, q2, q3⟩ := hr i' j hi' hj
        exact ⟨q1, fun hf => q2 (hf.imp (fun h => (hfl h).1) id), q3⟩
theorem splice_one {l : List D} {o' : Nat} {d : D} (h : o' < l.length) : splice l o' [d] = l.set o' d := by
  simp [splice, List.set_eq_take_append_cons_drop, h]
theorem ef_st1 {t : TypeId} {x y : Operand} {x' y' : O} {K : S → Prop} (ho : o.op = .store t x y) (hn : szOf P t = some 1) (hx : cO x = some x') (hy : cO y = some y') (hd : ∀ t, o.dst = some t → t < G.nt ∧ ∀ y, ¬ G.T t y)
    (h : kSt s o.dst K (s.g x') (s.g y')) (g : GR G s a w A β γ) : Does false P G a w o K := by
  have ex := g.evalO hx
  unfold kSt at h
  split at h
  · next τ z i o' hp =>
    rw [hp] at ex
    unfold kM at h
    split at h
    · next ob hM =>
      obtain ⟨⟨h1, h2, h3, h4, hkm⟩, hk⟩ := h
      have e : (s.g y').cells = [s.g y'] := by
        cases hy' : s.g y' <;> first | rfl | (rw [hy'] at h4; simp [D.one] at h4)
      have hN : τ < s.N := by
        generalize a.eval x = v at ex
        cases ex with
        | cl d x h' => cases h'
        | ptr => assumption
      have hlen : (ob.es.getD i []).length = z := by rw [(g.hr.objs τ ob hN hM).1 i h2, h1]
      refine ef_store (fl := ob.flat && (s.g y').cl) ho hn hy ex hM hkm h1 h2 (by omega) (by rw [e]; rfl) (by rw [e]; simpa using h4) (fun hf => ?_) hd ?_ g
      · rw [Bool.and_eq_true] at hf; rw [e]; simpa using hf
      · rw [e, splice_one (by rw [hlen]; exact h3)]; exact hk
    · exact h.elim
  · exact h.elim
theorem ef_stn {t : TypeId} {x y : Operand} {x' y' : O} {n : Nat} {K : S → Prop} (ho : o.op = .store t x y) (hn : szOf P t = some n) (hx : cO x = some x') (hy : cO y = some y') (hd : ∀ t, o.dst = some t → t < G.nt ∧ ∀ y, ¬ G.T t y)
    (h : kStn s o.dst n K (s.g x') (s.g y')) (g : GR G s a w A β γ) : Does false P G a w o K := by
  have ex := g.evalO hx
  unfold kStn at h
  split at h
  · next τ z i o' ds hp hq =>
    rw [hp] at ex
    unfold kM at h
    split at h
    · next ob hM =>
      obtain ⟨⟨h1, h2, h3, h4, h5, hkm⟩, hk⟩ := h
      refine ef_store (fl := ob.flat && ds.all D.cl) ho hn hy ex hM hkm h1 h2 h3 (by rw [hq]; exact h4) (by rw [hq]; exact h5) (fun hf => ?_) hd (by rw [hq]; exact hk) g
      rw [Bool.and_eq_true] at hf; rw [hq]; exact hf
    · exact h.elim
  · exact h.elim
end
end Go.Dm
